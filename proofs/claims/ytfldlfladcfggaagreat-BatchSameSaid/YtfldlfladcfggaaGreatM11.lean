/- Lemmas of the walks, merged and pressed by press.py. Conditions: those of each theorem. -/
import Derived.Test.YtfldlfladcfggaaGreatM10
set_option maxRecDepth 100000
set_option maxHeartbeats 64000000
set_option linter.all false
namespace Go.Proofs.YtfldlfladcfggaaGreat
section
open Go.RowKit Go.Shelf
attribute [local go_sem] Oper.semAt_some
def zq5 (st:List PO × List (Int × Int)) (o:PO):List PO × List (Int × Int):=
 if o.plain56 then (if zsG o st.2 o.spots.length then st.1 else st.1++ [o],o.spots.reverse++st.2) else (st.1++ [o], [])
theorem zrw:∀l:List PO,l.reverse.foldl zq5 ([], [])=((z6 l).reverse,sqS l)
 | []=> rfl
 | o ::t=> by
   rw [List.reverse_cons,List.foldl_append,zrw t,List.foldl_cons,List.foldl_nil];have e1:z6 (o::t)=if o.idle t then z6 t else o::z6 t:=rfl;have e2:sqS (o::t)=if o.plain56 then o.spots.reverse++sqS t else []:=rfl;rw [e1,e2];unfold zq5
   cases hp:o.plain56 with
   | false=>
     have:o.idle t=false:=by unfold PO.idle;rw [hp];rfl
     rw [this,if_neg (by decide),if_neg (by decide),if_neg (by decide),List.reverse_cons]
   | true=>
     rw [zsg o t hp,if_pos rfl,if_pos rfl]
     cases zsG o (sqS t) o.spots.length with
     | true=> rfl
     | false=> simp only [Bool.false_eq_true,if_false,List.reverse_cons]
theorem zsr (st:List PO × List (Int × Int)) (o:PO):(zq5 st o).1.length≤st.1.length+1∧(zq5 st o).2.length≤st.2.length+32:=by
 unfold zq5
 cases hp:o.plain56 with
 | false=> simp
 | true=>
   have:=zrs hp;have e:o.spots.length=o.blocks.length:=by simp [PO.spots]
   rw [if_pos rfl]
   constructor
   ·simp only
    split <;> simp
   ·simp only [List.length_append,List.length_reverse];omega
theorem zsq (l:List PO):∀st:List PO × List (Int × Int),(l.foldl zq5 st).1.length≤st.1.length+l.length∧(l.foldl zq5 st).2.length≤st.2.length+l.length * 32:=by
 induction l with
 | nil=> intro st;simp
 | cons o l ih=>
   intro st;have h1:=ih (zq5 st o);have h2:=zsr st o;simp only [List.foldl_cons,List.length_cons]
   omega
def zrv {N:Nat} (E:Nat→PO) (pre:List {j:Nat // j < N}):List PO × List (Int × Int):=(pre.map fun x=> E x.1).foldl zq5 ([], [])
theorem zsE {N:Nat} (E:Nat→PO) (pre:List {j:Nat // j < N}) (x:{j:Nat // j < N}):zrv E (pre++ [x])=zq5 (zrv E pre) (E x.1):=by simp [zrv]
theorem zsS {N:Nat} (E:Nat→PO) (pre:List {j:Nat // j < N}):(zrv E pre).1.length≤pre.length∧(zrv E pre).2.length≤pre.length * 32:=by
 have:=zsq (pre.map fun x=> E x.1) ([], [])
 simpa [zrv] using this
theorem zsR (l:List PO) (ys:List {j:Nat // j < l.length}) (h:ys.map (·.1)=(List.range l.length).reverse):zrv (fun j=> l.getD j PO.zero) ys=((z6 l).reverse,sqS l):=by
 rw [← zrw];unfold zrv
 congr 1
 have e:(ys.map fun x=> l.getD x.1 PO.zero)=(ys.map (·.1)).map fun j=> l.getD j PO.zero:=by rw [List.map_map];rfl
 rw [e,h,List.map_reverse]
 congr 1
 apply List.ext_getElem
 ·simp
 ·intro i h1 h2;simp [List.getD,h2]
theorem Ops.rowed2 {w:World} {a:Option Addr} {n:Nat} {l:List PO} (h:Ops w a n l):∃(E:Nat→PO) (DA MA:Nat→Option Addr) (DC MC:Nat→Nat),E=(fun j=> l.getD j PO.zero)∧
 (∀j,j < n→Bs w (DA j) (E j).d.length (E j).d∧Is .i64 w (MA j) (E j).m.length (E j).m)∧zrA w a n E (fun j=> .slice (DA j) (E j).d.length (DC j)) (fun j=> .slice (MA j) (E j).m.length (MC j)):=by
 obtain ⟨D,M,K8,Ah⟩:=h.rowed;have yA:∀j,∃q:(Option Addr × Option Addr) × Nat × Nat,j < n→D j= .slice q.1.1 (l.getD j PO.zero).d.length q.2.1∧M j= .slice q.1.2 (l.getD j PO.zero).m.length q.2.2∧Bs w q.1.1 (l.getD j PO.zero).d.length (l.getD j PO.zero).d∧Is .i64 w q.1.2 (l.getD j PO.zero).m.length (l.getD j PO.zero).m:=by
  intro j
  by_cases hj:j < n
  ·obtain ⟨da,dc,ma,mc,h1,h2,h3,h4⟩:=K8 j hj;exact ⟨((da,ma),dc,mc),fun _=> ⟨h1,h2,h3,h4⟩⟩
  ·exact ⟨((none,none),0,0),fun h=> absurd h hj⟩
 obtain ⟨f,hf⟩:=Classical.axiomOfChoice yA;refine ⟨fun j=> l.getD j PO.zero,fun j=> (f j).1.1,fun j=> (f j).1.2,fun j=> (f j).2.1,fun j=> (f j).2.2,rfl,fun j hj=> (hf j hj).2.2,fun j hj=> ?_⟩;obtain ⟨b,p,ha,hc⟩:=Ah j hj;refine ⟨b,p,ha,fun i x hx=> hc i x ?_⟩;rw [(hf j hj).1,(hf j hj).2.1];exact hx
theorem zrx (a:Option Addr) (n c:Nat) (l:List PO) (w:World) (h:Ops w a n l) (hn:n≤1000) (D7:∀o ∈ l,o.m.length≤1000000000):
 Calls Tryz.prog 6 #[.slice a n c] w fun e w'=> ∃v,e= .returned v∧z7 w' w.heap.size v (z6 l)∧Below w.heap.size w w':=by
 obtain ⟨E,DA,MA,DC,MC,hE,K8,Ah⟩:=h.rowed2;have hl:=h.1;subst hl;have Yz:0 < l.length→∀x,a=some x→x.block < w.heap.size:=fun h0 x hx=> Ah.lt h0 x hx;have bo:∀j,j < l.length→(E j).m.length≤1000000000:=fun j hj=> by
  rw [hE];refine D7 _ ?_;simp [List.getD,hj]
 have HV:=zh K8;have HM:=zh bo;have HR:=zh Ah;have HE:=zh hE;clear h K8 Ah D7 hE bo;have Tw:=@run_makeMap Tryz.prog;refine (callsIn_wide (n:=6)).1 ?_;refine callsIn_of_wp_marks Tryz.func6 rfl trivial ?_ rfl;simp only [Tryz.ntmps6,List.size_toArray,List.length_cons,List.length_nil,Nat.reduceAdd,Nat.reduceSub,Array.replicate_succ,Array.replicate_zero,List.push_toArray,List.append_toArray,List.nil_append,List.cons_append];refine wpIn_wide.2 ?_;go_wp2_with fail;refine (zrm _ _ _ _).mono ?_;rintro e w5 ⟨rfl,rfl⟩;go_wp2_with fail;have q1:Boxed ((((w.alloc (.cells #[.slice none 0 0] 22)).alloc (.map #[] 0)).alloc (.cells #[.map (some (w.heap.size+1))] 64)).alloc (.cells #[.slice a l.length c] 22)) w.heap.size 22 (.slice none 0 0):=(((Boxed.new w 22 _).alloc _).alloc _).alloc _;have q2:zlp ((((w.alloc (.cells #[.slice none 0 0] 22)).alloc (.map #[] 0)).alloc (.cells #[.map (some (w.heap.size+1))] 64)).alloc (.cells #[.slice a l.length c] 22)) (w.heap.size+1) []:=by
  have:=((zlp.made (w.alloc (.cells #[.slice none 0 0] 22))).kept (World.grownBy_alloc _ (.cells #[.map (some (w.heap.size+1))] 64) none) (by simp)).kept (World.grownBy_alloc _ (.cells #[.slice a l.length c] 22) none) (by simp)
  simpa using this
 have q3:Boxed ((((w.alloc (.cells #[.slice none 0 0] 22)).alloc (.map #[] 0)).alloc (.cells #[.map (some (w.heap.size+1))] 64)).alloc (.cells #[.slice a l.length c] 22)) (w.heap.size+1+1) 64 (.map (some (w.heap.size+1))):=by
  have:=(Boxed.new ((w.alloc (.cells #[.slice none 0 0] 22)).alloc (.map #[] 0)) 64 (.map (some (w.heap.size+1)))).alloc (.cells #[.slice a l.length c] 22)
  simpa using this
 have q4:Boxed ((((w.alloc (.cells #[.slice none 0 0] 22)).alloc (.map #[] 0)).alloc (.cells #[.map (some (w.heap.size+1))] 64)).alloc (.cells #[.slice a l.length c] 22)) (w.heap.size+1+1+1) 22 (.slice a l.length c):=by
  have:=Boxed.new (((w.alloc (.cells #[.slice none 0 0] 22)).alloc (.map #[] 0)).alloc (.cells #[.map (some (w.heap.size+1))] 64)) 22 (.slice a l.length c)
  simpa using this
 have Ar:Below w.heap.size w ((((w.alloc (.cells #[.slice none 0 0] 22)).alloc (.map #[] 0)).alloc (.cells #[.map (some (w.heap.size+1))] 64)).alloc (.cells #[.slice a l.length c] 22)):=((((Below.refl _ w).alloc zl _).alloc (by simp) _).alloc (by simp;omega) _).alloc (by simp;omega) _
 have AR:((((w.alloc (.cells #[.slice none 0 0] 22)).alloc (.map #[] 0)).alloc (.cells #[.map (some (w.heap.size+1))] 64)).alloc (.cells #[.slice a l.length c] 22)).heap.size=w.heap.size+4:=by simp
 generalize (((w.alloc (.cells #[.slice none 0 0] 22)).alloc (.map #[] 0)).alloc (.cells #[.map (some (w.heap.size+1))] 64)).alloc (.cells #[.slice a l.length c] 22)=W0 at *;have eZ:=q4.cell;have SQ0:Sq w.heap.size w (.slice a l.length c) [] [] W0:=⟨_,q1,z7.nil _ _,q2,q3,q4,Ar,by omega⟩
 clear q1 q2 q3 q4 Tw;refine wpIn_wide.1 (wpIn_rangeFunc_ownH (n:=6) rfl (by omega) (gf:=38) (lb:=#[.pointer (some ⟨w.heap.size+1+1+1,0,none⟩)]) rfl trivial (enters_of Tryz.func38 (by kernel_rfl) rfl)
  (zrB (6 - 1) (by omega) (w.heap.size+1+1+1) l.length c a E (fun j=> .slice (DA j) (E j).d.length (DC j)) (fun j=> .slice (MA j) (E j).m.length (MC j)) (by omega) W0 w.heap.size (by omega) (by omega) eZ (HR.out.under Ar Yz) Yz) KpA.trans (KpA.book (by omega)) zr (fun _=> rfl)
  (fun pre W=> Sq w.heap.size w (.slice a l.length c) (zrv E pre).1 (zrv E pre).2 W) (fun _ _ _=> False)
  (Sq.own (fun pre=> (zrv E pre).1) (fun pre=> (zrv E pre).2) (by omega)) (fun _ _ _ _ _ hs _ _=> hs) SQ0
  (fun x a' W=> ∃Bx,W.heap[Bx]? =some (.cells #[.int .i64 (E x.1).k, .int .i64 (E x.1).v, .int .i64 (E x.1).i, .int .i64 (E x.1).b, .int .i64 (E x.1).n, .int .u64 (E x.1).pt, .slice (DA x.1) (E x.1).d.length (DC x.1), .slice (MA x.1) (E x.1).m.length (MC x.1)] 28 (0,0))∧
    a'={tmps:=#[.slice a l.length c,undef, .slice none 0 0, .pointer (some ⟨w.heap.size,0,none⟩), .pointer (some ⟨w.heap.size+1+1,0,none⟩),undef, .pointer (some ⟨Bx,0,none⟩),undef,undef,undef, .map (some (w.heap.size+1)), .slice a l.length c, .func (.func 38) #[] #[.pointer (some ⟨w.heap.size+1+1+1,0,none⟩)], .int .i64 (x.1:Int),zta E (fun j=> .slice (DA j) (E j).d.length (DC j)) (fun j=> .slice (MA j) (E j).m.length (MC j)) x.1,
        undef,undef,undef,undef,undef,undef,undef,undef,undef,undef,undef,undef,undef,undef,undef,undef,undef,undef,undef,undef,undef,undef,undef,undef,undef,undef,undef,undef,undef,undef,undef,undef,undef,undef],defers:= []})
  (fun x a' _ X Y row hs hg hr=> by
    obtain ⟨Bx,e2,e3⟩:=hs;refine ⟨Bx,(hg.block Bx (zg e2).1 fun e=> ?_).trans e2,e3⟩;obtain ⟨-,ob,ho,hc⟩:=hr Bx e.symm;rw [ho] at e2
    cases e2
    cases hc)
  ?assign ?body ?done ?stop)
 case assign=>
  rintro lo pre x W K hI hK;have qg:w.heap.size≤W.heap.size:=by obtain ⟨_,_,_,_,_,_,_,h7⟩:=hI;exact h7
  dsimp only [zta] at hK ⊢
  gi_wp2
  have U9:Below W.heap.size W (W.alloc (.cells #[.int .i64 (E x.1).k, .int .i64 (E x.1).v, .int .i64 (E x.1).i, .int .i64 (E x.1).b, .int .i64 (E x.1).n, .int .u64 (E x.1).pt, .slice (DA x.1) (E x.1).d.length (DC x.1), .slice (MA x.1) (E x.1).m.length (MC x.1)] 28)):=zr.alloc zl _;exact hK _ _ ((KeepsOthers.alloc _ _).from _) (Kq.below (base:=0) U9 qg).2 (hI.below U9) ⟨W.heap.size,heap_alloc_new W _,rfl⟩
 case body=>
  rintro lo pre x a' W ce ⟨r,hr⟩ hI ⟨Bx,bX,rfl⟩ hlt;have Cx:w.heap.size+1 < W0.heap.size:=by omega
  clear AR;obtain ⟨x,Zy⟩:=x;have hv:=HV.out x Zy;have FW:=HM.out x Zy;have MU:=zsE E pre ⟨x,Zy⟩;have E9:=zsS E pre
  dsimp only [zta] at bX MU hv FW ⊢
  generalize E x=o at bX MU hv FW ⊢;generalize DA x=da at bX hv ⊢;generalize DC x=dc at bX hv ⊢;generalize MA x=ma at bX hv ⊢;generalize MC x=mc at bX hv ⊢;obtain ⟨st',de⟩:∃st',zrv E (pre++ [⟨x,Zy⟩])=st':=⟨_,rfl⟩;rw [de] at MU;have Lz:=zh de;clear de;generalize zrv E pre=st at MU hI E9 ⊢;obtain ⟨q7,eN⟩:w.heap.size≤W.heap.size∧Below w.heap.size w W:=by obtain ⟨_,_,_,_,_,_,h6,h7⟩:=hI;exact ⟨h7,h6⟩
  have hC:zq4 W Bx o.k o.v o.i o.b o.n o.pt (.slice da o.d.length dc) (.slice ma o.m.length mc):=by
   unfold zq4;refine ⟨?_, ?_, ?_, ?_, ?_, ?_, ?_, ?_⟩ <;> simp [World.cell?,bX]
  have bQ:Bx < W.heap.size:=(zg bX).1;have HP:=zh (zrp o.k o.v o.i o.b o.n o.pt da ma o.d.length dc o.m.length mc o.m W (Is.below hv.2 eN zl) FW);have dF:=zh hv;have HI:=zh hI;have HC:=zh hC;obtain ⟨c0,c1,c2,c3,c4,c5,c6,c7⟩:=hC;clear hI hv bX
  cases hq:zrb o.k o.v o.i o.b o.n o.d.length o.m with
  | false=>
    rw [hq] at HP;have AO:st'=(st.1++ [o], []):=by rw [MU];unfold zq5;rw [if_neg (by show ¬zrb _ _ _ _ _ _ _=true;rw [hq];decide)]
    clear MU;subst AO
    gi_wp2
    refine ⟨trivial,(CallsIn.inRound lo (callsIn_wide.2 HP.out)).mono ?_⟩;rintro e W2 ⟨rfl,Ae⟩;have UU:=HI.out.below Ae;have SZ:=HC.out.below Ae bQ;have m2:=UU.mapcell;obtain ⟨W3,yc,CJ,AM⟩:=UU.spots.cleared 0;have j1:=SZ.turn AM UU.spots.obj;have L4:=UU.turn AM CJ;obtain ⟨v,a',c',w4,Dd,BE,SA,Wb,TM⟩:=L4.push (base:=W0.heap.size) o (.inr ⟨w,zl,L4.low.2,da,dc,ma,mc,rfl,rfl,dF.out.1,dF.out.2⟩) (by omega)
    have vZ:Kq W0.heap.size w.heap.size (.slice a l.length c) W (w4.setCell ⟨w.heap.size,0,none⟩ (.slice a' (st.1.length+1) c')):=(Kq.below Ae q7).trans ((Kq.turn AM UU.low.1 (by omega)).trans TM)
    have WH:=zh Wb;have S6:=zh vZ;have k3:=Dd.cell;have k4:=SA.cell;have k5:=SA.frozen;obtain ⟨d0,d1,d2,d3,d4,d5,d6,d7⟩:=j1;clear UU SZ CJ AM L4 Wb TM vZ Dd SA c0 c1 c2 c3 c4 c5 c6 c7 HI HC HP
    gi_wp2_with (first | (gi_at_builtin;refine zrg rfl _ _ rfl yc ?_) | (gi_at_builtin;refine zpF rfl _ _ _ rfl BE ?_))
    exact ⟨S6.out.1,S6.out.2,by show Sq _ _ _ (zrv E _).1 (zrv E _).2 _;rw [Lz.out];exact WH.out⟩
  | true =>
    rw [hq] at HP;have D3:o.plain56=true:=hq;have AO:st'=(if zsG o st.2 o.spots.length then st.1 else st.1++ [o],o.spots.reverse++st.2):=by rw [MU];unfold zq5;rw [if_pos D3]
    have E8:=zrs D3;have Fc:o.spots.length=o.blocks.length:=by simp [PO.spots]
    have G8:=zsQ D3;have EZ:=zh AO;have eF:=zh G8;have qy:=zh D3;clear MU AO G8 D3 hq
    gi_wp2
    refine ⟨trivial,(CallsIn.inRound lo (callsIn_wide.2 HP.out)).mono ?_⟩;rintro e W2 ⟨rfl,Ae⟩;have SZ:=HC.out.below Ae bQ;obtain ⟨d0,d1,d2,d3,d4,d5,d6,d7⟩:=SZ;clear c0 c1 c2 c3 c4 c5 c6 c7 HP
    gi_wp2
    refine ⟨trivial,(CallsIn.inRound lo (callsIn_wide.2 (zsD o da ma o.d.length dc o.m.length mc W2 qy.out))).mono ?_⟩;rintro e W3 ⟨v3,rfl,A6,Am⟩;obtain ⟨sa,sc,rfl,ey,-⟩:=A6.runs;have L4:=(HI.out.below Ae).below Am;have j1:=(HC.out.below Ae bQ).below Am (by have:=Ae.size;omega)
    have ya:Kq W0.heap.size w.heap.size (.slice a l.length c) W W3:=(Kq.below Ae q7).trans (Kq.below Am (by have:=Ae.size;omega))
    have Tu:=L4.spots.obj;have qM:=zh L4;have Oe:=zh j1;have Wi:=zh ya;have eJ:=zh ey;have IH:=zh Tu;clear L4 j1 ya ey Tu A6 HI HC d0 d1 d2 d3 d4 d5 d6 d7
    gi_wp2
    gi_loopw [7,26] (fun u7 u26 wr=> ∃j:Nat,j≤o.spots.length∧u26= .int .i64 j∧u7= .bool (zsG o st.2 j)∧zlp wr (w.heap.size+1) ((o.spots.take j).reverse++st.2)∧W3.grownBy wr (some (w.heap.size+1))) (fun _ u26 _=> o.spots.length - (intOf u26).toNat)
    case atStart=> exact ⟨0,by omega,rfl,rfl,qM.out.spots,World.grownBy.refl _ _⟩
    case round=>
        obtain ⟨j,hj,rfl,rfl,hS,hg⟩:=hrel
        by_cases am:j < o.spots.length
        ·obtain ⟨s,hs⟩:∃s,o.spots[j]? =some s:=⟨_,ze am⟩;have Sp:=eF.out s (zm hs);obtain ⟨bs,ps,rfl,k0,k1⟩:=(eJ.out.turn hg IH.out).2 j s hs;have m3:=(World.grownBy_alloc wr (.cells #[.int .i64 s.1, .int .i64 s.2] 71) none).cell (zf8 hg IH.out qM.out.mapcell) (by simp)
         have BS:=hS.kept (World.grownBy_alloc wr (.cells #[.int .i64 s.1, .int .i64 s.2] 71) none) (by simp)
         have Do:=BS.look s Sp;have BE:=zr4 o st.2 j s hs;have DU:=zr0 o st.2 j s hs;have aX:=zsL o st.2 j s hs;obtain ⟨w5,Cc,Bg,Bj⟩:=BS.put s Sp (by simp only [List.length_append,List.length_reverse,List.length_take];omega)
         rw [← aX] at Bg;have FI:W3.grownBy w5 (some (w.heap.size+1)):=(hg.trans (World.grownBy_alloc wr (.cells #[.int .i64 s.1, .int .i64 s.2] 71) _)).trans Bj;have B9:=zh Bg;have j4:=zh FI;have Rr:=zh DU;have MA:(0:Int)≤(j:Int):=by omega
         have EB:(j:Int) < (o.spots.length:Int):=by omega
         clear hS hg BS DU aX Bg FI Bj hs Sp;obtain ⟨s1,s2⟩:=s
         cases hid:zsG o st.2 j with
         | false=>
           rw [hid] at Rr;clear Do BE
           gi_wp2_with (gi_at_mapUpdate;refine zf7 rfl _ _ _ _ rfl Cc ?_)
           go_roundw
           case rel=> exact ⟨j+1,by omega,by go_num,by rw [Rr.out];rfl,B9.out,j4.out⟩
           case measure=> simp [intOf];omega
         | true=>
           rw [hid] at Rr
           by_cases Cb:(s1,s2) ∈ st.2
           ·rw [if_pos (BE.2 Cb)] at Do
            gi_wp2_with (gi_at_mapUpdate;refine zf7 rfl _ _ _ _ rfl Cc ?_)
            go_roundw
            case rel=> exact ⟨j+1,by omega,by go_num,by rw [Rr.out];simp [Cb],B9.out,j4.out⟩
            case measure=> simp [intOf];omega
           ·rw [if_neg (fun h=> Cb (BE.1 h))] at Do
            gi_wp2_with (gi_at_mapUpdate;refine zf7 rfl _ _ _ _ rfl Cc ?_)
            go_roundw
            case rel=> exact ⟨j+1,by omega,by go_num,by rw [Rr.out];simp [Cb],B9.out,j4.out⟩
            case measure=> simp [intOf];omega
        ·obtain rfl:j=o.spots.length:=by omega
         rw [List.take_length] at hS;have QB:=qM.out.turn hg hS;have eO:=Oe.out.turn hg IH.out;have b5:=Wi.out.trans (Kq.turn hg qM.out.low.1 (by omega))
         have qN:=zh QB;have Wj:=zh b5;obtain ⟨d0,d1,d2,d3,d4,d5,d6,d7⟩:=eO;clear QB b5 hS hg qM Oe Wi
         cases hid:zsG o st.2 o.spots.length with
         | true=>
           rw [hid] at EZ;have AO:=EZ.out;rw [if_pos rfl] at AO;subst AO
           gi_wp2
           exact ⟨Wj.out.1,Wj.out.2,by show Sq _ _ _ (zrv E _).1 (zrv E _).2 _;rw [Lz.out];exact qN.out⟩
         | false=>
           rw [hid] at EZ;have AO:=EZ.out;rw [if_neg (by decide)] at AO
           subst AO;obtain ⟨v,a',c',w4,Dd,BE,SA,Wb,TM⟩:=qN.out.push (base:=W0.heap.size) o (.inr ⟨w,zl,qN.out.low.2,da,dc,ma,mc,rfl,rfl,dF.out.1,dF.out.2⟩) (by omega)
           have WH:=zh Wb;have S6:=zh (Wj.out.trans TM);have k3:=Dd.cell;have k4:=SA.cell;have k5:=SA.frozen;clear Wb TM Dd SA qN Wj
           gi_wp2_with (gi_at_builtin;refine zpF rfl _ _ _ rfl BE ?_)
           exact ⟨S6.out.1,S6.out.2,by show Sq _ _ _ (zrv E _).1 (zrv E _).2 _;rw [Lz.out];exact WH.out⟩
 case done=>
  rintro D' ys W hD qx hI hK;have Bq:=zsR l ys qx;rw [← HE.out] at Bq;rw [Bq] at hI;obtain ⟨v,h1,h2,h3,h4,h5,h6,h7⟩:=hI;have Du:=zrh l;have KW:=zrr v w.heap.size (z6 l).reverse W h2 (by rw [List.length_reverse];omega) h7
  rw [List.reverse_reverse] at KW;have hc:=h1.cell;have Aj:some w.heap.size≠v.ownBlock:=by obtain ⟨ps,q1,q2,q3⟩:=h2;exact h1.not_row (by decide) q2
  have JH:∀k,v.ownBlock=some k→w.heap.size≤k∧∃arr,W.heap[k]? =some (.cells arr 28 (0,0)):=by
   intro k e;obtain ⟨ps,q1,q2,q3⟩:=h2;rcases q2.2 with ⟨rfl,_⟩ | ⟨g,cap,cur,rfl,hb,hh,_⟩
   ·cases e
   ·simp only [Value.ownBlock,Option.some.injEq] at e;subst e;exact ⟨hb,_,hh⟩
  have vA:=zh KW;clear KW h2 h3 h4 h5;go_wp2_with fail;refine vA.out.mono ?_;rintro e W2 ⟨rfl,A5,Cy⟩;have Bd:=Cy.cell hc Aj;have Ae:Below w.heap.size w W2:=h6.grown Cy h7 (fun k e=> (JH k e).1);have vZ:W2.heap[D']? =some (.deferred (some [])):=by
   rw [Cy.block D' (zg hK).1 (fun e=> by
        obtain ⟨-,arr,hh⟩:=JH D' e.symm;rw [hK] at hh
        cases hh)]
   exact hK
  have UF:=zh A5;have Ue:=Cy.size;clear A5 Cy vA;go_wp2_with fail;refine ⟨by simp, .inl ⟨_,_,rfl,run_takeDeferred vZ, ?_⟩⟩
  refine ⟨_,results_tmp rfl _ _ _,v,rfl,UF.out.turned (grownBy_putObj' W2 D' _) (zs h7 ?_) (fun r e=> ?_),Ae.trans (belowK_b (w:=w) zl W2 D' _ _ (by omega) vZ rfl rfl)⟩
  ·exact Ue
  ·cases e
   refine ⟨by omega,fun arr t p hh=> ?_⟩
   rw [vZ] at hh
   cases hh
 case stop=>
  rintro D' c' pre W _ _ h _;exact h.elim
end
end Go.Proofs.YtfldlfladcfggaaGreat
