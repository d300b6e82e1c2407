/- Lemmas of the walks, merged and pressed by press.py. Conditions: those of each theorem. -/
import Derived.Test.YtaoceecfjlkmdaaGreatM12
set_option maxRecDepth 100000
set_option maxHeartbeats 64000000
set_option linter.all false
namespace Go.Proofs.YtaoceecfjlkmdaaGreat
open Tryz
variable {l:List En} {b bf bk bo bt by' d i k1 k2 m m' nn p0 pt:Nat} {D S:Nat→Prop} {P:Program} {W W' w:World}
section
open Go Go.RowKit Go.Shelf
attribute [local go_sem] Oper.semAt_some
theorem zj4 (x y:Nat) (w:World):
 χ 161 #[za2 x,za2 y] w fun e w'=> e=ρ (.bool (decide (x < y)))/\θ w w w':=by
 have DP:=heap_alloc_new w (.cells #[τ (zj x),ν (zo x),υ (zp x)] 111);have Cd:=World.alloc_size w (.cells #[τ (zj x),ν (zo x),υ (zp x)] 111);have BB:((w.alloc (.cells #[τ (zj x),ν (zo x),υ (zp x)] 111)).alloc (.cells #[τ (zj y),ν (zo y),υ (zp y)] 111)).heap[w.heap.size]? =_:=(Below.heap_alloc _ _ _ ud).trans DP;have Lf:=heap_alloc_new (w.alloc (.cells #[τ (zj x),ν (zo x),υ (zp x)] 111)) (.cells #[τ (zj y),ν (zo y),υ (zp y)] 111);rw [Cd] at Lf;have hb:θ w w ((w.alloc (.cells #[τ (zj x),ν (zo x),υ (zp x)] 111)).alloc (.cells #[τ (zj y),ν (zo y),υ (zp y)] 111)):=(zr.alloc zl _).alloc ud _;obtain ⟨z0,z1,z2⟩:=rd3 BB;obtain ⟨z3,z4,z5⟩:=rd3 Lf;simp at z0 z1 z2 z3 z4 z5;have He:=zh (fun W=> zcb x y W);have hlt:=zl5 x y;have SK:decide (zjM x y < 0)=decide (x < y):=by rw [decide_eq_decide];exact hlt
 have V3:=zh SK;have HB:=zh hb;unfold za2 at He ⊢;clear DP BB Lf Cd hlt SK hb;generalize zjM x y=c at *;go_in;go_wp2_with fail;refine (He.out _).mono ?_;rintro e w2 ⟨rfl,Ae⟩;go_wp2;go_ret;refine ⟨zkd V3.out,HB.out.trans (Ae.mono HB.out.size)⟩
theorem zfS (pt k:Nat) (w:World):
 χ 159 #[zv pt,za2 k] w fun e w'=> e=ρ (.func (.func 200) #[] #[π (some ↑w),π (some ⟨↑w+1,0,none⟩)])/\w'=(w.alloc (.cells #[zv pt] 102)).alloc (.cells #[τ (zj k),ν (zo k),υ (zp k)] 111):=by
 unfold zv za2;go_in;go_wp2;go_ret;exact ⟨uh,rfl⟩
theorem zg8 (pt k1 k2:Nat) (w:World):
 χ 116 #[zv pt,za2 k1,za2 k2] w fun e w'=> e=ρ (.func (.func 158) #[] #[π (some ↑w),π (some ⟨↑w+1,0,none⟩),π (some ⟨↑w+1+1,0,none⟩)])/\w'=((w.alloc (.cells #[zv pt] 102)).alloc (.cells #[τ (zj k1),ν (zo k1),υ (zp k1)] 111)).alloc (.cells #[τ (zj k2),ν (zo k2),υ (zp k2)] 111):=by
 unfold zv za2;go_in;go_wp2;go_ret;exact ⟨uh,rfl⟩
def zak (l:List En) (a b:Nat):List En:=l.filter fun x=> decide (a<=x.1) && decide (x.1<=b)
theorem zej (l m:List En) (a b:Nat):zak (l++m) a b=zak l a b++zak m a b:=List.filter_append ..
theorem zlu {a:Nat} (h:∀x ∈ l,x.1 < a):zak l a b= []:=List.filter_eq_nil_iff.2 fun x hx=> by have:=h x hx;simp;omega
theorem zfz {a:Nat} (h:∀x ∈ l,x.1<=b):zak l a b=l.filter fun x=> decide (a<=x.1):=List.filter_congr fun x hx=> by have:=h x hx;simp [this]
theorem zjm {e:En} {l:List En} {a b:Nat} (hr:zac (e::l)) (h:b < e.1):zak (e::l) a b= []:=List.filter_eq_nil_iff.2 fun x hx=> by
 have:b < x.1:=by
  rcases List.mem_cons.1 hx with rfl | hx
  ·exact h
  ·have:=(List.pairwise_cons.1 hr).1 x hx;omega
 simp;omega
theorem zom {M P rest:List En} {e:En}  (hM:M=P++e::rest) (hP:∀x ∈ P,x.1<=k2):
 (k2 < e.1->zac M->zak M k1 k2=P.filter (fun x=> decide (k1<=x.1)))/\(k1<=e.1->e.1<=k2->(P.filter (fun x=> decide (k1<=x.1))).length < (zak M k1 k2).length):=by
 refine ⟨fun h hr=> ?_,fun h1 h2=> ?_⟩
 ·rw [hM] at hr ⊢;rw [zej,zfz hP,zjm hr.right h,List.append_nil]
 rw [hM,zej,zfz hP,List.length_append];have:zak (e::rest) k1 k2=e::zak rest k1 k2:=by
  unfold zak;rw [List.filter_cons,if_pos uo]
 rw [this];simp
theorem zid {l l2:Nat} {f:FuncId} {tmps:Array Value} {assign body:Code}  {R:Ending->World->Prop} (h:RoundIn Fence.wide m P l f tmps assign body w R):RoundIn (Fence.wide.inRound l2) m' P l f tmps assign body w R:=
 ⟨h.1,fun c cs _=> h.2 c cs (room_wide _)⟩
structure zbW (l by' bt bf bo pt k1 k2:Nat) (W:World):Prop where
 y:W.heap[by']? =some (.cells #[.func (.yield l) #[] #[]] 258)
 t:W.heap[bt]? =some (.cells #[zv pt] 102)
 f:W.heap[bf]? =some (.cells #[τ (zj k1),ν (zo k1),υ (zp k1)] 111)
 o:W.heap[bo]? =some (.cells #[τ (zj k2),ν (zo k2),υ (zp k2)] 111)
def zbl (by' bt bf bo j:Nat):Prop:=j=by'\/j=bt\/j=bf\/j=bo
theorem zbW.same {l:Nat}  (h:zbW l by' bt bf bo pt k1 k2 W) (hs:∀j,zbl by' bt bf bo j->W'.heap[j]? =W.heap[j]?):zbW l by' bt bf bo pt k1 k2 W':=
 ⟨(hs _ (.inl rfl)).trans h.y,(hs _ (.inr (.inl rfl))).trans h.t,(hs _ (.inr (.inr (.inl rfl)))).trans h.f,(hs _ (.inr (.inr (.inr rfl)))).trans h.o⟩
theorem zbW.eq {l:Nat}  (h:zbW l by' bt bf bo pt k1 k2 W) (h':zbW l by' bt bf bo pt k1 k2 W'):∀j,zbl by' bt bf bo j->W'.heap[j]? =W.heap[j]? :=fun j hj=> by
 rcases hj with rfl | rfl | rfl | rfl
 ·exact h'.y.trans h.y.symm
 ·exact h'.t.trans h.t.symm
 ·exact h'.f.trans h.f.symm
 exact h'.o.trans h.o.symm
def zjE (J:List En->(Nat->Prop)->World->Prop) (W0:World) (D0:Nat->Prop) (l by' bt bf bo pt k1 k2:Nat) (pre:List (ze1 w S)) (D:Nat->Prop) (W:World):Prop:=
 ∃(preO:List En) (Do:Nat->Prop),(∀j,D j↔Do j\/zbl by' bt bf bo j)/\(∀j,zbl by' bt bf bo j->¬Do j)/\J preO Do W/\zba D0 W0 Do W/\preO=((pre.map (·.1.2)).flatMap zS).filter (fun x=> decide (k1<=x.1))/\(∀x ∈ (pre.map (·.1.2)).flatMap zS,x.1<=k2)/\zbW l by' bt bf bo pt k1 k2 W
def zoE (J Jx:List En->(Nat->Prop)->World->Prop) (W0:World) (D0:Nat->Prop) (R:List En) (l by' bt bf bo pt k1 k2:Nat) (D:Nat->Prop) (W:World):Prop:=
 ∃(preO:List En) (Do:Nat->Prop),(∀j,D j↔Do j\/zbl by' bt bf bo j)/\((J preO Do W/\preO=R)\/Jx preO Do W)/\zba D0 W0 Do W/\zbW l by' bt bf bo pt k1 k2 W
def zoG (J:List En->(Nat->Prop)->World->Prop) (W0:World) (D0:Nat->Prop) (l by' bt bf bo pt k1 k2:Nat) (preO row:List En) (D:Nat->Prop) (Wr:World) (av:Option Addr) (i:Nat) (W:World):Prop:=
 ∃ Do:Nat->Prop,J (preO++(row.take i).filter (fun x=> decide (k1<=x.1))) Do W/\zba D0 W0 Do W/\zba D Wr (fun j=> Do j\/zbl by' bt bf bo j) W/\(∀j,zbl by' bt bf bo j->¬Do j)/\zD D Wr W/\zbW l by' bt bf bo pt k1 k2 W/\(∀y ∈ row.take i,y.1<=k2)/\
   zM zaW 4 W av row.length row/\(∀b o,av=some (b o ())->¬Do b/\↑Wr<=b/\b < W.heap.size)
theorem zoG.below {J:List En->(Nat->Prop)->World->Prop} (hJ:zcL J) {W0:World} {D0:Nat->Prop} {l:Nat} {preO row:List En}  {Wr:World} {av:Option Addr}   (h:zoG J W0 D0 l by' bt bf bo pt k1 k2 preO row D Wr av i W) (hb:θ W W W'):zoG J W0 D0 l by' bt bf bo pt k1 k2 preO row D Wr av i W':=by
 obtain ⟨Do,hj,hg,Ib,C5,ho,AH,BO,Ah,XH⟩:=h;have hk:=zbD.of_below (D:=fun j=> Do j\/zbl by' bt bf bo j) hb Ib.lt
 refine ⟨Do,hJ _ _ _ _ hj (hk.less (fun j hj=> .inl hj)),⟨hg.new,fun j hj=> zt (hg.lt j hj) hb.size⟩,⟨Ib.new,fun j hj=> zt (Ib.lt j hj) hb.size⟩,C5,ho.trans (zD.of_below (D:=fun _=> False) hb) (fun j hj=> hj.elim),AH.same (fun j hj=> hk.block j (.inr hj)),BO,Ah.below hb zl,fun b o e=> ⟨(XH b o e).1,(XH b o e).2.1,zt (XH b o e).2.2 hb.size⟩⟩
theorem zeA {J:List En->(Nat->Prop)->World->Prop} (hJ:zcL J) (W0:World) (D0:Nat->Prop) (l by' bt bf bo pt k1 k2:Nat):zcL (zjE (w:=w) (S:=S) J W0 D0 l by' bt bf bo pt k1 k2):=fun pre D A B h hk=> by
 obtain ⟨preO,Do,hD,C5,hj,hg,h1,h2,h3⟩:=h;exact ⟨preO,Do,hD,C5,hJ _ _ _ _ hj (hk.less (fun j hj=> (hD j).2 (.inl hj))),⟨hg.new,fun j hj=> zt (hg.lt j hj) hk.size⟩,h1,h2,h3.same (fun j hj=> hk.block j ((hD j).2 (.inr hj)))⟩
theorem zh7 {β:Type} {J Jx:List En->(Nat->Prop)->World->Prop} (hJ:zcL J) (QD:zcL Jx) (W0:World) (D0:Nat->Prop) (R:List En) (l by' bt bf bo pt k1 k2:Nat) (pp:Prop):zcL (fun (_:β) D W=> pp/\zoE J Jx W0 D0 R l by' bt bf bo pt k1 k2 D W):=fun pre D A B h hk=> by
 obtain ⟨hc,preO,Do,hD,hj,hg,h3⟩:=h;have Cg:zbD Do A B:=hk.less (fun j hj=> (hD j).2 (.inl hj));exact ⟨hc,preO,Do,hD,hj.elim (fun h=> .inl ⟨hJ _ _ _ _ h.1 Cg,h.2⟩) (fun h=> .inr (QD _ _ _ _ h Cg)),⟨hg.new,fun j hj=> zt (hg.lt j hj) hk.size⟩,h3.same (fun j hj=> hk.block j ((hD j).2 (.inr hj)))⟩
theorem zkc {root:Option Nat} (n:Nat) (hn:3<=n) (AF:zaw w pt root nn) (hS:∀j,S j->j < w.heap.size) (k1 k2:Nat)
 (Hy:w.heap[bt]? =some (.cells #[zv pt] 102)) (O9:w.heap[bf]? =some (.cells #[τ (zj k1),ν (zo k1),υ (zp k1)] 111)) (FF:w.heap[bo]? =some (.cells #[τ (zj k2),ν (zo k2),υ (zp k2)] 111))
 (AH:∀j,(j=bt\/j=bf\/j=bo)->¬S j/\j≠pt) (LL:List (Tr 0)) (fl aa:List En) (QO:fl=aa++LL.flatMap zS) (Ki:∀x ∈ aa,x.1 < k1) (hriseM:zac (LL.flatMap zS))
 (T5:∀(w2:World) (bt2 bk2:Nat),zbD (fun j=> S j\/j=pt) w w2->w2.heap[bt2]? =some (.cells #[zv pt] 102)->w2.heap[bk2]? =some (.cells #[τ (zj k1),ν (zo k1),υ (zp k1)] 111)->
   zdF Fence.wide (n - 1) prog 200 #[zv bt2,zv bk2] (fun x:ze1 w2 S=> #[zv x.1.1]) (fun ys=> ys.map (·.1.2)=LL) (fun pre=> ∃r,LL=pre.map (·.1.2)++r) (fun j=> S j\/j=bt2\/j=bk2\/j=pt) LL.length w2):
 zdF Fence.wide n prog 158 #[zv bt,zv bf,zv bo] (fun x:En=> #[zd1 x]) (fun ys=> ys=zak fl k1 k2) (fun _=> True) (fun j=> S j\/j=bt\/j=bf\/j=bo\/j=pt) (zak fl k1 k2).length w:=by
 intro l J Jx D0 W hX hJ QD F7 Iu hY h0;have Sw:=(zg Hy).1;have yr:=(zg O9).1;have yx:=(zg FF).1;have BZ:pt < w.heap.size:=(zg AF).1;have yn:=hX.size;have Aa:θ W.heap.size W (W.alloc (.cells #[.func (.yield l) #[] #[]] 258)):=zr.alloc zl _;have FZ:=World.alloc_size W (.cells #[.func (.yield l) #[] #[]] 258);have FP:=heap_alloc_new W (.cells #[.func (.yield l) #[] #[]] 258);have Pc:=(Aa.block bt (by omega)).trans ((hX.block bt (.inr (.inl rfl))).trans Hy)
 have Pa:=(Aa.block bf (by omega)).trans ((hX.block bf (.inr (.inr (.inl rfl)))).trans O9)
 have Sq:=(Aa.block bo (by omega)).trans ((hX.block bo (.inr (.inr (.inr (.inl rfl))))).trans FF)
 have c0:=cell_of_row _ _ 0 _ _ _ Pc;obtain ⟨c1,c2,c3⟩:=rd3 Pa;unfold zv at c0;simp at c0 c1 c2 c3;have M7:=zh (zfS pt k1 (W.alloc (.cells #[.func (.yield l) #[] #[]] 258)));have Sz:zbW l W.heap.size bt bf bo pt k1 k2 (W.alloc (.cells #[.func (.yield l) #[] #[]] 258)):=⟨FP,Pc,Pa,Sq⟩;have HX:=zh hX;have HY:=zh hY;have Cj:=zh AF;have H0:=zh h0;have Ak:=zh Aa;have VV:=zh Sz;unfold zv za2 at M7;unfold zv;clear hX hY Hy O9 FF AF h0 FP Pc Pa Sq Aa Sz;refine callsIn_of_wp_marks func158 rfl trivial ?_ rfl;refine wpIn_wide.2 ?_;simp only [ntmps158,List.size_toArray,List.length_cons,List.length_nil,Nat.reduceAdd,Nat.reduceSub,Array.replicate_succ,Array.replicate_zero,List.push_toArray,List.append_toArray,List.nil_append,List.cons_append];go_wp2_with fail;refine M7.out.mono ?_;rintro r w2 ⟨rfl,rfl⟩;have Ue:=World.alloc_size (W.alloc (.cells #[.func (.yield l) #[] #[]] 258)) (.cells #[π (some ⟨pt,0,none⟩)] 102);have Dr:=World.alloc_size ((W.alloc (.cells #[.func (.yield l) #[] #[]] 258)).alloc (.cells #[π (some ⟨pt,0,none⟩)] 102)) (.cells #[τ (zj k1),ν (zo k1),υ (zp k1)] 111);have BI:θ W.heap.size W (((W.alloc (.cells #[.func (.yield l) #[] #[]] 258)).alloc (.cells #[π (some ⟨pt,0,none⟩)] 102)).alloc (.cells #[τ (zj k1),ν (zo k1),υ (zp k1)] 111)):=(Ak.out.alloc (by omega) _).alloc (by omega) _
 have Mn:(((W.alloc (.cells #[.func (.yield l) #[] #[]] 258)).alloc (.cells #[π (some ⟨pt,0,none⟩)] 102)).alloc (.cells #[τ (zj k1),ν (zo k1),υ (zp k1)] 111)).heap[W.heap.size+1]? =some (.cells #[zv pt] 102):=by
  rw [Below.heap_alloc _ _ _ (by omega)]
  have:=heap_alloc_new (W.alloc (.cells #[.func (.yield l) #[] #[]] 258)) (.cells #[π (some ⟨pt,0,none⟩)] 102);rw [FZ] at this;exact this
 have Hx:(((W.alloc (.cells #[.func (.yield l) #[] #[]] 258)).alloc (.cells #[π (some ⟨pt,0,none⟩)] 102)).alloc (.cells #[τ (zj k1),ν (zo k1),υ (zp k1)] 111)).heap[W.heap.size+1+1]? =some (.cells #[τ (zj k1),ν (zo k1),υ (zp k1)] 111):=by
  have:=heap_alloc_new ((W.alloc (.cells #[.func (.yield l) #[] #[]] 258)).alloc (.cells #[π (some ⟨pt,0,none⟩)] 102)) (.cells #[τ (zj k1),ν (zo k1),υ (zp k1)] 111);rw [Ue,FZ] at this;exact this
 have SB:zbW l W.heap.size bt bf bo pt k1 k2 (((W.alloc (.cells #[.func (.yield l) #[] #[]] 258)).alloc (.cells #[π (some ⟨pt,0,none⟩)] 102)).alloc (.cells #[τ (zj k1),ν (zo k1),υ (zp k1)] 111)):=VV.out.same (fun j hj=> by
  have:j < W.heap.size+1:=by rcases hj with h | h | h | h <;> omega
  rw [Below.heap_alloc _ _ _ (by omega),Below.heap_alloc _ _ _ (by omega)])
 have Js:(((W.alloc (.cells #[.func (.yield l) #[] #[]] 258)).alloc (.cells #[π (some ⟨pt,0,none⟩)] 102)).alloc (.cells #[τ (zj k1),ν (zo k1),υ (zp k1)] 111)).heap.size=W.heap.size+1+1+1:=by omega
 have VU:=zh Mn;have VQ:=zh Hx;have JR:=zh SB;have Jv:=zh BI;clear Mn Hx SB BI c0 c1 c2 c3 M7 Ue Dr;go_wp2_with fail;generalize ((W.alloc (.cells #[.func (.yield l) #[] #[]] 258)).alloc (.cells #[π (some ⟨pt,0,none⟩)] 102)).alloc (.cells #[τ (zj k1),ν (zo k1),υ (zp k1)] 111)=w2 at *;have L9:zbD (fun j=> S j\/j=bt\/j=bf\/j=bo\/j=pt) w w2:=HX.out.trans (zbD.of_below Jv.out (fun j hj=> by
  rcases hj with h | h | h | h | h
  ·have:=hS j h;omega
  ·omega
  ·omega
  ·omega
  omega))
 have DC:∀j,S j->j < w2.heap.size:=fun j hj=> by have:=hS j hj;omega
 have hD2lt:∀j,(D0 j\/zbl W.heap.size bt bf bo j)->j < w2.heap.size:=fun j hj=> by
  rcases hj with h | h | h | h | h
  ·have:=F7 j h;omega
  ·omega
  ·omega
  ·omega
  omega
 have YL:∀j,zbl W.heap.size bt bf bo j->¬D0 j:=fun j hj h=> by
  rcases hj with rfl | rfl | rfl | rfl
  ·have:=F7 _ h;omega
  ·exact Iu _ h (.inr (.inl rfl))
  ·exact Iu _ h (.inr (.inr (.inl rfl)))
  exact Iu _ h (.inr (.inr (.inr (.inl rfl))))
 have Xn:zak fl k1 k2=zak (LL.flatMap zS) k1 k2:=by rw [QO,zej,zlu Ki,List.nil_append]
 have RZ:∀(D:Nat->Prop) (Wr:World) (Dd:Nat),w2.heap.size<=Dd->zD (fun j=> D0 j\/zbl W.heap.size bt bf bo j) w2 Wr->zbW l W.heap.size bt bf bo pt k1 k2 Wr->zD D0 W (Wr.putObj Dd (.deferred none)):=fun D Wr Dd Qz ho Ja=> by
  have h1:zD D0 W Wr:=⟨ho.os.trans Jv.out.os,ho.tape.trans Jv.out.tape,ho.output.trans Jv.out.output,zs Jv.out.size ho.size,fun j hj hn=> by
   by_cases kL:zbl W.heap.size bt bf bo j
   ·exact (JR.out.eq Ja j kL).trans (Jv.out.block j hj)
   exact (ho.block j (by omega) (fun h=> h.elim hn kL)).trans (Jv.out.block j hj)⟩
  exact h1.trans (zbN (fun j=> j=Dd) Wr Dd _ rfl) (fun j hj=> .inr (by omega))
 refine (wpIn_wide (n:=n)).1 (zb6 (n:=n) (F:=Fence.wide) rfl (by omega) (gf:=200) (lb:=#[π (some ⟨W.heap.size+1,0,none⟩),π (some ⟨W.heap.size+1+1,0,none⟩)]) rfl trivial (enters_of func200 (by kernel_rfl) rfl)
  (T5 w2 (W.heap.size+1) (W.heap.size+1+1) (L9.less (fun j hj=> hj.elim .inl (fun h=> .inr (.inr (.inr (.inr h)))))) VU.out VQ.out) (zbD.refl _ _) (fun j hj=> by
    rcases hj with h | h | h | h
    ·exact DC j h
    ·omega
    ·omega
    omega) (fun _=> rfl)
  (zjE J W D0 l W.heap.size bt bf bo pt k1 k2) (fun c _ D W'=> c= .ret/\zoE J Jx W D0 (zak (fl) k1 k2) l W.heap.size bt bf bo pt k1 k2 D W')
  (fun pre x a' D W'=> zjE J W D0 l W.heap.size bt bf bo pt k1 k2 pre D W'/\a'={tmps:=#[.func (.yield l) #[] #[],π (some ⟨bt,0,none⟩),π (some ⟨bf,0,none⟩),π (some ⟨bo,0,none⟩),π (some ⟨W.heap.size,0,none⟩),π (some ⟨x.1.1,0,none⟩),undef,undef,π (some ⟨pt,0,none⟩), .agg #[τ (zj k1),ν (zo k1),υ (zp k1)], .func (.func 200) #[] #[π (some ⟨W.heap.size+1,0,none⟩),π (some ⟨W.heap.size+1+1,0,none⟩)],π (some ⟨x.1.1,0,none⟩),undef,undef,undef,undef,undef,undef,undef,undef,undef,undef,undef,undef,undef,undef,undef,undef,undef,undef,undef,undef,undef,undef,undef],defers:= []})
  (zeA hJ W D0 _ _ _ _ _ _ _ _) (fun c=> zh7 hJ QD W D0 _ _ _ _ _ _ _ _ _ _) (fun pre x a' _ D A B h hk=> ⟨zeA hJ W D0 _ _ _ _ _ _ _ _ pre D A B h.1 hk,h.2⟩)
  (fun j=> D0 j\/zbl W.heap.size bt bf bo j) hD2lt (fun j hj hx=> ?dx) ⟨[],D0,fun j=> Iff.rfl,YL,hJ _ _ _ _ H0.out (zbD.of_below Jv.out F7),⟨fun j hj=> .inl hj,fun j hj=> hD2lt j (.inl hj)⟩,rfl,fun x hx=> by simp at hx,JR.out⟩
  ?assign ?body ?done ?stop)
 case dx =>
  rcases hj with h | h
  ·rcases hx with h2 | h2 | h2 | h2
   ·exact Iu j h (.inl h2)
   ·have:=F7 j h;omega
   ·have:=F7 j h;omega
   exact Iu j h (.inr (.inr (.inr (.inr h2))))
  have kJ:¬S j/\j≠pt/\j < W.heap.size+1:=by
       rcases h with h | h | h | h
       ·subst h;exact ⟨fun h2=> by have:=hS _ h2;omega,by omega,by omega⟩
       ·obtain ⟨q1,q2⟩:=AH j (.inl h);exact ⟨q1,q2,by omega⟩
       ·obtain ⟨q1,q2⟩:=AH j (.inr (.inl h));exact ⟨q1,q2,by omega⟩
       obtain ⟨q1,q2⟩:=AH j (.inr (.inr h));exact ⟨q1,q2,by omega⟩
  rcases hx with h2 | h2 | h2 | h2
  ·exact kJ.1 h2
  ·omega
  ·omega
  exact kJ.2.1 h2
 case assign=>
  intro l2 pre x D Wr K hI hlt _ hK
  gi_wp2
  exact hK _ D Wr (zba.refl hlt zl) (zD.refl _ _) ⟨hI,rfl⟩
 case body=>
  rintro l2 pre x a' D Wr CC ⟨r0,Ze⟩ Vt DB OK PA ⟨UZ,rfl⟩ Ac ⟨rr,NT⟩;obtain ⟨preO,Do,Iv,C5,hj,FI,JK,BO,D4⟩:=UZ;have hN:zQ Wr S x.1.1 x.1.2:=x.2.1.same (fun j hj=> PA.block j (.inl hj));have JE:∀j,S j->j < Wr.heap.size:=fun j hj=> zt (DC j hj) PA.size;have LC:zH x.1.2<=6:=x.2.2.2;have HE:=zh (zbH hN JE (by omega))
  have KX:(zS x.1.2).length<=6:=LC;have jB:(LL).flatMap zS=(pre.map (·.1.2)).flatMap zS++(zS x.1.2++rr.flatMap zS):=by rw [NT];simp
  have UI:=zh (zn Iv (zn C5 (zn hj (zn FI (zn JK (zn BO D4))))));have vd:=zh jB;have M6:=zh PA;have V4:=zh OK;unfold zv at HE;clear Iv C5 hj FI JK BO D4 hN jB NT Ac LC
  gi_wp2
  refine ⟨trivial,fun _=> by omega,(CallsIn.inRound l2 (callsIn_wide.2 HE.out)).mono ?_⟩
  rintro e w3 ⟨v,rfl,hv,Am⟩;obtain ⟨av,cv,rfl,Ah,-,Sg⟩:=hv.row zN;have jL:zoG J W D0 l W.heap.size bt bf bo pt k1 k2 preO (zS x.1.2) D Wr av 0 w3:=by
   obtain ⟨Iv,C5,hj,FI,JK,BO,D4⟩:=UI.out;have hk:=zbD.of_below (D:=D) Am DB;refine ⟨Do,by rw [List.take_zero,List.filter_nil,List.append_nil];exact hJ _ _ _ _ hj (hk.less (fun j hj=> (Iv j).2 (.inl hj))),⟨FI.new,fun j hj=> zt (FI.lt j hj) Am.size⟩,⟨fun j hj=> .inl ((Iv j).2 hj),fun j hj=> zt (DB j ((Iv j).2 hj)) Am.size⟩,C5,zD.of_below Am,D4.same (fun j hj=> hk.block j ((Iv j).2 (.inr hj))),by simp,Ah,fun b o e=> ?_⟩
   obtain ⟨q1,q2⟩:=Sg b o e;refine ⟨fun h=> by have:=DB b ((Iv b).2 (.inl h));omega,q1, ?_⟩
   subst e;subst q2;exact (hv.lt b rfl).2
  have vy:=zh jL;clear jL Ah Sg hv Am HE;generalize aS:zS x.1.2=row at *
  gi_wp2
  gi_loopw [15] (fun u15 wz=> ∃i:Nat,i<=row.length/\u15= ι i/\zoG J W D0 l W.heap.size bt bf bo pt k1 k2 preO row D Wr av i wz) (fun u15 _=> row.length - (intOf u15).toNat)
  case atStart=> exact ⟨0,by omega,rfl,vy.out⟩
  case round=>
   obtain ⟨i,hi,rfl,Nm⟩:=hrel
   by_cases hlt:i < row.length
   ·have ME:(i:Int) < (row.length:Int):=by omega
    obtain ⟨e,he⟩:∃e,row[i]? =some e:=⟨_,ze hlt⟩;have Ar:θ wr.heap.size wr (wr.alloc (.cells #[τ (zj e.1),ν (zo e.1),υ (zp e.1),ν e.2] 113)):=zr.alloc zl _;have OX:=Nm.below hJ Ar;have GY:=heap_alloc_new wr (.cells #[τ (zj e.1),ν (zo e.1),υ (zp e.1),ν e.2] 113);have Zo:=World.alloc_size wr (.cells #[τ (zj e.1),ν (zo e.1),υ (zp e.1),ν e.2] 113);obtain ⟨Do1,-,-,-,-,-,-,-,NY,-⟩:=Nm;obtain ⟨b5,o5,rfl,FG⟩:=NY.2 i e he;obtain ⟨y0,y1,y2,y3⟩:wr.cell? ⟨b5,o5+i * 4,none⟩=some (τ (zj e.1))/\wr.cell? ⟨b5,o5+i * 4+1,none⟩=some (ν (zo e.1))/\wr.cell? ⟨b5,o5+i * 4+2,none⟩=some (υ (zp e.1))/\wr.cell? ⟨b5,o5+i * 4+3,none⟩=some (ν e.2):=⟨by simpa using FG 0 _ rfl,FG 1 _ rfl,FG 2 _ rfl,FG 3 _ rfl⟩
    have Xa:∀W',θ (wr.alloc (.cells #[τ (zj e.1),ν (zo e.1),υ (zp e.1),ν e.2] 113)).heap.size (wr.alloc (.cells #[τ (zj e.1),ν (zo e.1),υ (zp e.1),ν e.2] 113)) W'->W'.cell? ⟨wr.heap.size,0,none⟩=some (τ (zj e.1))/\W'.cell? ⟨wr.heap.size,1,none⟩=some (ν (zo e.1))/\W'.cell? ⟨wr.heap.size,2,none⟩=some (υ (zp e.1))/\W'.cell? ⟨wr.heap.size,3,none⟩=some (ν e.2):=fun W' hW=> by
     have h:=(hW.block wr.heap.size (by omega)).trans GY
     exact ⟨cell_of_row W' _ 0 _ _ _ h,cell_of_row W' _ 1 _ _ _ h,cell_of_row W' _ 2 _ _ _ h,cell_of_row W' _ 3 _ _ _ h⟩
    obtain ⟨v0,v1,v2,v3⟩:=Xa _ zr;have IA:zbW l W.heap.size bt bf bo pt k1 k2 (wr.alloc (.cells #[τ (zj e.1),ν (zo e.1),υ (zp e.1),ν e.2] 113)):=by obtain ⟨_,-,-,-,-,-,h,-,-,-⟩:=OX;exact h
    have q0:=cell_of_row _ _ 0 _ _ _ IA.o;have q1:=cell_of_row _ _ 1 _ _ _ IA.o;have q2:=cell_of_row _ _ 2 _ _ _ IA.o;simp at q0 q1 q2;have jz:(LL).flatMap zS=((pre.map (·.1.2)).flatMap zS++row.take i)++e::(row.drop (i+1)++rr.flatMap zS):=by
     rw [vd.out,List.append_assoc]
     congr 1
     conv=> lhs;rw [<- List.take_append_drop i row]
     obtain ⟨De,yI⟩:=zi he;rw [List.drop_eq_getElem_cons De,yI,List.append_assoc]
     rfl
    have Rp:=zh jz;have UH:=zh OX;have ZE:=zh Xa;have ZJ:=zh (zj4 k2 e.1 (wr.alloc (.cells #[τ (zj e.1),ν (zo e.1),υ (zp e.1),ν e.2] 113)));have qG:=zh he;unfold za2 at ZJ;clear NY FG GY OX Xa IA jz Ar he
    gi_wp2
    refine ⟨trivial,fun _=> by omega,(CallsIn.inRound l2 (callsIn_wide.2 ZJ.out)).mono ?_⟩
    rintro r w5 ⟨rfl,Ag⟩;generalize a8:wr.alloc (.cells #[τ (zj e.1),ν (zo e.1),υ (zp e.1),ν e.2] 113)=w4 at *;clear a8;have L8:=UH.out.below hJ Ag;obtain ⟨Do5,S8,Bj,Mx,PP,AV,Hz,C4,KY,O6⟩:=L8;have MP:preO++(row.take i).filter (fun x=> decide (k1<=x.1))=((pre.map (·.1.2)).flatMap zS++row.take i).filter (fun x=> decide (k1<=x.1)):=by
     obtain ⟨-,-,-,-,JK,-,-⟩:=UI.out;rw [List.filter_append,JK]
    have OU:∀y ∈ (pre.map (·.1.2)).flatMap zS++row.take i,y.1<=k2:=fun y hy=> by
     obtain ⟨-,-,-,-,-,BO,-⟩:=UI.out;rcases List.mem_append.1 hy with h | h
     ·exact BO y h
     exact C4 y h
    have MS:=zom (k1:=k1) Rp.out OU
    by_cases hk:k2 < e.1
    ·have Nl:preO++(row.take i).filter (fun x=> decide (k1<=x.1))=zak (fl) k1 k2:=by rw [Xn,MS.1 hk hriseM,MP]
     have HF:=zh (zn S8 (zn Bj (zn Mx (zn AV (zn Hz Nl)))));rw [decide_eq_true hk];clear S8 Bj Mx PP AV Hz C4 KY O6 MP OU MS Nl q0 q1 q2 y0 y1 y2 y3 v0 v1 v2 v3
     gi_wp2
     exact ⟨_,HF.out.2.2.1,HF.out.2.2.2.1,rfl,_,Do5,fun j=> Iff.rfl, .inl ⟨HF.out.1,HF.out.2.2.2.2.2⟩,HF.out.2.1,HF.out.2.2.2.2.1⟩
    have Pm:e.1<=k2:=by omega
    obtain ⟨v50,v51,v52,v53⟩:=ZE.out w5 Ag;have q50:=cell_of_row _ _ 0 _ _ _ Hz.f;have q51:=cell_of_row _ _ 1 _ _ _ Hz.f;have q52:=cell_of_row _ _ 2 _ _ _ Hz.f;simp at q50 q51 q52;have I0:=zh (zj4 e.1 k1 w5);have L8:zoG J W D0 l W.heap.size bt bf bo pt k1 k2 preO row D Wr (some ⟨b5,o5,none⟩) i w5:=⟨Do5,S8,Bj,Mx,PP,AV,Hz,C4,KY,O6⟩;have Ru:=zh L8;have WE:=zh MS;have vu:=zh MP;unfold za2 at I0;rw [decide_eq_false hk];clear S8 Bj Mx PP AV Hz C4 KY O6 MS MP OU L8 q0 q1 q2 y0 y1 y2 y3 v0 v1 v2 v3
    gi_wp2
    refine ⟨trivial,fun _=> by omega,(CallsIn.inRound l2 (callsIn_wide.2 I0.out)).mono ?_⟩
    rintro r w6 ⟨rfl,AT⟩;obtain ⟨Do6,S9,AX,C3,ER,Bv,DG,PF,DN,Fl⟩:=Ru.out.below hJ AT;have Gi:row.take (i+1)=row.take i++ [e]:=by rw [List.take_add_one,qG.out];rfl
    have MC:∀y ∈ row.take (i+1),y.1<=k2:=fun y hy=> by
          rw [Gi] at hy;rcases List.mem_append.1 hy with h | h
          ·exact PF y h
          obtain rfl:=List.mem_singleton.1 h;exact Pm
    by_cases BY:e.1 < k1
    ·have SW:(row.take (i+1)).filter (fun x=> decide (k1<=x.1))=(row.take i).filter (fun x=> decide (k1<=x.1)):=by
      rw [Gi,List.filter_append,List.filter_cons,if_neg (by simp;omega)];simp
     have R2:zoG J W D0 l W.heap.size bt bf bo pt k1 k2 preO row D Wr (some ⟨b5,o5,none⟩) (i+1) w6:=⟨Do6,by rw [SW];exact S9,AX,C3,ER,Bv,DG,MC,DN,Fl⟩
     have WD:=zh R2;rw [decide_eq_true BY];clear S9 AX C3 ER Bv DG PF DN Fl Gi MC SW R2 q50 q51 q52 v50 v51 v52 v53
     gi_wp2
     refine ⟨(fun f h=> by cases h), ?_⟩
     gi_wp2
     go_roundw
     case rel=> exact ⟨i+1,by omega,by go_num,WD.out⟩
     case measure=> simp [intOf];omega
    have SW:preO++(row.take (i+1)).filter (fun x=> decide (k1<=x.1))=(preO++(row.take i).filter (fun x=> decide (k1<=x.1)))++ [e]:=by
     rw [Gi,List.filter_append,List.filter_cons,if_pos (by simp;omega),List.append_assoc];rfl
    have NI:(preO++(row.take i).filter (fun x=> decide (k1<=x.1))).length < (zak (fl) k1 k2).length:=by rw [vu.out,Xn];exact WE.out.2 (by omega) Pm
    have I9:∀j,(S j\/j=pt)->w6.heap[j]? =w.heap[j]? :=fun j hj=> by
     have e1:w6.heap[j]? =Wr.heap[j]? :=Bv.block j (by
      rcases hj with h | h
      ·exact JE j h
      have:=M6.out.size;omega) (fun h=> V4.out j h (hj.elim .inl (fun h=> .inr (.inr (.inr h)))))
     have e2:Wr.heap[j]? =w2.heap[j]? :=M6.out.block j (hj.elim .inl (fun h=> .inr (.inr (.inr h))));have e3:w2.heap[j]? =w.heap[j]? :=L9.block j (hj.elim .inl (fun h=> .inr (.inr (.inr (.inr h)))));exact e1.trans (e2.trans e3)
    have ju:zbD (fun j=> S j\/j=bt\/j=bf\/j=bo\/j=pt) w w6:=⟨Bv.os.trans (M6.out.os.trans L9.os),Bv.tape.trans (M6.out.tape.trans L9.tape),Bv.output.trans (M6.out.output.trans L9.output),zs L9.size (zs M6.out.size Bv.size),fun j hj=> by
     rcases hj with h | h | h | h | h
     ·exact I9 j (.inl h)
     ·exact (JR.out.eq DG j (.inr (.inl h))).trans (L9.block j (.inr (.inl h)))
     ·exact (JR.out.eq DG j (.inr (.inr (.inl h)))).trans (L9.block j (.inr (.inr (.inl h))))
     ·exact (JR.out.eq DG j (.inr (.inr (.inr h)))).trans (L9.block j (.inr (.inr (.inr (.inl h)))))
     exact I9 j (.inr h)⟩
    obtain ⟨fn,tmps,assign,body,hy,OY⟩:=HY.out _ e Do6 w6 S9 AX.lt ju NI trivial;have qy:=cell_of_row _ _ 0 _ _ _ DG.y;simp at qy;obtain ⟨v60,v61,v62,v63⟩:=ZE.out w6 (Ag.trans (AT.mono Ag.size));have H6:=zh (zn AX (zn C3 (zn ER (zn Bv (zn DG (zn DN Fl))))));have qJ:=zh SW;have Wo:=zh MC;unfold zd1 at hy;rw [decide_eq_false BY];clear S9 AX C3 ER Bv DG PF DN Fl Gi MC SW q50 q51 q52 v50 v51 v52 v53 NI I9 ju
    gi_wp2
    refine ⟨fun _=> by omega,(zid OY).mono ?_⟩
    rintro r w7 ⟨D7,FH,FY,(⟨rfl,QQ⟩ | ⟨rfl,QQ⟩)⟩
    ·obtain ⟨AX,C3,ER,Bv,DG,DN,Fl⟩:=H6.out;have jN:zoG J W D0 l W.heap.size bt bf bo pt k1 k2 preO row D Wr (some ⟨b5,o5,none⟩) (i+1) w7:=by
      have E8:∀j,zbl W.heap.size bt bf bo j->j < w6.heap.size:=fun j hj=> C3.lt j (.inr hj);have Zx:W.heap.size<=w6.heap.size:=by have:=M6.out.size;have:=Bv.size;omega
      refine ⟨D7,by rw [qJ.out];exact QQ,AX.trans FH Zx,⟨fun j hj=> ?_,fun j hj=> hj.elim (FH.lt j) (fun h=> zt (E8 j h) FY.size)⟩,fun j hj h=> (FH.new j h).elim (ER j hj) (fun h2=> by have:=E8 j hj;omega),Bv.trans FY (fun j hj=> C3.new j (.inl hj)),DG.same (fun j hj=> FY.block j (E8 j hj) (ER j hj)),Wo.out, ?_,fun b o e'=> ?_⟩
      ·rcases hj with h | h
       ·exact (FH.new j h).elim (fun h2=> C3.new j (.inl h2)) (fun h2=> .inr (zs Bv.size h2))
       exact C3.new j (.inr h)
      ·obtain ⟨a1,a2,a3⟩:=Fl b5 o5 rfl;exact DN.block (FY.block b5 a3 a1)
      obtain ⟨a1,a2,a3⟩:=Fl b o e';exact ⟨fun h=> (FH.new b h).elim a1 (fun h2=> by omega),a2,zt a3 FY.size⟩
     have WD:=zh jN;clear jN FH FY QQ AX C3 ER Bv DG DN Fl hy OY
     gi_wp2
     go_roundw
     case rel=> exact ⟨i+1,by omega,by go_num,WD.out⟩
     case measure=> simp [intOf];omega
    obtain ⟨AX,C3,ER,Bv,DG,DN,Fl⟩:=H6.out;have E8:∀j,zbl W.heap.size bt bf bo j->j < w6.heap.size:=fun j hj=> C3.lt j (.inr hj);have Zx:W.heap.size<=w6.heap.size:=by have:=M6.out.size;have:=Bv.size;omega
    have jg:zba D Wr (fun j=> D7 j\/zbl W.heap.size bt bf bo j) w7:=⟨fun j hj=> by
     rcases hj with h | h
     ·exact (FH.new j h).elim (fun h2=> C3.new j (.inl h2)) (fun h2=> .inr (zs Bv.size h2))
     exact C3.new j (.inr h),fun j hj=> hj.elim (FH.lt j) (fun h=> zt (E8 j h) FY.size)⟩
    have JA:zD D Wr w7:=Bv.trans FY (fun j hj=> C3.new j (.inl hj));have RN:zbW l W.heap.size bt bf bo pt k1 k2 w7:=DG.same (fun j hj=> FY.block j (E8 j hj) (ER j hj));have HF:=zh (zn jg (zn JA (zn RN (zn QQ (AX.trans FH Zx)))));clear jg JA RN FH FY QQ AX C3 ER Bv DG DN Fl hy OY E8
    gi_wp2
    exact ⟨_,HF.out.1,HF.out.2.1,rfl,_,D7,fun j=> Iff.rfl, .inr HF.out.2.2.2.1,HF.out.2.2.2.2,HF.out.2.2.1⟩
   obtain rfl:i=row.length:=by omega
   obtain ⟨Do9,Vm,GF,SY,TD,Lw,D4,PG,-,-⟩:=Nm;rw [List.take_length] at Vm PG;obtain ⟨-,-,-,-,JK,To,-⟩:=UI.out;have Kx:((pre++ [x]).map (·.1.2)).flatMap zS=(pre.map (·.1.2)).flatMap zS++row:=by
    rw [List.map_append,List.flatMap_append];simp [aS]
   have UZ:zjE J W D0 l W.heap.size bt bf bo pt k1 k2 (pre++ [x]) (fun j=> Do9 j\/zbl W.heap.size bt bf bo j) wr:=
    ⟨_,Do9,fun j=> Iff.rfl,TD,Vm,GF,by rw [Kx,List.filter_append,JK],fun y hy=> by
          rw [Kx] at hy;exact (List.mem_append.1 hy).elim (To y) (PG y),D4⟩
   have HF:=zh (zn SY (zn Lw UZ));clear Vm GF SY TD Lw D4 PG JK To Kx UZ
   gi_wp2
   exact ⟨_,HF.out.1,HF.out.2.1,HF.out.2.2⟩
 case done=>
  intro Dd xs D Wr Qz Xt hI hg ho Tz hK;obtain ⟨preO,Do,Iv,C5,hj,FI,JK,BO,D4⟩:=hI;have kY:preO=zak (fl) k1 k2:=by rw [Xn,<- Xt,zfz BO,JK]
  have Kb:=RZ D Wr Dd Qz ho D4;have FV:zbD Do Wr (Wr.putObj Dd (.deferred none)):=za1 Wr Dd _ (fun h=> Tz ((Iv _).2 (.inl h))) FI.lt;have HF:=zh (zn (⟨FI.new,fun j h=> zt (FI.lt j h) FV.size⟩:zba D0 W Do (Wr.putObj Dd (.deferred none))) (zn Kb (zn kY (hJ _ _ _ _ hj FV))));clear hj FI JK BO D4 Kb FV kY Iv C5;go_wp2_with fail;refine ⟨by simp, .inl ⟨_,_,rfl,run_takeDeferred hK, ?_⟩⟩
  refine ⟨_,results_none rfl _ _ _,⟨_,rfl⟩,Do,HF.out.1,HF.out.2.1, .inl ⟨preO,HF.out.2.2.1,HF.out.2.2.2⟩⟩
 case stop=>
  rintro Dd c pre D Wr Qz Ma ⟨rfl,preO,Do,Iv,NC,FI,D4⟩ hg ho Tz hK;have Kb:=RZ D Wr Dd Qz ho D4;have FV:zbD Do Wr (Wr.putObj Dd (.deferred none)):=za1 Wr Dd _ (fun h=> Tz ((Iv _).2 (.inl h))) FI.lt;have EC:(∃xs,xs=zak (fl) k1 k2/\J xs Do (Wr.putObj Dd (.deferred none)))\/(∃pre:List En,True/\Jx pre Do (Wr.putObj Dd (.deferred none))):=by
   rcases NC with ⟨h1,h2⟩ | h1
   ·exact .inl ⟨_,h2,hJ _ _ _ _ h1 FV⟩
   exact .inr ⟨_,trivial,QD _ _ _ _ h1 FV⟩
  have HF:=zh (zn (⟨FI.new,fun j h=> zt (FI.lt j h) FV.size⟩:zba D0 W Do (Wr.putObj Dd (.deferred none))) (zn Kb EC));clear NC FI D4 Kb FV EC Iv;refine wpIn_wide.2 ?_;go_wp2_with fail;refine ⟨by simp, .inl ⟨_,_,rfl,run_takeDeferred hK, ?_⟩⟩
  exact ⟨_,results_none rfl _ _ _,⟨_,rfl⟩,Do,HF.out.1,HF.out.2.1,HF.out.2.2⟩
theorem zm6 {t:Tr d} (n:Nat) (hn:3<=n) (AF:zaw w pt (some p0) nn) (ht:zQ w S p0 t) (hR:zcM t) (AC:zac (flatT t)) (hd:d<=15) (hS:∀j,S j->j < ↑w) (k1 k2:Nat)
 (Hy:w.heap[bt]? =some (.cells #[zv pt] 102)) (O9:w.heap[bf]? =some (.cells #[τ (zj k1),ν (zo k1),υ (zp k1)] 111)) (FF:w.heap[bo]? =some (.cells #[τ (zj k2),ν (zo k2),υ (zp k2)] 111))
 (AH:∀j,(j=bt\/j=bf\/j=bo)->¬S j/\j≠pt):
 zdF Fence.wide n prog 158 #[zv bt,zv bf,zv bo] (fun x:En=> #[zd1 x]) (fun ys=> ys=zak (flatT t) k1 k2) (fun _=> True) (fun j=> S j\/j=bt\/j=bf\/j=bo\/j=pt) (zak (flatT t) k1 k2).length w:=by
 obtain ⟨aa,QO,Ki⟩:=zcY hR.lo hR.kids AC k1;have hriseM:zac ((zF t k1).flatMap zS):=by have:=AC;rw [QO] at this;exact this.right
 exact zkc n hn AF hS k1 k2 Hy O9 FF AH (zF t k1) (flatT t) aa QO Ki hriseM (fun w2 bt2 bk2 hk h1 h2=>
  zlf (n - 1) ud ((hk.block pt (.inr rfl)).trans AF) (ht.same (fun j hj=> hk.block j (.inl hj))) hR AC hd (fun j hj=> zt (hS j hj) hk.size) k1 h1 h2)
theorem zle (n:Nat) (AF:zaw w pt none nn) (hS:∀j,S j->j < ↑w) (k:Nat)
 (Hy:w.heap[bt]? =some (.cells #[zv pt] 102)) (Hw:w.heap[bk]? =some (.cells #[τ (zj k),ν (zo k),υ (zp k)] 111)):
 zdF Fence.wide n prog 200 #[zv bt,zv bk] (fun x:ze1 w S=> #[zv x.1.1]) (fun ys=> ys.map (·.1.2)= []) (fun pre=> ∃r,([]:List (Tr 0))=pre.map (·.1.2)++r) (fun j=> S j\/j=bt\/j=bk\/j=pt) ([]:List (Tr 0)).length w:=by
 intro l J Jx D0 W hX hJ QD F7 Iu hY h0;have Sw:=(zg Hy).1;have BZ:pt < ↑w:=(zg AF).1;have yn:=hX.size;have HN:=zh (zdY W);have HX:=zh hX;have VT:=zh Hy;have Cj:=zh AF;have H0:=zh h0;unfold zv at HN ⊢;refine callsIn_of_wp func200 rfl trivial ?_ rfl;refine wpIn_wide.2 ?_;simp only [ntmps200,List.size_toArray,List.length_cons,List.length_nil,Nat.reduceAdd,Nat.reduceSub,Array.replicate_succ,Array.replicate_zero,List.push_toArray,List.append_toArray,List.nil_append,List.cons_append];go_wp2_with fail;refine HN.out.mono ?_;rintro r w2 ⟨rfl,-,Ae⟩;have Mn:w2 bt=some (π (some ↑pt)):=cell_of_row w2 bt 0 _ _ _ ((Ae.block bt ud).trans ((HX.out.block bt (.inr (.inl rfl))).trans VT.out));have G0:=zh (zke (show zaw w2 pt none nn from (Ae.block pt ud).trans ((HX.out.block pt (.inr (.inr (.inr rfl)))).trans Cj.out)));have Ap:=zh Ae;unfold zv at G0;go_wp2_with fail;refine G0.out.mono ?_;rintro r w3 ⟨rfl,rfl⟩;simp only [Option.map_none];go_wp2_with fail;refine wp_loop_rounds 1 ?_;rw [rounds_succ];go_wp2_with fail;refine wp_loop_rounds 1 ?_;rw [rounds_succ];go_wp2;go_end0;exact ⟨⟨_,rfl⟩,D0,⟨fun j hj=> .inl hj,fun j hj=> zt (F7 j hj) Ap.out.size⟩,zD.of_below Ap.out, .inl ⟨[],rfl,hJ _ _ _ _ H0.out (zbD.of_below Ap.out F7)⟩⟩
theorem zm5 (n:Nat) (hn:3<=n) (AF:zaw w pt none nn) (hS:∀j,S j->j < ↑w) (k1 k2:Nat)
 (Hy:w.heap[bt]? =some (.cells #[zv pt] 102)) (O9:w.heap[bf]? =some (.cells #[τ (zj k1),ν (zo k1),υ (zp k1)] 111)) (FF:w.heap[bo]? =some (.cells #[τ (zj k2),ν (zo k2),υ (zp k2)] 111))
 (AH:∀j,(j=bt\/j=bf\/j=bo)->¬S j/\j≠pt):
 zdF Fence.wide n prog 158 #[zv bt,zv bf,zv bo] (fun x:En=> #[zd1 x]) (fun ys=> ys=zak [] k1 k2) (fun _=> True) (fun j=> S j\/j=bt\/j=bf\/j=bo\/j=pt) (zak [] k1 k2).length w:=
 zkc n hn AF hS k1 k2 Hy O9 FF AH [] [] [] rfl (fun x hx=> by simp at hx) List.Pairwise.nil (fun w2 bt2 bk2 hk h1 h2=>
  zle (n - 1) ((hk.block pt (.inr rfl)).trans AF) (fun j hj=> zt (hS j hj) hk.size) k1 h1 h2)
end
end Go.Proofs.YtaoceecfjlkmdaaGreat
