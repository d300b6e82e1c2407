/- Lemmas of the walks, merged and pressed by press.py. Conditions: those of each theorem. -/
import Derived.Test.YtaoceecfjlkmdaaGreatM41
import Derived.Test.YtaoceecfjlkmdaaGreatM33
import Derived.Test.YtaoceecfjlkmdaaGreatM24
import Derived.Test.YtaoceecfjlkmdaaGreatM25
import Derived.Test.YtaoceecfjlkmdaaGreatM28
import Derived.Shelf.Spec.BitsCarry
import Derived.Deep.CutBlock
set_option maxRecDepth 100000
set_option maxHeartbeats 64000000
set_option linter.all false
namespace Go.Proofs.YtaoceecfjlkmdaaGreat
open Tryz
section
open Go.RowKit
theorem zng (x y:Nat) (w:World):
 (callFunc 189 #[.int .u64 (x:Int), .int .u64 (y:Int), .int .u64 0]).run Tryz.prog w= .ok (.value (.tuple #[.int .u64 (((x+18446744073709551616 - y) % 18446744073709551616:Nat):Int), .int .u64 ((if x < y then 1 else 0:Nat):Int)])) w:=by
 rw [run_callFunc_extern Tryz.func189 ue ue ue (e:=sub64Entry) ue];have h:=run_sub64 (P:=Tryz.prog) x y 0 ud w;rw [show ((0:Nat):Int)=0 from rfl] at h;rw [h]
 rfl
theorem zov (x:Nat) (hx:x < 18446744073709551616) (w:World):
 Calls Tryz.prog 142 #[.int .u64 (x:Int), .int .u64 1] w fun e w'=> e= .returned (.int .u64 ((x - 1:Nat):Int))/\w=w':=by
 have hr:=zng x 1 w
 by_cases h0:x=0
 ·subst h0;have Ha:(callFunc 189 #[.int .u64 0, .int .u64 1, .int .u64 0]).run Tryz.prog w= .ok (.value (.tuple #[.int .u64 18446744073709551615, .int .u64 1])) w:=hr;clear hr;go_in;go_wp2_with fail;go_ret;exact ⟨rfl,rfl⟩
 have h1:(x+18446744073709551616 - 1) % 18446744073709551616=x - 1:=ud;rw [h1,if_neg ud] at hr;have Ha:(callFunc 189 #[.int .u64 (x:Int), .int .u64 1, .int .u64 0]).run Tryz.prog w= .ok (.value (.tuple #[.int .u64 ((x - 1:Nat):Int), .int .u64 0])) w:=hr;clear hr h1;generalize ((x - 1:Nat):Int)=z at *;go_in;go_wp2_with fail;go_ret;exact ⟨rfl,rfl⟩
theorem zh5 (n b:Nat) (hn:n < 18446744073709551616) (w:World):
 Calls Tryz.prog 141 #[.int .u64 (n:Int), .int .u64 (b:Int)] w fun e w'=> e= .returned (.int .u64 ((n / b * b:Nat):Int))/\w=w':=by
 by_cases h0:b=0
 ·subst h0;go_in;go_wp2_with fail;go_ret;exact ⟨uh,rfl⟩
 have i0:((b:Int)==0)=false:=by rw [beq_eq_false_iff_ne];omega
 have i1:¬(b:Int)=0:=ud;have i2:(0:Int) < (b:Int):=ud;have hd:n % b+b * (n / b)=n:=Nat.mod_add_div n b;have hm:(n:Int) % (b:Int)=((n % b:Nat):Int):=ud;have aw:n % b<=n:=Nat.mod_le _ _;obtain ⟨q,hq⟩:∃q,q=n / b * b:=⟨_,rfl⟩;have VB:(n:Int) - ((n % b:Nat):Int)=(q:Int):=by rw [hq,Nat.mul_comm];omega
 have hw:IntKind.u64.wrap (q:Int)=(q:Int):=by simp only [IntKind.wrap,IntKind.bits,IntKind.signed];simp;omega
 rw [<- hq];clear hd hq h0;generalize n % b=r at *;go_in;go_wp2_with fail;go_ret;exact ⟨zjs ud,rfl⟩
def znJ (xs cur:List Nat) (i:Nat):Prop:=cur.length=xs.length/\∀m,m < xs.length->cur[m]? =if m < i\/xs.length - i<=m then xs[xs.length - 1 - m]? else xs[m]?
theorem znJ.zero (xs:List Nat):znJ xs xs 0:=⟨rfl,fun m hm=> by rw [if_neg ud]⟩
theorem znJ.done {xs cur:List Nat} {i:Nat} (h:znJ xs cur i) (hi:xs.length<=2 * i+1):cur=xs.reverse:=by
 apply List.ext_getElem?
 intro m;rcases Nat.lt_or_ge m xs.length with hm | hm
 ·rw [h.2 m hm,List.getElem?_reverse hm]
  split
  ·rfl
  congr 1;omega
 rw [List.getElem?_eq_none (by rw [h.1];exact hm),List.getElem?_eq_none (by rw [List.length_reverse];exact hm)]
theorem znJ.next {xs cur:List Nat} {i x y:Nat} (h:znJ xs cur i) (hi:i < xs.length - 1 - i) (hx:cur[i]? =some x) (hy:cur[xs.length - 1 - i]? =some y):znJ xs ((cur.set i y).set (xs.length - 1 - i) x) (i+1):=by
 refine ⟨by simp [h.1],fun m hm=> ?_⟩
 rw [h.2 i ud,if_neg ud] at hx;rw [h.2 _ ud,if_neg ud] at hy;rw [List.getElem?_set,List.getElem?_set];simp only [List.length_set,h.1]
 by_cases e1:xs.length - 1 - i=m
 ·rw [if_pos e1,if_pos ud,if_pos ud,<- hx]
  congr 1;omega
 rw [if_neg e1]
 by_cases e2:i=m
 ·rw [if_pos e2,if_pos ud,if_pos ud,<- hy,e2]
 rw [if_neg e2,h.2 m hm]
 by_cases e3:m < i\/xs.length - i<=m
 ·rw [if_pos e3,if_pos ud]
 rw [if_neg e3,if_neg ud]
theorem zbS.num {T:TypeId} {w:World} {g cap:Nat} {l:List Nat} (h:zbS zb0 1 T w g cap l) {i:Nat} {x:Nat} (hx:l[i]? =some x):w.cell? ⟨g,i,none⟩=some (.int .u64 (x:Int))/\w.frozen? ⟨g,i,none⟩=false:=by
 obtain ⟨b,o,e,hc⟩:=(h.row zah).2 i x hx
 cases e
 have h0:=hc 0 _ rfl;obtain ⟨cur,h1,-⟩:=h.ex;exact ⟨uan,by simp [World.frozen?,h1]⟩
theorem zbS.numSet {T:TypeId} {w:World} {g cap:Nat} {l:List Nat} (h:zbS zb0 1 T w g cap l) {i:Nat} (hi:i < l.length) (v:Nat):zbS zb0 1 T (w.setCell ⟨g,i,none⟩ (.int .u64 (v:Int))) g cap (l.set i v)/\w.grownBy (w.setCell ⟨g,i,none⟩ (.int .u64 (v:Int))) (some g):=by
 obtain ⟨h1,h2,-⟩:=zbS.setC zah h (i:=i) (x:=l[i]) (y:=v) (j:=0) (v:= .int .u64 (v:Int)) (ze hi) uf rfl;simp only [Nat.mul_one,Nat.add_zero] at h1 h2;exact ⟨h1,h2⟩
theorem zh9 {w:World} {B:Nat} {v:Value} {xs:List Nat} (h:zK zb0 1 22 w B v xs) (hl:xs.length<=1000):
 Calls Tryz.prog 143 #[v] w fun e w'=> e= .returned (.tuple #[])/\zK zb0 1 22 w' B v xs.reverse/\w.grownBy w' v.ownBlock:=by
 rcases h.cases with ⟨rfl,rfl⟩ | ⟨g,cap,rfl,Bc,BF,hR⟩
 ·go_in;go_wp2_with fail
  go_loopw [2,3] (fun u2 u3 wr=> u2= .int .i64 0/\u3= .int .i64 (-1)/\w=wr) (fun _ _ _=> 0)
  case atStart=> exact ⟨rfl,rfl,rfl⟩
  case round=>
   obtain ⟨rfl,rfl,rfl⟩:=hrel;go_wp2_with fail;go_end0;exact ⟨rfl,h,World.grownBy.refl _ _⟩
 obtain ⟨n,hn⟩:∃n,n=xs.length:=⟨_,rfl⟩;have HN:=zh (zn hn (zn Bc hR));rw [<- hn] at hl ⊢;clear h Bc BF hR hn;have s1:IntKind.i64.wrap ((n:Int) - 1)=(n:Int) - 1:=zw _ ud
 go_in;go_wp2_with fail
 go_loopw [2,3] (fun u2 u3 wr=> ∃(i:Nat) (cur:List Nat),2 * i<=n+1/\u2= .int .i64 i/\u3= .int .i64 ((n:Int) - 1 - i)/\znJ xs cur i/\zbS zb0 1 22 wr g cap cur/\w.grownBy wr (some g)) (fun u2 _ _=> (n+1) - (intOf u2).toNat)
 case atStart=> exact ⟨0,xs,ud,rfl,by congr 1;omega,znJ.zero xs,HN.out.2.2,World.grownBy.refl _ _⟩
 case round=>
  obtain ⟨i,cur,hi,rfl,rfl,hR,hB,hg⟩:=hrel;have HR:=zh (zn hR (zn hB hg));clear hR hB hg
  by_cases hlt:i < n - 1 - i
  ·obtain ⟨j,hj⟩:∃j,j=n - 1 - i:=⟨_,rfl⟩;have Et:(n:Int) - 1 - (i:Int)=(j:Int):=ud;rw [Et];have Lt:=HR.out.1.1;have Q8:=HN.out.1;obtain ⟨x,hx⟩:∃x,cur[i]? =some x:=⟨_,ze ud⟩;obtain ⟨y,hy⟩:∃y,cur[j]? =some y:=⟨_,ze ud⟩;have DU:=HR.out.1.next (i:=i) (x:=x) (y:=y) ud hx (by rw [<- Q8,<- hj];exact hy)
   rw [<- Q8,<- hj] at DU;obtain ⟨e0,f0⟩:=HR.out.2.1.num hx;obtain ⟨e1,f1⟩:=HR.out.2.1.num hy;obtain ⟨r1,g1⟩:=HR.out.2.1.numSet (i:=i) ud y;have qu:(cur.set i y)[j]? =some y:=by rw [List.getElem?_set_ne ud];exact hy
   obtain ⟨e2,f2⟩:=r1.num qu;obtain ⟨r2,g2⟩:=r1.numSet (i:=j) uo x;have HF:=zh (zn DU (zn r2 (HR.out.2.2.trans (g1.trans g2))));have i0:(0:Int)<=(i:Int):=ud;have i1:(i:Int) < (n:Int):=ud;have i2:(0:Int)<=(j:Int):=ud;have i3:(j:Int) < (n:Int):=ud;have g0:(i:Int) < (j:Int):=ud;have s3:IntKind.i64.wrap ((i:Int)+1)=((i+1:Nat):Int):=by rw [zw _ ud];omega
   have s4:IntKind.i64.wrap ((j:Int) - 1)=(n:Int) - 1 - ((i+1:Nat):Int):=by rw [zw _ ud];omega
   have HJ:=zh hj;clear hx hy DU r1 g1 r2 g2 qu Lt Q8 hj Et;go_wp2_with fail
   go_region_law fail
   all_goals
    go_wp2_with fail
    go_roundw
    case rel=> first | exact ⟨i+1,_,ud,rfl,rfl,HF.out.1,HF.out.2.1,HF.out.2.2⟩ | exact ⟨i+1,_,ud,rfl,rfl,HF.out.1,HF.out.2.1.heap rfl,HF.out.2.2.trans ⟨rfl,rfl,rfl,zl,fun _ _ _=> rfl⟩⟩
    case measure=> simp [intOf];omega
  have g0:¬((i:Int) < (n:Int) - 1 - (i:Int)):=ud;have SL:=HR.out.1.done (by have:=HN.out.1;omega)
  have HD:=zh SL;clear SL;go_wp2_with fail;go_end0;have Af:=HR.out.2.1.own zah (B:=B) HN.out.2.1;rw [HD.out,List.length_reverse,<- HN.out.1] at Af;exact ⟨rfl,Af,HR.out.2.2⟩
theorem zkU {Q:Nat->Prop} {w:World} {h:Ch} {c:Ct} {s0 k:Nat} (hc:zaV Q w h c) (hi:CtI c s0 k) (now win:Nat) (KN:now < 18446744073709551616):
 Calls Tryz.prog 100 #[h.val c, .int .u64 (now:Int), .int .u64 (win:Int)] w fun e w'=> e= .returned (.int .u64 ((c.floor now win:Nat):Int))/\Below w.heap.size w w':=by
 have Aa:Below w.heap.size w (w.alloc (.cells (h.cells c) 54)):=zr.alloc zl _;have hX:=heap_alloc_new w (.cells (h.cells c) 54);obtain ⟨w1,Ab⟩:∃w1,w1=w.alloc (.cells (h.cells c) 54):=⟨_,rfl⟩;rw [<- Ab] at Aa hX;have Ai:w.heap.size < w1.heap.size:=by rw [Ab,World.alloc_size];omega
 have HT:=zh (fun t=> zkm (c:=h.tc) ((hc.below Aa).times.row) (by have:=hi.times.len;omega) (hi.times.rise.imp fun h=> h.2) t)
 have Ak:=zh (zn Aa (zn hX Ai));obtain ⟨x0,x1,x2,x3,x4,x5,x6,x7,x8,-⟩:=zaf hX;have EP:c.floor now win=if now < win then c.fl else match zjz c.times (now - win) with
  | none=> c.fl
  | some s=> max c.fl s:=rfl
 have HE:=zh EP;clear hc hi Aa hX Ai EP;unfold Ch.val at *;unfold Ch.cells at *
 by_cases hlt:now < win
 ·have i0:(now:Int) < (win:Int):=ud
  go_in;go_upto_region 1 with fail;rw [<- Ab];clear Ab;go_wp2_with fail;go_ret;exact ⟨by rw [HE.out,if_pos hlt];rfl,Ak.out.1⟩
 have i0:¬(now:Int) < (win:Int):=ud;have i1:IntKind.u64.wrap ((now:Int) - (win:Int))=((now - win:Nat):Int):=by simp only [IntKind.wrap,IntKind.bits,IntKind.signed];simp;omega
 have F9:(now:Int) - (win:Int)=((now - win:Nat):Int):=ud;have Na:=zh (HT.out (now - win));have HE:=zh (HE.out.trans (if_neg hlt));clear HT hlt;generalize now - win=t at *
 cases hm:zjz c.times t with
 | none=>
   rw [hm] at Na HE
   dsimp only [Option.getD,Option.isSome] at Na
   clear hm;go_in;go_upto_region 1 with fail;rw [<- Ab];clear Ab;go_wp2_with fail;refine Na.out.mono ?_;rintro e w2 ⟨rfl,Ae⟩;obtain ⟨x0,x1,x2,x3,x4,x5,x6,x7,x8,-⟩:=zaf (h:=h) (c:=c) ((Ae.block w.heap.size Ak.out.2.2).trans Ak.out.2.1);have Ap:=zh (Ak.out.1.trans (Ae.mono Ak.out.1.size));clear Ae Na;go_wp2_with fail;go_ret;exact ⟨by rw [HE.out];rfl,Ap.out⟩
 | some s=>
   rw [hm] at Na HE
   dsimp only [Option.getD,Option.isSome] at Na
   have UC:Hid (max (c.fl:Int) (s:Int)=((max c.fl s:Nat):Int)):=zh ud;clear hm;go_in;go_upto_region 1 with fail;rw [<- Ab];clear Ab;go_wp2_with fail;refine Na.out.mono ?_;rintro e w2 ⟨rfl,Ae⟩;obtain ⟨x0,x1,x2,x3,x4,x5,x6,x7,x8,-⟩:=zaf (h:=h) (c:=c) ((Ae.block w.heap.size Ak.out.2.2).trans Ak.out.2.1);have Ap:=zh (Ak.out.1.trans (Ae.mono Ak.out.1.size));clear Ae Na;go_wp2_with fail;go_ret;exact ⟨by rw [HE.out];exact zjs UC.out,Ap.out⟩
end
section
open Go.RowKit
theorem zdW {P:Program} (w:World) (base:Nat) (t ty e:TypeId) (i:TypeInfo) (size:Nat) (ht:P.underlying t=some (.slice e)) (hi:P.info? e=some i)
 (v:Value) (n:Nat) (xs:List Value) (Af:w.ownsRow base e size v n xs) (c:Nat):(Builtin.append_ #[t,t] ty #[v, .slice none 0 c]).run P w= .ok v w:=by
 rcases Af.2 with ⟨rfl,rfl⟩ | ⟨g,cap,cur,rfl,_,_,Ge,_⟩
 ·simp [Builtin.append_,run_underlying ht,sizeOf,typeInfo,hi,Builtin.lenOf,Builtin.firstCells]
 simp [Builtin.append_,run_underlying ht,sizeOf,typeInfo,hi,Builtin.lenOf,Builtin.firstCells,Ge,storeCells]
theorem zK.appAnyU {w:World} {B:Nat} {v:Value} {l:List Nat} (h:zK zb0 1 22 w B v l) {X:Option Addr} {m c:Nat} {l2:List Nat} (hs:zM zb0 1 w X m l2) (hX:X≠none->∃b o,X=some ⟨b,o,none⟩) (hl:l.length+m<=1000000) (hB:B<=w.heap.size):
 ∃v' w',(Builtin.append_ #[51,51] 51 #[v, .slice X m c]).run Tryz.prog w= .ok v' w'/\zK zb0 1 22 w' B v' (l++l2)/\w.grownBy w' v.ownBlock:=by
 obtain ⟨i0,hi,AG,Ai,Ax⟩:=zW zfo
 cases X with
 | none=>
   have hm:m=0:=by
    rcases Nat.eq_zero_or_pos m with h0 | h0
    ·exact h0
    obtain ⟨x,hx⟩:∃x,l2[0]? =some x:=⟨_,ze (by have:=hs.1;omega)⟩
    obtain ⟨b,o,e,-⟩:=hs.2 0 x hx
    cases e
   subst hm;have CC:l2= []:=List.eq_nil_of_length_eq_zero hs.1;subst CC;exact ⟨v,w,zdW w B _ _ _ i0 1 Tryz.underlying51 hi v _ _ h c,by rw [List.append_nil];exact h,World.grownBy.refl w _⟩
 | some ad=>
   obtain ⟨b,o,e⟩:=hX uh
   cases e
   exact zK.app zah uf zdG Tryz.underlying51 hi AG Ai Ax rfl h c hs ud ud hB
theorem zh2 (every lo:Nat):∀f n,(zcZ every lo f n).length<=f
 | 0,_=> by simp [zcZ]
 | f+1,n=> by
   unfold zcZ
   split
   ·simp
   split
   ·simp
   have:=zh2 every lo f (n - every);simp;omega
def NumsF (base:Nat) (w:World) (v:Value) (l:List Nat):Prop:=∃a c,v= .slice a l.length c/\zM zb0 1 w a l.length l/\∀b o,a=some ⟨b,o,none⟩->base<=b
theorem zmH {Q:Nat->Prop} {w:World} {h:Ch} {c:Ct} {s0 k:Nat} (hc:zaV Q w h c) (hi:CtI c s0 k) (fl every:Nat) (EP:fl < 18446744073709551616) (CH:every < 18446744073709551616):
 Calls Tryz.prog 101 #[h.val c, .int .u64 (fl:Int), .int .u64 (every:Int)] w fun e w'=> ∃v,e= .returned v/\NumsF w.heap.size w' v (c.keep fl every)/\Below w.heap.size w w':=by
 have Aa:Below w.heap.size w (w.alloc (.cells (h.cells c) 54)):=zr.alloc zl _;have hX:=heap_alloc_new w (.cells (h.cells c) 54);obtain ⟨w1,Ab⟩:∃w1,w1=w.alloc (.cells (h.cells c) 54):=⟨_,rfl⟩;rw [<- Ab] at Aa hX;have Ai:w1.heap.size=w.heap.size+1:=by rw [Ab,World.alloc_size]
 have HC:=zh (zn (hc.below Aa) hi);have Ak:=zh (zn Aa (zn hX Ai));have HS:=zh (zov fl EP w1);have HD:=zh (zh5 (fl - 1) every ud w1);obtain ⟨n0,Ft⟩:∃n0,n0=(fl - 1) / every * every:=⟨_,rfl⟩;obtain ⟨M,hM⟩:∃M,M=if every=0\/fl=0 then [] else zcZ every c.fl 32 n0:=⟨_,rfl⟩;have FV:c.keep fl every=(c.kept++M.reverse).drop ((c.kept++M.reverse).length - 32):=by rw [hM,Ft];rfl
 have jA:M.length<=32:=by
  rw [hM]
  split
  ·simp
  exact zh2 _ _ _ _
 have YI:n0 < 18446744073709551616:=by
  have:=Nat.div_mul_le_self (fl - 1) every
  omega
 rw [<- Ft] at HD;have HM:=zh (zn hM (zn FV jA));obtain ⟨x0,x1,x2,x3,x4,x5,x6,x7,x8,-⟩:=zaf hX;clear hc hi Aa hX Ai hM FV Ft jA;generalize fl - 1=fl1 at *;unfold Ch.val at *;unfold Ch.cells at *;go_in;go_upto_region 1 with fail;rw [<- Ab];clear Ab;go_wp2_with fail;refine HS.out.mono ?_;rintro e w2 ⟨rfl,rfl⟩;go_wp2_with fail;refine HD.out.mono ?_;rintro e w2 ⟨rfl,rfl⟩;clear HS HD
 go_upto_block 0 with fail
 go_cut [7] from 14 to 40 (fun u7 wx=> zK zb0 1 22 wx w1.heap.size u7 M/\Below w1.heap.size w1 wx)
 case first =>
  go_wp2_with fail
  go_loopw [7,8] (fun u7 u8 wr=> ∃(acc:List Nat) (n:Nat),u8= .int .u64 (n:Nat)/\n < 18446744073709551616/\zK zb0 1 22 wr w1.heap.size u7 acc/\Below w1.heap.size w1 wr/\acc.length<=32/\Hid (acc++(if every=0\/fl=0 then [] else zcZ every c.fl (32 - acc.length) n)=M)) (fun _ u8 _=> (intOf u8).toNat)
  case atStart=> exact ⟨[],n0,rfl,YI,World.ownsRow_nil _ _ _ _,Below.refl _ _,uh,zh (by rw [HM.out.1];rfl)⟩
  case round =>
   obtain ⟨acc,n,rfl,hn,Af,FO,U9,HA⟩:=hrel;have HO:=zh (zn Af (zn FO U9));have x3:wr.cell? ⟨w.heap.size,3,none⟩=some (.int .u64 (c.fl:Int)):=(FO.cell (p:=⟨w.heap.size,3,none⟩) (by have:=Ak.out.2.2;show w.heap.size < _;omega)).trans x3
   obtain ⟨a7,n7,c7,rfl⟩:=Af.form;have QW:n7=acc.length:=by
        obtain ⟨a',c',e,-⟩:=Af.row zah
        cases e;rfl
   subst QW;clear Af FO
   by_cases h1:every=0
   ·have i1:¬(0:Int) < (every:Int):=ud;have EH:Hid (acc=M):=zh (by have:=HA.out;rw [if_pos (.inl h1),List.append_nil] at this;exact this)
    clear h1;go_wp2_with fail
    go_meet
    case rel=> rw [<- EH.out];exact ⟨HO.out.1,HO.out.2.1⟩
   have i1 :(0:Int) < (every:Int):=ud
   by_cases h2:fl=0
   ·have i2:¬(0:Int) < (fl:Int):=ud;have EH:Hid (acc=M):=zh (by have:=HA.out;rw [if_pos (.inr h2),List.append_nil] at this;exact this)
    clear h1 h2;go_wp2_with fail
    go_meet
    case rel=> rw [<- EH.out];exact ⟨HO.out.1,HO.out.2.1⟩
   have i2 :(0:Int) < (fl:Int):=ud;have HA:Hid (acc++zcZ every c.fl (32 - acc.length) n=M):=zh (by have:=HA.out;rw [if_neg ud] at this;exact this)
   by_cases h3:n < c.fl
   ·have i3:¬(c.fl:Int)<=(n:Int):=ud;have EH:Hid (acc=M):=zh (by
     have:=HA.out;rw [show zcZ every c.fl (32 - acc.length) n= [] by cases 32 - acc.length <;> simp [zcZ,h3],List.append_nil] at this
     exact this)
    clear h1 h2 h3;go_wp2_with fail
    go_meet
    case rel=> rw [<- EH.out];exact ⟨HO.out.1,HO.out.2.1⟩
   have i3:(c.fl:Int)<=(n:Int):=ud
   by_cases h4:acc.length=32
   ·have i4:¬(acc.length:Int) < 32:=ud;have EH:Hid (acc=M):=zh (by
         have:=HA.out;rw [h4,Nat.sub_self] at this
         simpa [zcZ] using this)
    clear h1 h2 h3 h4;go_wp2_with fail
    go_meet
    case rel=> rw [<- EH.out];exact ⟨HO.out.1,HO.out.2.1⟩
   have i4:(acc.length:Int) < 32:=ud;obtain ⟨v',w',hr,FJ,hg⟩:=zK.pushG zah uf zdG Tryz.underlying51 zfo rfl uf HO.out.1 n ud HO.out.2.1.size;have Gz:=Below.own HO.out.2.1 HO.out.1 hg zl HO.out.2.1.size;have Vj:32 - acc.length=(32 - (acc++ [n]).length)+1:=uo;unfold zb0 at hr
   by_cases h5:n < every
   ·have i5:(n:Int) < (every:Int):=ud;have EH:Hid (acc++ [n]=M):=zh (by
         have:=HA.out;rw [Vj,zcZ,if_neg h3,if_pos h5] at this;exact this)
    have HF:=zh (zn FJ Gz);clear h1 h2 h3 h4 h5 Vj FJ Gz hg
    go_wp2_with (at_builtin;refine za rfl _ _ _ rfl hr ?_)
    go_meet
    case rel=> rw [<- EH.out];exact ⟨HF.out.1,HF.out.2⟩
   have i5:¬(n:Int) < (every:Int):=ud;have EH:Hid ((acc++ [n])++(if every=0\/fl=0 then [] else zcZ every c.fl (32 - (acc++ [n]).length) (n - every))=M):=zh (by
        have:=HA.out;rw [Vj,zcZ,if_neg h3,if_neg h5] at this;rw [if_neg ud,List.append_assoc,List.singleton_append];exact this)
   have i6:IntKind.u64.wrap ((n:Int) - (every:Int))=((n - every:Nat):Int):=by simp only [IntKind.wrap,IntKind.bits,IntKind.signed];simp;omega
   have i7:(n:Int) - (every:Int)=((n - every:Nat):Int):=ud;have HF:=zh (zn FJ (zn Gz (zn h1 h5)));clear h1 h2 h3 h4 h5 Vj FJ Gz hg
   go_wp2_with (at_builtin;refine za rfl _ _ _ rfl hr ?_)
   go_roundw
   case rel=> exact ⟨acc++ [n],n - every,by first | rfl | (congr 1),ud,HF.out.1,HF.out.2.1,uo,EH⟩
   case measure=> have:=HF.out.2.2;simp [intOf];omega
 case rest=>
  obtain ⟨Af,AH⟩:=hcut;have HR:=zh (zh9 Af (by have:=HM.out.2.2;omega))
  have HO:=zh (zn Af AH);clear Af AH;go_wp2_with fail;refine HR.out.mono ?_;rintro e w3 ⟨rfl,A6,AM⟩;obtain ⟨R,Nm⟩:∃R,R=M.reverse:=⟨_,rfl⟩;rw [<- Nm] at A6;have Xo:R.length<=32:=by rw [Nm,List.length_reverse];exact HM.out.2.2
  have Rw:=zh (zn Nm Xo);clear Nm Xo;have Am:=Below.own HO.out.2 HO.out.1 AM zl HO.out.2.size;have x7:w3.cell? ⟨w.heap.size,7,none⟩=some (.slice h.ka c.kept.length h.kc):=(Am.cell (p:=⟨w.heap.size,7,none⟩) (by have:=Ak.out.2.2;show w.heap.size < _;omega)).trans x7
  have By:=zh (zd6 (c:=h.kc) (HC.out.1.kept.row.below Am zl) (by have:=HC.out.2.klen;omega))
  have H3:=zh (zn A6 Am);clear A6 AM Am HR HO;go_wp2_with fail;refine By.out.mono ?_;rintro e w4 ⟨v4,rfl,Bf,Ar⟩;obtain ⟨am,cm,rfl,Zg,-,Ml⟩:=H3.out.1.row zah;obtain ⟨v5,w5,P5,AV,Bj⟩:=zK.appAnyU Bf (X:=am) (c:=cm) (Zg.below Ar zl) (fun Aj=> by
   cases am with
   | none=> exact absurd rfl Aj
   | some ad=>
     rcases H3.out.1.2 with ⟨e,-⟩ | ⟨g,_,_,e,-⟩
     ·cases e
     cases e;exact ⟨_,_,rfl⟩) (by have:=Rw.out.2;have:=HC.out.2.klen;omega) Ar.size
  have Bt:Below w.heap.size w w4:=(Ak.out.1.trans (H3.out.2.mono Ak.out.1.size)).trans (Ar.mono uav);have Ag:Below w.heap.size w w5:=Below.own Bt Bf Bj uav Bt.size;have Ac:(c.kept++R).length<=64:=by have:=Rw.out.2;have:=HC.out.2.klen;rw [List.length_append];omega
  have Dr:w.heap.size<=w3.heap.size:=uav;obtain ⟨X,hX⟩:∃X,X=c.kept++R:=⟨_,rfl⟩;rw [<- hX] at AV Ac;obtain ⟨K,hK⟩:∃K,K=X.length - 32:=⟨_,rfl⟩;have yb:max ((X.length:Int) - 32) 0=(K:Int):=ud;have i1:IntKind.i64.wrap ((X.length:Int) - 32)=(X.length:Int) - 32:=zw _ ud;have i2:(0:Int)<=(K:Int):=ud;have H5:=zh (zn AV (zn Ag (zn Dr (zn hK hX))));rcases AV.cases with ⟨rfl,U3⟩ | ⟨g,cap,rfl,Bc,BF,UY⟩
  ·have vX:K=0:=by rw [U3] at hK;simpa using hK
   have Dm:X.length=0:=by rw [U3];rfl
   have vI:=zh U3;have bD:=zh Dm;subst vX;clear Bf Ar Zg Ml AV Bj Bt Ag hX hK U3 Dm By Ac yb i1
   go_wp2_with (at_builtin;refine za rfl _ _ _ rfl P5 ?_)
   go_ret;refine ⟨_,rfl, ?_,H5.out.2.1⟩;rw [HM.out.2.1,<- Rw.out.1,<- H5.out.2.2.2.2,vI.out];exact ⟨none,0,rfl,zM.nil _ _ _ _,fun b o e=> by cases e⟩
  have BO:=UY.le;have Ce:cap<=9223372036854775807:=by have:=UY.cm;unfold maxLen at this;omega
  have Ah:=UY.row zah;have BJ:(X.drop K).length=X.length - K:=List.length_drop;have hd:=Ah.drop K;rw [Nat.zero_add,Nat.mul_one] at hd;have i3:(K:Int)<=(X.length:Int):=ud;have i4:(K:Int)<=(cap:Int):=ud;have HD:=zh (zn hd (zn BJ (zn Bc BO)));generalize CI:X.length=xl at *;have UL:=zh CI;have i5:K<=xl:=ud;have i6:xl<=cap:=BO;clear Bf Ar Zg Ml AV Bj Bt Ag hX hK By Ac Ah hd BJ Bc BF UY BO CI
  by_cases yy:cap=K
  ·have DP:xl=0:=by have:=H5.out.2.2.2.1;omega
   have BX:K=0:=by have:=H5.out.2.2.2.1;omega
   have Em:cap=0:=ud;have Ws:=zh (List.eq_nil_of_length_eq_zero (UL.out.trans DP));subst DP BX Em;clear yy
   go_wp2_with (at_builtin;refine za rfl _ _ _ rfl P5 ?_)
   go_ret;refine ⟨_,rfl, ?_,H5.out.2.1⟩;rw [HM.out.2.1,<- Rw.out.1,<- H5.out.2.2.2.2,Ws.out];exact ⟨some ⟨g,0,none⟩,_,rfl,⟨rfl,fun i r hr=> by simp at hr⟩,fun b o e=> by cases e;have:=HD.out.2.2.1;have:=H5.out.2.2.1;omega⟩
  go_wp2_with (at_builtin;refine za rfl _ _ _ rfl P5 ?_)
  go_ret;rw [HM.out.2.1,<- Rw.out.1,<- H5.out.2.2.2.2,UL.out,<- H5.out.2.2.2.1];refine ⟨_,rfl,⟨some ⟨g,K,none⟩,cap - K,by rw [HD.out.2.1];rfl,by rw [HD.out.2.1];exact HD.out.1,fun b o e=> by cases e;have:=HD.out.2.2.1;have:=H5.out.2.2.1;omega⟩,H5.out.2.1⟩
end
end Go.Proofs.YtaoceecfjlkmdaaGreat
