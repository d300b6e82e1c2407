/- Lemmas of the walks, merged and pressed by press.py. Conditions: those of each theorem. -/
import Derived.Lib.Small
import Derived.Deep.RegionHeld
import Derived.Test.YtaoceecfjlkmdaaGreatM1
set_option maxRecDepth 100000
set_option maxHeartbeats 64000000
set_option linter.all false
namespace Go.Proofs.YtaoceecfjlkmdaaGreat
open Tryz
variable {ks:List Nat} {B C b cc cn d i k kc kn n p vc vn:Nat} {S S':Nat→Prop} {a ca ka va:Option Addr} {P:Program} {e:TypeId} {v v':Value} {w w' w0:World}
section
open Go.RowKit
theorem zcj (x:Int) (w:World):χ 214 #[τ x] w fun e w'=> e=ρ (.bool false)/\w'=w:=by
 go_in;go_wp2;go_ret;exact ⟨uh,rfl⟩
theorem ziF (x y:Int) (w:World):χ 180 #[τ x,τ y] w fun e w'=> e=ρ (ι (Lib.compareInt x y))/\w'=w:=by
 unfold Lib.compareInt
 by_cases h1:x < y
 ·have d1:decide (x < y)=true:=decide_eq_true h1;rw [if_pos h1];go_in;go_wp2_with fail;refine (zcj x w).mono ?_;rintro e w2 ⟨rfl,rfl⟩;go_wp2_with fail;refine (zcj y w2).mono ?_;rintro e w3 ⟨rfl,rfl⟩;go_wp2;go_ret;exact ⟨rfl,rfl⟩
 have d1:decide (x < y)=false:=decide_eq_false h1;rw [if_neg h1]
 by_cases h2:x > y
 ·have d2:decide (x > y)=true:=decide_eq_true h2;rw [if_pos h2];go_in;go_wp2_with fail;refine (zcj x w).mono ?_;rintro e w2 ⟨rfl,rfl⟩;go_wp2_with fail;refine (zcj y w2).mono ?_;rintro e w3 ⟨rfl,rfl⟩;go_wp2;go_ret;exact ⟨rfl,rfl⟩
 have d2:decide (x > y)=false:=decide_eq_false h2;rw [if_neg h2];go_in;go_wp2_with fail;refine (zcj x w).mono ?_;rintro e w2 ⟨rfl,rfl⟩;go_wp2_with fail;refine (zcj y w2).mono ?_;rintro e w3 ⟨rfl,rfl⟩;go_wp2;go_ret;exact ⟨rfl,rfl⟩
theorem zck (x:Int) (w:World):χ 215 #[ν x] w fun e w'=> e=ρ (.bool false)/\w'=w:=by
 go_in;go_wp2;go_ret;exact ⟨uh,rfl⟩
theorem ziG (x y:Int) (w:World):χ 181 #[ν x,ν y] w fun e w'=> e=ρ (ι (Lib.compareInt x y))/\w'=w:=by
 unfold Lib.compareInt
 by_cases h1:x < y
 ·have d1:decide (x < y)=true:=decide_eq_true h1;rw [if_pos h1];go_in;go_wp2_with fail;refine (zck x w).mono ?_;rintro e w2 ⟨rfl,rfl⟩;go_wp2_with fail;refine (zck y w2).mono ?_;rintro e w3 ⟨rfl,rfl⟩;go_wp2;go_ret;exact ⟨rfl,rfl⟩
 have d1:decide (x < y)=false:=decide_eq_false h1;rw [if_neg h1]
 by_cases h2:x > y
 ·have d2:decide (x > y)=true:=decide_eq_true h2;rw [if_pos h2];go_in;go_wp2_with fail;refine (zck x w).mono ?_;rintro e w2 ⟨rfl,rfl⟩;go_wp2_with fail;refine (zck y w2).mono ?_;rintro e w3 ⟨rfl,rfl⟩;go_wp2;go_ret;exact ⟨rfl,rfl⟩
 have d2:decide (x > y)=false:=decide_eq_false h2;rw [if_neg h2];go_in;go_wp2_with fail;refine (zck x w).mono ?_;rintro e w2 ⟨rfl,rfl⟩;go_wp2_with fail;refine (zck y w2).mono ?_;rintro e w3 ⟨rfl,rfl⟩;go_wp2;go_ret;exact ⟨rfl,rfl⟩
theorem zbJ (x:Int) (w:World):χ 212 #[υ x] w fun e w'=> e=ρ (.bool false)/\w'=w:=by
 go_in;go_wp2;go_ret;exact ⟨uh,rfl⟩
theorem ziH (x y:Int) (w:World):χ 182 #[υ x,υ y] w fun e w'=> e=ρ (ι (Lib.compareInt x y))/\w'=w:=by
 unfold Lib.compareInt
 by_cases h1:x < y
 ·have d1:decide (x < y)=true:=decide_eq_true h1;rw [if_pos h1];go_in;go_wp2_with fail;refine (zbJ x w).mono ?_;rintro e w2 ⟨rfl,rfl⟩;go_wp2_with fail;refine (zbJ y w2).mono ?_;rintro e w3 ⟨rfl,rfl⟩;go_wp2;go_ret;exact ⟨rfl,rfl⟩
 have d1:decide (x < y)=false:=decide_eq_false h1;rw [if_neg h1]
 by_cases h2:x > y
 ·have d2:decide (x > y)=true:=decide_eq_true h2;rw [if_pos h2];go_in;go_wp2_with fail;refine (zbJ x w).mono ?_;rintro e w2 ⟨rfl,rfl⟩;go_wp2_with fail;refine (zbJ y w2).mono ?_;rintro e w3 ⟨rfl,rfl⟩;go_wp2;go_ret;exact ⟨rfl,rfl⟩
 have d2:decide (x > y)=false:=decide_eq_false h2;rw [if_neg h2];go_in;go_wp2_with fail;refine (zbJ x w).mono ?_;rintro e w2 ⟨rfl,rfl⟩;go_wp2_with fail;refine (zbJ y w2).mono ?_;rintro e w3 ⟨rfl,rfl⟩;go_wp2;go_ret;exact ⟨rfl,rfl⟩
def or3 (a b c:Int):Int:=if a=0 then (if b=0 then c else b) else a
theorem zpt (b:Nat) (x y z:Int) (w:World) (hx:w b=some ↑x) (hy:w (b 1 ())=some ↑y) (hz:w (b 2 ())=some ↑z):
 χ 179 #[σ (some ↑b) 3 3] w fun e w'=> e=ρ (ι (or3 x y z))/\w'=w:=by
 by_cases h1:x=0
 ·subst h1
  by_cases h2:y=0
  ·subst h2;have BQ:or3 0 0 z=z:=by simp [or3]
   rw [BQ]
   by_cases h3:z=0
   ·subst h3;go_in;go_wp2_with fail;refine wp_loop_rounds 4 ?_;rw [rounds_succ];go_wp2_with fail;rw [rounds_succ];go_wp2_with fail;rw [rounds_succ];go_wp2_with fail;rw [rounds_succ];go_wp2;go_ret;exact ⟨rfl,rfl⟩
   have d3:(z !=0)=true:=by simpa using h3
   go_in;go_wp2_with fail;refine wp_loop_rounds 4 ?_;rw [rounds_succ];go_wp2_with fail;rw [rounds_succ];go_wp2_with fail;rw [rounds_succ];go_wp2;go_ret;exact ⟨rfl,rfl⟩
  have d2:(y !=0)=true:=by simpa using h2
  have BQ:or3 0 y z=y:=by simp [or3,h2]
  rw [BQ];go_in;go_wp2_with fail;refine wp_loop_rounds 4 ?_;rw [rounds_succ];go_wp2_with fail;rw [rounds_succ];go_wp2;go_ret;exact ⟨rfl,rfl⟩
 have d1:(x !=0)=true:=uao;have BQ:or3 x y z=x:=by simp [or3,h1]
 rw [BQ];go_in;go_wp2_with fail;refine wp_loop_rounds 4 ?_;rw [rounds_succ];go_wp2;go_ret;exact ⟨rfl,rfl⟩
theorem zd4 (w:World) (x y z:Int) (t:TypeId):(w.alloc (.cells #[↑x,↑y,↑z] t)) w=some ↑x/\(w.alloc (.cells #[↑x,↑y,↑z] t)) ⟨↑w,1,none⟩=some ↑y/\(w.alloc (.cells #[↑x,↑y,↑z] t)) ⟨↑w,2,none⟩=some ↑z:=by
 refine ⟨?_, ?_, ?_⟩ <;> simp
theorem zu {p:Addr}  (h:w p=some v) (o:Obj):(w.alloc o) p=some v:=by
 have hlt:=zb _ _ h;rw [((Below.refl ↑w w).alloc zl o).cell hlt];exact h
def zj (k:Nat):Nat:=k / 79228162514264337593543950336
def zo (k:Nat):Nat:=k / 18446744073709551616 % 4294967296
def zp (k:Nat):Nat:=k % 18446744073709551616
def za2 (k:Nat):Value:= .agg #[τ (zj k),ν (zo k),υ (zp k)]
def zjM (a b:Nat):Int:=if a < b then -1 else if b < a then 1 else 0
theorem zpi (a b:Nat):or3 (Lib.compareInt (zj a) (zj b)) (Lib.compareInt (zo a) (zo b)) (Lib.compareInt (zp a) (zp b))=zjM a b:=by
 have ha:a=zj a * 79228162514264337593543950336+zo a * 18446744073709551616+zp a:=by unfold zj zo zp;omega
 have hb:b=zj b * 79228162514264337593543950336+zo b * 18446744073709551616+zp b:=by unfold zj zo zp;omega
 have a1:zo a < 4294967296:=by unfold zo;omega
 have a2:zp a < 18446744073709551616:=by unfold zp;omega
 have b1:zo b < 4294967296:=by unfold zo;omega
 have b2:zp b < 18446744073709551616:=by unfold zp;omega
 generalize zj a=va at *;generalize zo a=ka at *;generalize zp a=sa at *;generalize zj b=vb at *;generalize zo b=kb at *;generalize zp b=sb at *;subst ha;subst hb;unfold or3 Lib.compareInt zjM
 by_cases e1:va=vb
 ·subst e1
  by_cases e2:ka=kb
  ·subst e2
   by_cases e3:sa=sb
   ·subst e3;simp
   by_cases e4:sa < sb
   ·rw [if_pos uh,if_pos uh,if_pos ud,if_pos ud]
   rw [if_pos uh,if_pos uh,if_neg ud,if_pos ud,if_neg ud,if_pos ud]
  by_cases e4:ka < kb
  ·rw [if_pos uh,if_pos (show (ka:Int) < (kb:Int) by omega),if_pos (show va * 79228162514264337593543950336+ka * 18446744073709551616+sa < va * 79228162514264337593543950336+kb * 18446744073709551616+sb by omega)]
   simp
  have e5:kb < ka:=ud;have e6:¬(ka:Int) < (kb:Int):=ud;have e7:(ka:Int) > (kb:Int):=ud;rw [if_neg (show ¬va * 79228162514264337593543950336+ka * 18446744073709551616+sa < va * 79228162514264337593543950336+kb * 18446744073709551616+sb by omega),if_pos (show va * 79228162514264337593543950336+kb * 18446744073709551616+sb < va * 79228162514264337593543950336+ka * 18446744073709551616+sa by omega)]
  simp [e6,e7]
 by_cases e4:va < vb
 ·have e6:(va:Int) < (vb:Int):=ud;rw [if_pos (show va * 79228162514264337593543950336+ka * 18446744073709551616+sa < vb * 79228162514264337593543950336+kb * 18446744073709551616+sb by omega)]
  simp [e6]
 have e6:¬(va:Int) < (vb:Int):=ud;have e7:(va:Int) > (vb:Int):=ud;rw [if_neg (show ¬va * 79228162514264337593543950336+ka * 18446744073709551616+sa < vb * 79228162514264337593543950336+kb * 18446744073709551616+sb by omega),if_pos (show vb * 79228162514264337593543950336+kb * 18446744073709551616+sb < va * 79228162514264337593543950336+ka * 18446744073709551616+sa by omega)]
 simp [e6,e7]
def zoT (B:Nat) (W':World) (a1 a2 a3 b1 b2 b3:Int):Prop:=W' B=some (τ a1)/\W' (B 1 ())=some (ν a2)/\W' (B 2 ())=some (υ a3)/\W' ⟨B+1,0,none⟩=some (τ b1)/\W' ⟨B+1,1,none⟩=some (ν b2)/\W' ⟨B+1,2,none⟩=some (υ b3)
theorem zoT.alloc {a1 a2 an b1 b2 bn:Int} (h:zoT B w a1 a2 an b1 b2 bn) (o:Obj):zoT B (w.alloc o) a1 a2 an b1 b2 bn:=
 ⟨zu h.1 o,zu h.2.1 o,zu h.2.2.1 o,zu h.2.2.2.1 o,zu h.2.2.2.2.1 o,zu h.2.2.2.2.2 o⟩
theorem zcb (a b:Nat) (W:World):
 χ 132 #[za2 a,za2 b] W fun e w'=> e=ρ (ι (zjM a b))/\θ W W w':=by
 rw [<- zpi];unfold za2;generalize (zj a:Int)=a1;generalize (zo a:Int)=a2;generalize (zp a:Int)=an;generalize (zj b:Int)=b1;generalize (zo b:Int)=b2;generalize (zp b:Int)=bn;generalize F9:Lib.compareInt a1 b1=c1 at *;generalize Bd:Lib.compareInt a2 b2=c2 at *;generalize G4:Lib.compareInt an bn=c3 at *;have ho:=fun b' W'=> zpt b' c1 c2 c3 W';generalize or3 c1 c2 c3=r at *;go_enter func132,ntmps132;go_wp2_with fail;have hx:θ W W ((W.alloc (.cells #[τ a1,ν a2,υ an] 111)).alloc (.cells #[τ b1,ν b2,υ bn] 111)):=(zr.alloc zl _).alloc (by simp) _
 have hS:zoT ↑W ((W.alloc (.cells #[τ a1,ν a2,υ an] 111)).alloc (.cells #[τ b1,ν b2,υ bn] 111)) a1 a2 an b1 b2 bn:=by
  refine ⟨?_, ?_, ?_, ?_, ?_, ?_⟩ <;> simp
 generalize ((W.alloc (.cells #[τ a1,ν a2,υ an] 111)).alloc (.cells #[τ b1,ν b2,υ bn] 111))=WB at *;generalize hB:↑W=B at *;have DC:∀o,zoT B (WB.alloc o) a1 a2 an b1 b2 bn:=fun o=> hS.alloc o;have CJ:∀o,zoT B (WB.alloc o).drew a1 a2 an b1 b2 bn:=fun o=> hS.alloc o;unfold zoT at hS DC CJ;have A5:=ho ↑WB (WB.alloc (.cells #[↑c1,↑c2,↑c3] 3)).drew (zd4 WB _ _ _ _).1 (zd4 WB _ _ _ _).2.1 (zd4 WB _ _ _ _).2.2;clear ho
 go_region_held (fun W'=> W' B=some (τ a1)/\W' ⟨B,1,()⟩=some (ν a2)/\W' ⟨B,2,()⟩=some (υ an)/\W' ⟨B+1,0,none⟩=some (τ b1)/\W' ⟨B+1,1,none⟩=some (ν b2)/\W' ⟨B+1,2,none⟩=some (υ bn)) (first | exact hS | exact DC _ | exact CJ _)
  (first
    | (go_at_call 180;refine (ziF _ _ _).mono ?_;rintro e w5 ⟨rfl,rfl⟩)
    | (go_at_call 181;refine (ziG _ _ _).mono ?_;rintro e w5 ⟨rfl,rfl⟩)
    | (go_at_call 182;refine (ziH _ _ _).mono ?_;rintro e w5 ⟨rfl,rfl⟩)
    | (go_at_call 179;refine A5.mono ?_;rintro e w5 ⟨rfl,rfl⟩))
 all_goals
  go_wp2_with fail;go_ret;refine ⟨rfl, ?_⟩;rw [hB];have hh:=hx.alloc (by have:=hx.size;omega) (.cells #[↑c1,↑c2,↑c3] 3)
  exact ⟨hh.os,hh.tape,hh.output,hh.size,hh.block⟩
end
section
open Go.RowKit
theorem Below.drewB (h:θ B w0 w):θ B w0 w.drew:=⟨h.os,h.tape,h.output,h.size,h.block⟩
def ziq (w:World) (a:Option Addr) (n:Nat) (ks:List Nat):Prop:=
 ks.length=n/\∀i k,ks[i]? =some k->∃b o,a=some ⟨b,o,()⟩/\w ⟨b,o+i * 3,()⟩=some (τ (zj k))/\w ⟨b,o+i * 3+1,()⟩=some (ν (zo k))/\w ⟨b,o+i * 3+2,()⟩=some (υ (zp k))
theorem ziq.below (h:ziq w a n ks) (hb:θ C w w') (hC:↑w<=C):ziq w' a n ks:=by
 refine ⟨h.1,fun i r hr=> ?_⟩;obtain ⟨b,o,ha,h1,h2,h3⟩:=h.2 i r hr;have hlt:=zb _ _ h1;simp at hlt;refine ⟨b,o,ha, ?_, ?_, ?_⟩
 ·rw [hb.cell (p:=(b (o+i * 3) ())) (by show b < C;omega)];exact h1
 ·rw [hb.cell (p:=(b (o+i * 3+1) ())) (by show b < C;omega)];exact h2
 rw [hb.cell (p:=(b (o+i * 3+2) ())) (by show b < C;omega)];exact h3
theorem ziq.list (h:ziq w a n ks) (i:Nat) (hi:i < n):∃b o k,a=some ⟨b,o,()⟩/\ks[i]? =some k/\w ⟨b,o+i * 3,()⟩=some (τ (zj k))/\w ⟨b,o+i * 3+1,()⟩=some (ν (zo k))/\w ⟨b,o+i * 3+2,()⟩=some (υ (zp k)):=by
 have hl:i < ks.length:=by rw [h.1];exact hi
 obtain ⟨b,o,ha,h1,h2,h3⟩:=h.2 i ks[i] (ze hl);exact ⟨b,o,ks[i],ha,ze hl,h1,h2,h3⟩
def lbN (ks:List Nat) (k:Nat):Nat:=(ks.filter fun x=> decide (x < k)).length
theorem zpV (hi:i<=ks.length) (h1:∀j x,j < i->ks[j]? =some x->x < k) (h2:∀j x,i<=j->ks[j]? =some x->k<=x):lbN ks k=i:=by
 unfold lbN;have e:ks.filter (fun x=> decide (x < k))=ks.take i:=by
  conv=> lhs;rw [<- List.take_append_drop i ks]
  rw [List.filter_append];have ha:(ks.take i).filter (fun x=> decide (x < k))=ks.take i:=by
   rw [List.filter_eq_self];intro x hx;obtain ⟨j,hj⟩:=List.getElem?_of_mem hx;have FT:=(zi hj).1;rw [List.length_take] at FT;rw [List.getElem?_take_of_lt ud] at hj
   simpa using h1 j x ud hj
  have hb:(ks.drop i).filter (fun x=> decide (x < k))= []:=by
   rw [List.filter_eq_nil_iff];intro x hx;obtain ⟨j,hj⟩:=List.getElem?_of_mem hx;rw [List.getElem?_drop] at hj;have:=h2 _ x ud hj;simp;omega
  rw [ha,hb,List.append_nil]
 rw [e,List.length_take]
 omega
theorem zl5 (a b:Nat):(zjM a b < 0)↔a < b:=by
 unfold zjM
 by_cases h:a < b
 ·simp [h]
 by_cases h2:b < a <;> simp [h,h2]
theorem zo0 (a b:Nat):(zjM a b=0)↔a=b:=by
 unfold zjM
 by_cases h:a < b
 ·simp [h];omega
 by_cases h2:b < a
 ·simp [h,h2];omega
 simp [h,h2];omega
theorem zdw (a:Option Addr) (n c:Nat) (ks:List Nat) (k:Nat) (w:World) (h:ziq w a n ks) (hn:n<=1000000) (hs:ks.Pairwise (· < ·)):
 χ 131 #[σ a n c,za2 k, .func (.func 132) #[] #[]] w fun e w'=> e=ρ (.tuple #[ι (lbN ks k:Nat), .bool (decide (k ∈ ks))])/\θ w.heap.size w w':=by
 have Aq:θ w.heap.size w (w.alloc (.cells #[τ (zj k),ν (zo k),υ (zp k)] 111)):=zr.alloc zl _;have x0:(w.alloc (.cells #[τ (zj k),ν (zo k),υ (zp k)] 111)).cell? ⟨w.heap.size,0,none⟩=some (τ (zj k)):=by simp
 have x1:(w.alloc (.cells #[τ (zj k),ν (zo k),υ (zp k)] 111)).cell? ⟨w.heap.size,1,none⟩=some (ν (zo k)):=by simp
 have x2:(w.alloc (.cells #[τ (zj k),ν (zo k),υ (zp k)] 111)).cell? ⟨w.heap.size,2,none⟩=some (υ (zp k)):=by simp
 have AR:(w.alloc (.cells #[τ (zj k),ν (zo k),υ (zp k)] 111)).heap.size=w.heap.size+1:=by simp
 have hh:=h.below Aq zl;have Ac:=h.1;have HH:=zh hh;have HS:=zh hs;clear h hh hs;unfold za2;go_enter func131,ntmps131;go_wp2_with fail;generalize w.alloc (.cells #[τ (zj k),ν (zo k),υ (zp k)] 111)=w0 at *;generalize hB:w.heap.size=B at *
 go_loopw [9,10] (fun u9 u10 wr=> ∃i j:Nat,i<=j/\j<=n/\u9= ι i/\u10= ι j/\(∀t x,t < i->ks[t]? =some x->x < k)/\(∀t x,j<=t->ks[t]? =some x->k<=x)/\θ w0.heap.size w0 wr) (fun u9 u10 _=> (intOf u10).toNat - (intOf u9).toNat)
 case atStart=> exact ⟨0,n,by omega,by omega,rfl,rfl,fun t x ht _=> by omega,fun t x ht hx=> by have:=(zi hx).1;omega,Below.refl _ _⟩
 case round=>
  obtain ⟨i,j,Fr,kO,rfl,rfl,Gd,JI,AA⟩:=hrel;have z0:wr.cell? ⟨B,0,none⟩=some (τ (zj k)):=by rw [AA.cell (p:=⟨B,0,none⟩) (by show B < w0.heap.size;omega)];exact x0
  have z1:wr.cell? ⟨B,1,none⟩=some (ν (zo k)):=by rw [AA.cell (p:=⟨B,1,none⟩) (by show B < w0.heap.size;omega)];exact x1
  have z2:wr.cell? ⟨B,2,none⟩=some (υ (zp k)):=by rw [AA.cell (p:=⟨B,2,none⟩) (by show B < w0.heap.size;omega)];exact x2
  have Om:=zh Gd;have Oi:=zh JI;clear Gd JI
  by_cases hlt:i < j
  ·have ME:(i:Int) < (j:Int):=by omega
   have Ab:IntKind.i64.wrap ((i:Int)+(j:Int))=(i:Int)+(j:Int):=zw _ (by omega)
   obtain ⟨m,hm⟩:∃m:Nat,((i:Int)+(j:Int)) / 2=(m:Int):=⟨(i+j) / 2,by omega⟩
   have CT:i<=m:=by omega
   have Fs:m < j:=by omega
   go_wp2_with fail;clear hm Ab;have QV:(m:Int) < (n:Int):=by omega
   have DT:(0:Int)<=(m:Int):=by omega
   obtain ⟨b,o,x,rfl,hx,d0,d1,d2⟩:=(HH.out.below AA zl).list m (by omega)
   have hS:wr.drew.cell? ⟨b,o+m * 3,none⟩=some (τ (zj x))/\wr.drew.cell? ⟨b,o+m * 3+1,none⟩=some (ν (zo x))/\wr.drew.cell? ⟨b,o+m * 3+2,none⟩=some (υ (zp x))/\wr.drew.cell? ⟨B,0,none⟩=some (τ (zj k))/\wr.drew.cell? ⟨B,1,none⟩=some (ν (zo k))/\wr.drew.cell? ⟨B,2,none⟩=some (υ (zp k)):=⟨d0,d1,d2,z0,z1,z2⟩;have Bg:∀w5,θ wr.drew.heap.size wr.drew w5->w5.cell? ⟨b,o+m * 3,none⟩=some (τ (zj x))/\w5.cell? ⟨b,o+m * 3+1,none⟩=some (ν (zo x))/\w5.cell? ⟨b,o+m * 3+2,none⟩=some (υ (zp x))/\w5.cell? ⟨B,0,none⟩=some (τ (zj k))/\w5.cell? ⟨B,1,none⟩=some (ν (zo k))/\w5.cell? ⟨B,2,none⟩=some (υ (zp k)):=fun w5 h5=>
        ⟨(h5.cell (zb _ _ d0)).trans d0,(h5.cell (zb _ _ d1)).trans d1,(h5.cell (zb _ _ d2)).trans d2,(h5.cell (zb _ _ z0)).trans z0,(h5.cell (zb _ _ z1)).trans z1,(h5.cell (zb _ _ z2)).trans z2⟩
   have B9:=zh Bg;have PB:=fun W'=> zcb x k W';have Em:=zl5 x k;generalize zjM x k=r at *;have He:=zh PB;have HX:=zh hx;have JQ:Hid (∀w5,θ wr.drew.heap.size wr.drew w5->θ w0.heap.size w0 w5):=zh fun w5 h5=> Below.trans (show θ w0.heap.size w0 wr.drew from ⟨AA.os,AA.tape,AA.output,AA.size,AA.block⟩) (Below.mono h5 AA.size);clear Bg PB d0 d1 d2 z0 z1 z2 hx
   by_cases Il:x < k
   ·have hr:decide (r < 0)=true:=decide_eq_true (Em.2 Il);have TI:∀t y,t < m+1->ks[t]? =some y->y < k:=fun t y ht hy=> by
     rcases Nat.lt_or_ge t m with h1 | h1
     ·have M0:=List.pairwise_iff_getElem.1 HS.out t m (zi hy).1 (zi HX.out).1 h1;rw [(zi hy).2,(zi HX.out).2] at M0
      omega
     have:t=m:=by omega
     subst this;rw [HX.out] at hy
     cases hy
     exact Il
    have HN:=zh TI;clear Em Il TI
    go_region_held (fun W'=> W'.cell? ⟨b,o+m * 3,none⟩=some (τ (zj x))/\W'.cell? ⟨b,o+m * 3+1,none⟩=some (ν (zo x))/\W'.cell? ⟨b,o+m * 3+2,none⟩=some (υ (zp x))/\W'.cell? ⟨B,0,none⟩=some (τ (zj k))/\W'.cell? ⟨B,1,none⟩=some (ν (zo k))/\W'.cell? ⟨B,2,none⟩=some (υ (zp k))) (first | exact Ca | exact hS)
     (first | (go_at_call 132;refine (He.out _).mono ?_;rintro e w5 ⟨rfl,Ag⟩;have Ca:=B9.out w5 Ag))
    all_goals
     go_wp2_with fail
     go_roundw
     case rel=> exact ⟨m+1,j,by omega,by omega,by go_num,rfl,HN.out,Oi.out,JQ.out _ Ag⟩
     case measure=> simp [intOf];omega
   have hr:decide (r < 0)=false:=decide_eq_false (fun h=> Il (Em.1 h));have TH:∀t y,m<=t->ks[t]? =some y->k<=y:=fun t y ht hy=> by
    rcases Nat.lt_or_ge m t with h1 | h1
    ·have M0:=List.pairwise_iff_getElem.1 HS.out m t (zi HX.out).1 (zi hy).1 h1;rw [(zi hy).2,(zi HX.out).2] at M0
     omega
    have:t=m:=by omega
    subst this;rw [HX.out] at hy
    cases hy
    omega
   have HN:=zh TH;clear Em Il TH
   go_region_held (fun W'=> W'.cell? ⟨b,o+m * 3,none⟩=some (τ (zj x))/\W'.cell? ⟨b,o+m * 3+1,none⟩=some (ν (zo x))/\W'.cell? ⟨b,o+m * 3+2,none⟩=some (υ (zp x))/\W'.cell? ⟨B,0,none⟩=some (τ (zj k))/\W'.cell? ⟨B,1,none⟩=some (ν (zo k))/\W'.cell? ⟨B,2,none⟩=some (υ (zp k))) (first | exact Ca | exact hS)
    (first | (go_at_call 132;refine (He.out _).mono ?_;rintro e w5 ⟨rfl,Ag⟩;have Ca:=B9.out w5 Ag))
   all_goals
    go_wp2_with fail
    go_roundw
    case rel=> exact ⟨i,m,by omega,by omega,rfl,by go_num,Om.out,HN.out,JQ.out _ Ag⟩
    case measure=> simp [intOf];omega
  obtain rfl:i=j:=by omega
  have KE:lbN ks k=i:=zpV (by omega) Om.out Oi.out
  have ZK:=zh KE;clear KE
  by_cases G8:i < n
  ·have Mz:(i:Int) < (n:Int):=by omega
   have AD:(0:Int)<=(i:Int):=by omega
   obtain ⟨b,o,x,rfl,hx,d0,d1,d2⟩:=(HH.out.below AA zl).list i G8;have hS:wr.drew.cell? ⟨b,o+i * 3,none⟩=some (τ (zj x))/\wr.drew.cell? ⟨b,o+i * 3+1,none⟩=some (ν (zo x))/\wr.drew.cell? ⟨b,o+i * 3+2,none⟩=some (υ (zp x))/\wr.drew.cell? ⟨B,0,none⟩=some (τ (zj k))/\wr.drew.cell? ⟨B,1,none⟩=some (ν (zo k))/\wr.drew.cell? ⟨B,2,none⟩=some (υ (zp k)):=⟨d0,d1,d2,z0,z1,z2⟩;have Bg:∀w5,θ wr.drew.heap.size wr.drew w5->w5.cell? ⟨b,o+i * 3,none⟩=some (τ (zj x))/\w5.cell? ⟨b,o+i * 3+1,none⟩=some (ν (zo x))/\w5.cell? ⟨b,o+i * 3+2,none⟩=some (υ (zp x))/\w5.cell? ⟨B,0,none⟩=some (τ (zj k))/\w5.cell? ⟨B,1,none⟩=some (ν (zo k))/\w5.cell? ⟨B,2,none⟩=some (υ (zp k)):=fun w5 h5=>
    ⟨(h5.cell (zb _ _ d0)).trans d0,(h5.cell (zb _ _ d1)).trans d1,(h5.cell (zb _ _ d2)).trans d2,(h5.cell (zb _ _ z0)).trans z0,(h5.cell (zb _ _ z1)).trans z1,(h5.cell (zb _ _ z2)).trans z2⟩
   have B9:=zh Bg;have PB:=fun W'=> zcb x k W';have Cb:(zjM x k==0)=decide (k ∈ ks):=by
    rw [show (zjM x k==0)=decide (zjM x k=0) from rfl,decide_eq_decide,zo0]
    constructor
    ·rintro rfl;exact zm hx
    intro hk;obtain ⟨t,ht⟩:=List.getElem?_of_mem hk;rcases Nat.lt_trichotomy t i with h1 | h1 | h1
    ·have:=Om.out t k h1 ht
     omega
    ·subst h1;rw [hx] at ht;exact Option.some.inj ht
    have M0:=List.pairwise_iff_getElem.1 HS.out i t (zi hx).1 (zi ht).1 h1;rw [(zi ht).2,(zi hx).2] at M0;have:=Oi.out i x zl hx
    omega
   generalize zjM x k=r at *;generalize DF:decide (k ∈ ks)=bd at *;have In:=zh DF;have He:=zh PB;have JQ:Hid (∀w5,θ wr.drew.heap.size wr.drew w5->θ w0.heap.size w0 w5):=zh fun w5 h5=> Below.trans (show θ w0.heap.size w0 wr.drew from ⟨AA.os,AA.tape,AA.output,AA.size,AA.block⟩) (Below.mono h5 AA.size);clear Bg PB d0 d1 d2 z0 z1 z2 hx DF;go_wp2_with fail
   go_region_held (fun W'=> W'.cell? ⟨b,o+i * 3,none⟩=some (τ (zj x))/\W'.cell? ⟨b,o+i * 3+1,none⟩=some (ν (zo x))/\W'.cell? ⟨b,o+i * 3+2,none⟩=some (υ (zp x))/\W'.cell? ⟨B,0,none⟩=some (τ (zj k))/\W'.cell? ⟨B,1,none⟩=some (ν (zo k))/\W'.cell? ⟨B,2,none⟩=some (υ (zp k))) (first | exact Ca | exact hS)
    (first | (go_at_call 132;refine (He.out _).mono ?_;rintro e w5 ⟨rfl,Ag⟩;have Ca:=B9.out w5 Ag))
   all_goals
    go_wp2_with fail;go_ret2;exact ⟨by rw [ZK.out,In.out];rfl,by rw [hB];exact Aq.trans ((JQ.out _ Ag).mono (by omega))⟩
  have Vs:¬k ∈ ks:=fun hk=> by
   obtain ⟨t,ht⟩:=List.getElem?_of_mem hk;have:=Om.out t k (by have:=(zi ht).1;omega) ht
   omega
  have UE:=zh Vs;have yT:decide ((i:Int) < (n:Int))=false:=decide_eq_false (by omega)
  clear Vs;go_wp2_with fail
  go_quiet (fail)
  go_wp2_with fail;go_ret2;exact ⟨by rw [ZK.out,decide_eq_false UE.out];rfl,by rw [hB];exact Aq.trans (Below.mono (show θ w0.heap.size w0 _ from ⟨AA.os,AA.tape,AA.output,AA.size,AA.block⟩) (by omega))⟩
end
section
open Go.RowKit
def zbk (S:Nat->Prop) (w w':World):Prop:=∀k,S k->w'.heap[k]? =w.heap[k]?
theorem zbk.of_below (hb:θ B w w') (hs:∀k,S k->k < B):zbk S w w':=fun k hk=> hb.block k (hs k hk)
def SIn (S:Nat->Prop) (a:Option Addr):Prop:=∀b o,a=some (b o ())->S b
theorem zau (hs:zbk S w w')  (hb:S b) (o:Nat):w' (b o ())=w (b o ()):=by
 simp only [World.cell?];rw [hs b hb]
theorem ziq.same (h:ziq w a n ks) (ha:SIn S a) (hs:zbk S w w'):ziq w' a n ks:=by
 refine ⟨h.1,fun i r hr=> ?_⟩;obtain ⟨b,o,e,h1,h2,h3⟩:=h.2 i r hr;have hb:=ha b o e;exact ⟨b,o,e,(zau hs hb _).trans h1,(zau hs hb _).trans h2,(zau hs hb _).trans h3⟩
theorem Sl.same {xs:List Value} (h:Sl w a n xs) (ha:SIn S a) (hs:zbk S w w'):Sl w' a n xs:=by
 refine ⟨h.1,fun i r hr=> ?_⟩;obtain ⟨b,o,e,h1⟩:=h.2 i r hr;exact ⟨b,o,e,(zau hs (ha b o e) _).trans h1⟩
def atV (n:Nat):Value:= ν n
def zv (p:Nat):Value:=π (some ↑p)
structure zbE (w:World) (S:Nat->Prop) (p:Nat) (leaf:Bool) (ka:Option Addr) (kn kc:Nat) (va:Option Addr) (vn vc:Nat) (ca:Option Addr) (cn cc:Nat):Prop where
 obj:∃at',w.heap[p]? =some (.cells #[.bool leaf,σ ka kn kc,σ va vn vc,σ ca cn cc,at'] 227)
 self:S p
 keys:SIn S ka
 vals:SIn S va
 kids:SIn S ca
theorem zbE.same {leaf:Bool}   (h:zbE w S p leaf ka kn kc va vn vc ca cn cc) (hs:zbk S w w'):zbE w' S p leaf ka kn kc va vn vc ca cn cc:=by
 obtain ⟨at',e⟩:=h.obj;exact ⟨⟨at',by rw [hs p h.self];exact e⟩,h.self,h.keys,h.vals,h.kids⟩
theorem zbE.more {leaf:Bool}   (h:zbE w S p leaf ka kn kc va vn vc ca cn cc) (hs:∀k,S k->S' k):zbE w S' p leaf ka kn kc va vn vc ca cn cc:=
 ⟨h.obj,hs _ h.self,fun b o e=> hs _ (h.keys b o e),fun b o e=> hs _ (h.vals b o e),fun b o e=> hs _ (h.kids b o e)⟩
theorem zbE.reads {leaf:Bool}   (h:zbE w S p leaf ka kn kc va vn vc ca cn cc):
 w p=some (.bool leaf)/\w (p 1 ())=some (σ ka kn kc)/\w (p 2 ())=some (σ va vn vc)/\w (p 3 ())=some (σ ca cn cc)/\p < ↑w:=by
 obtain ⟨at',e⟩:=h.obj;refine ⟨?_, ?_, ?_, ?_,(zg e).1⟩ <;> simp [World.cell?,e]
def zQ (w:World) (S:Nat->Prop):{d:Nat}->Nat->Tr d->Prop
 | 0,p,t=> ∃ka kc va vc,zbE w S p true ka (zS t).length kc va (zS t).length vc none 0 0/\ziq w ka (zS t).length (zC t)/\Sl w va (zS t).length ((zS t).map fun e=> atV e.2)
 | d +1,p,t=> ∃ka kc ca cc,∃ps:List Nat,zbE w S p false ka (zx t).length kc none 0 0 ca (zx t).length cc/\ziq w ka (zx t).length (zC t)/\Sl w ca (zx t).length (ps.map zv)/\ps.length=(zx t).length/\
     ∀(i q:Nat) (k:Tr d),ps[i]? =some q->(zx t)[i]? =some k->zQ w S q k
theorem zQ.same (hs:zbk S w w'):∀{d:Nat} {p:Nat} {t:Tr d},zQ w S p t->zQ w' S p t
 | 0,p,t,h=> by
   obtain ⟨ka,kc,va,vc,h1,h2,h3⟩:=h;exact ⟨ka,kc,va,vc,h1.same hs,h2.same h1.keys hs,h3.same h1.vals hs⟩
 | d+1,p,t,h=> by
   obtain ⟨ka,kc,ca,cc,ps,h1,h2,h3,h4,h5⟩:=h;exact ⟨ka,kc,ca,cc,ps,h1.same hs,h2.same h1.keys hs,h3.same h1.kids hs,h4,fun i q k hq hk=> zQ.same hs (h5 i q k hq hk)⟩
theorem zQ.more (hs:∀k,S k->S' k):∀{d:Nat} {p:Nat} {t:Tr d},zQ w S p t->zQ w S' p t
 | 0,p,t,h=> by
   obtain ⟨ka,kc,va,vc,h1,h2,h3⟩:=h;exact ⟨ka,kc,va,vc,h1.more hs,h2,h3⟩
 | d+1,p,t,h=> by
   obtain ⟨ka,kc,ca,cc,ps,h1,h2,h3,h4,h5⟩:=h;exact ⟨ka,kc,ca,cc,ps,h1.more hs,h2,h3,h4,fun i q k hq hk=> zQ.more hs (h5 i q k hq hk)⟩
theorem zQ.box:{d:Nat}->{p:Nat}->{t:Tr d}->zQ w S p t->∃ka kc va vn vc ca cn cc,zbE w S p (d==0) ka (zH t) kc va vn vc ca cn cc/\ziq w ka (zH t) (zC t)
 | 0,p,t,h=> by
   obtain ⟨ka,kc,va,vc,h1,h2,h3⟩:=h;exact ⟨ka,kc,va,_,vc,none,0,0,h1,h2⟩
 | d+1,p,t,h=> by
   obtain ⟨ka,kc,ca,cc,ps,h1,h2,h3,h4,h5⟩:=h;exact ⟨ka,kc,none,0,0,ca,_,cc,h1,h2⟩
theorem zob (h:ks.Pairwise (· < ·)) (k:Nat):(ks.filter fun x=> decide (x<=k)).length=lbN ks k+if k ∈ ks then 1 else 0:=by
 unfold lbN
 induction ks with
 | nil=> simp
 | cons x ks ih=>
   rw [List.pairwise_cons] at h;have ih:=ih h.2
   by_cases h1:x < k
   ·rw [List.filter_cons_of_pos uo,List.filter_cons_of_pos uao,List.length_cons,List.length_cons,ih];have hm:(k ∈ x::ks)↔k ∈ ks:=by
        rw [List.mem_cons]
        constructor
        ·rintro (e | e)
         ·omega
         exact e
        exact .inr
    simp only [hm]
    omega
   have CU:∀(q:Nat->Bool),(∀y ∈ ks,q y=false)->ks.filter q= []:=fun q hq=> List.filter_eq_nil_iff.2 (fun y hy=> by rw [hq y hy];simp)
   by_cases h2:x=k
   ·subst h2;rw [List.filter_cons_of_pos uh,List.filter_cons_of_neg uh];rw [CU _ (fun y hy=> by have:=h.1 y hy;simp;omega),CU _ (fun y hy=> by have:=h.1 y hy;simp;omega)]
    simp
   rw [List.filter_cons_of_neg uo,List.filter_cons_of_neg uao];rw [CU _ (fun y hy=> by have:=h.1 y hy;simp;omega),CU _ (fun y hy=> by have:=h.1 y hy;simp;omega)]
   have:¬k ∈ x::ks:=by
    rw [List.mem_cons];rintro (e | e)
    ·omega
    have:=h.1 k e;omega
   rw [if_neg this]
   rfl
def zdI (ks:List Nat) (k:Nat):Int:=((ks.filter fun x=> decide (x<=k)).length:Int) - 1
theorem zjT {t:Tr d} (h:zQ w S p t) (hn:zH t<=1000000) (hs:(zC t).Pairwise (· < ·)) (k:Nat):
 χ 83 #[zv p,za2 k] w fun e w'=> e=ρ (ι (zdI (zC t) k))/\θ w.heap.size w w':=by
 obtain ⟨ka,kc,va,vn,vc,ca,cn,cc,AH,Eu⟩:=h.box;obtain ⟨-,c1,-,-,hp⟩:=AH.reads;have Aq:θ w.heap.size w (w.alloc (.cells #[τ (zj k),ν (zo k),υ (zp k)] 111)):=zr.alloc zl _;have x0:(w.alloc (.cells #[τ (zj k),ν (zo k),υ (zp k)] 111)).cell? ⟨w.heap.size,0,none⟩=some (τ (zj k)):=by simp
 have x1:(w.alloc (.cells #[τ (zj k),ν (zo k),υ (zp k)] 111)).cell? ⟨w.heap.size,1,none⟩=some (ν (zo k)):=by simp
 have x2:(w.alloc (.cells #[τ (zj k),ν (zo k),υ (zp k)] 111)).cell? ⟨w.heap.size,2,none⟩=some (υ (zp k)):=by simp
 have d1:=zu c1 (.cells #[τ (zj k),ν (zo k),υ (zp k)] 111);have Ks:=zob hs k;have hlt:lbN (zC t) k<=zH t:=by
  unfold lbN;have:=List.length_filter_le (fun x=> decide (x < k)) (zC t);rw [zgY] at this;exact this
 have Rc:=zh (zdw ka (zH t) kc (zC t) k ((w.alloc (.cells #[τ (zj k),ν (zo k),υ (zp k)] 111)).drew) (show ziq (w.alloc _).drew _ _ _ from (Eu.below Aq zl).below (Below.drewB zr) zl) hn hs);have Yg:zdI (zC t) k=if k ∈ zC t then (lbN (zC t) k:Int) else (lbN (zC t) k:Int) - 1:=by
  unfold zdI;rw [Ks]
  split <;> simp
 have ZG:=zh Yg;unfold za2 at Rc ⊢;unfold zv;clear Yg Ks Eu AH h hs;go_enter func83,ntmps83;go_wp2_with fail;generalize Zu:(w.alloc (.cells #[τ (zj k),ν (zo k),υ (zp k)] 111))=w0 at *;generalize hB:w.heap.size=B at *;have hS:w0.drew.cell? ⟨B,0,none⟩=some (τ (zj k))/\w0.drew.cell? ⟨B,1,none⟩=some (ν (zo k))/\w0.drew.cell? ⟨B,2,none⟩=some (υ (zp k))/\w0.drew.cell? ⟨p,1,none⟩=some (σ ka (zH t) kc):=⟨x0,x1,x2,d1⟩;have Bg:∀w5,θ w0.drew.heap.size w0.drew w5->w5.cell? ⟨B,0,none⟩=some (τ (zj k))/\w5.cell? ⟨B,1,none⟩=some (ν (zo k))/\w5.cell? ⟨B,2,none⟩=some (υ (zp k))/\w5.cell? ⟨p,1,none⟩=some (σ ka (zH t) kc):=fun w5 h5=>
  ⟨(h5.cell (zb _ _ x0)).trans x0,(h5.cell (zb _ _ x1)).trans x1,(h5.cell (zb _ _ x2)).trans x2,(h5.cell (zb _ _ d1)).trans d1⟩
 have B9:=zh Bg;have JQ:Hid (∀w5,θ w0.drew.heap.size w0.drew w5->θ B w w5):=zh fun w5 h5=> Aq.trans (Below.trans (Below.drewB (Below.refl B w0)) (Below.mono h5 (by show B<=w0.heap.size;have:=Aq.size;omega)))
 clear x0 x1 x2 d1 c1 Bg Zu
 by_cases hm:k ∈ zC t
 ·rw [decide_eq_true hm] at Rc;have HM:=zh hm;clear hm;generalize KE:lbN (zC t) k=lb at *
  go_region_held (fun W'=> W'.cell? ⟨B,0,none⟩=some (τ (zj k))/\W'.cell? ⟨B,1,none⟩=some (ν (zo k))/\W'.cell? ⟨B,2,none⟩=some (υ (zp k))/\W'.cell? ⟨p,1,none⟩=some (σ ka (zH t) kc)) (first | exact Ca | exact hS)
   (first | (go_at_call 131;refine Rc.out.mono ?_;rintro e w5 ⟨rfl,Ag⟩;have Ca:=B9.out w5 Ag))
  all_goals
   go_wp2_with fail;go_ret;exact ⟨by rw [ZG.out,if_pos HM.out];rfl,by rw [hB];exact JQ.out _ Ag⟩
 rw [decide_eq_false hm] at Rc;have HM:=zh hm;clear hm;generalize KE:lbN (zC t) k=lb at *;have Ab:IntKind.i64.wrap ((lb:Int) - 1)=(lb:Int) - 1:=zw _ (by omega)
 go_region_held (fun W'=> W'.cell? ⟨B,0,none⟩=some (τ (zj k))/\W'.cell? ⟨B,1,none⟩=some (ν (zo k))/\W'.cell? ⟨B,2,none⟩=some (υ (zp k))/\W'.cell? ⟨p,1,none⟩=some (σ ka (zH t) kc)) (first | exact Ca | exact hS)
  (first | (go_at_call 131;refine Rc.out.mono ?_;rintro e w5 ⟨rfl,Ag⟩;have Ca:=B9.out w5 Ag))
 all_goals
  go_wp2_with fail;go_ret;exact ⟨by rw [ZG.out,if_neg HM.out];rfl,by rw [hB];exact JQ.out _ Ag⟩
theorem zpj (ks:List Nat) (k:Nat):max (zdI ks k) 0=(zP ks k:Int):=by
 unfold zdI zP
 omega
theorem zmJ {t:Tr d} (h:zQ w S p t) (hS:∀j,S j->j < ↑w) (hn:zH t<=1000000) (hs:(zC t).Pairwise (· < ·)) (k:Nat):
 χ 129 #[zv p,za2 k] w fun e w'=> e=ρ (ι (zP (zC t) k))/\θ w w w':=by
 have Aq:θ w w (w.alloc (.cells #[τ (zj k),ν (zo k),υ (zp k)] 111)):=zr.alloc zl _;have x0:(w.alloc (.cells #[τ (zj k),ν (zo k),υ (zp k)] 111)) w=some (τ (zj k)):=uh;have x1:(w.alloc (.cells #[τ (zj k),ν (zo k),υ (zp k)] 111)) ⟨↑w,1,none⟩=some (ν (zo k)):=uh;have x2:(w.alloc (.cells #[τ (zj k),ν (zo k),υ (zp k)] 111)) ⟨↑w,2,none⟩=some (υ (zp k)):=uh;have hh:zQ (w.alloc (.cells #[τ (zj k),ν (zo k),υ (zp k)] 111)) S p t:=h.same (zbk.of_below Aq hS);have HF:=zh (zjT hh hn hs k);have Tx:=zpj (zC t) k;unfold za2 at HF ⊢;unfold zv at HF ⊢;generalize zdI (zC t) k=z at *;generalize Tf:(zP (zC t) k:Int)=kk at *;go_in;go_wp2_with fail;refine HF.out.mono ?_;rintro e w5 ⟨rfl,Ag⟩;go_wp2_with fail
 all_goals
  go_ret;refine ⟨?_,Aq.trans (Ag.mono Aq.size)⟩
  first
   | (have e:kk=0:=ud
      rw [e];rfl)
   | (have e:kk=z:=ud
      rw [e];rfl)
end
section
open Go.RowKit
theorem za {ops:Array Oper} {rest:List Oper} {o:Oper} {a:Act} {Q:Exit->Act->World->Prop} (Ib:o.guard=none) (s x:Operand) (t:TypeId)
 (ho:o.op= .call {callee:= .builtin .append,args:=#[s,x],argTypes:=#[t,t]})  
 (Be:(Builtin.append_ #[t,t] o.type #[a.eval s,a.eval x]).run P w= .ok v' w') (h:wpList P ops Q rest (a.put o.dst v') w'):wpList P ops Q (o::rest) a w:=
 wpList_plain Ib fun _ hK=> by
  unfold Oper.wp execOp;simp only [ho,resolve,invoke,builtin,Sem.run_bind,Sem.run_pure,Result.andThen_ok,List.map_toArray,List.map_cons,List.map_nil,Be];exact hK _ _ h
theorem zdt (b o n:Nat):((b o ()):Addr).add n=(b (o+n) ()):=by unfold Addr.add;split <;> simp_all
section
variable {α:Type} (enc:α→List Value) (k:Nat)
def zB (l:List α):List Value:=l.flatMap enc
theorem zay (p:α) (l:List α):zB enc (p::l)=enc p++zB enc l:=rfl
theorem zaj (a b:List α):zB enc (a++b)=zB enc a++zB enc b:=by simp [zB]
theorem zU (hk:∀x,(enc x).length=k) (l:List α):(zB enc l).length=l.length * k:=by
 induction l with
 | nil=> simp [zB]
 | cons r l ih=> rw [zay,List.length_append,ih,hk,List.length_cons,Nat.add_mul,Nat.one_mul,Nat.add_comm]
theorem zfa (hk:∀x,(enc x).length=k) (l:List α) (i j:Nat) (r:α) (h:l[i]? =some r) (hj:j < k):(zB enc l)[i * k+j]? =(enc r)[j]? :=by
 induction l generalizing i with
 | nil=> simp at h
 | cons x l ih=>
   rw [zay]
   cases i with
   | zero=>
     simp at h;subst h;rw [Nat.zero_mul,Nat.zero_add,List.getElem?_append_left (by rw [hk];exact hj)]
   | succ i=>
     simp only [List.getElem?_cons_succ] at h;rw [List.getElem?_append_right (by rw [hk,Nat.add_mul];omega),hk,<- ih i h]
     congr 1
     rw [Nat.add_mul]
     omega
def zM (w:World) (a:Option Addr) (n:Nat) (l:List α):Prop:=
 l.length=n/\∀i r,l[i]? =some r->∃b o,a=some ⟨b,o,()⟩/\∀j x,(enc r)[j]? =some x->w ⟨b,o+i * k+j,()⟩=some x
theorem zM.nil (w:World) (a:Option Addr):zM enc k w a 0 []:=⟨rfl,fun i r h=> by simp at h⟩
def zK (e:TypeId) (w:World) (B:Nat) (v:Value) (l:List α):Prop:=w.ownsRow B e k v l.length (zB enc l)
end
section
variable {α:Type} {enc:α→List Value} {k:Nat}
theorem zM.same {l:List α} (h:zM enc k w a n l) (ha:SIn S a) (hs:zbk S w w'):zM enc k w' a n l:=by
 refine ⟨h.1,fun i r hr=> ?_⟩;obtain ⟨b,o,e,h1⟩:=h.2 i r hr;exact ⟨b,o,e,fun j x hx=> (zau hs (ha b o e) _).trans (h1 j x hx)⟩
theorem zM.take {l:List α} (h:zM enc k w a n l) (m:Nat) (hm:m<=n):zM enc k w a m (l.take m):=
 ⟨by rw [List.length_take,h.1];omega,fun i r hr=> by
  have hi:i < m:=by
     have:=(zi hr).1;rw [List.length_take] at this
     omega
  rw [List.getElem?_take_of_lt hi] at hr;exact h.2 i r hr⟩
theorem zM.drop {o:Nat} {l:List α} (h:zM enc k w (some (b o ())) n l) (m:Nat):zM enc k w (some (b (o+m * k) ())) (n - m) (l.drop m):=by
 refine ⟨by rw [List.length_drop,h.1],fun i r hr=> ?_⟩
 rw [List.getElem?_drop] at hr;obtain ⟨b',o',he,h1⟩:=h.2 (m+i) r hr;simp only [Option.some.injEq,Addr.mk.injEq,and_true] at he;obtain ⟨rfl,rfl⟩:=he;refine ⟨b,o+m * k,rfl,fun j x hx=> ?_⟩;rw [show o+m * k+i * k+j=o+(m+i) * k+j by rw [Nat.add_mul];omega]
 exact h1 j x hx
theorem zK.row (hk:∀x,(enc x).length=k)     {l:List α} (h:zK enc k e w B v l):∃a cap,v=σ a l.length cap/\zM enc k w a l.length l/\l.length<=cap/\∀b o,a=some (b o ())->B<=b/\o=0:=by
 rcases h.2 with ⟨rfl,h0⟩ | ⟨g,cap,cur,rfl,Bc,hg,Ge,Ce,Fo,CY⟩
 ·have:l= []:=List.eq_nil_of_length_eq_zero h0;subst this;exact ⟨none,0,rfl,zM.nil _ _ _ _,zl,fun b o e=> by cases e⟩
 refine ⟨some ↑g,cap,rfl,⟨rfl,fun i r hr=> ⟨g,0,rfl,fun j x hx=> ?_⟩⟩,Ge,fun b o e=> by cases e;exact ⟨Bc,rfl⟩⟩
 have hj:j < k:=by rw [<- hk r];exact (zi hx).1
 have h1:=zfa enc k hk l i j r hr hj;rw [hx] at h1;have e1:=h.cells (g:=g) rfl _ _ h1;rw [<- e1,zdt,Nat.add_assoc]
theorem zK.app (hk:∀x,(enc x).length=k) (BX:0 < k) (BA:∀x,∀u ∈ enc x,u.oneCell'=true) {P:Program} {t e:TypeId} {i0:TypeInfo} {z:Value} {bytes:Nat} (ht:P.underlying t=some (.slice e)) (hi:P.info? e=some i0) (AG:i0.zero=some z) (Ai:i0.size=k) (Ax:i0.bytes=bytes) (Gk:z.cells.size=k)
 {w:World} {B:Nat} {v:Value} {l:List α} (h:zK enc k e w B v l) {b o m:Nat} (c:Nat) {l2:List α} (hs:zM enc k w (some ⟨b,o,none⟩) m l2) (hl:l.length+m<=1000000000) (FP:(l.length+m) * bytes<=140737488355328) (hB:B<=w.heap.size):
 ∃v' w',(Builtin.append_ #[t,t] t #[v, .slice (some ⟨b,o,none⟩) m c]).run P w= .ok v' w'/\zK enc k e w' B v' (l++l2)/\w.grownBy w' v.ownBlock:=by
 obtain ⟨v',w',hr,Af,hg,_⟩:=run_append_own (P:=P) w B t t e i0 z k bytes ht hi AG Ai Ax Gk BX v l.length (zB enc l) h ⟨b,o,none⟩ m c (zB enc l2) (by rw [zU enc k hk,hs.1]) (fun j u hu=> by
  have FT:j < l2.length * k:=by rw [<- zU enc k hk];exact (zi hu).1
  have hq:j / k < l2.length:=Nat.div_lt_of_lt_mul (by rw [Nat.mul_comm];exact FT)
  have hm:j % k < k:=Nat.mod_lt _ BX;have hd:j=j / k * k+j % k:=by rw [Nat.mul_comm];exact (Nat.div_add_mod j k).symm
  obtain ⟨b',o',he,h1⟩:=hs.2 (j / k) l2[j / k] (ze hq);simp only [Option.some.injEq,Addr.mk.injEq,and_true] at he;obtain ⟨rfl,rfl⟩:=he;have h2:=zfa enc k hk l2 (j / k) (j % k) _ (ze hq) hm;rw [<- hd,hu] at h2;have h3:=h1 (j % k) u h2.symm;rw [zdt];rw [Nat.add_assoc,<- hd] at h3;exact h3) (fun u hu=> by
   obtain ⟨x,-,hx⟩:=List.mem_flatMap.1 hu;exact BA x u hx) (by unfold maxLen;omega) FP hB
 refine ⟨v',w',hr, ?_,hg⟩;unfold zK;rw [zaj,List.length_append,hs.1];exact Af
end
end
end Go.Proofs.YtaoceecfjlkmdaaGreat
