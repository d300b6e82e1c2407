/- Lemmas of the walks, merged and pressed by press.py. Conditions: those of each theorem. -/
import Derived.Test.YtaoceecfjlkmdaaGreatM52
import Derived.Test.YtaoceecfjlkmdaaGreatM51
set_option maxRecDepth 100000
set_option maxHeartbeats 64000000
set_option linter.all false
namespace Go.Proofs.YtaoceecfjlkmdaaGreat
open Tryz
section
open Go.RowKit Go.WideShapes Go.ChangeShapes Go.Joins Go.Deep
theorem spot41 {H:Type} {enc:TypeId × Value->H} {w:World} {base:Nat} {r:Reach} {v:Value} {d:DataW H} {p:List MemPlace} (hv:Value.okWide Tryz.prog w r base 28 v) (h:DataW.Trod enc Tryz.prog w 0 (fun _=> true) true 28 v d p):∃(vv b:Int) (t:Nat),v= .agg (spA vv b t)/\vv<=9223372036854775807/\t < 18446744073709551616:=by
 obtain ⟨f0,f1,f2,hs,⟨o0,o1,o2⟩,t0,t1,t2⟩:=zqc;obtain ⟨⟨cs⟩,rfl,Fo⟩:=okWide_struct hs hv;obtain ⟨fuel,hf⟩:=h;have AN:cs.length=3:=by rw [cSp] at Fo;simpa using Fo
 have hf:DataW.trod enc Tryz.prog w 0 (fun _=> true) true fuel 28 cs=some (d,p):=by simpa [Value.cells] using hf
 obtain ⟨ys,n',-,-,-,qw,EP⟩:=DataW.trod_struct hs hf
 match cs,AN with
 | [c0,c1,c2],_=>
   obtain ⟨vv,rfl,wv⟩:=zp5 qw EP 0 f0 rfl uas c0 (by rw [o0,t0,cI];rfl)
   obtain ⟨b,rfl,-⟩:=zp5 qw EP 1 f1 rfl uat c1 (by rw [o1,t1,cI];rfl)
   obtain ⟨t,rfl,wt⟩:=zp5 qw EP 2 f2 rfl (by rw [t2];exact Tryz.underlying22) c2 (by rw [o2,t2,cU];rfl)
   have h2:=wfu wt;exact ⟨vv,b,t.toNat,by unfold spA;rw [Int.toNat_of_nonneg h2.1],zqe wv,ud⟩
end
end Go.Proofs.YtaoceecfjlkmdaaGreat
