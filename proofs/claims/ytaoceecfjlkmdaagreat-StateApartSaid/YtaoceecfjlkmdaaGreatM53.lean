/- Lemmas of the walks, merged and pressed by press.py. Conditions: those of each theorem. -/
import Derived.Test.YtaoceecfjlkmdaaGreatM52
import Derived.Test.YtaoceecfjlkmdaaGreatM49
set_option maxRecDepth 100000
set_option maxHeartbeats 64000000
set_option linter.all false
namespace Go.Proofs.YtaoceecfjlkmdaaGreat
open Tryz
section
open Go.RowKit Go.WideShapes Go.ChangeShapes Go.Joins Go.Deep
theorem zqu:∃f0 f1:Field,Tryz.prog.underlying 45=some (.struct #[f0,f1])/\(f0.offset=0/\f1.offset=1)/\f0.type=25/\f1.type=40:=⟨_,_,Tryz.underlying45,⟨rfl,rfl⟩,rfl,rfl⟩
theorem cTu:Tryz.prog.cellsOf 45=9:=ue
theorem turn40 {H:Type} {enc:TypeId × Value->H} {w:World} {base:Nat} {r:Reach} {v:Value} {d:DataW H} {p:List MemPlace} (hv:Value.okWide Tryz.prog w r base 45 v) (h:DataW.Trod enc Tryz.prog w 0 (fun _=> true) true 45 v d p):
 ∃a0 n0 c0 l0 z,v= .agg #[.slice a0 n0 c0, .int .i64 z.o.k, .int .i64 z.o.v, .int .i64 z.o.i, .int .i64 z.o.b, .int .i64 z.o.n, .int .u64 z.o.pt, .slice z.da z.o.d.length z.dc, .slice z.ma z.o.m.length z.mc]/\zoW w a0 n0 l0/\zpD w z:=by
 obtain ⟨f0,f1,hs,⟨o0,o1⟩,t0,t1⟩:=zqu;obtain ⟨⟨cs⟩,rfl,Fo⟩:=okWide_struct hs hv;obtain ⟨fuel,hf⟩:=h;have AN:cs.length=9:=by rw [cTu] at Fo;simpa using Fo
 have hf:DataW.trod enc Tryz.prog w 0 (fun _=> true) true fuel 45 cs=some (d,p):=by simpa [Value.cells] using hf
 obtain ⟨ys,n',-,-,-,qw,EP⟩:=DataW.trod_struct hs hf
 match cs,AN with
 | c0::r,AN=>
   obtain ⟨y0,h0⟩:=fany qw EP 0 f0 rfl [c0] (by rw [o0,t0,cOps];rfl)
   obtain ⟨y1,h1⟩:=fany qw EP 1 f1 rfl r (by rw [o1,t1,cOp];simp only [List.drop_succ_cons,List.drop_zero];exact zk (by simp at AN;omega))
   rw [t0] at h0;rw [t1] at h1;obtain ⟨a0,n0,c0,l0,rfl,hr⟩:=zqd h0;obtain ⟨z,rfl,hz⟩:=op40 (by simpa using AN) h1
   exact ⟨a0,n0,c0,l0,z,rfl,hr,hz⟩
end
end Go.Proofs.YtaoceecfjlkmdaaGreat
