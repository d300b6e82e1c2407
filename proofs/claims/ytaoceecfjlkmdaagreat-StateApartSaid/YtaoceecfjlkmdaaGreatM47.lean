/- Lemmas of the walks, merged and pressed by press.py. Conditions: those of each theorem. -/
import Derived.Test.YtaoceecfjlkmdaaGreatM46
set_option maxRecDepth 100000
set_option maxHeartbeats 64000000
set_option linter.all false
namespace Go.Proofs.YtaoceecfjlkmdaaGreat
open Tryz
section
open Go.RowKit
theorem zfA {w:World} {r:Nat × List UInt8} {e:Ending} {w':World} (h:zfL w r e w'):∃a m k,e= .returned (.tuple #[.slice a m k, .int .i64 (r.1:Int)])/\Below w.heap.size w w'/\(r.1=0->∃g,a=some ⟨g,0,none⟩/\m=64/\Bs w' (some ⟨g,0,none⟩) 64 r.2/\w.heap.size<=g/\g < w'.heap.size):=by
 obtain ⟨h,hb⟩:=h;rcases h with ⟨h0,rfl⟩ | ⟨h0,hl,v,rfl,ho⟩
 ·exact ⟨none,0,0,rfl,hb,fun h=> absurd h h0⟩
 rw [hl] at ho;obtain ⟨g,c,rfl⟩:=zdp ho ud;refine ⟨some ⟨g,0,none⟩,64,c,by rw [h0];rfl,hb,fun _=> ⟨g,rfl,rfl,zfw ho,World.ownsRow.lt ho g rfl⟩⟩
theorem zpX {c:Ct} {v:Int} {t s:Nat} (h:(c.sizeAt v t s).1=0):t<=s:=by
 unfold Ct.sizeAt Ct.may at h
 cases hf:c.find v with
 | none=> rw [hf] at h;cases h
 | some y=>
   rw [hf] at h;simp only at h
   cases hz:zdD y.sizes t with
   | none=> rw [hz] at h;cases h
   | some n=>
     rw [hz] at h;simp only at h
     split at h
     ·rename_i hm
      simp only [Bool.and_eq_true,decide_eq_true_eq] at hm;exact hm.2.1
     cases h
theorem zm7 {st:PS} {v b:Int} {t:Nat} (h:(zbo st v b t).1=0):t<=st.seq:=by
 unfold zbo at h
 split at h
 ·rename_i h1;exact absurd h h1
 rename_i h1
 exact zpX (v:=v) uao
def spA (v b:Int) (t:Nat):Array Value:=#[.int .i64 v, .int .i64 b, .int .u64 (t:Int)]
theorem zqg {w:World} {r:Nat × List UInt8} {e:Ending} {w':World} (h:zfL w r e w') (hl:r.1≠0->r.2= []):∃a m k,e= .returned (.tuple #[.slice a m k, .int .i64 (r.1:Int)])/\Below w.heap.size w w'/\Bs w' a m r.2/\(∀g o,a=some ⟨g,o,none⟩->w.heap.size<=g/\g < w'.heap.size):=by
 obtain ⟨h,hb⟩:=h;rcases h with ⟨h0,rfl⟩ | ⟨h0,Ac,v,rfl,ho⟩
 ·exact ⟨none,0,0,rfl,hb,by rw [hl h0];exact Bs.none' none,fun g o e=> by cases e⟩
 rw [Ac] at ho;obtain ⟨g,c,rfl⟩:=zdp ho ud;exact ⟨some ⟨g,0,none⟩,64,c,by rw [h0];rfl,hb,zfw ho,fun g' o e=> by cases e;exact World.ownsRow.lt ho g rfl⟩
theorem zqi {st:PS} {v b:Int} {t:Nat} (h:(zbo st v b t).1≠0):(zbo st v b t).2= []:=by
 unfold zbo at h ⊢
 split
 ·rfl
 rename_i h1
 rw [if_neg h1] at h
 split
 ·rfl
 rename_i h2
 rw [if_neg h2] at h;exact absurd rfl h
theorem zql {st:PS} {v b:Int} (h:(zly st v b).1≠0):(zly st v b).2= []:=by
 unfold zly at h ⊢
 cases hf:st.c.find v with
 | none=> rfl
 | some y=>
   rw [hf] at h;simp only at h ⊢
   split
   ·rfl
   rename_i h2
   rw [if_neg h2] at h;exact absurd rfl h
theorem Bs.keep {w w':World} {a:Option Addr} {n:Nat} {l:List UInt8} (h:Bs w a n l) (hk:∀g o,a=some ⟨g,o,none⟩->w'.heap[g]? =w.heap[g]?):Bs w' a n l:=by
 rcases Nat.eq_zero_or_pos n with h0 | h0
 ·subst h0;have:=h.length;have hl:l= []:=List.eq_nil_of_length_eq_zero this;subst hl;exact Bs.none' a
 obtain ⟨g,o,c,rfl,-,-,-⟩:=Bs.cell h 0 h0;exact Bs.heap h (hk g o rfl)
end
end Go.Proofs.YtaoceecfjlkmdaaGreat
