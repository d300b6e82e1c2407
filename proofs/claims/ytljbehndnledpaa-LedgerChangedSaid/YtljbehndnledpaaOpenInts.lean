/- A slice of integers that came in, opened. Conditions: those of each theorem. -/
import Derived.Test.YtljbehndnledpaaStep
import Derived.ProofKit
import Derived.Lib.SmallJoins
namespace Go.Proofs.Ytljbehndnledpaa
open Go.RowKit Go.WideShapes Go.ChangeShapes Go.Joins Go.Deep

section
variable {H : Type} {enc : TypeId × Value → H} {w : World}

theorem is_of_trod {a : Option Addr} {n c : Nat} {d : DataW H} {ps : List MemPlace} (hk : DataW.Trod enc Try.prog w 0 (fun _ => true) true 78 (.slice a n c) d ps) : ∃ l, Is .i64 w a n l := by
  obtain ⟨m, h⟩ := hk
  rcases open_ints Try.underlying78 Try.underlying3 (by kernel_rfl) h with ⟨hcs, _⟩ | ⟨x, l, c', zs, hcs, _, hlc, hm, hz, _, hcell, hwz⟩
  · simp [Value.cells] at hcs
    obtain ⟨rfl, rfl, rfl⟩ := hcs
    exact ⟨[], ⟨rfl, fun i x hx => by simp at hx⟩⟩
  · simp [Value.cells] at hcs
    obtain ⟨rfl, rfl, rfl⟩ := hcs
    have hrow : IsRow .i64 w (some x) n c zs := .inr ⟨_, rfl, hlc, hm, by simpa using hz, hcell, hwz⟩
    exact ⟨zs.take n, hrow.is⟩
end
end Go.Proofs.Ytljbehndnledpaa
