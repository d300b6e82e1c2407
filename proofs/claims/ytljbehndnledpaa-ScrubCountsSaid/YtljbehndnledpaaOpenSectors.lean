/- Rows of bytes that came in, opened. Conditions: those of the theorem. -/
import Derived.Test.YtljbehndnledpaaScrubLaw
import Derived.Test.YtljbehndnledpaaHexLaw
import Derived.Test.YtljbehndnledpaaOpen
import Derived.Deep.Matrix
import Derived.ProofKit
namespace Go.Proofs.Ytljbehndnledpaa
open Go.RowKit

theorem cellsOf37 : Try.prog.cellsOf 37 = 1 := by kernel_rfl
theorem cellsOf5 : Try.prog.cellsOf 5 = 1 := by kernel_rfl

theorem sectors_of_trod {H : Type} {enc : TypeId × Value → H} {w : World} {a : Option Addr} {n cap : Nat} {d : DataW H} {p : List MemPlace} (h : DataW.Trod enc Try.prog w 0 (fun _ => true) true 65 (.slice a n cap) d p) :
    ∃ ls, Sectors w a n ls := by
  obtain ⟨fuel, hf⟩ := h
  rcases Go.Deep.open_int_rows Try.underlying65 Try.underlying37 Try.underlying5 cellsOf37 cellsOf5 hf with ⟨hcs, _⟩ | ⟨x, len, cap', A, L, C, Z, hcs, _, hl, hm, _, hx⟩
  · simp [Value.cells] at hcs
    obtain ⟨rfl, rfl, rfl⟩ := hcs
    exact ⟨[], rfl, fun r x hx => by simp at hx⟩
  · simp [Value.cells] at hcs
    obtain ⟨rfl, rfl, rfl⟩ := hcs
    have hv : ∀ r, r < n → ∃ l : List UInt8, w.cell? (x.add r) = some (.slice (A r) (L r) (C r)) ∧ Bs w (A r) (L r) l ∧ L r ≤ C r := by
      intro r hr
      obtain ⟨h1, h2, h3, h4, h5, h6, h7⟩ := hx r (by omega)
      have hrow : IsRow .u8 w (A r) (L r) (C r) (Z r) := by
        cases hA : A r with
        | none =>
          have hc0 := h6 hA
          refine .inl ⟨rfl, by omega, hc0, ?_⟩
          exact List.eq_nil_of_length_eq_zero (by omega)
        | some a' => exact .inr ⟨a', rfl, h2, h3, h4, fun i hi => (h7 a' hA).2 i (by omega), h5⟩
      obtain ⟨l, hl⟩ := bs_of_row hrow
      exact ⟨l, h1, hl, h2⟩
    obtain ⟨ls, hll, hlx⟩ := list_of hv
    refine ⟨ls, hll, fun r y hy => ?_⟩
    obtain ⟨h1, h2, h3⟩ := hlx r y hy
    have hlt : r < n := by have := (List.getElem?_eq_some_iff.1 hy).1; omega
    obtain ⟨y0, hy0⟩ : ∃ y0, ls[0]? = some y0 := ⟨_, List.getElem?_eq_getElem (by omega)⟩
    have h0 := (hlx 0 y0 hy0).1
    obtain ⟨b, o, hb⟩ := addr_plain (x := x) (by rw [Nat.zero_mul]; exact h0)
    subst hb
    have hyl := h2.length
    rw [add_plain] at h1
    exact ⟨b, o, A r, C r, rfl, by rw [hyl]; exact h1, World.block_lt_of_cell? w _ h1, by rw [hyl]; exact h2, by omega⟩
end Go.Proofs.Ytljbehndnledpaa
