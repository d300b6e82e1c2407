/- Slices that came in, opened: what a reading says of their cells. Conditions: those of each theorem. -/
import Derived.Test.YtljbehndnledpaaManifest
import Derived.Deep.SlicePairs
import Derived.ProofKit
namespace Go.Proofs.Ytljbehndnledpaa
open Go.RowKit

theorem list_of {α : Type} {P : Nat → α → Prop} : ∀ {n : Nat}, (∀ i, i < n → ∃ q, P i q) → ∃ l : List α, l.length = n ∧ ∀ i x, l[i]? = some x → P i x
  | 0, _ => ⟨[], rfl, fun i x h => by simp at h⟩
  | n + 1, h => by
    obtain ⟨l, hl, hx⟩ := list_of (n := n) (fun i hi => h i (by omega))
    obtain ⟨q, hq⟩ := h n (by omega)
    refine ⟨l ++ [q], by simp [hl], fun i x hi => ?_⟩
    rw [List.getElem?_append] at hi
    split at hi
    · exact hx i x hi
    · have hin : i = n := by
        rcases Nat.lt_or_ge (i - l.length) 1 with h1 | h1
        · omega
        · rw [List.getElem?_eq_none (by simpa using h1)] at hi; cases hi
      subst hin
      rw [hl, Nat.sub_self] at hi
      simp at hi
      subst hi
      exact hq

theorem add_plain (b o n : Nat) : (⟨b, o, none⟩ : Addr).add n = ⟨b, o + n, none⟩ := by unfold Addr.add; split <;> simp_all

theorem addr_plain {w : World} {x : Addr} {v : Value} (h : w.cell? (x.add (0 * 2)) = some v) : ∃ b o, x = ⟨b, o, none⟩ := by
  obtain ⟨b, o, spot⟩ := x
  have hspot : spot = none := by simpa [Addr.add] using World.cell?_spot h
  exact ⟨b, o, by rw [hspot]⟩

theorem under36 : ∃ f0 f1 : Field, Try.prog.underlying 36 = some (.struct #[f0, f1]) ∧ f0.offset = 0 ∧ f1.offset = 1 ∧ f0.type = 3 ∧ f1.type = 34 := ⟨_, _, Try.underlying36, rfl, rfl, rfl, rfl⟩

/-- A slice of lines that came in. -/
theorem lns_of_trod {H : Type} {enc : TypeId × Value → H} {w : World} {a : Option Addr} {n cap : Nat} {d : DataW H} {p : List MemPlace} (h : DataW.Trod enc Try.prog w 0 (fun _ => true) true 32 (.slice a n cap) d p) :
    ∃ l, Lns w a n l ∧ ∀ x ∈ l, x.1 ≤ 9223372036854775807 ∧ x.2 < 4294967296 := by
  obtain ⟨fuel, hf⟩ := h
  obtain ⟨f0, f1, hu, o0, o1, t0, t1⟩ := under36
  rcases Go.Deep.open_slice_pairs Try.underlying32 hu (by kernel_rfl) o0 o1 (by rw [t0]; kernel_rfl) (by rw [t1]; kernel_rfl) hf with ⟨hcs, _⟩ | ⟨x, len, cap', m, k, V0, V1, D0, D1, P0, P1, hcs, _, hl, hm, hmm, _, hx⟩
  · simp [Value.cells] at hcs
    obtain ⟨rfl, rfl, rfl⟩ := hcs
    exact ⟨[], ⟨rfl, fun i x hx => by simp at hx⟩, fun x hx => by simp at hx⟩
  · simp [Value.cells] at hcs
    obtain ⟨rfl, rfl, rfl⟩ := hcs
    simp only [if_true] at hmm
    have hv : ∀ i, i < n → ∃ q : Int × Nat, w.cell? (x.add (i * 2)) = some (.int .i64 q.1) ∧ w.cell? (x.add (i * 2 + 1)) = some (.int .u32 (q.2 : Int)) ∧ q.1 ≤ 9223372036854775807 ∧ q.2 < 4294967296 := by
      intro i hi
      obtain ⟨h1, h2, h3, h4⟩ := hx i (by omega)
      rw [t0] at h3
      rw [t1] at h4
      obtain ⟨z0, e0, _, wf0⟩ := DataW.trod_int Try.underlying3 h3
      obtain ⟨z1, e1, _, wf1⟩ := DataW.trod_int Try.underlying34 h4
      simp only [List.cons.injEq, and_true] at e0 e1
      rw [e0] at h1
      rw [e1] at h2
      simp [Lit.wf, IntKind.min, IntKind.max, IntKind.signed, IntKind.bits] at wf0 wf1
      exact ⟨(z0, z1.toNat), h1, by rw [h2]; show some (Value.int .u32 z1) = some (.int .u32 ((z1.toNat : Nat) : Int)); rw [Int.toNat_of_nonneg (by omega)], by simp only; omega, by simp only; omega⟩
    obtain ⟨l, hll, hlx⟩ := list_of hv
    refine ⟨l, ⟨hll, fun i y hy => ?_⟩, fun y hy => ?_⟩
    · obtain ⟨h1, h2, _⟩ := hlx i y hy
      have hlt : i < n := by have := (List.getElem?_eq_some_iff.1 hy).1; omega
      obtain ⟨y0, hy0⟩ : ∃ y0, l[0]? = some y0 := ⟨_, List.getElem?_eq_getElem (by omega)⟩
      obtain ⟨b, o, hb⟩ := addr_plain (hlx 0 y0 hy0).1
      refine ⟨b, o, by rw [hb], ?_, ?_⟩
      · rw [← h1, hb, add_plain]
      · rw [← h2, hb, add_plain, Nat.add_assoc]
    · obtain ⟨i, hi, rfl⟩ := List.mem_iff_getElem.1 hy
      obtain ⟨_, _, h3, h4⟩ := hlx i _ (List.getElem?_eq_getElem hi)
      exact ⟨h3, h4⟩
end Go.Proofs.Ytljbehndnledpaa
