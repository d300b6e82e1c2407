/- Slices of counts, and the walk of slices.Clone at them. Conditions: those of each theorem. -/
import Derived.Test.YtljbehndnledpaaHeatMap
import Derived.Test.YtljbehndnledpaaOwnInts
namespace Go.Proofs.Ytljbehndnledpaa
open Go.RowKit

def hsCells (l : List Hs) : List Value := l.flatMap fun p => [.int .i64 p.1.1, .int .i64 p.1.2, .int .i64 p.2]
theorem hsCells_cons (p : Hs) (l : List Hs) : hsCells (p :: l) = [.int .i64 p.1.1, .int .i64 p.1.2, .int .i64 p.2] ++ hsCells l := rfl
theorem hsCells_len (l : List Hs) : (hsCells l).length = l.length * 3 := by
  induction l with
  | nil => rfl
  | cons r l ih => rw [hsCells_cons, List.length_append, ih]; simp; omega
theorem hsCells_app (a b : List Hs) : hsCells (a ++ b) = hsCells a ++ hsCells b := by simp [hsCells]
theorem hsCells_at (l : List Hs) (i : Nat) (r : Hs) (h : l[i]? = some r) : (hsCells l)[i * 3]? = some (.int .i64 r.1.1) ∧ (hsCells l)[i * 3 + 1]? = some (.int .i64 r.1.2) ∧ (hsCells l)[i * 3 + 2]? = some (.int .i64 r.2) := by
  induction l generalizing i with
  | nil => simp at h
  | cons x l ih =>
    cases i with
    | zero => simp at h; subst h; exact ⟨rfl, rfl, rfl⟩
    | succ i =>
      simp only [List.getElem?_cons_succ] at h
      obtain ⟨h1, h2, h3⟩ := ih i h
      rw [hsCells_cons, show (i + 1) * 3 = i * 3 + 3 by omega, show i * 3 + 3 + 1 = (i * 3 + 1) + 3 by omega, show i * 3 + 3 + 2 = (i * 3 + 2) + 3 by omega]
      exact ⟨h1, h2, h3⟩
/-- Where a cell of the row lies. -/
theorem hsCells_of (l : List Hs) (j : Nat) (u : Value) (h : (hsCells l)[j]? = some u) : ∃ p, l[j / 3]? = some p ∧ ((j = j / 3 * 3 ∧ u = .int .i64 p.1.1) ∨ (j = j / 3 * 3 + 1 ∧ u = .int .i64 p.1.2) ∨ (j = j / 3 * 3 + 2 ∧ u = .int .i64 p.2)) := by
  have hj : j < l.length * 3 := by rw [← hsCells_len]; exact (List.getElem?_eq_some_iff.1 h).1
  have hq : j / 3 < l.length := by omega
  refine ⟨l[j / 3], List.getElem?_eq_getElem hq, ?_⟩
  obtain ⟨h1, h2, h3⟩ := hsCells_at l (j / 3) _ (List.getElem?_eq_getElem hq)
  have : j = j / 3 * 3 ∨ j = j / 3 * 3 + 1 ∨ j = j / 3 * 3 + 2 := by omega
  rcases this with e | e | e
  · rw [← e, h] at h1; exact .inl ⟨e, Option.some.inj h1⟩
  · rw [← e, h] at h2; exact .inr (.inl ⟨e, Option.some.inj h2⟩)
  · rw [← e, h] at h3; exact .inr (.inr ⟨e, Option.some.inj h3⟩)
theorem hsCells_one (l : List Hs) : ∀ u ∈ hsCells l, u.oneCell' = true := fun u hu => by
  unfold hsCells at hu
  obtain ⟨p, -, hp⟩ := List.mem_flatMap.1 hu
  simp at hp
  rcases hp with rfl | rfl | rfl <;> rfl

/-- A slice of counts of the call's own. -/
def OwnH (w : World) (B : Nat) (v : Value) (l : List Hs) : Prop := w.ownsRow B 111 3 v l.length (hsCells l)
/-- A slice of counts that reads. -/
def HRow (w : World) (a : Option Addr) (n : Nat) (l : List Hs) : Prop :=
  l.length = n ∧ ∀ i r, l[i]? = some r → ∃ b o, a = some ⟨b, o, none⟩ ∧ w.cell? ⟨b, o + i * 3, none⟩ = some (.int .i64 r.1.1) ∧ w.cell? ⟨b, o + i * 3 + 1, none⟩ = some (.int .i64 r.1.2) ∧ w.cell? ⟨b, o + i * 3 + 2, none⟩ = some (.int .i64 r.2)
theorem HRow.below {w w' : World} {C : Nat} {a : Option Addr} {n : Nat} {l : List Hs} (h : HRow w a n l) (hb : Below C w w') (hC : w.heap.size ≤ C) : HRow w' a n l := by
  refine ⟨h.1, fun i r hr => ?_⟩
  obtain ⟨b, o, ha, h1, h2, h3⟩ := h.2 i r hr
  have hlt := World.block_lt_of_cell? _ _ h1
  simp at hlt
  refine ⟨b, o, ha, ?_, ?_, ?_⟩
  · rw [hb.cell (p := ⟨b, o + i * 3, none⟩) (by show b < C; omega)]; exact h1
  · rw [hb.cell (p := ⟨b, o + i * 3 + 1, none⟩) (by show b < C; omega)]; exact h2
  · rw [hb.cell (p := ⟨b, o + i * 3 + 2, none⟩) (by show b < C; omega)]; exact h3
theorem OwnH.row {w : World} {B : Nat} {v : Value} {l : List Hs} (h : OwnH w B v l) : ∃ a cap, v = .slice a l.length cap ∧ HRow w a l.length l ∧ l.length ≤ cap := by
  rcases h.2 with ⟨rfl, h0⟩ | ⟨g, cap, cur, rfl, hbg, hg, hnc, hcm, hcs, htake⟩
  · have : l = [] := List.eq_nil_of_length_eq_zero h0
    subst this
    exact ⟨none, 0, rfl, ⟨rfl, fun i r hr => by simp at hr⟩, Nat.le_refl _⟩
  · refine ⟨some ⟨g, 0, none⟩, cap, rfl, ⟨rfl, fun i r hr => ?_⟩, hnc⟩
    obtain ⟨h1, h2, h3⟩ := hsCells_at l i r hr
    have e1 := h.cells (g := g) rfl _ _ h1
    have e2 := h.cells (g := g) rfl _ _ h2
    have e3 := h.cells (g := g) rfl _ _ h3
    refine ⟨g, 0, rfl, ?_, ?_, ?_⟩
    · rw [← e1]; congr 1; unfold Addr.add; split <;> simp_all
    · rw [← e2]; congr 1
    · rw [← e3]; congr 1
theorem OwnH.stays {w w' : World} {B C : Nat} {v : Value} {l : List Hs} (h : OwnH w B v l) (hb : Below C w w') (hC : w.heap.size ≤ C) : OwnH w' B v l := owns_below h hb hC

theorem info111 : (Try.prog.info? 111).map (fun i => (i.zero, i.size, i.bytes)) = some (some (.agg #[.int .i64 0, .int .i64 0, .int .i64 0]), 3, 24) := by kernel_rfl
theorem OwnH.push {w : World} {B : Nat} {v : Value} {l : List Hs} (h : OwnH w B v l) (p : Hs) (hl : l.length ≤ 1000000000) (hB : B ≤ w.heap.size) :
    ∃ v' w', (Builtin.append_ #[104, 104] 104 #[v, .slice (some ⟨w.heap.size, 0, none⟩) 1 1]).run Try.prog (w.alloc (.cells #[.int .i64 p.1.1, .int .i64 p.1.2, .int .i64 p.2] 111)) = .ok v' w' ∧ OwnH w' B v' (l ++ [p]) ∧ w.grownBy w' v.ownBlock := by
  obtain ⟨i0, hi, hz0, hz1, hz2⟩ := info_parts info111
  obtain ⟨v', w', hr, hown, hg, _⟩ := app_new (P := Try.prog) Try.underlying104 hi hz0 hz1 hz2 rfl (by decide) h 1 [.int .i64 p.1.1, .int .i64 p.1.2, .int .i64 p.2] rfl (by simp [Value.oneCell']) (by unfold maxLen; omega) (by omega) hB
  refine ⟨v', w', hr, ?_, hg⟩
  unfold OwnH
  rw [hsCells_app, List.length_append]
  exact hown
/-- Counts appended out of a slice that reads. -/
theorem OwnH.app {w : World} {B : Nat} {v : Value} {l : List Hs} (h : OwnH w B v l) {b o m : Nat} (c : Nat) {l2 : List Hs} (hs : HRow w (some ⟨b, o, none⟩) m l2) (hl : l.length + m ≤ 1000000000) (hB : B ≤ w.heap.size) :
    ∃ v' w', (Builtin.append_ #[104, 104] 104 #[v, .slice (some ⟨b, o, none⟩) m c]).run Try.prog w = .ok v' w' ∧ OwnH w' B v' (l ++ l2) ∧ w.grownBy w' v.ownBlock := by
  obtain ⟨i0, hi, hz0, hz1, hz2⟩ := info_parts info111
  obtain ⟨v', w', hr, hown, hg, _⟩ := run_append_own (P := Try.prog) w B 104 104 111 i0 (.agg #[.int .i64 0, .int .i64 0, .int .i64 0]) 3 24 Try.underlying104 hi hz0 hz1 hz2 rfl (by decide) v l.length (hsCells l) h ⟨b, o, none⟩ m c (hsCells l2) (by rw [hsCells_len, hs.1]) (fun j u hu => by
    obtain ⟨p, hp, hj⟩ := hsCells_of l2 j u hu
    obtain ⟨b', o', he, h1, h2, h3⟩ := hs.2 _ _ hp
    simp only [Option.some.injEq, Addr.mk.injEq, and_true] at he
    obtain ⟨rfl, rfl⟩ := he
    have hadd : (⟨b, o, none⟩ : Addr).add j = ⟨b, o + j, none⟩ := by unfold Addr.add; split <;> simp_all
    rw [hadd]
    rcases hj with ⟨e, rfl⟩ | ⟨e, rfl⟩ | ⟨e, rfl⟩
    · rw [show o + j = o + j / 3 * 3 by omega]; exact h1
    · rw [show o + j = o + j / 3 * 3 + 1 by omega]; exact h2
    · rw [show o + j = o + j / 3 * 3 + 2 by omega]; exact h3) (hsCells_one l2) (by unfold maxLen; omega) (by omega) hB
  refine ⟨v', w', hr, ?_, hg⟩
  unfold OwnH
  rw [hsCells_app, List.length_append, hs.1]
  exact hown
end Go.Proofs.Ytljbehndnledpaa
