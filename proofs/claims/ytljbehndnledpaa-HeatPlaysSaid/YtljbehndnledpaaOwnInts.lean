/- Slices of integers of the call's own: cloned, sorted, compacted. Conditions: those of each theorem. -/
import Derived.Test.YtljbehndnledpaaShelfInts
import Derived.Test.YtljbehndnledpaaStep
import Derived.Test.YtljbehndnledpaaPieces
import Derived.Test.YtljbehndnledpaaOpSmall
import Derived.Sort.OwnSortedInts
namespace Go.Proofs.Ytljbehndnledpaa
open Go.RowKit

theorem owns_below {w w' : World} {B C : Nat} {e : TypeId} {size n : Nat} {v : Value} {xs : List Value} (h : w.ownsRow B e size v n xs) (hb : Below C w w') (hC : w.heap.size ≤ C) : w'.ownsRow B e size v n xs := by
  refine ⟨h.1, ?_⟩
  rcases h.2 with h2 | ⟨g, cap, cur, hv, hg, hh, r⟩
  · exact .inl h2
  · have hlt := (Array.getElem?_eq_some_iff.1 hh).1
    exact .inr ⟨g, cap, cur, hv, hg, by rw [hb.block g (by omega)]; exact hh, r⟩
theorem owns_lower {w : World} {B C : Nat} {e : TypeId} {size n : Nat} {v : Value} {xs : List Value} (h : w.ownsRow B e size v n xs) (hC : C ≤ B) : w.ownsRow C e size v n xs := by
  refine ⟨h.1, ?_⟩
  rcases h.2 with h2 | ⟨g, cap, cur, hv, hg, r⟩
  · exact .inl h2
  · exact .inr ⟨g, cap, cur, hv, by omega, r⟩

/-- Rising. -/
def sortL (zs : List Int) : List Int := zs.mergeSort fun x y => decide (x ≤ y)
theorem sortL_len (zs : List Int) : (sortL zs).length = zs.length := List.length_mergeSort ..

theorem sort_own {w : World} {B : Nat} {v : Value} {zs : List Int} (h : w.ownsRow B 3 1 v zs.length (zs.map (.int .i64))) (hn : zs.length ≤ 1000000000) (hB : B ≤ w.heap.size) :
    Calls Try.prog 143 #[v] w fun e w' => e = .returned (.tuple #[]) ∧ w'.ownsRow B 3 1 v (sortL zs).length ((sortL zs).map (.int .i64)) ∧ Below B w w' := by
  rcases h.2 with ⟨rfl, h0⟩ | ⟨g, cap, cur, rfl, hbg, hg, hnc, hcm, hcs, htake⟩
  · have : zs = [] := List.eq_nil_of_length_eq_zero h0
    subst this
    refine (Try.slices_Sort_int_none none 0 w).mono ?_
    rintro e w' ⟨rfl, rfl⟩
    exact ⟨rfl, by simpa [sortL] using h, Below.refl _ _⟩
  · have hlt : g < w.heap.size := (Array.getElem?_eq_some_iff.1 hg).1
    rw [Nat.mul_one] at htake
    refine (Try.slices_Sort_int g 0 cap zs w (holds_of_blockI hg htake) hlt (by omega)).mono ?_
    rintro e w' ⟨rfl, n, os, rfl⟩
    refine ⟨rfl, ?_, ?_⟩
    · have := ownsRow_sortedI (w := w) (n := n) (os := os) (ts := sortL zs) (sortL_len zs) hbg hg hnc hcm (by omega)
      rw [sortL_len]
      exact this
    · exact (Below.refl B w).grown (grownBy_sortedI (n := n) (os := os) (sortL zs).toArray) hB (fun k hk => by cases hk; exact hbg)

theorem setCells_below {B g : Nat} : ∀ (xs : List Value) (w : World) (o : Nat), B ≤ g → Below B w (w.setCells g o xs)
  | [], w, o, _ => Below.refl _ _
  | x :: xs, w, o, h => by
    show Below B w ((w.setCell ⟨g, o, none⟩ x).setCells g (o + 1) xs)
    exact ((Below.refl B w).setCell (p := ⟨g, o, none⟩) h x).trans (setCells_below xs _ _ h)
theorem compact_le (zs : List Int) : (Lib.compact zs).length ≤ zs.length := by
  unfold Lib.compact Lib.compactUpTo
  rw [List.length_map]
  exact Nat.le_trans (List.length_filter_le _ _) (by simp)

/-- Compacted: what reads behind. -/
theorem compact_own {w : World} {B : Nat} {v : Value} {zs : List Int} (h : w.ownsRow B 3 1 v zs.length (zs.map (.int .i64))) (hn : zs.length ≤ 1000000000) :
    Calls Try.prog 144 #[v] w fun e w' => ∃ a c, e = .returned (.slice a (Lib.compact zs).length c) ∧ Is .i64 w' a (Lib.compact zs).length (Lib.compact zs) ∧ Below B w w' := by
  rcases h.2 with ⟨rfl, h0⟩ | ⟨g, cap, cur, rfl, hbg, hg, hnc, hcm, hcs, htake⟩
  · have : zs = [] := List.eq_nil_of_length_eq_zero h0
    subst this
    refine (Try.slices_Compact_int_empty none 0 w).mono ?_
    rintro e w' ⟨rfl, rfl⟩
    exact ⟨none, 0, rfl, ⟨rfl, fun i x hx => by simp [Lib.compact, Lib.compactUpTo] at hx⟩, Below.refl _ _⟩
  · rw [Nat.mul_one] at htake
    have hH := holds_of_blockI hg htake
    have hc : ∀ j, j < zs.length → w.cell? ⟨g, 0 + j, none⟩ = some (.int .i64 (zs.getD j 0)) := by
      intro j hj
      have := (hH j (by simpa using hj)).1
      rw [this]
      congr 2
      simp [hj]
    have hf : ∀ j, j < zs.length → w.frozen? ⟨g, 0 + j, none⟩ = false := fun j hj => (hH j (by simpa using hj)).2
    refine (Try.slices_Compact_int_cells g 0 zs.length cap zs w (Nat.le_refl _) (by omega) hnc hc hf).mono ?_
    rw [List.take_length]
    rintro e w' ⟨rfl, q, rfl⟩
    have hcl := compact_le zs
    refine ⟨_, _, rfl, ?_, ?_⟩
    · refine Is.mk' rfl fun i hi => ?_
      have h1 := World.cell?_setCells_in g ((Lib.compact zs ++ List.replicate (zs.length - (Lib.compact zs).length) 0).map (Value.int .i64)) 0 (w.drewN q) (fun j hj => by
        have hj' : j < zs.length := by simp at hj; omega
        show (w.cell? ⟨g, 0 + j, none⟩).isSome = true
        rw [hc j hj']; rfl) i (by simp; omega)
      rw [h1, List.getElem_map, List.getElem_append_left hi]
      simp [List.getD, hi]
    · exact (show Below B w (w.drewN q) from below_drewN (Below.refl B w) q).trans (setCells_below _ _ _ hbg)
end Go.Proofs.Ytljbehndnledpaa
