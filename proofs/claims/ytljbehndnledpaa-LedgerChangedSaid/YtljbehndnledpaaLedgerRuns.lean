/- The walks of yesteryearlaw63.runs and of slices.Equal at runs; and that runs are extents. Conditions: those of each theorem. -/
import Derived.Test.YtljbehndnledpaaLedgerMade
namespace Go.Proofs.Ytljbehndnledpaa
open Go.RowKit

/-- A slice of truths: one for each place. -/
def Flags (w : World) (g n : Nat) (f : Nat → Bool) : Prop := ∀ j, j < n → w.cell? ⟨g, j, none⟩ = some (.bool (f j)) ∧ w.frozen? ⟨g, j, none⟩ = false
def runStep (f : Nat → Bool) (acc : List (Int × Int)) (i : Nat) : List (Int × Int) :=
  if f i = false then acc else if 0 < i ∧ f (i - 1) = true then (match acc.getLast? with | none => [] | some r => acc.dropLast ++ [(r.1, r.2 + 1)]) else acc ++ [((i : Int) + 1, 1)]
/-- The runs of the places, and one more, of which f says yes. -/
def runsF (f : Nat → Bool) (n : Nat) : List (Int × Int) := (List.range n).foldl (runStep f) []
theorem runsF_succ (f : Nat → Bool) (n : Nat) : runsF f (n + 1) = runStep f (runsF f n) n := by simp [runsF, List.range_succ]
/-- The places, and one more. -/
def onesF (f : Nat → Bool) (n : Nat) : List Int := ((List.range n).filter f).map fun i => ((i : Nat) : Int) + 1
theorem onesF_succ (f : Nat → Bool) (n : Nat) : onesF f (n + 1) = onesF f n ++ (if f n then [((n : Nat) : Int) + 1] else []) := by
  unfold onesF
  rw [List.range_succ, List.filter_append, List.map_append]
  congr 1
  cases h : f n <;> simp [List.filter, h]

theorem runs_inv (f : Nat → Bool) : ∀ n, n ≤ 4096 → runsF f n = (onesF f n).foldl ofStep [] ∧ (∀ r, (runsF f n).getLast? = some r → r.1 + r.2 ≤ (n : Int) + 1 ∧ (r.1 + r.2 = (n : Int) + 1 ↔ 0 < n ∧ f (n - 1) = true)) ∧ ((0 < n ∧ f (n - 1) = true) → ∃ l r, runsF f n = l ++ [r]) ∧ (∀ r ∈ runsF f n, 1 ≤ r.2 ∧ r.2 ≤ (n : Int)) ∧ (runsF f n).length ≤ n
  | 0, _ => ⟨rfl, fun r hr => by simp [runsF] at hr, fun h => by omega, fun r hr => by simp [runsF] at hr, by simp [runsF]⟩
  | n + 1, hn => by
    obtain ⟨h1, h2, h3, h4, h5⟩ := runs_inv f n (by omega)
    rw [runsF_succ, onesF_succ, List.foldl_append, ← h1]
    cases hf : f n with
    | false =>
      have e : runStep f (runsF f n) n = runsF f n := by unfold runStep; rw [if_pos hf]
      rw [e]
      refine ⟨by simp, fun r hr => ?_, fun h => ?_, fun r hr => ?_, by omega⟩
      · have := h2 r hr
        refine ⟨by omega, ?_⟩
        simp only [Nat.add_sub_cancel, hf]
        constructor
        · intro h; omega
        · intro h; cases h.2
      · simp only [Nat.add_sub_cancel, hf] at h; cases h.2
      · have := h4 r hr; omega
    | true =>
      have hnot : ¬ (((n : Nat) : Int) + 1 < 0 ∨ 4096 < ((n : Nat) : Int) + 1) := by omega
      have e0 : List.foldl ofStep (runsF f n) (if true = true then [((n : Nat) : Int) + 1] else []) = ofStep (runsF f n) (((n : Nat) : Int) + 1) := rfl
      rw [e0]
      by_cases hp : 0 < n ∧ f (n - 1) = true
      · obtain ⟨l, r, hl⟩ := h3 hp
        have hlast : (runsF f n).getLast? = some r := by rw [hl]; simp
        have hr := (h2 r hlast).2.2 hp
        have hr4 := h4 r (by rw [hl]; simp)
        have e1 : runStep f (runsF f n) n = l ++ [(r.1, r.2 + 1)] := by
          unfold runStep
          rw [if_neg (by rw [hf]; simp), if_pos hp, hl]
          simp
        have e2 : ofStep (runsF f n) (((n : Nat) : Int) + 1) = l ++ [(r.1, r.2 + 1)] := by
          unfold ofStep
          rw [if_neg hnot, hl]
          simp [hr]
        rw [e1, e2]
        refine ⟨rfl, fun x hx => ?_, fun _ => ⟨_, _, rfl⟩, fun x hx => ?_, ?_⟩
        · simp at hx; subst hx
          simp only [Nat.add_sub_cancel, hf]
          refine ⟨by simp; omega, ?_⟩
          simp; omega
        · rcases List.mem_append.1 hx with hx | hx
          · have := h4 x (by rw [hl]; exact List.mem_append_left _ hx); omega
          · rw [List.mem_singleton.1 hx]; simp only; omega
        · rw [hl] at h5; simp at h5 ⊢; omega
      · have e1 : runStep f (runsF f n) n = runsF f n ++ [((n : Int) + 1, 1)] := by
          unfold runStep
          rw [if_neg (by rw [hf]; simp), if_neg hp]
        have e2 : ofStep (runsF f n) (((n : Nat) : Int) + 1) = runsF f n ++ [((n : Int) + 1, 1)] := by
          unfold ofStep
          rw [if_neg hnot]
          cases hg : (runsF f n).getLast? with
          | none =>
            have : runsF f n = [] := List.getLast?_eq_none_iff.1 hg
            rw [this]; rfl
          | some r =>
            have h9 := h2 r hg
            have : ¬ r.1 + r.2 = ((n : Nat) : Int) + 1 := fun e => hp (h9.2.1 e)
            simp [this]
        rw [e1, e2]
        refine ⟨rfl, fun x hx => ?_, fun _ => ⟨_, _, rfl⟩, fun x hx => ?_, ?_⟩
        · simp at hx; subst hx
          simp only [Nat.add_sub_cancel, hf]
          refine ⟨by simp <;> omega, ?_⟩
          simp <;> omega
        · rcases List.mem_append.1 hx with hx | hx
          · have := h4 x hx; omega
          · rw [List.mem_singleton.1 hx]; simp only; omega
        · simp; omega

theorem onesF_pair (f : Nat → Bool) (n : Nat) : (onesF f n).Pairwise (· < ·) ∧ ∀ x ∈ onesF f n, x ≤ (n : Int) := by
  induction n with
  | zero => simp [onesF]
  | succ n ih =>
    rw [onesF_succ]
    cases hf : f n with
    | false => simp; exact ⟨ih.1, fun x hx => by have := ih.2 x hx; omega⟩
    | true =>
      refine ⟨List.pairwise_append.2 ⟨ih.1, by simp, fun a ha b hb => ?_⟩, fun x hx => ?_⟩
      · simp at hb; subst hb; have := ih.2 a ha; omega
      · rcases List.mem_append.1 hx with hx | hx
        · have := ih.2 x hx; omega
        · simp at hx; omega
theorem sortL_rising (zs : List Int) (h : zs.Pairwise (· < ·)) : sortL zs = zs := by
  unfold sortL
  exact List.mergeSort_of_pairwise (h.imp fun hab => by simp; omega)
theorem compact_rising (zs : List Int) (h : zs.Pairwise (· < ·)) : Lib.compact zs = zs := by
  refine Lib.compact_all zs fun j hj => ?_
  by_cases h0 : j < 1
  · exact Lib.keeps_lt_one _ j h0
  · refine Lib.keeps_pos ?_
    have := List.pairwise_iff_getElem.1 h (j - 1) j (by omega) hj (by omega)
    have e1 : zs.toArray[j]! = zs[j] := by simp [hj]
    have e2 : zs.toArray[j - 1]! = zs[j - 1] := by simp [show j - 1 < zs.length by omega]
    rw [e1, e2]
    omega
/-- The extents of places are their runs. -/
theorem ofL_ones (f : Nat → Bool) (n : Nat) (hn : n ≤ 4096) : ofL (onesF f n) = runsF f n := by
  unfold ofL
  rw [sortL_rising _ (onesF_pair f n).1, compact_rising _ (onesF_pair f n).1]
  exact (runs_inv f n hn).1.symm
end Go.Proofs.Ytljbehndnledpaa
