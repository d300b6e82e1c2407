/- The law's own reckoning of the counts: insertion into the sorted row, sums, the count of a spot. No program. -/
import Derived.Test.YtljbehndnledpaaHeatKept
namespace Go.Proofs.Ytljbehndnledpaa

theorem topL_sorted (l : List Hs) : (topL l).Pairwise fun x y => (!(befH y x)) = true := by
  have tr : ∀ x y z : Hs, (!(befH y x)) = true → (!(befH z y)) = true → (!(befH z x)) = true := fun x y z e1 e2 => by
    simp only [Bool.not_eq_true'] at *
    exact befH_ntrans e2 e1
  have to : ∀ x y : Hs, (!(befH y x) || !(befH x y)) = true := fun x y => by
    cases e1 : befH y x
    · rfl
    · cases e2 : befH x y
      · rfl
      · rw [befH_iff] at e1 e2
        omega
  exact List.pairwise_mergeSort tr to l
theorem topL_is {l t : List Hs} (hp : t.Perm l) (hs : t.Pairwise fun x y => (!(befH y x)) = true) : t = topL l := by
  refine List.Perm.eq_of_pairwise (le := fun x y => (!(befH y x)) = true) (fun x y _ _ e1 e2 => ?_) hs (topL_sorted l) (hp.trans (List.mergeSort_perm l _).symm)
  simp only [Bool.not_eq_true'] at e1 e2
  exact befH_total e2 e1
theorem befH_asymm {a b : Hs} (h : befH a b = true) : befH b a = false := by
  rw [befH_not]
  rw [befH_iff] at h
  omega
/-- One more count laid where the loop stops. -/
theorem ins_top {l : List Hs} (p : Hs) (j : Nat) (hj : j ≤ (topL l).length) (h1 : ∀ i q, j ≤ i → (topL l)[i]? = some q → befH p q = true) (h2 : j = 0 ∨ ∃ q, (topL l)[j - 1]? = some q ∧ befH p q = false) :
    (topL l).take j ++ [p] ++ (topL l).drop j = topL (l ++ [p]) := by
  have hs := topL_sorted l
  have hpm : (topL l).Perm l := List.mergeSort_perm l _
  refine topL_is ?_ ?_
  · have e1 : ((topL l).take j ++ [p] ++ (topL l).drop j).Perm ((topL l).take j ++ (topL l).drop j ++ [p]) := by
      rw [List.append_assoc, List.append_assoc]
      exact List.Perm.append_left _ List.perm_append_comm
    rw [List.take_append_drop] at e1
    exact e1.trans (hpm.append_right [p])
  · rw [← List.take_append_drop j (topL l), List.pairwise_append] at hs
    obtain ⟨s1, s2, s3⟩ := hs
    have hd : ∀ y ∈ (topL l).drop j, befH p y = true := fun y hy => by
      obtain ⟨i, hi⟩ := List.getElem?_of_mem hy
      rw [List.getElem?_drop] at hi
      exact h1 _ y (by omega) hi
    have ht : ∀ x ∈ (topL l).take j, befH p x = false := fun x hx => by
      rcases h2 with rfl | ⟨q, hq, hpq⟩
      · simp at hx
      · obtain ⟨i, hi⟩ := List.getElem?_of_mem hx
        have hij : i < j := by
          have := (List.getElem?_eq_some_iff.1 hi).1
          rw [List.length_take] at this
          omega
        rw [List.getElem?_take_of_lt hij] at hi
        by_cases e : i = j - 1
        · subst e
          rw [hq] at hi
          cases hi
          exact hpq
        · have hso := topL_sorted l
          rw [List.pairwise_iff_getElem] at hso
          obtain ⟨hi1, hi2⟩ := List.getElem?_eq_some_iff.1 hi
          obtain ⟨hq1, hq2⟩ := List.getElem?_eq_some_iff.1 hq
          have := hso i (j - 1) hi1 hq1 (by omega)
          rw [hi2, hq2] at this
          simp only [Bool.not_eq_true'] at this
          exact befH_ntrans hpq this
    rw [List.append_assoc, List.pairwise_append]
    refine ⟨s1, ?_, fun x hx y hy => ?_⟩
    · rw [List.singleton_append, List.pairwise_cons]
      exact ⟨fun y hy => by rw [befH_asymm (hd y hy)]; rfl, s2⟩
    · rw [List.singleton_append, List.mem_cons] at hy
      rcases hy with rfl | hy
      · rw [ht x hx]; rfl
      · exact s3 x hx y hy

theorem sumS_snoc (l : List Hs) (p : Hs) : sumS (l ++ [p]) = sumS l + p.2 := by
  unfold sumS
  rw [List.map_append, List.sum_append]
  simp
theorem cntS_snoc (l : List Hs) (p : Hs) (s : Int × Int) (hn : ((l ++ [p]).map (·.1)).Nodup) : cntS (l ++ [p]) s = if p.1 = s then p.2 else cntS l s := by
  induction l with
  | nil => simp [cntS]
  | cons q l ih =>
    simp only [List.cons_append, List.map_cons, List.nodup_cons] at hn
    obtain ⟨h1, h2⟩ := hn
    simp only [List.cons_append, cntS]
    by_cases hq : q.1 = s
    · rw [if_pos hq]
      have : ¬ p.1 = s := fun e => h1 (by rw [hq, ← e]; simp)
      rw [if_neg this, if_pos hq]
    · rw [if_neg hq, if_neg hq]
      exact ih h2
theorem sumS_le {l : List Hs} {m : Int} (h : ∀ p ∈ l, 0 ≤ p.2 ∧ p.2 ≤ m) : 0 ≤ sumS l ∧ sumS l ≤ l.length * m := by
  induction l with
  | nil => simp [sumS]
  | cons p l ih =>
    obtain ⟨i1, i2⟩ := ih (fun q hq => h q (by simp [hq]))
    have hp := h p (by simp)
    unfold sumS at *
    rw [List.map_cons, List.sum_cons, List.length_cons]
    refine ⟨by omega, ?_⟩
    rw [Int.natCast_add, Int.add_mul]
    simp
    omega

/-- What holds of the counts behind some calls. -/
structure Few (L : List Hs) (i : Nat) : Prop where
  len : L.length ≤ i
  val : ∀ p ∈ L, 0 ≤ p.2 ∧ p.2 ≤ i
theorem cntS_mem {L : List Hs} {s : Int × Int} : cntS L s = 0 ∨ ∃ p ∈ L, cntS L s = p.2 := by
  induction L with
  | nil => exact .inl rfl
  | cons q L ih =>
    unfold cntS
    by_cases h : q.1 = s
    · rw [if_pos h]; exact .inr ⟨q, by simp, rfl⟩
    · rw [if_neg h]
      rcases ih with h0 | ⟨p, hp, h0⟩
      · exact .inl h0
      · exact .inr ⟨p, by simp [hp], h0⟩
theorem Few.cnt {L : List Hs} {i : Nat} (h : Few L i) (s : Int × Int) : 0 ≤ cntS L s ∧ cntS L s ≤ i := by
  rcases cntS_mem (L := L) (s := s) with h0 | ⟨p, hp, h0⟩
  · omega
  · have := h.val p hp
    omega
theorem setS_len (L : List Hs) (s : Int × Int) (v : Int) : (setS L s v).length ≤ L.length + 1 := by
  induction L with
  | nil => simp [setS]
  | cons q L ih =>
    unfold setS
    by_cases h : q.1 = s
    · rw [if_pos h]; simp
    · rw [if_neg h]; simp; omega
theorem setS_mem {L : List Hs} {s : Int × Int} {v : Int} {p : Hs} (h : p ∈ setS L s v) : p = (s, v) ∨ p ∈ L := by
  induction L with
  | nil => simp [setS] at h; exact .inl h
  | cons q L ih =>
    unfold setS at h
    by_cases hq : q.1 = s
    · rw [if_pos hq] at h
      rcases List.mem_cons.1 h with h | h
      · exact .inl h
      · exact .inr (by simp [h])
    · rw [if_neg hq] at h
      rcases List.mem_cons.1 h with h | h
      · exact .inr (by simp [h])
      · rcases ih h with h | h
        · exact .inl h
        · exact .inr (by simp [h])
theorem Few.add {L : List Hs} {i : Nat} (h : Few L i) (is : Bool) (s : Int × Int) : Few (addL L is s) (i + 1) := by
  have hc := h.cnt s
  unfold addL
  cases is
  · exact ⟨Nat.le_succ_of_le h.len, fun p hp => by have := h.val p hp; omega⟩
  · refine ⟨Nat.le_trans (setS_len _ _ _) (Nat.succ_le_succ h.len), fun p hp => ?_⟩
    rcases setS_mem hp with rfl | hp
    · simp only; omega
    · have := h.val p hp
      omega
theorem Few.cool {L : List Hs} {i : Nat} (h : Few L i) : Few (coolS L) (i + 1) := by
  refine ⟨by have := List.length_filterMap_le (fun p : Hs => if p.2 < 2 then none else some (p.1, p.2 / 2)) L; unfold coolS; have := h.len; omega, fun p hp => ?_⟩
  unfold coolS at hp
  obtain ⟨q, hq, he⟩ := List.mem_filterMap.1 hp
  have := h.val q hq
  by_cases h2 : q.2 < 2
  · rw [if_pos h2] at he; cases he
  · rw [if_neg h2] at he
    cases he
    simp only
    omega
end Go.Proofs.Ytljbehndnledpaa
