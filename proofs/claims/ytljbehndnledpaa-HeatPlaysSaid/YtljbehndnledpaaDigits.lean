/- Plain laws on decimal digits: what Num writes and Read reads. No program, no condition. -/
import Derived.Test.YtljbehndnledpaaBase
namespace Go.Proofs.Ytljbehndnledpaa

theorem snoc_ind {α : Type} {P : List α → Prop} (h0 : P []) (h1 : ∀ l x, P l → P (l ++ [x])) : ∀ l, P l := by
  intro l
  have key : ∀ r : List α, P r.reverse := by
    intro r
    induction r with
    | nil => exact h0
    | cons x r ih => rw [List.reverse_cons]; exact h1 _ _ ih
  have := key l.reverse
  rwa [List.reverse_reverse] at this

/-- The last decimal digit of a number, as a byte. -/
def digB (n : Nat) : UInt8 := UInt8.ofNat (48 + n % 10)

/-- The digits of a number ahead of bytes. -/
def decF : Nat → Nat → List UInt8 → List UInt8
  | 0, _, acc => acc
  | f + 1, n, acc => if n < 10 then digB n :: acc else decF f (n / 10) (digB n :: acc)
def decA (n : Nat) (acc : List UInt8) : List UInt8 := decF (n + 1) n acc
def dec (n : Nat) : List UInt8 := decA n []

theorem decF_eq : ∀ (f g n : Nat) (acc : List UInt8), n < f → n < g → decF f n acc = decF g n acc := by
  intro f
  induction f with
  | zero => intro g n acc h; omega
  | succ f ih =>
    intro g n acc h1 h2
    cases g with
    | zero => omega
    | succ g =>
      simp only [decF]
      by_cases h : n < 10
      · rw [if_pos h, if_pos h]
      · rw [if_neg h, if_neg h]; exact ih g (n / 10) _ (by omega) (by omega)

theorem decA_small (n : Nat) (acc : List UInt8) (h : n < 10) : decA n acc = digB n :: acc := by
  simp only [decA, decF, if_pos h]

theorem decA_big (n : Nat) (acc : List UInt8) (h : ¬ n < 10) : decA n acc = decA (n / 10) (digB n :: acc) := by
  unfold decA
  rw [decF, if_neg h]
  exact decF_eq _ _ _ _ (by omega) (by omega)

theorem decA_app (f : Nat) : ∀ (n : Nat) (acc : List UInt8), n < f → decA n acc = decA n [] ++ acc := by
  induction f with
  | zero => intro n acc h; omega
  | succ f ih =>
    intro n acc h
    by_cases h1 : n < 10
    · rw [decA_small n acc h1, decA_small n [] h1]; rfl
    · rw [decA_big n acc h1, decA_big n [] h1, ih (n / 10) (digB n :: acc) (by omega), ih (n / 10) [digB n] (by omega), List.append_assoc]; rfl

theorem dec_small (n : Nat) (h : n < 10) : dec n = [digB n] := decA_small n [] h
theorem dec_big (n : Nat) (h : ¬ n < 10) : dec n = dec (n / 10) ++ [digB n] := by
  unfold dec
  rw [decA_big n [] h, decA_app (n / 10 + 1) (n / 10) _ (by omega)]

/-- What digits say, read from the left. -/
def val (l : List UInt8) : Nat := l.foldl (fun a c => 10 * a + (c.toNat - 48)) 0
def isDig (c : UInt8) : Bool := decide (48 ≤ c.toNat ∧ c.toNat ≤ 57)
def digs (l : List UInt8) : Bool := l.all isDig

theorem val_snoc (l : List UInt8) (c : UInt8) : val (l ++ [c]) = 10 * val l + (c.toNat - 48) := by
  simp [val, List.foldl_append]
theorem val_nil : val [] = 0 := rfl

theorem digB_nat (n : Nat) : (digB n).toNat = 48 + n % 10 := by
  unfold digB
  rw [UInt8.toNat_ofNat']
  omega
theorem digB_dig (n : Nat) : isDig (digB n) = true := by
  simp only [isDig, digB_nat, decide_eq_true_eq]; omega

theorem dec_val (f : Nat) : ∀ n, n < f → val (dec n) = n := by
  induction f with
  | zero => intro n h; omega
  | succ f ih =>
    intro n h
    by_cases h1 : n < 10
    · rw [dec_small n h1]
      have := val_snoc [] (digB n)
      rw [List.nil_append] at this
      rw [this, digB_nat, val_nil]; omega
    · rw [dec_big n h1, val_snoc, ih (n / 10) (by omega), digB_nat]; omega
theorem val_dec (n : Nat) : val (dec n) = n := dec_val (n + 1) n (by omega)

theorem dec_digs (f : Nat) : ∀ n, n < f → digs (dec n) = true := by
  induction f with
  | zero => intro n h; omega
  | succ f ih =>
    intro n h
    by_cases h1 : n < 10
    · rw [dec_small n h1]; simp [digs, digB_dig]
    · rw [dec_big n h1]
      have := ih (n / 10) (by omega)
      simp only [digs, List.all_append, List.all_cons, List.all_nil, Bool.and_true, digB_dig] at this ⊢
      exact this
theorem digs_dec (n : Nat) : digs (dec n) = true := dec_digs (n + 1) n (by omega)

theorem dec_ne (n : Nat) : dec n ≠ [] := by
  by_cases h1 : n < 10
  · rw [dec_small n h1]; simp
  · rw [dec_big n h1]; simp

/-- No nought stands ahead, but of 0 itself. -/
theorem dec_headF (f : Nat) : ∀ n, n < f → (0 < n → (dec n).head? ≠ some 48) := by
  induction f with
  | zero => intro n h; omega
  | succ f ih =>
    intro n h h0
    by_cases h1 : n < 10
    · rw [dec_small n h1]
      intro e
      simp only [List.head?_cons, Option.some.injEq] at e
      have := congrArg UInt8.toNat e
      rw [digB_nat] at this
      have h48 : (48 : UInt8).toNat = 48 := rfl
      omega
    · rw [dec_big n h1]
      have := ih (n / 10) (by omega) (by omega)
      intro e
      rw [List.head?_append] at e
      cases hd : (dec (n / 10)).head? with
      | none => exact dec_ne _ (List.head?_eq_none_iff.1 hd)
      | some x => rw [hd] at e this; simp at e; exact this (by rw [e])
theorem dec_head (n : Nat) (h : 1 < (dec n).length) : (dec n).head? ≠ some 48 := by
  refine dec_headF (n + 1) n (by omega) ?_
  rcases Nat.eq_zero_or_pos n with h0 | h0
  · subst h0; rw [dec_small 0 (by omega)] at h; simp at h
  · exact h0

/-- What Read comes to. -/
def rd (l : List UInt8) : Nat × Nat :=
  if l = [] ∨ l.head? = some 48 ∧ 1 < l.length then (0, 21)
  else if digs l = false then (0, 21)
  else if 18446744073709551616 ≤ val l then (0, 50)
  else (val l, 0)

theorem rd_dec (n : Nat) (h : n < 18446744073709551616) : rd (dec n) = (n, 0) := by
  unfold rd
  rw [if_neg, if_neg, if_neg, val_dec]
  · rw [val_dec]; omega
  · rw [digs_dec]; simp
  · rintro (h1 | ⟨h1, h2⟩)
    · exact dec_ne n h1
    · exact dec_head n h2 h1

theorem digs_snoc {l : List UInt8} {c : UInt8} (h : digs (l ++ [c]) = true) : digs l = true ∧ 48 ≤ c.toNat ∧ c.toNat ≤ 57 := by
  simp only [digs, List.all_append, List.all_cons, List.all_nil, Bool.and_true, Bool.and_eq_true] at h
  exact ⟨h.1, by simpa [isDig] using h.2⟩

/-- As many digits as a number has: below so much. -/
theorem val_lt (l : List UInt8) : digs l = true → val l < 10 ^ l.length := by
  refine snoc_ind (P := fun l => digs l = true → val l < 10 ^ l.length) (by simp [val]) (fun l c ih h => ?_) l
  obtain ⟨h1, h2⟩ := digs_snoc h
  have := ih h1
  rw [val_snoc, List.length_append, List.length_singleton, Nat.pow_succ]
  omega

/-- Without a nought ahead: no less than so much. -/
theorem val_ge (l : List UInt8) : digs l = true → l ≠ [] → l.head? ≠ some 48 → 10 ^ (l.length - 1) ≤ val l := by
  refine snoc_ind (P := fun l => digs l = true → l ≠ [] → l.head? ≠ some 48 → 10 ^ (l.length - 1) ≤ val l) (by simp) (fun l c ih h hne hh => ?_) l
  obtain ⟨h1, h2⟩ := digs_snoc h
  rw [val_snoc, List.length_append, List.length_singleton, Nat.add_sub_cancel]
  by_cases hl : l = []
  · subst hl
    simp only [List.nil_append, List.head?_cons, ne_eq, Option.some.injEq] at hh
    have h48 : (48 : UInt8).toNat = 48 := rfl
    have : c.toNat ≠ 48 := fun e => hh (UInt8.toNat_inj.1 (e.trans h48.symm))
    simp only [List.length_nil, Nat.pow_zero, val_nil]
    omega
  · have hh' : l.head? ≠ some 48 := by
      intro e
      cases l with
      | nil => exact hl rfl
      | cons x l => simp at e hh; exact hh e
    have := ih h1 hl hh'
    have hlen : 0 < l.length := by cases l with | nil => exact absurd rfl hl | cons x l => simp
    obtain ⟨m, hm⟩ : ∃ m, l.length = m + 1 := ⟨l.length - 1, by omega⟩
    rw [hm, Nat.add_sub_cancel] at this
    rw [hm, Nat.pow_succ]
    omega

theorem foldl_val (l : List UInt8) : ∀ a, l.foldl (fun a c => 10 * a + (c.toNat - 48)) a = a * 10 ^ l.length + val l := by
  refine snoc_ind (P := fun l => ∀ a, l.foldl (fun a c => 10 * a + (c.toNat - 48)) a = a * 10 ^ l.length + val l) (by simp [val]) (fun l c ih a => ?_) l
  rw [val_snoc, List.foldl_append, List.foldl_cons, List.foldl_nil, ih a, List.length_append, List.length_singleton, Nat.pow_succ, ← Nat.mul_assoc]
  omega
theorem val_cons (c : UInt8) (l : List UInt8) : val (c :: l) = (c.toNat - 48) * 10 ^ l.length + val l := by
  have := foldl_val l (10 * 0 + (c.toNat - 48))
  unfold val at this ⊢
  rw [List.foldl_cons, this]
  simp

/-- Of two rows of as many digits the lesser one is the lesser number. -/
theorem less_val : ∀ a b : List UInt8, digs a = true → digs b = true → a.length = b.length → (Op.bytesLess a b = true ↔ val a < val b)
  | [], [], _, _, _ => by simp [Op.bytesLess]
  | [], _ :: _, _, _, h => by simp at h
  | _ :: _, [], _, _, h => by simp at h
  | x :: a, y :: b, ha, hb, h => by
    have ha' : isDig x = true ∧ digs a = true := by simpa [digs] using ha
    have hb' : isDig y = true ∧ digs b = true := by simpa [digs] using hb
    have hl : a.length = b.length := by simpa using h
    have ih := less_val a b ha'.2 hb'.2 hl
    have hx : 48 ≤ x.toNat ∧ x.toNat ≤ 57 := by simpa [isDig] using ha'.1
    have hy : 48 ≤ y.toNat ∧ y.toNat ≤ 57 := by simpa [isDig] using hb'.1
    have va := val_lt a ha'.2
    have vb := val_lt b hb'.2
    rw [val_cons, val_cons, hl]
    rw [hl] at va
    have hP : 0 < 10 ^ b.length := Nat.pow_pos (by omega)
    generalize 10 ^ b.length = P at *
    simp only [Op.bytesLess, Bool.or_eq_true, Bool.and_eq_true, decide_eq_true_eq, beq_iff_eq, UInt8.lt_iff_toNat_lt]
    rcases Nat.lt_trichotomy x.toNat y.toNat with hlt | heq | hgt
    · obtain ⟨d, hd⟩ : ∃ d, y.toNat - 48 = (x.toNat - 48) + 1 + d := ⟨y.toNat - x.toNat - 1, by omega⟩
      rw [hd, Nat.add_mul, Nat.add_mul, Nat.one_mul]
      exact ⟨fun _ => by omega, fun _ => .inl hlt⟩
    · have e : x = y := UInt8.toNat_inj.1 heq
      subst e
      constructor
      · rintro (h1 | ⟨_, h1⟩)
        · omega
        · have := ih.1 h1; omega
      · intro h1; exact .inr ⟨rfl, ih.2 (by omega)⟩
    · obtain ⟨d, hd⟩ : ∃ d, x.toNat - 48 = (y.toNat - 48) + 1 + d := ⟨x.toNat - y.toNat - 1, by omega⟩
      rw [hd, Nat.add_mul, Nat.add_mul, Nat.one_mul]
      constructor
      · rintro (h1 | ⟨e, _⟩)
        · omega
        · subst e; omega
      · intro h1; omega

/-- Digits of one length that say one number are the same. -/
theorem digs_inj : ∀ a b : List UInt8, digs a = true → digs b = true → a.length = b.length → val a = val b → a = b
  | [], [], _, _, _, _ => rfl
  | [], _ :: _, _, _, h, _ => by simp at h
  | _ :: _, [], _, _, h, _ => by simp at h
  | x :: a, y :: b, ha, hb, h, hv => by
    have ha' : isDig x = true ∧ digs a = true := by simpa [digs] using ha
    have hb' : isDig y = true ∧ digs b = true := by simpa [digs] using hb
    have hl : a.length = b.length := by simpa using h
    have hx : 48 ≤ x.toNat ∧ x.toNat ≤ 57 := by simpa [isDig] using ha'.1
    have hy : 48 ≤ y.toNat ∧ y.toNat ≤ 57 := by simpa [isDig] using hb'.1
    have va := val_lt a ha'.2
    have vb := val_lt b hb'.2
    rw [val_cons, val_cons, hl] at hv
    rw [hl] at va
    have hxy : x.toNat = y.toNat := by
      generalize 10 ^ b.length = P at *
      rcases Nat.lt_trichotomy x.toNat y.toNat with hlt | heq | hgt
      · obtain ⟨d, hd⟩ : ∃ d, y.toNat - 48 = (x.toNat - 48) + 1 + d := ⟨y.toNat - x.toNat - 1, by omega⟩
        rw [hd, Nat.add_mul, Nat.add_mul, Nat.one_mul] at hv; omega
      · exact heq
      · obtain ⟨d, hd⟩ : ∃ d, x.toNat - 48 = (y.toNat - 48) + 1 + d := ⟨x.toNat - y.toNat - 1, by omega⟩
        rw [hd, Nat.add_mul, Nat.add_mul, Nat.one_mul] at hv; omega
    have e : x = y := UInt8.toNat_inj.1 hxy
    subst e
    rw [digs_inj a b ha'.2 hb'.2 hl (by omega)]

/-- The greatest number of 64 bits, as digits. -/
def topDigs : List UInt8 := [49, 56, 52, 52, 54, 55, 52, 52, 48, 55, 51, 55, 48, 57, 53, 53, 49, 54, 49, 53]
theorem val_top : val topDigs = 18446744073709551615 := by decide +kernel

/-- How the reference tells that a number is too great. -/
theorem too_great (l : List UInt8) (h : digs l = true) (hne : l ≠ []) (hh : ¬ (l.head? = some 48 ∧ 1 < l.length)) :
    (20 < l.length ∨ l.length = 20 ∧ Op.bytesLess topDigs l = true) ↔ 18446744073709551616 ≤ val l := by
  have hlen : 0 < l.length := by cases l with | nil => exact absurd rfl hne | cons x l => simp
  by_cases h1 : 20 < l.length
  · have h2 := val_ge l h hne (fun e => hh ⟨e, by omega⟩)
    have h3 : 10 ^ 20 ≤ 10 ^ (l.length - 1) := Nat.pow_le_pow_right (by omega) (by omega)
    exact ⟨fun _ => by omega, fun _ => .inl h1⟩
  · by_cases h20 : l.length = 20
    · have h2 := less_val topDigs l (by decide +kernel) h (by rw [h20]; rfl)
      rw [val_top] at h2
      constructor
      · rintro (h3 | ⟨_, h3⟩)
        · omega
        · have := h2.1 h3; omega
      · intro h3; exact .inr ⟨h20, h2.2 (by omega)⟩
    · have h2 := val_lt l h
      have h3 : 10 ^ l.length ≤ 10 ^ 19 := Nat.pow_le_pow_right (by omega) (by omega)
      constructor
      · rintro (h4 | ⟨h4, _⟩) <;> omega
      · intro h4; omega
end Go.Proofs.Ytljbehndnledpaa
