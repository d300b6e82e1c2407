/- Plain: an operation read from words, and back. No condition but those of each theorem. -/
import Derived.Test.YtljbehndnledpaaOpLinePlain
namespace Go.Proofs.Ytljbehndnledpaa
open Go.RowKit

/-- A number of a word, if it is at most 65535; -1: it is none. -/
def smallL (w : List UInt8) : Int := if (rd w).2 = 0 ∧ (rd w).1 ≤ 65535 then ((rd w).1 : Int) else -1
/-- A field of one operation laid into another one. -/
def PO.put (o p : PO) (c : UInt8) : PO :=
  if c = 118 then { p with v := o.v } else if c = 105 then { p with i := o.i } else if c = 98 then { p with b := o.b } else if c = 110 then { p with n := o.n }
  else if c = 112 then { p with pt := o.pt } else if c = 100 then { p with d := o.d } else if c = 109 then { p with m := o.m } else p
def PO.of (k : Int) : PO := ⟨k, 0, 0, 0, 0, 0, [], []⟩
/-- Noughts where it doesn't look. -/
def PO.plain (o : PO) : PO := (looksL o.k).foldl o.put (PO.of o.k)
/-- An operation with what a word says of a field. -/
def PO.set (o : PO) (c : UInt8) (w : List UInt8) : Option PO :=
  if c = 112 then (if (rd w).2 = 0 then some { o with pt := ((rd w).1 : Int) } else none)
  else if c = 100 then (match unhex w with | none => none | some d => some { o with d := d })
  else if smallL w < 0 then none
  else some (if c = 118 then { o with v := smallL w } else if c = 105 then { o with i := smallL w } else if c = 98 then { o with b := smallL w }
    else if c = 110 then { o with n := smallL w } else { o with m := o.m ++ [smallL w] })
def setAll : PO → List UInt8 → List (List UInt8) → Option PO
  | o, [], [] => some o
  | o, c :: cs, w :: ws => match o.set c w with | none => none | some p => setAll p cs ws
  | _, _, _ => none
def kindFrom : Nat → Nat → List UInt8 → Nat
  | 0, _, _ => 0
  | f + 1, k, w => if wordL (k : Int) = w then k else kindFrom f (k + 1) w
/-- The kind of a word; 0: it is none's. -/
def kindOf (w : List UInt8) : Nat := kindFrom 19 1 w
def lettersL (k : Int) (n : Nat) : List UInt8 := if k = 6 then List.replicate n 109 else looksL k
def okO : Option PO → Option PO
  | none => none
  | some o => if o.right then some o else none
/-- The operation of words. -/
def readO : List (List UInt8) → Option PO
  | [] => none
  | w :: r => if kindOf w = 0 then none else
      okO (setAll (PO.of (kindOf w)) (lettersL (kindOf w : Int) r.length) r)

theorem part_v (o : PO) : o.part 118 = [numW o.v] := rfl
theorem put_v (o p : PO) : o.put p 118 = { p with v := o.v } := rfl
theorem part_i (o : PO) : o.part 105 = [numW o.i] := rfl
theorem put_i (o p : PO) : o.put p 105 = { p with i := o.i } := rfl
theorem part_b (o : PO) : o.part 98 = [numW o.b] := rfl
theorem put_b (o p : PO) : o.put p 98 = { p with b := o.b } := rfl
theorem part_n (o : PO) : o.part 110 = [numW o.n] := rfl
theorem put_n (o p : PO) : o.put p 110 = { p with n := o.n } := rfl
theorem part_p (o : PO) : o.part 112 = [numW o.pt] := rfl
theorem put_p (o p : PO) : o.put p 112 = { p with pt := o.pt } := rfl
theorem part_d (o : PO) : o.part 100 = [hexL o.d] := rfl
theorem put_d (o p : PO) : o.put p 100 = { p with d := o.d } := rfl
theorem part_m (o : PO) : o.part 109 = o.m.map numW := rfl
theorem put_m (o p : PO) : o.put p 109 = { p with m := o.m } := rfl
theorem readO_cons (w : List UInt8) (r : List (List UInt8)) : readO (w :: r) = if kindOf w = 0 then none else
      okO (setAll (PO.of (kindOf w)) (lettersL (kindOf w : Int) r.length) r) := rfl
theorem kindFrom_some : ∀ (f k : Nat) (w : List UInt8), kindFrom f k w ≠ 0 → wordL (kindFrom f k w : Int) = w ∧ k ≤ kindFrom f k w ∧ kindFrom f k w < k + f
  | 0, k, w, h => by simp [kindFrom] at h
  | f + 1, k, w, h => by
    simp only [kindFrom] at h ⊢
    split
    · rename_i he; exact ⟨he, by omega, by omega⟩
    · rename_i he
      rw [if_neg he] at h
      have := kindFrom_some f (k + 1) w h
      exact ⟨this.1, by omega, by omega⟩
theorem kindOf_some (w : List UInt8) (h : kindOf w ≠ 0) : wordL (kindOf w : Int) = w ∧ 1 ≤ kindOf w ∧ kindOf w ≤ 19 := by
  have := kindFrom_some 19 1 w h
  exact ⟨this.1, this.2.1, by have := this.2.2; unfold kindOf; omega⟩
theorem kindOf_word (k : Nat) (h1 : 1 ≤ k) (h2 : k ≤ 19) : kindOf (wordL (k : Int)) = k := by
  have : k = 1 ∨ k = 2 ∨ k = 3 ∨ k = 4 ∨ k = 5 ∨ k = 6 ∨ k = 7 ∨ k = 8 ∨ k = 9 ∨ k = 10 ∨ k = 11 ∨ k = 12 ∨ k = 13 ∨ k = 14 ∨ k = 15 ∨ k = 16 ∨ k = 17 ∨ k = 18 ∨ k = 19 := by omega
  rcases this with rfl | rfl | rfl | rfl | rfl | rfl | rfl | rfl | rfl | rfl | rfl | rfl | rfl | rfl | rfl | rfl | rfl | rfl | rfl <;> rfl

theorem smallL_dec (n : Nat) (h : n ≤ 65535) : smallL (dec n) = n := by
  unfold smallL
  rw [rd_dec n (by omega)]
  simp [h]
theorem rd_numW (z : Int) (h0 : 0 ≤ z) (h : z < 18446744073709551616) : rd (numW z) = (z.toNat, 0) := rd_dec _ (by omega)
theorem smallL_numW (z : Int) (h0 : 0 ≤ z) (h : z ≤ 65535) : smallL (numW z) = z := by
  unfold numW
  rw [smallL_dec _ (by omega)]
  omega

theorem set_v (o : PO) (z : Int) (h0 : 0 ≤ z) (h : z ≤ 65535) : o.set 118 (numW z) = some { o with v := z } := by
  unfold PO.set
  rw [smallL_numW z h0 h, if_neg (by decide), if_neg (by decide), if_neg (by omega), if_pos rfl]
theorem set_i (o : PO) (z : Int) (h0 : 0 ≤ z) (h : z ≤ 65535) : o.set 105 (numW z) = some { o with i := z } := by
  unfold PO.set
  rw [smallL_numW z h0 h, if_neg (by decide), if_neg (by decide), if_neg (by omega), if_neg (by decide), if_pos rfl]
theorem set_b (o : PO) (z : Int) (h0 : 0 ≤ z) (h : z ≤ 65535) : o.set 98 (numW z) = some { o with b := z } := by
  unfold PO.set
  rw [smallL_numW z h0 h, if_neg (by decide), if_neg (by decide), if_neg (by omega), if_neg (by decide), if_neg (by decide), if_pos rfl]
theorem set_n (o : PO) (z : Int) (h0 : 0 ≤ z) (h : z ≤ 65535) : o.set 110 (numW z) = some { o with n := z } := by
  unfold PO.set
  rw [smallL_numW z h0 h, if_neg (by decide), if_neg (by decide), if_neg (by omega), if_neg (by decide), if_neg (by decide), if_neg (by decide), if_pos rfl]
theorem set_m (o : PO) (z : Int) (h0 : 0 ≤ z) (h : z ≤ 65535) : o.set 109 (numW z) = some { o with m := o.m ++ [z] } := by
  unfold PO.set
  rw [smallL_numW z h0 h, if_neg (by decide), if_neg (by decide), if_neg (by omega), if_neg (by decide), if_neg (by decide), if_neg (by decide), if_neg (by decide)]
theorem set_p (o : PO) (z : Int) (h0 : 0 ≤ z) (h : z < 18446744073709551616) : o.set 112 (numW z) = some { o with pt := z } := by
  unfold PO.set
  rw [rd_numW z h0 h, if_pos rfl, if_pos rfl]
  have : ((z.toNat : Nat) : Int) = z := by omega
  rw [this]
theorem set_d (o : PO) (d : List UInt8) : o.set 100 (hexL d) = some { o with d := d } := by
  unfold PO.set
  rw [unhex_hexL, if_neg (by decide), if_pos rfl]

theorem setAll_m : ∀ (l : List Int) (o : PO), (∀ x ∈ l, 0 ≤ x ∧ x ≤ 65535) → setAll o (List.replicate l.length 109) (l.map numW) = some { o with m := o.m ++ l }
  | [], o, _ => by simp [setAll]
  | x :: l, o, h => by
    have hx := h x (List.mem_cons_self ..)
    simp only [List.length_cons, List.replicate_succ, List.map_cons, setAll, set_m o x hx.1 hx.2]
    rw [setAll_m l _ fun y hy => h y (List.mem_cons_of_mem _ hy)]
    simp

theorem PO.plain_right (o : PO) (h : o.right = true) : o.plain.right = true := by
  obtain ⟨⟨h1, h2⟩, hall⟩ := PO.right_all h
  obtain ⟨k, v, i, b, n, pt, d, m⟩ := o
  simp only at h1 h2 hall
  rcases kinds k h1 h2 with rfl | rfl | rfl | rfl | rfl | rfl | rfl | rfl | rfl | rfl | rfl | rfl | rfl | rfl | rfl | rfl | rfl | rfl | rfl <;>
    simp_all [looksL, PO.plain, PO.put, PO.right, rightO, mayO, PO.of]

/-- What an operation says in words is read as what it looks at. -/
theorem readO_words (o : PO) (h : o.right = true) (hp0 : 0 ≤ o.pt) (hp1 : o.pt < 18446744073709551616) : readO o.words = some o.plain := by
  have hpr := o.plain_right h
  obtain ⟨⟨h1, h2⟩, hall⟩ := PO.right_all h
  obtain ⟨k, v, i, b, n, pt, d, m⟩ := o
  simp only at h1 h2 hall hp0 hp1
  obtain ⟨K, rfl⟩ : ∃ K : Nat, k = K := ⟨k.toNat, by omega⟩
  have hV : ∀ c, c ∈ looksL (K : Int) → (c = 118 → 0 ≤ v ∧ v ≤ 65535) ∧ (c = 105 → 0 ≤ i ∧ i ≤ 65535) ∧ (c = 98 → 0 ≤ b ∧ b ≤ 65535) ∧ (c = 110 → 0 ≤ n ∧ n ≤ 65535) ∧ (c = 109 → ∀ x ∈ m, 0 ≤ x ∧ x ≤ 65535) := by
    intro c hc
    have := hall c hc
    refine ⟨?_, ?_, ?_, ?_, ?_⟩ <;> rintro rfl
    · simp [mayO, okId] at this; omega
    · simp [mayO, okId] at this; omega
    · simp [mayO, okPlace] at this; omega
    · simp [mayO, okCount] at this; omega
    · simp [mayO, okMem] at this
      intro x hx
      have := rises_range m 0 (Int.le_refl 0) this.1 x hx
      omega
  have hkw := kindOf_word K (by omega) (by omega)
  show readO (wordL (K : Int) :: (looksL (K : Int)).flatMap (PO.part ⟨K, v, i, b, n, pt, d, m⟩)) = _
  rw [readO_cons, hkw, if_neg (by omega)]
  have hset : setAll (PO.of K) (lettersL (K : Int) ((looksL (K : Int)).flatMap (PO.part ⟨K, v, i, b, n, pt, d, m⟩)).length) ((looksL (K : Int)).flatMap (PO.part ⟨K, v, i, b, n, pt, d, m⟩)) = some (PO.plain ⟨K, v, i, b, n, pt, d, m⟩) := by
    clear hpr h hkw hall
    have : K = 1 ∨ K = 2 ∨ K = 3 ∨ K = 4 ∨ K = 5 ∨ K = 6 ∨ K = 7 ∨ K = 8 ∨ K = 9 ∨ K = 10 ∨ K = 11 ∨ K = 12 ∨ K = 13 ∨ K = 14 ∨ K = 15 ∨ K = 16 ∨ K = 17 ∨ K = 18 ∨ K = 19 := by omega
    rcases this with rfl | rfl | rfl | rfl | rfl | rfl | rfl | rfl | rfl | rfl | rfl | rfl | rfl | rfl | rfl | rfl | rfl | rfl | rfl
    case inr.inr.inr.inr.inr.inl =>
      have hm := (hV 109 (by decide)).2.2.2.2 rfl
      have := setAll_m m (PO.of 6) hm
      show setAll _ (List.replicate ((m.map numW ++ []).length) 109) (m.map numW ++ []) = _
      rw [List.append_nil, List.length_map]
      exact this
    all_goals
      simp only [looksL, lettersL, PO.plain] at hV ⊢
      simp at hV ⊢
      try simp_all [setAll, part_v, part_i, part_b, part_n, part_p, part_d, put_v, put_i, put_b, put_n, put_p, put_d, set_v, set_i, set_b, set_n, set_p, set_d]
  rw [hset]
  simp only [okO, hpr, if_true]
end Go.Proofs.Ytljbehndnledpaa
