/- Plain: an operation read by guessing, which is the same one. No condition but those of each theorem. -/
import Derived.Test.YtljbehndnledpaaOpReadPlain
namespace Go.Proofs.Ytljbehndnledpaa
open Go.RowKit

theorem rd_some (w : List UInt8) (h : (rd w).2 = 0) : dec (rd w).1 = w := by
  unfold rd at h ⊢
  by_cases h1 : w = [] ∨ w.head? = some 48 ∧ 1 < w.length
  · rw [if_pos h1] at h; cases h
  · rw [if_neg h1] at h ⊢
    by_cases h2 : digs w = false
    · rw [if_pos h2] at h; cases h
    · rw [if_neg h2] at h ⊢
      by_cases h3 : 18446744073709551616 ≤ val w
      · rw [if_pos h3] at h; cases h
      · rw [if_neg h3]
        show dec (val w) = w
        have hd : digs w = true := by cases hh : digs w <;> simp_all
        have hne : w ≠ [] := fun he => h1 (.inl he)
        have hpos : 0 < w.length := List.length_pos_iff.2 hne
        have hdd := digs_dec (val w)
        have hvd := val_dec (val w)
        have hdp : 0 < (dec (val w)).length := List.length_pos_iff.2 (dec_ne _)
        have hlt := val_lt w hd
        have hlt2 := val_lt _ hdd
        rw [hvd] at hlt2
        refine digs_inj _ _ hdd hd ?_ hvd
        have up : ∀ a b v : Nat, 10 ^ a ≤ v → v < 10 ^ b → a < b := fun a b v x y => (Nat.pow_lt_pow_iff_right (by omega)).1 (Nat.lt_of_le_of_lt x y)
        have hw : 1 < w.length → w.length - 1 < (dec (val w)).length := fun hl =>
          up _ _ _ (val_ge w hd hne fun hh => h1 (.inr ⟨hh, hl⟩)) hlt2
        have hw2 : 1 < (dec (val w)).length → (dec (val w)).length - 1 < w.length := fun hl => by
          have := val_ge _ hdd (dec_ne (val w)) (dec_head _ hl)
          rw [hvd] at this
          exact up _ _ _ this hlt
        omega

theorem smallL_some (w : List UInt8) (h : ¬ smallL w < 0) : numW (smallL w) = w ∧ 0 ≤ smallL w ∧ smallL w ≤ 65535 := by
  unfold smallL at h ⊢
  split at h
  · rename_i hh
    rw [if_pos hh]
    refine ⟨?_, by omega, by omega⟩
    unfold numW
    rw [Int.toNat_natCast]
    exact rd_some w hh.1
  · omega

theorem set_v' {o q : PO} {w : List UInt8} (h : o.set 118 w = some q) : q = { o with v := smallL w } ∧ numW (smallL w) = w := by
  unfold PO.set at h
  rw [if_neg (by decide), if_neg (by decide)] at h
  by_cases hs : smallL w < 0
  · rw [if_pos hs] at h; cases h
  · rw [if_neg hs] at h; exact ⟨(Option.some.inj h).symm, (smallL_some w hs).1⟩
theorem set_i' {o q : PO} {w : List UInt8} (h : o.set 105 w = some q) : q = { o with i := smallL w } ∧ numW (smallL w) = w := by
  unfold PO.set at h
  rw [if_neg (by decide), if_neg (by decide)] at h
  by_cases hs : smallL w < 0
  · rw [if_pos hs] at h; cases h
  · rw [if_neg hs] at h; exact ⟨(Option.some.inj h).symm, (smallL_some w hs).1⟩
theorem set_b' {o q : PO} {w : List UInt8} (h : o.set 98 w = some q) : q = { o with b := smallL w } ∧ numW (smallL w) = w := by
  unfold PO.set at h
  rw [if_neg (by decide), if_neg (by decide)] at h
  by_cases hs : smallL w < 0
  · rw [if_pos hs] at h; cases h
  · rw [if_neg hs] at h; exact ⟨(Option.some.inj h).symm, (smallL_some w hs).1⟩
theorem set_n' {o q : PO} {w : List UInt8} (h : o.set 110 w = some q) : q = { o with n := smallL w } ∧ numW (smallL w) = w := by
  unfold PO.set at h
  rw [if_neg (by decide), if_neg (by decide)] at h
  by_cases hs : smallL w < 0
  · rw [if_pos hs] at h; cases h
  · rw [if_neg hs] at h; exact ⟨(Option.some.inj h).symm, (smallL_some w hs).1⟩
theorem set_m' {o q : PO} {w : List UInt8} (h : o.set 109 w = some q) : q = { o with m := o.m ++ [smallL w] } ∧ numW (smallL w) = w := by
  unfold PO.set at h
  rw [if_neg (by decide), if_neg (by decide)] at h
  by_cases hs : smallL w < 0
  · rw [if_pos hs] at h; cases h
  · rw [if_neg hs] at h; exact ⟨(Option.some.inj h).symm, (smallL_some w hs).1⟩
theorem set_p' {o q : PO} {w : List UInt8} (h : o.set 112 w = some q) : q = { o with pt := ((rd w).1 : Int) } ∧ numW ((rd w).1 : Int) = w := by
  unfold PO.set at h
  rw [if_pos rfl] at h
  by_cases hs : (rd w).2 = 0
  · rw [if_pos hs] at h
    exact ⟨(Option.some.inj h).symm, by unfold numW; rw [Int.toNat_natCast]; exact rd_some w hs⟩
  · rw [if_neg hs] at h; cases h
theorem set_d' {o q : PO} {w : List UInt8} (h : o.set 100 w = some q) : q = { o with d := (unhex w).getD [] } ∧ hexL ((unhex w).getD []) = w := by
  unfold PO.set at h
  rw [if_neg (by decide), if_pos rfl] at h
  cases hu : unhex w with
  | none => rw [hu] at h; cases h
  | some d => rw [hu] at h; exact ⟨(Option.some.inj h).symm, hexL_unhex w d hu⟩

theorem setAll_cons {o p : PO} {c : UInt8} {cs : List UInt8} {r : List (List UInt8)} (h : setAll o (c :: cs) r = some p) : ∃ w ws q, r = w :: ws ∧ o.set c w = some q ∧ setAll q cs ws = some p := by
  cases r with
  | nil => simp [setAll] at h
  | cons w ws =>
    simp only [setAll] at h
    cases hq : o.set c w with
    | none => rw [hq] at h; cases h
    | some q => rw [hq] at h; exact ⟨w, ws, q, rfl, hq, h⟩
theorem setAll_nil {o p : PO} {r : List (List UInt8)} (h : setAll o [] r = some p) : r = [] ∧ p = o := by
  cases r with
  | nil => simp [setAll] at h; exact ⟨rfl, h.symm⟩
  | cons w ws => simp [setAll] at h
theorem setAll_ms : ∀ (r : List (List UInt8)) (o p : PO), setAll o (List.replicate r.length 109) r = some p → p = { o with m := o.m ++ r.map smallL } ∧ (r.map smallL).map numW = r
  | [], o, p, h => by simp [setAll] at h; subst h; simp
  | w :: r, o, p, h => by
    rw [List.length_cons, List.replicate_succ] at h
    obtain ⟨w', ws, q, e, hq, h⟩ := setAll_cons h
    cases e
    obtain ⟨rfl, e⟩ := set_m' hq
    obtain ⟨rfl, e2⟩ := setAll_ms r _ p h
    refine ⟨by simp, by simp [e] at e2 ⊢; exact e2⟩

/-- What is read was written so. -/
theorem rd_lt (x : List UInt8) : (((rd x).1 : Nat) : Int) < 18446744073709551616 := by
  unfold rd
  repeat' split
  all_goals first | (simp only; omega) | simp

theorem readO_some (l : List (List UInt8)) (o : PO) (h : readO l = some o) : o.right = true ∧ (o.words = l ∧ o.plain = o) ∧ 0 ≤ o.pt ∧ o.pt < 18446744073709551616 := by
  cases l with
  | nil => simp [readO] at h
  | cons w r =>
    rw [readO_cons] at h
    by_cases hk : kindOf w = 0
    · simp [hk] at h
    · rw [if_neg hk] at h
      obtain ⟨hw, h1, h2⟩ := kindOf_some w hk
      generalize kindOf w = K at *
      cases hs : setAll (PO.of K) (lettersL (K : Int) r.length) r with
      | none => rw [hs] at h; simp [okO] at h
      | some p =>
        rw [hs] at h
        simp only [okO] at h
        cases hr : p.right with
        | false => rw [hr] at h; simp at h
        | true =>
          rw [hr, if_pos rfl] at h
          obtain rfl := Option.some.inj h
          refine ⟨hr, ?_⟩
          subst hw
          clear hr h
          have : K = 1 ∨ K = 2 ∨ K = 3 ∨ K = 4 ∨ K = 5 ∨ K = 6 ∨ K = 7 ∨ K = 8 ∨ K = 9 ∨ K = 10 ∨ K = 11 ∨ K = 12 ∨ K = 13 ∨ K = 14 ∨ K = 15 ∨ K = 16 ∨ K = 17 ∨ K = 18 ∨ K = 19 := by omega
          clear h1 h2 hk
          rcases this with rfl | rfl | rfl | rfl | rfl | rfl | rfl | rfl | rfl | rfl | rfl | rfl | rfl | rfl | rfl | rfl | rfl | rfl | rfl
          case inr.inr.inr.inr.inr.inl =>
            change setAll _ (List.replicate r.length 109) r = _ at hs
            obtain ⟨rfl, e⟩ := setAll_ms r _ _ hs
            refine ⟨⟨?_, rfl⟩, by simp [PO.of]⟩
            show wordL 6 :: ((([] ++ r.map smallL).map numW) ++ []) = _
            rw [List.append_nil, List.nil_append, e]
            rfl
          all_goals
            simp only [lettersL, looksL] at hs
            simp at hs
            repeat' (obtain ⟨w, ws, q, rfl, hq, hs⟩ := setAll_cons hs; first | obtain ⟨rfl, e⟩ := set_v' hq | obtain ⟨rfl, e⟩ := set_i' hq | obtain ⟨rfl, e⟩ := set_b' hq | obtain ⟨rfl, e⟩ := set_n' hq | obtain ⟨rfl, e⟩ := set_p' hq | obtain ⟨rfl, e⟩ := set_d' hq)
            obtain ⟨rfl, rfl⟩ := setAll_nil hs
            exact ⟨⟨by simp [PO.words, looksL, part_v, part_i, part_b, part_n, part_p, part_d, PO.of, *], rfl⟩, by simp [PO.of, rd_lt]⟩

def looseD (c : UInt8) : UInt8 := if 97 ≤ c.toNat then (c - 87) % 16 else (c - 48) % 16
/-- Pairs of digits, read loosely. -/
def loose : List UInt8 → List UInt8
  | a :: b :: r => (16 * looseD a + looseD b) :: loose r
  | _ => []
def PO.guess (o : PO) (r : List (List UInt8)) (c : UInt8) (w : List UInt8) : PO :=
  if c = 118 then { o with v := smallL w } else if c = 105 then { o with i := smallL w } else if c = 98 then { o with b := smallL w }
  else if c = 110 then { o with n := smallL w } else if c = 112 then { o with pt := ((rd w).1 : Int) } else if c = 100 then { o with d := loose w } else { o with m := o.m ++ r.map smallL }
def guessAll (r : List (List UInt8)) : PO → List UInt8 → List (List UInt8) → PO
  | o, c :: cs, w :: ws => guessAll r (o.guess r c w) cs ws
  | o, _, _ => o
theorem guess_v (o : PO) (r : List (List UInt8)) (w : List UInt8) : o.guess r 118 w = { o with v := smallL w } := rfl
theorem guess_i (o : PO) (r : List (List UInt8)) (w : List UInt8) : o.guess r 105 w = { o with i := smallL w } := rfl
theorem guess_b (o : PO) (r : List (List UInt8)) (w : List UInt8) : o.guess r 98 w = { o with b := smallL w } := rfl
theorem guess_n (o : PO) (r : List (List UInt8)) (w : List UInt8) : o.guess r 110 w = { o with n := smallL w } := rfl
theorem guess_p (o : PO) (r : List (List UInt8)) (w : List UInt8) : o.guess r 112 w = { o with pt := ((rd w).1 : Int) } := rfl
theorem guess_d (o : PO) (r : List (List UInt8)) (w : List UInt8) : o.guess r 100 w = { o with d := loose w } := rfl
theorem guess_m (o : PO) (r : List (List UInt8)) (w : List UInt8) : o.guess r 109 w = { o with m := o.m ++ r.map smallL } := rfl
def guessO : List (List UInt8) → PO
  | [] => PO.zero
  | w :: r => guessAll r (PO.of (kindOf w)) (looksL (kindOf w : Int)) r
theorem guessO_cons (w : List UInt8) (r : List (List UInt8)) : guessO (w :: r) = guessAll r (PO.of (kindOf w)) (looksL (kindOf w : Int)) r := rfl
/-- The operation of words, by the document. -/
def refReadO (l : List (List UInt8)) : Option PO := if l = [] then none else if (guessO l).right = true ∧ (guessO l).words = l then some (guessO l) else none

theorem looseD_hexD (n : Nat) (h : n < 16) : looseD (hexD n) = UInt8.ofNat n := by
  have : n = 0 ∨ n = 1 ∨ n = 2 ∨ n = 3 ∨ n = 4 ∨ n = 5 ∨ n = 6 ∨ n = 7 ∨ n = 8 ∨ n = 9 ∨ n = 10 ∨ n = 11 ∨ n = 12 ∨ n = 13 ∨ n = 14 ∨ n = 15 := by omega
  rcases this with rfl | rfl | rfl | rfl | rfl | rfl | rfl | rfl | rfl | rfl | rfl | rfl | rfl | rfl | rfl | rfl <;> decide
theorem loose_hexL : ∀ d : List UInt8, loose (hexL d) = d
  | [] => rfl
  | c :: d => by
    have : hexL (c :: d) = hexD (c.toNat / 16) :: hexD (c.toNat % 16) :: hexL d := rfl
    rw [this]
    have hc := UInt8.toNat_lt c
    simp only [loose, loose_hexL d, looseD_hexD _ (show c.toNat / 16 < 16 by omega), looseD_hexD _ (show c.toNat % 16 < 16 by omega)]
    congr 1
    apply UInt8.toNat_inj.1
    simp only [UInt8.toNat_add, UInt8.toNat_mul, UInt8.toNat_ofNat']
    have : (16 : UInt8).toNat = 16 := rfl
    rw [this]
    omega

theorem smallL_numWs : ∀ l : List Int, (∀ x ∈ l, 0 ≤ x ∧ x ≤ 65535) → (l.map numW).map smallL = l
  | [], _ => rfl
  | x :: l, h => by
    have hx := h x (List.mem_cons_self ..)
    simp only [List.map_cons, smallL_numW x hx.1 hx.2, smallL_numWs l fun y hy => h y (List.mem_cons_of_mem _ hy)]

theorem guessO_words (o : PO) (h : o.right = true) (hp0 : 0 ≤ o.pt) (hp1 : o.pt < 18446744073709551616) : guessO o.words = o.plain := by
  obtain ⟨⟨h1, h2⟩, hall⟩ := PO.right_all h
  obtain ⟨k, v, i, b, n, pt, d, m⟩ := o
  simp only at h1 h2 hall hp0 hp1
  obtain ⟨K, rfl⟩ : ∃ K : Nat, k = K := ⟨k.toNat, by omega⟩
  have hV : ∀ c, c ∈ looksL (K : Int) → (c = 118 → smallL (numW v) = v) ∧ (c = 105 → smallL (numW i) = i) ∧ (c = 98 → smallL (numW b) = b) ∧ (c = 110 → smallL (numW n) = n) ∧ (c = 109 → (m.map numW).map smallL = m ∧ 0 < m.length) := by
    intro c hc
    have := hall c hc
    refine ⟨?_, ?_, ?_, ?_, ?_⟩ <;> rintro rfl
    · simp [mayO, okId] at this; exact smallL_numW _ (by omega) (by omega)
    · simp [mayO, okId] at this; exact smallL_numW _ (by omega) (by omega)
    · simp [mayO, okPlace] at this; exact smallL_numW _ (by omega) (by omega)
    · simp [mayO, okCount] at this; exact smallL_numW _ (by omega) (by omega)
    · simp [mayO, okMem] at this
      refine ⟨smallL_numWs _ fun x hx => ?_, by omega⟩
      have := rises_range m 0 (Int.le_refl 0) this.1 x hx
      omega
  have hkw := kindOf_word K (by omega) (by omega)
  have hrp : ((rd (numW pt)).1 : Int) = pt := by rw [rd_numW pt hp0 hp1]; simp; omega
  have hl := loose_hexL d
  unfold PO.words guessO
  simp only [hkw]
  clear h hkw hall
  have : K = 1 ∨ K = 2 ∨ K = 3 ∨ K = 4 ∨ K = 5 ∨ K = 6 ∨ K = 7 ∨ K = 8 ∨ K = 9 ∨ K = 10 ∨ K = 11 ∨ K = 12 ∨ K = 13 ∨ K = 14 ∨ K = 15 ∨ K = 16 ∨ K = 17 ∨ K = 18 ∨ K = 19 := by omega
  rcases this with rfl | rfl | rfl | rfl | rfl | rfl | rfl | rfl | rfl | rfl | rfl | rfl | rfl | rfl | rfl | rfl | rfl | rfl | rfl
  case inr.inr.inr.inr.inr.inl =>
    obtain ⟨hm, hm0⟩ := (hV 109 (by decide)).2.2.2.2 rfl
    cases m with
    | nil => simp at hm0
    | cons x m =>
      show guessAll ((x :: m).map numW ++ []) (PO.of 6) [109] ((x :: m).map numW ++ []) = _
      rw [List.append_nil]
      show { PO.of 6 with m := [] ++ ((x :: m).map numW).map smallL } = _
      rw [hm]
      rfl
  all_goals
    simp only [looksL, PO.plain] at hV ⊢
    simp at hV ⊢
    try simp_all [guessAll, part_v, part_i, part_b, part_n, part_p, part_d, put_v, put_i, put_b, put_n, put_p, put_d, guess_v, guess_i, guess_b, guess_n, guess_p, guess_d]

theorem guessO_plain (l : List (List UInt8)) (h : (guessO l).right = true) : (guessO l).plain = guessO l ∧ 0 ≤ (guessO l).pt ∧ (guessO l).pt < 18446744073709551616 := by
  cases l with
  | nil => simp [guessO, PO.zero, PO.right, rightO] at h
  | cons w r =>
    have hrd := rd_lt
    by_cases hk : kindOf w = 0
    · have : guessO (w :: r) = PO.of 0 := by
        rw [guessO_cons, hk]
        cases r <;> rfl
      rw [this] at h
      simp [PO.of, PO.right, rightO] at h
    · obtain ⟨-, h1, h2⟩ := kindOf_some w hk
      rw [guessO_cons]
      clear h hk
      generalize kindOf w = K at *
      have : K = 1 ∨ K = 2 ∨ K = 3 ∨ K = 4 ∨ K = 5 ∨ K = 6 ∨ K = 7 ∨ K = 8 ∨ K = 9 ∨ K = 10 ∨ K = 11 ∨ K = 12 ∨ K = 13 ∨ K = 14 ∨ K = 15 ∨ K = 16 ∨ K = 17 ∨ K = 18 ∨ K = 19 := by omega
      have hz : (0 : Int) < 18446744073709551616 := by omega
      rcases this with rfl | rfl | rfl | rfl | rfl | rfl | rfl | rfl | rfl | rfl | rfl | rfl | rfl | rfl | rfl | rfl | rfl | rfl | rfl
      all_goals
        rcases r with _ | ⟨w1, _ | ⟨w2, _ | ⟨w3, r⟩⟩⟩
        all_goals
          simp [looksL, guessAll, guess_v, guess_i, guess_b, guess_n, guess_p, guess_d, guess_m, PO.plain, put_v, put_i, put_b, put_n, put_p, put_d, put_m, PO.of, hrd]

/-- Both read the same. -/
theorem readO_ref (l : List (List UInt8)) : refReadO l = readO l := by
  unfold refReadO
  by_cases hl : l = []
  · subst hl; rfl
  · rw [if_neg hl]
    by_cases hg : (guessO l).right = true ∧ (guessO l).words = l
    · rw [if_pos hg]
      obtain ⟨hp, h0, h1⟩ := guessO_plain l hg.1
      have := readO_words (guessO l) hg.1 h0 h1
      rw [hg.2, hp] at this
      exact this.symm
    · rw [if_neg hg]
      cases hr : readO l with
      | none => rfl
      | some o =>
        exfalso
        obtain ⟨h1, ⟨h2, h3⟩, hpt⟩ := readO_some l o hr
        have hgo := guessO_words o h1 hpt.1 hpt.2
        rw [h2, h3] at hgo
        exact hg ⟨by rw [hgo]; exact h1, by rw [hgo]; exact h2⟩
end Go.Proofs.Ytljbehndnledpaa
