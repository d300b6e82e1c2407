/- What was packed is unpacked: no program in sight. -/
import Derived.Test.YtljbehndnledpaaRlePlain
namespace Go.Proofs.Ytljbehndnledpaa

theorem zf_take : ∀ (f : Nat) (l : List UInt8), l.take (zf f l) = List.replicate (zf f l) 0 := by
  intro f
  induction f with
  | zero => intro l; cases l <;> simp [zf]
  | succ f ih =>
    intro l
    cases l with
    | nil => simp [zf]
    | cons c r =>
      by_cases hc : c = 0
      · have h : zf (f + 1) (c :: r) = zf f r + 1 := by rw [zf, if_pos hc]
        rw [h, List.take_succ_cons, ih r, List.replicate_succ, hc]
      · have h : zf (f + 1) (c :: r) = 0 := by rw [zf, if_neg hc]
        rw [h]; rfl

theorem loose_pack : ∀ (m : Nat) (l acc : List UInt8) (most : Nat), l.length ≤ m → acc.length + l.length ≤ most → looseA (packL l) most acc = (acc ++ l, 0) := by
  intro m
  induction m with
  | zero =>
    intro l acc most h _
    have : l = [] := List.eq_nil_of_length_eq_zero (by omega)
    subst this
    rw [packL_nil, looseA_nil, List.append_nil]
  | succ m ih =>
    intro l acc most h hm
    by_cases h0 : l = []
    · subst h0; rw [packL_nil, looseA_nil, List.append_nil]
    · cases h2 : two l with
      | true =>
        have hz := zf_pos l h2
        have hle := zf_le 128 l
        have htk := zf_take 128 l
        rw [packL_two l h2]
        generalize zf 128 l = q at *
        obtain ⟨h3, h4⟩ := hle
        have hc : (UInt8.ofNat (127 + q)).toNat = 127 + q := by rw [UInt8.toNat_ofNat']; omega
        have hq : (UInt8.ofNat (127 + q)).toNat - 127 = q := by omega
        have hsum : (acc ++ List.replicate q 0).length + (l.drop q).length ≤ most := by
          rw [List.length_append, List.length_replicate, List.length_drop]; omega
        rw [looseA_go2 _ _ _ _ (by omega) (by rw [hq]; omega), hq, ih (l.drop q) _ most (by rw [List.length_drop]; omega) hsum, ← htk, List.append_assoc, List.take_append_drop]
      | false =>
        have hp : 0 < pf 128 l := pf_pos 127 l h0 h2
        have hle := pf_le 128 l
        rw [packL_plain l h0 h2]
        generalize pf 128 l = q at *
        obtain ⟨h3, h4⟩ := hle
        have hc : (UInt8.ofNat (q - 1)).toNat = q - 1 := by rw [UInt8.toNat_ofNat']; omega
        have hq : (UInt8.ofNat (q - 1)).toNat + 1 = q := by omega
        have htl : (l.take q).length = q := by rw [List.length_take]; omega
        have ht : (l.take q ++ packL (l.drop q)).take q = l.take q := by rw [List.take_append_of_le_length (by omega), List.take_of_length_le (by omega)]
        have hd : (l.take q ++ packL (l.drop q)).drop q = packL (l.drop q) := by rw [List.drop_append_of_le_length (by omega), List.drop_of_length_le (by omega), List.nil_append]
        have hsum : (acc ++ l.take q).length + (l.drop q).length ≤ most := by
          rw [List.length_append, htl, List.length_drop]; omega
        rw [looseA_go1 _ _ _ _ (by omega) (by rw [hq, List.length_append, htl]; omega) (by rw [hq, ht]; omega), hq, ht, hd, ih (l.drop q) _ most (by rw [List.length_drop]; omega) hsum, List.append_assoc, List.take_append_drop]

theorem unpack_pack (l : List UInt8) (most : Nat) (h : l.length ≤ most) : unpackL (packL l) most = (l, 0) := by
  have hl := loose_pack l.length l [] most (Nat.le_refl _) (by simpa using h)
  rw [List.nil_append] at hl
  unfold unpackL
  rw [hl]
  simp
end Go.Proofs.Ytljbehndnledpaa
