/- Plain laws on bytes with rows of noughts made short. No program. -/
import Derived.Test.YtljbehndnledpaaUnhex
namespace Go.Proofs.Ytljbehndnledpaa
open Go.RowKit

/-- How many noughts stand ahead, at most so many. -/
def zf : Nat → List UInt8 → Nat
  | 0, _ => 0
  | _ + 1, [] => 0
  | f + 1, c :: r => if c = 0 then zf f r + 1 else 0
/-- Do two noughts stand ahead? -/
def two : List UInt8 → Bool
  | c :: d :: _ => c == 0 && d == 0
  | _ => false
/-- How many bytes stand ahead of two noughts side by side, at most so many. -/
def pf : Nat → List UInt8 → Nat
  | 0, _ => 0
  | _ + 1, [] => 0
  | f + 1, c :: r => if two (c :: r) then 0 else pf f r + 1

def packF : Nat → List UInt8 → List UInt8
  | 0, _ => []
  | f + 1, l => if l = [] then [] else if two l then UInt8.ofNat (127 + zf 128 l) :: packF f (l.drop (zf 128 l))
      else UInt8.ofNat (pf 128 l - 1) :: (l.take (pf 128 l) ++ packF f (l.drop (pf 128 l)))
def packL (l : List UInt8) : List UInt8 := packF (l.length + 1) l

theorem zf_le : ∀ (f : Nat) (l : List UInt8), zf f l ≤ f ∧ zf f l ≤ l.length
  | 0, l => by simp [zf]
  | f + 1, [] => by simp [zf]
  | f + 1, c :: r => by
    have := zf_le f r
    simp only [zf]
    split
    · simp only [List.length_cons]; omega
    · omega

theorem pf_le : ∀ (f : Nat) (l : List UInt8), pf f l ≤ f ∧ pf f l ≤ l.length
  | 0, l => by simp [pf]
  | f + 1, [] => by simp [pf]
  | f + 1, c :: r => by
    have := pf_le f r
    simp only [pf]
    split
    · omega
    · simp only [List.length_cons]; omega

theorem zf_two (f : Nat) : ∀ l : List UInt8, (2 ≤ zf (f + 2) l) ↔ two l = true
  | [] => by simp [zf, two]
  | [c] => by simp [zf, two]; split <;> simp
  | c :: d :: r => by
    simp only [zf, two, Bool.and_eq_true, beq_iff_eq]
    by_cases hc : c = 0
    · by_cases hd : d = 0
      · simp [hc, hd]
      · simp [hc, hd]
    · simp [hc]

theorem pf_pos (f : Nat) (l : List UInt8) (h : l ≠ []) (h2 : two l = false) : 0 < pf (f + 1) l := by
  cases l with
  | nil => exact absurd rfl h
  | cons c r => simp [pf, h2]

theorem zf_pos (l : List UInt8) (h2 : two l = true) : 2 ≤ zf 128 l := (zf_two 126 l).2 h2

theorem packF_eq : ∀ (f g : Nat) (l : List UInt8), l.length < f → l.length < g → packF f l = packF g l := by
  intro f
  induction f with
  | zero => intro g l h; omega
  | succ f ih =>
    intro g l h1 h2
    cases g with
    | zero => omega
    | succ g =>
      simp only [packF]
      by_cases h0 : l = []
      · rw [if_pos h0, if_pos h0]
      · rw [if_neg h0, if_neg h0]
        have hl : 0 < l.length := by cases l with | nil => exact absurd rfl h0 | cons x l => simp
        cases h : two l with
        | true =>
          have hz := zf_pos l h
          simp only [if_true]
          rw [ih g (l.drop (zf 128 l)) (by rw [List.length_drop]; omega) (by rw [List.length_drop]; omega)]
        | false =>
          have hp : 0 < pf 128 l := pf_pos 127 l h0 h
          simp only [Bool.false_eq_true, if_false]
          rw [ih g (l.drop (pf 128 l)) (by rw [List.length_drop]; omega) (by rw [List.length_drop]; omega)]

theorem packL_nil : packL [] = [] := rfl
theorem packL_two (l : List UInt8) (h : two l = true) : packL l = UInt8.ofNat (127 + zf 128 l) :: packL (l.drop (zf 128 l)) := by
  have h0 : l ≠ [] := by intro e; rw [e] at h; cases h
  have hl : 0 < l.length := by cases l with | nil => exact absurd rfl h0 | cons x l => simp
  have hz := zf_pos l h
  unfold packL
  rw [packF, if_neg h0, if_pos h, packF_eq l.length ((l.drop (zf 128 l)).length + 1) _ (by rw [List.length_drop]; omega) (by omega)]
theorem packL_plain (l : List UInt8) (h0 : l ≠ []) (h : two l = false) : packL l = UInt8.ofNat (pf 128 l - 1) :: (l.take (pf 128 l) ++ packL (l.drop (pf 128 l))) := by
  have hl : 0 < l.length := by cases l with | nil => exact absurd rfl h0 | cons x l => simp
  have hp : 0 < pf 128 l := pf_pos 127 l h0 h
  unfold packL
  rw [packF, if_neg h0, if_neg (by simp [h]), packF_eq l.length ((l.drop (pf 128 l)).length + 1) _ (by rw [List.length_drop]; omega) (by omega)]

theorem packF_len : ∀ (f : Nat) (l : List UInt8), (packF f l).length ≤ 2 * l.length := by
  intro f
  induction f with
  | zero => intro l; simp [packF]
  | succ f ih =>
    intro l
    simp only [packF]
    by_cases h0 : l = []
    · rw [if_pos h0]; simp
    · rw [if_neg h0]
      have hl : 0 < l.length := by cases l with | nil => exact absurd rfl h0 | cons x l => simp
      cases h : two l with
      | true =>
        have hz := zf_pos l h
        have := ih (l.drop (zf 128 l))
        simp only [if_true, List.length_cons]
        rw [List.length_drop] at this
        omega
      | false =>
        have hp : 0 < pf 128 l := pf_pos 127 l h0 h
        have hpl := (pf_le 128 l).2
        have := ih (l.drop (pf 128 l))
        simp only [Bool.false_eq_true, if_false, List.length_cons, List.length_append, List.length_take]
        rw [List.length_drop] at this
        omega
theorem packL_len (l : List UInt8) : (packL l).length ≤ 2 * l.length := packF_len _ l

/-- What pieces say: an error, else 0, and the bytes. -/
def looseF : Nat → List UInt8 → Nat → List UInt8 → List UInt8 × Nat
  | 0, _, _, acc => (acc, 0)
  | _ + 1, [], _, acc => (acc, 0)
  | f + 1, c :: r, most, acc =>
    if c.toNat < 128 then
      if r.length < c.toNat + 1 then ([], 20)
      else if most < (acc ++ r.take (c.toNat + 1)).length then ([], 12) else looseF f (r.drop (c.toNat + 1)) most (acc ++ r.take (c.toNat + 1))
    else if most < (acc ++ List.replicate (c.toNat - 127) 0).length then ([], 12) else looseF f r most (acc ++ List.replicate (c.toNat - 127) 0)
def looseA (l : List UInt8) (most : Nat) (acc : List UInt8) : List UInt8 × Nat := looseF (l.length + 1) l most acc

theorem looseF_eq : ∀ (f g : Nat) (l : List UInt8) (most : Nat) (acc : List UInt8), l.length < f → l.length < g → looseF f l most acc = looseF g l most acc := by
  intro f
  induction f with
  | zero => intro g l most acc h; omega
  | succ f ih =>
    intro g l most acc h1 h2
    cases g with
    | zero => omega
    | succ g =>
      cases l with
      | nil => rfl
      | cons c r =>
        simp only [List.length_cons] at h1 h2
        simp only [looseF]
        rw [ih g (r.drop (c.toNat + 1)) most _ (by rw [List.length_drop]; omega) (by rw [List.length_drop]; omega), ih g r most _ (by omega) (by omega)]

theorem looseA_nil (most : Nat) (acc : List UInt8) : looseA [] most acc = (acc, 0) := rfl
theorem looseA_short (c : UInt8) (r : List UInt8) (most : Nat) (acc : List UInt8) (h : c.toNat < 128) (h1 : r.length < c.toNat + 1) : looseA (c :: r) most acc = ([], 20) := by
  unfold looseA; rw [looseF, if_pos h, if_pos h1]
theorem looseA_big1 (c : UInt8) (r : List UInt8) (most : Nat) (acc : List UInt8) (h : c.toNat < 128) (h1 : ¬ r.length < c.toNat + 1) (h2 : most < (acc ++ r.take (c.toNat + 1)).length) : looseA (c :: r) most acc = ([], 12) := by
  unfold looseA; rw [looseF, if_pos h, if_neg h1, if_pos h2]
theorem looseA_go1 (c : UInt8) (r : List UInt8) (most : Nat) (acc : List UInt8) (h : c.toNat < 128) (h1 : ¬ r.length < c.toNat + 1) (h2 : ¬ most < (acc ++ r.take (c.toNat + 1)).length) : looseA (c :: r) most acc = looseA (r.drop (c.toNat + 1)) most (acc ++ r.take (c.toNat + 1)) := by
  unfold looseA; rw [looseF, if_pos h, if_neg h1, if_neg h2, List.length_cons, looseF_eq (r.length + 1) _ _ _ _ (by rw [List.length_drop]; omega) (Nat.lt_succ_self _)]
theorem looseA_big2 (c : UInt8) (r : List UInt8) (most : Nat) (acc : List UInt8) (h : ¬ c.toNat < 128) (h2 : most < (acc ++ List.replicate (c.toNat - 127) 0).length) : looseA (c :: r) most acc = ([], 12) := by
  unfold looseA; rw [looseF, if_neg h, if_pos h2]
theorem looseA_go2 (c : UInt8) (r : List UInt8) (most : Nat) (acc : List UInt8) (h : ¬ c.toNat < 128) (h2 : ¬ most < (acc ++ List.replicate (c.toNat - 127) 0).length) : looseA (c :: r) most acc = looseA r most (acc ++ List.replicate (c.toNat - 127) 0) := by
  unfold looseA; rw [looseF, if_neg h, if_neg h2, List.length_cons]

/-- What Unpack comes to. -/
def unpackL (l : List UInt8) (most : Nat) : List UInt8 × Nat :=
  if (looseA l most []).2 = 0 then (if packL (looseA l most []).1 = l then ((looseA l most []).1, 0) else ([], 21)) else ([], (looseA l most []).2)
end Go.Proofs.Ytljbehndnledpaa
