/- The walk of fix.Get at eight bytes at most. Conditions: those of the theorem. -/
import Derived.Test.YtljbehndnledpaaPageRef
namespace Go.Proofs.Ytljbehndnledpaa
open Go.RowKit

theorem leVal_lt : ∀ (l : List UInt8), leVal l < 256 ^ l.length
  | [] => by simp [leVal]
  | c :: l => by
    have := leVal_lt l
    have hc := c.toNat_lt
    simp only [leVal, List.length_cons, Nat.pow_succ]
    omega
theorem leVal_snoc (l : List UInt8) (c : UInt8) : leVal (l ++ [c]) = leVal l + c.toNat * 256 ^ l.length := by
  induction l with
  | nil => simp [leVal]
  | cons d l ih =>
    simp only [List.cons_append, leVal, ih, List.length_cons, Nat.pow_succ]
    rw [Nat.mul_add, Nat.add_assoc, Nat.mul_comm (256 ^ l.length) 256, ← Nat.mul_assoc, ← Nat.mul_assoc, Nat.mul_comm 256 c.toNat]
theorem or_le (x c k : Nat) (hk : k < 8) (hx : x < 256 ^ k) (hc : c < 256) : bits .or .u64 (x : Int) ((c * 256 ^ k : Nat) : Int) = ((x + c * 256 ^ k : Nat) : Int) := by
  have h256 : (256 : Nat) ^ k = 2 ^ (8 * k) := by rw [Nat.pow_mul]
  have hle : 256 ^ k ≤ 256 ^ 7 := Nat.pow_le_pow_right (by omega) (by omega)
  have hcx : c * 256 ^ k < 18446744073709551616 := by
    have h1 : c * 256 ^ k ≤ 255 * 256 ^ 7 := Nat.mul_le_mul (by omega) hle
    omega
  rw [u64_or_nat _ _ (by omega) hcx]
  congr 1
  rw [h256] at hx ⊢
  have := Nat.two_pow_add_eq_or_of_lt hx c
  rw [Nat.mul_comm c, Nat.or_comm, ← this, Nat.add_comm]

set_option maxRecDepth 100000 in
set_option maxHeartbeats 1000000 in
theorem fixGet_any (a : Option Addr) (n cap : Nat) (l : List UInt8) (w : World) (h : Bs w a n l) (hn : n ≤ 8) (hcap : n ≤ cap) :
    Calls Try.prog 157 #[.slice a n cap] w fun e w' => e = .returned (.int .u64 (leVal l : Nat)) ∧ w = w' := by
  have HL := Lib.hid h.length
  have HB := Lib.hid h
  clear h
  go_enter Try.func157, Try.ntmps157
  go_wp2_with fail
  go_loop [3, 12] (fun u3 u12 => ∃ k : Nat, k ≤ n ∧ u12 = .int .i64 k ∧ u3 = .int .u64 (leVal (l.take k) : Nat)) (fun _ u12 => n - (intOf u12).toNat)
  case atStart => exact ⟨0, by omega, rfl, rfl⟩
  case round =>
    obtain ⟨k, hk, rfl, rfl⟩ := hrel
    by_cases hlt : k < n
    · obtain ⟨b, o, c, rfl, hc, hck, _⟩ := Bs.cell HB.out k hlt
      have hcb := c.toNat_lt
      have htl : (l.take k).length = k := by rw [List.length_take, HL.out]; omega
      have hvl := leVal_lt (l.take k)
      have hnx : leVal (l.take (k + 1)) = leVal (l.take k) + c.toNat * 256 ^ k := by
        rw [List.take_add_one, hc, Option.toList_some, leVal_snoc, htl]
      rw [htl] at hvl
      generalize leVal (l.take k) = x at *
      have hor := or_le x c.toNat k (by omega) hvl (by omega)
      have hw1 : IntKind.u64.wrap (c.toNat : Int) = c.toNat := by simp only [IntKind.wrap, IntKind.bits, IntKind.signed]; simp; omega
      have hm : IntKind.i64.wrap (8 * (k : Int)) = 8 * (k : Int) := IntWalk.i64_in _ (by omega)
      have hs0 : (0 : Int) ≤ 8 * (k : Int) := by omega
      have hs1 : 8 * (k : Int) ≤ 64 := by omega
      have h256 : (256 : Nat) ^ k = 2 ^ (8 * k) := by rw [Nat.pow_mul]
      have hle : (256 : Nat) ^ k ≤ 256 ^ 7 := Nat.pow_le_pow_right (by omega) (by omega)
      have hcx : c.toNat * 256 ^ k < 18446744073709551616 := by
        have h1 : c.toNat * 256 ^ k ≤ 255 * 256 ^ 7 := Nat.mul_le_mul (by omega) hle
        omega
      have hsh : IntKind.u64.wrap ((c.toNat : Int) * 2 ^ (8 * (k : Int)).toNat) = ((c.toNat * 256 ^ k : Nat) : Int) := by
        rw [show (8 * (k : Int)).toNat = 8 * k by omega, h256]
        have e : ((c.toNat : Int) * 2 ^ (8 * k)) = ((c.toNat * 2 ^ (8 * k) : Nat) : Int) := by push_cast; rfl
        rw [e]
        rw [h256] at hcx
        generalize c.toNat * 2 ^ (8 * k) = y at *
        simp only [IntKind.wrap, IntKind.bits, IntKind.signed]; simp; omega
      generalize c.toNat * 256 ^ k = y at *
      have HN := Lib.hid hnx
      clear hnx hc htl hvl h256 hle
      go_wp2_with fail
      exact ⟨⟨k + 1, by omega, by go_num, by rw [HN.out]; simp⟩, by simp [intOf]; omega⟩
    · have hkn : k = n := by omega
      subst hkn
      have ht : l.take k = l := List.take_of_length_le (by rw [HL.out]; omega)
      rw [ht]
      go_wp2_with fail
      go_ret
      exact ⟨rfl, rfl⟩
end Go.Proofs.Ytljbehndnledpaa
