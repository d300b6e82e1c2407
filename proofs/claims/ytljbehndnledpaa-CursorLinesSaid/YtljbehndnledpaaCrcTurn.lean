/- The walk of crc.turn. Conditions: those of the theorem. -/
import Derived.Test.YtljbehndnledpaaCrcPlain
import Derived.Laws.BitsAllLaws
namespace Go.Proofs.Ytljbehndnledpaa
open Go.RowKit

theorem and1_u32 (m : Nat) (h : m < 4294967296) : bits .and .u32 (m : Int) 1 = ((m % 2 : Nat) : Int) := by
  rw [show (1 : Int) = ((1 : Nat) : Int) from rfl, u32_and_nat m 1 h (by omega), Nat.and_one_is_mod]

theorem half_poly (m : Nat) (h : m < 4294967296) : bits .xor .u32 ((m : Int) / 2) 3988292384 = ((m / 2 ^^^ 3988292384 : Nat) : Int) := by
  rw [show (m : Int) / 2 = ((m / 2 : Nat) : Int) by omega, show (3988292384 : Int) = ((3988292384 : Nat) : Int) from rfl, u32_xor_nat _ _ (by omega) (by omega)]

set_option maxRecDepth 100000 in
set_option maxHeartbeats 1000000 in
theorem turn_any (n : Nat) (c : UInt8) (w : World) (hn : n < 4294967296) :
    Calls Try.prog 220 #[.int .u32 (n : Int), .int .u8 (c.toNat : Int)] w fun e w' => e = .returned (.int .u32 (crcByte n c : Nat)) ∧ w = w' := by
  have hcb := c.toNat_lt
  have hx := u32_xor_nat n c.toNat hn (by omega)
  have hw32 : IntKind.u32.wrap (c.toNat : Int) = c.toNat := by rw [IntKind.wrap_u32']; omega
  obtain ⟨m0, hm0⟩ : ∃ m0, m0 = n ^^^ c.toNat := ⟨_, rfl⟩
  have hm0l : m0 < 4294967296 := by rw [hm0]; exact Nat.xor_lt_two_pow (n := 32) (by omega) (by omega)
  have hres : crcByte n c = crcBits 8 m0 := by rw [hm0]; rfl
  rw [← hm0] at hx
  rw [hres]
  clear hres hm0
  go_enter Try.func220, Try.ntmps220
  go_wp2_with fail
  go_loop [0, 9] (fun u0 u9 => ∃ k : Nat, k ≤ 8 ∧ u9 = .int .i64 k ∧ u0 = .int .u32 (crcBits k m0 : Nat)) (fun _ u9 => 8 - (intOf u9).toNat)
  case atStart => exact ⟨0, by omega, rfl, rfl⟩
  case round =>
    obtain ⟨k, hk, rfl, rfl⟩ := hrel
    have hml := crcBits_lt hm0l k
    have hnext : crcBits (k + 1) m0 = crcBit (crcBits k m0) := rfl
    by_cases hlt : k < 8
    · generalize crcBits k m0 = m at *
      have h1 := and1_u32 m hml
      have h2 := half_poly m hml
      unfold crcBit at hnext
      by_cases hodd : m % 2 = 1
      · rw [if_pos hodd] at hnext
        rw [hodd] at h1
        have HN := Lib.hid hnext
        clear hnext
        go_wp2_with fail
        exact ⟨⟨k + 1, by omega, by go_num, by rw [HN.out]⟩, by simp [intOf]; omega⟩
      · rw [if_neg hodd] at hnext
        rw [show m % 2 = 0 by omega] at h1
        have HN := Lib.hid hnext
        clear hnext
        go_wp2_with fail
        exact ⟨⟨k + 1, by omega, by go_num, by rw [HN.out]; simp⟩, by simp [intOf]; omega⟩
    · have : k = 8 := by omega
      subst this
      go_wp2_with fail
      go_ret
      exact ⟨rfl, rfl⟩
end Go.Proofs.Ytljbehndnledpaa
