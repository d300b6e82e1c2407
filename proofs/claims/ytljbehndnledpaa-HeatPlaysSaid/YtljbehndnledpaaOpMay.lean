/- The walks of yesteryearref13.may and Right. Printed by wip/mkmay.py. Conditions: those of each theorem. -/
import Derived.Test.YtljbehndnledpaaOpLooks
namespace Go.Proofs.Ytljbehndnledpaa
open Go.RowKit

set_option maxRecDepth 100000 in
set_option maxHeartbeats 4000000 in
theorem may_any (k v i b n pt : Int) (da ma : Option Addr) (dn dc mn mc : Nat) (mem : List Int) (c : UInt8) (w : World) (hm : Is .i64 w ma mn mem) (hmn : mn ≤ 1000000000) (hc : c = 118 ∨ c = 105 ∨ c = 98 ∨ c = 110 ∨ c = 112 ∨ c = 100 ∨ c = 109) :
    Calls Try.prog 123 #[.agg #[.int .i64 k, .int .i64 v, .int .i64 i, .int .i64 b, .int .i64 n, .int .u64 pt, .slice da dn dc, .slice ma mn mc], .int .u8 (c.toNat : Int)] w fun e w' => e = .returned (.bool (mayO v i b n dn mem c)) ∧ Below w.heap.size w w' := by
  rcases hc with rfl | rfl | rfl | rfl | rfl | rfl | rfl
  · clear hm
    show Calls Try.prog 123 _ w fun e w' => e = .returned (.bool (okId v)) ∧ Below w.heap.size w w'
    unfold okId
    by_cases h1 : 1 ≤ v
    · by_cases h2 : v ≤ 65535
      · go_enter Try.func123, Try.ntmps123
        go_wp2_with fail
        go_ret
        exact ⟨by simp <;> omega, (Below.refl _ _).alloc (Nat.le_refl _) _⟩
      · go_enter Try.func123, Try.ntmps123
        go_wp2_with fail
        go_ret
        exact ⟨by simp <;> omega, (Below.refl _ _).alloc (Nat.le_refl _) _⟩
    · go_enter Try.func123, Try.ntmps123
      go_wp2_with fail
      go_ret
      exact ⟨by simp <;> omega, (Below.refl _ _).alloc (Nat.le_refl _) _⟩
  · clear hm
    show Calls Try.prog 123 _ w fun e w' => e = .returned (.bool (okId i)) ∧ Below w.heap.size w w'
    unfold okId
    by_cases h1 : 1 ≤ i
    · by_cases h2 : i ≤ 65535
      · go_enter Try.func123, Try.ntmps123
        go_wp2_with fail
        go_ret
        exact ⟨by simp <;> omega, (Below.refl _ _).alloc (Nat.le_refl _) _⟩
      · go_enter Try.func123, Try.ntmps123
        go_wp2_with fail
        go_ret
        exact ⟨by simp <;> omega, (Below.refl _ _).alloc (Nat.le_refl _) _⟩
    · go_enter Try.func123, Try.ntmps123
      go_wp2_with fail
      go_ret
      exact ⟨by simp <;> omega, (Below.refl _ _).alloc (Nat.le_refl _) _⟩
  · clear hm
    show Calls Try.prog 123 _ w fun e w' => e = .returned (.bool (okPlace b)) ∧ Below w.heap.size w w'
    unfold okPlace
    by_cases h1 : 0 ≤ b
    · by_cases h2 : b ≤ 31
      · go_enter Try.func123, Try.ntmps123
        go_wp2_with fail
        go_ret
        exact ⟨by simp <;> omega, (Below.refl _ _).alloc (Nat.le_refl _) _⟩
      · go_enter Try.func123, Try.ntmps123
        go_wp2_with fail
        go_ret
        exact ⟨by simp <;> omega, (Below.refl _ _).alloc (Nat.le_refl _) _⟩
    · go_enter Try.func123, Try.ntmps123
      go_wp2_with fail
      go_ret
      exact ⟨by simp <;> omega, (Below.refl _ _).alloc (Nat.le_refl _) _⟩
  · clear hm
    show Calls Try.prog 123 _ w fun e w' => e = .returned (.bool (okCount n)) ∧ Below w.heap.size w w'
    unfold okCount
    by_cases h1 : 1 ≤ n
    · by_cases h2 : n ≤ 32
      · go_enter Try.func123, Try.ntmps123
        go_wp2_with fail
        go_ret
        exact ⟨by simp <;> omega, (Below.refl _ _).alloc (Nat.le_refl _) _⟩
      · go_enter Try.func123, Try.ntmps123
        go_wp2_with fail
        go_ret
        exact ⟨by simp <;> omega, (Below.refl _ _).alloc (Nat.le_refl _) _⟩
    · go_enter Try.func123, Try.ntmps123
      go_wp2_with fail
      go_ret
      exact ⟨by simp <;> omega, (Below.refl _ _).alloc (Nat.le_refl _) _⟩
  · clear hm
    show Calls Try.prog 123 _ w fun e w' => e = .returned (.bool true) ∧ Below w.heap.size w w'
    go_enter Try.func123, Try.ntmps123
    go_wp2_with fail
    go_ret
    exact ⟨rfl, (Below.refl _ _).alloc (Nat.le_refl _) _⟩
  · clear hm
    show Calls Try.prog 123 _ w fun e w' => e = .returned (.bool (okData dn)) ∧ Below w.heap.size w w'
    unfold okData
    by_cases h1 : 1 ≤ dn
    · by_cases h2 : dn ≤ 64
      · go_enter Try.func123, Try.ntmps123
        go_wp2_with fail
        go_ret
        exact ⟨by simp [*] <;> omega, (Below.refl _ _).alloc (Nat.le_refl _) _⟩
      · go_enter Try.func123, Try.ntmps123
        go_wp2_with fail
        go_ret
        exact ⟨by simp [*] <;> omega, (Below.refl _ _).alloc (Nat.le_refl _) _⟩
    · go_enter Try.func123, Try.ntmps123
      go_wp2_with fail
      go_ret
      exact ⟨by simp [*] <;> omega, (Below.refl _ _).alloc (Nat.le_refl _) _⟩
  · show Calls Try.prog 123 _ w fun e w' => e = .returned (.bool (okMem mem)) ∧ Below w.heap.size w w'
    have hb : Below w.heap.size w (w.alloc (.cells #[.int .i64 k, .int .i64 v, .int .i64 i, .int .i64 b, .int .i64 n, .int .u64 pt, .slice da dn dc, .slice ma mn mc] 80)) := (Below.refl _ _).alloc (Nat.le_refl _) _
    have hmm := refMembers_any ma mn mc mem _ (Is.below hm hb (Nat.le_refl _)) hmn
    have HM := Lib.hid hmm
    clear hmm hm
    go_enter Try.func123, Try.ntmps123
    go_wp2_with fail
    refine HM.out.mono ?_
    rintro e w1 ⟨rfl, rfl⟩
    go_wp2_with fail
    go_ret
    exact ⟨rfl, hb⟩
end Go.Proofs.Ytljbehndnledpaa
