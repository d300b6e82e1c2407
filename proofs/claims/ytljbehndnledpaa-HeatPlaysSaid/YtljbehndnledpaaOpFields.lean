/- The walks of script.fields and of yesteryearlaw13.Great. Printed by wip/mkfields.py. No condition. -/
import Derived.Test.YtljbehndnledpaaOpRight
namespace Go.Proofs.Ytljbehndnledpaa
open Go.RowKit

set_option maxRecDepth 100000 in
set_option maxHeartbeats 4000000 in
theorem fields_any (k : Int) (w : World) : Calls Try.prog 117 #[.int .i64 k] w fun e w' => e = .returned (.string ⟨(looksL k).toArray⟩) ∧ w = w' := by
  by_cases hk : 1 ≤ k ∧ k ≤ 19
  · rcases kinds k hk.1 hk.2 with rfl | rfl | rfl | rfl | rfl | rfl | rfl | rfl | rfl | rfl | rfl | rfl | rfl | rfl | rfl | rfl | rfl | rfl | rfl
    all_goals
      clear hk
      go_enter Try.func117, Try.ntmps117
      go_wp2_with fail
      go_ret
      exact ⟨rfl, rfl⟩
  · rw [looks_out k hk]
    have n1 : (k == 1) = false := by rw [beq_eq_false_iff_ne]; omega
    have n2 : (k == 2) = false := by rw [beq_eq_false_iff_ne]; omega
    have n3 : (k == 3) = false := by rw [beq_eq_false_iff_ne]; omega
    have n4 : (k == 4) = false := by rw [beq_eq_false_iff_ne]; omega
    have n5 : (k == 5) = false := by rw [beq_eq_false_iff_ne]; omega
    have n6 : (k == 6) = false := by rw [beq_eq_false_iff_ne]; omega
    have n7 : (k == 7) = false := by rw [beq_eq_false_iff_ne]; omega
    have n8 : (k == 8) = false := by rw [beq_eq_false_iff_ne]; omega
    have n9 : (k == 9) = false := by rw [beq_eq_false_iff_ne]; omega
    have n10 : (k == 10) = false := by rw [beq_eq_false_iff_ne]; omega
    have n11 : (k == 11) = false := by rw [beq_eq_false_iff_ne]; omega
    have n12 : (k == 12) = false := by rw [beq_eq_false_iff_ne]; omega
    have n13 : (k == 13) = false := by rw [beq_eq_false_iff_ne]; omega
    have n14 : (k == 14) = false := by rw [beq_eq_false_iff_ne]; omega
    have n15 : (k == 15) = false := by rw [beq_eq_false_iff_ne]; omega
    have n16 : (k == 16) = false := by rw [beq_eq_false_iff_ne]; omega
    have n17 : (k == 17) = false := by rw [beq_eq_false_iff_ne]; omega
    have n18 : (k == 18) = false := by rw [beq_eq_false_iff_ne]; omega
    have n19 : (k == 19) = false := by rw [beq_eq_false_iff_ne]; omega
    go_enter Try.func117, Try.ntmps117
    go_wp2_with fail
    go_ret
    exact ⟨rfl, rfl⟩

set_option maxRecDepth 100000 in
set_option maxHeartbeats 4000000 in
theorem great_any (k v i b n pt : Int) (da ma : Option Addr) (dn dc mn mc : Nat) (w : World) :
    Calls Try.prog 49 #[.agg #[.int .i64 k, .int .i64 v, .int .i64 i, .int .i64 b, .int .i64 n, .int .u64 pt, .slice da dn dc, .slice ma mn mc]] w fun e w' => e = .returned (.bool (decide (300 < dn) || decide (100 < mn))) ∧ Below w.heap.size w w' := by
  have hb : Below w.heap.size w (w.alloc (.cells #[.int .i64 k, .int .i64 v, .int .i64 i, .int .i64 b, .int .i64 n, .int .u64 pt, .slice da dn dc, .slice ma mn mc] 80)) := (Below.refl _ _).alloc (Nat.le_refl _) _
  by_cases h1 : 300 < dn
  · have h1i : (300 : Int) < (dn : Int) := by omega
    go_enter Try.func49, Try.ntmps49
    go_wp2_with fail
    go_ret
    exact ⟨by simp [*], hb⟩
  · have h1i : ¬ (300 : Int) < (dn : Int) := by omega
    by_cases h2 : 100 < mn
    · go_enter Try.func49, Try.ntmps49
      go_wp2_with fail
      go_ret
      exact ⟨by simp [*] <;> omega, hb⟩
    · go_enter Try.func49, Try.ntmps49
      go_wp2_with fail
      go_ret
      exact ⟨by simp [*] <;> omega, hb⟩
end Go.Proofs.Ytljbehndnledpaa
