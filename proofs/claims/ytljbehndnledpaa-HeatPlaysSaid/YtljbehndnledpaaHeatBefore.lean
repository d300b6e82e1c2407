/- The walk of yesteryearlaw57.before. Conditions: those of each theorem. -/
import Derived.Test.YtljbehndnledpaaHeatMap
namespace Go.Proofs.Ytljbehndnledpaa
open Go.RowKit

/-- Is a count ahead of another one? -/
def befH (a b : Hs) : Bool := if a.2 = b.2 then decide (a.1.1 < b.1.1) || (decide (a.1.1 = b.1.1) && decide (a.1.2 < b.1.2)) else decide (b.2 < a.2)

set_option maxRecDepth 100000 in
set_option maxHeartbeats 4000000 in
theorem before_any (a b : Hs) (w : World) :
    Calls Try.prog 66 #[.agg #[.int .i64 a.1.1, .int .i64 a.1.2, .int .i64 a.2], .agg #[.int .i64 b.1.1, .int .i64 b.1.2, .int .i64 b.2]] w fun e w' => e = .returned (.bool (befH a b)) ∧ Below w.heap.size w w' := by
  obtain ⟨⟨a1, a2⟩, an⟩ := a
  obtain ⟨⟨b1, b2⟩, bn⟩ := b
  have hb : Below w.heap.size w ((w.alloc (.cells #[.int .i64 a1, .int .i64 a2, .int .i64 an] 111)).alloc (.cells #[.int .i64 b1, .int .i64 b2, .int .i64 bn] 111)) := ((Below.refl _ _).alloc (Nat.le_refl _) _).alloc (by simp) _
  unfold befH
  by_cases hn : an = bn
  · subst hn
    rw [if_pos rfl]
    by_cases h1 : a1 < b1
    · have d1 : decide (a1 < b1) = true := decide_eq_true h1
      go_enter Try.func66, Try.ntmps66
      go_wp2_with fail
      go_ret
      exact ⟨by simp [h1], hb⟩
    · have d1 : decide (a1 < b1) = false := decide_eq_false h1
      by_cases h2 : a1 = b1
      · subst h2
        go_enter Try.func66, Try.ntmps66
        go_wp2_with fail
        go_ret
        exact ⟨by simp, hb⟩
      · have d2 : (a1 == b1) = false := by rw [beq_eq_false_iff_ne]; exact h2
        go_enter Try.func66, Try.ntmps66
        go_wp2_with fail
        go_ret
        exact ⟨by simp, hb⟩
  · have d0 : (an == bn) = false := by rw [beq_eq_false_iff_ne]; exact hn
    go_enter Try.func66, Try.ntmps66
    go_wp2_with fail
    go_ret
    exact ⟨by simp, hb⟩
end Go.Proofs.Ytljbehndnledpaa
