/- The walks of yesteryearlaw56.plain and touches, and of batch.plain. Conditions: those of each theorem. -/
import Derived.Test.YtljbehndnledpaaOpRefRight
import Derived.Test.YtljbehndnledpaaOpList
import Derived.Test.YtljbehndnledpaaOpRight
namespace Go.Proofs.Ytljbehndnledpaa
open Go.RowKit

/-- A write, or a trim, that may be. -/
def plainO (k v i b n : Int) (dn : Nat) (m : List Int) : Bool := (k == 4 || k == 5) && rightO k v i b n dn m
/-- Does it touch a block? -/
def touchO (k v b n vol block : Int) : Bool := v == vol && (decide (b ≤ block) && decide (block < wrap64 (b + if k = 5 then n else 1)))

set_option maxRecDepth 100000 in
set_option maxHeartbeats 4000000 in
theorem plain56_any (k v i b n pt : Int) (da ma : Option Addr) (dn dc mn mc : Nat) (mem : List Int) (w : World) (hm : Is .i64 w ma mn mem) (hmn : mn ≤ 1000000000) :
    Calls Try.prog 82 #[.agg #[.int .i64 k, .int .i64 v, .int .i64 i, .int .i64 b, .int .i64 n, .int .u64 pt, .slice da dn dc, .slice ma mn mc]] w fun e w' => e = .returned (.bool (plainO k v i b n dn mem)) ∧ Below w.heap.size w w' := by
  have hb : Below w.heap.size w (w.alloc (.cells #[.int .i64 k, .int .i64 v, .int .i64 i, .int .i64 b, .int .i64 n, .int .u64 pt, .slice da dn dc, .slice ma mn mc] 80)) := (Below.refl _ _).alloc (Nat.le_refl _) _
  have hr := refRightO_any k v i b n pt da ma dn dc mn mc mem _ (hm.below hb (Nat.le_refl _)) hmn
  have HR := Lib.hid hr
  clear hr hm
  unfold plainO
  generalize rightO k v i b n dn mem = r at *
  by_cases h4 : k = 4
  · subst h4
    go_enter Try.func82, Try.ntmps82
    go_wp2_with fail
    refine HR.out.mono ?_
    rintro e w2 ⟨rfl, hb2⟩
    go_wp2_with fail
    go_ret
    exact ⟨by simp, hb.trans (hb2.mono hb.size)⟩
  · by_cases h5 : k = 5
    · subst h5
      go_enter Try.func82, Try.ntmps82
      go_wp2_with fail
      refine HR.out.mono ?_
      rintro e w2 ⟨rfl, hb2⟩
      go_wp2_with fail
      go_ret
      exact ⟨by simp, hb.trans (hb2.mono hb.size)⟩
    · have e4 : (k == 4) = false := by rw [beq_eq_false_iff_ne]; exact h4
      have e5 : (k == 5) = false := by rw [beq_eq_false_iff_ne]; exact h5
      clear HR
      go_enter Try.func82, Try.ntmps82
      go_wp2_with fail
      go_ret
      exact ⟨by simp [e4, e5], hb⟩

set_option maxRecDepth 100000 in
set_option maxHeartbeats 4000000 in
theorem touches_any (k v i b n pt vol block : Int) (da ma : Option Addr) (dn dc mn mc : Nat) (w : World) :
    Calls Try.prog 83 #[.agg #[.int .i64 k, .int .i64 v, .int .i64 i, .int .i64 b, .int .i64 n, .int .u64 pt, .slice da dn dc, .slice ma mn mc], .int .i64 vol, .int .i64 block] w fun e w' => e = .returned (.bool (touchO k v b n vol block)) ∧ Below w.heap.size w w' := by
  have hb : Below w.heap.size w (w.alloc (.cells #[.int .i64 k, .int .i64 v, .int .i64 i, .int .i64 b, .int .i64 n, .int .u64 pt, .slice da dn dc, .slice ma mn mc] 80)) := (Below.refl _ _).alloc (Nat.le_refl _) _
  obtain ⟨c0, c1, c2, c3, c4, c5, c6, c7⟩ := Cells8.new w k v i b n pt (.slice da dn dc) (.slice ma mn mc)
  unfold touchO
  by_cases h5 : k = 5
  · subst h5
    rw [if_pos rfl]
    by_cases hv : v = vol
    · subst hv
      by_cases h1 : b ≤ block
      · go_enter Try.func83, Try.ntmps83
        go_wp2_with fail
        go_ret
        exact ⟨ret_bool (by simp [*]), hb⟩
      · go_enter Try.func83, Try.ntmps83
        go_wp2_with fail
        go_ret
        exact ⟨ret_bool (by simp [*]; intro h; omega), hb⟩
    · have ev : (v == vol) = false := by rw [beq_eq_false_iff_ne]; exact hv
      go_enter Try.func83, Try.ntmps83
      go_wp2_with fail
      go_ret
      exact ⟨ret_bool (by simp [*]), hb⟩
  · have e5 : (k == 5) = false := by rw [beq_eq_false_iff_ne]; exact h5
    rw [if_neg h5]
    by_cases hv : v = vol
    · subst hv
      by_cases h1 : b ≤ block
      · go_enter Try.func83, Try.ntmps83
        go_wp2_with fail
        go_ret
        exact ⟨ret_bool (by simp [*]), hb⟩
      · go_enter Try.func83, Try.ntmps83
        go_wp2_with fail
        go_ret
        exact ⟨ret_bool (by simp [*]; intro h; omega), hb⟩
    · have ev : (v == vol) = false := by rw [beq_eq_false_iff_ne]; exact hv
      go_enter Try.func83, Try.ntmps83
      go_wp2_with fail
      go_ret
      exact ⟨ret_bool (by simp [*]), hb⟩
end Go.Proofs.Ytljbehndnledpaa
namespace Go.Proofs.Ytljbehndnledpaa
open Go.RowKit

set_option maxRecDepth 100000 in
set_option maxHeartbeats 4000000 in
theorem batchPlain_any (k v i b n pt : Int) (da ma : Option Addr) (dn dc mn mc : Nat) (mem : List Int) (w : World) (hm : Is .i64 w ma mn mem) (hmn : mn ≤ 1000000000) :
    Calls Try.prog 140 #[.agg #[.int .i64 k, .int .i64 v, .int .i64 i, .int .i64 b, .int .i64 n, .int .u64 pt, .slice da dn dc, .slice ma mn mc]] w fun e w' => e = .returned (.bool (plainO k v i b n dn mem)) ∧ Below w.heap.size w w' := by
  have hb : Below w.heap.size w (w.alloc (.cells #[.int .i64 k, .int .i64 v, .int .i64 i, .int .i64 b, .int .i64 n, .int .u64 pt, .slice da dn dc, .slice ma mn mc] 80)) := (Below.refl _ _).alloc (Nat.le_refl _) _
  have hr := opRight_any k v i b n pt da ma dn dc mn mc mem _ (hm.below hb (Nat.le_refl _)) hmn
  have hC := Cells8.new w k v i b n pt (.slice da dn dc) (.slice ma mn mc)
  have hlt : w.heap.size < (w.alloc (.cells #[.int .i64 k, .int .i64 v, .int .i64 i, .int .i64 b, .int .i64 n, .int .u64 pt, .slice da dn dc, .slice ma mn mc] 80)).heap.size := by simp
  have HR := Lib.hid hr
  have HC := Lib.hid hC
  clear hr hm hC
  unfold plainO
  generalize rightO k v i b n dn mem = r at *
  have e4 : k = 4 ∨ (k == 4) = false := by by_cases h : k = 4 <;> simp [h]
  have e5 : k = 5 ∨ (k == 5) = false := by by_cases h : k = 5 <;> simp [h]
  cases r <;> rcases e4 with rfl | e4 <;> (try rcases e5 with h | e5)
  all_goals first
    | (exfalso; omega)
    | (try subst h
       go_enter Try.func140, Try.ntmps140
       go_wp2_with fail
       refine HR.out.mono ?_
       rintro e w2 ⟨rfl, hb2⟩
       obtain ⟨c0, -⟩ := HC.out.below hb2 hlt
       go_wp2_with fail
       go_ret
       exact ⟨by simp [*], hb.trans (hb2.mono hb.size)⟩)
end Go.Proofs.Ytljbehndnledpaa
