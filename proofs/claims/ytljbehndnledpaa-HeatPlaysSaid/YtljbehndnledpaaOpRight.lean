/- The walk of op.Right. Printed by wip/mkopright.py. Conditions: those of the theorem. -/
import Derived.Test.YtljbehndnledpaaOpRefRight
namespace Go.Proofs.Ytljbehndnledpaa
open Go.RowKit

set_option maxRecDepth 100000 in
set_option maxHeartbeats 2000000 in
theorem right_1 (v i b n pt : Int) (da ma : Option Addr) (dn dc mn mc : Nat) (mem : List Int) (w : World) :
    Calls Try.prog 115 #[.agg #[.int .i64 1, .int .i64 v, .int .i64 i, .int .i64 b, .int .i64 n, .int .u64 pt, .slice da dn dc, .slice ma mn mc]] w fun e w' => e = .returned (.bool (rightO 1 v i b n dn mem)) ∧ Below w.heap.size w w' := by
  have hb : Below w.heap.size w (w.alloc (.cells #[.int .i64 1, .int .i64 v, .int .i64 i, .int .i64 b, .int .i64 n, .int .u64 pt, .slice da dn dc, .slice ma mn mc] 80)) := (Below.refl _ _).alloc (Nat.le_refl _) _
  have hR : rightO 1 v i b n dn mem = (okCount n) := by simp [rightO, looksL, mayO]
  rw [hR]
  clear hR
  have q0 := Lib.hid (opCount_any n (w.alloc (.cells #[.int .i64 1, .int .i64 v, .int .i64 i, .int .i64 b, .int .i64 n, .int .u64 pt, .slice da dn dc, .slice ma mn mc] 80)))
  generalize okCount n = x0 at *
  cases x0
  all_goals
    go_enter Try.func115, Try.ntmps115
    go_wp2_with (first | (go_at_call 160; with_reducible refine q0.out.mono ?_; rintro e w' ⟨rfl, rfl⟩))
    go_ret
    exact ⟨rfl, hb⟩

set_option maxRecDepth 100000 in
set_option maxHeartbeats 2000000 in
theorem right_2 (v i b n pt : Int) (da ma : Option Addr) (dn dc mn mc : Nat) (mem : List Int) (w : World) :
    Calls Try.prog 115 #[.agg #[.int .i64 2, .int .i64 v, .int .i64 i, .int .i64 b, .int .i64 n, .int .u64 pt, .slice da dn dc, .slice ma mn mc]] w fun e w' => e = .returned (.bool (rightO 2 v i b n dn mem)) ∧ Below w.heap.size w w' := by
  have hb : Below w.heap.size w (w.alloc (.cells #[.int .i64 2, .int .i64 v, .int .i64 i, .int .i64 b, .int .i64 n, .int .u64 pt, .slice da dn dc, .slice ma mn mc] 80)) := (Below.refl _ _).alloc (Nat.le_refl _) _
  have hR : rightO 2 v i b n dn mem = (okId v) := by simp [rightO, looksL, mayO]
  rw [hR]
  clear hR
  have q0 := Lib.hid (opId_any v (w.alloc (.cells #[.int .i64 2, .int .i64 v, .int .i64 i, .int .i64 b, .int .i64 n, .int .u64 pt, .slice da dn dc, .slice ma mn mc] 80)))
  generalize okId v = x0 at *
  cases x0
  all_goals
    go_enter Try.func115, Try.ntmps115
    go_wp2_with (first | (go_at_call 161; with_reducible refine q0.out.mono ?_; rintro e w' ⟨rfl, rfl⟩))
    go_ret
    exact ⟨rfl, hb⟩

set_option maxRecDepth 100000 in
set_option maxHeartbeats 2000000 in
theorem right_3 (v i b n pt : Int) (da ma : Option Addr) (dn dc mn mc : Nat) (mem : List Int) (w : World) :
    Calls Try.prog 115 #[.agg #[.int .i64 3, .int .i64 v, .int .i64 i, .int .i64 b, .int .i64 n, .int .u64 pt, .slice da dn dc, .slice ma mn mc]] w fun e w' => e = .returned (.bool (rightO 3 v i b n dn mem)) ∧ Below w.heap.size w w' := by
  have hb : Below w.heap.size w (w.alloc (.cells #[.int .i64 3, .int .i64 v, .int .i64 i, .int .i64 b, .int .i64 n, .int .u64 pt, .slice da dn dc, .slice ma mn mc] 80)) := (Below.refl _ _).alloc (Nat.le_refl _) _
  have hR : rightO 3 v i b n dn mem = (okId v && okCount n) := by simp [rightO, looksL, mayO]
  rw [hR]
  clear hR
  have q0 := Lib.hid (opId_any v (w.alloc (.cells #[.int .i64 3, .int .i64 v, .int .i64 i, .int .i64 b, .int .i64 n, .int .u64 pt, .slice da dn dc, .slice ma mn mc] 80)))
  have q1 := Lib.hid (opCount_any n (w.alloc (.cells #[.int .i64 3, .int .i64 v, .int .i64 i, .int .i64 b, .int .i64 n, .int .u64 pt, .slice da dn dc, .slice ma mn mc] 80)))
  generalize okId v = x0 at *
  generalize okCount n = x1 at *
  cases x0 <;> cases x1
  all_goals
    go_enter Try.func115, Try.ntmps115
    go_wp2_with (first | (go_at_call 161; with_reducible refine q0.out.mono ?_; rintro e w' ⟨rfl, rfl⟩) | (go_at_call 160; with_reducible refine q1.out.mono ?_; rintro e w' ⟨rfl, rfl⟩))
    go_ret
    exact ⟨rfl, hb⟩

set_option maxRecDepth 100000 in
set_option maxHeartbeats 2000000 in
theorem right_4 (v i b n pt : Int) (da ma : Option Addr) (dn dc mn mc : Nat) (mem : List Int) (w : World) :
    Calls Try.prog 115 #[.agg #[.int .i64 4, .int .i64 v, .int .i64 i, .int .i64 b, .int .i64 n, .int .u64 pt, .slice da dn dc, .slice ma mn mc]] w fun e w' => e = .returned (.bool (rightO 4 v i b n dn mem)) ∧ Below w.heap.size w w' := by
  have hb : Below w.heap.size w (w.alloc (.cells #[.int .i64 4, .int .i64 v, .int .i64 i, .int .i64 b, .int .i64 n, .int .u64 pt, .slice da dn dc, .slice ma mn mc] 80)) := (Below.refl _ _).alloc (Nat.le_refl _) _
  have hR : rightO 4 v i b n dn mem = (okId v && okPlace b && okData dn) := by simp [rightO, looksL, mayO, Bool.and_assoc]
  rw [hR]
  clear hR
  have q0 := Lib.hid (opId_any v (w.alloc (.cells #[.int .i64 4, .int .i64 v, .int .i64 i, .int .i64 b, .int .i64 n, .int .u64 pt, .slice da dn dc, .slice ma mn mc] 80)))
  have q1 := Lib.hid (opPlace_any b (w.alloc (.cells #[.int .i64 4, .int .i64 v, .int .i64 i, .int .i64 b, .int .i64 n, .int .u64 pt, .slice da dn dc, .slice ma mn mc] 80)))
  generalize okId v = x0 at *
  generalize okPlace b = x1 at *
  unfold okData
  by_cases h1 : 1 ≤ dn
  · by_cases h2 : dn ≤ 64
    · cases x0 <;> cases x1
      all_goals
        go_enter Try.func115, Try.ntmps115
        go_wp2_with (first | (go_at_call 161; with_reducible refine q0.out.mono ?_; rintro e w' ⟨rfl, rfl⟩) | (go_at_call 162; with_reducible refine q1.out.mono ?_; rintro e w' ⟨rfl, rfl⟩))
        go_ret
        exact ⟨by simp [*] <;> omega, hb⟩
    · cases x0 <;> cases x1
      all_goals
        go_enter Try.func115, Try.ntmps115
        go_wp2_with (first | (go_at_call 161; with_reducible refine q0.out.mono ?_; rintro e w' ⟨rfl, rfl⟩) | (go_at_call 162; with_reducible refine q1.out.mono ?_; rintro e w' ⟨rfl, rfl⟩))
        go_ret
        exact ⟨by simp [*] <;> omega, hb⟩
  · cases x0 <;> cases x1
    all_goals
      go_enter Try.func115, Try.ntmps115
      go_wp2_with (first | (go_at_call 161; with_reducible refine q0.out.mono ?_; rintro e w' ⟨rfl, rfl⟩) | (go_at_call 162; with_reducible refine q1.out.mono ?_; rintro e w' ⟨rfl, rfl⟩))
      go_ret
      exact ⟨by simp [*] <;> omega, hb⟩

set_option maxRecDepth 100000 in
set_option maxHeartbeats 2000000 in
theorem right_5 (v i b n pt : Int) (da ma : Option Addr) (dn dc mn mc : Nat) (mem : List Int) (w : World) :
    Calls Try.prog 115 #[.agg #[.int .i64 5, .int .i64 v, .int .i64 i, .int .i64 b, .int .i64 n, .int .u64 pt, .slice da dn dc, .slice ma mn mc]] w fun e w' => e = .returned (.bool (rightO 5 v i b n dn mem)) ∧ Below w.heap.size w w' := by
  have hb : Below w.heap.size w (w.alloc (.cells #[.int .i64 5, .int .i64 v, .int .i64 i, .int .i64 b, .int .i64 n, .int .u64 pt, .slice da dn dc, .slice ma mn mc] 80)) := (Below.refl _ _).alloc (Nat.le_refl _) _
  have hR : rightO 5 v i b n dn mem = (okId v && okPlace b && okCount n) := by simp [rightO, looksL, mayO, Bool.and_assoc]
  rw [hR]
  clear hR
  have q0 := Lib.hid (opId_any v (w.alloc (.cells #[.int .i64 5, .int .i64 v, .int .i64 i, .int .i64 b, .int .i64 n, .int .u64 pt, .slice da dn dc, .slice ma mn mc] 80)))
  have q1 := Lib.hid (opPlace_any b (w.alloc (.cells #[.int .i64 5, .int .i64 v, .int .i64 i, .int .i64 b, .int .i64 n, .int .u64 pt, .slice da dn dc, .slice ma mn mc] 80)))
  have q2 := Lib.hid (opCount_any n (w.alloc (.cells #[.int .i64 5, .int .i64 v, .int .i64 i, .int .i64 b, .int .i64 n, .int .u64 pt, .slice da dn dc, .slice ma mn mc] 80)))
  generalize okId v = x0 at *
  generalize okPlace b = x1 at *
  generalize okCount n = x2 at *
  cases x0 <;> cases x1 <;> cases x2
  all_goals
    go_enter Try.func115, Try.ntmps115
    go_wp2_with (first | (go_at_call 161; with_reducible refine q0.out.mono ?_; rintro e w' ⟨rfl, rfl⟩) | (go_at_call 162; with_reducible refine q1.out.mono ?_; rintro e w' ⟨rfl, rfl⟩) | (go_at_call 160; with_reducible refine q2.out.mono ?_; rintro e w' ⟨rfl, rfl⟩))
    go_ret
    exact ⟨rfl, hb⟩

set_option maxRecDepth 100000 in
set_option maxHeartbeats 2000000 in
theorem right_6 (v i b n pt : Int) (da ma : Option Addr) (dn dc mn mc : Nat) (mem : List Int) (w : World) (hm : Is .i64 w ma mn mem) (hmn : mn ≤ 1000000000) :
    Calls Try.prog 115 #[.agg #[.int .i64 6, .int .i64 v, .int .i64 i, .int .i64 b, .int .i64 n, .int .u64 pt, .slice da dn dc, .slice ma mn mc]] w fun e w' => e = .returned (.bool (rightO 6 v i b n dn mem)) ∧ Below w.heap.size w w' := by
  have hb : Below w.heap.size w (w.alloc (.cells #[.int .i64 6, .int .i64 v, .int .i64 i, .int .i64 b, .int .i64 n, .int .u64 pt, .slice da dn dc, .slice ma mn mc] 80)) := (Below.refl _ _).alloc (Nat.le_refl _) _
  have hR : rightO 6 v i b n dn mem = (okMem mem) := by simp [rightO, looksL, mayO]
  rw [hR]
  clear hR
  have q0 := Lib.hid (members_any ma mn mc mem (w.alloc (.cells #[.int .i64 6, .int .i64 v, .int .i64 i, .int .i64 b, .int .i64 n, .int .u64 pt, .slice da dn dc, .slice ma mn mc] 80)) (Is.below hm hb (Nat.le_refl _)) hmn)
  clear hm hmn
  generalize okMem mem = x0 at *
  cases x0
  all_goals
    go_enter Try.func115, Try.ntmps115
    go_wp2_with (first | (go_at_call 163; with_reducible refine q0.out.mono ?_; rintro e w' ⟨rfl, rfl⟩))
    go_ret
    exact ⟨rfl, hb⟩

set_option maxRecDepth 100000 in
set_option maxHeartbeats 2000000 in
theorem right_7 (v i b n pt : Int) (da ma : Option Addr) (dn dc mn mc : Nat) (mem : List Int) (w : World) :
    Calls Try.prog 115 #[.agg #[.int .i64 7, .int .i64 v, .int .i64 i, .int .i64 b, .int .i64 n, .int .u64 pt, .slice da dn dc, .slice ma mn mc]] w fun e w' => e = .returned (.bool (rightO 7 v i b n dn mem)) ∧ Below w.heap.size w w' := by
  have hb : Below w.heap.size w (w.alloc (.cells #[.int .i64 7, .int .i64 v, .int .i64 i, .int .i64 b, .int .i64 n, .int .u64 pt, .slice da dn dc, .slice ma mn mc] 80)) := (Below.refl _ _).alloc (Nat.le_refl _) _
  have hR : rightO 7 v i b n dn mem = (okId i) := by simp [rightO, looksL, mayO]
  rw [hR]
  clear hR
  have q0 := Lib.hid (opId_any i (w.alloc (.cells #[.int .i64 7, .int .i64 v, .int .i64 i, .int .i64 b, .int .i64 n, .int .u64 pt, .slice da dn dc, .slice ma mn mc] 80)))
  generalize okId i = x0 at *
  cases x0
  all_goals
    go_enter Try.func115, Try.ntmps115
    go_wp2_with (first | (go_at_call 161; with_reducible refine q0.out.mono ?_; rintro e w' ⟨rfl, rfl⟩))
    go_ret
    exact ⟨rfl, hb⟩

set_option maxRecDepth 100000 in
set_option maxHeartbeats 2000000 in
theorem right_8 (v i b n pt : Int) (da ma : Option Addr) (dn dc mn mc : Nat) (mem : List Int) (w : World) :
    Calls Try.prog 115 #[.agg #[.int .i64 8, .int .i64 v, .int .i64 i, .int .i64 b, .int .i64 n, .int .u64 pt, .slice da dn dc, .slice ma mn mc]] w fun e w' => e = .returned (.bool (rightO 8 v i b n dn mem)) ∧ Below w.heap.size w w' := by
  have hb : Below w.heap.size w (w.alloc (.cells #[.int .i64 8, .int .i64 v, .int .i64 i, .int .i64 b, .int .i64 n, .int .u64 pt, .slice da dn dc, .slice ma mn mc] 80)) := (Below.refl _ _).alloc (Nat.le_refl _) _
  have hR : rightO 8 v i b n dn mem = (okId i) := by simp [rightO, looksL, mayO]
  rw [hR]
  clear hR
  have q0 := Lib.hid (opId_any i (w.alloc (.cells #[.int .i64 8, .int .i64 v, .int .i64 i, .int .i64 b, .int .i64 n, .int .u64 pt, .slice da dn dc, .slice ma mn mc] 80)))
  generalize okId i = x0 at *
  cases x0
  all_goals
    go_enter Try.func115, Try.ntmps115
    go_wp2_with (first | (go_at_call 161; with_reducible refine q0.out.mono ?_; rintro e w' ⟨rfl, rfl⟩))
    go_ret
    exact ⟨rfl, hb⟩

set_option maxRecDepth 100000 in
set_option maxHeartbeats 2000000 in
theorem right_9 (v i b n pt : Int) (da ma : Option Addr) (dn dc mn mc : Nat) (mem : List Int) (w : World) :
    Calls Try.prog 115 #[.agg #[.int .i64 9, .int .i64 v, .int .i64 i, .int .i64 b, .int .i64 n, .int .u64 pt, .slice da dn dc, .slice ma mn mc]] w fun e w' => e = .returned (.bool (rightO 9 v i b n dn mem)) ∧ Below w.heap.size w w' := by
  have hb : Below w.heap.size w (w.alloc (.cells #[.int .i64 9, .int .i64 v, .int .i64 i, .int .i64 b, .int .i64 n, .int .u64 pt, .slice da dn dc, .slice ma mn mc] 80)) := (Below.refl _ _).alloc (Nat.le_refl _) _
  have hR : rightO 9 v i b n dn mem = (okId i) := by simp [rightO, looksL, mayO]
  rw [hR]
  clear hR
  have q0 := Lib.hid (opId_any i (w.alloc (.cells #[.int .i64 9, .int .i64 v, .int .i64 i, .int .i64 b, .int .i64 n, .int .u64 pt, .slice da dn dc, .slice ma mn mc] 80)))
  generalize okId i = x0 at *
  cases x0
  all_goals
    go_enter Try.func115, Try.ntmps115
    go_wp2_with (first | (go_at_call 161; with_reducible refine q0.out.mono ?_; rintro e w' ⟨rfl, rfl⟩))
    go_ret
    exact ⟨rfl, hb⟩

set_option maxRecDepth 100000 in
set_option maxHeartbeats 2000000 in
theorem right_10 (v i b n pt : Int) (da ma : Option Addr) (dn dc mn mc : Nat) (mem : List Int) (w : World) :
    Calls Try.prog 115 #[.agg #[.int .i64 10, .int .i64 v, .int .i64 i, .int .i64 b, .int .i64 n, .int .u64 pt, .slice da dn dc, .slice ma mn mc]] w fun e w' => e = .returned (.bool (rightO 10 v i b n dn mem)) ∧ Below w.heap.size w w' := by
  have hb : Below w.heap.size w (w.alloc (.cells #[.int .i64 10, .int .i64 v, .int .i64 i, .int .i64 b, .int .i64 n, .int .u64 pt, .slice da dn dc, .slice ma mn mc] 80)) := (Below.refl _ _).alloc (Nat.le_refl _) _
  have hR : rightO 10 v i b n dn mem = (okId v) := by simp [rightO, looksL, mayO]
  rw [hR]
  clear hR
  have q0 := Lib.hid (opId_any v (w.alloc (.cells #[.int .i64 10, .int .i64 v, .int .i64 i, .int .i64 b, .int .i64 n, .int .u64 pt, .slice da dn dc, .slice ma mn mc] 80)))
  generalize okId v = x0 at *
  cases x0
  all_goals
    go_enter Try.func115, Try.ntmps115
    go_wp2_with (first | (go_at_call 161; with_reducible refine q0.out.mono ?_; rintro e w' ⟨rfl, rfl⟩))
    go_ret
    exact ⟨rfl, hb⟩

set_option maxRecDepth 100000 in
set_option maxHeartbeats 2000000 in
theorem right_11 (v i b n pt : Int) (da ma : Option Addr) (dn dc mn mc : Nat) (mem : List Int) (w : World) :
    Calls Try.prog 115 #[.agg #[.int .i64 11, .int .i64 v, .int .i64 i, .int .i64 b, .int .i64 n, .int .u64 pt, .slice da dn dc, .slice ma mn mc]] w fun e w' => e = .returned (.bool (rightO 11 v i b n dn mem)) ∧ Below w.heap.size w w' := by
  have hb : Below w.heap.size w (w.alloc (.cells #[.int .i64 11, .int .i64 v, .int .i64 i, .int .i64 b, .int .i64 n, .int .u64 pt, .slice da dn dc, .slice ma mn mc] 80)) := (Below.refl _ _).alloc (Nat.le_refl _) _
  have hR : rightO 11 v i b n dn mem = (okId v) := by simp [rightO, looksL, mayO]
  rw [hR]
  clear hR
  have q0 := Lib.hid (opId_any v (w.alloc (.cells #[.int .i64 11, .int .i64 v, .int .i64 i, .int .i64 b, .int .i64 n, .int .u64 pt, .slice da dn dc, .slice ma mn mc] 80)))
  generalize okId v = x0 at *
  cases x0
  all_goals
    go_enter Try.func115, Try.ntmps115
    go_wp2_with (first | (go_at_call 161; with_reducible refine q0.out.mono ?_; rintro e w' ⟨rfl, rfl⟩))
    go_ret
    exact ⟨rfl, hb⟩

set_option maxRecDepth 100000 in
set_option maxHeartbeats 2000000 in
theorem right_12 (v i b n pt : Int) (da ma : Option Addr) (dn dc mn mc : Nat) (mem : List Int) (w : World) :
    Calls Try.prog 115 #[.agg #[.int .i64 12, .int .i64 v, .int .i64 i, .int .i64 b, .int .i64 n, .int .u64 pt, .slice da dn dc, .slice ma mn mc]] w fun e w' => e = .returned (.bool (rightO 12 v i b n dn mem)) ∧ Below w.heap.size w w' := by
  have hb : Below w.heap.size w (w.alloc (.cells #[.int .i64 12, .int .i64 v, .int .i64 i, .int .i64 b, .int .i64 n, .int .u64 pt, .slice da dn dc, .slice ma mn mc] 80)) := (Below.refl _ _).alloc (Nat.le_refl _) _
  have hR : rightO 12 v i b n dn mem = (okId v && okId i) := by simp [rightO, looksL, mayO]
  rw [hR]
  clear hR
  have q0 := Lib.hid (opId_any v (w.alloc (.cells #[.int .i64 12, .int .i64 v, .int .i64 i, .int .i64 b, .int .i64 n, .int .u64 pt, .slice da dn dc, .slice ma mn mc] 80)))
  have q1 := Lib.hid (opId_any i (w.alloc (.cells #[.int .i64 12, .int .i64 v, .int .i64 i, .int .i64 b, .int .i64 n, .int .u64 pt, .slice da dn dc, .slice ma mn mc] 80)))
  generalize okId v = x0 at *
  generalize okId i = x1 at *
  cases x0 <;> cases x1
  all_goals
    go_enter Try.func115, Try.ntmps115
    go_wp2_with (first | (go_at_call 161; with_reducible refine q0.out.mono ?_; rintro e w' ⟨rfl, rfl⟩) | (go_at_call 161; with_reducible refine q1.out.mono ?_; rintro e w' ⟨rfl, rfl⟩))
    go_ret
    exact ⟨rfl, hb⟩

set_option maxRecDepth 100000 in
set_option maxHeartbeats 2000000 in
theorem right_13 (v i b n pt : Int) (da ma : Option Addr) (dn dc mn mc : Nat) (mem : List Int) (w : World) :
    Calls Try.prog 115 #[.agg #[.int .i64 13, .int .i64 v, .int .i64 i, .int .i64 b, .int .i64 n, .int .u64 pt, .slice da dn dc, .slice ma mn mc]] w fun e w' => e = .returned (.bool (rightO 13 v i b n dn mem)) ∧ Below w.heap.size w w' := by
  have hb : Below w.heap.size w (w.alloc (.cells #[.int .i64 13, .int .i64 v, .int .i64 i, .int .i64 b, .int .i64 n, .int .u64 pt, .slice da dn dc, .slice ma mn mc] 80)) := (Below.refl _ _).alloc (Nat.le_refl _) _
  have hR : rightO 13 v i b n dn mem = (okId v) := by simp [rightO, looksL, mayO]
  rw [hR]
  clear hR
  have q0 := Lib.hid (opId_any v (w.alloc (.cells #[.int .i64 13, .int .i64 v, .int .i64 i, .int .i64 b, .int .i64 n, .int .u64 pt, .slice da dn dc, .slice ma mn mc] 80)))
  generalize okId v = x0 at *
  cases x0
  all_goals
    go_enter Try.func115, Try.ntmps115
    go_wp2_with (first | (go_at_call 161; with_reducible refine q0.out.mono ?_; rintro e w' ⟨rfl, rfl⟩))
    go_ret
    exact ⟨rfl, hb⟩

set_option maxRecDepth 100000 in
set_option maxHeartbeats 2000000 in
theorem right_14 (v i b n pt : Int) (da ma : Option Addr) (dn dc mn mc : Nat) (mem : List Int) (w : World) :
    Calls Try.prog 115 #[.agg #[.int .i64 14, .int .i64 v, .int .i64 i, .int .i64 b, .int .i64 n, .int .u64 pt, .slice da dn dc, .slice ma mn mc]] w fun e w' => e = .returned (.bool (rightO 14 v i b n dn mem)) ∧ Below w.heap.size w w' := by
  have hb : Below w.heap.size w (w.alloc (.cells #[.int .i64 14, .int .i64 v, .int .i64 i, .int .i64 b, .int .i64 n, .int .u64 pt, .slice da dn dc, .slice ma mn mc] 80)) := (Below.refl _ _).alloc (Nat.le_refl _) _
  have hR : rightO 14 v i b n dn mem = (true) := by simp [rightO, looksL]
  rw [hR]
  clear hR
  go_enter Try.func115, Try.ntmps115
  go_wp2_with fail
  go_ret
  exact ⟨rfl, hb⟩

set_option maxRecDepth 100000 in
set_option maxHeartbeats 2000000 in
theorem right_15 (v i b n pt : Int) (da ma : Option Addr) (dn dc mn mc : Nat) (mem : List Int) (w : World) :
    Calls Try.prog 115 #[.agg #[.int .i64 15, .int .i64 v, .int .i64 i, .int .i64 b, .int .i64 n, .int .u64 pt, .slice da dn dc, .slice ma mn mc]] w fun e w' => e = .returned (.bool (rightO 15 v i b n dn mem)) ∧ Below w.heap.size w w' := by
  have hb : Below w.heap.size w (w.alloc (.cells #[.int .i64 15, .int .i64 v, .int .i64 i, .int .i64 b, .int .i64 n, .int .u64 pt, .slice da dn dc, .slice ma mn mc] 80)) := (Below.refl _ _).alloc (Nat.le_refl _) _
  have hR : rightO 15 v i b n dn mem = (okId v && okPlace b) := by simp [rightO, looksL, mayO]
  rw [hR]
  clear hR
  have q0 := Lib.hid (opId_any v (w.alloc (.cells #[.int .i64 15, .int .i64 v, .int .i64 i, .int .i64 b, .int .i64 n, .int .u64 pt, .slice da dn dc, .slice ma mn mc] 80)))
  have q1 := Lib.hid (opPlace_any b (w.alloc (.cells #[.int .i64 15, .int .i64 v, .int .i64 i, .int .i64 b, .int .i64 n, .int .u64 pt, .slice da dn dc, .slice ma mn mc] 80)))
  generalize okId v = x0 at *
  generalize okPlace b = x1 at *
  cases x0 <;> cases x1
  all_goals
    go_enter Try.func115, Try.ntmps115
    go_wp2_with (first | (go_at_call 161; with_reducible refine q0.out.mono ?_; rintro e w' ⟨rfl, rfl⟩) | (go_at_call 162; with_reducible refine q1.out.mono ?_; rintro e w' ⟨rfl, rfl⟩))
    go_ret
    exact ⟨rfl, hb⟩

set_option maxRecDepth 100000 in
set_option maxHeartbeats 2000000 in
theorem right_16 (v i b n pt : Int) (da ma : Option Addr) (dn dc mn mc : Nat) (mem : List Int) (w : World) :
    Calls Try.prog 115 #[.agg #[.int .i64 16, .int .i64 v, .int .i64 i, .int .i64 b, .int .i64 n, .int .u64 pt, .slice da dn dc, .slice ma mn mc]] w fun e w' => e = .returned (.bool (rightO 16 v i b n dn mem)) ∧ Below w.heap.size w w' := by
  have hb : Below w.heap.size w (w.alloc (.cells #[.int .i64 16, .int .i64 v, .int .i64 i, .int .i64 b, .int .i64 n, .int .u64 pt, .slice da dn dc, .slice ma mn mc] 80)) := (Below.refl _ _).alloc (Nat.le_refl _) _
  have hR : rightO 16 v i b n dn mem = (okId v && okPlace b) := by simp [rightO, looksL, mayO]
  rw [hR]
  clear hR
  have q0 := Lib.hid (opId_any v (w.alloc (.cells #[.int .i64 16, .int .i64 v, .int .i64 i, .int .i64 b, .int .i64 n, .int .u64 pt, .slice da dn dc, .slice ma mn mc] 80)))
  have q1 := Lib.hid (opPlace_any b (w.alloc (.cells #[.int .i64 16, .int .i64 v, .int .i64 i, .int .i64 b, .int .i64 n, .int .u64 pt, .slice da dn dc, .slice ma mn mc] 80)))
  generalize okId v = x0 at *
  generalize okPlace b = x1 at *
  cases x0 <;> cases x1
  all_goals
    go_enter Try.func115, Try.ntmps115
    go_wp2_with (first | (go_at_call 161; with_reducible refine q0.out.mono ?_; rintro e w' ⟨rfl, rfl⟩) | (go_at_call 162; with_reducible refine q1.out.mono ?_; rintro e w' ⟨rfl, rfl⟩))
    go_ret
    exact ⟨rfl, hb⟩

set_option maxRecDepth 100000 in
set_option maxHeartbeats 2000000 in
theorem right_17 (v i b n pt : Int) (da ma : Option Addr) (dn dc mn mc : Nat) (mem : List Int) (w : World) :
    Calls Try.prog 115 #[.agg #[.int .i64 17, .int .i64 v, .int .i64 i, .int .i64 b, .int .i64 n, .int .u64 pt, .slice da dn dc, .slice ma mn mc]] w fun e w' => e = .returned (.bool (rightO 17 v i b n dn mem)) ∧ Below w.heap.size w w' := by
  have hb : Below w.heap.size w (w.alloc (.cells #[.int .i64 17, .int .i64 v, .int .i64 i, .int .i64 b, .int .i64 n, .int .u64 pt, .slice da dn dc, .slice ma mn mc] 80)) := (Below.refl _ _).alloc (Nat.le_refl _) _
  have hR : rightO 17 v i b n dn mem = (true) := by simp [rightO, looksL]
  rw [hR]
  clear hR
  go_enter Try.func115, Try.ntmps115
  go_wp2_with fail
  go_ret
  exact ⟨rfl, hb⟩

set_option maxRecDepth 100000 in
set_option maxHeartbeats 2000000 in
theorem right_18 (v i b n pt : Int) (da ma : Option Addr) (dn dc mn mc : Nat) (mem : List Int) (w : World) :
    Calls Try.prog 115 #[.agg #[.int .i64 18, .int .i64 v, .int .i64 i, .int .i64 b, .int .i64 n, .int .u64 pt, .slice da dn dc, .slice ma mn mc]] w fun e w' => e = .returned (.bool (rightO 18 v i b n dn mem)) ∧ Below w.heap.size w w' := by
  have hb : Below w.heap.size w (w.alloc (.cells #[.int .i64 18, .int .i64 v, .int .i64 i, .int .i64 b, .int .i64 n, .int .u64 pt, .slice da dn dc, .slice ma mn mc] 80)) := (Below.refl _ _).alloc (Nat.le_refl _) _
  have hR : rightO 18 v i b n dn mem = (true) := by simp [rightO, looksL, mayO]
  rw [hR]
  clear hR
  go_enter Try.func115, Try.ntmps115
  go_wp2_with fail
  go_ret
  exact ⟨rfl, hb⟩

set_option maxRecDepth 100000 in
set_option maxHeartbeats 2000000 in
theorem right_19 (v i b n pt : Int) (da ma : Option Addr) (dn dc mn mc : Nat) (mem : List Int) (w : World) :
    Calls Try.prog 115 #[.agg #[.int .i64 19, .int .i64 v, .int .i64 i, .int .i64 b, .int .i64 n, .int .u64 pt, .slice da dn dc, .slice ma mn mc]] w fun e w' => e = .returned (.bool (rightO 19 v i b n dn mem)) ∧ Below w.heap.size w w' := by
  have hb : Below w.heap.size w (w.alloc (.cells #[.int .i64 19, .int .i64 v, .int .i64 i, .int .i64 b, .int .i64 n, .int .u64 pt, .slice da dn dc, .slice ma mn mc] 80)) := (Below.refl _ _).alloc (Nat.le_refl _) _
  have hR : rightO 19 v i b n dn mem = (true) := by simp [rightO, looksL]
  rw [hR]
  clear hR
  go_enter Try.func115, Try.ntmps115
  go_wp2_with fail
  go_ret
  exact ⟨rfl, hb⟩

set_option maxRecDepth 100000 in
set_option maxHeartbeats 2000000 in
theorem opRight_any (k v i b n pt : Int) (da ma : Option Addr) (dn dc mn mc : Nat) (mem : List Int) (w : World) (hm : Is .i64 w ma mn mem) (hmn : mn ≤ 1000000000) :
    Calls Try.prog 115 #[.agg #[.int .i64 k, .int .i64 v, .int .i64 i, .int .i64 b, .int .i64 n, .int .u64 pt, .slice da dn dc, .slice ma mn mc]] w fun e w' => e = .returned (.bool (rightO k v i b n dn mem)) ∧ Below w.heap.size w w' := by
  by_cases hk : 1 ≤ k ∧ k ≤ 19
  · rcases kinds k hk.1 hk.2 with rfl | rfl | rfl | rfl | rfl | rfl | rfl | rfl | rfl | rfl | rfl | rfl | rfl | rfl | rfl | rfl | rfl | rfl | rfl
    · exact right_1 v i b n pt da ma dn dc mn mc mem w
    · exact right_2 v i b n pt da ma dn dc mn mc mem w
    · exact right_3 v i b n pt da ma dn dc mn mc mem w
    · exact right_4 v i b n pt da ma dn dc mn mc mem w
    · exact right_5 v i b n pt da ma dn dc mn mc mem w
    · exact right_6 v i b n pt da ma dn dc mn mc mem w hm hmn
    · exact right_7 v i b n pt da ma dn dc mn mc mem w
    · exact right_8 v i b n pt da ma dn dc mn mc mem w
    · exact right_9 v i b n pt da ma dn dc mn mc mem w
    · exact right_10 v i b n pt da ma dn dc mn mc mem w
    · exact right_11 v i b n pt da ma dn dc mn mc mem w
    · exact right_12 v i b n pt da ma dn dc mn mc mem w
    · exact right_13 v i b n pt da ma dn dc mn mc mem w
    · exact right_14 v i b n pt da ma dn dc mn mc mem w
    · exact right_15 v i b n pt da ma dn dc mn mc mem w
    · exact right_16 v i b n pt da ma dn dc mn mc mem w
    · exact right_17 v i b n pt da ma dn dc mn mc mem w
    · exact right_18 v i b n pt da ma dn dc mn mc mem w
    · exact right_19 v i b n pt da ma dn dc mn mc mem w
  · have hb : Below w.heap.size w (w.alloc (.cells #[.int .i64 k, .int .i64 v, .int .i64 i, .int .i64 b, .int .i64 n, .int .u64 pt, .slice da dn dc, .slice ma mn mc] 80)) := (Below.refl _ _).alloc (Nat.le_refl _) _
    have hR : rightO k v i b n dn mem = false := by
      have hd : (decide (1 ≤ k) && decide (k ≤ 19)) = false := by
        by_cases h1 : 1 ≤ k
        · have h2 : ¬ k ≤ 19 := fun h => hk ⟨h1, h⟩
          simp [h2]
        · simp [h1]
      rw [rightO, hd]; rfl
    rw [hR]
    clear hR hm
    have n1 : (k == 1) = false := by rw [beq_eq_false_iff_ne]; omega
    have n2 : (k == 2) = false := by rw [beq_eq_false_iff_ne]; omega
    have n3 : (k == 3) = false := by rw [beq_eq_false_iff_ne]; omega
    have n4 : (k == 4) = false := by rw [beq_eq_false_iff_ne]; omega
    have n5 : (k == 5) = false := by rw [beq_eq_false_iff_ne]; omega
    have n6 : (k == 6) = false := by rw [beq_eq_false_iff_ne]; omega
    have n7 : (k == 7) = false := by rw [beq_eq_false_iff_ne]; omega
    have n8 : (k == 8) = false := by rw [beq_eq_false_iff_ne]; omega
    have n9 : (k == 9) = false := by rw [beq_eq_false_iff_ne]; omega
    have n10 : (k == 10) = false := by rw [beq_eq_false_iff_ne]; omega
    have n11 : (k == 11) = false := by rw [beq_eq_false_iff_ne]; omega
    have n12 : (k == 12) = false := by rw [beq_eq_false_iff_ne]; omega
    have n13 : (k == 13) = false := by rw [beq_eq_false_iff_ne]; omega
    have n14 : (k == 14) = false := by rw [beq_eq_false_iff_ne]; omega
    have n15 : (k == 15) = false := by rw [beq_eq_false_iff_ne]; omega
    have n16 : (k == 16) = false := by rw [beq_eq_false_iff_ne]; omega
    have n17 : (k == 17) = false := by rw [beq_eq_false_iff_ne]; omega
    have n18 : (k == 18) = false := by rw [beq_eq_false_iff_ne]; omega
    have n19 : (k == 19) = false := by rw [beq_eq_false_iff_ne]; omega
    go_enter Try.func115, Try.ntmps115
    go_wp2_with fail
    go_ret
    exact ⟨rfl, hb⟩
end Go.Proofs.Ytljbehndnledpaa
