/- slices.Backward over what has been written: the walks. Conditions: those of each theorem. -/
import Derived.RangeFuncNested
import Derived.RangeFuncBound
import Derived.RangeFuncCalls
import Derived.RangeFuncLeaves
import Derived.Shelf.Abstract
import Derived.Shelf.RegionOpen
import Derived.WalkKit
import Derived.OwnWalkIn
import Derived.TacticsInMore
import Derived.LoopNIn
import Derived.LoopIn
import Derived.Test.YtljbehndnledpaaDiskWrite
namespace Go.Proofs.Ytljbehndnledpaa
open Go.RowKit Go.Shelf
attribute [local go_sem] Oper.semAt_some

set_option maxRecDepth 100000 in
set_option maxHeartbeats 2000000 in
theorem back1_in (F : Fence) (n : Nat) (h189 : F.fn 189) (hro : F.round = none) (hn : 1 ≤ n) (l B n₀ L N cap : Nat) (a : Option Addr) (A : Nat → Int) (V : Nat → Value) (hN : N ≤ 1000000) (ha : 0 < N → a = some ⟨L, 0, none⟩) (hL : L < n₀) (hBn : B < n₀) (J Jx : List {j : Nat // j < N} → World → Prop)
    (hY : ∀ pre x W, J pre W → pre.length < N → YieldAt F (n - 1) Try.prog l #[.int .i64 (x.1 : Int), .agg #[.int .i64 (A x.1), V x.1]] W fun e W' =>
      (e = .returned (.bool true) ∧ J (pre ++ [x]) W' ∧ Below n₀ W W') ∨ (e = .returned (.bool false) ∧ Jx (pre ++ [x]) W'))
    (W : World) (hB : W.cell? ⟨B, 0, none⟩ = some (.slice a N cap)) (hc : ∀ j, j < N → W.cell? ⟨L, j * 2, none⟩ = some (.int .i64 (A j)) ∧ W.cell? ⟨L, j * 2 + 1, none⟩ = some (V j)) (h0 : J [] W) :
    CallsIn F n Try.prog 189 #[.func (.yield l) #[] #[], .pointer (some ⟨B, 0, none⟩)] W fun e W' => (∃ v, e = .returned v) ∧
      ((∃ ys, (∀ j : {j : Nat // j < N}, j ∈ ys) ∧ J ys W') ∨ (∃ pre, True ∧ Jx pre W')) := by
  refine callsIn_of_wp Try.func189 rfl h189 ?_ hro
  simp only [Try.ntmps189, List.size_toArray, List.length_cons, List.length_nil, Nat.reduceAdd, Nat.reduceSub, Array.replicate_succ, Array.replicate_zero, List.push_toArray, List.append_toArray, List.nil_append, List.cons_append]
  gi_wp2
  gi_loopw [3] (fun u3 wr => (∃ j : Nat, j < N ∧ u3 = .int .i64 j ∧ ∃ pre : List {j : Nat // j < N}, pre.length + (j + 1) = N ∧ (∀ x : {j : Nat // j < N}, j < x.1 → x ∈ pre) ∧ J pre wr ∧ Below n₀ W wr) ∨ (u3 = .int .i64 (-1) ∧ ∃ pre : List {j : Nat // j < N}, (∀ x, x ∈ pre) ∧ J pre wr))
    (fun u3 _ => (intOf u3 + 1).toNat)
  case atStart =>
    by_cases h : N = 0
    · subst h
      exact .inr ⟨rfl, [], fun x => absurd x.2 (by omega), h0⟩
    · exact .inl ⟨N - 1, by omega, by congr 1; omega, [], by simp; omega, fun x hx => by have := x.2; omega, h0, Below.refl _ _⟩
  case round =>
    rcases hrel with ⟨j, hj, rfl, pre, hlen, hmem, hJs, hnx⟩ | ⟨rfl, pre, hmem, hJs⟩
    · have haa := ha (by omega)
      subst haa
      have hB' := (hnx.cell (p := ⟨B, 0, none⟩) hBn).trans hB
      have c0 := (hnx.cell (p := ⟨L, j * 2, none⟩) hL).trans (hc j hj).1
      have c1 := (hnx.cell (p := ⟨L, j * 2 + 1, none⟩) hL).trans (hc j hj).2
      obtain ⟨fn, tmps, assign, body, hy, hR⟩ := hY pre ⟨j, hj⟩ wr hJs (by omega)
      dsimp only at hy
      have hj0 : (0 : Int) ≤ (j : Int) := by omega
      have hj1 : (j : Int) < (N : Int) := by omega
      gi_wp2
      refine hR.mono ?_
      rintro e W3 (⟨rfl, hJ3, hk3⟩ | ⟨rfl, hJx3⟩)
      · gi_wp2
        go_roundw
        case rel =>
          cases j with
          | zero =>
            refine .inr ⟨by go_num, pre ++ [⟨0, hj⟩], fun x => ?_, hJ3⟩
            by_cases hx : 0 < x.1
            · exact List.mem_append_left _ (hmem x hx)
            · exact List.mem_append_right _ (by simp; exact Subtype.ext (by show x.1 = 0; omega))
          | succ j =>
            refine .inl ⟨j, by omega, by go_num, pre ++ [⟨j + 1, hj⟩], by simp; omega, fun x hx => ?_, hJ3, hnx.trans hk3⟩
            by_cases hx1 : j + 1 < x.1
            · exact List.mem_append_left _ (hmem x hx1)
            · exact List.mem_append_right _ (by simp; exact Subtype.ext (by show x.1 = j + 1; omega))
        case measure => simp [intOf]
      · gi_wp2
        refine bodyPost_ret (results_none rfl _ _ _) rfl ?_
        exact ⟨⟨_, rfl⟩, .inr ⟨_, trivial, hJx3⟩⟩
    · gi_wp2
      go_end0
      exact ⟨⟨_, rfl⟩, .inl ⟨pre, hmem, hJs⟩⟩

theorem back_stops (F : Fence) (n : Nat) (h189 : F.fn 189) (hro : F.round = none) (hn : 1 ≤ n) (B L N cap : Nat) (a : Option Addr) (A : Nat → Int) (V : Nat → Value) (hN : N ≤ 1000000) (ha : 0 < N → a = some ⟨L, 0, none⟩) (w : World) (hL : L < w.heap.size) (hBn : B < w.heap.size)
    (hB : w.cell? ⟨B, 0, none⟩ = some (.slice a N cap)) (hc : ∀ j, j < N → w.cell? ⟨L, j * 2, none⟩ = some (.int .i64 (A j)) ∧ w.cell? ⟨L, j * 2 + 1, none⟩ = some (V j)) :
    SeqStopsK F n Try.prog 189 #[.pointer (some ⟨B, 0, none⟩)] (fun x : {j : Nat // j < N} => #[Value.int .i64 (x.1 : Int), .agg #[.int .i64 (A x.1), V x.1]]) (Below w.heap.size) (fun ys => ∀ j : {j : Nat // j < N}, j ∈ ys) (fun _ => True) N w := fun l J Jx W hW _ _ hY h0 =>
  back1_in F n h189 hro hn l B w.heap.size L N cap a A V hN ha hL hBn J Jx hY W ((hW.cell (p := ⟨B, 0, none⟩) hBn).trans hB) (fun j hj => ⟨(hW.cell (p := ⟨L, j * 2, none⟩) hL).trans (hc j hj).1, (hW.cell (p := ⟨L, j * 2 + 1, none⟩) hL).trans (hc j hj).2⟩) h0

set_option maxHeartbeats 1000000 in
theorem backward_any (a : Option Addr) (len cap : Nat) (w : World) :
    Calls Try.prog 156 #[.slice a len cap] w fun e w' => e = .returned (.func (.func 189) #[] #[.pointer (some ⟨w.heap.size, 0, none⟩)]) ∧ w' = w.alloc (.cells #[.slice a len cap] 175) := by
  go_enter Try.func156, Try.ntmps156
  go_wp2_with fail
  go_ret
  exact ⟨rfl, rfl⟩
end Go.Proofs.Ytljbehndnledpaa
