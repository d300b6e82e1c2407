/- bitmap.Map.All as a range over a function. Conditions: those of each theorem. -/
import Derived.RangeFuncNested
import Derived.RangeFuncBound
import Derived.RangeFuncCalls
import Derived.RangeFuncLeaves
import Derived.RangeFuncBox
import Derived.Shelf.RegionOpen
import Derived.WalkKit
import Derived.OwnWalkIn
import Derived.TacticsInMore
import Derived.LoopNIn
import Derived.LoopIn
import Derived.Test.YtljbehndnledpaaLedgerRuns2
namespace Go.Proofs.Ytljbehndnledpaa
open Go.RowKit Go.Shelf
attribute [local go_sem] Oper.semAt_some

theorem Bmap.under {w w' : World} {C m g n : Nat} {T : List UInt8} (h : Bmap w m g n T) (hb : Below C w w') (hm : m < C) (hg : g < C) : Bmap w' m g n T :=
  ⟨by rw [hb.block m hm]; exact h.head, by rw [hb.block g hg]; exact h.row, h.len, h.lt⟩

/-- What a round keeps: what lay below, and a box. -/
def KpA (n₀ B : Nat) (v : Value) (W W' : World) : Prop := Below n₀ W W' ∧ (W.cell? ⟨B, 0, none⟩ = some v → W'.cell? ⟨B, 0, none⟩ = some v)
theorem KpA.trans {n₀ B : Nat} {v : Value} {X Y Z : World} (h : KpA n₀ B v X Y) (k : KpA n₀ B v Y Z) : KpA n₀ B v X Z := ⟨h.1.trans k.1, fun c => k.2 (h.2 c)⟩
theorem KpA.book {w : World} {n₀ B : Nat} {v : Value} (hn : n₀ ≤ w.heap.size) (W : World) (l : Nat) (o o' : Obj) (hl : w.heap.size ≤ l) (hlo : W.heap[l]? = some o) (hc : o.isCells = false) (hk : o.isWalk = false) : KpA n₀ B v W (W.putObj l o') :=
  ⟨belowK_b hn W l o o' hl hlo hc hk, fun c => by
    by_cases e : B = l
    · subst e
      simp only [World.cell?, hlo] at c
      cases o <;> simp_all [Obj.isCells]
    · rw [← c]
      unfold World.cell?
      rw [World.putObj_heap_other e]⟩

set_option maxRecDepth 100000 in
set_option maxHeartbeats 2000000 in
theorem all1_in (k : Nat) (hk : 3 ≤ k) (l Bn n₀ m g n : Nat) (T : List UInt8) (hn : n ≤ 1000000) (J Jx : List {j : Nat // j < n} → World → Prop)
    (hY : ∀ pre x W, J pre W → pre.length < n → YieldAt Fence.wide (k - 1) Try.prog l #[.int .i64 (x.1 : Int)] W fun e W' =>
      (e = .returned (.bool true) ∧ J (pre ++ [x]) W' ∧ KpA n₀ Bn (.pointer (some ⟨m, 0, none⟩)) W W') ∨ (e = .returned (.bool false) ∧ Jx (pre ++ [x]) W'))
    (W : World) (hm : m < n₀) (hg : g < n₀) (hB : W.cell? ⟨Bn, 0, none⟩ = some (.pointer (some ⟨m, 0, none⟩))) (hbm : Bmap W m g n T) (h0 : J [] W) :
    CallsIn Fence.wide k Try.prog 209 #[.func (.yield l) #[] #[], .pointer (some ⟨Bn, 0, none⟩)] W fun e W' => (∃ v, e = .returned v) ∧
      ((∃ ys : List {j : Nat // j < n}, ys.map (·.1) = (List.range n).filter (bitOf T) ∧ J ys W') ∨ (∃ pre, True ∧ Jx pre W')) := by
  have c1 : W.cell? ⟨m, 1, none⟩ = some (.int .i64 (n : Int)) := by rw [cell_of_row W m 1 _ 211 (0, 0) hbm.head]; rfl
  have HBM := Lib.hid hbm
  clear hbm
  refine callsIn_of_wp Try.func209 rfl trivial ?_ rfl
  simp only [Try.ntmps209, List.size_toArray, List.length_cons, List.length_nil, Nat.reduceAdd, Nat.reduceSub, Array.replicate_succ, Array.replicate_zero, List.push_toArray, List.append_toArray, List.nil_append, List.cons_append]
  gi_wp2
  gi_loopw [8] (fun u8 wr => ∃ (j : Nat) (pre : List {j : Nat // j < n}), j ≤ n ∧ u8 = .int .i64 j ∧ pre.map (·.1) = (List.range j).filter (bitOf T) ∧ J pre wr ∧ KpA n₀ Bn (.pointer (some ⟨m, 0, none⟩)) W wr)
    (fun u8 _ => n - (intOf u8).toNat)
  case atStart => exact ⟨0, [], by omega, rfl, rfl, h0, Below.refl _ _, fun c => c⟩
  case round =>
    obtain ⟨j, pre, hj, rfl, hpre, hJs, hbw⟩ := hrel
    by_cases hlt : j < n
    · have hB' := hbw.2 hB
      have hhas := bmHas_any m g n T j wr (HBM.out.under hbw.1 hm hg) hlt hn
      have hlen : pre.length ≤ j := by
        have := congrArg List.length hpre
        rw [List.length_map] at this
        rw [this]
        exact Nat.le_trans (List.length_filter_le _ _) (by simp)
      have hj0 : (0 : Int) ≤ (j : Int) := by omega
      have hj1 : (j : Int) < (n : Int) := by omega
      have hr1 : (List.range (j + 1)).filter (bitOf T) = (List.range j).filter (bitOf T) ++ (if bitOf T j then [j] else []) := by
        rw [List.range_succ, List.filter_append]
        congr 1
        cases h : bitOf T j <;> simp [h]
      cases hb : bitOf T j with
      | false =>
        rw [hb] at hhas hr1
        have HAS := Lib.hid hhas
        clear hhas
        have HR := Lib.hid hr1
        have HP := Lib.hid hpre
        clear hr1 hpre hb
        gi_wp2_with (refine ⟨trivial, fun _ => by omega, ?_⟩; refine (callsIn_wide.2 HAS.out).mono ?_; rintro e W2 ⟨rfl, rfl⟩)
        refine ⟨fun _ h => (by cases h), ?_⟩
        gi_wp2
        go_roundw
        case rel => exact ⟨j + 1, pre, by omega, by go_num, by rw [HR.out, HP.out]; simp, hJs, hbw⟩
        case measure => simp [intOf]; omega
      | true =>
        rw [hb] at hhas hr1
        obtain ⟨fn, tmps, assign, body, hy, hR⟩ := hY pre ⟨j, hlt⟩ wr hJs (by omega)
        dsimp only at hy
        have HAS := Lib.hid hhas
        clear hhas
        have HR := Lib.hid hr1
        have HP := Lib.hid hpre
        clear hr1 hpre hb
        gi_wp2_with (refine ⟨trivial, fun _ => by omega, ?_⟩; refine (callsIn_wide.2 HAS.out).mono ?_; rintro e W2 ⟨rfl, rfl⟩)
        refine ⟨fun _ => by omega, hR.mono ?_⟩
        rintro e W3 (⟨rfl, hJ3, hk3⟩ | ⟨rfl, hJx3⟩)
        · gi_wp2
          go_roundw
          case rel => exact ⟨j + 1, pre ++ [⟨j, hlt⟩], by omega, by go_num, by rw [HR.out, List.map_append, HP.out]; simp, hJ3, hbw.trans hk3⟩
          case measure => simp [intOf]; omega
        · gi_wp2
          refine bodyPost_ret (results_none rfl _ _ _) rfl ?_
          exact ⟨⟨_, rfl⟩, .inr ⟨_, trivial, hJx3⟩⟩
    · obtain rfl : j = n := by omega
      gi_wp2
      go_end0
      exact ⟨⟨_, rfl⟩, .inl ⟨pre, hpre, hJs⟩⟩

theorem all_stops (k : Nat) (hk : 3 ≤ k) (B m g n : Nat) (T : List UInt8) (hn : n ≤ 1000000) (w : World) (n₀ : Nat) (h0 : n₀ ≤ w.heap.size) (hBn : B < w.heap.size) (hm : m < n₀) (hg : g < n₀)
    (hB : w.cell? ⟨B, 0, none⟩ = some (.pointer (some ⟨m, 0, none⟩))) (hbm : Bmap w m g n T) :
    SeqStopsK Fence.wide k Try.prog 209 #[.pointer (some ⟨B, 0, none⟩)] (fun x : {j : Nat // j < n} => #[Value.int .i64 (x.1 : Int)]) (KpA n₀ B (.pointer (some ⟨m, 0, none⟩))) (fun ys => ys.map (·.1) = (List.range n).filter (bitOf T)) (fun _ => True) n w := fun l J Jx W hW _ _ hY hj0 =>
  all1_in k hk l B n₀ m g n T hn J Jx hY W hm hg ((hW.cell (p := ⟨B, 0, none⟩) hBn).trans hB) (hbm.under hW (by omega) (by omega)) hj0

set_option maxHeartbeats 1000000 in
theorem all_any (p : Option Addr) (w : World) :
    Calls Try.prog 179 #[.pointer p] w fun e w' => e = .returned (.func (.func 209) #[] #[.pointer (some ⟨w.heap.size, 0, none⟩)]) ∧ w' = w.alloc (.cells #[.pointer p] 116) := by
  go_enter Try.func179, Try.ntmps179
  go_wp2_with fail
  go_ret
  exact ⟨rfl, rfl⟩
end Go.Proofs.Ytljbehndnledpaa
