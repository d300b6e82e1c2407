/- The walk of yesteryearref13.Same at two operations that say the same. Conditions: those of the theorem. -/
import Derived.Test.YtljbehndnledpaaOpPlainRef
namespace Go.Proofs.Ytljbehndnledpaa
open Go.RowKit

set_option maxRecDepth 100000 in
set_option maxHeartbeats 8000000 in
theorem refSame_any (k v i b n pt : Int) (d : List UInt8) (m : List Int) (da ma da' ma' : Option Addr) (dn dc mn mc dc' mc' : Nat) (w : World) (hd : Bs w da dn d) (hm : Is .i64 w ma mn m) (hd' : Bs w da' dn d) (hm' : Is .i64 w ma' mn m) (hdn : dn ≤ 1000000000) (hmn : mn ≤ 1000000000) :
    Calls Try.prog 53 #[.agg #[.int .i64 k, .int .i64 v, .int .i64 i, .int .i64 b, .int .i64 n, .int .u64 pt, .slice da dn dc, .slice ma mn mc], .agg #[.int .i64 k, .int .i64 v, .int .i64 i, .int .i64 b, .int .i64 n, .int .u64 pt, .slice da' dn dc', .slice ma' mn mc']] w fun e w' => e = .returned (.bool true) ∧ Below w.heap.size w w' := by
  have hb : Below w.heap.size w ((w.alloc (.cells #[.int .i64 k, .int .i64 v, .int .i64 i, .int .i64 b, .int .i64 n, .int .u64 pt, .slice da dn dc, .slice ma mn mc] 80)).alloc (.cells #[.int .i64 k, .int .i64 v, .int .i64 i, .int .i64 b, .int .i64 n, .int .u64 pt, .slice da' dn dc', .slice ma' mn mc'] 80)) := ((Below.refl _ _).alloc (Nat.le_refl _) _).alloc (by simp) _
  have h1 := (Cells8.new w k v i b n pt (.slice da dn dc) (.slice ma mn mc)).below ((Below.refl _ _).alloc (Nat.le_refl _) (.cells #[.int .i64 k, .int .i64 v, .int .i64 i, .int .i64 b, .int .i64 n, .int .u64 pt, .slice da' dn dc', .slice ma' mn mc'] 80)) (by simp)
  have h2 := Cells8.new (w.alloc (.cells #[.int .i64 k, .int .i64 v, .int .i64 i, .int .i64 b, .int .i64 n, .int .u64 pt, .slice da dn dc, .slice ma mn mc] 80)) k v i b n pt (.slice da' dn dc') (.slice ma' mn mc')
  rw [show (w.alloc (.cells #[.int .i64 k, .int .i64 v, .int .i64 i, .int .i64 b, .int .i64 n, .int .u64 pt, .slice da dn dc, .slice ma mn mc] 80)).heap.size = w.heap.size + 1 by simp] at h2
  have hs : ((w.alloc (.cells #[.int .i64 k, .int .i64 v, .int .i64 i, .int .i64 b, .int .i64 n, .int .u64 pt, .slice da dn dc, .slice ma mn mc] 80)).alloc (.cells #[.int .i64 k, .int .i64 v, .int .i64 i, .int .i64 b, .int .i64 n, .int .u64 pt, .slice da' dn dc', .slice ma' mn mc'] 80)).heap.size = w.heap.size + 2 := by simp
  have HD := Lib.hid hd
  have HM := Lib.hid hm
  have HD' := Lib.hid hd'
  have HM' := Lib.hid hm'
  have H1 := Lib.hid h1
  have H2 := Lib.hid h2
  have HS := Lib.hid hs
  clear hd hm hd' hm' h1 h2 hs
  go_enter Try.func53, Try.ntmps53
  go_wp2_with fail
  generalize ((w.alloc (.cells #[.int .i64 k, .int .i64 v, .int .i64 i, .int .i64 b, .int .i64 n, .int .u64 pt, .slice da dn dc, .slice ma mn mc] 80)).alloc (.cells #[.int .i64 k, .int .i64 v, .int .i64 i, .int .i64 b, .int .i64 n, .int .u64 pt, .slice da' dn dc', .slice ma' mn mc'] 80)) = w1 at *
  have hA : w.heap.size < w1.heap.size := by rw [HS.out]; omega
  have hA' : w.heap.size + 1 < w1.heap.size := by rw [HS.out]; omega
  go_loopw [5] (fun u5 wr => ∃ j : Nat, j ≤ dn ∧ u5 = .int .i64 j ∧ Below w1.heap.size w1 wr) (fun u5 _ => dn - (intOf u5).toNat)
  case atStart => exact ⟨0, by omega, rfl, Below.refl _ _⟩
  case round =>
    obtain ⟨j, hj, rfl, hbw⟩ := hrel
    obtain ⟨-, -, -, -, -, -, c6, c7⟩ := H1.out.below hbw hA
    obtain ⟨-, -, -, -, -, -, e6, e7⟩ := H2.out.below hbw hA'
    by_cases hlt : j < dn
    · have hj1 : (j : Int) < (dn : Int) := by omega
      have hj0 : (0 : Int) ≤ (j : Int) := by omega
      obtain ⟨B, o, x, rfl, hx, hck⟩ := Is.cell (Is.below HD.out (hb.trans (hbw.mono hb.size)) (Nat.le_refl _)) j hlt
      obtain ⟨B', o', x', rfl, hx', hck'⟩ := Is.cell (Is.below HD'.out (hb.trans (hbw.mono hb.size)) (Nat.le_refl _)) j hlt
      obtain rfl : x = x' := Option.some.inj (hx.symm.trans hx')
      clear hx hx'
      go_wp2_with fail
      go_quiet (fail)
      all_goals
        have hbd := fun nq => below_drewN hbw nq
        go_wp2_with fail
        exact ⟨⟨j + 1, by omega, by go_num, hbd _⟩, by simp [intOf]; omega⟩
    · obtain rfl : j = dn := by omega
      go_wp2_with fail
      have hbw1 := hbw
      go_loopw [6] (fun u6 wr => ∃ t : Nat, t ≤ mn ∧ u6 = .int .i64 t ∧ Below w1.heap.size w1 wr) (fun u6 _ => mn - (intOf u6).toNat)
      case atStart => exact ⟨0, by omega, rfl, hbw1⟩
      case round =>
        obtain ⟨t, ht, rfl, hbw⟩ := hrel
        obtain ⟨-, -, -, -, -, -, c6, c7⟩ := H1.out.below hbw hA
        obtain ⟨-, -, -, -, -, -, e6, e7⟩ := H2.out.below hbw hA'
        by_cases hlt2 : t < mn
        · have hj1 : (t : Int) < (mn : Int) := by omega
          have hj0 : (0 : Int) ≤ (t : Int) := by omega
          obtain ⟨B, o, x, rfl, hx, hck⟩ := Is.cell (Is.below HM.out (hb.trans (hbw.mono hb.size)) (Nat.le_refl _)) t hlt2
          obtain ⟨B', o', x', rfl, hx', hck'⟩ := Is.cell (Is.below HM'.out (hb.trans (hbw.mono hb.size)) (Nat.le_refl _)) t hlt2
          obtain rfl : x = x' := Option.some.inj (hx.symm.trans hx')
          clear hx hx'
          go_wp2_with fail
          go_quiet (fail)
          all_goals
            have hbd := fun nq => below_drewN hbw nq
            go_wp2_with fail
            exact ⟨⟨t + 1, by omega, by go_num, hbd _⟩, by simp [intOf]; omega⟩
        · obtain rfl : t = mn := by omega
          go_wp2_with fail
          go_ret
          exact ⟨rfl, hb.trans (hbw.mono hb.size)⟩
end Go.Proofs.Ytljbehndnledpaa
