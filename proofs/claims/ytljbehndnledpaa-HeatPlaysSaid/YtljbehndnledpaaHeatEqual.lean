/- The walk of slices.Equal at counts. Conditions: those of each theorem. -/
import Derived.Test.YtljbehndnledpaaHeatEq
namespace Go.Proofs.Ytljbehndnledpaa
open Go.RowKit

set_option maxRecDepth 100000 in
set_option maxHeartbeats 4000000 in
theorem equalH_any (a1 a2 : Option Addr) (n1 n2 c1 c2 : Nat) (l1 l2 : List Hs) (w : World) (h1 : HRow w a1 n1 l1) (h2 : HRow w a2 n2 l2) (hn1 : n1 ≤ 1000000) :
    Calls Try.prog 69 #[.slice a1 n1 c1, .slice a2 n2 c2] w fun e w' => e = .returned (.bool (decide (l1 = l2))) ∧ Below w.heap.size w w' := by
  have e1 := h1.1
  have e2 := h2.1
  by_cases hne : n1 = n2
  · subst hne
    have H1 := Lib.hid h1
    have H2 := Lib.hid h2
    have E1 := Lib.hid e1
    have E2 := Lib.hid e2
    clear h1 h2 e1 e2
    go_enter Try.func69, Try.ntmps69
    go_wp2_with fail
    go_loopw [13] (fun u13 wr => ∃ j : Nat, j ≤ n1 ∧ u13 = .int .i64 j ∧ l1.take j = l2.take j ∧ Below w.heap.size w wr) (fun u13 _ => n1 - (intOf u13).toNat)
    case atStart => exact ⟨0, by omega, rfl, by simp, Below.refl _ _⟩
    case round =>
      obtain ⟨j, hj, rfl, hsame, hbr⟩ := hrel
      by_cases hlt : j < n1
      · obtain ⟨b1, o1, p, rfl, hp, -, d0, d1, d2⟩ := (H1.out.below hbr (Nat.le_refl _)).list j hlt
        obtain ⟨b2, o2, q, rfl, hq, -, f0, f1, f2⟩ := (H2.out.below hbr (Nat.le_refl _)).list j hlt
        have hi1 : (j : Int) < (n1 : Int) := by omega
        obtain ⟨⟨x, y⟩, n⟩ := p
        obtain ⟨⟨u, v⟩, m⟩ := q
        simp only at d0 d1 d2 f0 f1 f2
        have d1' := d1
        have d2' := d2
        rw [show o1 + j * 3 + 1 = o1 + (j * 3 + 1) by omega] at d1'
        rw [show o1 + j * 3 + 2 = o1 + (j * 3 + 2) by omega] at d2'
        have f1' := f1
        have f2' := f2
        rw [show o2 + j * 3 + 1 = o2 + (j * 3 + 1) by omega] at f1'
        rw [show o2 + j * 3 + 2 = o2 + (j * 3 + 2) by omega] at f2'
        have hbd : Below w.heap.size w wr.drew := ⟨hbr.os, hbr.tape, hbr.output, hbr.size, hbr.block⟩
        have hqq := neq111 x y n u v m
        by_cases he : (!((x == u && y == v) && n == m)) = true
        · rw [he] at hqq
          have hno : ¬ l1 = l2 := by
            intro e
            rw [e, hq] at hp
            simp only [Option.some.injEq, Prod.mk.injEq] at hp
            obtain ⟨⟨rfl, rfl⟩, rfl⟩ := hp
            simp at he
          clear he
          go_wp2_with fail
          go_region
          all_goals
            go_wp2_with fail
            go_ret
            exact ⟨by rw [decide_eq_false hno]; rfl, hbd⟩
        · have he' : (!((x == u && y == v) && n == m)) = false := by simpa using he
          rw [he'] at hqq
          have hs : l1.take (j + 1) = l2.take (j + 1) := by
            rw [List.take_add_one, List.take_add_one, hsame, hp, hq]
            simp at he'
            obtain ⟨⟨rfl, rfl⟩, rfl⟩ := he'
            rfl
          have HS := Lib.hid hs
          clear he he' hsame hs
          go_wp2_with fail
          go_region
          all_goals
            go_wp2_with fail
            go_roundw
            case rel => exact ⟨j + 1, by omega, by go_num, HS.out, hbd⟩
            case measure => simp [intOf]; omega
      · obtain rfl : j = n1 := by omega
        have he : l1 = l2 := by
          rw [List.take_of_length_le (by have := E1.out; omega), List.take_of_length_le (by have := E2.out; omega)] at hsame
          exact hsame
        go_wp2_with fail
        go_ret
        exact ⟨by rw [decide_eq_true he]; rfl, hbr⟩
  · have hf : ¬ l1 = l2 := fun e => hne (by rw [← e1, ← e2, e])
    have hne' : ¬ (n1 : Int) = (n2 : Int) := by omega
    clear h1 h2 e1 e2
    go_enter Try.func69, Try.ntmps69
    go_wp2_with fail
    go_ret
    exact ⟨by rw [decide_eq_false hf]; rfl, Below.refl _ _⟩
end Go.Proofs.Ytljbehndnledpaa
