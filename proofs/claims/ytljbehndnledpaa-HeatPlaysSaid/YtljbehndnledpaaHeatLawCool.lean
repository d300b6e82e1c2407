/- The walks of slices.Clone at counts and of yesteryearlaw57.cool. Conditions: those of each theorem. -/
import Derived.Test.YtljbehndnledpaaHeatRow
import Derived.Test.YtljbehndnledpaaHeatStep
import Derived.Test.YtljbehndnledpaaStepApp
namespace Go.Proofs.Ytljbehndnledpaa
open Go.RowKit

theorem HRow.list {w : World} {a : Option Addr} {n : Nat} {l : List Hs} (h : HRow w a n l) (i : Nat) (hi : i < n) : ∃ b o p, a = some ⟨b, o, none⟩ ∧ l[i]? = some p ∧ p ∈ l ∧ w.cell? ⟨b, o + i * 3, none⟩ = some (.int .i64 p.1.1) ∧ w.cell? ⟨b, o + i * 3 + 1, none⟩ = some (.int .i64 p.1.2) ∧ w.cell? ⟨b, o + i * 3 + 2, none⟩ = some (.int .i64 p.2) := by
  have hl : i < l.length := by rw [h.1]; exact hi
  obtain ⟨b, o, ha, h1, h2, h3⟩ := h.2 i l[i] (List.getElem?_eq_getElem hl)
  exact ⟨b, o, l[i], ha, List.getElem?_eq_getElem hl, List.getElem_mem hl, h1, h2, h3⟩

set_option maxRecDepth 100000 in
set_option maxHeartbeats 4000000 in
theorem cloneH_nil (w : World) : Calls Try.prog 127 #[.slice none 0 0] w fun e w' => e = .returned (.slice none 0 0) ∧ w' = w := by
  have q : (binOp .eql 104 (.slice none 0 0) (.slice none 0 0)).run Try.prog w = .ok (.bool true) w := by kernel_rfl
  go_enter Try.func127, Try.ntmps127
  go_wp2_with fail
  go_ret
  exact ⟨rfl, rfl⟩

set_option maxRecDepth 100000 in
set_option maxHeartbeats 4000000 in
theorem cloneH_some (b o n cap : Nat) (l : List Hs) (w : World) (h : HRow w (some ⟨b, o, none⟩) n l) (hn : n ≤ 1000000) :
    Calls Try.prog 127 #[.slice (some ⟨b, o, none⟩) n cap] w fun e w' => ∃ v, e = .returned v ∧ OwnH w' w.heap.size v l ∧ Below w.heap.size w w' := by
  have hb0 : Below w.heap.size w (w.alloc (.cells #[] 111)) := (Below.refl _ _).alloc (Nat.le_refl _) _
  have hown : OwnH (w.alloc (.cells #[] 111)) w.heap.size (.slice (some ⟨w.heap.size, 0, none⟩) 0 0) [] := World.ownsRow_made w #[] 0 (Nat.le_refl _) (Nat.zero_le _) (by simp)
  obtain ⟨v', w', hap, ho, hg⟩ := hown.app cap (h.below hb0 (Nat.le_refl _)) (by simp; omega) hb0.size
  have hb := Below.own hb0 hown hg (Nat.le_refl _) hb0.size
  have q22 : (binOp .eql 104 (.slice (some ⟨b, o, none⟩) n cap) (.slice none 0 0)).run Try.prog w = .ok (.bool false) w := Lib.run_eql_slice_nil w _ _ _ n cap 0 0 Try.underlying104
  have HO := Lib.hid ho
  clear ho hown
  go_enter Try.func127, Try.ntmps127
  go_wp2_with (at_builtin; refine wpList_append_run rfl _ _ _ rfl hap ?_)
  go_ret
  exact ⟨v', rfl, HO.out, hb⟩

theorem cloneH_any {B : Nat} (v : Value) (l : List Hs) (w : World) (h : OwnH w B v l) (hn : l.length ≤ 1000000) :
    Calls Try.prog 127 #[v] w fun e w' => ∃ v', e = .returned v' ∧ OwnH w' w.heap.size v' l ∧ Below w.heap.size w w' := by
  rcases h.2 with ⟨rfl, h0⟩ | ⟨g, cap, cur, rfl, -⟩
  · have : l = [] := List.eq_nil_of_length_eq_zero h0
    subst this
    refine (cloneH_nil w).mono ?_
    rintro e w' ⟨rfl, rfl⟩
    exact ⟨_, rfl, World.ownsRow_nil _ _ _ _, Below.refl _ _⟩
  · obtain ⟨a, c, he, hr, -⟩ := h.row
    cases he
    exact cloneH_some g 0 l.length cap l w hr hn

theorem coolS_snoc (l : List Hs) (p : Hs) : coolS (l ++ [p]) = coolS l ++ (if p.2 < 2 then [] else [(p.1, p.2 / 2)]) := by
  unfold coolS
  rw [List.filterMap_append]
  congr 1
  by_cases h : p.2 < 2 <;> simp [h]
theorem coolS_len (l : List Hs) : (coolS l).length ≤ l.length := List.length_filterMap_le _ _

set_option maxRecDepth 100000 in
set_option maxHeartbeats 4000000 in
theorem lawCool_any (a : Option Addr) (n c : Nat) (l : List Hs) (w : World) (h : HRow w a n l) (hn : n ≤ 1000000) (h0 : ∀ p ∈ l, 0 ≤ p.2 ∧ p.2 ≤ 1000000000000) :
    Calls Try.prog 63 #[.slice a n c] w fun e w' => ∃ v, e = .returned v ∧ OwnH w' w.heap.size v (coolS l) ∧ Below w.heap.size w w' := by
  have hlen := h.1
  have HH := Lib.hid h
  clear h
  go_enter Try.func63, Try.ntmps63
  go_wp2_with fail
  go_loopw [3, 4] (fun u3 u4 wr => ∃ j : Nat, j ≤ n ∧ u4 = .int .i64 j ∧ OwnH wr w.heap.size u3 (coolS (l.take j)) ∧ Below w.heap.size w wr) (fun _ u4 _ => n - (intOf u4).toNat)
  case atStart => exact ⟨0, by omega, rfl, World.ownsRow_nil _ _ _ _, Below.refl _ _⟩
  case round =>
    obtain ⟨j, hj, rfl, hown, hbw⟩ := hrel
    by_cases hlt : j < n
    · obtain ⟨b, o, p, rfl, hp, hmem, d0, d1, d2⟩ := (HH.out.below hbw (Nat.le_refl _)).list j hlt
      have hnx : coolS (l.take (j + 1)) = coolS (l.take j) ++ (if p.2 < 2 then [] else [(p.1, p.2 / 2)]) := by
        rw [← coolS_snoc, List.take_add_one, hp]; rfl
      have hi1 : (j : Int) < (n : Int) := by omega
      have hp0 := h0 p hmem
      have hlw : o + j * 3 + 2 = o + (j * 3 + 2) := by omega
      obtain ⟨⟨x, y⟩, cn⟩ := p
      simp only at d0 d1 d2 hnx hp0
      have d1' := d1
      have d2' := d2
      rw [show o + j * 3 + 1 = o + (j * 3 + 1) by omega] at d1'
      rw [hlw] at d2'
      clear hlw
      by_cases h2 : cn < 2
      · rw [if_pos h2, List.append_nil] at hnx
        have HO := Lib.hid hown
        clear hown
        go_wp2_with fail
        go_roundw
        case rel => exact ⟨j + 1, by omega, by go_num, by rw [hnx]; exact HO.out, hbw⟩
        case measure => simp [intOf]; omega
      · rw [if_neg h2] at hnx
        have hq : cn.tdiv 2 = cn / 2 := by rw [Int.tdiv_eq_ediv_of_nonneg hp0.1]
        have hq1 : IntKind.i64.wrap (cn / 2) = cn / 2 := IntWalk.i64_in _ (by omega)
        have hownd : OwnH wr.drew w.heap.size u3 (coolS (l.take j)) := hown
        have hcl := coolS_len (l.take j)
        have htl : (l.take j).length ≤ j := by rw [List.length_take]; omega
        obtain ⟨v', w', hap, ho', hg⟩ := hownd.push ((x, y), cn / 2) (by omega) hbw.size
        simp only at hap
        rw [← hnx] at ho'
        have hbw' : Below w.heap.size w w' := Below.own (show Below w.heap.size w wr.drew from ⟨hbw.os, hbw.tape, hbw.output, hbw.size, hbw.block⟩) hownd hg (Nat.le_refl _) hbw.size
        have HO := Lib.hid ho'
        clear hown hownd ho' hg
        go_wp2_with fail
        go_region_law (first | (refine step_append_run (o := ⟨some 31, _, _, _, _, _⟩) rfl _ _ _ rfl hap ?_))
        all_goals
          go_wp2_with fail
          go_roundw
          case rel => exact ⟨j + 1, by omega, by go_num, HO.out, hbw'⟩
          case measure => simp [intOf]; omega
    · obtain rfl : j = n := by omega
      have e : l.take j = l := List.take_of_length_le (by omega)
      rw [e] at hown
      go_wp2_with fail
      go_ret
      exact ⟨_, rfl, hown, hbw⟩
end Go.Proofs.Ytljbehndnledpaa
