/- The walk of yesteryearlaw52.alive. -/
import Derived.Test.YtljbehndnledpaaExportGet
import Derived.Laws.OwnMore
namespace Go.Proofs.Ytljbehndnledpaa
open Go.RowKit

set_option maxRecDepth 100000 in
theorem pack_64 : packL (List.replicate 64 0) = [191] := by
  rw [packL_two _ (by decide)]
  decide

set_option maxRecDepth 100000 in
theorem zeros_64 (w : World) : ∃ w', (Instr.makeSlice 37 (.int .i64 64) (.int .i64 64)).run Try.prog w = .ok (.slice (some ⟨w.heap.size, 0, none⟩) 64 64) w' ∧ Bs w' (some ⟨w.heap.size, 0, none⟩) 64 (List.replicate 64 0) ∧ w.grownBy w' none := by
  obtain ⟨i0, hi, hz0, hz1, hz2⟩ := info_parts info5
  obtain ⟨w', hr, ho, hg⟩ := run_make_full (P := Try.prog) (w := w) w.heap.size 37 5 i0 (.int .u8 0) 1 Try.underlying37 hi hz0 hz1 .i64 .i64 64 (by rw [hz2]; omega) (by unfold maxLen; omega) (Nat.le_refl _)
  have e : (madeCells (Value.int .u8 0).cells (64 * 1)).toList = cellsOfB (List.replicate 64 0) := by kernel_rfl
  rw [e] at ho
  obtain ⟨a, c, he, hb, _⟩ := own_bs ho
  cases he
  exact ⟨w', hr, hb, hg⟩

set_option maxRecDepth 100000 in
set_option maxHeartbeats 400000 in
theorem alive_any (w : World) : Calls Try.prog 39 #[] w fun e w' => e = .returned (.bool true) ∧ Below w.heap.size w w' := by
  go_enter Try.func39, Try.ntmps39
  go_wp2_with fail
  refine (put_any 0 none 0 0 [] _ (Bs.none' _) (by omega)).mono ?_
  rintro e w1 ⟨hb1, h1⟩
  have h1' : e = .returned (.tuple #[.slice none 0 0, .int .i64 10]) := by
    rcases h1 with ⟨_, h⟩ | ⟨h, _⟩
    · exact h
    · cases h
  subst h1'
  clear h1
  obtain ⟨w2, hmk, hbz, hgr⟩ := zeros_64 w1
  have hb2 : Below w.heap.size w w2 := hb1.grown hgr hb1.size (fun k hk => by cases hk)
  have HZ := Lib.hid hbz
  clear hbz hgr
  go_wp2_with fail
  refine (put_any 1 (some ⟨w1.heap.size, 0, none⟩) 64 64 (List.replicate 64 0) w2 HZ.out (by omega)).mono ?_
  clear hmk HZ
  rintro e w3 ⟨hb3, h3⟩
  have h3' : ∃ v, e = .returned (.tuple #[v, .int .i64 0]) ∧ w3.ownsRow w2.heap.size 5 1 v 2 (cellsOfB [1, 191]) := by
    rcases h3 with ⟨h, _⟩ | ⟨_, v, he, ho⟩
    · cases h
    · rw [pack_64] at ho; exact ⟨v, he, ho⟩
  clear h3
  obtain ⟨v, rfl, ho⟩ := h3'
  obtain ⟨a3, cap3, rfl, hbs, _⟩ := own_bs ho
  have hb4 := hb2.trans (hb3.mono hb2.size)
  clear ho hb3 hb2
  have HS := Lib.hid hbs
  clear hbs
  go_wp2_with fail
  have hq : Bs (w3.alloc (.cells #[.int .u8 1, .int .u8 191] 5)) (some ⟨w3.heap.size, 0, none⟩) 2 [1, 191] := by
    refine Is.mk' (by simp) fun i hi => ?_
    match i, hi with
    | 0, _ => simp
    | 1, _ => simp
  have hp : Bs (w3.alloc (.cells #[.int .u8 1, .int .u8 191] 5)) a3 2 [1, 191] := HS.out.below ((Below.refl w3.heap.size w3).alloc (Nat.le_refl _) _) (Nat.le_refl _)
  refine (bytesEq_any a3 _ 2 2 cap3 2 [1, 191] [1, 191] _ hp hq).mono ?_
  rintro e w5 ⟨rfl, rfl⟩
  have hb5 := hb4.alloc hb4.size (.cells #[.int .u8 1, .int .u8 191] 5)
  clear hq hp HS
  go_wp2_with fail
  go_ret
  exact ⟨rfl, hb5⟩
end Go.Proofs.Ytljbehndnledpaa
