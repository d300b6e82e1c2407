/- The walk of yesteryearlaw29.alive. No condition. -/
import Derived.Test.YtljbehndnledpaaOpRefLine
namespace Go.Proofs.Ytljbehndnledpaa
open Go.RowKit

def exLine : List UInt8 := [119, 114, 105, 116, 101, 32, 49, 32, 48, 32, 102, 102]
def exOp : PO := ⟨4, 1, 0, 0, 0, 0, [255], []⟩
theorem exRead : readO (wordsL exLine) = some exOp := by kernel_rfl
theorem exWrite : PO.line exOp = exLine := by kernel_rfl

/-- An op's own slices as slices that read. -/
theorem own_op {w : World} {B : Nat} {o : PO} {dv mv : Value} (hd : w.ownsRow B 5 1 dv o.d.length (cellsOfB o.d)) (hm : w.ownsRow B 3 1 mv o.m.length (o.m.map (.int .i64))) :
    ∃ da dc ma mc, dv = .slice da o.d.length dc ∧ mv = .slice ma o.m.length mc ∧ Bs w da o.d.length o.d ∧ Is .i64 w ma o.m.length o.m := by
  obtain ⟨da, dc, hdv, hds, -⟩ := own_sl hd
  obtain ⟨ma, mc, hmv, hms, -⟩ := own_sl hm
  refine ⟨da, dc, ma, mc, hdv, hmv, ?_, hms⟩
  unfold Bs Is
  rw [List.map_map]
  exact hds

set_option maxRecDepth 100000 in
set_option maxHeartbeats 4000000 in
theorem alive29_any (w : World) : Calls Try.prog 54 #[] w fun e w' => e = .returned (.bool true) ∧ Below w.heap.size w w' := by
  have hread := scriptRead_any ⟨#[119, 114, 105, 116, 101, 32, 49, 32, 48, 32, 102, 102]⟩ w (by show 12 ≤ _; omega)
  have hread2 : Calls Try.prog 52 #[.string ⟨#[119, 114, 105, 116, 101, 32, 49, 32, 48, 32, 102, 102]⟩] w fun e w' => ∃ (b p dc mc : Nat) (ma : Option Addr), e = .returned (.tuple #[.agg #[.int .i64 4, .int .i64 1, .int .i64 0, .int .i64 0, .int .i64 0, .int .u64 0, .slice (some ⟨b, p, none⟩) 1 dc, .slice ma 0 mc], .int .i64 0]) ∧ w'.cell? ⟨b, p, none⟩ = some (.int .u8 255) ∧ Bs w' (some ⟨b, p, none⟩) 1 [255] ∧ Is .i64 w' ma 0 [] ∧ Below w.heap.size w w' := by
    refine hread.mono ?_
    rintro e w1 ⟨hb1, ⟨hn, -⟩ | ⟨o, dv, mv, ho, rfl, hd, hm⟩⟩
    · exact absurd (exRead.symm.trans hn) (by simp)
    · obtain rfl : exOp = o := Option.some.inj (exRead.symm.trans ho)
      obtain ⟨da, dc, ma, mc, rfl, rfl, hds, hms⟩ := own_op hd hm
      obtain ⟨b, p, x, rfl, hx, hc⟩ := Is.cell hds 0 (by decide)
      have hx2 : x = 255 := (Option.some.inj hx).symm
      subst hx2
      exact ⟨b, p, dc, mc, ma, rfl, hc, hds, hms, hb1⟩
  have HRD := Lib.hid hread2
  clear hread hread2
  go_enter Try.func54, Try.ntmps54
  go_wp2_with fail
  refine HRD.out.mono ?_
  rintro e w1 ⟨b, p, dc, mc, ma, rfl, hc, hds, hms, hb1⟩
  have hbl : b < w1.heap.size := World.block_lt_of_cell? _ _ hc
  have hb2 : Below w1.heap.size w1 (w1.alloc (.cells #[.int .i64 4, .int .i64 1, .int .i64 0, .int .i64 0, .int .i64 0, .int .u64 0, .slice (some ⟨b, p, none⟩) 1 dc, .slice ma 0 mc] 80)) := (Below.refl _ _).alloc (Nat.le_refl _) _
  have hline := line_any 4 1 0 0 0 0 [255] [] (some ⟨b, p, none⟩) ma 1 dc 0 mc _ (Is.below hds hb2 (Nat.le_refl _)) (Is.below hms hb2 (Nat.le_refl _)) (by omega) (by omega) (by omega) (by omega)
  rw [show PO.line ⟨4, 1, 0, 0, 0, 0, [255], []⟩ = exLine from exWrite, show mkS exLine = ⟨#[119, 114, 105, 116, 101, 32, 49, 32, 48, 32, 102, 102]⟩ from rfl] at hline
  have HL := Lib.hid hline
  clear hline hds hms
  go_wp2_with fail
  refine HL.out.mono ?_
  rintro e w3 ⟨rfl, hb3⟩
  go_wp2_with fail
  go_ret
  exact ⟨rfl, (hb1.trans (hb2.mono hb1.size)).trans (hb3.mono (by have := hb1.size; simp; omega))⟩
end Go.Proofs.Ytljbehndnledpaa
