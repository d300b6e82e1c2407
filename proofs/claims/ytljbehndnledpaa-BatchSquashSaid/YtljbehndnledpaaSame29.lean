/- The walk of yesteryearref29.Same at two rows of operations that say the same. Conditions: those of the theorem. Printed by wip/mksame29.py. -/
import Derived.Test.YtljbehndnledpaaOpList
namespace Go.Proofs.Ytljbehndnledpaa
open Go.RowKit

theorem Ops.cells {w : World} {a : Option Addr} {n : Nat} {l : List PO} (h : Ops w a n l) (j : Nat) (q : PO) (hq : l[j]? = some q) :
    ∃ (b1 p1 : Nat) (da ma : Option Addr) (dc mc : Nat), a = some ⟨b1, p1, none⟩ ∧ (w.cell? ⟨b1, p1 + j * 8, none⟩ = some (.int .i64 q.k) ∧ w.cell? ⟨b1, p1 + j * 8 + 1, none⟩ = some (.int .i64 q.v) ∧ w.cell? ⟨b1, p1 + j * 8 + 2, none⟩ = some (.int .i64 q.i) ∧ w.cell? ⟨b1, p1 + j * 8 + 3, none⟩ = some (.int .i64 q.b) ∧ w.cell? ⟨b1, p1 + j * 8 + 4, none⟩ = some (.int .i64 q.n) ∧ w.cell? ⟨b1, p1 + j * 8 + 5, none⟩ = some (.int .u64 q.pt) ∧ w.cell? ⟨b1, p1 + j * 8 + 6, none⟩ = some (.slice da q.d.length dc) ∧ w.cell? ⟨b1, p1 + j * 8 + 7, none⟩ = some (.slice ma q.m.length mc)) ∧ Bs w da q.d.length q.d ∧ Is .i64 w ma q.m.length q.m := by
  obtain ⟨b, p, dv, mv, ha, hc, da, dc, ma, mc, rfl, rfl, h1, h2⟩ := h.2 j q hq
  exact ⟨b, p, da, ma, dc, mc, ha, ⟨hc 0 _ rfl, hc 1 _ rfl, hc 2 _ rfl, hc 3 _ rfl, hc 4 _ rfl, hc 5 _ rfl, hc 6 _ rfl, hc 7 _ rfl⟩, h1, h2⟩

set_option maxRecDepth 100000 in
set_option maxHeartbeats 16000000 in
theorem refSames_any (a a2 : Option Addr) (n c c2 : Nat) (l : List PO) (w : World) (h : Ops w a n l) (h2 : Ops w a2 n l) (hn : n ≤ 1000000000) (hl : ∀ q ∈ l, q.d.length ≤ 1000000000 ∧ q.m.length ≤ 1000000000) :
    Calls Try.prog 59 #[.slice a n c, .slice a2 n c2] w fun e w' => e = .returned (.bool true) ∧ Below w.heap.size w w' := by
  have H := Lib.hid h
  have H2 := Lib.hid h2
  have HL := Lib.hid hl
  have hll := h.1
  have HLL := Lib.hid hll
  clear h h2 hl hll
  go_enter Try.func59, Try.ntmps59
  go_wp2_with fail
  go_loopw [5] (fun u5 wr => ∃ j : Nat, j ≤ n ∧ u5 = .int .i64 j ∧ Below w.heap.size w wr) (fun u5 _ => n - (intOf u5).toNat)
  case atStart => exact ⟨0, by omega, rfl, Below.refl _ _⟩
  case round =>
    obtain ⟨j, hj, rfl, hbw⟩ := hrel
    by_cases hlt : j < n
    · obtain ⟨q, hq⟩ : ∃ q, l[j]? = some q := ⟨_, List.getElem?_eq_getElem (by rw [HLL.out]; exact hlt)⟩
      obtain ⟨hqd, hqm⟩ := HL.out q (List.mem_of_getElem? hq)
      obtain ⟨b1, p1, da, ma, dc, mc, rfl, hs1, hd1, hm1⟩ := (H.out.below hbw (Nat.le_refl _)).cells j q hq
      obtain ⟨b2, p2, da2, ma2, dc2, mc2, rfl, hs2, hd2, hm2⟩ := (H2.out.below hbw (Nat.le_refl _)).cells j q hq
      obtain ⟨c0, c1, c2, c3, c4, c5, c6, c7⟩ := hs1
      obtain ⟨e0, e1, e2, e3, e4, e5, e6, e7⟩ := hs2
      have hb1 : b1 < wr.heap.size := World.block_lt_of_cell? _ _ c0
      have hb2 : b2 < wr.heap.size := World.block_lt_of_cell? _ _ e0
      have hj0 : (0 : Int) ≤ (j : Int) := by omega
      have hj1 : (j : Int) < (n : Int) := by omega
      have HC := Lib.hid (refSame_any q.k q.v q.i q.b q.n q.pt q.d q.m da ma da2 ma2 q.d.length dc q.m.length mc dc2 mc2 wr.drew hd1 hm1 hd2 hm2 hqd hqm)
      clear hq hd1 hm1 hd2 hm2
      go_wp2_with fail
      (go_region_held3 (fun w' => w'.cell? ⟨b1, p1 + j * 8, none⟩ = some (.int .i64 q.k) ∧ w'.cell? ⟨b1, p1 + j * 8 + 1, none⟩ = some (.int .i64 q.v) ∧ w'.cell? ⟨b1, p1 + j * 8 + 2, none⟩ = some (.int .i64 q.i) ∧ w'.cell? ⟨b1, p1 + j * 8 + 3, none⟩ = some (.int .i64 q.b) ∧ w'.cell? ⟨b1, p1 + j * 8 + 4, none⟩ = some (.int .i64 q.n) ∧ w'.cell? ⟨b1, p1 + j * 8 + 5, none⟩ = some (.int .u64 q.pt) ∧ w'.cell? ⟨b1, p1 + j * 8 + 6, none⟩ = some (.slice da q.d.length dc) ∧ w'.cell? ⟨b1, p1 + j * 8 + 7, none⟩ = some (.slice ma q.m.length mc) ∧ w'.cell? ⟨b2, p2 + j * 8, none⟩ = some (.int .i64 q.k) ∧ w'.cell? ⟨b2, p2 + j * 8 + 1, none⟩ = some (.int .i64 q.v) ∧ w'.cell? ⟨b2, p2 + j * 8 + 2, none⟩ = some (.int .i64 q.i) ∧ w'.cell? ⟨b2, p2 + j * 8 + 3, none⟩ = some (.int .i64 q.b) ∧ w'.cell? ⟨b2, p2 + j * 8 + 4, none⟩ = some (.int .i64 q.n) ∧ w'.cell? ⟨b2, p2 + j * 8 + 5, none⟩ = some (.int .u64 q.pt) ∧ w'.cell? ⟨b2, p2 + j * 8 + 6, none⟩ = some (.slice da2 q.d.length dc2) ∧ w'.cell? ⟨b2, p2 + j * 8 + 7, none⟩ = some (.slice ma2 q.m.length mc2))
        (first | exact hHeld | exact HS3 | go_keep)
        (first
         | (refine step_call (o := ⟨some 25, _, _, _, _, _⟩) (by kernel_rfl) 53 Try.func53 (by kernel_rfl) rfl _ _ rfl #[.agg #[.int .i64 q.k, .int .i64 q.v, .int .i64 q.i, .int .i64 q.b, .int .i64 q.n, .int .u64 q.pt, .slice da q.d.length dc, .slice ma q.m.length mc], .agg #[.int .i64 q.k, .int .i64 q.v, .int .i64 q.i, .int .i64 q.b, .int .i64 q.n, .int .u64 q.pt, .slice da2 q.d.length dc2, .slice ma2 q.m.length mc2]] (by simp [Act.eval]) HC.out ?_
            rintro e w3 ⟨rfl, hb3⟩
            refine ⟨_, rfl, ?_⟩
            have hb4 : Below wr.heap.size wr w3 := (Below.refl wr.heap.size wr).drew.trans hb3
            have HS3 : w3.cell? ⟨b1, p1 + j * 8, none⟩ = some (.int .i64 q.k) ∧ w3.cell? ⟨b1, p1 + j * 8 + 1, none⟩ = some (.int .i64 q.v) ∧ w3.cell? ⟨b1, p1 + j * 8 + 2, none⟩ = some (.int .i64 q.i) ∧ w3.cell? ⟨b1, p1 + j * 8 + 3, none⟩ = some (.int .i64 q.b) ∧ w3.cell? ⟨b1, p1 + j * 8 + 4, none⟩ = some (.int .i64 q.n) ∧ w3.cell? ⟨b1, p1 + j * 8 + 5, none⟩ = some (.int .u64 q.pt) ∧ w3.cell? ⟨b1, p1 + j * 8 + 6, none⟩ = some (.slice da q.d.length dc) ∧ w3.cell? ⟨b1, p1 + j * 8 + 7, none⟩ = some (.slice ma q.m.length mc) ∧ w3.cell? ⟨b2, p2 + j * 8, none⟩ = some (.int .i64 q.k) ∧ w3.cell? ⟨b2, p2 + j * 8 + 1, none⟩ = some (.int .i64 q.v) ∧ w3.cell? ⟨b2, p2 + j * 8 + 2, none⟩ = some (.int .i64 q.i) ∧ w3.cell? ⟨b2, p2 + j * 8 + 3, none⟩ = some (.int .i64 q.b) ∧ w3.cell? ⟨b2, p2 + j * 8 + 4, none⟩ = some (.int .i64 q.n) ∧ w3.cell? ⟨b2, p2 + j * 8 + 5, none⟩ = some (.int .u64 q.pt) ∧ w3.cell? ⟨b2, p2 + j * 8 + 6, none⟩ = some (.slice da2 q.d.length dc2) ∧ w3.cell? ⟨b2, p2 + j * 8 + 7, none⟩ = some (.slice ma2 q.m.length mc2) := by
              refine ⟨?_, ?_, ?_, ?_, ?_, ?_, ?_, ?_, ?_, ?_, ?_, ?_, ?_, ?_, ?_, ?_⟩ <;> (first | rw [hb4.cell hb1] | rw [hb4.cell hb2]) <;> assumption)))
      all_goals
        go_wp2_with fail
        exact ⟨⟨j + 1, by omega, by go_num, hbw.trans (hb4.mono hbw.size)⟩, by simp [intOf]; omega⟩
    · obtain rfl : j = n := by omega
      go_wp2_with fail
      go_ret
      exact ⟨rfl, hbw⟩
end Go.Proofs.Ytljbehndnledpaa
