/- The walks of cmp.Compare and cmp.Or at int, and of heat.compare. Conditions: those of each theorem. -/
import Derived.Lib.Small
import Derived.Sort.Grow
import Derived.Deep.RegionHeld
import Derived.Test.YtljbehndnledpaaHeatRow
namespace Go.Proofs.Ytljbehndnledpaa
open Go.RowKit

set_option maxRecDepth 100000 in
set_option maxHeartbeats 4000000 in
theorem isNaN_int (x : Int) (w : World) : Calls Try.prog 208 #[.int .i64 x] w fun e w' => e = .returned (.bool false) ∧ w' = w := by
  have hx : (x != x) = false := by simp
  go_enter Try.func208, Try.ntmps208
  go_wp2_with fail
  go_ret
  exact ⟨by simp, rfl⟩

set_option maxRecDepth 100000 in
set_option maxHeartbeats 4000000 in
theorem compare_int (x y : Int) (w : World) : Calls Try.prog 177 #[.int .i64 x, .int .i64 y] w fun e w' => e = .returned (.int .i64 (Lib.compareInt x y)) ∧ w' = w := by
  unfold Lib.compareInt
  by_cases h1 : x < y
  · have d1 : decide (x < y) = true := decide_eq_true h1
    rw [if_pos h1]
    go_enter Try.func177, Try.ntmps177
    go_wp2_with fail
    refine (isNaN_int x w).mono ?_
    rintro e w2 ⟨rfl, rfl⟩
    go_wp2_with fail
    refine (isNaN_int y w2).mono ?_
    rintro e w3 ⟨rfl, rfl⟩
    go_wp2_with fail
    go_ret
    exact ⟨rfl, rfl⟩
  · have d1 : decide (x < y) = false := decide_eq_false h1
    rw [if_neg h1]
    by_cases h2 : x > y
    · have d2 : decide (x > y) = true := decide_eq_true h2
      rw [if_pos h2]
      go_enter Try.func177, Try.ntmps177
      go_wp2_with fail
      refine (isNaN_int x w).mono ?_
      rintro e w2 ⟨rfl, rfl⟩
      go_wp2_with fail
      refine (isNaN_int y w2).mono ?_
      rintro e w3 ⟨rfl, rfl⟩
      go_wp2_with fail
      go_ret
      exact ⟨rfl, rfl⟩
    · have d2 : decide (x > y) = false := decide_eq_false h2
      rw [if_neg h2]
      go_enter Try.func177, Try.ntmps177
      go_wp2_with fail
      refine (isNaN_int x w).mono ?_
      rintro e w2 ⟨rfl, rfl⟩
      go_wp2_with fail
      refine (isNaN_int y w2).mono ?_
      rintro e w3 ⟨rfl, rfl⟩
      go_wp2_with fail
      go_ret
      exact ⟨rfl, rfl⟩

/-- The first of three numbers that is not 0. -/
def or3 (a b c : Int) : Int := if a = 0 then (if b = 0 then c else b) else a

set_option maxRecDepth 100000 in
set_option maxHeartbeats 4000000 in
theorem or3_any (b : Nat) (x y z : Int) (w : World) (hx : w.cell? ⟨b, 0, none⟩ = some (.int .i64 x)) (hy : w.cell? ⟨b, 1, none⟩ = some (.int .i64 y)) (hz : w.cell? ⟨b, 2, none⟩ = some (.int .i64 z)) :
    Calls Try.prog 176 #[.slice (some ⟨b, 0, none⟩) 3 3] w fun e w' => e = .returned (.int .i64 (or3 x y z)) ∧ w' = w := by
  by_cases h1 : x = 0
  · subst h1
    by_cases h2 : y = 0
    · subst h2
      have hres : or3 0 0 z = z := by simp [or3]
      rw [hres]
      clear hres
      by_cases h3 : z = 0
      · subst h3
        go_enter Try.func176, Try.ntmps176
        go_wp2_with fail
        refine wp_loop_rounds 4 ?_
        rw [rounds_succ]
        go_wp2_with fail
        rw [rounds_succ]
        go_wp2_with fail
        rw [rounds_succ]
        go_wp2_with fail
        rw [rounds_succ]
        go_wp2_with fail
        go_ret
        exact ⟨rfl, rfl⟩
      · have d3 : (z != 0) = true := by simpa using h3
        go_enter Try.func176, Try.ntmps176
        go_wp2_with fail
        refine wp_loop_rounds 4 ?_
        rw [rounds_succ]
        go_wp2_with fail
        rw [rounds_succ]
        go_wp2_with fail
        rw [rounds_succ]
        go_wp2_with fail
        go_ret
        exact ⟨rfl, rfl⟩
    · have d2 : (y != 0) = true := by simpa using h2
      have hres : or3 0 y z = y := by simp [or3, h2]
      rw [hres]
      clear hres
      go_enter Try.func176, Try.ntmps176
      go_wp2_with fail
      refine wp_loop_rounds 4 ?_
      rw [rounds_succ]
      go_wp2_with fail
      rw [rounds_succ]
      go_wp2_with fail
      go_ret
      exact ⟨rfl, rfl⟩
  · have d1 : (x != 0) = true := by simpa using h1
    have hres : or3 x y z = x := by simp [or3, h1]
    rw [hres]
    clear hres
    go_enter Try.func176, Try.ntmps176
    go_wp2_with fail
    refine wp_loop_rounds 4 ?_
    rw [rounds_succ]
    go_wp2_with fail
    go_ret
    exact ⟨rfl, rfl⟩

/-- How heat.compare orders counts. -/
def cfH (a b : Hs) : Int := or3 (Lib.compareInt b.2 a.2) (Lib.compareInt a.1.1 b.1.1) (Lib.compareInt a.1.2 b.1.2)

def Cells6 (B : Nat) (W' : World) (a1 a2 an b1 b2 bn : Int) : Prop := W'.cell? ⟨B, 0, none⟩ = some (.int .i64 a1) ∧ W'.cell? ⟨B, 1, none⟩ = some (.int .i64 a2) ∧ W'.cell? ⟨B, 2, none⟩ = some (.int .i64 an) ∧ W'.cell? ⟨B + 1, 0, none⟩ = some (.int .i64 b1) ∧ W'.cell? ⟨B + 1, 1, none⟩ = some (.int .i64 b2) ∧ W'.cell? ⟨B + 1, 2, none⟩ = some (.int .i64 bn)
theorem cells3_new (w : World) (x y z : Int) (t : TypeId) : (w.alloc (.cells #[.int .i64 x, .int .i64 y, .int .i64 z] t)).cell? ⟨w.heap.size, 0, none⟩ = some (.int .i64 x) ∧ (w.alloc (.cells #[.int .i64 x, .int .i64 y, .int .i64 z] t)).cell? ⟨w.heap.size, 1, none⟩ = some (.int .i64 y) ∧ (w.alloc (.cells #[.int .i64 x, .int .i64 y, .int .i64 z] t)).cell? ⟨w.heap.size, 2, none⟩ = some (.int .i64 z) := by
  refine ⟨?_, ?_, ?_⟩ <;> simp
theorem cell_past {w : World} {p : Addr} {v : Value} (h : w.cell? p = some v) (o : Obj) : (w.alloc o).cell? p = some v := by
  have hlt := World.block_lt_of_cell? _ _ h
  rw [((Below.refl w.heap.size w).alloc (Nat.le_refl _) o).cell hlt]
  exact h
theorem Cells6.alloc {B : Nat} {w : World} {a1 a2 an b1 b2 bn : Int} (h : Cells6 B w a1 a2 an b1 b2 bn) (o : Obj) : Cells6 B (w.alloc o) a1 a2 an b1 b2 bn :=
  ⟨cell_past h.1 o, cell_past h.2.1 o, cell_past h.2.2.1 o, cell_past h.2.2.2.1 o, cell_past h.2.2.2.2.1 o, cell_past h.2.2.2.2.2 o⟩

set_option maxRecDepth 100000 in
set_option maxHeartbeats 4000000 in
theorem compareH_any (a b : Hs) (W : World) :
    Calls Try.prog 129 #[.agg #[.int .i64 a.1.1, .int .i64 a.1.2, .int .i64 a.2], .agg #[.int .i64 b.1.1, .int .i64 b.1.2, .int .i64 b.2]] W fun e w' => e = .returned (.int .i64 (cfH a b)) ∧ ∃ q os', w' = Sort.grow (W.drewN q) os' := by
  obtain ⟨⟨a1, a2⟩, an⟩ := a
  obtain ⟨⟨b1, b2⟩, bn⟩ := b
  unfold cfH
  simp only
  generalize hc1 : Lib.compareInt bn an = c1 at *
  generalize hc2 : Lib.compareInt a1 b1 = c2 at *
  generalize hc3 : Lib.compareInt a2 b2 = c3 at *
  have ho := fun b' W' => or3_any b' c1 c2 c3 W'
  generalize or3 c1 c2 c3 = r at *
  go_enter Try.func129, Try.ntmps129
  go_wp2_with fail
  have hx : ∀ o : Obj, ∃ q os', (((W.alloc (.cells #[.int .i64 a1, .int .i64 a2, .int .i64 an] 111)).alloc (.cells #[.int .i64 b1, .int .i64 b2, .int .i64 bn] 111)).alloc o).drew = Sort.grow (W.drewN q) os' := fun o =>
    ⟨1, _, by rw [Sort.alloc_eq_grow, Sort.alloc_eq_grow, Sort.alloc_eq_grow, Sort.grow_grow, Sort.grow_grow, Sort.drew_grow]; rfl⟩
  have hS : Cells6 W.heap.size ((W.alloc (.cells #[.int .i64 a1, .int .i64 a2, .int .i64 an] 111)).alloc (.cells #[.int .i64 b1, .int .i64 b2, .int .i64 bn] 111)) a1 a2 an b1 b2 bn := by
    refine ⟨?_, ?_, ?_, ?_, ?_, ?_⟩ <;> simp
  generalize ((W.alloc (.cells #[.int .i64 a1, .int .i64 a2, .int .i64 an] 111)).alloc (.cells #[.int .i64 b1, .int .i64 b2, .int .i64 bn] 111)) = WB at *
  generalize W.heap.size = B at *
  have hS2 : ∀ o, Cells6 B (WB.alloc o) a1 a2 an b1 b2 bn := fun o => hS.alloc o
  have hS3 : ∀ o, Cells6 B (WB.alloc o).drew a1 a2 an b1 b2 bn := fun o => hS.alloc o
  unfold Cells6 at hS hS2 hS3
  have ho2 := ho WB.heap.size (WB.alloc (.cells #[.int .i64 c1, .int .i64 c2, .int .i64 c3] 3)).drew (cells3_new WB _ _ _ _).1 (cells3_new WB _ _ _ _).2.1 (cells3_new WB _ _ _ _).2.2
  clear ho
  go_region_held (fun W' => W'.cell? ⟨B, 0, none⟩ = some (.int .i64 a1) ∧ W'.cell? ⟨B, 1, none⟩ = some (.int .i64 a2) ∧ W'.cell? ⟨B, 2, none⟩ = some (.int .i64 an) ∧ W'.cell? ⟨B + 1, 0, none⟩ = some (.int .i64 b1) ∧ W'.cell? ⟨B + 1, 1, none⟩ = some (.int .i64 b2) ∧ W'.cell? ⟨B + 1, 2, none⟩ = some (.int .i64 bn)) (first | exact hS | exact hS2 _ | exact hS3 _)
    (first
      | (go_at_call 177; refine (compare_int _ _ _).mono ?_; rintro e w5 ⟨rfl, rfl⟩)
      | (go_at_call 176; refine ho2.mono ?_; rintro e w5 ⟨rfl, rfl⟩))
  all_goals
    go_wp2_with fail
    go_ret
    exact ⟨rfl, hx _⟩
end Go.Proofs.Ytljbehndnledpaa
