/- The walk of yesteryearlaw40.Make at a configuration of noughts. Conditions: those of the theorem. -/
import Derived.Test.YtljbehndnledpaaFreeList
import Derived.Test.YtljbehndnledpaaDiskNew
namespace Go.Proofs.Ytljbehndnledpaa
open Go.RowKit

set_option maxRecDepth 100000 in
set_option maxHeartbeats 4000000 in
theorem make_any (w : World) :
    Calls Try.prog 91 #[.agg #[.int .i64 0, .int .i64 0, .int .u64 0, .int .u64 0, .int .u64 0, .int .u64 0]] w fun e w' => ∃ s arr, e = .returned (.tuple #[.pointer (some ⟨s, 0, none⟩), .bool true]) ∧ w'.heap[s]? = some (.cells arr 159 (0, 0)) ∧ 8 < arr.size ∧ w.heap.size ≤ s ∧ Below w.heap.size w w' := by
  have hb0 : Below w.heap.size w (w.alloc (.cells #[.int .i64 0, .int .i64 0, .int .u64 0, .int .u64 0, .int .u64 0, .int .u64 0] 149)) := (Below.refl _ _).alloc (Nat.le_refl _) _
  have hsz : w.heap.size < (w.alloc (.cells #[.int .i64 0, .int .i64 0, .int .u64 0, .int .u64 0, .int .u64 0, .int .u64 0] 149)).heap.size := by simp
  have hbx := heap_alloc_new w (.cells #[.int .i64 0, .int .i64 0, .int .u64 0, .int .u64 0, .int .u64 0, .int .u64 0] 149)
  go_enter Try.func91, Try.ntmps91
  go_wp2_with fail
  generalize w.alloc (.cells #[.int .i64 0, .int .i64 0, .int .u64 0, .int .u64 0, .int .u64 0, .int .u64 0] 149) = wA at *
  refine (new_any 300 wA (by omega) (by omega)).mono ?_
  rintro e w2 ⟨p, s, rfl, -, hb2⟩
  have hb02 := hb0.trans (hb2.mono hb0.size)
  go_wp2_with fail
  refine (allocNew_any w2).mono ?_
  rintro e w3 ⟨⟨a, rfl⟩, hb3⟩
  have hb03 := hb02.trans (hb3.mono hb02.size)
  go_wp2_with fail
  refine (historyNew_any a w3).mono ?_
  rintro e w4 ⟨h, t, rfl, hc0, hc1, hb4⟩
  have hb04 := hb03.trans (hb4.mono hb03.size)
  have hx4 : w4.heap[w.heap.size]? = some (.cells #[.int .i64 0, .int .i64 0, .int .u64 0, .int .u64 0, .int .u64 0, .int .u64 0] 149 (0, 0)) := by
    rw [hb4.block _ (by have := hb2.size; have := hb3.size; omega), hb3.block _ (by have := hb2.size; omega), hb2.block _ hsz]
    exact hbx
  have d0 : w4.cell? ⟨w.heap.size, 0, none⟩ = some (.int .i64 0) := by simp [World.cell?, hx4]
  have d1 : w4.cell? ⟨w.heap.size, 1, none⟩ = some (.int .i64 0) := by simp [World.cell?, hx4]
  have d2 : w4.cell? ⟨w.heap.size, 2, none⟩ = some (.int .u64 0) := by simp [World.cell?, hx4]
  have d3 : w4.cell? ⟨w.heap.size, 3, none⟩ = some (.int .u64 0) := by simp [World.cell?, hx4]
  have d4 : w4.cell? ⟨w.heap.size, 4, none⟩ = some (.int .u64 0) := by simp [World.cell?, hx4]
  have d5 : w4.cell? ⟨w.heap.size, 5, none⟩ = some (.int .u64 0) := by simp [World.cell?, hx4]
  clear hx4 hbx
  go_wp2_with fail
  go_ret2
  exact ⟨w4.heap.size, _, rfl, heap_alloc_new w4 _, by simp, hb04.size, hb04.alloc hb04.size _⟩
end Go.Proofs.Ytljbehndnledpaa
