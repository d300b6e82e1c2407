/- The state of heat.Map, and the walk of Of. Conditions: those of each theorem. -/
import Derived.Test.YtljbehndnledpaaHeatStep
namespace Go.Proofs.Ytljbehndnledpaa
open Go.RowKit Go.Maps Go.ChangeMaps Go.MapKept

def MapAt (w : World) (L : List Hs) : Option Nat → Prop
  | none => L = []
  | some b => ∃ es clock, HMap w b es clock L
/-- The block of a heat.Map, and that of its map, if there is one. -/
structure HeatW (w : World) (pm : Nat) (ob : Option Nat) (L : List Hs) : Prop where
  cell : w.heap[pm]? = some (.cells #[.map ob] 103 (0, 0))
  map : MapAt w L ob
theorem HeatW.pm_lt {w : World} {pm : Nat} {ob : Option Nat} {L : List Hs} (h : HeatW w pm ob L) : pm < w.heap.size := (Array.getElem?_eq_some_iff.1 h.cell).1
theorem HeatW.ob_lt {w : World} {pm : Nat} {ob : Option Nat} {L : List Hs} (h : HeatW w pm ob L) {b : Nat} (hb : ob = some b) : b < w.heap.size := by
  have := h.map
  rw [hb] at this
  obtain ⟨es, clock, hm⟩ := this
  exact hm.lt
theorem HeatW.heap {w w' : World} {pm : Nat} {ob : Option Nat} {L : List Hs} (h : HeatW w pm ob L) (h1 : w'.heap[pm]? = w.heap[pm]?) (h2 : ∀ b, ob = some b → w'.heap[b]? = w.heap[b]?) : HeatW w' pm ob L := by
  refine ⟨h1.trans h.cell, ?_⟩
  have hm := h.map
  cases ob with
  | none => exact hm
  | some b =>
    obtain ⟨es, clock, hm⟩ := hm
    exact ⟨es, clock, hm.heap (h2 b rfl)⟩
theorem HeatW.below {w w' : World} {pm : Nat} {ob : Option Nat} {L : List Hs} (h : HeatW w pm ob L) (hb : Below w.heap.size w w') : HeatW w' pm ob L :=
  h.heap (hb.block pm h.pm_lt) (fun b e => hb.block b (h.ob_lt e))
theorem HeatW.reads {w : World} {pm : Nat} {ob : Option Nat} {L : List Hs} (h : HeatW w pm ob L) : w.cell? ⟨pm, 0, none⟩ = some (.map ob) ∧ w.frozen? ⟨pm, 0, none⟩ = false := by
  constructor
  · simp [World.cell?, h.cell]
  · simp [World.frozen?, h.cell]
theorem HeatW.ok {w : World} {pm : Nat} {ob : Option Nat} {L : List Hs} (h : HeatW w pm ob L) : L.length ≤ 1000000 ∧ (L.map (·.1)).Nodup ∧ ∀ p ∈ L, HsIn p.1 := by
  have hm := h.map
  cases ob with
  | none => cases hm; exact ⟨by simp, by simp, by simp⟩
  | some b => obtain ⟨es, clock, hm⟩ := hm; exact ⟨hm.len, hm.nodup, hm.rd.ok⟩

theorem look_nil101 (s : Int × Int) (hs : HsIn s) (w : World) : (Instr.lookup 101 (.map none) (.agg #[.int .i64 s.1, .int .i64 s.2]) false).run Try.prog w = .ok (.int .i64 0) w := by
  show (Instr.lookup 101 (.map none) (hsV s) false).run Try.prog w = _
  rcases law99.find w (keyOf_hs s hs) [] (by simp) with ⟨h1, -⟩ | ⟨j, e0, -, h2, -⟩
  · simp [Instr.lookup, run_underlying Try.underlying101, law99.check w _ (keyOf_hs s hs), h1, Try.zeroValue3 w, Result.andThen]
  · simp at h2
theorem HeatW.look {w : World} {pm : Nat} {ob : Option Nat} {L : List Hs} (h : HeatW w pm ob L) (s : Int × Int) (hs : HsIn s) : (Instr.lookup 101 (.map ob) (.agg #[.int .i64 s.1, .int .i64 s.2]) false).run Try.prog w = .ok (.int .i64 (cntS L s)) w := by
  have hm := h.map
  cases ob with
  | none => cases hm; exact look_nil101 s hs w
  | some b => obtain ⟨es, clock, hm⟩ := hm; exact hm.look s hs

/-- A cell of a block that was just laid. -/
theorem cell_laid (w : World) (c : Array Value) (t : TypeId) (k : Nat) : (w.alloc (.cells c t)).cell? ⟨w.heap.size, k, none⟩ = c[k]? := by
  show (match (w.alloc (.cells c t)).heap[w.heap.size]? with
    | some (.cells c _ _) => c[k]?
    | _ => none) = _
  rw [heap_alloc_new]

set_option maxRecDepth 100000 in
set_option maxHeartbeats 4000000 in
theorem of_heat {w : World} {pm : Nat} {ob : Option Nat} {L : List Hs} (h : HeatW w pm ob L) (s : Int × Int) (hs : HsIn s) :
    Calls Try.prog 67 #[.pointer (some ⟨pm, 0, none⟩), .agg #[.int .i64 s.1, .int .i64 s.2]] w fun e w' => e = .returned (.int .i64 (cntS L s)) ∧ Below w.heap.size w w' := by
  have hb : Below w.heap.size w (w.alloc (.cells #[.int .i64 s.1, .int .i64 s.2] 99)) := (Below.refl _ _).alloc (Nat.le_refl _) _
  have h' := h.below hb
  obtain ⟨c0, f0⟩ := h'.reads
  have hl := (show HeatW (w.alloc (.cells #[.int .i64 s.1, .int .i64 s.2] 99)).drew pm ob L from h'.heap rfl (fun _ _ => rfl)).look s hs
  have c1 : (w.alloc (.cells #[.int .i64 s.1, .int .i64 s.2] 99)).cell? ⟨w.heap.size, 0, none⟩ = some (.int .i64 s.1) := cell_laid w _ _ 0
  have c2 : (w.alloc (.cells #[.int .i64 s.1, .int .i64 s.2] 99)).cell? ⟨w.heap.size, 1, none⟩ = some (.int .i64 s.2) := cell_laid w _ _ 1
  clear h h'
  go_enter Try.func67, Try.ntmps67
  generalize cntS L s = c at *
  go_wp2_with fail
  go_region
  all_goals
    go_wp2_with fail
    go_ret
    exact ⟨rfl, ⟨hb.os, hb.tape, hb.output, hb.size, hb.block⟩⟩
end Go.Proofs.Ytljbehndnledpaa
