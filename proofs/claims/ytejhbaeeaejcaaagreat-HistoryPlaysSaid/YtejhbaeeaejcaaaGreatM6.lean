/- The stack of the walk of a way down a tree, and the walks of its New, Push and Pop. Conditions: those of each theorem. -/
import Derived.Laws.Rows
import Derived.Test.YtejhbaeeaejcaaaGreatM2
import Derived.Test.YtejhbaeeaejcaaaGreatM4
import Derived.Deep.RegionHeldLaw
namespace Go.Proofs.YtejhbaeeaejcaaaGreat
open Go.RowKit

/-- A stack's block. -/
structure StackWV (w : World) (q : Nat) (l : List (Nat × Nat)) : Prop where
  obj : ∃ cs : Array Value, w.heap[q]? = some (.cells cs 199 (0, 0)) ∧ cs.size = 34 ∧ cs[32]? = some (.int .i64 (l.length : Int)) ∧ cs[33]? = some (.int .i64 16) ∧
    ∀ i x, l[i]? = some x → cs[i * 2]? = some (ptrV x.1) ∧ cs[i * 2 + 1]? = some (.int .i64 (x.2 : Int))
  len : l.length ≤ 16
theorem StackWV.lt {w : World} {q : Nat} {l : List (Nat × Nat)} (h : StackWV w q l) : q < w.heap.size := by
  obtain ⟨cs, e, -⟩ := h.obj
  exact (Array.getElem?_eq_some_iff.1 e).1
theorem StackWV.heap {w w' : World} {q : Nat} {l : List (Nat × Nat)} (h : StackWV w q l) (hq : w'.heap[q]? = w.heap[q]?) : StackWV w' q l := by
  obtain ⟨cs, e, r⟩ := h.obj
  exact ⟨⟨cs, by rw [hq]; exact e, r⟩, h.len⟩
theorem StackWV.reads {w : World} {q : Nat} {l : List (Nat × Nat)} (h : StackWV w q l) : w.cell? ⟨q, 32, none⟩ = some (.int .i64 (l.length : Int)) ∧ w.cell? ⟨q, 33, none⟩ = some (.int .i64 16) ∧ (∀ j, w.frozen? ⟨q, j, none⟩ = false) ∧
    ∀ i x, l[i]? = some x → w.cell? ⟨q, i * 2, none⟩ = some (ptrV x.1) ∧ w.cell? ⟨q, i * 2 + 1, none⟩ = some (.int .i64 (x.2 : Int)) := by
  obtain ⟨cs, e, -, e1, e2, e3⟩ := h.obj
  have hc : ∀ j, w.cell? ⟨q, j, none⟩ = cs[j]? := fun j => by simp [World.cell?, e]
  exact ⟨by rw [hc, e1], by rw [hc, e2], fun j => by simp [World.frozen?, e], fun i x hx => by rw [hc, hc]; exact e3 i x hx⟩

theorem StackWV.has {w : World} {q : Nat} {l : List (Nat × Nat)} (h : StackWV w q l) (j : Nat) (hj : j < 34) : ∃ u, w.cell? ⟨q, j, none⟩ = some u := by
  obtain ⟨cs, e, hs, -⟩ := h.obj
  have hc : w.cell? ⟨q, j, none⟩ = cs[j]? := by simp [World.cell?, e]
  exact ⟨cs[j]'(by omega), by rw [hc]; exact Array.getElem?_eq_getElem _⟩
theorem StackWV.put {w : World} {q : Nat} {l : List (Nat × Nat)} (h : StackWV w q l) (hl : l.length < 16) (p i : Nat) :
    StackWV (((w.setCell ⟨q, l.length * 2, none⟩ (ptrV p)).setCell ⟨q, l.length * 2 + 1, none⟩ (.int .i64 (i : Int))).setCell ⟨q, 32, none⟩ (.int .i64 ((l.length : Int) + 1))) q (l ++ [(p, i)]) ∧
      w.grownBy (((w.setCell ⟨q, l.length * 2, none⟩ (ptrV p)).setCell ⟨q, l.length * 2 + 1, none⟩ (.int .i64 (i : Int))).setCell ⟨q, 32, none⟩ (.int .i64 ((l.length : Int) + 1))) (some q) := by
  obtain ⟨cs, e, hs, e1, e2, e3⟩ := h.obj
  refine ⟨⟨⟨_, heap_setCell_same _ q 32 _ _ _ (heap_setCell_same _ q _ _ _ _ (heap_setCell_same w q _ cs _ _ e)), by simp [hs], ?_, ?_, fun j x hx => ?_⟩, by simp; omega⟩, rfl, rfl, rfl, by simp, fun k _ hk => ?_⟩
  · rw [Array.getElem?_setIfInBounds_self_of_lt (by simp [hs])]; simp
  · rw [Array.getElem?_setIfInBounds_ne (by omega), Array.getElem?_setIfInBounds_ne (by omega), Array.getElem?_setIfInBounds_ne (by omega)]; exact e2
  · have hj : j < (l ++ [(p, i)]).length := (List.getElem?_eq_some_iff.1 hx).1
    simp at hj
    by_cases hjl : j < l.length
    · rw [List.getElem?_append_left hjl] at hx
      obtain ⟨h1, h2⟩ := e3 j x hx
      refine ⟨?_, ?_⟩
      · rw [Array.getElem?_setIfInBounds_ne (show 32 ≠ j * 2 by omega), Array.getElem?_setIfInBounds_ne (show l.length * 2 + 1 ≠ j * 2 by omega), Array.getElem?_setIfInBounds_ne (show l.length * 2 ≠ j * 2 by omega)]
        exact h1
      · rw [Array.getElem?_setIfInBounds_ne (show 32 ≠ j * 2 + 1 by omega), Array.getElem?_setIfInBounds_ne (show l.length * 2 + 1 ≠ j * 2 + 1 by omega), Array.getElem?_setIfInBounds_ne (show l.length * 2 ≠ j * 2 + 1 by omega)]
        exact h2
    · have : j = l.length := by omega
      subst this
      rw [List.getElem?_append_right (Nat.le_refl _)] at hx
      simp at hx
      subst hx
      refine ⟨?_, ?_⟩
      · rw [Array.getElem?_setIfInBounds_ne (show 32 ≠ l.length * 2 by omega), Array.getElem?_setIfInBounds_ne (show l.length * 2 + 1 ≠ l.length * 2 by omega), Array.getElem?_setIfInBounds_self_of_lt (by omega)]
      · rw [Array.getElem?_setIfInBounds_ne (show 32 ≠ l.length * 2 + 1 by omega), Array.getElem?_setIfInBounds_self_of_lt (by rw [Array.size_setIfInBounds]; omega)]
  · have hk' : k ≠ q := fun e => hk (by rw [e])
    rw [heap_setCell_other _ _ k _ hk', heap_setCell_other _ _ k _ hk', heap_setCell_other _ _ k _ hk']

set_option maxRecDepth 100000 in
set_option maxHeartbeats 4000000 in
theorem stackNew_anyV (w : World) :
    Calls Tryz.prog 107 #[.int .i64 16] w fun e w' => e = .returned (ptrV w.heap.size) ∧ StackWV w' w.heap.size [] ∧ Below w.heap.size w w' := by
  go_enter Tryz.func107, Tryz.ntmps107
  go_wp2_with fail
  go_ret
  refine ⟨rfl, ⟨⟨_, heap_alloc_new w _, ?_, ?_, ?_, ?_⟩, ?_⟩, (Below.refl _ _).alloc (Nat.le_refl _) _⟩
  · rfl
  · rfl
  · rfl
  · intro i x hx; simp at hx
  · simp

set_option maxRecDepth 100000 in
set_option maxHeartbeats 4000000 in
theorem stackPush_anyV {w : World} {q : Nat} {l : List (Nat × Nat)} (h : StackWV w q l) (hl : l.length < 16) (p i : Nat) :
    Calls Tryz.prog 109 #[ptrV q, .agg #[ptrV p, .int .i64 (i : Int)]] w fun e w' => e = .returned (.bool true) ∧ StackWV w' q (l ++ [(p, i)]) ∧ w.grownBy w' (some q) := by
  obtain ⟨c32, c33, cf, -⟩ := h.reads
  have hlt := h.lt
  have d32 := cell_past c32 (.cells #[ptrV p, .int .i64 (i : Int)] 181)
  have d33 := cell_past c33 (.cells #[ptrV p, .int .i64 (i : Int)] 181)
  have x0 : (w.alloc (.cells #[ptrV p, .int .i64 (i : Int)] 181)).cell? ⟨w.heap.size, 0, none⟩ = some (ptrV p) := by simp
  have x1 : (w.alloc (.cells #[ptrV p, .int .i64 (i : Int)] 181)).cell? ⟨w.heap.size, 1, none⟩ = some (.int .i64 (i : Int)) := by simp
  have hf : ∀ j, (w.alloc (.cells #[ptrV p, .int .i64 (i : Int)] 181)).frozen? ⟨q, j, none⟩ = false := fun j => by
    have := (h.heap (w' := w.alloc (.cells #[ptrV p, .int .i64 (i : Int)] 181)) (Below.heap_alloc _ _ _ hlt)).reads.2.2.1 j
    exact this
  have hln : (l.length : Int) < 16 := by omega
  have hne : ((l.length : Int) == 16) = false := by rw [beq_eq_false_iff_ne]; omega
  unfold ptrV at *
  generalize hwa : w.alloc (.cells #[.pointer (some ⟨p, 0, none⟩), .int .i64 (i : Int)] 181) = wa at *
  have hhw : StackWV wa q l := h.heap (by rw [← hwa]; exact Below.heap_alloc _ _ _ hlt)
  have hga : Below w.heap.size w wa := by rw [← hwa]; exact (Below.refl _ _).alloc (Nat.le_refl _) _
  obtain ⟨u0, y0⟩ := hhw.has (l.length * 2) (by omega)
  obtain ⟨u1, y1⟩ := hhw.has (l.length * 2 + 1) (by omega)
  have hw1 : IntKind.i64.wrap ((l.length : Int) + 1) = (l.length : Int) + 1 := IntWalk.i64_in _ (by omega)
  have hput := hhw.put hl p i
  unfold ptrV at hput
  have HP := Lib.hid hput
  have hb16 : l.length * 2 ≠ 32 := by omega
  have hb17 : l.length * 2 + 1 ≠ 32 := by omega
  clear h c32 c33 cf hhw hput
  go_enter Tryz.func109, Tryz.ntmps109
  go_wp2_with fail
  go_region
  all_goals
    go_wp2_with fail
    go_region
    all_goals
      go_wp2_with fail
      go_ret
      refine ⟨rfl, HP.out.1.heap rfl, ?_⟩
      have hg := HP.out.2
      exact ⟨hg.os.trans hga.os, hg.tape.trans hga.tape, hg.output.trans hga.output, Nat.le_trans hga.size hg.size, fun k hk hne => (hg.block k (Nat.lt_of_lt_of_le hk hga.size) hne).trans (hga.block k hk)⟩

theorem StackWV.pre {w : World} {q : Nat} {l : List (Nat × Nat)} {x : Nat × Nat} (h : StackWV w q (l ++ [x])) (o1 o2 : Obj) :
    ((((w.setCell ⟨q, 32, none⟩ (.int .i64 (l.length : Int))).alloc o1).alloc o2).cell? ⟨q, 32, none⟩ = some (.int .i64 (l.length : Int)) ∧ (((w.setCell ⟨q, 32, none⟩ (.int .i64 (l.length : Int))).alloc o1).alloc o2).cell? ⟨q, l.length * 2, none⟩ = some (ptrV x.1) ∧
      (((w.setCell ⟨q, 32, none⟩ (.int .i64 (l.length : Int))).alloc o1).alloc o2).cell? ⟨q, l.length * 2 + 1, none⟩ = some (.int .i64 (x.2 : Int))) ∧ ∀ j, (((w.setCell ⟨q, 32, none⟩ (.int .i64 (l.length : Int))).alloc o1).alloc o2).frozen? ⟨q, j, none⟩ = false := by
  obtain ⟨cs, e, hs, e1, e2, e3⟩ := h.obj
  have hl : l.length < 16 := by have := h.len; simp at this; omega
  have hq := h.lt
  have hx : (l ++ [x])[l.length]? = some x := by rw [List.getElem?_append_right (Nat.le_refl _)]; simp
  obtain ⟨h1, h2⟩ := e3 l.length x hx
  have hh : (((w.setCell ⟨q, 32, none⟩ (.int .i64 (l.length : Int))).alloc o1).alloc o2).heap[q]? = some (.cells (cs.setIfInBounds 32 (.int .i64 (l.length : Int))) 199 (0, 0)) := by
    rw [Below.heap_alloc _ _ _ (by simp; omega), Below.heap_alloc _ _ _ (by simpa using hq)]
    exact heap_setCell_same w q 32 cs _ _ e
  have hc : ∀ j, (((w.setCell ⟨q, 32, none⟩ (.int .i64 (l.length : Int))).alloc o1).alloc o2).cell? ⟨q, j, none⟩ = (cs.setIfInBounds 32 (.int .i64 (l.length : Int)))[j]? := fun j => by simp [World.cell?, hh]
  refine ⟨⟨?_, ?_, ?_⟩, fun j => by simp [World.frozen?, hh]⟩
  · rw [hc, Array.getElem?_setIfInBounds_self_of_lt (by omega)]
  · rw [hc, Array.getElem?_setIfInBounds_ne (by omega)]; exact h1
  · rw [hc, Array.getElem?_setIfInBounds_ne (by omega)]; exact h2

theorem StackWV.post {w : World} {q : Nat} {l : List (Nat × Nat)} {x : Nat × Nat} (h : StackWV w q (l ++ [x])) (o1 o2 : Obj) :
    ∃ cs5 : Array Value, (((w.setCell ⟨q, 32, none⟩ (.int .i64 (l.length : Int))).alloc o1).alloc o2).heap[q]? = some (.cells cs5 199 (0, 0)) ∧ cs5.size = 34 ∧
      (∀ W' : World, W'.heap[q]? = some (.cells cs5 199 (0, 0)) → W'.cell? ⟨q, 32, none⟩ = some (.int .i64 (l.length : Int)) ∧ (∃ u, W'.cell? ⟨q, l.length * 2, none⟩ = some u) ∧ (∃ u, W'.cell? ⟨q, l.length * 2 + 1, none⟩ = some u) ∧ ∀ j, W'.frozen? ⟨q, j, none⟩ = false) ∧
      ∀ W' : World, W'.heap[q]? = some (.cells ((cs5.setIfInBounds (l.length * 2) (.pointer none)).setIfInBounds (l.length * 2 + 1) (.int .i64 0)) 199 (0, 0)) → StackWV W' q l := by
  obtain ⟨cs, e, hs, e1, e2, e3⟩ := h.obj
  have hl : l.length < 16 := by have := h.len; simp at this; omega
  have hq := h.lt
  refine ⟨cs.setIfInBounds 32 (.int .i64 (l.length : Int)), ?_, by simp [hs], fun W' hW' => ?_, fun W' hW' => ⟨⟨_, hW', by simp [hs], ?_, ?_, fun j y hy => ?_⟩, by omega⟩⟩
  · rw [Below.heap_alloc _ _ _ (by simp; omega), Below.heap_alloc _ _ _ (by simpa using hq)]
    exact heap_setCell_same w q 32 cs _ _ e
  · have hc : ∀ j, W'.cell? ⟨q, j, none⟩ = (cs.setIfInBounds 32 (.int .i64 (l.length : Int)))[j]? := fun j => by simp [World.cell?, hW']
    refine ⟨?_, ?_, ?_, fun j => by simp [World.frozen?, hW']⟩
    · rw [hc, Array.getElem?_setIfInBounds_self_of_lt (by omega)]
    · exact ⟨_, (hc _).trans (Array.getElem?_eq_getElem (by rw [Array.size_setIfInBounds]; omega))⟩
    · exact ⟨_, (hc _).trans (Array.getElem?_eq_getElem (by rw [Array.size_setIfInBounds]; omega))⟩
  · rw [Array.getElem?_setIfInBounds_ne (by omega), Array.getElem?_setIfInBounds_ne (by omega), Array.getElem?_setIfInBounds_self_of_lt (by omega)]
  · rw [Array.getElem?_setIfInBounds_ne (by omega), Array.getElem?_setIfInBounds_ne (by omega), Array.getElem?_setIfInBounds_ne (by omega)]; exact e2
  · have hj : j < l.length := (List.getElem?_eq_some_iff.1 hy).1
    obtain ⟨h1, h2⟩ := e3 j y (by rw [List.getElem?_append_left hj]; exact hy)
    refine ⟨?_, ?_⟩
    · rw [Array.getElem?_setIfInBounds_ne (show l.length * 2 + 1 ≠ j * 2 by omega), Array.getElem?_setIfInBounds_ne (show l.length * 2 ≠ j * 2 by omega), Array.getElem?_setIfInBounds_ne (show 32 ≠ j * 2 by omega)]
      exact h1
    · rw [Array.getElem?_setIfInBounds_ne (show l.length * 2 + 1 ≠ j * 2 + 1 by omega), Array.getElem?_setIfInBounds_ne (show l.length * 2 ≠ j * 2 + 1 by omega), Array.getElem?_setIfInBounds_ne (show 32 ≠ j * 2 + 1 by omega)]
      exact h2

theorem out_twoV {W : World} {B : Nat} {x0 x1 v0 v1 : Value} {t : TypeId} (h : W.heap[B]? = some (.cells #[x0, x1] t (0, 0))) :
    ((W.setCell ⟨B, 0, none⟩ v0).setCell ⟨B, 1, none⟩ v1).cell? ⟨B, 0, none⟩ = some v0 ∧ ((W.setCell ⟨B, 0, none⟩ v0).setCell ⟨B, 1, none⟩ v1).cell? ⟨B, 1, none⟩ = some v1 := by
  have := heap_setCell_same _ B 1 _ _ v1 (heap_setCell_same W B 0 _ _ v0 h)
  constructor <;> simp [World.cell?, this]
theorem pop_resultsV (tmps : Array Value) (B : Nat) (e v0 v1 : Value) (W : World) (h2 : tmps[2]? = some (.pointer (some ⟨B, 0, none⟩))) (h3 : tmps[3]? = some e) (q0 : W.cell? ⟨B, 0, none⟩ = some v0) (q1 : W.cell? ⟨B, 1, none⟩ = some v1) :
    (results Tryz.f110 tmps).run Tryz.prog W = .ok (.tuple #[.agg #[v0, v1], e]) W := by
  simp [results, Tryz.results110, go_sem, h2, h3, q0, q1]

set_option maxRecDepth 100000 in
set_option maxHeartbeats 4000000 in
theorem stackPop_noneV {w : World} {q : Nat} (h : StackWV w q []) :
    Calls Tryz.prog 110 #[ptrV q] w fun e w' => e = .returned (.tuple #[.agg #[.pointer none, .int .i64 0], .bool false]) ∧ Below w.heap.size w w' := by
  obtain ⟨c32, c33, cf, -⟩ := h.reads
  have d32 := cell_past (cell_past c32 (.cells #[.pointer none, .int .i64 0] 181)) (.cells #[.pointer none, .int .i64 0] 181)
  have hb : Below w.heap.size w ((w.alloc (.cells #[.pointer none, .int .i64 0] 181)).alloc (.cells #[.pointer none, .int .i64 0] 181)) := ((Below.refl _ _).alloc (Nat.le_refl _) _).alloc (by simp) _
  have y0 : (w.alloc (.cells #[.pointer none, .int .i64 0] 181)).cell? ⟨w.heap.size, 0, none⟩ = some (.pointer none) := by simp
  have y1 : (w.alloc (.cells #[.pointer none, .int .i64 0] 181)).cell? ⟨w.heap.size, 1, none⟩ = some (.int .i64 0) := by simp
  have Y := Lib.hid (And.intro (cell_past y0 (.cells #[.pointer none, .int .i64 0] 181)) (cell_past y1 (.cells #[.pointer none, .int .i64 0] 181)))
  unfold ptrV
  simp only [List.length_nil, Int.natCast_zero] at d32
  clear y0 y1
  clear h c32 c33 cf
  go_enter Tryz.func110, Tryz.ntmps110
  go_wp2_with fail
  refine bodyPost_ret (pop_resultsV _ w.heap.size _ _ _ _ rfl rfl Y.out.1 Y.out.2) rfl ?_
  exact ⟨rfl, hb⟩

set_option maxRecDepth 100000 in
set_option maxHeartbeats 4000000 in
theorem stackPop_someV {w : World} {q : Nat} {l : List (Nat × Nat)} {x : Nat × Nat} (h : StackWV w q (l ++ [x])) :
    Calls Tryz.prog 110 #[ptrV q] w fun e w' => e = .returned (.tuple #[.agg #[ptrV x.1, .int .i64 (x.2 : Int)], .bool true]) ∧ StackWV w' q l ∧ w.grownBy w' (some q) := by
  have hb : Below w.heap.size w ((w.alloc (.cells #[.pointer none, .int .i64 0] 181)).alloc (.cells #[.pointer none, .int .i64 0] 181)) := ((Below.refl _ _).alloc (Nat.le_refl _) _).alloc (by simp) _
  have hq := h.lt
  have hl : l.length < 16 := by have := h.len; simp at this; omega
  have h2 : StackWV ((w.alloc (.cells #[.pointer none, .int .i64 0] 181)).alloc (.cells #[.pointer none, .int .i64 0] 181)) q (l ++ [x]) := h.heap (hb.block q hq)
  obtain ⟨d32, d33, df, dx⟩ := h2.reads
  obtain ⟨x0, x1⟩ := dx l.length x (by rw [List.getElem?_append_right (Nat.le_refl _)]; simp)
  have hlen : ((l ++ [x]).length : Int) = (l.length : Int) + 1 := by simp
  rw [hlen] at d32
  obtain ⟨c32, c33, cf, cx⟩ := h.reads
  obtain ⟨z0, z1⟩ := cx l.length x (by rw [List.getElem?_append_right (Nat.le_refl _)]; simp)
  rw [hlen] at c32
  have hw1 : IntKind.i64.wrap ((l.length : Int) + 1 - 1) = (l.length : Int) := by rw [IntWalk.i64_in _ (by omega)]; omega
  have hw2 : IntKind.i64.wrap (l.length : Int) = (l.length : Int) := IntWalk.i64_in _ (by omega)
  have hne : ((l.length : Int) + 1 == 0) = false := by rw [beq_eq_false_iff_ne]; omega
  have hl16 : (l.length : Int) < 16 := by omega
  have hl0 : (0 : Int) ≤ (l.length : Int) := by omega
  have HPO := Lib.hid (h.post (.cells #[.pointer none, .int .i64 0] 181) (.cells #[.pointer none, .int .i64 0] 181))
  have HPR := Lib.hid (h.pre (.cells #[.pointer none, .int .i64 0] 181) (.cells #[.pointer none, .int .i64 0] 181))
  unfold ptrV at x0 z0 HPR ⊢
  clear h h2 dx cx hlen
  go_enter Tryz.func110, Tryz.ntmps110
  go_wp2_with fail
  obtain ⟨⟨p32, p0, p1⟩, pf⟩ := HPR.out
  obtain ⟨cs5, hcs, hsz5, hrd, hend⟩ := HPO.out
  have hWs : (((w.setCell ⟨q, 32, none⟩ (.int .i64 (l.length : Int))).alloc (.cells #[.pointer none, .int .i64 0] 181)).alloc (.cells #[.pointer none, .int .i64 0] 181)).heap.size = w.heap.size + 1 + 1 := by simp
  have ho0 : (((w.setCell ⟨q, 32, none⟩ (.int .i64 (l.length : Int))).alloc (.cells #[.pointer none, .int .i64 0] 181)).alloc (.cells #[.pointer none, .int .i64 0] 181)).heap[w.heap.size]? = some (.cells #[.pointer none, .int .i64 0] 181) := by
    rw [Below.heap_alloc _ _ _ (by simp)]
    have := heap_alloc_new (w.setCell ⟨q, 32, none⟩ (.int .i64 (l.length : Int))) (.cells #[.pointer none, .int .i64 0] 181)
    simpa using this
  have ho1 : (((w.setCell ⟨q, 32, none⟩ (.int .i64 (l.length : Int))).alloc (.cells #[.pointer none, .int .i64 0] 181)).alloc (.cells #[.pointer none, .int .i64 0] 181)).heap[w.heap.size + 1]? = some (.cells #[.pointer none, .int .i64 0] 181) := by
    have := heap_alloc_new ((w.setCell ⟨q, 32, none⟩ (.int .i64 (l.length : Int))).alloc (.cells #[.pointer none, .int .i64 0] 181)) (.cells #[.pointer none, .int .i64 0] 181)
    simpa using this
  have hgr : w.grownBy (((w.setCell ⟨q, 32, none⟩ (.int .i64 (l.length : Int))).alloc (.cells #[.pointer none, .int .i64 0] 181)).alloc (.cells #[.pointer none, .int .i64 0] 181)) (some q) := ⟨rfl, rfl, rfl, by simp; omega, fun k hk hne => by
    rw [Below.heap_alloc _ _ _ (by simp; omega), Below.heap_alloc _ _ _ (by simpa using hk), heap_setCell_other _ _ k _ (fun e => hne (by rw [e]))]⟩
  clear c32 c33 cf z0 z1 d32 d33 df x0 x1
  generalize hWg : ((w.setCell ⟨q, 32, none⟩ (.int .i64 (l.length : Int))).alloc (.cells #[.pointer none, .int .i64 0] 181)).alloc (.cells #[.pointer none, .int .i64 0] 181) = W5 at *
  have r32 := cell_past p32 (.cells #[.pointer none, .int .i64 0] 181)
  have r0 := cell_past p0 (.cells #[.pointer none, .int .i64 0] 181)
  have r1 := cell_past p1 (.cells #[.pointer none, .int .i64 0] 181)
  have hq5 : q < W5.heap.size := by rw [hWs]; omega
  have HE := Lib.hid hend
  have HRD := Lib.hid hrd
  clear hend hrd
  go_region
  all_goals
    go_wp2_with fail
    have hW6 : (W5.alloc (.cells #[.pointer (some ⟨x.1, 0, none⟩), .int .i64 (x.2 : Int)] 181)).drew.heap.size = w.heap.size + 1 + 1 + 1 := by show (W5.alloc (.cells #[.pointer (some ⟨x.1, 0, none⟩), .int .i64 (x.2 : Int)] 181)).heap.size = _; simp [hWs]
    have s32 := cell_past p32 (.cells #[.pointer (some ⟨x.1, 0, none⟩), .int .i64 (x.2 : Int)] 181)
    have s0 := cell_past p0 (.cells #[.pointer (some ⟨x.1, 0, none⟩), .int .i64 (x.2 : Int)] 181)
    have s1 := cell_past p1 (.cells #[.pointer (some ⟨x.1, 0, none⟩), .int .i64 (x.2 : Int)] 181)
    have sq : (W5.alloc (.cells #[.pointer (some ⟨x.1, 0, none⟩), .int .i64 (x.2 : Int)] 181)).drew.heap[q]? = some (.cells cs5 199 (0, 0)) := by
      show (W5.alloc (.cells #[.pointer (some ⟨x.1, 0, none⟩), .int .i64 (x.2 : Int)] 181)).heap[q]? = _
      rw [Below.heap_alloc _ _ _ hq5]; exact hcs
    have so0 : (W5.alloc (.cells #[.pointer (some ⟨x.1, 0, none⟩), .int .i64 (x.2 : Int)] 181)).drew.heap[w.heap.size]? = some (.cells #[.pointer none, .int .i64 0] 181) := by
      show (W5.alloc (.cells #[.pointer (some ⟨x.1, 0, none⟩), .int .i64 (x.2 : Int)] 181)).heap[w.heap.size]? = _
      rw [Below.heap_alloc _ _ _ (by omega)]; exact ho0
    have so1 : (W5.alloc (.cells #[.pointer (some ⟨x.1, 0, none⟩), .int .i64 (x.2 : Int)] 181)).drew.heap[w.heap.size + 1]? = some (.cells #[.pointer none, .int .i64 0] 181) := by
      show (W5.alloc (.cells #[.pointer (some ⟨x.1, 0, none⟩), .int .i64 (x.2 : Int)] 181)).heap[w.heap.size + 1]? = _
      rw [Below.heap_alloc _ _ _ (by omega)]; exact ho1
    have so2 : (W5.alloc (.cells #[.pointer (some ⟨x.1, 0, none⟩), .int .i64 (x.2 : Int)] 181)).drew.heap[w.heap.size + 1 + 1]? = some (.cells #[.pointer (some ⟨x.1, 0, none⟩), .int .i64 (x.2 : Int)] 181) := by
      have := heap_alloc_new W5 (.cells #[.pointer (some ⟨x.1, 0, none⟩), .int .i64 (x.2 : Int)] 181)
      rw [hWs] at this
      exact this
    have hg6 : w.grownBy (W5.alloc (.cells #[.pointer (some ⟨x.1, 0, none⟩), .int .i64 (x.2 : Int)] 181)).drew (some q) := ⟨hgr.os, hgr.tape, hgr.output, by rw [hW6]; omega, fun k hk hne => by
      show (W5.alloc (.cells #[.pointer (some ⟨x.1, 0, none⟩), .int .i64 (x.2 : Int)] 181)).heap[k]? = _
      rw [Below.heap_alloc _ _ _ (by omega)]; exact hgr.block k hk hne⟩
    clear s32 s0 s1 r32 r0 r1 p32 p0 p1 pf
    generalize (W5.alloc (.cells #[.pointer (some ⟨x.1, 0, none⟩), .int .i64 (x.2 : Int)] 181)).drew = W6 at *
    obtain ⟨t32, ⟨u0, t0⟩, ⟨u1, t1⟩, tf⟩ := HRD.out W6 sq
    have v0 : W6.cell? ⟨w.heap.size, 0, none⟩ = some (.pointer none) := by simp [World.cell?, so0]
    have v1 : W6.cell? ⟨w.heap.size, 1, none⟩ = some (.int .i64 0) := by simp [World.cell?, so0]
    have vf : ∀ j, W6.frozen? ⟨w.heap.size, j, none⟩ = false := fun j => by simp [World.frozen?, so0]
    have n0 : W6.cell? ⟨w.heap.size + 1, 0, none⟩ = some (.pointer none) := by simp [World.cell?, so1]
    have n1 : W6.cell? ⟨w.heap.size + 1, 1, none⟩ = some (.int .i64 0) := by simp [World.cell?, so1]
    have y0 : W6.cell? ⟨w.heap.size + 1 + 1, 0, none⟩ = some (.pointer (some ⟨x.1, 0, none⟩)) := by simp [World.cell?, so2]
    have y1 : W6.cell? ⟨w.heap.size + 1 + 1, 1, none⟩ = some (.int .i64 (x.2 : Int)) := by simp [World.cell?, so2]
    have hqs : ¬ q = w.heap.size := by omega
    have hqs1 : ¬ q = w.heap.size + 1 := by omega
    have hqs2 : ¬ q = w.heap.size + 1 + 1 := by omega
    have HSQ := Lib.hid sq
    have HO0 := Lib.hid so0
    have HG6 := Lib.hid hg6
    clear sq so0 so1 so2 hg6 HPR HPO
    go_region
    all_goals
      go_wp2_with fail
      have hv := out_twoV (v0 := .pointer (some ⟨x.1, 0, none⟩)) (v1 := .int .i64 (x.2 : Int)) (show ((W6.setCell ⟨q, l.length * 2, none⟩ (.pointer none)).setCell ⟨q, l.length * 2 + 1, none⟩ (.int .i64 0)).heap[w.heap.size]? = _ from by rw [heap_setCell_other _ _ _ _ (fun e => hqs e.symm), heap_setCell_other _ _ _ _ (fun e => hqs e.symm)]; exact HO0.out)
      refine bodyPost_ret (pop_resultsV _ w.heap.size _ _ _ _ rfl rfl hv.1 hv.2) rfl ?_
      refine ⟨rfl, HE.out _ ?_, ?_⟩
      · show ((((W6.setCell ⟨q, l.length * 2, none⟩ (.pointer none)).setCell ⟨q, l.length * 2 + 1, none⟩ (.int .i64 0)).setCell ⟨w.heap.size, 0, none⟩ (.pointer (some ⟨x.1, 0, none⟩))).setCell ⟨w.heap.size, 1, none⟩ (.int .i64 (x.2 : Int))).heap[q]? = _
        rw [heap_setCell_other _ _ _ _ hqs, heap_setCell_other _ _ _ _ hqs]
        exact heap_setCell_same _ q _ _ _ _ (heap_setCell_same W6 q _ _ _ _ HSQ.out)
      · have hg := HG6.out
        refine ⟨hg.os, hg.tape, hg.output, by simp [hW6]; omega, fun k hk hne => ?_⟩
        have hkq : k ≠ q := fun e => hne (by rw [e])
        show ((((W6.setCell ⟨q, l.length * 2, none⟩ (.pointer none)).setCell ⟨q, l.length * 2 + 1, none⟩ (.int .i64 0)).setCell ⟨w.heap.size, 0, none⟩ (.pointer (some ⟨x.1, 0, none⟩))).setCell ⟨w.heap.size, 1, none⟩ (.int .i64 (x.2 : Int))).heap[k]? = _
        rw [heap_setCell_other _ _ k _ (by show k ≠ w.heap.size; omega), heap_setCell_other _ _ k _ (by show k ≠ w.heap.size; omega), heap_setCell_other _ _ k _ hkq, heap_setCell_other _ _ k _ hkq]
        exact hg.block k hk hne
end Go.Proofs.YtejhbaeeaejcaaaGreat
/- The walks of slices.Clone and slices.Replace at nodes. Conditions: those of each theorem. -/
namespace Go.Proofs.YtejhbaeeaejcaaaGreat
open Go.RowKit

def encP (n : Nat) : List Value := [ptrV n]
theorem encP_len (e : Nat) : (encP e).length = 1 := rfl
theorem encP_one (e : Nat) : ∀ u ∈ encP e, u.oneCell' = true := fun u hu => by
  simp [encP] at hu
  subst hu
  rfl
theorem infoPN : (Tryz.prog.info? 91).map (fun i => (i.zero, i.size, i.bytes)) = some (some (.pointer none), 1, 8) := by kernel_rfl
theorem RowE.ptr {w : World} {a : Option Addr} {n : Nat} {l : List Nat} (h : RowE encP 1 w a n l) (i q : Nat) (hq : l[i]? = some q) : ∃ b o, a = some ⟨b, o, none⟩ ∧ w.cell? ⟨b, o + i, none⟩ = some (ptrV q) := by
  obtain ⟨b, o, e, h1⟩ := h.2 i q hq
  exact ⟨b, o, e, by have := h1 0 (ptrV q) rfl; simpa using this⟩

set_option maxRecDepth 100000 in
set_option maxHeartbeats 4000000 in
theorem cloneP_any {w : World} {b o n c : Nat} {l : List Nat} (h : RowE encP 1 w (some ⟨b, o, none⟩) n l) (hn : n ≤ 1000) :
    Calls Tryz.prog 72 #[.slice (some ⟨b, o, none⟩) n c] w fun r w' => ∃ v', r = .returned v' ∧ OwnE encP 1 91 w' w.heap.size v' l ∧ Below w.heap.size w w' := by
  obtain ⟨i0, hi0, hz0, hz1, hz2⟩ := info_cut infoPN
  have hb0 : Below w.heap.size w (w.alloc (.cells #[] 91)) := (Below.refl _ _).alloc (Nat.le_refl _) _
  have hown : OwnE encP 1 91 (w.alloc (.cells #[] 91)) w.heap.size (.slice (some ⟨w.heap.size, 0, none⟩) 0 0) [] := World.ownsRow_made w #[] 0 (Nat.le_refl _) (Nat.zero_le _) (by simp)
  have h1 : RowE encP 1 (w.alloc (.cells #[] 91)) (some ⟨b, o, none⟩) n l := ⟨h.1, fun i r hr => by
    obtain ⟨b', o', e, h2⟩ := h.2 i r hr
    exact ⟨b', o', e, fun j x hx => cell_past (h2 j x hx) _⟩⟩
  obtain ⟨v', w', hap, ho, hg⟩ := hown.app encP_len (by decide) encP_one Tryz.underlying126 hi0 hz0 hz1 hz2 rfl c h1 (by simp; omega) (by simp; omega) hb0.size
  have HR := Lib.hid (And.intro ho (Below.own hb0 hown hg (Nat.le_refl _) hb0.size))
  have q22 : (binOp .eql 126 (.slice (some ⟨b, o, none⟩) n c) (.slice none 0 0)).run Tryz.prog w = .ok (.bool false) w := Lib.run_eql_slice_nil w _ _ _ n c 0 0 Tryz.underlying126
  clear h h1 hown ho hg hb0 hi0 hz0 hz1 hz2
  go_enter Tryz.func72, Tryz.ntmps72
  go_wp2_with (at_builtin; refine wpList_append_run rfl _ _ _ rfl hap ?_)
  go_ret
  exact ⟨v', rfl, HR.out⟩

theorem overlaps_pn {w : World} {vb b : Nat} {ca cb : Array Value} {ta tb : TypeId} (h1 : w.heap[vb]? = some (.cells ca ta (0, 0))) (h2 : w.heap[b]? = some (.cells cb tb (0, 0))) (hne : b ≠ vb) (hca : ca.size ≠ 0) (o la va lb vc : Nat) :
    (callFunc 97 #[.slice (some ⟨b, o, none⟩) lb vc, .slice (some ⟨vb, 0, none⟩) la va]).run Tryz.prog w = .ok (.value (.bool false)) w := by
  obtain ⟨i0, hi, hz0, hz1, hz2⟩ := info_cut infoPN
  rw [run_callFunc_extern Tryz.func97 (by kernel_rfl) (by kernel_rfl) (by kernel_rfl) (e := Extern.SlicesOverlaps.overlaps #[126, 126] #[4]) (by kernel_rfl),
    Lib.run_overlaps_apart w 126 4 91 Tryz.underlying126 1 (fun w => by simp [sizeOf, typeInfo, hi, hz1]) ⟨b, o, none⟩ ⟨vb, 0, none⟩ lb vc la va hne tb ta cb.size ca.size (by simp [World.shape?, h2]) (by simp [World.shape?, h1]) hca (by simp [World.frozen?, h2]) (by simp [World.frozen?, h2])]
  rfl

set_option maxRecDepth 100000 in
set_option maxHeartbeats 16000000 in
theorem replace_any {w : World} {B : Nat} {v : Value} {l : List Nat} (h : OwnE encP 1 91 w B v l) (i j : Nat) (hij : i < j) (hj : j ≤ l.length) (hl : l.length ≤ 1000) {b2 : Nat} {c2 : Nat} {l2 : List Nat} (h2 : RowE encP 1 w (some ⟨b2, 0, none⟩) l2.length l2) (h20 : 0 < l2.length) (h21 : l2.length ≤ 1000) (h22 : l2.length ≤ j - i + 1)
    {cur2 : Array Value} {t2 : TypeId} (hb2 : w.heap[b2]? = some (.cells cur2 t2 (0, 0))) (hc2 : cur2.size ≠ 0) (hne : v.ownBlock ≠ some b2) (hB : B ≤ w.heap.size) :
    Calls Tryz.prog 71 #[v, .int .i64 (i : Int), .int .i64 (j : Int), .slice (some ⟨b2, 0, none⟩) l2.length c2] w fun r w' => ∃ v', r = .returned v' ∧ OwnE encP 1 91 w' B v' (l.take i ++ (l2 ++ l.drop j)) ∧ w.grownBy w' v.ownBlock := by
  obtain ⟨i0, hi0, hz0, hz1, hz2⟩ := info_cut infoPN
  rcases h.cases with ⟨rfl, rfl⟩ | ⟨g, cap, rfl, hbg, hgs, hR⟩
  · simp at hj; omega
  have hgb : g ≠ b2 := fun e => hne (by rw [e]; rfl)
  have hle := hR.le
  have hcm : cap ≤ 9223372036854775807 := by have := hR.cm; unfold maxLen at this; omega
  have hdl : (l.drop j).length = l.length - j := List.length_drop
  have hli : (l.take i).length = i := by rw [List.length_take]; omega
  have hRr := hR.row encP_len
  have hsd : RowE encP 1 w (some ⟨g, j, none⟩) (l.length - j) (l.drop j) := by simpa using hRr.drop j
  have hc2r := RowE.cells encP_len (by decide) h2
  have hb2s : b2 < w.heap.size := (Array.getElem?_eq_some_iff.1 hb2).1
  have hne0 : (i : Int) ≠ (j : Int) := by omega
  by_cases hend : j = l.length
  · subst hend
    have hfin : l.take i ++ (l2 ++ l.drop l.length) = l.take i ++ l2 := by rw [List.drop_length, List.append_nil]
    by_cases hsh : i + l2.length < l.length
    · obtain ⟨w1, hr1, hR1, hT1⟩ := run_appRoomE encP_len encP_one (t := 126) Tryz.underlying126 hi0 hz1 hR i (by omega) l2 ⟨b2, 0, none⟩ hc2r (by omega)
      obtain ⟨w2, hr2, hR2, hT2⟩ := run_clearE (by decide) (t := 126) (z := .pointer none) Tryz.underlying126 (fun w => by simp [zeroValue, typeInfo, hi0, hz0]) rfl (fun u hu => by simp [Value.cells] at hu; subst hu; rfl) hR1 (i + l2.length) (l.length - (i + l2.length)) (by rw [List.length_append, hli]; exact Nat.le_refl _) (by omega) ((i + l2.length) * 1) (.inr rfl)
      have hown := hR2.own encP_len hbg
      rw [List.length_append, hli, ← hfin] at hown
      have HR := Lib.hid (And.intro hown (hT1.trans hT2).grown)
      simp only [Nat.mul_one] at hr1 hr2
      have hn1 : ¬ cap = i + l2.length := by omega
      have hn2 : i ≤ cap := by omega
      have hn3 : (i : Int) + (l2.length : Int) < (l.length : Int) := by omega
      have hn4 : i + l2.length ≤ l.length := by omega
      have hn5 : i ≤ l.length := by omega
      clear h hR hRr hsd hR1 hR2 hT1 hT2 hc2r hown hfin hi0 hz0 hz1 hz2 hdl hli hgs hbg h2 hb2 hc2 hb2s hne
      generalize hn : l.length = n at *
      generalize hm : l2.length = m at *
      go_enter Tryz.func71, Tryz.ntmps71
      go_wp2_with (at_builtin; refine wpList_append_run rfl _ _ _ rfl (hr1 _ _) ?_)
      go_ret
      exact ⟨_, rfl, HR.out⟩
    · have hown0 := (hR.take encP_len i).own encP_len hbg
      rw [hli] at hown0
      obtain ⟨v1, w1, hr1, ho1, hg1⟩ := hown0.app encP_len (by decide) encP_one Tryz.underlying126 hi0 hz0 hz1 hz2 rfl c2 h2 (by omega) (by omega) hB
      rw [← hfin] at ho1
      have HR := Lib.hid (And.intro ho1 (show w.grownBy w1 (some g) from hg1))
      obtain ⟨a1, cap1, rfl, -, hcap1, -⟩ := ho1.row encP_len
      have hll : (l.take i ++ (l2 ++ l.drop l.length)).length = i + l2.length := by rw [hfin, List.length_append, hli]
      rw [hll] at hr1 HR
      have hn2 : i ≤ cap := by omega
      have hn3 : ¬ ((i : Int) + (l2.length : Int) < (l.length : Int)) := by omega
      have hn5 : i ≤ l.length := by omega
      clear h hR hRr hsd ho1 hg1 hown0 hc2r hfin hi0 hz0 hz1 hz2 hdl hli hgs hbg h2 hb2 hc2 hb2s hne hll hcap1
      generalize hn : l.length = n at *
      generalize hm : l2.length = m at *
      go_enter Tryz.func71, Tryz.ntmps71
      go_wp2_with (at_builtin; refine wpList_append_run rfl _ _ _ rfl hr1 ?_)
      go_ret
      exact ⟨_, rfl, HR.out⟩
  have hjl : j < l.length := by omega
  have hlen3 : (l.take i ++ (l2 ++ l.drop j)).length = i + l2.length + (l.length - j) := by rw [List.length_append, List.length_append, hli, hdl, Nat.add_assoc]
  have hx0 : IntKind.i64.wrap ((i : Int) + (l2.length : Int)) = ((i + l2.length : Nat) : Int) := by rw [IntWalk.i64_in _ (by omega)]; omega
  have hx1 : IntKind.i64.wrap (((i + l2.length : Nat) : Int) + ((l.length - j : Nat) : Int)) = ((i + l2.length + (l.length - j) : Nat) : Int) := by rw [IntWalk.i64_in _ (by omega)]; omega
  have hk0 : ¬ ((j : Int) = (l.length : Int)) := by omega
  have hk1 : ¬ cap = j := by omega
  have hk2 : i ≤ cap := by omega
  have hk3 : j ≤ cap := by omega
  have hk4 : i ≤ l.length := by omega
  have hl2len : (l.take i ++ l2).length = i + l2.length := by rw [List.length_append, hli]
  by_cases hroom : i + l2.length + (l.length - j) ≤ cap
  · by_cases hsh : i + l2.length ≤ j
    · -- in place, no longer
      obtain ⟨w1, hr1, -, hR1, hT1⟩ := run_copyE encP_len encP_one (dT := 126) (sT := 126) Tryz.underlying126 hi0 hz1 (w := w.drew) (hR.heap rfl) i (by omega) l2 ⟨b2, 0, none⟩ hc2r (by omega) l2.length (i + l2.length + (l.length - j) - i) (by simp only [Nat.min_def]; split <;> omega)
      have hR1' := hR1 (by omega)
      have hl1 : (l.take i ++ l2 ++ l.drop (i + l2.length)).length = l.length := by rw [List.length_append, hl2len, List.length_drop]; omega
      have hdj : (l.take i ++ l2 ++ l.drop (i + l2.length)).drop j = l.drop j := by
        rw [List.drop_append, hl2len, List.drop_of_length_le (by rw [hl2len]; exact hsh), List.nil_append, List.drop_drop]
        congr 1; omega
      have hs1 : RowE encP 1 w1 (some ⟨g, j, none⟩) (l.length - j) (l.drop j) := by
        have := (hR1'.row encP_len).drop j
        rw [hdj, hl1] at this
        simpa using this
      obtain ⟨w2, hr2, hR2, -, hT2⟩ := run_copyE encP_len encP_one (dT := 126) (sT := 126) Tryz.underlying126 hi0 hz1 (w := w1.drew) (hR1'.heap rfl) (i + l2.length) (by rw [hl1]; omega) (l.drop j) ⟨g, j, none⟩ (RowE.cells encP_len (by decide) (w := w1.drew) hs1) (by rw [hdl]; omega) (l.length - j) (l.length - j) (by rw [hdl]; simp)
      have hfin : (l.take i ++ l2 ++ l.drop (i + l2.length)).take (i + l2.length) ++ l.drop j = l.take i ++ (l2 ++ l.drop j) := by
        rw [List.take_left' hl2len, List.append_assoc]
      rw [hfin] at hR2
      obtain ⟨o, hA, ho⟩ : ∃ o, (if cap = i + l2.length + (l.length - j) then (some ⟨g, 0, none⟩ : Option Addr) else some ⟨g, i + l2.length + (l.length - j), none⟩) = some ⟨g, o, none⟩ ∧ (l.length - (i + l2.length + (l.length - j)) = 0 ∨ o = (i + l2.length + (l.length - j)) * 1) := by
        by_cases h : cap = i + l2.length + (l.length - j)
        · exact ⟨0, by rw [if_pos h], .inl (by omega)⟩
        · exact ⟨_, by rw [if_neg h], .inr (by omega)⟩
      obtain ⟨w3, hr3, hR3, hT3⟩ := run_clearE (by decide) (t := 126) (z := .pointer none) Tryz.underlying126 (fun w => by simp [zeroValue, typeInfo, hi0, hz0]) rfl (fun u hu => by simp [Value.cells] at hu; subst hu; rfl) hR2 (i + l2.length + (l.length - j)) (l.length - (i + l2.length + (l.length - j))) (by rw [hlen3]; exact Nat.le_refl _) (by omega) o ho
      have hown := hR3.own encP_len hbg
      rw [hlen3] at hown
      have hg : w.grownBy w3 (some g) := (((show Turn g w w1 from ⟨hT1.os, hT1.tape, hT1.output, hT1.size, hT1.block⟩).trans (show Turn g w1 w2 from ⟨hT2.os, hT2.tape, hT2.output, hT2.size, hT2.block⟩)).trans hT3).grown
      have HR := Lib.hid (And.intro hown (show w.grownBy w3 (some g) from ⟨hg.os, hg.tape, hg.output, hg.size, hg.block⟩))
      simp only [Nat.mul_one] at hr1 hr2 hr3
      rw [hdl] at hr2
      have hk5 : ¬ cap = i := by omega
      have hk6 : ¬ cap = i + l2.length := by omega
      have hk7 : i + l2.length + (l.length - j) - (i + l2.length) = l.length - j := by omega
      have hk8 : ¬ ((cap : Int) < ((i + l2.length + (l.length - j) : Nat) : Int)) := by omega
      have hk9 : ((i + l2.length : Nat) : Int) ≤ (j : Int) := by omega
      have hk10 : i ≤ i + l2.length + (l.length - j) := by omega
      have hk11 : i + l2.length ≤ i + l2.length + (l.length - j) := by omega
      have hk12 : i + l2.length + (l.length - j) ≤ l.length := by omega
      have hk13 : j ≤ l.length := by omega
      clear h hR hRr hsd hR1 hR1' hR2 hR3 hT1 hT2 hT3 hc2r hown hfin hi0 hz0 hz1 hz2 hli hgs hbg h2 hb2 hc2 hb2s hne hdj hl1 hs1 hlen3 hl2len ho hg
      generalize hd : l.length - j = dj at *
      generalize hn : l.length = n at *
      generalize hm : l2.length = m at *
      generalize htot : i + m + dj = tot at *
      generalize him : i + m = im at *
      go_enter Tryz.func71, Tryz.ntmps71
      go_wp2_with fail
      go_region
      go_wp2_with (at_builtin; refine wpList_copy_runK rfl _ _ _ _ rfl (hr1 _ _ _) ?_)
      go_region_law (refine step_copy_runK rfl _ _ 126 126 rfl _ _ (by simp [Act.eval, Act.put]; done) (by simp [Act.eval, Act.put]) (hr2 _ _ _) ?_)
      go_wp2_with fail
      go_ret
      exact ⟨_, rfl, HR.out⟩
    · -- in place, longer
      have hil : i + l2.length ≤ l.length := by omega
      obtain ⟨w1, hr1, hR1, -, hT1⟩ := run_copyE encP_len encP_one (dT := 126) (sT := 126) Tryz.underlying126 hi0 hz1 (w := w.drew.drew) (hR.heap rfl) (i + l2.length) hil (l.drop j) ⟨g, j, none⟩ (RowE.cells encP_len (by decide) (w := w.drew.drew) hsd) (by rw [hdl]; omega) (l.length - j) (l.length - j) (by rw [hdl]; simp)
      have hl1 : (l.take (i + l2.length) ++ l.drop j).length = i + l2.length + (l.length - j) := by rw [List.length_append, List.length_take, hdl]; omega
      have hc2w : ∀ t u, (cellsE encP l2)[t]? = some u → w1.cell? ((⟨b2, 0, none⟩ : Addr).add t) = some u := fun t u hu => by
        rw [← hc2r t u hu, add_pl]
        simp only [World.cell?]
        rw [hT1.block b2 (fun e => hgb e.symm)]
        rfl
      obtain ⟨w2, hr2, -, hR2, hT2⟩ := run_copyE encP_len encP_one (dT := 126) (sT := 126) Tryz.underlying126 hi0 hz1 hR1 i (by rw [hl1]; omega) l2 ⟨b2, 0, none⟩ hc2w (by omega) l2.length (i + l2.length + (l.length - j) - i) (by simp only [Nat.min_def]; split <;> omega)
      have hR2' := hR2 (by rw [hl1]; omega)
      have hfin : (l.take (i + l2.length) ++ l.drop j).take i ++ l2 ++ (l.take (i + l2.length) ++ l.drop j).drop (i + l2.length) = l.take i ++ (l2 ++ l.drop j) := by
        rw [List.drop_left' (by rw [List.length_take]; omega), List.take_append_of_le_length (by rw [List.length_take]; omega), List.take_take, Nat.min_eq_left (by omega), List.append_assoc]
      rw [hfin] at hR2'
      have hown := hR2'.own encP_len hbg
      rw [hlen3] at hown
      have hg : w.grownBy w2 (some g) := ((show Turn g w w1 from ⟨hT1.os, hT1.tape, hT1.output, hT1.size, hT1.block⟩).trans hT2).grown
      have HR := Lib.hid (And.intro hown hg)
      obtain ⟨curg, hcg, hcz, -⟩ := hR.ex
      have hov := fun la va lb vc => overlaps_pn (w := w.drew) hb2 hcg hgb hc2 (i + l2.length) la va lb vc
      simp only [Nat.mul_one] at hr1 hr2
      rw [hdl] at hr1
      have hk5 : ¬ cap = i := by omega
      have hk6 : ¬ cap = i + l2.length := by omega
      have hk7 : i + l2.length + (l.length - j) - (i + l2.length) = l.length - j := by omega
      have hk8 : ¬ ((cap : Int) < ((i + l2.length + (l.length - j) : Nat) : Int)) := by omega
      have hk9 : ¬ ((i + l2.length : Nat) : Int) ≤ (j : Int) := by omega
      have hk10 : i ≤ i + l2.length + (l.length - j) := by omega
      have hk11 : i + l2.length ≤ i + l2.length + (l.length - j) := by omega
      have hk13 : j ≤ l.length := by omega
      clear h hR hRr hsd hR1 hR2 hR2' hT1 hT2 hc2r hc2w hown hfin hi0 hz0 hz1 hz2 hli hgs hbg h2 hb2 hc2 hb2s hne hl1 hlen3 hl2len hg hcg hcz
      generalize hd : l.length - j = dj at *
      generalize hn : l.length = n at *
      generalize hm : l2.length = m at *
      generalize htot : i + m + dj = tot at *
      generalize him : i + m = im at *
      go_enter Tryz.func71, Tryz.ntmps71
      go_wp2_with fail
      go_region
      go_wp2_with (simp only [hov])
      go_region_law (refine step_copy_runK rfl _ _ 126 126 rfl _ _ (by simp [Act.eval, Act.put]; done) (by simp [Act.eval, Act.put]) (hr1 _ _ _) ?_)
      go_wp2_with (at_builtin; refine wpList_copy_runK rfl _ _ _ _ rfl (hr2 _ _ _) ?_)
      go_ret
      exact ⟨_, rfl, HR.out⟩
  · -- a new row
    obtain ⟨cap1, w1, hr1, hR1, hc1, hb1, hsz1⟩ := run_appMakeE encP_len (by decide) (t := 126) (tn := 3) (kq := .i64) (kn := .i64) Tryz.underlying126 Tryz.underlying3 hi0 hz0 hz1 hz2 rfl (w := w.drew) (hR.heap rfl) i (by omega) (i + l2.length + (l.length - j) - i) (by omega) (by omega) (by omega) (by omega)
    have hbb : Below w.heap.size w w1 := ⟨hb1.os, hb1.tape, hb1.output, hb1.size, hb1.block⟩
    have hsz1' : w1.heap.size = w.heap.size + 1 := hsz1
    have hc2w : ∀ t u, (cellsE encP l2)[t]? = some u → w1.cell? ((⟨b2, 0, none⟩ : Addr).add t) = some u := fun t u hu => by
      rw [← hc2r t u hu, add_pl]
      exact hbb.cell (p := ⟨b2, 0 + t, none⟩) hb2s
    obtain ⟨w2, hr2, hR2, -, hT2⟩ := run_copyE encP_len encP_one (dT := 126) (sT := 126) Tryz.underlying126 hi0 hz1 hR1 i (by rw [hli]; exact Nat.le_refl _) l2 ⟨b2, 0, none⟩ hc2w (by omega) l2.length (i + l2.length + (l.length - j) - i) (by simp only [Nat.min_def]; split <;> omega)
    have hsd2 : RowE encP 1 w2.drew (some ⟨g, j, none⟩) (l.length - j) (l.drop j) := by
      refine hsd.same (S := fun j => j = g) (fun b' o' e' => by cases e'; rfl) (fun j hj => ?_)
      subst hj
      exact (hT2.block j (by show j ≠ w.heap.size; omega)).trans (hbb.block j hgs)
    have hp1 : ((l.take i).take i ++ l2).length = i + l2.length := by rw [List.take_take, Nat.min_self]; exact hl2len
    obtain ⟨w3, hr3, hR3, -, hT3⟩ := run_copyE encP_len encP_one (dT := 126) (sT := 126) Tryz.underlying126 hi0 hz1 (w := w2.drew) (hR2.heap rfl) (i + l2.length) (by rw [hp1]; exact Nat.le_refl _) (l.drop j) ⟨g, j, none⟩ (RowE.cells encP_len (by decide) hsd2) (by rw [hdl]; omega) (l.length - j) (l.length - j) (by rw [hdl]; simp)
    have hfin : ((l.take i).take i ++ l2).take (i + l2.length) ++ l.drop j = l.take i ++ (l2 ++ l.drop j) := by
      rw [List.take_of_length_le (by rw [hp1]; exact Nat.le_refl _), List.take_take, Nat.min_self, List.append_assoc]
    rw [hfin] at hR3
    have hown := hR3.own encP_len (show B ≤ w.drew.heap.size from hB)
    rw [hlen3] at hown
    have hg : w.grownBy w3 (some g) := ⟨hT3.os.trans (hT2.os.trans hb1.os), hT3.tape.trans (hT2.tape.trans hb1.tape), hT3.output.trans (hT2.output.trans hb1.output), by rw [hT3.size]; show w.heap.size ≤ w2.heap.size; rw [hT2.size, hsz1']; omega, fun j hj hne => by
      rw [hT3.block j (by show j ≠ w.heap.size; omega)]
      exact (hT2.block j (by show j ≠ w.heap.size; omega)).trans (hbb.block j hj)⟩
    have HR := Lib.hid (And.intro hown hg)
    have hx3 : IntKind.i64.wrap (((i + l2.length + (l.length - j) : Nat) : Int) - (i : Int)) = ((i + l2.length + (l.length - j) - i : Nat) : Int) := by rw [IntWalk.i64_in _ (by omega)]; omega
    simp only [Nat.mul_one] at hr1 hr2 hr3
    rw [hdl] at hr3
    have hdw : w.drew.heap.size = w.heap.size := rfl
    rw [hdw] at hr1 hr2 hr3 HR
    clear hdw
    have hk14 : i + (i + l2.length + (l.length - j) - i) = i + l2.length + (l.length - j) := by omega
    rw [hk14] at hr1 hc1
    have hk5 : ¬ cap1 = i := by omega
    have hk6 : ¬ cap1 = i + l2.length := by omega
    have hk7 : i + l2.length + (l.length - j) - (i + l2.length) = l.length - j := by omega
    have hk8 : (cap : Int) < ((i + l2.length + (l.length - j) : Nat) : Int) := by omega
    have hk10 : i ≤ i + l2.length + (l.length - j) := by omega
    have hk11 : i + l2.length ≤ i + l2.length + (l.length - j) := by omega
    have hk13 : j ≤ l.length := by omega
    clear h hR hRr hsd hR1 hR2 hR3 hT2 hT3 hb1 hbb hc2r hc2w hown hfin hi0 hz0 hz1 hz2 hli hbg h2 hb2 hc2 hb2s hne hp1 hlen3 hl2len hg hsd2 hsz1 hsz1' hk14
    generalize hd : l.length - j = dj at *
    generalize hn : l.length = n at *
    generalize hm : l2.length = m at *
    generalize htot : i + m + dj = tot at *
    generalize him : i + m = im at *
    go_enter Tryz.func71, Tryz.ntmps71
    go_wp2_with fail
    go_region
    go_wp2_with (first
      | (at_builtin; refine wpList_append_runK rfl _ _ _ _ rfl (hr1 _) ?_)
      | (at_builtin; refine wpList_copy_runK rfl _ _ _ _ rfl (hr2 _ _ _) ?_))
    go_region_law (refine step_copy_runK rfl _ _ 126 126 rfl _ _ (by simp [Act.eval, Act.put]; done) (by simp [Act.eval, Act.put]) (hr3 _ _ _) ?_)
    go_wp2_with fail
    go_ret
    exact ⟨_, rfl, HR.out⟩
end Go.Proofs.YtejhbaeeaejcaaaGreat
/- A region that draws its order and whose last operations write what its first ones read: what must hold behind an operation may hang on the operation. Conditions: those of each theorem. -/
namespace Go.Proofs.YtejhbaeeaejcaaaGreat
open Go

section
variable {P : Program} {ops : Array Oper} {Q : Exit → Act → World → Prop} {md : Region.Mode} {H : Nat → World → Prop}

/-- Whatever order is picked, and behind operation j the world meets H j. -/
def anyL (P : Program) (md : Region.Mode) (ops : Array Oper) (Q : Exit → Act → World → Prop) (H : Nat → World → Prop) : Nat → Array Bool → Act → World → Prop
  | 0, listed, a, w => Region.ready md ops listed = [] ∧ Q .normal a w
  | fuel + 1, listed, a, w =>
    (Region.ready md ops listed = [] → Q .normal a w) ∧
    ∀ i ∈ Region.ready md ops listed, wpOp P ops Q i (fun a' w' => H i w' ∧ anyL P md ops Q H fuel (listed.setIfInBounds i true) a' w') a w

theorem anyL_any : ∀ (fuel : Nat) (listed : Array Bool) (a : Act) (w : World), anyL P md ops Q H fuel listed a w → wpAny P md ops Q fuel listed a w
  | 0, _, _, _, h => h
  | fuel + 1, _, _, _, h => ⟨h.1, fun i hi => wpOp_mono (fun a' w' h' => anyL_any fuel _ a' w' h'.2) (h.2 i hi)⟩

/-- Operation j waits for operation i, at once or by way of others. -/
def waitsFor (md : Region.Mode) (ops : Array Oper) (i : Nat) : Nat → Nat → Bool
  | 0, _ => false
  | f + 1, j => match ops[j]? with
    | some o => o.after.any fun e => Region.binds md e && (e.on == i || waitsFor md ops i f e.on)
    | none => false
/-- What stands in the list waits for nothing that does not. -/
def Closed (md : Region.Mode) (ops : Array Oper) (listed : Array Bool) : Prop := ∀ j o, ops[j]? = some o → listed.getD j false = true → ∀ e ∈ o.after, Region.binds md e = true → listed.getD e.on false = true
def closedB (md : Region.Mode) (ops : Array Oper) (listed : Array Bool) : Bool := (List.range ops.size).all fun j => !listed.getD j false || match ops[j]? with
  | some o => o.after.all fun e => !Region.binds md e || listed.getD e.on false
  | none => true
theorem closedB_spec {listed : Array Bool} (h : closedB md ops listed = true) : Closed md ops listed := fun j o ho hl e he hb => by
  have h1 := List.all_eq_true.1 h j (List.mem_range.2 (Array.getElem?_eq_some_iff.1 ho).1)
  simp only [hl, ho, Bool.not_true, Bool.false_or] at h1
  have h2 := Array.all_eq_true_iff_forall_mem.1 h1 e he
  simpa [hb] using h2
theorem Closed.set {listed : Array Bool} (hc : Closed md ops listed) {i : Nat} (hi : i ∈ Region.ready md ops listed) : Closed md ops (listed.setIfInBounds i true) := fun j o ho hl e he hb => by
  by_cases hji : j = i
  · subst hji
    obtain ⟨-, o', ho', hall⟩ := mem_ready.1 hi
    rw [ho] at ho'
    cases ho'
    exact getD_set_true (hall e he hb)
  · rw [getD_set_ne false (Ne.symm hji)] at hl
    exact getD_set_true (hc j o ho hl e he hb)
theorem waitsFor_spec {i : Nat} {listed : Array Bool} (hc : Closed md ops listed) : ∀ (f j : Nat), waitsFor md ops i f j = true → (∀ o, ops[j]? = some o → ∀ e ∈ o.after, Region.binds md e = true → listed.getD e.on false = true) → listed.getD i false = true := by
  intro f
  induction f with
  | zero => intro j h; cases h
  | succ f ih =>
    intro j h hd
    unfold waitsFor at h
    cases ho : ops[j]? with
    | none => rw [ho] at h; cases h
    | some o =>
      rw [ho] at h
      obtain ⟨e, he, h2⟩ := Array.any_eq_true'.1 h
      simp only [Bool.and_eq_true, Bool.or_eq_true, beq_iff_eq] at h2
      have h3 := hd o ho e he h2.1
      rcases h2.2 with h4 | h4
      · rw [← h4]; exact h3
      · exact ih e.on h4 fun o' ho' => hc e.on o' ho' h3

/-- An operation that may come up now is taken first: it yields its value in every world that meets S, and behind each operation that is still to come S holds or that operation waits for it. -/
theorem anyL_first {S : World → Prop} {i : Nat} {oi : Oper} {v : Value} {f : Nat} (hi : ops[i]? = some oi) (hsel : ∀ (j : Nat) (o : Oper) cs b, ops[j]? = some o → o.op ≠ .select cs b)
    (hQ : ∀ c a w, Q (.panic c) (a.put oi.dst v) w → Q (.panic c) a w) (hSi : ∀ w, S w → H i w) :
    ∀ (fuel : Nat) (listed : Array Bool) (a : Act) (w : World),
      (∀ j oj, ops[j]? = some oj → j ≠ i → listed.getD j true = false → (∀ e ∈ oj.after, Region.binds md e = true → e.on ≠ i) → oi.apart ops oj = true) →
      (∀ j, listed.getD j true = true ∨ waitsFor md ops i f j = true ∨ ∀ w, H j w → S w) → Closed md ops listed →
      i ∈ Region.ready md ops listed → YieldsIf P ops S oi v a → S w →
      anyL P md ops Q H fuel (listed.setIfInBounds i true) (a.put oi.dst v) w → anyL P md ops Q H (fuel + 1) listed a w := by
  intro fuel
  induction fuel with
  | zero =>
    intro listed a w _ _ _ hr hy hS HH
    refine ⟨fun h => (by rw [h] at hr; cases hr), fun j hj => ?_⟩
    by_cases hji : j = i
    · subst hji; exact hy.wpOp hi hS ⟨hSi _ hS, HH⟩
    · have := ready_mono hj hji
      rw [HH.1] at this
      cases this
  | succ fuel ih =>
    intro listed a w hfree hHS hcl hr hy hS HH
    refine ⟨fun h => (by rw [h] at hr; cases hr), fun j hj => ?_⟩
    by_cases hji : j = i
    · subst hji; exact hy.wpOp hi hS ⟨hSi _ hS, HH⟩
    · have h1 := HH.2 j (ready_mono hj hji)
      obtain ⟨hjun, oj, hoj, hall⟩ := mem_ready.1 hj
      have hun : listed.getD i false ≠ true := fun h1 => by
        have h0 := (mem_ready.1 hr).1
        rcases Nat.lt_or_ge i listed.size with h' | h'
        · simp [h'] at h0 h1; rw [h0] at h1; cases h1
        · simp [Array.getElem?_eq_none h'] at h1
      have hnot : ∀ e ∈ oj.after, Region.binds md e = true → e.on ≠ i := fun e he hb heq => by
        have h1 := hall e he hb
        rw [heq] at h1
        exact hun h1
      have hS' : ∀ w, H j w → S w := by
        rcases hHS j with h | h | h
        · rw [hjun] at h; cases h
        · exact absurd (waitsFor_spec hcl f j h fun o ho => by rw [hoj] at ho; cases ho; exact hall) hun
        · exact h
      have h2 := wpOp_putIf hoj (hfree j oj hoj hji hjun hnot) (fun cs b => hsel i oi cs b hi) (fun cs b => hsel j oj cs b hoj) hQ hy h1
      have hmono : ∀ k, listed.getD k true = true → (listed.setIfInBounds j true).getD k true = true := fun k hk => by
        by_cases hjk : j = k
        · subst hjk; rw [hjun] at hk; cases hk
        · rw [getD_set_ne true hjk]; exact hk
      have hfree' : ∀ k ok, ops[k]? = some ok → k ≠ i → (listed.setIfInBounds j true).getD k true = false →
          (∀ e ∈ ok.after, Region.binds md e = true → e.on ≠ i) → oi.apart ops ok = true := fun k ok hk hki hun hno => by
        refine hfree k ok hk hki ?_ hno
        cases hc : listed.getD k true with
        | false => rfl
        | true => rw [hmono k hc] at hun; cases hun
      refine wpOp_mono (fun a' w' h3 => ⟨h3.2.1, ih (listed.setIfInBounds j true) a' w' hfree' (fun k => (hHS k).imp (hmono k) id) (hcl.set hj) (ready_mono hr (Ne.symm hji)) h3.1 (hS' _ h3.2.1) ?_⟩) h2
      rw [Array.setIfInBounds_comm _ _ hji]
      exact h3.2.2

/-- S0 holds behind every operation, S1 behind those that are not late. -/
def lateH (late : List Nat) (S0 S1 : World → Prop) (j : Nat) (w : World) : Prop := S0 w ∧ (late.contains j = false → S1 w)

variable {late : List Nat} {S0 S1 : World → Prop}
/-- What is asked of an operation that is taken first. -/
def takeB (md : Region.Mode) (ops : Array Oper) (late : List Nat) (listed : Array Bool) (i : Nat) : Bool :=
  Region.noSelect ops && Region.free md ops listed i && (Region.ready md ops listed).contains i && closedB md ops listed && (late.contains i || late.all fun j => listed.getD j true || waitsFor md ops i 8 j)
theorem anyL_take {i : Nat} {oi : Oper} {v : Value} {fuel : Nat} {listed : Array Bool} {a : Act} {w : World} (hi : ops[i]? = some oi)
    (hb : takeB md ops late listed i = true) (hQ : ∀ c a w, Q (.panic c) (a.put oi.dst v) w → Q (.panic c) a w)
    (hy : if late.contains i = true then YieldsIf P ops S0 oi v a else YieldsIf P ops (fun w => S0 w ∧ S1 w) oi v a) (hS : if late.contains i = true then S0 w else S0 w ∧ S1 w)
    (h : anyL P md ops Q (lateH late S0 S1) fuel (listed.setIfInBounds i true) (a.put oi.dst v) w) : anyL P md ops Q (lateH late S0 S1) (fuel + 1) listed a w := by
  simp only [takeB, Bool.and_eq_true] at hb
  obtain ⟨⟨⟨⟨hs, hf⟩, hr⟩, hc⟩, hw⟩ := hb
  cases hl : late.contains i with
  | true =>
    rw [if_pos hl] at hy hS
    exact anyL_first (f := 0) hi (Region.noSelect_spec hs) hQ (fun w hw => ⟨hw, fun e => by rw [hl] at e; cases e⟩) fuel listed a w (Region.free_spec hi hf) (fun _ => .inr (.inr fun _ h => h.1)) (closedB_spec hc) (by simpa using hr) hy hS h
  | false =>
    rw [if_neg (by rw [hl]; decide)] at hy hS
    rw [hl, Bool.false_or] at hw
    refine anyL_first (f := 8) hi (Region.noSelect_spec hs) hQ (fun w hw => ⟨hw.1, fun _ => hw.2⟩) fuel listed a w (Region.free_spec hi hf) (fun j => ?_) (closedB_spec hc) (by simpa using hr) hy hS h
    cases hj : late.contains j with
    | true =>
      have := List.all_eq_true.1 hw j (by simpa using hj)
      rw [Bool.or_eq_true] at this
      exact this.imp id .inl
    | false => exact .inr (.inr fun _ h => ⟨h.1, h.2 hj⟩)
theorem anyL_takeL (i : Nat) (d : Option Nat) {oi : Oper} {v : Value} {fuel : Nat} {listed : Array Bool} {a : Act} {w : World} (hi : ops[i]? = some oi) (hd : oi.dst = d) (hl : late.contains i = true)
    (hb : takeB md ops late listed i = true) (hQ : ∀ c a w, Q (.panic c) (a.put d v) w → Q (.panic c) a w) (hS : S0 w) (hy : YieldsIf P ops S0 oi v a)
    (h : anyL P md ops Q (lateH late S0 S1) fuel (listed.setIfInBounds i true) (a.put d v) w) : anyL P md ops Q (lateH late S0 S1) (fuel + 1) listed a w := by
  subst hd
  exact anyL_take hi hb hQ (by rw [if_pos hl]; exact hy) (by rw [if_pos hl]; exact hS) h
theorem anyL_takeS (i : Nat) (d : Option Nat) {oi : Oper} {v : Value} {fuel : Nat} {listed : Array Bool} {a : Act} {w : World} (hi : ops[i]? = some oi) (hd : oi.dst = d) (hl : late.contains i = false)
    (hb : takeB md ops late listed i = true) (hQ : ∀ c a w, Q (.panic c) (a.put d v) w → Q (.panic c) a w) (hS : S0 w ∧ S1 w) (hy : YieldsIf P ops (fun w => S0 w ∧ S1 w) oi v a)
    (h : anyL P md ops Q (lateH late S0 S1) fuel (listed.setIfInBounds i true) (a.put d v) w) : anyL P md ops Q (lateH late S0 S1) (fuel + 1) listed a w := by
  subst hd
  exact anyL_take hi hb hQ (by rw [if_neg (by rw [hl]; decide)]; exact hy) (by rw [if_neg (by rw [hl]; decide)]; exact hS) h
/-- Whichever of those that may come up comes up. -/
theorem anyL_all {rs : List Nat} {fuel : Nat} {listed : Array Bool} {a : Act} {w : World} (hr : Region.ready md ops listed = rs) (hne : rs ≠ [])
    (h : ∀ i ∈ rs, wpOp P ops Q i (fun a' w' => H i w' ∧ anyL P md ops Q H fuel (listed.setIfInBounds i true) a' w') a w) : anyL P md ops Q H (fuel + 1) listed a w :=
  ⟨fun h0 => absurd (hr ▸ h0) hne, hr ▸ h⟩
theorem anyL_one {i : Nat} {o : Oper} {fuel : Nat} {listed : Array Bool} {a : Act} {w : World} (hr : Region.ready md ops listed = [i]) (ho : ops[i]? = some o)
    (h : ∀ K' : Act → World → Prop, Shut (∀ a w, H i w → anyL P md ops Q H fuel (listed.setIfInBounds i true) a w → K' a w) → if Region.wanted o (yielded ops a.tmps) = true then Oper.wp P o a w K' Q else K' (a.put o.dst undef) w) : anyL P md ops Q H (fuel + 1) listed a w :=
  anyL_all hr (by simp) fun j hj => by
    rw [List.mem_singleton] at hj
    subst hj
    exact wpOp_step ho (fun K' hK => h K' (fun a w h1 h2 => hK a w ⟨h1, h2⟩))
theorem anyL_two {i i' : Nat} {o o' : Oper} {fuel : Nat} {listed : Array Bool} {a : Act} {w : World} (hr : Region.ready md ops listed = [i, i']) (ho : ops[i]? = some o) (ho' : ops[i']? = some o')
    (h : ∀ K' : Act → World → Prop, Shut (∀ a w, H i w → anyL P md ops Q H fuel (listed.setIfInBounds i true) a w → K' a w) → if Region.wanted o (yielded ops a.tmps) = true then Oper.wp P o a w K' Q else K' (a.put o.dst undef) w)
    (h' : ∀ K' : Act → World → Prop, Shut (∀ a w, H i' w → anyL P md ops Q H fuel (listed.setIfInBounds i' true) a w → K' a w) → if Region.wanted o' (yielded ops a.tmps) = true then Oper.wp P o' a w K' Q else K' (a.put o'.dst undef) w) : anyL P md ops Q H (fuel + 1) listed a w :=
  anyL_all hr (by simp) fun j hj => by
    rcases List.mem_cons.1 hj with rfl | hj
    · exact wpOp_step ho (fun K' hK => h K' (fun a w h1 h2 => hK a w ⟨h1, h2⟩))
    · rw [List.mem_singleton] at hj
      subst hj
      exact wpOp_step ho' (fun K' hK => h' K' (fun a w h1 h2 => hK a w ⟨h1, h2⟩))
theorem anyL_done {listed : Array Bool} {a : Act} {w : World} (hr : Region.ready md ops listed = []) (h : Q .normal a w) : ∀ fuel, anyL P md ops Q H fuel listed a w
  | 0 => ⟨hr, h⟩
  | _ + 1 => ⟨fun _ => h, by rw [hr]; simp⟩
theorem wp_region_late {id : Nat} {a : Act} {w : World} (hm : P.follows .mixedOrders = true) (late : List Nat) (S0 S1 : World → Prop)
    (h : anyL P .any ops Q (lateH late S0 S1) ops.size (Array.replicate ops.size false) a w.drew) : (Code.region id ops true).wp P Q a w :=
  wp_region_any hm (anyL_any _ _ _ _ h)
end
end Go.Proofs.YtejhbaeeaejcaaaGreat
/- A leaf that is being made: its rows and its block. Conditions: those of each theorem. -/
namespace Go.Proofs.YtejhbaeeaejcaaaGreat
open Go.RowKit

def encK (k : Nat) : List Value := [.int .u16 (kVol k : Int), .int .u32 (kBlk k : Int), .int .u64 (kSeq k : Int)]
theorem encK_len (e : Nat) : (encK e).length = 3 := rfl
theorem encK_one (e : Nat) : ∀ u ∈ encK e, u.oneCell' = true := fun u hu => by
  simp [encK] at hu
  rcases hu with rfl | rfl | rfl <;> rfl
def encA (n : Nat) : List Value := [atV n]
theorem encA_len (e : Nat) : (encA e).length = 1 := rfl
theorem encA_one (e : Nat) : ∀ u ∈ encA e, u.oneCell' = true := fun u hu => by
  simp [encA] at hu
  subst hu
  rfl
theorem infoKey : (Tryz.prog.info? 27).map (fun i => (i.zero, i.size, i.bytes)) = some (some (.agg #[.int .u16 0, .int .u32 0, .int .u64 0]), 3, 16) := by kernel_rfl
theorem infoU32 : (Tryz.prog.info? 24).map (fun i => (i.zero, i.size, i.bytes)) = some (some (.int .u32 0), 1, 4) := by kernel_rfl
theorem World.alloc_size (w : World) (o : Obj) : (w.alloc o).heap.size = w.heap.size + 1 := by simp
theorem RowE.new {α : Type} {enc : α → List Value} {k : Nat} (w : World) (x : α) (t : TypeId) : RowE enc k (w.alloc (.cells (enc x).toArray t)) (some ⟨w.heap.size, 0, none⟩) 1 [x] := by
  refine ⟨rfl, fun i r h => ?_⟩
  have hi : i < 1 := by simpa using (List.getElem?_eq_some_iff.1 h).1
  have : i = 0 := by omega
  subst this
  simp at h
  subst h
  refine ⟨w.heap.size, 0, rfl, fun j x hx => ?_⟩
  show (match (w.alloc (.cells _ t)).heap[w.heap.size]? with
    | some (.cells c _ _) => c[0 + 0 * k + j]?
    | _ => none) = _
  rw [heap_alloc_new]
  simpa using hx
theorem RowE.alloc {α : Type} {enc : α → List Value} {k : Nat} {w : World} {a : Option Addr} {n : Nat} {l : List α} (h : RowE enc k w a n l) (o : Obj) : RowE enc k (w.alloc o) a n l := ⟨h.1, fun i r hr => by
  obtain ⟨b, o', e, h1⟩ := h.2 i r hr
  exact ⟨b, o', e, fun j x hx => cell_past (h1 j x hx) _⟩⟩
theorem RowE.block {α : Type} {enc : α → List Value} {k : Nat} {w w' : World} {b o n : Nat} {l : List α} (h : RowE enc k w (some ⟨b, o, none⟩) n l) (hb : w'.heap[b]? = w.heap[b]?) : RowE enc k w' (some ⟨b, o, none⟩) n l :=
  h.same (S := fun j => j = b) (fun b' o' e => by cases e; rfl) (fun j hj => by subst hj; exact hb)
theorem RowE.below {α : Type} {enc : α → List Value} {k : Nat} {w w' : World} {a : Option Addr} {n : Nat} {l : List α} (h : RowE enc k w a n l) {B : Nat} (hb : Below B w w') (hB : w.heap.size ≤ B) : RowE enc k w' a n l := ⟨h.1, fun i r hr => by
  obtain ⟨b, o', e, h1⟩ := h.2 i r hr
  exact ⟨b, o', e, fun j x hx => by
    have hl := World.block_lt_of_cell? _ _ (h1 j x hx)
    rw [hb.cell (p := ⟨b, _, none⟩) (by show b < B; have : b < w.heap.size := hl; omega)]
    exact h1 j x hx⟩⟩
theorem RowE.keys {w : World} {a : Option Addr} {n : Nat} {l : List Nat} (h : RowE encK 3 w a n l) : KRow w a n l :=
  ⟨h.1, fun i r hr => by
    obtain ⟨b, o, e, h1⟩ := h.2 i r hr
    exact ⟨b, o, e, h1 0 _ rfl, h1 1 _ rfl, h1 2 _ rfl⟩⟩
theorem RowE.ats {w : World} {a : Option Addr} {n : Nat} {l : List Nat} (h : RowE encA 1 w a n l) : Sl w a n (l.map atV) :=
  ⟨by rw [List.length_map]; exact h.1, fun i r hr => by
    rw [List.getElem?_map] at hr
    obtain ⟨x, hx, rfl⟩ := Option.map_eq_some_iff.1 hr
    obtain ⟨b, o, e, h1⟩ := h.2 i x hx
    exact ⟨b, o, e, by have := h1 0 (atV x) rfl; simpa using this⟩⟩
theorem RowE.ptrs {w : World} {a : Option Addr} {n : Nat} {l : List Nat} (h : RowE encP 1 w a n l) : Sl w a n (l.map ptrV) :=
  ⟨by rw [List.length_map]; exact h.1, fun i r hr => by
    rw [List.getElem?_map] at hr
    obtain ⟨x, hx, rfl⟩ := Option.map_eq_some_iff.1 hr
    obtain ⟨b, o, e, h1⟩ := h.2 i x hx
    exact ⟨b, o, e, by have := h1 0 (ptrV x) rfl; simpa using this⟩⟩

/-- A node that is being made: its two rows, its own block, and the block of what is added. -/
structure LeafS (p : Nat) (P0 : Obj) (eb : Nat) (E0 : Obj) (w0 : World) (kv vv : Value) (ks vs : List Nat) (W : World) : Prop where
  k : OwnE encK 3 27 W (p + 1) kv ks
  v : OwnE encA 1 24 W (p + 1) vv vs
  apart : ∀ g, kv.ownBlock = some g → vv.ownBlock ≠ some g
  hp : W.heap[p]? = some P0
  he : W.heap[eb]? = some E0
  ke : kv.ownBlock ≠ some eb
  ve : vv.ownBlock ≠ some eb
  below : Below p w0 W
theorem OwnE.lt {α : Type} {enc : α → List Value} {k : Nat} {e : TypeId} {w : World} {B : Nat} {v : Value} {l : List α} (h : OwnE enc k e w B v l) : ∀ g, v.ownBlock = some g → B ≤ g ∧ g < w.heap.size := World.ownsRow.lt h
theorem OwnE.alloc {α : Type} {enc : α → List Value} {k : Nat} {e : TypeId} {w : World} {B : Nat} {v : Value} {l : List α} (h : OwnE enc k e w B v l) (o : Obj) : OwnE enc k e (w.alloc o) B v l := World.ownsRow.alloc h o
theorem OwnE.kept {α : Type} {enc : α → List Value} {k : Nat} {e : TypeId} {w w' : World} {B : Nat} {v : Value} {l : List α} (h : OwnE enc k e w B v l) {row : Option Nat} (hg : w.grownBy w' row) (hne : v.ownBlock = none ∨ v.ownBlock ≠ row) : OwnE enc k e w' B v l := World.ownsRow.kept h hg hne
theorem OwnE.form {α : Type} {enc : α → List Value} {k : Nat} {e : TypeId} {w : World} {B : Nat} {v : Value} {l : List α} (h : OwnE enc k e w B v l) : ∃ a n c, v = .slice a n c := by
  rcases h.2 with ⟨h1, -⟩ | ⟨g, cap, cur, h1, -⟩
  · exact ⟨_, _, _, h1⟩
  · exact ⟨_, _, _, h1⟩
section
variable {p eb : Nat} {P0 E0 : Obj} {w0 : World} {kv vv : Value} {ks vs : List Nat} {W : World}
theorem LeafS.lt (m : LeafS p P0 eb E0 w0 kv vv ks vs W) : p < W.heap.size ∧ eb < W.heap.size := ⟨(Array.getElem?_eq_some_iff.1 m.hp).1, (Array.getElem?_eq_some_iff.1 m.he).1⟩
theorem LeafS.alloc (m : LeafS p P0 eb E0 w0 kv vv ks vs W) (o : Obj) : LeafS p P0 eb E0 w0 kv vv ks vs (W.alloc o) :=
  ⟨m.k.alloc o, m.v.alloc o, m.apart, by rw [Below.heap_alloc _ _ _ m.lt.1]; exact m.hp, by rw [Below.heap_alloc _ _ _ m.lt.2]; exact m.he, m.ke, m.ve, m.below.alloc (by have := m.lt.1; omega) o⟩
theorem LeafS.drew (m : LeafS p P0 eb E0 w0 kv vv ks vs W) : LeafS p P0 eb E0 w0 kv vv ks vs W.drew := ⟨m.k, m.v, m.apart, m.hp, m.he, m.ke, m.ve, m.below.drew⟩
theorem LeafS.appK (m : LeafS p P0 eb E0 w0 kv vv ks vs W) {b k : Nat} (hs : RowE encK 3 W (some ⟨b, 0, none⟩) 1 [k]) (hl : ks.length ≤ 100000000) :
    ∃ v' w', (∀ ty, (Builtin.append_ #[134, 134] ty #[kv, .slice (some ⟨b, 0, none⟩) 1 1]).run Tryz.prog W = .ok v' w') ∧ LeafS p P0 eb E0 w0 v' vv (ks ++ [k]) vs w' ∧ W.grownBy w' kv.ownBlock := by
  obtain ⟨i0, hi, hz0, hz1, hz2⟩ := info_cut infoKey
  obtain ⟨v', w', hr, ho, hg, -, hat⟩ := run_append_own_at (P := Tryz.prog) W (p + 1) 134 134 27 i0 _ 3 16 Tryz.underlying134 hi hz0 hz1 hz2 rfl (by decide) kv ks.length _ m.k ⟨b, 0, none⟩ 1 1 (cellsE encK [k]) rfl (RowE.cells encK_len (by decide) hs) (fun u hu => by
    obtain ⟨x, -, hx⟩ := List.mem_flatMap.1 hu
    exact encK_one x u hx) (by unfold maxLen; omega) (by omega) (by have := m.lt.1; omega)
  have hlt := m.lt
  have hkl := m.k.lt
  have hvl := m.v.lt
  refine ⟨v', w', fun ty => hr, ⟨?_, m.v.kept hg ?_, ?_, ?_, ?_, ?_, m.ve, m.below.grown hg (by omega) (fun j hj => by have := (hkl j hj).1; omega)⟩, hg⟩
  · unfold OwnE
    rw [cellsE_app, List.length_append]
    exact ho
  · cases hvo : vv.ownBlock with
    | none => exact .inl rfl
    | some g => exact .inr fun e => m.apart g e.symm hvo
  · intro g hg1 hg2
    rcases hat with h | h
    · exact m.apart g (h.symm.trans hg1) hg2
    · rw [h] at hg1
      cases hg1
      have := (hvl _ hg2).2
      omega
  · rw [hg.block p hlt.1 (fun e => by have := (hkl p e.symm).1; omega)]; exact m.hp
  · rw [hg.block eb hlt.2 (fun e => m.ke e.symm)]; exact m.he
  · intro e
    rcases hat with h | h
    · exact m.ke (h.symm.trans e)
    · rw [h] at e
      cases e
      omega
theorem LeafS.appV (m : LeafS p P0 eb E0 w0 kv vv ks vs W) {b k : Nat} (hs : RowE encA 1 W (some ⟨b, 0, none⟩) 1 [k]) (hl : vs.length ≤ 100000000) :
    ∃ v' w', (∀ ty, (Builtin.append_ #[40, 40] ty #[vv, .slice (some ⟨b, 0, none⟩) 1 1]).run Tryz.prog W = .ok v' w') ∧ LeafS p P0 eb E0 w0 kv v' ks (vs ++ [k]) w' ∧ W.grownBy w' vv.ownBlock := by
  obtain ⟨i0, hi, hz0, hz1, hz2⟩ := info_cut infoU32
  obtain ⟨v', w', hr, ho, hg, -, hat⟩ := run_append_own_at (P := Tryz.prog) W (p + 1) 40 40 24 i0 _ 1 4 Tryz.underlying40 hi hz0 hz1 hz2 rfl (by decide) vv vs.length _ m.v ⟨b, 0, none⟩ 1 1 (cellsE encA [k]) rfl (RowE.cells encA_len (by decide) hs) (fun u hu => by
    obtain ⟨x, -, hx⟩ := List.mem_flatMap.1 hu
    exact encA_one x u hx) (by unfold maxLen; omega) (by omega) (by have := m.lt.1; omega)
  have hlt := m.lt
  have hkl := m.k.lt
  have hvl := m.v.lt
  refine ⟨v', w', fun ty => hr, ⟨m.k.kept hg ?_, ?_, ?_, ?_, ?_, m.ke, ?_, m.below.grown hg (by omega) (fun j hj => by have := (hvl j hj).1; omega)⟩, hg⟩
  · cases hvo : kv.ownBlock with
    | none => exact .inl rfl
    | some g => exact .inr fun e => m.apart g hvo e.symm
  · unfold OwnE
    rw [cellsE_app, List.length_append]
    exact ho
  · intro g hg1 hg2
    rcases hat with h | h
    · exact m.apart g hg1 (h.symm.trans hg2)
    · rw [h] at hg2
      cases hg2
      have := (hkl _ hg1).2
      omega
  · rw [hg.block p hlt.1 (fun e => by have := (hvl p e.symm).1; omega)]; exact m.hp
  · rw [hg.block eb hlt.2 (fun e => m.ve e.symm)]; exact m.he
  · intro e
    rcases hat with h | h
    · exact m.ve (h.symm.trans e)
    · rw [h] at e
      cases e
      omega
theorem step_appK {ops : Array Oper} {o : Oper} {a : Act} {K : Act → World → Prop} {Q : Exit → Act → World → Prop} {E : Prop} {v : Value} (hg : o.guard = none) (d x : Operand) (hop : o.op = Op.call { callee := Callee.builtin Builtin.append, args := #[d, x], argTypes := #[134, 134] })
    {b k : Nat} (hd : a.eval d = v) (hx : a.eval x = .slice (some ⟨b, 0, none⟩) 1 1) (m : LeafS p P0 eb E0 w0 v vv ks vs W) (hs : RowE encK 3 W (some ⟨b, 0, none⟩) 1 [k]) (hl : ks.length ≤ 100000000)
    (h : ∀ v' w', LeafS p P0 eb E0 w0 v' vv (ks ++ [k]) vs w' → W.grownBy w' v.ownBlock → K (a.put o.dst v') w') :
    if Region.wanted o (yielded ops a.tmps) = true then Oper.wp Tryz.prog o a W K Q else E := by
  obtain ⟨v', w', hr, m', hg'⟩ := m.appK hs hl
  exact step_append_runK hg d x _ _ hop _ _ hd hx (hr _) (h v' w' m' hg')
theorem step_appV {ops : Array Oper} {o : Oper} {a : Act} {K : Act → World → Prop} {Q : Exit → Act → World → Prop} {E : Prop} {v : Value} (hg : o.guard = none) (d x : Operand) (hop : o.op = Op.call { callee := Callee.builtin Builtin.append, args := #[d, x], argTypes := #[40, 40] })
    {b k : Nat} (hd : a.eval d = v) (hx : a.eval x = .slice (some ⟨b, 0, none⟩) 1 1) (m : LeafS p P0 eb E0 w0 kv v ks vs W) (hs : RowE encA 1 W (some ⟨b, 0, none⟩) 1 [k]) (hl : vs.length ≤ 100000000)
    (h : ∀ v' w', LeafS p P0 eb E0 w0 kv v' ks (vs ++ [k]) w' → W.grownBy w' v.ownBlock → K (a.put o.dst v') w') :
    if Region.wanted o (yielded ops a.tmps) = true then Oper.wp Tryz.prog o a W K Q else E := by
  obtain ⟨v', w', hr, m', hg'⟩ := m.appV hs hl
  exact step_append_runK hg d x _ _ hop _ _ hd hx (hr _) (h v' w' m' hg')
/-- A row that was laid behind all that the rows own is not touched by what comes. -/
theorem RowE.apartG {α : Type} {enc : α → List Value} {k : Nat} {w w' : World} {row : Option Nat} {b o n : Nat} {l : List α} (h : RowE enc k w (some ⟨b, o, none⟩) n l) (hg : w.grownBy w' row) (hb : b < w.heap.size) (hne : some b ≠ row) : RowE enc k w' (some ⟨b, o, none⟩) n l :=
  h.block (hg.block b hb hne)
end

theorem LeafS.to {p eb : Nat} {E0 : Obj} {kv' vv' : Value} {w0 : World} {kv vv : Value} {ks vs : List Nat} {W : World} (m : LeafS p (.cells #[.bool true, kv', vv', .slice none 0 0, .int .u32 0] 136) eb E0 w0 kv vv ks vs W) (x y : Value) :
    LeafS p (.cells #[.bool true, x, y, .slice none 0 0, .int .u32 0] 136) p (.cells #[.bool true, x, y, .slice none 0 0, .int .u32 0] 136) w0 kv vv ks vs ((W.setCell ⟨p, 1, none⟩ x).setCell ⟨p, 2, none⟩ y) := by
  have h1 := heap_setCell_same _ p 2 _ _ y (heap_setCell_same W p 1 _ _ x m.hp)
  have hsz : ((W.setCell ⟨p, 1, none⟩ x).setCell ⟨p, 2, none⟩ y).heap.size = W.heap.size := by simp
  have hg : W.grownBy ((W.setCell ⟨p, 1, none⟩ x).setCell ⟨p, 2, none⟩ y) (some p) := ⟨rfl, rfl, rfl, by rw [hsz]; exact Nat.le_refl _, fun j hj hne => by
    rw [heap_setCell_other _ _ j _ (fun e => hne (by rw [e])), heap_setCell_other _ _ j _ (fun e => hne (by rw [e]))]⟩
  have hkl := m.k.lt
  have hvl := m.v.lt
  have hkp : kv.ownBlock ≠ some p := fun e => by have := (hkl p e).1; omega
  have hvp : vv.ownBlock ≠ some p := fun e => by have := (hvl p e).1; omega
  refine ⟨m.k.kept hg (.inr hkp), m.v.kept hg (.inr hvp), m.apart, ?_, ?_, hkp, hvp, m.below.grown hg (by have := m.lt.1; omega) (fun j hj => by cases hj; exact Nat.le_refl _)⟩
  · exact h1
  · exact h1
theorem LeafS.node {p eb : Nat} {x y : Value} {E0 : Obj} {w0 : World} {kv vv : Value} {ks vs : List Nat} {W : World} (m : LeafS p (.cells #[.bool true, x, y, .slice none 0 0, .int .u32 0] 136) eb E0 w0 kv vv ks vs W) :
    W.cell? ⟨p, 1, none⟩ = some x ∧ W.cell? ⟨p, 2, none⟩ = some y ∧ W.frozen? ⟨p, 1, none⟩ = false ∧ W.frozen? ⟨p, 2, none⟩ = false := by
  have h1 := m.hp
  refine ⟨?_, ?_, ?_, ?_⟩ <;> simp [World.cell?, World.frozen?, h1]
theorem LeafS.reads {p eb : Nat} {x y a b c d : Value} {t : TypeId} {w0 : World} {kv vv : Value} {ks vs : List Nat} {W : World} (m : LeafS p (.cells #[.bool true, x, y, .slice none 0 0, .int .u32 0] 136) eb (.cells #[a, b, c, d] t) w0 kv vv ks vs W) :
    W.cell? ⟨eb, 0, none⟩ = some a ∧ W.cell? ⟨eb, 1, none⟩ = some b ∧ W.cell? ⟨eb, 2, none⟩ = some c ∧ W.cell? ⟨eb, 3, none⟩ = some d := by
  have h2 := m.he
  refine ⟨?_, ?_, ?_, ?_⟩ <;> simp [World.cell?, h2]

/-- The four cells of what is added. -/
def leafS0 (eb : Nat) (a b c d : Value) (W : World) : Prop := W.cell? ⟨eb, 0, none⟩ = some a ∧ W.cell? ⟨eb, 1, none⟩ = some b ∧ W.cell? ⟨eb, 2, none⟩ = some c ∧ W.cell? ⟨eb, 3, none⟩ = some d
/-- The node's two rows. -/
def leafS1 (p : Nat) (x y : Value) (W : World) : Prop := W.cell? ⟨p, 1, none⟩ = some x ∧ W.cell? ⟨p, 2, none⟩ = some y
theorem LeafS.late {p eb : Nat} {x y a b c d : Value} {t : TypeId} {w0 : World} {kv vv : Value} {ks vs : List Nat} {W : World} (m : LeafS p (.cells #[.bool true, x, y, .slice none 0 0, .int .u32 0] 136) eb (.cells #[a, b, c, d] t) w0 kv vv ks vs W) : leafS0 eb a b c d W ∧ leafS1 p x y W := ⟨m.reads, m.node.1, m.node.2.1⟩
theorem LeafS.lateH {late : List Nat} {j p eb : Nat} {x y a b c d : Value} {t : TypeId} {w0 : World} {kv vv : Value} {ks vs : List Nat} {W : World} (m : LeafS p (.cells #[.bool true, x, y, .slice none 0 0, .int .u32 0] 136) eb (.cells #[a, b, c, d] t) w0 kv vv ks vs W) : lateH late (leafS0 eb a b c d) (leafS1 p x y) j W := ⟨m.late.1, fun _ => m.late.2⟩

theorem cell_set_far (W : World) (a b : Addr) (v : Value) (h : b.block ≠ a.block) : (W.setCell a v).cell? b = W.cell? b := by
  simp only [World.cell?]
  rw [heap_setCell_other W a _ _ h]
theorem four_set {W : World} {p eb i : Nat} {x a b c d : Value} (hne : eb ≠ p) (h : W.cell? ⟨eb, 0, none⟩ = some a ∧ W.cell? ⟨eb, 1, none⟩ = some b ∧ W.cell? ⟨eb, 2, none⟩ = some c ∧ W.cell? ⟨eb, 3, none⟩ = some d) :
    (W.setCell ⟨p, i, none⟩ x).cell? ⟨eb, 0, none⟩ = some a ∧ (W.setCell ⟨p, i, none⟩ x).cell? ⟨eb, 1, none⟩ = some b ∧ (W.setCell ⟨p, i, none⟩ x).cell? ⟨eb, 2, none⟩ = some c ∧ (W.setCell ⟨p, i, none⟩ x).cell? ⟨eb, 3, none⟩ = some d :=
  ⟨(cell_set_far W _ _ _ hne).trans h.1, (cell_set_far W _ _ _ hne).trans h.2.1, (cell_set_far W _ _ _ hne).trans h.2.2.1, (cell_set_far W _ _ _ hne).trans h.2.2.2⟩

def leafObj (kv vv : Value) : Obj := .cells #[.bool true, kv, vv, .slice none 0 0, .int .u32 0] 136
theorem leafS_done {p eb : Nat} {E0 : Obj} {w0 w : World} {kv vv : Value} {es : List En} (m : LeafS p (leafObj kv vv) eb E0 w0 kv vv (es.map (·.1)) (es.map (·.2)) w) (S : Nat → Prop) (hS : ∀ j, p ≤ j → j < w.heap.size → S j) : NodeW w S p (leafT es) := by
  obtain ⟨ka, kc, rfl, hk, -, -⟩ := m.k.row encK_len
  obtain ⟨va, vc, rfl, hv, -, -⟩ := m.v.row encA_len
  simp only [List.length_map] at hk hv
  have hlt := m.lt.1
  refine ⟨ka, kc, va, vc, ⟨⟨.int .u32 0, ?_⟩, hS p (Nat.le_refl _) hlt, fun b o e => ?_, fun b o e => ?_, fun b o e => by cases e⟩, hk.keys, ?_⟩
  · have := m.hp
    unfold leafObj at this
    simp only [List.length_map] at this
    exact this
  · subst e
    cases o with
    | zero =>
      have := m.k.lt b rfl
      exact hS b (by omega) this.2
    | succ o => exact absurd m.k (by
        intro h
        rcases h.2 with ⟨h1, -⟩ | ⟨g, cap, cur, h1, -⟩
        · cases h1
        · cases h1)
  · subst e
    cases o with
    | zero =>
      have := m.v.lt b rfl
      exact hS b (by omega) this.2
    | succ o => exact absurd m.v (by
        intro h
        rcases h.2 with ⟨h1, -⟩ | ⟨g, cap, cur, h1, -⟩
        · cases h1
        · cases h1)
  · have := hv.ats
    rw [List.map_map] at this
    exact this
end Go.Proofs.YtejhbaeeaejcaaaGreat
