/- The walks of extent.Longest and of slices.MaxFunc at it. Conditions: those of each theorem. -/
import Derived.Test.YtljbehndnledpaaLedgerChange
import Derived.Deep.RegionHeld3
namespace Go.Proofs.Ytljbehndnledpaa
open Go.RowKit Go.Shelf

/-- The longer of two runs, the first where they are alike. -/
def longStep (b : Option (Int × Int)) (r : Int × Int) : Option (Int × Int) := match b with | none => some r | some b => if b.2 < r.2 then some r else some b
def longest (l : List (Int × Int)) : Option (Int × Int) := l.foldl longStep none
theorem longest_app (l : List (Int × Int)) (r : Int × Int) : longest (l ++ [r]) = longStep (longest l) r := by simp [longest]
theorem fold_long (l : List (Int × Int)) (b : Option (Int × Int)) (x : Int × Int) (h : l.foldl longStep b = some x) : b = some x ∨ x ∈ l := by
  induction l generalizing b with
  | nil => exact .inl h
  | cons r l ih =>
    rcases ih _ h with h1 | h1
    · cases b with
      | none => simp only [longStep, Option.some.injEq] at h1; exact .inr (by simp [h1])
      | some b =>
        simp only [longStep] at h1
        split at h1
        · cases h1; exact .inr (by simp)
        · cases h1; exact .inl rfl
    · exact .inr (List.mem_cons_of_mem _ h1)
theorem longest_in (l : List (Int × Int)) (b : Int × Int) (h : longest l = some b) : b ∈ l := (fold_long l none b h).resolve_left (by simp)
theorem longest_take (l : List (Int × Int)) (i : Nat) (r : Int × Int) (h : l[i]? = some r) : longest (l.take (i + 1)) = longStep (longest (l.take i)) r := by
  rw [List.take_add_one, h, Option.toList_some, longest_app]

set_option maxHeartbeats 1000000 in
theorem longer_any (a b c d : Int) (w : World) (hb : -9223372036854775808 ≤ b - d ∧ b - d ≤ 9223372036854775807) :
    Calls Try.prog 181 #[.agg #[.int .i64 a, .int .i64 b], .agg #[.int .i64 c, .int .i64 d]] w fun e w' => e = .returned (.int .i64 (b - d)) ∧ Below w.heap.size w w' := by
  have s : IntKind.i64.wrap (b - d) = b - d := IntWalk.i64_in _ (by omega)
  go_enter Try.func181, Try.ntmps181
  go_wp2_with fail
  go_ret
  exact ⟨rfl, ((Below.refl _ w).alloc (Nat.le_refl _) _).alloc (by simp) _⟩

theorem res180 (tmps : Array Value) (B : Nat) (v0 v1 : Value) (W : World) (h2 : tmps[4]? = some (.pointer (some ⟨B, 0, none⟩))) (q0 : W.cell? ⟨B, 0, none⟩ = some v0) (q1 : W.cell? ⟨B, 1, none⟩ = some v1) :
    (results Try.f180 tmps).run Try.prog W = .ok (.agg #[v0, v1]) W := by
  simp [results, Try.results180, go_sem, h2, q0, q1]
theorem res136 (tmps : Array Value) (B : Nat) (e v0 v1 : Value) (W : World) (h2 : tmps[2]? = some (.pointer (some ⟨B, 0, none⟩))) (h3 : tmps[3]? = some e) (q0 : W.cell? ⟨B, 0, none⟩ = some v0) (q1 : W.cell? ⟨B, 1, none⟩ = some v1) :
    (results Try.f136 tmps).run Try.prog W = .ok (.tuple #[.agg #[v0, v1], e]) W := by
  simp [results, Try.results136, go_sem, h2, h3, q0, q1]
theorem res76 (tmps : Array Value) (B : Nat) (e v0 v1 : Value) (W : World) (h2 : tmps[2]? = some (.pointer (some ⟨B, 0, none⟩))) (h3 : tmps[3]? = some e) (q0 : W.cell? ⟨B, 0, none⟩ = some v0) (q1 : W.cell? ⟨B, 1, none⟩ = some v1) :
    (results Try.f76 tmps).run Try.prog W = .ok (.tuple #[.agg #[v0, v1], e]) W := by
  simp [results, Try.results76, go_sem, h2, h3, q0, q1]
/-- A run in a block. -/
def RunAt (w : World) (B : Nat) (r : Int × Int) : Prop := w.heap[B]? = some (.cells #[.int .i64 r.1, .int .i64 r.2] 121 (0, 0))
theorem RunAt.cells {w : World} {B : Nat} {r : Int × Int} (h : RunAt w B r) : w.cell? ⟨B, 0, none⟩ = some (.int .i64 r.1) ∧ w.cell? ⟨B, 1, none⟩ = some (.int .i64 r.2) ∧ w.frozen? ⟨B, 0, none⟩ = false ∧ w.frozen? ⟨B, 1, none⟩ = false := by
  refine ⟨?_, ?_, frozen_of_row _ _ _ _ _ h, frozen_of_row _ _ _ _ _ h⟩
  · rw [cell_of_row w B 0 _ 121 (0, 0) h]; rfl
  · rw [cell_of_row w B 1 _ 121 (0, 0) h]; rfl
theorem RunAt.set {w : World} {B : Nat} {r : Int × Int} (h : RunAt w B r) (x y : Int) : RunAt ((w.setCell ⟨B, 0, none⟩ (.int .i64 x)).setCell ⟨B, 1, none⟩ (.int .i64 y)) B (x, y) := by
  have h1 := heap_setCell_same w B 0 _ 121 (.int .i64 x) h
  have h2 := heap_setCell_same _ B 1 _ 121 (.int .i64 y) h1
  exact h2
theorem RunAt.other {w : World} {B B' : Nat} {r : Int × Int} (h : RunAt w B r) (hne : B ≠ B') (x y : Value) : RunAt ((w.setCell ⟨B', 0, none⟩ x).setCell ⟨B', 1, none⟩ y) B r := by
  unfold RunAt
  rw [heap_setCell_other _ _ _ _ hne, heap_setCell_other _ _ _ _ hne]
  exact h
theorem RunAt.below {w w' : World} {B C : Nat} {r : Int × Int} (h : RunAt w B r) (hb : Below C w w') (hB : B < C) : RunAt w' B r := (hb.block B hB).trans h
theorem RunAt.lt {w : World} {B : Nat} {r : Int × Int} (h : RunAt w B r) : B < w.heap.size := (Array.getElem?_eq_some_iff.1 h).1
theorem RunAt.new (w : World) (x y : Int) : RunAt (w.alloc (.cells #[.int .i64 x, .int .i64 y] 121)) w.heap.size (x, y) := heap_alloc_new _ _

set_option maxRecDepth 100000 in
set_option maxHeartbeats 4000000 in
theorem maxFunc_any (a : Option Addr) (n c : Nat) (l : List (Int × Int)) (w : World) (h : Runs w a n l) (hn : n ≤ 1000000) (h0 : 0 < n) (hl : ∀ r ∈ l, 0 ≤ r.2 ∧ r.2 ≤ 1000000) :
    Calls Try.prog 180 #[.slice a n c, .func (.func 181) #[] #[]] w fun e w' => ∃ b, longest l = some b ∧ e = .returned (.agg #[.int .i64 b.1, .int .i64 b.2]) ∧ Below w.heap.size w w' := by
  obtain ⟨r0, hr0⟩ : ∃ r, l[0]? = some r := ⟨_, List.getElem?_eq_getElem (by rw [h.1]; exact h0)⟩
  obtain ⟨g, o, rfl, c0, c1⟩ := h.2 0 r0 hr0
  have hlt := World.block_lt_of_cell? _ _ c0
  simp only at hlt
  have H := Lib.hid h
  have HL := Lib.hid hl
  have hn0 : (1 : Int) ≤ (n : Int) := by omega
  clear h hl
  rw [Nat.zero_mul, Nat.add_zero] at c0 c1
  go_enter Try.func180, Try.ntmps180
  go_wp2_with fail
  go_loopw [6] (fun u6 wr => ∃ (i : Nat) (b : Int × Int), 1 ≤ i ∧ i ≤ n ∧ u6 = .int .i64 i ∧ longest (l.take i) = some b ∧ RunAt wr w.heap.size (0, 0) ∧ RunAt wr (w.heap.size + 1) b ∧ Below w.heap.size w wr) (fun u6 _ => n - (intOf u6).toNat)
  case atStart =>
    refine ⟨1, r0, by omega, by omega, rfl, by rw [longest_take l 0 r0 hr0]; rfl, ?_, ?_, ?_⟩
    · exact (RunAt.new w 0 0).below ((Below.refl _ _).alloc (Nat.le_refl _) _) (by simp)
    · have := RunAt.new (w.alloc (.cells #[.int .i64 0, .int .i64 0] 121)) r0.1 r0.2
      rwa [World.size_alloc] at this
    · exact ((Below.refl _ w).alloc (Nat.le_refl _) _).alloc (by simp) _
  case round =>
    obtain ⟨i, b, hi1, hi, rfl, hlo, hz, hbr, hbw⟩ := hrel
    by_cases hlt : i < n
    · obtain ⟨r, hr⟩ : ∃ r, l[i]? = some r := ⟨_, List.getElem?_eq_getElem (by rw [H.out.1]; exact hlt)⟩
      obtain ⟨g', o', hgo, d0, d1⟩ := (H.out.below hbw (Nat.le_refl _)).2 i r hr
      cases hgo
      obtain ⟨b0, b1, b2, b3⟩ := hbr.cells
      have k1 := HL.out r (List.mem_of_getElem? hr)
      have k2 := HL.out b (List.mem_of_mem_take (longest_in _ _ hlo))
      have hlt' := longest_take l i r hr
      rw [hlo] at hlt'
      have HN := Lib.hid hlt'
      have hi0 : (0 : Int) ≤ (i : Int) := by omega
      have hi2 : (i : Int) < (n : Int) := by omega
      have hc := fun W => longer_any r.1 r.2 b.1 b.2 W (by omega)
      obtain ⟨r1, r2⟩ := r
      obtain ⟨x1, x2⟩ := b
      simp only at *
      have HC := Lib.hid hc
      clear hlt' hc hr hlo
      by_cases hlong : x2 < r2
      · have hd : (0 : Int) < r2 - x2 := by omega
        go_wp2_with fail
        refine wp_region_noPanic ?_
        go_region_with (go_at_call 181; refine (HC.out _).mono ?_; rintro e W2 ⟨rfl, hb2⟩)
        all_goals
          refine NoPanic.normal ?_
          have hb2' : Below wr.heap.size wr W2 := (Below.refl _ wr).drew.trans hb2
          have hz2 : RunAt W2 w.heap.size (0, 0) := hz.below hb2' hz.lt
          have hbr2 : RunAt W2 (w.heap.size + 1) (x1, x2) := hbr.below hb2' hbr.lt
          have e0 : W2.cell? ⟨g, o + i * 2, none⟩ = some (.int .i64 r1) := by rw [hb2'.cell (by show g < wr.heap.size; have := hbw.size; omega)]; exact d0
          have e1 : W2.cell? ⟨g, o + i * 2 + 1, none⟩ = some (.int .i64 r2) := by rw [hb2'.cell (by show g < wr.heap.size; have := hbw.size; omega)]; exact d1
          obtain ⟨f0, f1, f2, f3⟩ := hbr2.cells
          have hbw2 : Below w.heap.size w W2 := hbw.trans (hb2'.mono hbw.size)
          go_wp2_with fail
          refine ⟨⟨i + 1, (r1, r2), by omega, by omega, by go_num, by rw [HN.out]; simp [longStep, hlong], hz2.other (by omega) _ _, hbr2.set _ _, (hbw2.setCell (p := ⟨w.heap.size + 1, 0, none⟩) (by simp) _).setCell (p := ⟨w.heap.size + 1, 1, none⟩) (by simp) _⟩, by simp [intOf]; omega⟩
      · have hd : r2 - x2 ≤ 0 := by omega
        go_wp2_with fail
        refine wp_region_noPanic ?_
        go_region_with (go_at_call 181; refine (HC.out _).mono ?_; rintro e W2 ⟨rfl, hb2⟩)
        all_goals
          refine NoPanic.normal ?_
          have hb2' : Below wr.heap.size wr W2 := (Below.refl _ wr).drew.trans hb2
          have hz2 : RunAt W2 w.heap.size (0, 0) := hz.below hb2' hz.lt
          have hbr2 : RunAt W2 (w.heap.size + 1) (x1, x2) := hbr.below hb2' hbr.lt
          have hbw2 : Below w.heap.size w W2 := hbw.trans (hb2'.mono hbw.size)
          go_wp2_with fail
          refine ⟨⟨i + 1, (x1, x2), by omega, by omega, by go_num, by rw [HN.out]; simp [longStep]; omega, hz2, hbr2, hbw2⟩, by simp [intOf]; omega⟩
    · obtain rfl : i = n := by omega
      have htk : l.take i = l := List.take_of_length_le (Nat.le_of_eq H.out.1)
      rw [htk] at hlo
      obtain ⟨z0, z1, z2, z3⟩ := hz.cells
      obtain ⟨b0, b1, b2, b3⟩ := hbr.cells
      have hset := hz.set b.1 b.2
      obtain ⟨s0, s1, -, -⟩ := hset.cells
      go_wp2_with fail
      refine bodyPost_ret (res180 _ w.heap.size _ _ _ rfl s0 s1) rfl ?_
      exact ⟨rfl, (hbw.setCell (p := ⟨w.heap.size, 0, none⟩) (Nat.le_refl _) _).setCell (p := ⟨w.heap.size, 1, none⟩) (Nat.le_refl _) _⟩

/-- What Longest hands back. -/
def longV (o : Option (Int × Int)) : Value := match o with | none => .tuple #[.agg #[.int .i64 0, .int .i64 0], .bool false] | some b => .tuple #[.agg #[.int .i64 b.1, .int .i64 b.2], .bool true]

set_option maxRecDepth 100000 in
set_option maxHeartbeats 4000000 in
theorem longest_any (a : Option Addr) (n c : Nat) (l : List (Int × Int)) (w : World) (h : Runs w a n l) (hn : n ≤ 1000000) (hl : ∀ r ∈ l, 0 ≤ r.2 ∧ r.2 ≤ 1000000) :
    Calls Try.prog 136 #[.slice a n c] w fun e w' => e = .returned (longV (longest l)) ∧ Below w.heap.size w w' := by
  have hw0 := RunAt.new w 0 0
  have hb0 : Below w.heap.size w (w.alloc (.cells #[.int .i64 0, .int .i64 0] 121)) := (Below.refl _ _).alloc (Nat.le_refl _) _
  by_cases h0 : n = 0
  · subst h0
    have : l = [] := List.eq_nil_of_length_eq_zero h.1
    subst this
    clear h
    obtain ⟨s0, s1, -, -⟩ := hw0.cells
    go_enter Try.func136, Try.ntmps136
    go_wp2_with fail
    refine bodyPost_ret (res136 _ w.heap.size _ _ _ _ rfl rfl s0 s1) rfl ?_
    exact ⟨rfl, hb0⟩
  · have hne : ((n : Int) == 0) = false := by rw [beq_eq_false_iff_ne]; omega
    have hn1 : ¬ (n : Int) = 0 := by omega
    have hmx := maxFunc_any a n c l _ (h.below hb0 (Nat.le_refl _)) hn (by omega) hl
    have HMX := Lib.hid hmx
    clear hmx h hl
    go_enter Try.func136, Try.ntmps136
    go_wp2_with fail
    refine HMX.out.mono ?_
    rintro e w2 ⟨b, hlo, rfl, hb2⟩
    have hz := hw0.below hb2 (by simp)
    obtain ⟨z0, z1, z2, z3⟩ := hz.cells
    have hset := hz.set b.1 b.2
    obtain ⟨s0, s1, -, -⟩ := hset.cells
    have hbw := hb0.trans (hb2.mono hb0.size)
    have HLO := Lib.hid hlo
    clear hlo
    go_wp2_with fail
    refine bodyPost_ret (res136 _ w.heap.size _ _ _ _ rfl rfl s0 s1) rfl ?_
    exact ⟨by rw [HLO.out]; rfl, (hbw.setCell (p := ⟨w.heap.size, 0, none⟩) (Nat.le_refl _) _).setCell (p := ⟨w.heap.size, 1, none⟩) (Nat.le_refl _) _⟩
end Go.Proofs.Ytljbehndnledpaa
