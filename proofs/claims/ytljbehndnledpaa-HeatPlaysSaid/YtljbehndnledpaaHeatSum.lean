/- The walk of heat.Map.Sum. Conditions: those of each theorem. -/
import Derived.Test.YtljbehndnledpaaHeatOf
namespace Go.Proofs.Ytljbehndnledpaa
open Go.RowKit Go.Maps Go.ChangeMaps Go.MapKept

theorem Rng.left_eq {w : World} {b r : Nat} {es : Array MapEntry} {seen : Array Nat} (h : Rng w b r es seen) : w.rangeLeft b r = (leftOf es seen).toList.length := by
  obtain ⟨clock, since, c0, h1, h2, _⟩ := h.ex
  simp only [World.rangeLeft, h1, h2]
  rw [Array.length_toList]

/-- 'range m'. -/
theorem wpList_range_heat {w : World} {ops : Array Oper} {rest : List Oper} {o : Oper} {a : Act} {Q : Exit → Act → World → Prop} (hg : o.guard = none) (m : Operand) (hop : o.op = Op.range 101 m) {b : Nat} {es : Array MapEntry} {clock : Nat} {L : List Hs} (hm : a.eval m = .map (some b)) (h : HMap w b es clock L)
    (hK : Rng (w.alloc (.mapIter (some b) clock #[] clock)) b w.heap.size es #[] → wpList Try.prog ops Q rest (a.put o.dst (.pointer (some ⟨w.heap.size, 0, none⟩))) (w.alloc (.mapIter (some b) clock #[] clock))) : wpList Try.prog ops Q (o :: rest) a w := by
  refine wpList_plain hg fun K' hK' => ?_
  unfold Oper.wp
  simp [execOp, hop, hm, h.range.1, Result.andThen]
  exact hK' _ _ (hK h.range.2)
/-- 'range m' of no map. -/
theorem wpList_range_nil {w : World} {ops : Array Oper} {rest : List Oper} {o : Oper} {a : Act} {Q : Exit → Act → World → Prop} (hg : o.guard = none) (m : Operand) (hop : o.op = Op.range 101 m) (hm : a.eval m = .map none)
    (hK : wpList Try.prog ops Q rest (a.put o.dst (.pointer (some ⟨w.heap.size, 0, none⟩))) (w.alloc (.mapIter none 0 #[] 0))) : wpList Try.prog ops Q (o :: rest) a w := by
  refine wpList_plain hg fun K' hK' => ?_
  unfold Oper.wp
  simp [execOp, hop, hm, run_range_nilMap w 101 99 3 Try.underlying101, Result.andThen]
  exact hK' _ _ hK
/-- The step. -/
theorem wpList_next_heat {w : World} {ops : Array Oper} {rest : List Oper} {o : Oper} {a : Act} {Q : Exit → Act → World → Prop} (hg : o.guard = none) (it : Operand) (hop : o.op = Op.next it false) {b r : Nat} {es : Array MapEntry} {seen : Array Nat} (hit : a.eval it = .pointer (some ⟨r, 0, none⟩)) (h : Rng w b r es seen) (hk : SpotKeys es.toList)
    (hDone : (leftOf es seen).toList = [] → wpList Try.prog ops Q rest (a.put o.dst (.tuple #[.bool false])) w)
    (hMore : ∀ (e : MapEntry) (x y c : Int) (w' : World), e ∈ (leftOf es seen).toList → HsIn (x, y) → e.key = hsV (x, y) → e.val = .int .i64 c → Rng w' b r es (seen.push e.born) → w.grownBy w' (some r) → w'.heap.size = w.heap.size →
      (Instr.entry (.pointer (some ⟨r, 0, none⟩))).run Try.prog w' = .ok (.tuple #[.agg #[.int .i64 x, .int .i64 y], .int .i64 c]) w' → wpList Try.prog ops Q rest (a.put o.dst (.tuple #[.bool true, .agg #[.int .i64 x, .int .i64 y], .int .i64 c])) w') :
    wpList Try.prog ops Q (o :: rest) a w := by
  refine wpList_plain hg fun K' hK' => ?_
  unfold Oper.wp
  rcases h.next o.type with ⟨h0, hrun⟩ | ⟨e, he, w', hrun, hR, hen, hgr, hsz⟩
  · simp [execOp, hop, hit, hrun, Result.andThen]
    exact hK' _ _ (hDone h0)
  · obtain ⟨s, c, h1, h2, h3⟩ := hk e (mem_left he).1
    have h1' : e.key = .agg #[.int .i64 s.1, .int .i64 s.2] := h1
    simp [execOp, hop, hit, hrun, Result.andThen, h1', h3]
    refine hK' _ _ (hMore e s.1 s.2 c w' he h2 h1 h3 hR hgr hsz ?_)
    rw [hen, h1', h3]

def sumE (l : List MapEntry) : Int := (l.map fun e => intOf e.val).sum
def sumS (L : List Hs) : Int := (L.map fun p => p.2).sum
theorem sumE_perm {l l' : List MapEntry} (h : l.Perm l') : sumE l = sumE l' := by
  induction h with
  | nil => rfl
  | cons a _ ih => simp only [sumE, List.map_cons, List.sum_cons] at *; omega
  | swap a c l => simp only [sumE, List.map_cons, List.sum_cons]; omega
  | trans _ _ h1 h2 => exact h1.trans h2
theorem sumE_cons (e : MapEntry) (l : List MapEntry) : sumE (e :: l) = intOf e.val + sumE l := by simp [sumE]
theorem sumE_nonneg : ∀ {l : List MapEntry}, (∀ e ∈ l, 0 ≤ intOf e.val) → 0 ≤ sumE l
  | [], _ => by simp [sumE]
  | e :: l, h => by
    rw [sumE_cons]
    have h1 := h e (by simp)
    have h2 := sumE_nonneg (l := l) (fun x hx => h x (by simp [hx]))
    omega
theorem ReadsH.sum {es : List MapEntry} {L : List Hs} (h : ReadsH es L) : sumE es = sumS L := by
  unfold sumE sumS
  have := congrArg (List.map fun q : Value × Value => intOf q.2) h.eq
  simp only [List.map_map, Function.comp_def, kvE, kvH] at this
  rw [this]
  rfl
theorem ReadsH.nonneg {es : List MapEntry} {L : List Hs} (h : ReadsH es L) (h0 : ∀ p ∈ L, 0 ≤ p.2) : ∀ e ∈ es, 0 ≤ intOf e.val := fun e he => by
  obtain ⟨p, hp, -, h2⟩ := h.mem he
  rw [h2]
  exact h0 p hp

set_option maxRecDepth 100000 in
set_option maxHeartbeats 4000000 in
theorem sum_nil {w : World} {pm : Nat} {L : List Hs} (h : HeatW w pm none L) :
    Calls Try.prog 68 #[.pointer (some ⟨pm, 0, none⟩)] w fun e w' => e = .returned (.int .i64 0) ∧ Below w.heap.size w w' := by
  obtain ⟨c0, f0⟩ := h.reads
  have hnx : ∀ ty, (Instr.next (.pointer (some ⟨w.heap.size, 0, none⟩)) false ty).run Try.prog (w.alloc (.mapIter none 0 #[] 0)) = _ := fun ty => run_next_nilMap w ty 0 0 #[]
  have hb : Below w.heap.size w (w.alloc (.mapIter none 0 #[] 0)) := (Below.refl _ _).alloc (Nat.le_refl _) _
  clear h
  go_enter Try.func68, Try.ntmps68
  go_wp2_with (first | (at_range; refine wpList_range_nil rfl _ rfl rfl ?_) | go_in)
  go_frame
  refine wp_loop_rounds 1 ?_
  rw [rounds_succ]
  go_wp2
  go_ret
  exact ⟨rfl, hb⟩

set_option maxRecDepth 100000 in
set_option maxHeartbeats 4000000 in
theorem sum_some {w : World} {pm b : Nat} {L : List Hs} (h : HeatW w pm (some b) L) (h0 : ∀ p ∈ L, 0 ≤ p.2) (hs : sumS L ≤ 1000000000000) :
    Calls Try.prog 68 #[.pointer (some ⟨pm, 0, none⟩)] w fun e w' => e = .returned (.int .i64 (sumS L)) ∧ Below w.heap.size w w' := by
  obtain ⟨c0, f0⟩ := h.reads
  obtain ⟨es, clock, hm⟩ := h.map
  have hk := hm.rd.spots
  have hnn := hm.rd.nonneg h0
  have hsum := hm.rd.sum
  have hb : Below w.heap.size w (w.alloc (.mapIter (some b) clock #[] clock)) := (Below.refl _ _).alloc (Nat.le_refl _) _
  clear h
  go_enter Try.func68, Try.ntmps68
  go_wp2_with (first | (at_range; refine wpList_range_heat rfl _ rfl rfl hm ?_; intro hR0) | go_in)
  go_frame
  go_loopw [3, 5] (fun u3 _ wr => ∃ (seen : Array Nat) (acc : Int), Rng wr b w.heap.size es seen ∧ u3 = .int .i64 acc ∧ 0 ≤ acc ∧ acc + sumE (leftOf es seen).toList = sumS L ∧ Below w.heap.size w wr)
    (fun _ _ wr => wr.rangeLeft b w.heap.size)
  case atStart => exact ⟨#[], 0, hR0, rfl, Int.le_refl _, by rw [leftOf_nil, hsum]; omega, hb⟩
  case round =>
    obtain ⟨seen, acc, hR, rfl, ha0, ha, hB⟩ := hrel
    go_wp2_with (first
      | (at_next; refine wpList_next_heat rfl _ rfl rfl hR hk ?_ ?_)
      | go_in)
    · intro hl0
      go_wp2
      go_ret
      rw [hl0] at ha
      exact ⟨by rw [← ha]; simp [sumE], hB⟩
    · intro e x y c w1 he hin hkey hval hR1 hg1 hs1 hen
      have he := Array.mem_toList_iff.2 he
      have hp := sumE_perm (left_perm hR.stamped.1 he)
      rw [sumE_cons, hval] at hp
      have hc0 : 0 ≤ c := by have := hnn e (mem_left he).1; rw [hval] at this; exact this
      have hl0 : 0 ≤ sumE (leftOf es (seen.push e.born)).toList := sumE_nonneg (fun x hx => hnn x (mem_left hx).1)
      have hp' : sumE (leftOf es seen).toList = c + sumE (leftOf es (seen.push e.born)).toList := hp
      have s1 : IntKind.i64.wrap (acc + c) = acc + c := IntWalk.i64_in _ (by omega)
      have hlen := (left_perm hR.stamped.1 he).length_eq
      go_wp2
      go_roundw
      case rel => exact ⟨_, _, hR1, rfl, by omega, by omega, ⟨hg1.os.trans hB.os, hg1.tape.trans hB.tape, hg1.output.trans hB.output, by rw [hs1]; exact hB.size, fun k hk => (hg1.block k (Nat.lt_of_lt_of_le hk hB.size) (by simp; omega)).trans (hB.block k hk)⟩⟩
      case measure => rw [hR1.left_eq, hR.left_eq, hlen]; simp
end Go.Proofs.Ytljbehndnledpaa
