/- A range over a map of spots: what is still to come, as the entries whose stamps were not seen. Conditions: those of each theorem. -/
import Derived.Maps.RangeWalk
import Derived.Test.YtljbehndnledpaaHeatMap
namespace Go.Proofs.Ytljbehndnledpaa
open Go.RowKit Go.Maps Go.ChangeMaps Go.MapKept

/-- Block r is an iterator over the map in block b, whose entries are es; the stamps seen. -/
structure Rng (w : World) (b r : Nat) (es : Array MapEntry) (seen : Array Nat) : Prop where
  ex : ∃ clock since c0, w.heap[b]? = some (.map es clock) ∧ w.heap[r]? = some (.mapIter (some b) since seen c0) ∧ (∀ x ∈ es.toList, x.born < since) ∧ since ≤ c0 ∧ since ≤ clock ∧ MapKept.Stamped es clock

theorem Rng.stamped {w : World} {b r : Nat} {es : Array MapEntry} {seen : Array Nat} (h : Rng w b r es seen) : (es.toList.map (·.born)).Nodup ∧ (es.toList.map (·.key)).Nodup := by
  obtain ⟨clock, since, c0, _, _, _, _, _, h1, h2, h3⟩ := h.ex
  exact ⟨h2, h3⟩
theorem Rng.ne {w : World} {b r : Nat} {es : Array MapEntry} {seen : Array Nat} (h : Rng w b r es seen) : b ≠ r := by
  obtain ⟨clock, since, c0, h1, h2, _⟩ := h.ex
  intro e
  rw [e, h2] at h1
  cases h1
theorem Rng.lt {w : World} {b r : Nat} {es : Array MapEntry} {seen : Array Nat} (h : Rng w b r es seen) : b < w.heap.size ∧ r < w.heap.size := by
  obtain ⟨clock, since, c0, h1, h2, _⟩ := h.ex
  exact ⟨(Array.getElem?_eq_some_iff.1 h1).1, (Array.getElem?_eq_some_iff.1 h2).1⟩
theorem Rng.heap {w w' : World} {b r : Nat} {es : Array MapEntry} {seen : Array Nat} (h : Rng w b r es seen) (hb : w'.heap[b]? = w.heap[b]?) (hr : w'.heap[r]? = w.heap[r]?) : Rng w' b r es seen := by
  obtain ⟨clock, since, c0, h1, h2, h3⟩ := h.ex
  exact ⟨clock, since, c0, hb.trans h1, hr.trans h2, h3⟩

theorem HMap.range {w : World} {b : Nat} {es : Array MapEntry} {clock : Nat} {L : List Hs} (h : HMap w b es clock L) :
    (Instr.range 101 (.map (some b))).run Try.prog w = .ok (.pointer (some ⟨w.heap.size, 0, none⟩)) (w.alloc (.mapIter (some b) clock #[] clock)) ∧ Rng (w.alloc (.mapIter (some b) clock #[] clock)) b w.heap.size es #[] :=
  ⟨run_range_map w 101 99 3 b es clock Try.underlying101 h.obj, ⟨clock, clock, clock, (Go.heap_alloc_old w _ _ h.lt).trans h.obj, heap_alloc_new w _, h.st.1, Nat.le_refl _, Nat.le_refl _, h.st⟩⟩

/-- The step of the range. -/
theorem Rng.next {w : World} {b r : Nat} {es : Array MapEntry} {seen : Array Nat} (h : Rng w b r es seen) (ty : TypeId) :
    ((leftOf es seen).toList = [] ∧ (Instr.next (.pointer (some ⟨r, 0, none⟩)) false ty).run Try.prog w = .ok (.tuple #[.bool false]) w) ∨
    ∃ e ∈ (leftOf es seen).toList, ∃ w', (Instr.next (.pointer (some ⟨r, 0, none⟩)) false ty).run Try.prog w = .ok (.tuple #[.bool true, e.key, e.val]) w' ∧
      Rng w' b r es (seen.push e.born) ∧ (Instr.entry (.pointer (some ⟨r, 0, none⟩))).run Try.prog w' = .ok (.tuple #[e.key, e.val]) w' ∧ w.grownBy w' (some r) ∧ w'.heap.size = w.heap.size := by
  have hne := h.ne
  obtain ⟨clock, since, c0, hb, hr, hold, hsc, hsk, hst⟩ := h.ex
  rcases run_next_at (P := Try.prog) w ty r b since c0 seen es clock hr hb hold hsc with ⟨h0, hrun⟩ | ⟨e, he, w1, hal, hrun⟩
  · exact Or.inl ⟨by rw [Array.eq_empty_of_size_eq_zero h0], hrun⟩
  · obtain ⟨hem, hes⟩ := mem_left he
    have hr1 : w1.heap[r]? = some (.mapIter (some b) since seen c0) := by rcases hal with rfl | rfl <;> exact hr
    have hb1 : w1.heap[b]? = some (.map es clock) := by rcases hal with rfl | rfl <;> exact hb
    have hset := heap_set (o' := .mapIter (some b) since (seen.push e.born) clock) hr1
    have hb' : (setBlock w1 r (.mapIter (some b) since (seen.push e.born) clock)).heap[b]? = some (.map es clock) := (hset.2 b hne).trans hb1
    refine Or.inr ⟨e, he, _, hrun, ⟨clock, since, clock, hb', hset.1, hold, hsk, hsk, hst⟩, run_entry_at _ r b since seen es clock e hset.1 hb' hem hst.2.1, ?_, ?_⟩
    · rcases hal with rfl | rfl <;> exact ⟨rfl, rfl, rfl, by simp [setBlock], fun i _ hi => hset.2 i (fun e1 => hi (by rw [e1]))⟩
    · rcases hal with rfl | rfl <;> simp [setBlock]

theorem leftOf_list (es : Array MapEntry) (seen : Array Nat) : (leftOf es seen).toList = es.toList.filter fun e => !seen.contains e.born := by
  unfold leftOf
  rw [← Array.toList_filter]
theorem leftOf_nil (es : Array MapEntry) : (leftOf es #[]).toList = es.toList := by
  rw [leftOf_list]
  exact List.filter_eq_self.2 (fun x _ => by simp)

/-- One entry that is struck out of a list with no stamp twice. -/
theorem filter_strike : ∀ {l : List MapEntry} {e : MapEntry} (q : MapEntry → Bool), (l.map (·.born)).Nodup → e ∈ l → q e = true →
    (l.filter q).Perm (e :: l.filter fun x => q x && !(x.born == e.born))
  | [], _, _, _, h, _ => by simp at h
  | a :: l, e, q, hn, h, hq => by
    simp only [List.map_cons, List.nodup_cons] at hn
    by_cases ha : a.born = e.born
    · have hae : a = e := by
        rcases List.mem_cons.1 h with h | h
        · exact h.symm
        · exact absurd (List.mem_map.2 ⟨e, h, ha.symm⟩) hn.1
      subst hae
      rw [List.filter_cons, if_pos hq, List.filter_cons, if_neg (by simp)]
      have : l.filter (fun x => q x && !(x.born == a.born)) = l.filter q := List.filter_congr (fun x hx => by
        have : x.born ≠ a.born := fun e1 => hn.1 (List.mem_map.2 ⟨x, hx, e1⟩)
        simp [this])
      rw [this]
    · have hm : e ∈ l := by
        rcases List.mem_cons.1 h with h | h
        · exact absurd (by rw [h]) ha
        · exact h
      have ih := filter_strike q hn.2 hm hq
      by_cases hqa : q a = true
      · rw [List.filter_cons, if_pos hqa, List.filter_cons, if_pos (by simp [hqa, ha])]
        exact (ih.cons a).trans (List.Perm.swap e a _)
      · rw [List.filter_cons, if_neg hqa, List.filter_cons, if_neg (by simp [hqa])]
        exact ih
theorem left_perm {es : Array MapEntry} {seen : Array Nat} (hn : (es.toList.map (·.born)).Nodup) {e : MapEntry} (he : e ∈ (leftOf es seen).toList) : (leftOf es seen).toList.Perm (e :: (leftOf es (seen.push e.born)).toList) := by
  obtain ⟨h1, h2⟩ := mem_left he
  rw [leftOf_list, leftOf_list]
  refine (filter_strike (fun x => !seen.contains x.born) hn h1 (by simp only [h2]; rfl)).trans (List.Perm.of_eq ?_)
  congr 1
  refine List.filter_congr (fun x _ => ?_)
  rw [contains_push]
  cases seen.contains x.born <;> rfl

/-! ### a round that halves, and strikes -/
def halfE (e : MapEntry) : Option MapEntry := if intOf e.val < 2 then none else some { e with val := .int .i64 (intOf e.val / 2) }
def coolE (seen : Array Nat) (e : MapEntry) : Option MapEntry := if seen.contains e.born then halfE e else some e
theorem halfE_born {e x : MapEntry} (h : halfE e = some x) : x.born = e.born ∧ x.key = e.key := by
  unfold halfE at h
  split at h
  · cases h
  · cases h; exact ⟨rfl, rfl⟩
theorem coolE_born {seen : Array Nat} {e x : MapEntry} (h : coolE seen e = some x) : x.born = e.born ∧ x.key = e.key := by
  unfold coolE at h
  split at h
  · exact halfE_born h
  · cases h; exact ⟨rfl, rfl⟩
theorem fm_congr {α β : Type} {f g : α → Option β} : ∀ {l : List α}, (∀ x ∈ l, f x = g x) → l.filterMap f = l.filterMap g
  | [], _ => rfl
  | a :: l, h => by rw [List.filterMap_cons, List.filterMap_cons, h a (by simp), fm_congr (fun x hx => h x (by simp [hx]))]
theorem coolE_start (l : List MapEntry) : l.filterMap (coolE #[]) = l := by
  conv => rhs; rw [← List.filterMap_some (l := l)]
  exact fm_congr (fun x _ => by simp [coolE])
theorem coolE_end {es : Array MapEntry} {l : List MapEntry} {seen : Array Nat} (he : es.toList = l.filterMap (coolE seen)) (h0 : (leftOf es seen).toList = []) : es.toList = l.filterMap halfE := by
  rw [he]
  refine fm_congr (fun x hx => ?_)
  unfold coolE
  split
  · rfl
  · rename_i hs
    exfalso
    have hm : x ∈ es.toList := by rw [he]; exact List.mem_filterMap.2 ⟨x, hx, by unfold coolE; rw [if_neg hs]⟩
    have : x ∈ (leftOf es seen).toList := by
      rw [leftOf_list]
      exact List.mem_filter.2 ⟨hm, by simp only [Bool.not_eq_true] at hs; rw [hs]; rfl⟩
    rw [h0] at this
    simp at this
/-- The entry that comes is one of those at the start. -/
theorem coolE_left {es : Array MapEntry} {l : List MapEntry} {seen : Array Nat} (he : es.toList = l.filterMap (coolE seen)) {e : MapEntry} (hm : e ∈ (leftOf es seen).toList) : e ∈ l ∧ seen.contains e.born = false := by
  obtain ⟨h1, h2⟩ := mem_left hm
  rw [he] at h1
  obtain ⟨x, hx, hc⟩ := List.mem_filterMap.1 h1
  refine ⟨?_, h2⟩
  have hb := (coolE_born hc).1
  unfold coolE at hc
  split at hc
  · rename_i hs; rw [← hb, h2] at hs; cases hs
  · cases hc; exact hx

/-- An entry's value turned, by its place. -/
theorem modify_born {es : Array MapEntry} (hn : (es.toList.map (·.born)).Nodup) {j : Nat} {e : MapEntry} (hj : es.toList[j]? = some e) (g : MapEntry → MapEntry) : (es.modify j g).toList = es.toList.map fun x => if x.born = e.born then g x else x := by
  rw [Array.toList_modify, modify_eq_set _ _ _ _ hj]
  generalize es.toList = l at hn hj
  induction l generalizing j with
  | nil => simp at hj
  | cons a l ih =>
    simp only [List.map_cons, List.nodup_cons] at hn
    cases j with
    | zero =>
      simp only [List.getElem?_cons_zero, Option.some.injEq] at hj
      subst hj
      rw [List.set_cons_zero, List.map_cons, if_pos rfl]
      congr 1
      conv => lhs; rw [← List.map_id l]
      refine List.map_congr_left (fun x hx => ?_)
      have : x.born ≠ a.born := fun e1 => hn.1 (List.mem_map.2 ⟨x, hx, e1⟩)
      rw [if_neg this]
      rfl
    | succ j =>
      simp only [List.getElem?_cons_succ] at hj
      have : a.born ≠ e.born := fun e1 => hn.1 (List.mem_map.2 ⟨e, List.mem_of_getElem? hj, e1.symm⟩)
      rw [List.set_cons_succ, List.map_cons, if_neg this, ih hn.2 hj]
theorem erase_born {es : Array MapEntry} (hn : (es.toList.map (·.born)).Nodup) {j : Nat} {e : MapEntry} (hj : es.toList[j]? = some e) : (es.eraseIdxIfInBounds j).toList = es.toList.filter fun x => !(x.born == e.born) := by
  have hjl : j < es.toList.length := (List.getElem?_eq_some_iff.1 hj).1
  have hsub : (es.eraseIdxIfInBounds j).toList = es.toList.eraseIdx j := by
    unfold Array.eraseIdxIfInBounds
    rw [dif_pos (by simpa using hjl)]
    simp
  rw [hsub]
  clear hsub hjl
  generalize es.toList = l at hn hj
  induction l generalizing j with
  | nil => simp at hj
  | cons a l ih =>
    simp only [List.map_cons, List.nodup_cons] at hn
    cases j with
    | zero =>
      simp only [List.getElem?_cons_zero, Option.some.injEq] at hj
      subst hj
      rw [List.filter_cons, if_neg (by simp)]
      exact (List.filter_eq_self.2 (fun x hx => by
        have : x.born ≠ a.born := fun e1 => hn.1 (List.mem_map.2 ⟨x, hx, e1⟩)
        simp [this])).symm
    | succ j =>
      simp only [List.getElem?_cons_succ] at hj
      have : a.born ≠ e.born := fun e1 => hn.1 (List.mem_map.2 ⟨e, List.mem_of_getElem? hj, e1.symm⟩)
      rw [List.filter_cons, if_pos (by simp [this]), List.eraseIdx_cons_succ]
      rw [ih hn.2 hj]
end Go.Proofs.Ytljbehndnledpaa
