/- A round of Cool: the entry that came is halved, and struck if nothing is left of it. Conditions: those of each theorem. -/
import Derived.Test.YtljbehndnledpaaHeatRange
namespace Go.Proofs.Ytljbehndnledpaa
open Go.RowKit Go.Maps Go.ChangeMaps Go.MapKept

/-- All keys of those entries are spots. -/
def SpotKeys (l : List MapEntry) : Prop := ∀ x ∈ l, ∃ s c, x.key = hsV s ∧ HsIn s ∧ x.val = .int .i64 c
theorem ReadsH.spots {es : List MapEntry} {L : List Hs} (h : ReadsH es L) : SpotKeys es := fun x hx => by
  obtain ⟨p, hp, h1, h2⟩ := h.mem hx
  exact ⟨p.1, p.2, h1, h.ok p hp, h2⟩
theorem SpotKeys.keys {l : List MapEntry} (h : SpotKeys l) : ∀ e ∈ l, ∃ k, keyOf Try.prog 99 e.key = some k := fun e he => by
  obtain ⟨s, c, h1, h2, -⟩ := h e he
  exact ⟨_, by rw [h1]; exact keyOf_hs s h2⟩

theorem Rng.find {w : World} {b r : Nat} {es : Array MapEntry} {seen : Array Nat} (h : Rng w b r es seen) (hk : SpotKeys es.toList) {e : MapEntry} (he : e ∈ es.toList) {s : Int × Int} (hs : HsIn s) (hes : e.key = hsV s) :
    ∃ j, (Instr.findKey 99 (hsV s) es.toList).run Try.prog w = .ok (some (j, e.val)) w ∧ es.toList[j]? = some e := by
  rcases law99.find w (keyOf_hs s hs) es.toList hk.keys with ⟨h1, h2⟩ | ⟨j, e0, h1, h2, h3⟩
  · exact absurd hes (h2 e he)
  · obtain ⟨i, hi⟩ := List.getElem?_of_mem he
    have hn := h.stamped.2
    have a1 : (es.toList.map (·.key))[i]? = some (hsV s) := by simp [hi, hes]
    have a2 : (es.toList.map (·.key))[j]? = some (hsV s) := by simp [h2, h3]
    have hlt : i < (es.toList.map (·.key)).length := (List.getElem?_eq_some_iff.1 a1).1
    have : i = j := (List.getElem?_inj hlt hn).1 (a1.trans a2.symm)
    subst this
    rw [hi] at h2
    cases h2
    exact ⟨_, h1, hi⟩

theorem Rng.halve {w : World} {b r : Nat} {es : Array MapEntry} {seen : Array Nat} (h : Rng w b r es seen) (hk : SpotKeys es.toList) {e : MapEntry} (he : e ∈ es.toList) {s : Int × Int} (hs : HsIn s) (hes : e.key = hsV s) (v : Int) :
    ∃ w' es', (Instr.mapUpdate 101 (.map (some b)) (.agg #[.int .i64 s.1, .int .i64 s.2]) (.int .i64 v)).run Try.prog w = .ok () w' ∧ Rng w' b r es' seen ∧ es'.toList = (es.toList.map fun x => if x.born = e.born then { x with key := hsV s, val := .int .i64 v } else x) ∧ w.grownBy w' (some b) ∧ w'.heap.size = w.heap.size := by
  obtain ⟨j, h1, h2⟩ := h.find hk he hs hes
  have hne := h.ne
  obtain ⟨clock, since, c0, hb, hr, hold, hsc, hsk, hst⟩ := h.ex
  have hj : es[j]? = some e := by simpa using h2
  have hlist := modify_born hst.2.1 h2 (fun x => { x with key := hsV s, val := .int .i64 v })
  refine ⟨setBlock w b (.map (es.modify j fun x => { x with key := hsV s, val := .int .i64 v }) clock), _, ?_, ⟨clock, since, c0, heap_setBlock_same hb _, (heap_setBlock_other hb _ hne.symm).trans hr, fun x hx => ?_, hsc, hsk, stamped_modify hst _ _ (fun _ _ => rfl) (fun e' _ he' => by rw [hj] at he'; cases he'; exact hes.symm)⟩, hlist, ⟨rfl, rfl, rfl, by simp [setBlock], fun i _ hi => heap_setBlock_other hb _ (fun e1 => hi (by rw [e1]))⟩, by simp [setBlock]⟩
  · show (Instr.mapUpdate 101 (.map (some b)) (hsV s) (.int .i64 v)).run Try.prog w = _
    simp [Instr.mapUpdate, run_underlying Try.underlying101, MapKept.run_getObj_map hb, law99.check w false (keyOf_hs s hs), h1, hj, hes, law99.stays w (keyOf_hs s hs), MapKept.run_setObj_map _ hb, Result.andThen, setBlock]
  · rw [hlist] at hx
    obtain ⟨y, hy, rfl⟩ := List.mem_map.1 hx
    have := hold y hy
    split <;> exact this

theorem Rng.strike {w : World} {b r : Nat} {es : Array MapEntry} {seen : Array Nat} (h : Rng w b r es seen) (hk : SpotKeys es.toList) {e : MapEntry} (he : e ∈ es.toList) {s : Int × Int} (hs : HsIn s) (hes : e.key = hsV s) :
    ∃ w' es', (∀ ty, (Builtin.delete_ #[101, 99] ty #[.map (some b), .agg #[.int .i64 s.1, .int .i64 s.2]]).run Try.prog w = .ok (.tuple #[]) w') ∧ Rng w' b r es' seen ∧ es'.toList = (es.toList.filter fun x => !(x.born == e.born)) ∧ w.grownBy w' (some b) ∧ w'.heap.size = w.heap.size := by
  obtain ⟨j, h1, h2⟩ := h.find hk he hs hes
  have hne := h.ne
  obtain ⟨clock, since, c0, hb, hr, hold, hsc, hsk, hst⟩ := h.ex
  have hlist := erase_born hst.2.1 h2
  refine ⟨setBlock w b (.map (es.eraseIdxIfInBounds j) clock), _, fun ty => ?_, ⟨clock, since, c0, heap_setBlock_same hb _, (heap_setBlock_other hb _ hne.symm).trans hr, fun x hx => ?_, hsc, hsk, stamped_erase hst j⟩, hlist, ⟨rfl, rfl, rfl, by simp [setBlock], fun i _ hi => heap_setBlock_other hb _ (fun e1 => hi (by rw [e1]))⟩, by simp [setBlock]⟩
  · show (Builtin.delete_ #[101, 99] ty #[.map (some b), hsV s]).run Try.prog w = _
    simp [Builtin.delete_, run_underlying Try.underlying101, MapKept.run_getObj_map hb, law99.check w _ (keyOf_hs s hs), h1, MapKept.run_setObj_map _ hb, Result.andThen, setBlock]
  · rw [hlist] at hx
    exact hold x (List.mem_filter.1 hx).1

theorem born_inj' : ∀ {l : List MapEntry}, (l.map (·.born)).Nodup → ∀ {x y : MapEntry}, x ∈ l → y ∈ l → x.born = y.born → x = y
  | [], _, _, _, h, _, _ => by simp at h
  | a :: l, hn, x, y, hx, hy, e => by
    simp only [List.map_cons, List.nodup_cons] at hn
    rcases List.mem_cons.1 hx with hx1 | hx1
    · rcases List.mem_cons.1 hy with hy1 | hy1
      · rw [hx1, hy1]
      · exact absurd (List.mem_map.2 ⟨y, hy1, by rw [← e, hx1]⟩) hn.1
    · rcases List.mem_cons.1 hy with hy1 | hy1
      · exact absurd (List.mem_map.2 ⟨x, hx1, by rw [e, hy1]⟩) hn.1
      · exact born_inj' hn.2 hx1 hy1 e

theorem map_fm {α β γ : Type} (f : α → Option β) (g : β → γ) : ∀ l : List α, (l.filterMap f).map g = l.filterMap fun x => (f x).map g
  | [] => rfl
  | a :: l => by
    rw [List.filterMap_cons, List.filterMap_cons]
    cases h : f a <;> simp [map_fm f g l]
theorem filter_fm {α β : Type} (f : α → Option β) (q : β → Bool) : ∀ l : List α, (l.filterMap f).filter q = l.filterMap fun x => (f x).filter q
  | [] => rfl
  | a :: l => by
    rw [List.filterMap_cons, List.filterMap_cons]
    cases h : f a with
    | none => simp [filter_fm f q l]
    | some b =>
      by_cases hq : q b = true
      · simp [hq, filter_fm f q l, Option.filter]
      · simp only [Bool.not_eq_true] at hq
        simp [hq, filter_fm f q l, Option.filter]

/-- The round keeps it. -/
theorem cool_keep {es : List MapEntry} {l : List MapEntry} {seen : Array Nat} {e : MapEntry} {k : Value} (hn : (l.map (·.born)).Nodup) (he : es = l.filterMap (coolE seen)) (hm : e ∈ l) (hs : seen.contains e.born = false) (hk : e.key = k) (h2 : ¬ intOf e.val < 2) :
    (es.map fun x => if x.born = e.born then { x with key := k, val := .int .i64 (intOf e.val / 2) } else x) = l.filterMap (coolE (seen.push e.born)) := by
  rw [he, map_fm]
  refine fm_congr (fun x hx => ?_)
  by_cases hb : x.born = e.born
  · obtain rfl := born_inj' hn hx hm hb
    subst hk
    have e1 : coolE seen x = some x := by unfold coolE; rw [if_neg (by rw [hs]; decide)]
    have e2 : coolE (seen.push x.born) x = halfE x := by unfold coolE; rw [contains_push, beq_self_eq_true, Bool.or_true]; rfl
    rw [e1, e2]
    unfold halfE
    rw [if_neg h2]
    simp
  · have e2 : coolE (seen.push e.born) x = coolE seen x := by
      unfold coolE
      rw [contains_push]
      have : (x.born == e.born) = false := by simp [hb]
      rw [this, Bool.or_false]
    rw [e2]
    cases hc : coolE seen x with
    | none => rfl
    | some y =>
      have := (coolE_born hc).1
      simp [this, hb]
/-- The round strikes it. -/
theorem cool_drop {es : List MapEntry} {l : List MapEntry} {seen : Array Nat} {e : MapEntry} {k : Value} {v : Int} (hn : (l.map (·.born)).Nodup) (he : es = l.filterMap (coolE seen)) (hm : e ∈ l) (hs : seen.contains e.born = false) (h2 : intOf e.val < 2) :
    ((es.map fun x => if x.born = e.born then { x with key := k, val := .int .i64 v } else x).filter fun x => !(x.born == e.born)) = l.filterMap (coolE (seen.push e.born)) := by
  rw [he, map_fm, filter_fm]
  refine fm_congr (fun x hx => ?_)
  by_cases hb : x.born = e.born
  · obtain rfl := born_inj' hn hx hm hb
    have e1 : coolE seen x = some x := by unfold coolE; rw [if_neg (by rw [hs]; decide)]
    have e2 : coolE (seen.push x.born) x = halfE x := by unfold coolE; rw [contains_push, beq_self_eq_true, Bool.or_true]; rfl
    rw [e1, e2]
    unfold halfE
    rw [if_pos h2]
    simp
  · have e2 : coolE (seen.push e.born) x = coolE seen x := by
      unfold coolE
      rw [contains_push]
      have : (x.born == e.born) = false := by simp [hb]
      rw [this, Bool.or_false]
    rw [e2]
    cases hc : coolE seen x with
    | none => rfl
    | some y =>
      have := (coolE_born hc).1
      simp [this, hb]

/-- What cooling comes to, of spots and counts. -/
def coolS (L : List Hs) : List Hs := L.filterMap fun p => if p.2 < 2 then none else some (p.1, p.2 / 2)
theorem ReadsH.cool : ∀ {es : List MapEntry} {L : List Hs}, ReadsH es L → ReadsH (es.filterMap halfE) (coolS L)
  | [], L, h => by
    have : L = [] := List.eq_nil_of_length_eq_zero (by rw [← h.len]; rfl)
    subst this
    exact ⟨rfl, by simp [coolS]⟩
  | e :: es, L, h => by
    cases L with
    | nil => have := h.len; simp at this
    | cons p L =>
      have h1 := h.eq
      simp only [List.map_cons, List.cons.injEq] at h1
      have ih := ReadsH.cool (es := es) (L := L) ⟨h1.2, fun q hq => h.ok q (by simp [hq])⟩
      have hv : e.val = .int .i64 p.2 := by have := h1.1; simp only [kvE, kvH, Prod.mk.injEq] at this; exact this.2
      have hkk : e.key = hsV p.1 := by have := h1.1; simp only [kvE, kvH, Prod.mk.injEq] at this; exact this.1
      have hi : intOf e.val = p.2 := by rw [hv]; rfl
      have eH : halfE e = if p.2 < 2 then none else some { e with val := .int .i64 (p.2 / 2) } := by unfold halfE; rw [hi]
      unfold coolS
      rw [List.filterMap_cons, List.filterMap_cons, eH]
      by_cases h2 : p.2 < 2
      · rw [if_pos h2, if_pos h2]; exact ih
      · rw [if_neg h2, if_neg h2]
        refine ⟨?_, fun q hq => ?_⟩
        · simp only [List.map_cons]
          have := ih.eq
          unfold coolS at this
          rw [this]
          simp [kvE, kvH, hkk]
        · rcases List.mem_cons.1 hq with rfl | hq
          · exact h.ok p (by simp)
          · exact ih.ok q hq
end Go.Proofs.Ytljbehndnledpaa
