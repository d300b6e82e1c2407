/- Plain: which operations Squash leaves out, which blocks are touched, and the law's own reckoning. Conditions: those of each theorem. -/
import Derived.Test.YtljbehndnledpaaBatchAgain
import Derived.Test.YtljbehndnledpaaOwnInts
namespace Go.Proofs.Ytljbehndnledpaa
open Go.RowKit

/-- The blocks that a plain one touches. -/
def PO.blocks (o : PO) : List Int := if o.k = 4 then [o.b] else (List.range o.n.toNat).map fun i : Nat => o.b + (i : Int)
/-- Is nothing of it wanted? -/
def PO.idle (o : PO) (t : List PO) : Bool := o.plain56 && o.blocks.all fun x => againL o.v x t
/-- What Squash keeps. -/
def sqKeep : List PO → List PO
  | [] => []
  | o :: t => if o.idle t then sqKeep t else o :: sqKeep t
/-- The same, as the law says it. -/
def PO.idle56 (o : PO) (t : List PO) : Bool := o.plain56 && (List.range 64).all fun b : Nat => !o.touch o.v (b : Int) || againL o.v (b : Int) t
def wantL : List PO → List PO
  | [] => []
  | o :: t => if o.idle56 t then wantL t else o :: wantL t
def touchedL (vol : Int) (l : List PO) : List Int := l.flatMap fun o => if o.plain56 && o.v == vol then o.blocks else []
def blocksL (vol : Int) (l : List PO) : List Int := ((List.range 64).filter fun b : Nat => l.any fun o => o.plain56 && o.touch vol (b : Int)).map fun b : Nat => (b : Int)

/-- What a plain one's numbers are. -/
theorem plain_bounds {o : PO} (h : o.plain56 = true) : (o.k = 4 ∨ (o.k = 5 ∧ 1 ≤ o.n ∧ o.n ≤ 32)) ∧ 1 ≤ o.v ∧ o.v ≤ 65535 ∧ 0 ≤ o.b ∧ o.b ≤ 31 := by
  unfold PO.plain56 plainO at h
  simp only [Bool.and_eq_true, Bool.or_eq_true, beq_iff_eq] at h
  obtain ⟨h1, h2⟩ := h
  unfold rightO at h2
  rcases h1 with h1 | h1 <;> rw [h1] at h2 <;> simp [looksL, mayO, okId, okPlace, okCount, okData] at h2
  · exact ⟨.inl h1, by omega, by omega, by omega, by omega⟩
  · exact ⟨.inr ⟨h1, by omega, by omega⟩, by omega, by omega, by omega, by omega⟩
theorem blocks_mem {o : PO} (h : o.plain56 = true) (x : Int) : x ∈ o.blocks ↔ o.b ≤ x ∧ x < o.b + if o.k = 5 then o.n else 1 := by
  have hb := plain_bounds h
  unfold PO.blocks
  by_cases h4 : o.k = 4
  · rw [if_pos h4, if_neg (by omega)]
    simp; omega
  · rw [if_neg h4, if_pos (by omega)]
    simp only [List.mem_map, List.mem_range]
    constructor
    · rintro ⟨i, hi, rfl⟩; omega
    · intro hx
      exact ⟨(x - o.b).toNat, by omega, by omega⟩
theorem touch_iff {o : PO} (h : o.plain56 = true) (vol x : Int) : o.touch vol x = (o.v == vol && decide (x ∈ o.blocks)) := by
  have hb := plain_bounds h
  have hw : wrap64 (o.b + if o.k = 5 then o.n else 1) = o.b + if o.k = 5 then o.n else 1 := by
    unfold wrap64
    split <;> omega
  unfold PO.touch touchO
  rw [hw]
  congr 1
  rw [Bool.eq_iff_iff]
  simp only [Bool.and_eq_true, decide_eq_true_eq]
  exact (blocks_mem h x).symm
theorem blocks_bound {o : PO} (h : o.plain56 = true) {x : Int} (hx : x ∈ o.blocks) : 0 ≤ x ∧ x < 64 := by
  have hb := plain_bounds h
  have := (blocks_mem h x).1 hx
  split at this <;> omega
theorem blocks_len {o : PO} (h : o.plain56 = true) : o.blocks.length ≤ 32 := by
  have hb := plain_bounds h
  unfold PO.blocks
  split
  · simp
  · simp; omega
theorem blocks_nodup (o : PO) : o.blocks.Pairwise (· < ·) := by
  unfold PO.blocks
  split
  · simp
  · rw [List.pairwise_map]
    exact List.pairwise_lt_range.imp fun h => by omega
theorem idle_eq (o : PO) (t : List PO) : o.idle56 t = o.idle t := by
  unfold PO.idle56 PO.idle
  cases hp : o.plain56 with
  | false => rfl
  | true =>
    rw [Bool.true_and, Bool.true_and, Bool.eq_iff_iff, List.all_eq_true, List.all_eq_true]
    constructor
    · intro h x hx
      obtain ⟨h0, h1⟩ := blocks_bound hp hx
      have := h x.toNat (by simp; omega)
      rw [touch_iff hp, show ((x.toNat : Nat) : Int) = x by omega] at this
      simpa [hx] using this
    · intro h b hb
      rw [touch_iff hp]
      by_cases hx : (b : Int) ∈ o.blocks
      · simp [hx, h _ hx]
      · simp [hx]
theorem want_eq : ∀ l : List PO, wantL l = sqKeep l
  | [] => rfl
  | o :: t => by rw [wantL, sqKeep, idle_eq, want_eq t]

/-! Compacted: rising, with the same members. -/
theorem compactUpTo_rising (d : Array Int) (hs : ∀ i j, i ≤ j → j < d.size → d[i]! ≤ d[j]!) : ∀ m, m ≤ d.size →
    (Lib.compactUpTo d m).Pairwise (· < ·) ∧ (∀ x, x ∈ Lib.compactUpTo d m ↔ ∃ j, j < m ∧ d[j]! = x)
  | 0, _ => ⟨by simp [Lib.compactUpTo], fun x => by simp [Lib.compactUpTo]⟩
  | m + 1, hm => by
    obtain ⟨h1, h2⟩ := compactUpTo_rising d hs m (by omega)
    rw [Lib.compactUpTo_succ]
    by_cases hk : Lib.keeps d m = true
    · rw [if_pos hk]
      refine ⟨List.pairwise_append.2 ⟨h1, by simp, fun x hx y hy => ?_⟩, fun x => ?_⟩
      · rw [List.mem_singleton.1 hy]
        obtain ⟨j, hj, rfl⟩ := (h2 x).1 hx
        have hm0 : d[m]! ≠ d[m - 1]! := by
          unfold Lib.keeps at hk
          simp only [decide_eq_true_eq] at hk
          rcases hk with hk | hk
          · omega
          · exact hk
        have e1 := hs j (m - 1) (by omega) (by omega)
        have e2 := hs (m - 1) m (by omega) (by omega)
        omega
      · rw [List.mem_append, List.mem_singleton, h2]
        constructor
        · rintro (⟨j, hj, rfl⟩ | rfl)
          · exact ⟨j, by omega, rfl⟩
          · exact ⟨m, by omega, rfl⟩
        · rintro ⟨j, hj, rfl⟩
          by_cases hjm : j = m
          · subst hjm; exact .inr rfl
          · exact .inl ⟨j, by omega, rfl⟩
    · rw [if_neg hk, List.append_nil]
      refine ⟨h1, fun x => ?_⟩
      rw [h2]
      constructor
      · rintro ⟨j, hj, rfl⟩
        exact ⟨j, by omega, rfl⟩
      · rintro ⟨j, hj, rfl⟩
        by_cases hjm : j = m
        · subst hjm
          unfold Lib.keeps at hk
          simp only [decide_eq_true_eq, not_or, ne_eq, Decidable.not_not] at hk
          exact ⟨j - 1, by omega, hk.2.symm⟩
        · exact ⟨j, by omega, rfl⟩
theorem rising_eq : ∀ (a b : List Int), a.Pairwise (· < ·) → b.Pairwise (· < ·) → (∀ x, x ∈ a ↔ x ∈ b) → a = b
  | [], [], _, _, _ => rfl
  | [], y :: b, _, _, h => absurd ((h y).2 (by simp)) (by simp)
  | x :: a, [], _, _, h => absurd ((h x).1 (by simp)) (by simp)
  | x :: a, y :: b, ha, hb, h => by
    obtain ⟨a1, a2⟩ := List.pairwise_cons.1 ha
    obtain ⟨b1, b2⟩ := List.pairwise_cons.1 hb
    have hxy : x = y := by
      rcases List.mem_cons.1 ((h x).1 (by simp)) with e | e
      · exact e
      · rcases List.mem_cons.1 ((h y).2 (by simp)) with e' | e'
        · exact e'.symm
        · have := b1 x e
          have := a1 y e'
          omega
    subst hxy
    congr 1
    refine rising_eq a b a2 b2 fun z => ⟨fun hz => ?_, fun hz => ?_⟩
    · rcases List.mem_cons.1 ((h z).1 (by simp [hz])) with e | e
      · have := a1 z hz; omega
      · exact e
    · rcases List.mem_cons.1 ((h z).2 (by simp [hz])) with e | e
      · have := b1 z hz; omega
      · exact e
theorem sorted_le (zs : List Int) : (sortL zs).Pairwise (· ≤ ·) := by
  have := List.pairwise_mergeSort (le := fun x y : Int => decide (x ≤ y)) (fun a b c h1 h2 => by simp at *; omega) (fun a b => by simp; omega) zs
  exact this.imp fun h => by simpa using h
theorem compact_sorted (zs b : List Int) (hb : b.Pairwise (· < ·)) (hm : ∀ x, x ∈ zs ↔ x ∈ b) : Lib.compact (sortL zs) = b := by
  have hp := List.pairwise_iff_getElem.1 (sorted_le zs)
  have hs : ∀ i j, i ≤ j → j < (sortL zs).toArray.size → (sortL zs).toArray[i]! ≤ (sortL zs).toArray[j]! := by
    intro i j hij hj
    have hj' : j < (sortL zs).length := by simpa using hj
    rw [getElem!_pos _ _ (by simp; omega), getElem!_pos _ _ (by simp; omega)]
    simp only [List.getElem_toArray]
    by_cases e : i = j
    · subst e; omega
    · exact hp i j (by omega) hj' (by omega)
  obtain ⟨h1, h2⟩ := compactUpTo_rising (sortL zs).toArray hs (sortL zs).length (by simp)
  refine rising_eq _ _ h1 hb fun x => ?_
  rw [← hm]
  unfold Lib.compact
  rw [h2]
  have hmem : x ∈ sortL zs ↔ x ∈ zs := List.mem_mergeSort
  rw [← hmem, List.mem_iff_getElem]
  constructor
  · rintro ⟨j, hj, rfl⟩
    exact ⟨j, hj, by rw [getElem!_pos _ _ (by simpa using hj)]; simp⟩
  · rintro ⟨j, hj, rfl⟩
    exact ⟨j, hj, by rw [getElem!_pos _ _ (by simpa using hj)]; simp⟩
theorem touched_eq (vol : Int) (l : List PO) : Lib.compact (sortL (touchedL vol l)) = blocksL vol l := by
  refine compact_sorted _ _ ?_ fun x => ?_
  · unfold blocksL
    rw [List.pairwise_map]
    exact (List.pairwise_lt_range.filter _).imp fun h => by omega
  · unfold touchedL blocksL
    simp only [List.mem_flatMap, List.mem_map, List.mem_filter, List.mem_range, List.any_eq_true]
    constructor
    · rintro ⟨o, ho, hx⟩
      split at hx
      · rename_i hc
        rw [Bool.and_eq_true] at hc
        obtain ⟨h0, h1⟩ := blocks_bound hc.1 hx
        refine ⟨x.toNat, ⟨by omega, o, ho, ?_⟩, by omega⟩
        rw [touch_iff hc.1, show ((x.toNat : Nat) : Int) = x by omega]
        simp [hc, hx]
      · cases hx
    · rintro ⟨b, ⟨hb, o, ho, hc⟩, rfl⟩
      rw [Bool.and_eq_true] at hc
      rw [touch_iff hc.1, Bool.and_eq_true, decide_eq_true_eq] at hc
      exact ⟨o, ho, by rw [hc.1, hc.2.1, Bool.true_and, if_pos rfl]; exact hc.2.2⟩
theorem touchedL_len (vol : Int) : ∀ l : List PO, (touchedL vol l).length ≤ l.length * 32
  | [] => by simp [touchedL]
  | o :: t => by
    have ih := touchedL_len vol t
    unfold touchedL at ih ⊢
    rw [List.flatMap_cons, List.length_append, List.length_cons]
    split
    · rename_i hc
      rw [Bool.and_eq_true] at hc
      have := blocks_len hc.1
      omega
    · rw [List.length_nil]; omega
theorem sqKeep_len : ∀ l : List PO, (sqKeep l).length ≤ l.length
  | [] => by simp [sqKeep]
  | o :: t => by
    have := sqKeep_len t
    unfold sqKeep
    split <;> simp <;> omega
/-- The spots that are touched behind a place. -/
def PO.spots (o : PO) : List (Int × Int) := o.blocks.map fun x => (o.v, x)
def sqS : List PO → List (Int × Int)
  | [] => []
  | o :: t => if o.plain56 then o.spots.reverse ++ sqS t else []
theorem spots_mem {o : PO} (v x : Int) : (v, x) ∈ o.spots ↔ v = o.v ∧ x ∈ o.blocks := by
  unfold PO.spots
  rw [List.mem_map]
  constructor
  · rintro ⟨y, hy, e⟩
    cases e
    exact ⟨rfl, hy⟩
  · rintro ⟨rfl, hx⟩
    exact ⟨x, hx, rfl⟩
theorem sqS_mem : ∀ (l : List PO) (v x : Int), (v, x) ∈ sqS l ↔ againL v x l = true
  | [], v, x => by simp [sqS, againL]
  | o :: t, v, x => by
    have ih := sqS_mem t v x
    unfold sqS againL
    cases hp : o.plain56 with
    | false => simp
    | true =>
      rw [if_pos rfl, List.mem_append, List.mem_reverse, spots_mem, ih, touch_iff hp, Bool.true_and, Bool.or_eq_true, Bool.and_eq_true, beq_iff_eq, decide_eq_true_eq]
      constructor
      · rintro (⟨rfl, h⟩ | h)
        · exact .inl ⟨rfl, h⟩
        · exact .inr h
      · rintro (⟨rfl, h⟩ | h)
        · exact .inl ⟨rfl, h⟩
        · exact .inr h
theorem sqS_len : ∀ l : List PO, (sqS l).length ≤ l.length * 32
  | [] => by simp [sqS]
  | o :: t => by
    have ih := sqS_len t
    unfold sqS
    split
    · rename_i hp
      have := blocks_len hp
      have e : o.spots.length = o.blocks.length := by simp [PO.spots]
      rw [List.length_append, List.length_reverse, e, List.length_cons]
      omega
    · simp
def InS (s : Int × Int) : Prop := (0 ≤ s.1 ∧ s.1 ≤ 65535) ∧ 0 ≤ s.2 ∧ s.2 ≤ 65535
theorem spots_in {o : PO} (h : o.plain56 = true) : ∀ s ∈ o.spots, InS s := by
  rintro ⟨v, x⟩ hs
  obtain ⟨rfl, hx⟩ := (spots_mem v x).1 hs
  have h1 := plain_bounds h
  have h2 := blocks_bound h hx
  unfold InS
  simp only
  omega
theorem sqS_in : ∀ (l : List PO), ∀ s ∈ sqS l, InS s
  | [], s, h => by simp [sqS] at h
  | o :: t, s, h => by
    unfold sqS at h
    split at h
    · rename_i hp
      rcases List.mem_append.1 h with h | h
      · exact spots_in hp s (List.mem_reverse.1 h)
      · exact sqS_in t s h
    · cases h
/-- Are all of the first ones among those? -/
def idleTo (o : PO) (S : List (Int × Int)) (i : Nat) : Bool := (o.spots.take i).all fun s => decide (s ∈ S)
theorem idle_spots (o : PO) (t : List PO) (h : o.plain56 = true) : o.idle t = idleTo o (sqS t) o.spots.length := by
  unfold PO.idle idleTo
  rw [h, Bool.true_and, List.take_length, PO.spots, List.all_map]
  congr 1
  funext x
  rw [Bool.eq_iff_iff, Function.comp_apply, decide_eq_true_eq]
  exact (sqS_mem t o.v x).symm
theorem spots_apart (o : PO) (S : List (Int × Int)) (i : Nat) (s : Int × Int) (h : o.spots[i]? = some s) : s ∈ (o.spots.take i).reverse ++ S ↔ s ∈ S := by
  rw [List.mem_append, List.mem_reverse]
  constructor
  · rintro (h1 | h1)
    · exfalso
      have hnd : o.spots.Pairwise fun a b => a.2 < b.2 := by unfold PO.spots; rw [List.pairwise_map]; exact blocks_nodup o
      obtain ⟨j, hj, e⟩ := List.mem_iff_getElem.1 h1
      rw [List.length_take] at hj
      rw [List.getElem_take] at e
      have hi := (List.getElem?_eq_some_iff.1 h).1
      have := List.pairwise_iff_getElem.1 hnd j i (by omega) hi (by omega)
      rw [e, (List.getElem?_eq_some_iff.1 h).2] at this
      omega
    · exact h1
  · exact .inr
theorem idleTo_next (o : PO) (S : List (Int × Int)) (i : Nat) (s : Int × Int) (h : o.spots[i]? = some s) : idleTo o S (i + 1) = (idleTo o S i && decide (s ∈ S)) := by
  unfold idleTo
  rw [List.take_add_one, h, Option.toList_some, List.all_append]
  simp
theorem take_next (o : PO) (S : List (Int × Int)) (i : Nat) (s : Int × Int) (h : o.spots[i]? = some s) : (o.spots.take (i + 1)).reverse ++ S = s :: ((o.spots.take i).reverse ++ S) := by
  rw [List.take_add_one, h, Option.toList_some, List.reverse_append]
  rfl

/-! In rows. -/
def rowsTo (s : Nat) (l : List PO) (r : Nat) : List (List PO) := (List.range r).map fun j => (l.drop (j * s)).take s
theorem rowsTo_len (s : Nat) (l : List PO) (r : Nat) : (rowsTo s l r).length = r := by simp [rowsTo]
theorem rowsTo_next (s : Nat) (l : List PO) (r : Nat) : rowsTo s l (r + 1) = rowsTo s l r ++ [(l.drop (r * s)).take s] := by simp [rowsTo, List.range_succ]
theorem rowsTo_at (s : Nat) (l : List PO) (r j : Nat) (h : j < r) : (rowsTo s l r)[j]? = some ((l.drop (j * s)).take s) := by simp [rowsTo, h]
theorem rowsTo_flat (s : Nat) (l : List PO) : ∀ r, (rowsTo s l r).flatten = l.take (r * s)
  | 0 => by simp [rowsTo]
  | r + 1 => by
    rw [rowsTo_next, List.flatten_append, rowsTo_flat s l r, Nat.succ_mul, List.take_add]
    simp
end Go.Proofs.Ytljbehndnledpaa
namespace Go.Proofs.Ytljbehndnledpaa
open Go.RowKit

theorem sqKeep_mem : ∀ (l : List PO), ∀ o ∈ sqKeep l, o ∈ l
  | [], o, h => by simp [sqKeep] at h
  | a :: t, o, h => by
    have e : sqKeep (a :: t) = if a.idle t then sqKeep t else a :: sqKeep t := rfl
    rw [e] at h
    split at h
    · exact List.mem_cons_of_mem _ (sqKeep_mem t o h)
    · rcases List.mem_cons.1 h with rfl | h
      · exact List.mem_cons_self
      · exact List.mem_cons_of_mem _ (sqKeep_mem t o h)
/-- As far as some blocks. -/
def idleB (o : PO) (t : List PO) (b : Nat) : Bool := (List.range b).all fun b : Nat => !o.touch o.v (b : Int) || againL o.v (b : Int) t
theorem idleB_zero (o : PO) (t : List PO) : idleB o t 0 = true := rfl
theorem idleB_next (o : PO) (t : List PO) (b : Nat) : idleB o t (b + 1) = (idleB o t b && (!o.touch o.v (b : Int) || againL o.v (b : Int) t)) := by
  unfold idleB
  rw [List.range_succ, List.all_append]
  simp
theorem idleB_down (o : PO) (t : List PO) (b : Nat) (hb : b ≤ 64) (h : idleB o t b = false) : idleB o t 64 = false := by
  unfold idleB at h ⊢
  rw [List.all_eq_false] at h ⊢
  obtain ⟨x, hx, h1⟩ := h
  exact ⟨x, by simp at hx ⊢; omega, h1⟩
theorem idle56_B (o : PO) (t : List PO) : o.idle56 t = (o.plain56 && idleB o t 64) := rfl
theorem drop_at {l : List PO} {i : Nat} {o : PO} (h : l[i]? = some o) : l.drop i = o :: l.drop (i + 1) := by
  have hi := (List.getElem?_eq_some_iff.1 h).1
  rw [List.drop_eq_getElem_cons hi]
  congr 1
  exact (List.getElem?_eq_some_iff.1 h).2
theorem want_next {l acc : List PO} {i : Nat} {o : PO} (h : l[i]? = some o) (ha : acc ++ wantL (l.drop i) = wantL l) : (if o.idle56 (l.drop (i + 1)) then acc else acc ++ [o]) ++ wantL (l.drop (i + 1)) = wantL l := by
  rw [drop_at h] at ha
  have e : wantL (o :: l.drop (i + 1)) = if o.idle56 (l.drop (i + 1)) then wantL (l.drop (i + 1)) else o :: wantL (l.drop (i + 1)) := rfl
  rw [e] at ha
  cases hi : o.idle56 (l.drop (i + 1)) with
  | true => rw [hi, if_pos rfl] at ha; rw [if_pos rfl]; exact ha
  | false => rw [hi, if_neg (by decide)] at ha; rw [if_neg (by decide), List.append_assoc]; exact ha

/-- Is a block touched by one of the first? -/
def anyL (vol : Int) (b : Nat) (l : List PO) : Bool := l.any fun o => o.plain56 && o.touch vol (b : Int)
theorem any_next {l : List PO} {i : Nat} {o : PO} (vol : Int) (b : Nat) (h : l[i]? = some o) : anyL vol b (l.take (i + 1)) = (anyL vol b (l.take i) || (o.plain56 && o.touch vol (b : Int))) := by
  unfold anyL
  rw [List.take_add_one, h, Option.toList_some, List.any_append]
  simp
def blocksB (vol : Int) (l : List PO) (b : Nat) : List Int := ((List.range b).filter fun b : Nat => anyL vol b l).map fun b : Nat => (b : Int)
theorem blocksB_next (vol : Int) (l : List PO) (b : Nat) : blocksB vol l (b + 1) = if anyL vol b l then blocksB vol l b ++ [(b : Int)] else blocksB vol l b := by
  unfold blocksB
  rw [List.range_succ, List.filter_append, List.map_append]
  cases h : anyL vol b l <;> simp [h]
theorem blocksB_len (vol : Int) (l : List PO) (b : Nat) : (blocksB vol l b).length ≤ b := by
  unfold blocksB
  rw [List.length_map]
  exact Nat.le_trans (List.length_filter_le _ _) (by simp)
theorem blocksB_all (vol : Int) (l : List PO) : blocksB vol l 64 = blocksL vol l := rfl
end Go.Proofs.Ytljbehndnledpaa
