/- Rows of truths, and slices.Contains at any numbers. Conditions: those of each theorem. -/
import Derived.Test.YtljbehndnledpaaLedgerAlive
import Derived.Deep.Cut
namespace Go.Proofs.Ytljbehndnledpaa
open Go.RowKit

theorem info4q : (Try.prog.info? 4).map (fun i => (i.zero, i.size, i.bytes)) = some (some (.bool false), 1, 1) := by kernel_rfl
/-- A block of truths. -/
def Truths (w : World) (g : Nat) (L : List Bool) : Prop := w.heap[g]? = some (.cells (L.map Value.bool).toArray 4 (0, 0))
theorem Truths.lt {w : World} {g : Nat} {L : List Bool} (h : Truths w g L) : g < w.heap.size := (Array.getElem?_eq_some_iff.1 h).1
theorem Truths.cell {w : World} {g : Nat} {L : List Bool} (h : Truths w g L) (i : Nat) (hi : i < L.length) : w.cell? ⟨g, i, none⟩ = some (.bool (L.getD i false)) ∧ w.frozen? ⟨g, i, none⟩ = false := by
  refine ⟨?_, frozen_of_row _ _ _ _ _ h⟩
  rw [cell_of_row w g i _ 4 (0, 0) h]
  simp [hi]
theorem Truths.set {w : World} {g : Nat} {L : List Bool} (h : Truths w g L) (i : Nat) (b : Bool) : Truths (w.setCell ⟨g, i, none⟩ (.bool b)) g (L.set i b) := by
  have := heap_setCell_same w g i _ 4 (.bool b) h
  unfold Truths
  rw [this]
  congr 2
  simp [List.map_set]
theorem Truths.other {w : World} {g g' : Nat} {L : List Bool} (h : Truths w g L) (hne : g ≠ g') (i : Nat) (v : Value) : Truths (w.setCell ⟨g', i, none⟩ v) g L := by
  unfold Truths
  rw [heap_setCell_other _ _ _ _ hne]
  exact h
theorem Truths.below {w w' : World} {C g : Nat} {L : List Bool} (h : Truths w g L) (hb : Below C w w') (hC : g < C) : Truths w' g L := (hb.block g hC).trans h
/-- The first i truths are f's, the others no. -/
def upTo (f : Nat → Bool) (n i : Nat) : List Bool := (List.range n).map fun j => decide (j < i) && f j
theorem upTo_len (f : Nat → Bool) (n i : Nat) : (upTo f n i).length = n := by simp [upTo]
theorem upTo_zero (f : Nat → Bool) (n : Nat) : upTo f n 0 = List.replicate n false := by
  unfold upTo
  refine List.ext_getElem (by simp) fun j h1 h2 => by simp
theorem upTo_set (f : Nat → Bool) (n i : Nat) (b : Bool) (hb : b = f i) : (upTo f n i).set i b = upTo f n (i + 1) := by
  subst hb
  unfold upTo
  refine List.ext_getElem (by simp) fun j h1 h2 => ?_
  simp only [List.getElem_set, List.getElem_map, List.getElem_range]
  split
  · next h => subst h; simp
  · next h =>
    congr 1
    rw [decide_eq_decide]
    omega
theorem Truths.flags {w : World} {g n : Nat} {f : Nat → Bool} (h : Truths w g (upTo f n n)) : Flags w g n f := fun j hj => by
  obtain ⟨h1, h2⟩ := h.cell j (by rw [upTo_len]; exact hj)
  refine ⟨?_, h2⟩
  rw [h1]
  simp [upTo, hj]

theorem truths_made (w : World) (n : Nat) (hn : n ≤ 1000000) : ∃ w', (Instr.makeSlice 118 (.int .i64 (n : Int)) (.int .i64 (n : Int))).run Try.prog w = .ok (.slice (some ⟨w.heap.size, 0, none⟩) n n) w' ∧ Truths w' w.heap.size (List.replicate n false) ∧ w.grownBy w' none := by
  obtain ⟨i0, hi, hz0, hz1, hz2⟩ := info_parts info4q
  obtain ⟨w', hr, ho, hg⟩ := run_make_full (P := Try.prog) (w := w) w.heap.size 118 4 i0 (.bool false) 1 Try.underlying118 hi hz0 hz1 .i64 .i64 n (by rw [hz2]; omega) (by unfold maxLen; omega) (Nat.le_refl _)
  have e : (madeCells (Value.bool false).cells (n * 1)).toList = (List.replicate n false).map Value.bool := by
    show (madeCells #[Value.bool false] (n * 1)).toList = _
    rw [toList_madeCells_one, Nat.mul_one, List.map_replicate]
  rw [e] at ho
  exact ⟨w', hr, row_whole ho, hg⟩

theorem contains_any (a : Option Addr) (n c : Nat) (zs : List Int) (x : Int) (w : World) (h : Is .i64 w a n zs) (hn : n ≤ 1000000) :
    Calls Try.prog 73 #[.slice a n c, .int .i64 x] w fun e w' => e = .returned (.bool (zs.contains x)) ∧ w' = w := by
  have hl := h.len
  by_cases h0 : n = 0
  · subst h0
    have : zs = [] := List.eq_nil_of_length_eq_zero hl
    subst this
    exact Try.slices_Contains_int_empty a c x w
  · obtain ⟨b, o, y, rfl, _, _⟩ := Is.cell h 0 (by omega)
    have := Try.slices_Contains_int b o n c zs x w (by omega) (by omega) (fun j hj => by
      obtain ⟨b', o', y, ha, hy, hcy⟩ := Is.cell h j (by omega)
      cases ha
      rw [hcy]
      simp [List.getD, hy])
    rw [List.take_of_length_le (Nat.le_of_eq hl)] at this
    exact this

theorem app_part {w : World} {base : Nat} {v : Value} {acc x : List UInt8} {a : Option Addr} {c : Nat} (hown : w.ownsRow base 5 1 v acc.length (cellsOfB acc)) (hx : Part w (.slice a x.length c) x) (hlen : acc.length + x.length ≤ 100000000000) (hbase : base ≤ w.heap.size) :
    ∃ v' w', (Builtin.append_ #[37, 37] 37 #[v, .slice a x.length c]).run Try.prog w = .ok v' w' ∧ w'.ownsRow base 5 1 v' (acc ++ x).length (cellsOfB (acc ++ x)) ∧ w.grownBy w' v.ownBlock := by
  obtain ⟨a', c', he, hb, hc, ha⟩ := hx
  cases he
  by_cases h0 : 0 < x.length
  · obtain ⟨g, o, rfl, _⟩ := ha h0
    exact app_src hown c hb hlen hbase
  · have : x = [] := List.eq_nil_of_length_eq_zero (by omega)
    subst this
    obtain ⟨i0, hi, hz0, hz1, hz2⟩ := info_parts info5
    cases a with
    | none =>
      refine ⟨v, w, ?_, by simpa using hown, ⟨rfl, rfl, rfl, Nat.le_refl _, fun _ _ _ => rfl⟩⟩
      rcases hown.2 with ⟨rfl, h0⟩ | ⟨g, cap, cur, rfl, _, _, hnc, _⟩
      · simp [Builtin.append_, run_underlying Try.underlying37, sizeOf, typeInfo, hi, Builtin.lenOf, Builtin.firstCells]
      · simp [Builtin.append_, run_underlying Try.underlying37, sizeOf, typeInfo, hi, Builtin.lenOf, Builtin.firstCells, hnc, storeCells]
    | some ad =>
      obtain ⟨v', w', hr, ho, hg, _⟩ := run_append_own (P := Try.prog) w base 37 37 5 i0 (.int .u8 0) 1 1 Try.underlying37 hi hz0 hz1 hz2 rfl (by decide) v acc.length (cellsOfB acc) hown ad 0 c [] rfl (fun j u hu => by simp at hu) (fun u hu => by simp at hu) (by unfold maxLen; simp at hlen; omega) (by simp at hlen; omega) hbase
      exact ⟨v', w', hr, by simpa using ho, hg⟩
theorem OwnPages.at {w : World} {B : Nat} {v : Value} {L : List (List UInt8)} (h : OwnPages w B v L) (i : Nat) (x : List UInt8) (hx : L[i]? = some x) :
    ∃ g cap a c, v = .slice (some ⟨g, 0, none⟩) L.length cap ∧ w.cell? ⟨g, i, none⟩ = some (.slice a x.length c) ∧ Part w (.slice a x.length c) x := by
  obtain ⟨vs, h1, h2⟩ := h
  obtain ⟨u, hu, hp⟩ := h2 i x hx
  have hi := (List.getElem?_eq_some_iff.1 hx).1
  obtain ⟨g, cap, rfl⟩ := own_some h1 (by omega)
  obtain ⟨a, c, rfl, hr⟩ := id hp
  have e1 := h1.cells (g := g) rfl _ _ hu
  refine ⟨g, cap, a, c, rfl, ?_, hp⟩
  rw [← e1]; congr 1; unfold Addr.add; split <;> simp_all
end Go.Proofs.Ytljbehndnledpaa
