/- slices.SortFunc at counts by heat.compare: the row holds them in that order. Conditions: those of each theorem. -/
import Derived.Test.YtljbehndnledpaaHsort
import Derived.Test.YtljbehndnledpaaCmp
import Derived.Test.YtljbehndnledpaaHeatBefore
namespace Go.Proofs.Ytljbehndnledpaa
open Go.RowKit

def encHs (p : Hs) : List Value := [.int .i64 p.1.1, .int .i64 p.1.2, .int .i64 p.2]
theorem flat_hs (l : List Hs) : Sort.flatK encHs 3 l.toArray = (hsCells l).toArray := by
  refine Sort.ext_get! (by simp [hsCells_len]) fun t ht => ?_
  have ht' : t < l.length * 3 := by simpa using ht
  rw [Sort.get_flatK _ _ _ _ (by simpa using ht')]
  have hq : t / 3 < l.length := by omega
  have hc : t < (hsCells l).length := by rw [hsCells_len]; exact ht'
  obtain ⟨h1, h2, h3⟩ := hsCells_at l (t / 3) _ (List.getElem?_eq_getElem hq)
  have hg : l.toArray[t / 3]! = l[t / 3] := getElem!_pos l.toArray (t / 3) (by simpa using hq)
  have hr : (hsCells l).toArray[t]! = (hsCells l)[t] := getElem!_pos (hsCells l).toArray t (by simpa using hc)
  rw [hg, hr]
  have : t = t / 3 * 3 ∨ t = t / 3 * 3 + 1 ∨ t = t / 3 * 3 + 2 := by omega
  rcases this with e | e | e
  · have hm : t % 3 = 0 := by omega
    rw [← e, List.getElem?_eq_getElem hc] at h1
    rw [Option.some.inj h1, hm]; rfl
  · have hm : t % 3 = 1 := by omega
    rw [← e, List.getElem?_eq_getElem hc] at h2
    rw [Option.some.inj h2, hm]; rfl
  · have hm : t % 3 = 2 := by omega
    rw [← e, List.getElem?_eq_getElem hc] at h3
    rw [Option.some.inj h3, hm]; rfl
theorem holds_id {w : World} {g : Nat} {cur : Array Value} {e : TypeId} {F : List Value} (hb : w.heap[g]? = some (.cells cur e (0, 0))) (ht : cur.toList.take F.length = F) : Sort.Holds id w g 0 F.toArray := by
  intro j hj
  have hj' : j < F.length := by simpa using hj
  refine ⟨?_, by simp [World.frozen?, hb]⟩
  have h1 : (cur.toList.take F.length)[j]? = F[j]? := by rw [ht]
  rw [List.getElem?_take_of_lt hj'] at h1
  simp only [World.cell?, hb, Nat.zero_add]
  simp only [Option.isSome_none, Bool.false_eq_true, if_false]
  rw [← Array.getElem?_toList, h1]
  simp [hj']
theorem heap_sortedId {w : World} {g n : Nat} {os : Array Obj} {cur : Array Value} {e : TypeId} {fr : Nat × Nat} (d : Array Value) (hb : w.heap[g]? = some (.cells cur e fr)) :
    (Sort.grow (Sort.putRow id (Sort.ahead w n) g 0 d) os).heap[g]? = some (.cells (Sort.putCells id 0 d cur) e fr) := by
  have hg : g < w.heap.size := (Array.getElem?_eq_some_iff.1 hb).1
  rw [Sort.heap_grow_old _ _ (by simpa using hg)]
  simp [Sort.putRow, Sort.mapBlock, Sort.ahead, Array.getElem?_modify, hb, Sort.onCells]
theorem grownBy_sortedId {w : World} {g n : Nat} {os : Array Obj} (d : Array Value) : w.grownBy (Sort.grow (Sort.putRow id (Sort.ahead w n) g 0 d) os) (some g) := by
  refine ⟨rfl, rfl, rfl, by simp, fun k hk hne => ?_⟩
  rw [Sort.heap_grow_old _ _ (by simpa using hk)]
  have : g ≠ k := fun e => hne (by rw [e])
  simp [Sort.putRow, Sort.mapBlock, Sort.ahead, Array.getElem?_modify, this]
theorem take_putCellsId (cur : Array Value) (ts : List Value) (h : ts.length ≤ cur.size) : (Sort.putCells id 0 ts.toArray cur).toList.take ts.length = ts := by
  apply List.ext_getElem?
  intro j
  by_cases hj : j < ts.length
  · rw [List.getElem?_take_of_lt hj, Array.getElem?_toList]
    simp [Sort.putCells, hj, show j < cur.size by omega]
  · rw [List.getElem?_take_eq_none (by omega), List.getElem?_eq_none (by omega)]

/-- heat.compare's order. -/
def ltHs (a b : Hs) : Bool := decide (cfH a b < 0)
theorem ltHs_eq (a b : Hs) : ltHs a b = befH a b := by
  obtain ⟨⟨a1, a2⟩, an⟩ := a
  obtain ⟨⟨b1, b2⟩, bn⟩ := b
  unfold ltHs befH cfH or3 Lib.compareInt
  simp only
  by_cases h : an = bn
  · subst h
    simp only [Int.lt_irrefl, gt_iff_lt, if_false, if_true]
    by_cases h1 : a1 < b1
    · simp [h1]
    · by_cases h2 : a1 = b1
      · subst h2
        by_cases h3 : a2 < b2
        · simp [h3]
        · by_cases h4 : b2 < a2 <;> simp [h3, h4]
      · have h3 : b1 < a1 := by omega
        simp [h1, h2, h3]
  · by_cases h1 : bn < an
    · simp [h1, h]
    · have h2 : an < bn := by omega
      simp [h1, h2, h]
theorem befH_irrefl (a : Hs) : befH a a = false := by simp [befH]
theorem befH_iff (a b : Hs) : befH a b = true ↔ b.2 < a.2 ∨ (a.2 = b.2 ∧ (a.1.1 < b.1.1 ∨ (a.1.1 = b.1.1 ∧ a.1.2 < b.1.2))) := by
  unfold befH
  by_cases h : a.2 = b.2
  · rw [if_pos h]; simp [h]
  · rw [if_neg h]; simp [h]
theorem befH_not (a b : Hs) : befH a b = false ↔ ¬ (b.2 < a.2 ∨ (a.2 = b.2 ∧ (a.1.1 < b.1.1 ∨ (a.1.1 = b.1.1 ∧ a.1.2 < b.1.2)))) := by
  rw [← befH_iff, Bool.not_eq_true]
theorem befH_trans {a b c : Hs} (h1 : befH a b = true) (h2 : befH b c = true) : befH a c = true := by
  rw [befH_iff] at *
  omega
theorem befH_ntrans {a b c : Hs} (h1 : befH a b = false) (h2 : befH b c = false) : befH a c = false := by
  rw [befH_not] at *
  omega
theorem befH_total {a b : Hs} (h1 : befH a b = false) (h2 : befH b a = false) : a = b := by
  rw [befH_not] at *
  exact Prod.ext (Prod.ext (by omega) (by omega)) (by omega)

/-- The counts, the greatest first. -/
def topL (l : List Hs) : List Hs := l.mergeSort fun x y => !(befH y x)
theorem topL_len (l : List Hs) : (topL l).length = l.length := List.length_mergeSort ..

theorem swoH : Sort.SWO (ltOf cfH) where
  irrefl x := (ltHs_eq x x).trans (befH_irrefl x)
  trans x y z h1 h2 := (ltHs_eq x z).trans (befH_trans ((ltHs_eq x y).symm.trans h1) ((ltHs_eq y z).symm.trans h2))
  ntrans x y z h1 h2 := (ltHs_eq x z).trans (befH_ntrans ((ltHs_eq x y).symm.trans h1) ((ltHs_eq y z).symm.trans h2))
theorem cmpLaysH (blk off size : Nat) (w : World) : CmpLays Try.prog 129 #[] encHs 3 cfH blk off size w := fun _ _ _ _ x y => compareH_any x y _
theorem isAggH : ∀ w, (isAgg (Try.sortH_ren.t 24)).run Try.prog w = .ok true w := Try.isAgg111
theorem sizeOfH : ∀ w, (Go.sizeOf (Try.sortH_ren.t 24)).run Try.prog w = .ok (3 : Nat) w := Try.sizeOf111
theorem mergeSort_congr {le1 le2 : Hs → Hs → Bool} (l : List Hs) (h : ∀ a b, le1 a b = le2 a b) : l.mergeSort le1 = l.mergeSort le2 := by
  have : le1 = le2 := funext fun a => funext fun b => h a b
  rw [this]

theorem sortH_own {w : World} {B : Nat} {v : Value} {l : List Hs} (h : OwnH w B v l) (hn : l.length ≤ 1000000000) (hB : B ≤ w.heap.size) :
    Calls Try.prog 128 #[v, .func (.func 129) #[] #[]] w fun e w' => e = .returned (.tuple #[]) ∧ OwnH w' B v (topL l) ∧ Below B w w' := by
  rcases h.2 with ⟨rfl, h0⟩ | ⟨g, cap, cur, rfl, hbg, hg, hnc, hcm, hcs, htake⟩
  · have : l = [] := List.eq_nil_of_length_eq_zero h0
    subst this
    refine (AnyF.slices_SortFunc_none Try.sortH none 0 _ w).mono ?_
    rintro e w' ⟨rfl, rfl⟩
    exact ⟨rfl, by simpa [topL] using h, Below.refl _ _⟩
  · have hlt : g < w.heap.size := (Array.getElem?_eq_some_iff.1 hg).1
    have eg : ∀ args w, (callFunc 129 args).run Try.prog w = .ok (.enter 129 args) w := enters_of Try.func129 (by kernel_rfl) rfl
    have hH : Sort.HoldsK encHs 3 w g 0 l.toArray := by
      unfold Sort.HoldsK
      rw [flat_hs]
      exact holds_id hg (by rw [hsCells_len]; exact htake)
    have hc := AnyQ.slices_SortFunc_total Try.sortH 3 isAggH sizeOfH encHs (fun _ => rfl) (fun x v hv => by simp [encHs] at hv; rcases hv with rfl | rfl | rfl <;> rfl) cfH swoH 129 #[] g 0 cap l.toArray w eg (cmpLaysH g 0 _ w) hH hlt (by simp; omega)
      (fun x y h1 h2 => befH_total ((ltHs_eq x y).symm.trans h1) ((ltHs_eq y x).symm.trans h2))
    have hms : (l.toArray.toList.mergeSort fun x y => !(ltOf cfH) y x) = topL l := mergeSort_congr _ (fun a b => congrArg not (ltHs_eq b a))
    rw [hms] at hc
    have hc' : Calls Try.prog 128 #[.slice (some ⟨g, 0, none⟩) l.length cap, .func (.func 129) #[] #[]] w _ := hc
    refine hc'.mono ?_
    rintro e w' ⟨rfl, n, os, rfl⟩
    have e1 : sortWorldK encHs 3 w g 0 n (topL l).toArray os = Sort.grow (Sort.putRow id (Sort.ahead w n) g 0 (hsCells (topL l)).toArray) os := by
      unfold sortWorldK Sort.putRowK
      rw [flat_hs]
    change _ ∧ OwnH (sortWorldK encHs 3 w g 0 n (topL l).toArray os) _ _ _ ∧ Below B w (sortWorldK encHs 3 w g 0 n (topL l).toArray os)
    rw [e1]
    refine ⟨rfl, ?_, (Below.refl B w).grown (grownBy_sortedId _) hB (fun k hk => by cases hk; exact hbg)⟩
    unfold OwnH
    rw [topL_len]
    exact ⟨by rw [hsCells_len, topL_len], .inr ⟨g, cap, _, rfl, hbg, heap_sortedId _ hg, hnc, hcm, by simp [Sort.putCells, hcs], by
      have := take_putCellsId cur (hsCells (topL l)) (by rw [hsCells_len, topL_len]; omega)
      rw [hsCells_len, topL_len] at this
      exact this⟩⟩
end Go.Proofs.Ytljbehndnledpaa
