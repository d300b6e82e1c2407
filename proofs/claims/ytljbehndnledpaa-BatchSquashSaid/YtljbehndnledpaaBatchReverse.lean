/- The walk of slices.Reverse at operations. Conditions: those of each theorem. -/
import Derived.Test.YtljbehndnledpaaBatchHeld
namespace Go.Proofs.Ytljbehndnledpaa
open Go.RowKit Go.Shelf

/-- An operation laid over another one. -/
def W8 (w : World) (g k : Nat) (o : PO) (dv mv : Value) : World :=
  (((((((w.setCell ⟨g, k, none⟩ (.int .i64 o.k)).setCell ⟨g, k + 1, none⟩ (.int .i64 o.v)).setCell ⟨g, k + 2, none⟩ (.int .i64 o.i)).setCell ⟨g, k + 3, none⟩ (.int .i64 o.b)).setCell ⟨g, k + 4, none⟩ (.int .i64 o.n)).setCell ⟨g, k + 5, none⟩ (.int .u64 o.pt)).setCell ⟨g, k + 6, none⟩ dv).setCell ⟨g, k + 7, none⟩ mv
theorem opsCells_set (o : PO) (q : Value × Value) : ∀ (l : List PO) (ps : List (Value × Value)) (i : Nat), ps.length = l.length → i < l.length →
    ((((((((opsCells l ps).set (i * 8) (.int .i64 o.k)).set (i * 8 + 1) (.int .i64 o.v)).set (i * 8 + 2) (.int .i64 o.i)).set (i * 8 + 3) (.int .i64 o.b)).set (i * 8 + 4) (.int .i64 o.n)).set (i * 8 + 5) (.int .u64 o.pt)).set (i * 8 + 6) q.1).set (i * 8 + 7) q.2 = opsCells (l.set i o) (ps.set i q)
  | [], _, _, _, h => by simp at h
  | _ :: _, [], _, h, _ => by simp at h
  | a :: l, b :: ps, 0, _, _ => rfl
  | a :: l, b :: ps, i + 1, h, hi => by
    have ih := opsCells_set o q l ps i (by simpa using h) (by simpa using hi)
    have hl : (opCells a b.1 b.2).length = 8 := rfl
    have e : ∀ (xs : List Value) (k : Nat) (x : Value), (opCells a b.1 b.2 ++ xs).set ((i + 1) * 8 + k) x = opCells a b.1 b.2 ++ xs.set (i * 8 + k) x := fun xs k x => by
      rw [List.set_append_right _ _ (by rw [hl]; omega), hl, show (i + 1) * 8 + k - 8 = i * 8 + k by omega]
    have e0 := e (opsCells l ps) 0
    simp only [Nat.add_zero] at e0
    rw [List.set_cons_succ, List.set_cons_succ, opsCells, opsCells, e0, e, e, e, e, e, e, e, ih]
theorem own_w8 {w : World} {B g cap n : Nat} {l : List PO} {ps : List (Value × Value)} (h : w.ownsRow B 80 8 (.slice (some ⟨g, 0, none⟩) n cap) n (opsCells l ps)) (hp : ps.length = l.length) (i : Nat) (hi : i < l.length) (o : PO) (q : Value × Value) :
    (W8 w g (i * 8) o q.1 q.2).ownsRow B 80 8 (.slice (some ⟨g, 0, none⟩) n cap) n (opsCells (l.set i o) (ps.set i q)) := by
  have h1 := ((((((((h.stored (i * 8) (.int .i64 o.k)).1.stored (i * 8 + 1) (.int .i64 o.v)).1.stored (i * 8 + 2) (.int .i64 o.i)).1.stored (i * 8 + 3) (.int .i64 o.b)).1.stored (i * 8 + 4) (.int .i64 o.n)).1.stored (i * 8 + 5) (.int .u64 o.pt)).1.stored (i * 8 + 6) q.1).1.stored (i * 8 + 7) q.2).1
  rw [opsCells_set o q l ps i hp hi] at h1
  exact h1
theorem grown_w8 (w : World) (g k : Nat) (o : PO) (dv mv : Value) : w.grownBy (W8 w g k o dv mv) (some g) := by
  have e : ∀ (w : World) (j : Nat) (x : Value), w.grownBy (w.setCell ⟨g, j, none⟩ x) (some g) := fun w j x => ⟨rfl, rfl, rfl, by simp, fun i _ hi => heap_setCell_other _ _ _ _ (fun e => hi (by rw [e]))⟩
  exact (((((((e _ _ _).trans (e _ _ _)).trans (e _ _ _)).trans (e _ _ _)).trans (e _ _ _)).trans (e _ _ _)).trans (e _ _ _)).trans (e _ _ _)

/-- Reversed in its first and last places. -/
def mixL (l : List PO) (i : Nat) : List PO := (List.range l.length).map fun k => if k < i ∨ l.length ≤ k + i then l.getD (l.length - 1 - k) PO.zero else l.getD k PO.zero
theorem mixL_len (l : List PO) (i : Nat) : (mixL l i).length = l.length := by simp [mixL]
theorem mixL_at (l : List PO) (i k : Nat) (hk : k < l.length) : (mixL l i)[k]? = some (if k < i ∨ l.length ≤ k + i then l.getD (l.length - 1 - k) PO.zero else l.getD k PO.zero) := by
  unfold mixL
  rw [List.getElem?_map, List.getElem?_range hk]
  rfl
theorem mixL_zero (l : List PO) : mixL l 0 = l := by
  apply List.ext_getElem?
  intro k
  by_cases hk : k < l.length
  · rw [mixL_at l 0 k hk, if_neg (by omega)]
    simp [List.getD, hk]
  · rw [List.getElem?_eq_none (by rw [mixL_len]; omega), List.getElem?_eq_none (by omega)]
theorem mixL_end (l : List PO) (i : Nat) (h : l.length ≤ 2 * i + 1) : mixL l i = l.reverse := by
  apply List.ext_getElem?
  intro k
  by_cases hk : k < l.length
  · rw [mixL_at l i k hk, List.getElem?_reverse hk]
    have e : (if k < i ∨ l.length ≤ k + i then l.getD (l.length - 1 - k) PO.zero else l.getD k PO.zero) = l.getD (l.length - 1 - k) PO.zero := by
      split
      · rfl
      · congr 1; omega
    rw [e, List.getD, List.getElem?_eq_getElem (show l.length - 1 - k < l.length by omega)]
    rfl
  · rw [List.getElem?_eq_none (by rw [mixL_len]; omega), List.getElem?_eq_none (by rw [List.length_reverse]; omega)]
theorem mixL_next (l : List PO) (i j : Nat) (hj : i + j + 1 = l.length) (hij : i < j) (oi oj : PO) (h1 : (mixL l i)[i]? = some oi) (h2 : (mixL l i)[j]? = some oj) : ((mixL l i).set i oj).set j oi = mixL l (i + 1) := by
  rw [mixL_at l i i (by omega), if_neg (by omega), Option.some.injEq] at h1
  rw [mixL_at l i j (by omega), if_neg (by omega), Option.some.injEq] at h2
  subst h1 h2
  apply List.ext_getElem?
  intro k
  by_cases hk : k < l.length
  · rw [mixL_at l (i + 1) k hk, List.getElem?_set, List.length_set, mixL_len, List.getElem?_set, mixL_len]
    by_cases e1 : j = k
    · subst e1
      rw [if_pos rfl, if_pos hk, if_pos (by omega), show l.length - 1 - j = i by omega]
    · rw [if_neg e1]
      by_cases e2 : i = k
      · subst e2
        rw [if_pos rfl, if_pos hk, if_pos (by omega), show l.length - 1 - i = j by omega]
      · rw [if_neg e2, mixL_at l i k hk]
        by_cases e3 : k < i ∨ l.length ≤ k + i
        · rw [if_pos e3, if_pos (by omega)]
        · rw [if_neg e3, if_neg (by omega)]
  · rw [List.getElem?_eq_none (by simp [mixL_len]; omega), List.getElem?_eq_none (by rw [mixL_len]; omega)]

/-- The cells of an operation at a place. -/
def Cells8at (w : World) (g k : Nat) (o : PO) (dv mv : Value) : Prop :=
  w.cell? ⟨g, k, none⟩ = some (.int .i64 o.k) ∧ w.cell? ⟨g, k + 1, none⟩ = some (.int .i64 o.v) ∧ w.cell? ⟨g, k + 2, none⟩ = some (.int .i64 o.i) ∧ w.cell? ⟨g, k + 3, none⟩ = some (.int .i64 o.b) ∧
  w.cell? ⟨g, k + 4, none⟩ = some (.int .i64 o.n) ∧ w.cell? ⟨g, k + 5, none⟩ = some (.int .u64 o.pt) ∧ w.cell? ⟨g, k + 6, none⟩ = some dv ∧ w.cell? ⟨g, k + 7, none⟩ = some mv
/-- Two places exchanged. -/
theorem OwnOps.swap {w : World} {B g n cap : Nat} {l : List PO} (h : OwnOps w B (.slice (some ⟨g, 0, none⟩) n cap) l) (hB : B ≤ w.heap.size) {i j : Nat} {oi oj : PO} (hi : l[i]? = some oi) (hj : l[j]? = some oj) :
    ∃ dai dci mai mci daj dcj maj mcj, Cells8at w g (i * 8) oi (.slice dai oi.d.length dci) (.slice mai oi.m.length mci) ∧ Cells8at w g (j * 8) oj (.slice daj oj.d.length dcj) (.slice maj oj.m.length mcj) ∧
      (∀ k, w.frozen? ⟨g, k, none⟩ = false) ∧
      OwnOps (W8 (W8 w g (i * 8) oj (.slice daj oj.d.length dcj) (.slice maj oj.m.length mcj)) g (j * 8) oi (.slice dai oi.d.length dci) (.slice mai oi.m.length mci)) B (.slice (some ⟨g, 0, none⟩) n cap) ((l.set i oj).set j oi) ∧
      w.grownBy (W8 (W8 w g (i * 8) oj (.slice daj oj.d.length dcj) (.slice maj oj.m.length mcj)) g (j * 8) oi (.slice dai oi.d.length dci) (.slice mai oi.m.length mci)) (some g) := by
  obtain ⟨ps, h1, h2, h3⟩ := h
  have hil := (List.getElem?_eq_some_iff.1 hi).1
  have hjl := (List.getElem?_eq_some_iff.1 hj).1
  have hnl : n = l.length := by
    rcases h2.2 with ⟨e, _⟩ | ⟨g', cap', cur, e, _⟩
    · cases e
    · cases e; rfl
  subst hnl
  obtain ⟨pi, hpi⟩ : ∃ p, ps[i]? = some p := ⟨_, List.getElem?_eq_getElem (by omega)⟩
  obtain ⟨pj, hpj⟩ : ∃ p, ps[j]? = some p := ⟨_, List.getElem?_eq_getElem (by omega)⟩
  have fi := h3 i oi pi hi hpi
  have fj := h3 j oj pj hj hpj
  obtain ⟨dai, dci, mai, mci, e1, e2, -, -⟩ := fi.val
  obtain ⟨daj, dcj, maj, mcj, e3, e4, -, -⟩ := fj.val
  have hcell : ∀ (i : Nat) (o : PO) (p : Value × Value), l[i]? = some o → ps[i]? = some p → Cells8at w g (i * 8) o p.1 p.2 := fun i o p ho hp => by
    have hc : ∀ j x, (opCells o p.1 p.2)[j]? = some x → w.cell? ⟨g, i * 8 + j, none⟩ = some x := fun j x hx => by
      have := h2.cells (g := g) rfl (i * 8 + j) x (opsCells_at l ps i o p j x ho hp hx)
      rwa [add_plain, Nat.zero_add] at this
    exact ⟨hc 0 _ rfl, hc 1 _ rfl, hc 2 _ rfl, hc 3 _ rfl, hc 4 _ rfl, hc 5 _ rfl, hc 6 _ rfl, hc 7 _ rfl⟩
  have ci := hcell i oi pi hi hpi
  have cj := hcell j oj pj hj hpj
  have o1 := own_w8 h2 h1 i hil oj pj
  have o2 := own_w8 o1 (by simp [h1]) j (by simpa using hjl) oi pi
  have g1 := (grown_w8 w g (i * 8) oj pj.1 pj.2).trans (grown_w8 _ g (j * 8) oi pi.1 pi.2)
  rw [e1, e2] at ci
  rw [e3, e4] at cj
  have hfr : ∀ k, w.frozen? ⟨g, k, none⟩ = false := fun k => by
    rcases h2.2 with ⟨e, _⟩ | ⟨g', cap', cur, e, _, hg, _⟩
    · cases e
    · cases e
      exact frozen_of_row _ _ _ _ _ hg
  refine ⟨dai, dci, mai, mci, daj, dcj, maj, mcj, ci, cj, hfr, ?_, ?_⟩
  · rw [← e1, ← e2, ← e3, ← e4]
    refine ⟨(ps.set i pj).set j pi, by simp [h1], ?_, fun k o p ho hp => ?_⟩
    · rw [List.length_set, List.length_set]
      exact o2
    · have hg' : w.grownBy _ (Value.slice (some ⟨g, 0, none⟩) l.length cap).ownBlock := g1
      rw [List.getElem?_set, List.length_set] at ho hp
      by_cases ek : j = k
      · rw [if_pos ek, if_pos hjl] at ho
        rw [if_pos ek, if_pos (by omega)] at hp
        cases ho; cases hp
        exact fi.grown h2 hg' hB
      · rw [if_neg ek, List.getElem?_set] at ho hp
        by_cases ei : i = k
        · rw [if_pos ei, if_pos hil] at ho
          rw [if_pos ei, if_pos (by omega)] at hp
          cases ho; cases hp
          exact fj.grown h2 hg' hB
        · rw [if_neg ei] at ho hp
          exact (h3 k o p ho hp).grown h2 hg' hB
  · rw [← e1, ← e2, ← e3, ← e4]
    exact g1
theorem OwnOps.drewN {w : World} {B : Nat} {v : Value} {l : List PO} (h : OwnOps w B v l) (k : Nat) : OwnOps (w.drewN k) B v l := by
  obtain ⟨ps, h1, h2, h3⟩ := h
  refine ⟨ps, h1, h2, fun i o p ho hp => ?_⟩
  rcases h3 i o p ho hp with hh | ⟨w0, a, b, c⟩
  · exact .inl hh
  · exact .inr ⟨w0, a, below_drewN b k, c⟩

theorem OwnOps.drew {w : World} {B : Nat} {v : Value} {l : List PO} (h : OwnOps w B v l) : OwnOps w.drew B v l := h.drewN 1
theorem grown_drew (w : World) (row : Option Nat) : w.grownBy w.drew row := ⟨rfl, rfl, rfl, Nat.le_refl _, fun _ _ _ => rfl⟩

set_option maxRecDepth 100000 in
set_option maxHeartbeats 2000000 in
theorem reverseOps_any (v : Value) (B : Nat) (l : List PO) (w : World) (h : OwnOps w B v l) (hn : l.length ≤ 1000000) (hB : B ≤ w.heap.size) :
    Calls Try.prog 142 #[v] w fun e w' => e = .returned (.tuple #[]) ∧ OwnOps w' B v l.reverse ∧ w.grownBy w' v.ownBlock := by
  obtain ⟨a, cap, rfl, hops, -⟩ := h.ops
  have hsh : l = [] ∨ ∃ g, a = some ⟨g, 0, none⟩ := by
    obtain ⟨ps, h1, h2, h3⟩ := h
    rcases h2.2 with ⟨e, h0⟩ | ⟨g', cap', cur, e, _⟩
    · exact .inl (List.eq_nil_of_length_eq_zero h0)
    · cases e; exact .inr ⟨g', rfl⟩
  rcases hsh with rfl | ⟨g, rfl⟩
  · have H := Lib.hid h
    clear h hops
    go_enter Try.func142, Try.ntmps142
    go_wp2_with fail
    go_loopw [2, 3] (fun u2 u3 wr => u2 = .int .i64 0 ∧ u3 = .int .i64 (-1) ∧ wr = w) (fun _ _ _ => 0)
    case atStart => exact ⟨rfl, by go_num, rfl⟩
    case round =>
      obtain ⟨rfl, rfl, rfl⟩ := hrel
      go_wp2_with fail
      go_end0
      exact ⟨rfl, H.out, World.grownBy.refl _ _⟩
  · have H := Lib.hid h
    clear h hops
    have hl1 : IntKind.i64.wrap ((l.length : Int) - 1) = (l.length : Int) - 1 := IntWalk.i64_in _ (by omega)
    go_enter Try.func142, Try.ntmps142
    go_wp2_with fail
    go_loopw [2, 3] (fun u2 u3 wr => ∃ i : Nat, 2 * i ≤ l.length + 1 ∧ u2 = .int .i64 i ∧ u3 = .int .i64 ((l.length : Int) - 1 - (i : Int)) ∧ OwnOps wr B (.slice (some ⟨g, 0, none⟩) l.length cap) (mixL l i) ∧ w.grownBy wr (some g)) (fun u2 _ _ => l.length - (intOf u2).toNat)
    case atStart => exact ⟨0, by omega, rfl, by simp, by rw [mixL_zero]; exact H.out, World.grownBy.refl _ _⟩
    case round =>
      obtain ⟨i, hi, rfl, rfl, hown, hg⟩ := hrel
      by_cases hlt : 2 * i + 1 < l.length
      · obtain ⟨j, hj⟩ : ∃ j, i + j + 1 = l.length := ⟨l.length - 1 - i, by omega⟩
        have ej : (l.length : Int) - 1 - (i : Int) = (j : Int) := by omega
        rw [ej]
        obtain ⟨oi, hoi⟩ : ∃ o, (mixL l i)[i]? = some o := ⟨_, mixL_at l i i (by omega)⟩
        obtain ⟨oj, hoj⟩ : ∃ o, (mixL l i)[j]? = some o := ⟨_, mixL_at l i j (by omega)⟩
        have hnx := mixL_next l i j hj (by omega) oi oj hoi hoj
        have hj0 : (0 : Int) ≤ (i : Int) := by omega
        have hj1 : (i : Int) < (l.length : Int) := by omega
        have hj2 : (0 : Int) ≤ (j : Int) := by omega
        have hj3 : (j : Int) < (l.length : Int) := by omega
        have hj4 : (i : Int) < (j : Int) := by omega
        have HOW := Lib.hid hown
        obtain ⟨dai, dci, mai, mci, daj, dcj, maj, mcj, ci, cj, hfr, hsw, hgw⟩ := hown.swap (Nat.le_trans hB hg.size) hoi hoj
        obtain ⟨c0, c1, c2, c3, c4, c5, c6, c7⟩ := ci
        obtain ⟨d0, d1, d2, d3, d4, d5, d6, d7⟩ := cj
        rw [hnx] at hsw
        have hsw := hsw.drew
        have hgw := hg.trans (hgw.trans (grown_drew _ _))
        unfold W8 at hsw hgw
        have HSW := Lib.hid hsw
        have HGW := Lib.hid hgw
        clear hown hsw hgw hnx hoi hoj
        go_wp2_with fail
        go_region
        all_goals
          go_wp2_with fail
          exact ⟨⟨i + 1, by omega, by go_num, by congr 1; omega, HSW.out, HGW.out⟩, by simp [intOf]; omega⟩
      · have hend := mixL_end l i (by omega)
        rw [hend] at hown
        have hge : ¬ ((i : Int) < (l.length : Int) - 1 - (i : Int)) := by omega
        go_wp2_with fail
        go_end0
        exact ⟨rfl, hown, hg⟩
end Go.Proofs.Ytljbehndnledpaa
