/- Slices of operations: that came in, or of the call's own. Conditions: those of each theorem. -/
import Derived.Test.YtljbehndnledpaaScriptAlive
namespace Go.Proofs.Ytljbehndnledpaa
open Go.RowKit

def opCells (o : PO) (dv mv : Value) : List Value := [.int .i64 o.k, .int .i64 o.v, .int .i64 o.i, .int .i64 o.b, .int .i64 o.n, .int .u64 o.pt, dv, mv]
def OpVal (w : World) (o : PO) (dv mv : Value) : Prop := ∃ da dc ma mc, dv = .slice da o.d.length dc ∧ mv = .slice ma o.m.length mc ∧ Bs w da o.d.length o.d ∧ Is .i64 w ma o.m.length o.m
theorem OpVal.below {w w' : World} {C : Nat} {o : PO} {dv mv : Value} (h : OpVal w o dv mv) (hb : Below C w w') (hC : w.heap.size ≤ C) : OpVal w' o dv mv := by
  obtain ⟨da, dc, ma, mc, h1, h2, h3, h4⟩ := h
  exact ⟨da, dc, ma, mc, h1, h2, Is.below h3 hb hC, Is.below h4 hb hC⟩

/-- A slice of operations that reads. -/
def Ops (w : World) (a : Option Addr) (n : Nat) (l : List PO) : Prop :=
  l.length = n ∧ ∀ i o, l[i]? = some o → ∃ b p dv mv, a = some ⟨b, p, none⟩ ∧ (∀ j x, (opCells o dv mv)[j]? = some x → w.cell? ⟨b, p + i * 8 + j, none⟩ = some x) ∧ OpVal w o dv mv
theorem Ops.below {w w' : World} {C : Nat} {a : Option Addr} {n : Nat} {l : List PO} (h : Ops w a n l) (hb : Below C w w') (hC : w.heap.size ≤ C) : Ops w' a n l := by
  refine ⟨h.1, fun i o ho => ?_⟩
  obtain ⟨b, p, dv, mv, ha, hc, hv⟩ := h.2 i o ho
  refine ⟨b, p, dv, mv, ha, fun j x hx => ?_, hv.below hb hC⟩
  have h1 := hc j x hx
  have h2 := World.block_lt_of_cell? _ _ h1
  rw [hb.cell (p := ⟨b, p + i * 8 + j, none⟩) (by show b < C; simp at h2; omega)]
  exact h1
theorem Ops.nil (w : World) (a : Option Addr) : Ops w a 0 [] := ⟨rfl, fun i o ho => by simp at ho⟩

/-- An operation whose bytes and members are the call's own, or were there. -/
def OpFar (w : World) (B : Nat) (o : PO) (dv mv : Value) : Prop :=
  (w.ownsRow B 5 1 dv o.d.length (cellsOfB o.d) ∧ w.ownsRow B 3 1 mv o.m.length (o.m.map (.int .i64))) ∨ ∃ w0, w0.heap.size ≤ B ∧ Below B w0 w ∧ OpVal w0 o dv mv
theorem OpFar.val {w : World} {B : Nat} {o : PO} {dv mv : Value} (h : OpFar w B o dv mv) : OpVal w o dv mv := by
  rcases h with ⟨h1, h2⟩ | ⟨w0, h0, hb, hv⟩
  · obtain ⟨da, dc, ma, mc, e1, e2, h3, h4⟩ := own_op h1 h2
    exact ⟨da, dc, ma, mc, e1, e2, h3, h4⟩
  · exact hv.below hb h0
theorem OpFar.stays {w w' : World} {B C : Nat} {o : PO} {dv mv : Value} (h : OpFar w B o dv mv) (hb : Below C w w') (hC : w.heap.size ≤ C) (hB : B ≤ w.heap.size) : OpFar w' B o dv mv := by
  rcases h with ⟨h1, h2⟩ | ⟨w0, h0, hb0, hv⟩
  · exact .inl ⟨ownsRow_below h1 hb hC, ownsRow_below h2 hb hC⟩
  · exact .inr ⟨w0, h0, hb0.trans (hb.mono (by omega)), hv⟩
theorem OpFar.grown {w w' : World} {B : Nat} {o : PO} {dv mv v : Value} {n : Nat} {xs : List Value} (h : OpFar w B o dv mv) (hown : w.ownsRow B 80 8 v n xs) (hg : w.grownBy w' v.ownBlock) (hB : B ≤ w.heap.size) : OpFar w' B o dv mv := by
  rcases h with ⟨h1, h2⟩ | ⟨w0, h0, hb0, hv⟩
  · exact .inl ⟨h1.kept hg (owns_apart h1 hown (by decide)), h2.kept hg (owns_apart h2 hown (by decide))⟩
  · exact .inr ⟨w0, h0, Below.own hb0 hown hg (Nat.le_refl _) hB, hv⟩
theorem OpFar.own {w : World} {B : Nat} {o : PO} {dv mv : Value} (h1 : w.ownsRow B 5 1 dv o.d.length (cellsOfB o.d)) (h2 : w.ownsRow B 3 1 mv o.m.length (o.m.map (.int .i64))) : OpFar w B o dv mv := .inl ⟨h1, h2⟩

def opsCells : List PO → List (Value × Value) → List Value
  | o :: l, p :: ps => opCells o p.1 p.2 ++ opsCells l ps
  | _, _ => []
theorem opsCells_snoc (o : PO) (p : Value × Value) : ∀ (l : List PO) (ps : List (Value × Value)), ps.length = l.length → opsCells (l ++ [o]) (ps ++ [p]) = opsCells l ps ++ opCells o p.1 p.2
  | [], [], _ => by simp [opsCells]
  | [], _ :: _, h => by simp at h
  | _ :: _, [], h => by simp at h
  | a :: l, b :: ps, h => by
    simp only [List.cons_append, opsCells, opsCells_snoc o p l ps (by simpa using h), List.append_assoc]
theorem opsCells_at : ∀ (l : List PO) (ps : List (Value × Value)) (i : Nat) (o : PO) (p : Value × Value) (j : Nat) (x : Value), l[i]? = some o → ps[i]? = some p → (opCells o p.1 p.2)[j]? = some x → (opsCells l ps)[i * 8 + j]? = some x
  | [], _, _, _, _, _, _, h, _, _ => by simp at h
  | _ :: _, [], _, _, _, _, _, _, h, _ => by simp at h
  | a :: l, b :: ps, 0, o, p, j, x, h1, h2, h3 => by
    simp at h1 h2
    subst h1 h2
    have hj := (List.getElem?_eq_some_iff.1 h3).1
    rw [opsCells, Nat.zero_mul, Nat.zero_add, List.getElem?_append_left hj]
    exact h3
  | a :: l, b :: ps, i + 1, o, p, j, x, h1, h2, h3 => by
    simp only [List.getElem?_cons_succ] at h1 h2
    have hl : (opCells a b.1 b.2).length = 8 := rfl
    rw [opsCells, List.getElem?_append_right (by rw [hl]; omega), hl, show (i + 1) * 8 + j - 8 = i * 8 + j by omega]
    exact opsCells_at l ps i o p j x h1 h2 h3

/-- A slice of operations of the call's own. -/
def OwnOps (w : World) (B : Nat) (v : Value) (l : List PO) : Prop :=
  ∃ ps : List (Value × Value), ps.length = l.length ∧ w.ownsRow B 80 8 v l.length (opsCells l ps) ∧ ∀ (i : Nat) (o : PO) (p : Value × Value), l[i]? = some o → ps[i]? = some p → OpFar w B o p.1 p.2
theorem OwnOps.nil (w : World) (B : Nat) : OwnOps w B (.slice none 0 0) [] := ⟨[], rfl, World.ownsRow_nil _ _ _ _, fun i o p h => by simp at h⟩
theorem OwnOps.stays {w w' : World} {B C : Nat} {v : Value} {l : List PO} (h : OwnOps w B v l) (hb : Below C w w') (hC : w.heap.size ≤ C) (hB : B ≤ w.heap.size) : OwnOps w' B v l := by
  obtain ⟨ps, h1, h2, h3⟩ := h
  exact ⟨ps, h1, ownsRow_below h2 hb hC, fun i o p ho hp => (h3 i o p ho hp).stays hb hC hB⟩
theorem OwnOps.ops {w : World} {B : Nat} {v : Value} {l : List PO} (h : OwnOps w B v l) : ∃ a cap, v = .slice a l.length cap ∧ Ops w a l.length l ∧ l.length ≤ cap := by
  obtain ⟨ps, h1, h2, h3⟩ := h
  rcases h2.2 with ⟨rfl, h0⟩ | ⟨g, cap, cur, rfl, hbg, hg, hnc, hcm, hcs, htake⟩
  · have : l = [] := List.eq_nil_of_length_eq_zero h0
    subst this
    exact ⟨none, 0, rfl, Ops.nil _ _, Nat.le_refl _⟩
  · refine ⟨some ⟨g, 0, none⟩, cap, rfl, ⟨rfl, fun i o ho => ?_⟩, hnc⟩
    have hil := (List.getElem?_eq_some_iff.1 ho).1
    obtain ⟨p, hp⟩ : ∃ p, ps[i]? = some p := ⟨_, List.getElem?_eq_getElem (by omega)⟩
    refine ⟨g, 0, p.1, p.2, rfl, fun j x hx => ?_, (h3 i o p ho hp).val⟩
    have := h2.cells (g := g) rfl (i * 8 + j) x (opsCells_at l ps i o p j x ho hp hx)
    rw [← this]
    congr 1
    unfold Addr.add
    split <;> simp_all
theorem info80' : (Try.prog.info? 80).map (fun i => (i.zero, i.size, i.bytes)) = some (some (.agg #[.int .i64 0, .int .i64 0, .int .i64 0, .int .i64 0, .int .i64 0, .int .u64 0, .slice none 0 0, .slice none 0 0]), 8, 96) := by kernel_rfl

theorem OwnOps.push {w : World} {B : Nat} {v : Value} {l : List PO} (h : OwnOps w B v l) (o : PO) {da ma : Option Addr} {dc mc : Nat} (hv : OpFar w B o (.slice da o.d.length dc) (.slice ma o.m.length mc)) (hl : l.length ≤ 1000000000) (hB : B ≤ w.heap.size) :
    ∃ v' w', (Builtin.append_ #[87, 87] 87 #[v, .slice (some ⟨w.heap.size, 0, none⟩) 1 1]).run Try.prog (w.alloc (.cells #[.int .i64 o.k, .int .i64 o.v, .int .i64 o.i, .int .i64 o.b, .int .i64 o.n, .int .u64 o.pt, .slice da o.d.length dc, .slice ma o.m.length mc] 80)) = .ok v' w' ∧ OwnOps w' B v' (l ++ [o]) ∧ w.grownBy w' v.ownBlock := by
  obtain ⟨i0, hi, hz0, hz1, hz2⟩ := info_parts info80'
  obtain ⟨ps, h1, h2, h3⟩ := h
  obtain ⟨v', w', hr, hown, hg, _⟩ := app_new (P := Try.prog) Try.underlying87 hi hz0 hz1 hz2 rfl (by decide) h2 1 (opCells o (.slice da o.d.length dc) (.slice ma o.m.length mc)) rfl (by intro u hu; simp [opCells] at hu; rcases hu with rfl | rfl | rfl | rfl | rfl | rfl | rfl | rfl <;> rfl) (by unfold maxLen; omega) (by omega) hB
  refine ⟨v', w', hr, ⟨ps ++ [(.slice da o.d.length dc, .slice ma o.m.length mc)], by simp [h1], ?_, fun i o' p ho hp => ?_⟩, hg⟩
  · rw [opsCells_snoc _ _ _ _ h1, List.length_append]
    exact hown
  · rw [List.getElem?_append] at ho hp
    by_cases hil : i < l.length
    · rw [if_pos hil] at ho
      rw [if_pos (by omega)] at hp
      exact (h3 i o' p ho hp).grown h2 hg hB
    · rw [if_neg hil] at ho
      rw [if_neg (by omega), h1] at hp
      rcases Nat.eq_zero_or_pos (i - l.length) with h0 | h0
      · rw [h0] at ho hp
        simp at ho hp
        subst ho hp
        exact hv.grown h2 hg hB
      · rw [List.getElem?_eq_none (by simp; omega)] at ho; cases ho
theorem OwnOps.below {w0 w w' : World} {B C : Nat} {v : Value} {l : List PO} (h : OwnOps w B v l) (hb : Below C w0 w) (hg : w.grownBy w' v.ownBlock) (hB : C ≤ B) (hw : C ≤ w.heap.size) : Below C w0 w' := by
  obtain ⟨ps, h1, h2, h3⟩ := h
  exact Below.own hb h2 hg hB hw
end Go.Proofs.Ytljbehndnledpaa
