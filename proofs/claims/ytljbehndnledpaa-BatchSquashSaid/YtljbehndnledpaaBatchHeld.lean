/- What Squash holds between two rounds; operations appended many at once, cloned, and rows of them. Conditions: those of each theorem. -/
import Derived.Test.YtljbehndnledpaaBatchBack
import Derived.Test.YtljbehndnledpaaBatchSpots
namespace Go.Proofs.Ytljbehndnledpaa
open Go.RowKit Go.Shelf

theorem own_apart_of {w : World} {base : Nat} {e : TypeId} {size n : Nat} {v : Value} {xs : List Value} {row : Option Nat} (h : w.ownsRow base e size v n xs)
    (hr : ∀ r, row = some r → ∀ arr t p, w.heap[r]? = some (.cells arr t p) → t ≠ e) : v.ownBlock = none ∨ v.ownBlock ≠ row := by
  rcases h.2 with ⟨rfl, _⟩ | ⟨g, cap, cur, rfl, _, hg, _⟩
  · exact .inl rfl
  · refine .inr fun e1 => ?_
    exact hr g e1.symm _ _ _ hg rfl
theorem OpFar.turned {w w' : World} {B : Nat} {o : PO} {dv mv : Value} {row : Option Nat} (h : OpFar w B o dv mv) (hg : w.grownBy w' row) (hB : B ≤ w.heap.size)
    (hr : ∀ r, row = some r → B ≤ r ∧ ∀ arr t p, w.heap[r]? = some (.cells arr t p) → t ≠ 5 ∧ t ≠ 3 ∧ t ≠ 80) : OpFar w' B o dv mv := by
  rcases h with ⟨h1, h2⟩ | ⟨w0, h0, hb, hv⟩
  · exact .inl ⟨h1.kept hg (own_apart_of h1 fun r e arr t p hh => ((hr r e).2 arr t p hh).1), h2.kept hg (own_apart_of h2 fun r e arr t p hh => ((hr r e).2 arr t p hh).2.1)⟩
  · exact .inr ⟨w0, h0, hb.grown hg hB (fun k e => (hr k e).1), hv⟩
theorem OwnOps.turned {w w' : World} {B : Nat} {v : Value} {l : List PO} {row : Option Nat} (h : OwnOps w B v l) (hg : w.grownBy w' row) (hB : B ≤ w.heap.size)
    (hr : ∀ r, row = some r → B ≤ r ∧ ∀ arr t p, w.heap[r]? = some (.cells arr t p) → t ≠ 5 ∧ t ≠ 3 ∧ t ≠ 80) : OwnOps w' B v l := by
  obtain ⟨ps, h1, h2, h3⟩ := h
  exact ⟨ps, h1, h2.kept hg (own_apart_of h2 fun r e arr t p hh => ((hr r e).2 arr t p hh).2.2), fun i o p ho hp => (h3 i o p ho hp).turned hg hB hr⟩

/-- What a round keeps. -/
def Kq (base s : Nat) (u : Value) (W W' : World) : Prop := KeepsFrom base W W' ∧ KpA s (s + 1 + 1 + 1) u W W'
theorem Kq.refl (base s : Nat) (u : Value) (W : World) : Kq base s u W W := ⟨KeepsFrom.refl _ _, Below.refl _ _, fun c => c⟩
theorem Kq.trans {base s : Nat} {u : Value} {X Y Z : World} (h : Kq base s u X Y) (k : Kq base s u Y Z) : Kq base s u X Z := ⟨h.1.trans k.1, h.2.trans k.2⟩
theorem Kq.below {base s : Nat} {u : Value} {W W' : World} (h : Below W.heap.size W W') (hs : s ≤ W.heap.size) : Kq base s u W W' :=
  ⟨⟨h.size, fun k o _ hk _ => by rw [h.block k (Array.getElem?_eq_some_iff.1 hk).1]; exact hk⟩, h.mono hs, fun c => by
    have hlt := World.block_lt_of_cell? _ _ c
    rw [h.cell (p := ⟨s + 1 + 1 + 1, 0, none⟩) hlt]; exact c⟩

/-- Out, the spots, and the row that is gone through. -/
def Sq (s : Nat) (w : World) (u : Value) (out : List PO) (S : List (Int × Int)) (W : World) : Prop :=
  ∃ v, Boxed W s 87 v ∧ OwnOps W s v out ∧ Spots W (s + 1) S ∧ Boxed W (s + 1 + 1) 215 (.map (some (s + 1))) ∧ Boxed W (s + 1 + 1 + 1) 87 u ∧ Below s w W ∧ s ≤ W.heap.size
theorem Sq.below {s : Nat} {w W W' : World} {u : Value} {out : List PO} {S : List (Int × Int)} (h : Sq s w u out S W) (hb : Below W.heap.size W W') : Sq s w u out S W' := by
  obtain ⟨v, h1, h2, h3, h4, h5, h6, h7⟩ := h
  exact ⟨v, (hb.block _ h1.lt).trans h1, h2.stays hb (Nat.le_refl _) h7, h3.heap (hb.block _ h3.2.lt), (hb.block _ h4.lt).trans h4, (hb.block _ h5.lt).trans h5, h6.trans (hb.mono h7), Nat.le_trans h7 hb.size⟩
theorem Sq.own {s : Nat} {w : World} {u : Value} {α : Type} (f : α → List PO) (g : α → List (Int × Int)) {base : Nat} (hb : s + 4 ≤ base) : OwnFrom base (fun x => Sq s w u (f x) (g x)) := by
  intro x W W' row ⟨v, h1, h2, h3, h4, h5, h6, h7⟩ hg hr
  have hne : ∀ B, B < base → some B ≠ row := fun B hB e => by have := (hr B e.symm).1; omega
  refine ⟨v, h1.kept hg (hne _ (by omega)), h2.turned hg h7 (fun r e => ⟨by have := (hr r e).1; omega, fun arr t p hh => ?_⟩), h3.kept hg (hne _ (by omega)), h4.kept hg (hne _ (by omega)), h5.kept hg (hne _ (by omega)), h6.grown hg h7 (fun k e => by have := (hr k e).1; omega), Nat.le_trans h7 hg.size⟩
  obtain ⟨_, o, ho, hc⟩ := hr r e
  rw [ho] at hh
  cases hh
  cases hc
theorem Sq.turn {s : Nat} {w W W' : World} {u : Value} {out : List PO} {S S' : List (Int × Int)} (h : Sq s w u out S W) (hg : W.grownBy W' (some (s + 1))) (hS : Spots W' (s + 1) S') : Sq s w u out S' W' := by
  obtain ⟨v, h1, h2, h3, h4, h5, h6, h7⟩ := h
  refine ⟨v, h1.kept hg (fun e => by have := Option.some.inj e; omega), h2.turned hg h7 (fun r e => ⟨by cases e; omega, fun arr t p hh => ?_⟩), hS, h4.kept hg (fun e => by have := Option.some.inj e; omega), h5.kept hg (fun e => by have := Option.some.inj e; omega), h6.grown hg h7 (fun k e => by cases e; omega), Nat.le_trans h7 hg.size⟩
  cases e
  obtain ⟨es, clock, hm⟩ := h3.obj
  rw [hm] at hh
  cases hh
theorem Kq.turn {base s : Nat} {u : Value} {W W' : World} (hg : W.grownBy W' (some (s + 1))) (hs : s ≤ W.heap.size) (hb : s + 1 < base) : Kq base s u W W' :=
  ⟨KeepsFrom.of_grownBy hg (fun j e => by cases e; exact hb), (Below.refl s W).grown hg hs (fun k e => by cases e; omega), fun c => hg.cell c (fun e => by have := Option.some.inj e; simp only at this; omega)⟩
/-- One more is kept. -/
theorem Sq.push {base s : Nat} {w W : World} {u : Value} {out : List PO} {S : List (Int × Int)} (h : Sq s w u out S W) (o : PO) {da ma : Option Addr} {dc mc : Nat} (hv : OpFar W s o (.slice da o.d.length dc) (.slice ma o.m.length mc)) (hl : out.length ≤ 1000000000) :
    ∃ v a' c' w1, Boxed W s 87 v ∧ (Builtin.append_ #[87, 87] 87 #[v, .slice (some ⟨W.heap.size, 0, none⟩) 1 1]).run Try.prog (W.alloc (.cells #[.int .i64 o.k, .int .i64 o.v, .int .i64 o.i, .int .i64 o.b, .int .i64 o.n, .int .u64 o.pt, .slice da o.d.length dc, .slice ma o.m.length mc] 80)) = .ok (.slice a' (out.length + 1) c') w1 ∧
      Boxed w1 s 87 v ∧ Sq s w u (out ++ [o]) S (w1.setCell ⟨s, 0, none⟩ (.slice a' (out.length + 1) c')) ∧ Kq base s u W (w1.setCell ⟨s, 0, none⟩ (.slice a' (out.length + 1) c')) := by
  obtain ⟨v, h1, h2, h3, h4, h5, h6, h7⟩ := h
  obtain ⟨v', w1, hr, ho, hg⟩ := h2.push o hv hl h7
  obtain ⟨a', c', e', -, -⟩ := ho.ops
  rw [show (out ++ [o]).length = out.length + 1 by simp] at e'
  subst e'
  obtain ⟨ps, q1, q2, q3⟩ := h2
  have hn1 : some s ≠ v.ownBlock := h1.not_row (by decide) q2
  have hn2 : some (s + 1 + 1) ≠ v.ownBlock := h4.not_row (by decide) q2
  have hn3 : some (s + 1 + 1 + 1) ≠ v.ownBlock := h5.not_row (by decide) q2
  have hnm : some (s + 1) ≠ v.ownBlock := by
    obtain ⟨es, clock, hm⟩ := h3.obj
    rcases q2.2 with ⟨rfl, _⟩ | ⟨g, cap, cur, rfl, _, hh, _⟩
    · intro e; cases e
    · intro e
      simp only [Value.ownBlock, Option.some.injEq] at e
      rw [e] at hm
      rw [hm] at hh
      cases hh
  have hbase : ∀ k, v.ownBlock = some k → s ≤ k := by
    intro k e
    rcases q2.2 with ⟨rfl, _⟩ | ⟨g, cap, cur, rfl, hb, hh, _⟩
    · cases e
    · simp only [Value.ownBlock, Option.some.injEq] at e
      omega
  have b1 := h1.kept hg hn1
  have g2 : w1.grownBy (w1.setCell ⟨s, 0, none⟩ (.slice a' (out.length + 1) c')) (some s) := grownBy_setCell' w1 s _
  have hs1 : s ≤ w1.heap.size := Nat.le_trans h7 hg.size
  have e87 : ∀ r, some s = some r → s ≤ r ∧ ∀ arr t p, w1.heap[r]? = some (.cells arr t p) → t ≠ 5 ∧ t ≠ 3 ∧ t ≠ 80 := fun r e => by
    cases e
    refine ⟨Nat.le_refl _, fun arr t p hh => ?_⟩
    have hb : w1.heap[s]? = _ := b1
    rw [hb] at hh
    cases hh
    decide
  have hB1 : Below s W w1 := (Below.refl s W).grown hg h7 hbase
  have hB2 : Below s w1 (w1.setCell ⟨s, 0, none⟩ (.slice a' (out.length + 1) c')) := (Below.refl s w1).setCell (p := ⟨s, 0, none⟩) (Nat.le_refl _) _
  refine ⟨v, a', c', w1, h1, hr, b1, ⟨_, b1.set _, ho.turned g2 hs1 e87, (h3.kept hg hnm).kept g2 (fun e => by have := Option.some.inj e; omega), (h4.kept hg hn2).other (by omega) _, (h5.kept hg hn3).other (by omega) _, h6.trans (hB1.trans hB2), by simpa using hs1⟩, Kq.trans (Y := w1) ⟨⟨hg.size, fun k ob hk hh hc => ?_⟩, hB1, fun c => hg.cell c hn3⟩ ⟨(KeepsOthers.setCell _ _ _).from _, hB2, fun c => g2.cell c (fun e => by have := Option.some.inj e; simp only at this; omega)⟩⟩
  refine (hg.block k (Array.getElem?_eq_some_iff.1 hh).1 fun e => ?_).trans hh
  rcases q2.2 with ⟨rfl, _⟩ | ⟨g, cap, cur, rfl, _, hhg, _⟩
  · cases e
  · simp only [Value.ownBlock, Option.some.injEq] at e
    rw [e, hhg] at hh
    cases hh
    cases hc

theorem Sq.mapcell {s : Nat} {w W : World} {u : Value} {out : List PO} {S : List (Int × Int)} (h : Sq s w u out S W) : W.cell? ⟨s + 1 + 1, 0, none⟩ = some (.map (some (s + 1))) := by
  obtain ⟨v, h1, h2, h3, h4, h5, h6, h7⟩ := h
  exact h4.cell
theorem Sq.spots {s : Nat} {w W : World} {u : Value} {out : List PO} {S : List (Int × Int)} (h : Sq s w u out S W) : Spots W (s + 1) S := by
  obtain ⟨v, h1, h2, h3, h4, h5, h6, h7⟩ := h
  exact h3
theorem Sq.low {s : Nat} {w W : World} {u : Value} {out : List PO} {S : List (Int × Int)} (h : Sq s w u out S W) : s ≤ W.heap.size ∧ Below s w W := by
  obtain ⟨v, h1, h2, h3, h4, h5, h6, h7⟩ := h
  exact ⟨h7, h6⟩
/-- A cell where a map's block is turned. -/
theorem cell_turn {W W' : World} {m : Nat} (hg : W.grownBy W' (some m)) (hm : ∃ es ck, W.heap[m]? = some (.map es ck)) {p : Addr} {v : Value} (h : W.cell? p = some v) : W'.cell? p = some v := by
  refine hg.cell h fun e => ?_
  obtain ⟨es, ck, hm⟩ := hm
  have e1 := Option.some.inj e
  unfold World.cell? at h
  rw [e1, hm] at h
  simp at h
theorem Cells8.turn {W W' : World} {m : Nat} (hg : W.grownBy W' (some m)) (hm : ∃ es ck, W.heap[m]? = some (.map es ck)) {A : Nat} {k v i b n pt : Int} {dv mv : Value} (h : Cells8 W A k v i b n pt dv mv) : Cells8 W' A k v i b n pt dv mv := by
  obtain ⟨c0, c1, c2, c3, c4, c5, c6, c7⟩ := h
  exact ⟨cell_turn hg hm c0, cell_turn hg hm c1, cell_turn hg hm c2, cell_turn hg hm c3, cell_turn hg hm c4, cell_turn hg hm c5, cell_turn hg hm c6, cell_turn hg hm c7⟩
theorem Runs.turn {W W' : World} {m : Nat} (hg : W.grownBy W' (some m)) (hm : ∃ es ck, W.heap[m]? = some (.map es ck)) {a : Option Addr} {n : Nat} {l : List (Int × Int)} (h : Runs W a n l) : Runs W' a n l := by
  refine ⟨h.1, fun i r hr => ?_⟩
  obtain ⟨b, o, ha, h1, h2⟩ := h.2 i r hr
  exact ⟨b, o, ha, cell_turn hg hm h1, cell_turn hg hm h2⟩

/-! Steps by their runs, in a fence. -/
theorem wpListIn_append_run {F : Fence} {nF : Nat} {P : Program} {w : World} {ops : Array Oper} {rest : List Oper} {o : Oper} {a : Act} {Q : Exit → Act → World → Prop} (hgd : o.guard = none) (x y : Operand) (t : TypeId)
    (ho : o.op = .call { callee := .builtin .append, args := #[x, y], argTypes := #[t, t] }) {v' : Value} {w' : World}
    (hrun : (Builtin.append_ #[t, t] o.type #[a.eval x, a.eval y]).run P w = .ok v' w') (h : wpListIn F nF P ops Q rest (a.put o.dst v') w') : wpListIn F nF P ops Q (o :: rest) a w := by
  refine wpListIn_plain hgd fun K hK => ?_
  unfold Oper.wpIn
  refine ⟨by simp [Oper.about, ho, resolve, Target.leads, Sem.run_pure], ?_⟩
  rw [Oper.semAt_plain F _ _ (by rw [ho]; intro c hc'; cases hc')]
  simp [execOp, ho, resolve, invoke, builtin, hrun, Result.andThen]
  exact hK _ _ h
theorem wpListIn_clear_run {F : Fence} {nF : Nat} {P : Program} {w : World} {ops : Array Oper} {rest : List Oper} {o : Oper} {a : Act} {Q : Exit → Act → World → Prop} (hgd : o.guard = none) (x : Operand) (t : TypeId)
    (ho : o.op = .call { callee := .builtin .clear, args := #[x], argTypes := #[t] }) {v' : Value} {w' : World}
    (hrun : (Builtin.clear_ #[t] o.type #[a.eval x]).run P w = .ok v' w') (h : wpListIn F nF P ops Q rest (a.put o.dst v') w') : wpListIn F nF P ops Q (o :: rest) a w := by
  refine wpListIn_plain hgd fun K hK => ?_
  unfold Oper.wpIn
  refine ⟨by simp [Oper.about, ho, resolve, Target.leads, Sem.run_pure], ?_⟩
  rw [Oper.semAt_plain F _ _ (by rw [ho]; intro c hc'; cases hc')]
  simp [execOp, ho, resolve, invoke, builtin, hrun, Result.andThen]
  exact hK _ _ h
theorem wpListIn_mapUpdate_run {F : Fence} {nF : Nat} {P : Program} {w : World} {ops : Array Oper} {rest : List Oper} {o : Oper} {a : Act} {Q : Exit → Act → World → Prop} (hgd : o.guard = none) (m x v : Operand) (t : TypeId)
    (ho : o.op = .mapUpdate t m x v) {w' : World} (hrun : (Instr.mapUpdate t (a.eval m) (a.eval x) (a.eval v)).run P w = .ok () w') (h : wpListIn F nF P ops Q rest (a.put o.dst undef) w') : wpListIn F nF P ops Q (o :: rest) a w := by
  refine wpListIn_plain hgd fun K hK => ?_
  unfold Oper.wpIn
  refine ⟨by simp [Oper.about, ho], ?_⟩
  rw [Oper.semAt_plain F _ _ (by rw [ho]; intro c hc'; cases hc')]
  simp [execOp, ho, hrun, Result.andThen]
  exact hK _ _ h
end Go.Proofs.Ytljbehndnledpaa
namespace Go.Proofs.Ytljbehndnledpaa
open Go.RowKit Go.Shelf

/-- A slice of operations that reads, whose bytes and members stay. -/
def OpsFar (w : World) (B : Nat) (a : Option Addr) (n : Nat) (l : List PO) : Prop :=
  l.length = n ∧ ∀ i o, l[i]? = some o → ∃ b p dv mv, a = some ⟨b, p, none⟩ ∧ (∀ j x, (opCells o dv mv)[j]? = some x → w.cell? ⟨b, p + i * 8 + j, none⟩ = some x) ∧ OpFar w B o dv mv
theorem Ops.far {w : World} {B : Nat} {a : Option Addr} {n : Nat} {l : List PO} (h : Ops w a n l) (hB : w.heap.size ≤ B) : OpsFar w B a n l :=
  ⟨h.1, fun i o ho => by
    obtain ⟨b, p, dv, mv, ha, hc, hv⟩ := h.2 i o ho
    exact ⟨b, p, dv, mv, ha, hc, .inr ⟨w, hB, Below.refl _ _, hv⟩⟩⟩
theorem OpsFar.ops {w : World} {B : Nat} {a : Option Addr} {n : Nat} {l : List PO} (h : OpsFar w B a n l) : Ops w a n l :=
  ⟨h.1, fun i o ho => by
    obtain ⟨b, p, dv, mv, ha, hc, hv⟩ := h.2 i o ho
    exact ⟨b, p, dv, mv, ha, hc, hv.val⟩⟩
theorem OpsFar.stays {w w' : World} {B C : Nat} {a : Option Addr} {n : Nat} {l : List PO} (h : OpsFar w B a n l) (hb : Below C w w') (hC : w.heap.size ≤ C) (hB : B ≤ w.heap.size) : OpsFar w' B a n l := by
  refine ⟨h.1, fun i o ho => ?_⟩
  obtain ⟨b, p, dv, mv, ha, hc, hv⟩ := h.2 i o ho
  refine ⟨b, p, dv, mv, ha, fun j x hx => ?_, hv.stays hb hC hB⟩
  have h1 := hc j x hx
  have h2 := World.block_lt_of_cell? _ _ h1
  rw [hb.cell (p := ⟨b, p + i * 8 + j, none⟩) (by show b < C; simp at h2; omega)]
  exact h1
theorem OpsFar.part {w : World} {B b p n : Nat} {l : List PO} (h : OpsFar w B (some ⟨b, p, none⟩) n l) (k m : Nat) (hm : k + m ≤ n) : OpsFar w B (some ⟨b, p + k * 8, none⟩) m ((l.drop k).take m) := by
  refine ⟨by rw [List.length_take, List.length_drop, h.1]; omega, fun i o ho => ?_⟩
  rw [List.getElem?_take] at ho
  split at ho
  · rw [List.getElem?_drop] at ho
    obtain ⟨b', p', dv, mv, ha, hc, hv⟩ := h.2 (k + i) o ho
    cases ha
    refine ⟨b, p + k * 8, dv, mv, rfl, fun j x hx => ?_, hv⟩
    have := hc j x hx
    rwa [show p + (k + i) * 8 + j = p + k * 8 + i * 8 + j by omega] at this
  · cases ho
theorem OwnOps.far {w : World} {B : Nat} {v : Value} {l : List PO} (h : OwnOps w B v l) : ∃ a cap, v = .slice a l.length cap ∧ OpsFar w B a l.length l ∧ l.length ≤ cap := by
  obtain ⟨ps, h1, h2, h3⟩ := h
  rcases h2.2 with ⟨rfl, h0⟩ | ⟨g, cap, cur, rfl, hbg, hg, hnc, hcm, hcs, htake⟩
  · have : l = [] := List.eq_nil_of_length_eq_zero h0
    subst this
    exact ⟨none, 0, rfl, ⟨rfl, fun i o p => by simp at p⟩, Nat.le_refl _⟩
  · refine ⟨some ⟨g, 0, none⟩, cap, rfl, ⟨rfl, fun i o ho => ?_⟩, hnc⟩
    have hil := (List.getElem?_eq_some_iff.1 ho).1
    obtain ⟨p, hp⟩ : ∃ p, ps[i]? = some p := ⟨_, List.getElem?_eq_getElem (by omega)⟩
    refine ⟨g, 0, p.1, p.2, rfl, fun j x hx => ?_, h3 i o p ho hp⟩
    have := h2.cells (g := g) rfl (i * 8 + j) x (opsCells_at l ps i o p j x ho hp hx)
    rw [← this]
    congr 1
    unfold Addr.add
    split <;> simp_all

theorem opsCells_len : ∀ (l : List PO) (ps : List (Value × Value)), ps.length = l.length → (opsCells l ps).length = l.length * 8
  | [], [], _ => rfl
  | [], _ :: _, h => by simp at h
  | _ :: _, [], h => by simp at h
  | a :: l, b :: ps, h => by
    rw [opsCells, List.length_append, opsCells_len l ps (by simpa using h), List.length_cons]
    show 8 + _ = _
    omega
theorem opsCells_app : ∀ (l : List PO) (ps : List (Value × Value)) (l' : List PO) (ps' : List (Value × Value)), ps.length = l.length → opsCells (l ++ l') (ps ++ ps') = opsCells l ps ++ opsCells l' ps'
  | [], [], _, _, _ => rfl
  | [], _ :: _, _, _, h => by simp at h
  | _ :: _, [], _, _, h => by simp at h
  | a :: l, b :: ps, l', ps', h => by
    simp only [List.cons_append, opsCells, opsCells_app l ps l' ps' (by simpa using h), List.append_assoc]
theorem opsCells_inv : ∀ (l : List PO) (ps : List (Value × Value)) (k : Nat) (u : Value), (opsCells l ps)[k]? = some u → ∃ i j o p, k = i * 8 + j ∧ l[i]? = some o ∧ ps[i]? = some p ∧ (opCells o p.1 p.2)[j]? = some u
  | [], _, _, _, h => by simp [opsCells] at h
  | _ :: _, [], _, _, h => by simp [opsCells] at h
  | a :: l, b :: ps, k, u, h => by
    have hl : (opCells a b.1 b.2).length = 8 := rfl
    rw [opsCells, List.getElem?_append] at h
    split at h
    · exact ⟨0, k, a, b, by omega, rfl, rfl, h⟩
    · obtain ⟨i, j, o, p, h1, h2, h3, h4⟩ := opsCells_inv l ps _ u h
      exact ⟨i + 1, j, o, p, by omega, by simpa using h2, by simpa using h3, h4⟩

/-- Many operations appended out of a slice that reads. -/
theorem OwnOps.app {w : World} {B : Nat} {v : Value} {l l2 : List PO} (h : OwnOps w B v l) {b p m : Nat} (c : Nat) (hs : OpsFar w B (some ⟨b, p, none⟩) m l2) (hlen : l.length + m ≤ 1000000000) (hB : B ≤ w.heap.size) :
    ∃ v' w', (Builtin.append_ #[87, 87] 87 #[v, .slice (some ⟨b, p, none⟩) m c]).run Try.prog w = .ok v' w' ∧ OwnOps w' B v' (l ++ l2) ∧ w.grownBy w' v.ownBlock := by
  obtain ⟨i0, hi, hz0, hz1, hz2⟩ := info_parts info80'
  obtain ⟨ps, h1, h2, h3⟩ := h
  have hl2 := hs.1
  obtain ⟨ps2, hp2, hq2⟩ := list_of (n := m) (P := fun i (q : Value × Value) => ∀ o, l2[i]? = some o → (∀ j x, (opCells o q.1 q.2)[j]? = some x → w.cell? ⟨b, p + i * 8 + j, none⟩ = some x) ∧ OpFar w B o q.1 q.2) (fun i hi => by
    obtain ⟨b', p', dv, mv, ha, hc, hv⟩ := hs.2 i _ (List.getElem?_eq_getElem (show i < l2.length by omega))
    cases ha
    refine ⟨(dv, mv), fun o ho => ?_⟩
    rw [List.getElem?_eq_getElem (show i < l2.length by omega)] at ho
    cases ho
    exact ⟨hc, hv⟩)
  obtain ⟨v', w', hr, hown, hg, _⟩ := run_append_own (P := Try.prog) w B 87 87 80 i0 _ 8 96 Try.underlying87 hi hz0 hz1 hz2 rfl (by decide) v l.length (opsCells l ps) h2 ⟨b, p, none⟩ m c (opsCells l2 ps2) (by rw [opsCells_len _ _ (by omega), hl2]) (fun k u hu => by
    obtain ⟨i, j, o, q, rfl, ho, hq, hx⟩ := opsCells_inv _ _ _ _ hu
    rw [add_plain, ← Nat.add_assoc]
    exact (hq2 i q hq o ho).1 j u hx) (fun u hu => by
    obtain ⟨k, hk⟩ := List.getElem?_of_mem hu
    obtain ⟨i, j, o, q, rfl, ho, hq, hx⟩ := opsCells_inv _ _ _ _ hk
    obtain ⟨da, dc, ma, mc, e1, e2, -, -⟩ := (hq2 i q hq o ho).2.val
    rw [e1, e2] at hx
    have hm := List.mem_of_getElem? hx
    simp only [opCells, List.mem_cons, List.not_mem_nil, or_false] at hm
    rcases hm with rfl | rfl | rfl | rfl | rfl | rfl | rfl | rfl <;> rfl) (by unfold maxLen; omega) (by omega) hB
  refine ⟨v', w', hr, ⟨ps ++ ps2, by simp [h1, hp2, hl2], ?_, fun i o q ho hq => ?_⟩, hg⟩
  · rw [opsCells_app _ _ _ _ h1, List.length_append, hl2]
    exact hown
  · rw [List.getElem?_append] at ho hq
    by_cases hil : i < l.length
    · rw [if_pos hil] at ho
      rw [if_pos (by omega)] at hq
      exact (h3 i o q ho hq).grown h2 hg hB
    · rw [if_neg hil] at ho
      rw [if_neg (by omega), h1] at hq
      exact ((hq2 _ q hq o ho).2).grown h2 hg hB
theorem OwnOps.start (w : World) {B : Nat} (hB : B ≤ w.heap.size) : OwnOps (w.alloc (.cells #[] 80)) B (.slice (some ⟨w.heap.size, 0, none⟩) 0 0) [] :=
  ⟨[], rfl, owns_lower (World.ownsRow_made w #[] 0 (Nat.le_refl _) (Nat.zero_le _) (by simp)) hB, fun i o p h => by simp at h⟩

set_option maxRecDepth 100000 in
set_option maxHeartbeats 4000000 in
theorem cloneOps_any (b p m c : Nat) (l : List PO) (B : Nat) (w : World) (h : OpsFar w B (some ⟨b, p, none⟩) m l) (hm : m ≤ 1000000) (hB : B ≤ w.heap.size) :
    Calls Try.prog 138 #[.slice (some ⟨b, p, none⟩) m c] w fun e w' => ∃ v, e = .returned v ∧ OwnOps w' B v l ∧ Below w.heap.size w w' := by
  have hb0 : Below w.heap.size w (w.alloc (.cells #[] 80)) := (Below.refl _ _).alloc (Nat.le_refl _) _
  obtain ⟨v', w', hap, ho, hg⟩ := (OwnOps.start w hB).app c (h.stays hb0 (Nat.le_refl _) hB) (by simp; omega) (Nat.le_trans hB hb0.size)
  rw [List.nil_append] at ho
  have hbw : Below w.heap.size w w' := hb0.grown hg hb0.size (fun k e => by simp only [Value.ownBlock, Option.some.injEq] at e; omega)
  have HO := Lib.hid ho
  clear ho hg h
  have q87 : (binOp .eql 87 (.slice (some ⟨b, p, none⟩) m c) (.slice none 0 0)).run Try.prog w = .ok (.bool false) w := Lib.run_eql_slice_nil w _ _ _ _ _ _ _ Try.underlying87
  go_enter Try.func138, Try.ntmps138
  go_wp2_with (at_builtin; refine wpList_append_run rfl _ _ _ rfl hap ?_)
  go_ret
  exact ⟨v', rfl, HO.out, hbw⟩

/-! Rows. -/
theorem info87 : (Try.prog.info? 87).map (fun i => (i.zero, i.size, i.bytes)) = some (some (.slice none 0 0), 1, 24) := by kernel_rfl
def OpRows (w : World) (C B : Nat) (v : Value) (L : List (List PO)) : Prop := ∃ vs : List Value, w.ownsRow C 87 1 v L.length vs ∧ ∀ (i : Nat) (x : List PO), L[i]? = some x → ∃ u, vs[i]? = some u ∧ OwnOps w B u x
theorem OpRows.nil (w : World) (C B : Nat) : OpRows w C B (.slice none 0 0) [] := ⟨[], World.ownsRow_nil _ _ _ _, fun i x h => by simp at h⟩
theorem OpRows.stays {w w' : World} {B C D : Nat} {v : Value} {L : List (List PO)} (h : OpRows w D B v L) (hb : Below C w w') (hC : w.heap.size ≤ C) (hB : B ≤ w.heap.size) : OpRows w' D B v L := by
  obtain ⟨vs, h1, h2⟩ := h
  refine ⟨vs, owns_below h1 hb hC, fun i x hx => ?_⟩
  obtain ⟨u, hu, hp⟩ := h2 i x hx
  exact ⟨u, hu, hp.stays hb hC hB⟩
theorem OpRows.turned {w w' : World} {B D : Nat} {v : Value} {L : List (List PO)} {row : Option Nat} (h : OpRows w D B v L) (hg : w.grownBy w' row) (hB : B ≤ w.heap.size)
    (hr : ∀ r, row = some r → B ≤ r ∧ ∀ arr t p, w.heap[r]? = some (.cells arr t p) → t ≠ 5 ∧ t ≠ 3 ∧ t ≠ 80 ∧ t ≠ 87) : OpRows w' D B v L := by
  obtain ⟨vs, h1, h2⟩ := h
  refine ⟨vs, h1.kept hg (own_apart_of h1 fun r e arr t p hh => ((hr r e).2 arr t p hh).2.2.2), fun i x hx => ?_⟩
  obtain ⟨u, hu, hp⟩ := h2 i x hx
  exact ⟨u, hu, hp.turned hg hB fun r e => ⟨(hr r e).1, fun arr t p hh => ⟨((hr r e).2 arr t p hh).1, ((hr r e).2 arr t p hh).2.1, ((hr r e).2 arr t p hh).2.2.1⟩⟩⟩
theorem OpRows.push {w : World} {B D : Nat} {v u : Value} {L : List (List PO)} {x : List PO} (h : OpRows w D B v L) (hu : OwnOps w B u x) (hl : L.length ≤ 1000000) (hBD : B ≤ D) (hB : D ≤ w.heap.size) :
    ∃ v' w', (Builtin.append_ #[135, 135] 135 #[v, .slice (some ⟨w.heap.size, 0, none⟩) 1 1]).run Try.prog (w.alloc (.cells #[u] 87)) = .ok v' w' ∧ OpRows w' D B v' (L ++ [x]) ∧ w.grownBy w' v.ownBlock := by
  obtain ⟨i0, hi, hz0, hz1, hz2⟩ := info_parts info87
  obtain ⟨vs, h1, h2⟩ := h
  have hone : u.oneCell' = true := by obtain ⟨a, c, rfl, _⟩ := hu.ops; rfl
  obtain ⟨v', w', hr, hown, hg, _⟩ := app_new (P := Try.prog) Try.underlying135 hi hz0 hz1 hz2 rfl (by decide) h1 1 [u] rfl (by simpa using hone) (by unfold maxLen; omega) (by omega) hB
  have hvl : vs.length = L.length := by have := h1.1; simpa using this
  have hrow : ∀ r, v.ownBlock = some r → B ≤ r ∧ ∀ arr t p, w.heap[r]? = some (.cells arr t p) → t ≠ 5 ∧ t ≠ 3 ∧ t ≠ 80 := by
    intro r e
    rcases h1.2 with ⟨rfl, _⟩ | ⟨g, cap, cur, rfl, hb, hh, _⟩
    · cases e
    · simp only [Value.ownBlock, Option.some.injEq] at e
      subst e
      refine ⟨by omega, fun arr t p h9 => ?_⟩
      rw [hh] at h9
      cases h9
      decide
  refine ⟨v', w', hr, ⟨vs ++ [u], by rw [List.length_append]; exact hown, fun i y hy => ?_⟩, hg⟩
  by_cases hi : i < L.length
  · rw [List.getElem?_append_left hi] at hy
    obtain ⟨q, hq, hp⟩ := h2 i y hy
    exact ⟨q, by rw [List.getElem?_append_left (by omega)]; exact hq, hp.turned hg (Nat.le_trans hBD hB) hrow⟩
  · have hlt := (List.getElem?_eq_some_iff.1 hy).1
    simp at hlt
    obtain rfl : i = L.length := by omega
    simp at hy
    subst hy
    exact ⟨u, by rw [← hvl]; simp, hu.turned hg (Nat.le_trans hBD hB) hrow⟩
theorem OpRows.at {w : World} {B D : Nat} {v : Value} {L : List (List PO)} (h : OpRows w D B v L) : ∃ a cap, v = .slice a L.length cap ∧ L.length ≤ cap ∧ ∀ (i : Nat) (x : List PO), L[i]? = some x → ∃ g u, a = some ⟨g, 0, none⟩ ∧ w.cell? ⟨g, i, none⟩ = some u ∧ OwnOps w B u x := by
  obtain ⟨vs, h1, h2⟩ := h
  rcases h1.2 with ⟨rfl, h0⟩ | ⟨g, cap, cur, rfl, hbg, hg, hnc, hcm, hcs, htake⟩
  · have : L = [] := List.eq_nil_of_length_eq_zero h0
    subst this
    exact ⟨none, 0, rfl, Nat.le_refl _, fun i x hx => by simp at hx⟩
  · refine ⟨some ⟨g, 0, none⟩, cap, rfl, hnc, fun i x hx => ?_⟩
    obtain ⟨u, hu, hp⟩ := h2 i x hx
    refine ⟨g, u, rfl, ?_, hp⟩
    have := h1.cells (g := g) rfl i u hu
    rwa [add_plain, Nat.zero_add] at this
end Go.Proofs.Ytljbehndnledpaa
