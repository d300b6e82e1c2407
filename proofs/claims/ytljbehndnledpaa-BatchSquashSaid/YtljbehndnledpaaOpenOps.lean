/- Operations that came in as a slice, opened. Conditions: those of each theorem. -/
import Derived.Test.YtljbehndnledpaaOpenOp
import Derived.Test.YtljbehndnledpaaOpList
import Derived.Deep.Slices
import Derived.Deep.Fields
import Derived.ChangeSame
namespace Go.Proofs.Ytljbehndnledpaa
open Go.RowKit Go.WideShapes Go.ChangeShapes Go.Joins Go.Deep

section
variable {H : Type} {enc : TypeId × Value → H} {P : Program} {w : World} {base : Nat} {spare : Nat → Bool} {held : Bool}
theorem open_slice_fields {t e : TypeId} {fs : Array Field} {fuel : Nat} {cs : List Value} {x : DataW H × List MemPlace} (ht : P.underlying t = some (.slice e)) (he : P.underlying e = some (.struct fs))
    (hone : oneCellFields P fs = true) (hC : P.cellsOf e = fs.size) (h : DataW.trod enc P w base spare held fuel t cs = some x) :
    (cs = [.slice none 0 0] ∧ x = (.nil, [])) ∨
    ∃ (a : Addr) (len cap m : Nat) (D : Nat → DataW H) (Pl : Nat → List MemPlace), cs = [.slice (some a) len cap] ∧ base ≤ a.block ∧ len ≤ cap ∧ cap ≤ maxLen ∧ m = (if spare a.block then cap else len) ∧
      x = (.slice ((List.range len).map D) ((List.range (m - len)).map fun j => D (len + j)), MemPlace.row a (m * fs.size) ++ (List.range m).flatMap Pl) ∧
      ∀ i, i < m → ∃ (ys : List (DataW H × List MemPlace)) (n : Nat), D i = .agg (ys.map (·.1)) ∧ Pl i = ys.flatMap (·.2) ∧ ys.length = fs.size ∧
        ∀ (j : Nat) (f : Field), fs[j]? = some f → ∃ (v : Value) (y : DataW H × List MemPlace), w.cell? (a.add (i * fs.size + j)) = some v ∧ ys[j]? = some y ∧ DataW.trod enc P w base spare held n f.type [v] = some y := by
  rcases open_slice ht h with h0 | ⟨a, len, cap, m, n, D, Pl, hcs, hb, hl, hm, hmm, hx, hi⟩
  · exact .inl h0
  · refine .inr ⟨a, len, cap, m, D, Pl, hcs, hb, hl, hm, hmm, by rw [hC] at hx; exact hx, fun i him => ?_⟩
    obtain ⟨cs', hc, ht'⟩ := hi i him
    rw [hC] at hc
    obtain ⟨ys, n', hn', hy, hlen, hyl, hf⟩ := DataW.trod_struct he ht'
    obtain ⟨_, hcl, hat⟩ := World.cells?_some hc
    simp only [Prod.mk.injEq] at hy
    refine ⟨ys, n', hy.1, hy.2, hyl, fun j f hj => ?_⟩
    obtain ⟨ho, hk⟩ := hone_of hone j f hj
    have hjl : j < fs.size := (Array.getElem?_eq_some_iff.1 hj).1
    have hcell := hat j hjl
    have hv : cs'[j]? = some (cs'[j]'(by omega)) := List.getElem?_eq_getElem (by omega)
    have h1 := hf j f hj
    rw [ho, hk] at h1
    have hone' : (cs'.drop j).take 1 = [cs'[j]'(by omega)] := by
      rw [List.drop_eq_getElem_cons (by omega)]
      rfl
    rw [hone'] at h1
    have hys : ys[j]? = some (ys[j]'(by omega)) := List.getElem?_eq_getElem (by omega)
    refine ⟨_, _, ?_, hys, h1.trans hys⟩
    rw [← Go.Deep.add_add, hcell, hv]
end

set_option maxRecDepth 100000 in
/-- A slice of operations that came in. -/
theorem ops_of_trod {H : Type} {enc : TypeId × Value → H} {w : World} {a : Option Addr} {n cap : Nat} {d : DataW H} {p : List MemPlace} (h : DataW.Trod enc Try.prog w 0 (fun _ => true) true 87 (.slice a n cap) d p) :
    ∃ l, Ops w a n l ∧ ∀ q ∈ l, 0 ≤ q.pt ∧ q.pt < 18446744073709551616 := by
  obtain ⟨fuel, hf⟩ := h
  obtain ⟨f0, f1, f2, f3, f4, f5, f6, f7, hs, hone, t0, t1, t2, t3, t4, t5, t6, t7⟩ := under80
  rcases open_slice_fields Try.underlying87 hs hone cells80 hf with ⟨hcs, _⟩ | ⟨x, len, cap', m, D, Pl, hcs, _, hl, hm, hmm, _, hx⟩
  · simp [Value.cells] at hcs
    obtain ⟨rfl, rfl, rfl⟩ := hcs
    exact ⟨[], Ops.nil _ _, fun q hq => by simp at hq⟩
  · simp [Value.cells] at hcs
    obtain ⟨rfl, rfl, rfl⟩ := hcs
    simp only [if_true] at hmm
    have hv : ∀ i, i < n → ∃ (z : PO × Value × Value), (∀ j y, (opCells z.1 z.2.1 z.2.2)[j]? = some y → w.cell? (x.add (i * 8 + j)) = some y) ∧ OpVal w z.1 z.2.1 z.2.2 ∧ 0 ≤ z.1.pt ∧ z.1.pt < 18446744073709551616 := by
      intro i hi
      obtain ⟨ys, k, -, -, -, hfld⟩ := hx i (by omega)
      obtain ⟨v0, y0, g0, -, h0⟩ := hfld 0 f0 rfl
      obtain ⟨v1, y1, g1, -, h1⟩ := hfld 1 f1 rfl
      obtain ⟨v2, y2, g2, -, h2⟩ := hfld 2 f2 rfl
      obtain ⟨v3, y3, g3, -, h3⟩ := hfld 3 f3 rfl
      obtain ⟨v4, y4, g4, -, h4⟩ := hfld 4 f4 rfl
      obtain ⟨v5, y5, g5, -, h5⟩ := hfld 5 f5 rfl
      obtain ⟨v6, y6, g6, -, h6⟩ := hfld 6 f6 rfl
      obtain ⟨v7, y7, g7, -, h7⟩ := hfld 7 f7 rfl
      rw [t0] at h0; rw [t1] at h1; rw [t2] at h2; rw [t3] at h3; rw [t4] at h4; rw [t5] at h5; rw [t6] at h6; rw [t7] at h7
      obtain ⟨o, da, ma, dc, mc, rfl, rfl, rfl, rfl, rfl, rfl, rfl, rfl, hin⟩ := op_of_fields h0 h1 h2 h3 h4 h5 h6 h7
      refine ⟨(o, .slice da o.d.length dc, .slice ma o.m.length mc), fun j y hy => ?_, ⟨da, dc, ma, mc, rfl, rfl, hin.d, hin.m⟩, hin.pt0, hin.pt1⟩
      have hj : j < 8 := (List.getElem?_eq_some_iff.1 hy).1
      match j, hj with
      | 0, _ => simp [opCells] at hy; subst hy; exact g0
      | 1, _ => simp [opCells] at hy; subst hy; exact g1
      | 2, _ => simp [opCells] at hy; subst hy; exact g2
      | 3, _ => simp [opCells] at hy; subst hy; exact g3
      | 4, _ => simp [opCells] at hy; subst hy; exact g4
      | 5, _ => simp [opCells] at hy; subst hy; exact g5
      | 6, _ => simp [opCells] at hy; subst hy; exact g6
      | 7, _ => simp [opCells] at hy; subst hy; exact g7
    obtain ⟨l, hll, hlx⟩ := list_of hv
    refine ⟨l.map (·.1), ⟨by simp [hll], fun i o ho => ?_⟩, fun q hq => ?_⟩
    · rw [List.getElem?_map] at ho
      cases hz : l[i]? with
      | none => rw [hz] at ho; cases ho
      | some z =>
        rw [hz] at ho
        simp at ho
        subst ho
        obtain ⟨h1, h2, -⟩ := hlx i z hz
        have hi0 := (List.getElem?_eq_some_iff.1 hz).1
        obtain ⟨z0, hz0⟩ : ∃ z0, l[0]? = some z0 := ⟨_, List.getElem?_eq_getElem (by omega)⟩
        have hc0 := (hlx 0 z0 hz0).1 0 _ rfl
        obtain ⟨b, o, spot⟩ := x
        have hspot : spot = none := by simpa [Addr.add] using World.cell?_spot hc0
        subst hspot
        refine ⟨b, o, z.2.1, z.2.2, rfl, fun j y hy => ?_, h2⟩
        have := h1 j y hy
        rw [add_plain, ← Nat.add_assoc] at this
        exact this
    · obtain ⟨z, hz, rfl⟩ := List.mem_map.1 hq
      obtain ⟨i, hi, rfl⟩ := List.mem_iff_getElem.1 hz
      obtain ⟨_, _, h3, h4⟩ := hlx i _ (List.getElem?_eq_getElem hi)
      exact ⟨h3, h4⟩
end Go.Proofs.Ytljbehndnledpaa
