/- Steps (an operation, or Cool) and a spot that came in, opened. Conditions: those of each theorem. -/
import Derived.Test.YtljbehndnledpaaOpenOp
import Derived.Deep.Slices
import Derived.Deep.Fields
import Derived.ChangeSame
import Derived.Test.YtljbehndnledpaaHeatMap
import Derived.Lib.SmallJoins
import Derived.ProofKit
namespace Go.Proofs.Ytljbehndnledpaa
open Go.RowKit Go.WideShapes Go.ChangeShapes Go.Joins Go.Deep

theorem under106 : ∃ f0 f1 : Field, Try.prog.underlying 106 = some (.struct #[f0, f1]) ∧ f0.offset = 0 ∧ f1.offset = 1 ∧ f0.type = 4 ∧ f1.type = 80 := ⟨_, _, Try.underlying106, rfl, rfl, rfl, rfl⟩
theorem cells106 : Try.prog.cellsOf 106 = 9 := by kernel_rfl
theorem cells4 : Try.prog.cellsOf 4 = 1 := by kernel_rfl

def stCells (o : PO) (dv mv : Value) : List Value := [.int .i64 o.k, .int .i64 o.v, .int .i64 o.i, .int .i64 o.b, .int .i64 o.n, .int .u64 o.pt, dv, mv]
def StVal (w : World) (o : PO) (dv mv : Value) : Prop := ∃ da dc ma mc, dv = .slice da o.d.length dc ∧ mv = .slice ma o.m.length mc ∧ Bs w da o.d.length o.d ∧ Is .i64 w ma o.m.length o.m
theorem StVal.below {w w' : World} {C : Nat} {o : PO} {dv mv : Value} (h : StVal w o dv mv) (hb : Below C w w') (hC : w.heap.size ≤ C) : StVal w' o dv mv := by
  obtain ⟨da, dc, ma, mc, h1, h2, h3, h4⟩ := h
  exact ⟨da, dc, ma, mc, h1, h2, Is.below h3 hb hC, Is.below h4 hb hC⟩
/-- A slice of steps that reads. -/
def StepsOf (w : World) (a : Option Addr) (n : Nat) (l : List (Bool × PO)) : Prop :=
  l.length = n ∧ ∀ i s, l[i]? = some s → HsIn (s.2.v, s.2.b) ∧ ∃ b p dv mv, a = some ⟨b, p, none⟩ ∧ w.cell? ⟨b, p + i * 9, none⟩ = some (.bool s.1) ∧ (∀ j x, (stCells s.2 dv mv)[j]? = some x → w.cell? ⟨b, p + i * 9 + 1 + j, none⟩ = some x) ∧ StVal w s.2 dv mv
theorem StepsOf.below {w w' : World} {C : Nat} {a : Option Addr} {n : Nat} {l : List (Bool × PO)} (h : StepsOf w a n l) (hb : Below C w w') (hC : w.heap.size ≤ C) : StepsOf w' a n l := by
  refine ⟨h.1, fun i o ho => ?_⟩
  obtain ⟨hin, b, p, dv, mv, ha, h0, hc, hv⟩ := h.2 i o ho
  have hlt := World.block_lt_of_cell? _ _ h0
  simp at hlt
  refine ⟨hin, b, p, dv, mv, ha, ?_, fun j x hx => ?_, hv.below hb hC⟩
  · rw [hb.cell (p := ⟨b, p + i * 9, none⟩) (by show b < C; omega)]; exact h0
  · rw [hb.cell (p := ⟨b, p + i * 9 + 1 + j, none⟩) (by show b < C; omega)]
    exact hc j x hx

theorem in_of_wf {x : Int} (h : (Lit.int .i64 x).wf = true) : -9223372036854775808 ≤ x ∧ x ≤ 9223372036854775807 := by
  simp [Lit.wf, IntKind.min, IntKind.max, IntKind.signed, IntKind.bits] at h
  omega

set_option maxRecDepth 100000 in
theorem steps_of_trod {H : Type} {enc : TypeId × Value → H} {w : World} {a : Option Addr} {n cap : Nat} {d : DataW H} {p : List MemPlace} (h : DataW.Trod enc Try.prog w 0 (fun _ => true) true 97 (.slice a n cap) d p) :
    ∃ l, StepsOf w a n l := by
  obtain ⟨fuel, hf⟩ := h
  obtain ⟨f0, f1, hs, o0, o1, t0, t1⟩ := under106
  obtain ⟨g0, g1, g2, g3, g4, g5, g6, g7, hs8, hone, u0, u1, u2, u3, u4, u5, u6, u7⟩ := under80
  rcases open_slice Try.underlying97 hf with ⟨hcs, _⟩ | ⟨x, len, cap', m, k, D, Pl, hcs, _, hl, hm, hmm, _, hx⟩
  · simp [Value.cells] at hcs
    obtain ⟨rfl, rfl, rfl⟩ := hcs
    exact ⟨[], rfl, fun i s hi => by simp at hi⟩
  · simp [Value.cells] at hcs
    obtain ⟨rfl, rfl, rfl⟩ := hcs
    simp only [if_true] at hmm
    have hv : ∀ i, i < n → ∃ (z : (Bool × PO) × Value × Value), w.cell? (x.add (i * 9)) = some (.bool z.1.1) ∧ (∀ j y, (stCells z.1.2 z.2.1 z.2.2)[j]? = some y → w.cell? (x.add (i * 9 + (1 + j))) = some y) ∧ StVal w z.1.2 z.2.1 z.2.2 ∧ HsIn (z.1.2.v, z.1.2.b) := by
      intro i hi
      obtain ⟨cs', hc, ht'⟩ := hx i (by omega)
      rw [cells106] at hc
      obtain ⟨ys, n', hn', hy, hlen, hyl, hfl⟩ := DataW.trod_struct hs ht'
      obtain ⟨_, hcl, hat⟩ := World.cells?_some hc
      have q0 := hfl 0 f0 rfl
      have q1 := hfl 1 f1 rfl
      rw [o0, t0, cells4] at q0
      rw [o1, t1, cells80] at q1
      have hy0 : ys[0]? = some (ys[0]'(by rw [hyl]; simp)) := List.getElem?_eq_getElem _
      have hy1 : ys[1]? = some (ys[1]'(by rw [hyl]; simp)) := List.getElem?_eq_getElem _
      rw [hy0] at q0
      rw [hy1] at q1
      obtain ⟨bb, e0, -⟩ := DataW.trod_bool Try.underlying4 q0
      obtain ⟨zs, n2, hn2, hz, hzl, hzsz, hzf⟩ := DataW.trod_struct hs8 q1
      have hcl9 : cs'.length = 9 := hcl
      have fld : ∀ (j : Nat) (f : Field), (#[g0, g1, g2, g3, g4, g5, g6, g7] : Array Field)[j]? = some f → ∃ (v : Value) (y : DataW H × List MemPlace), w.cell? (x.add (i * 9 + (1 + j))) = some v ∧ DataW.trod enc Try.prog w 0 (fun _ => true) true n2 f.type [v] = some y := by
        intro j f hj
        obtain ⟨ho, hk⟩ := hone_of hone j f hj
        have hjl : j < 8 := (Array.getElem?_eq_some_iff.1 hj).1
        have h1 := hzf j f hj
        rw [ho, hk] at h1
        have hone' : ((cs'.drop 1).take 8 |>.drop j).take 1 = [cs'[1 + j]'(by omega)] := by
          apply List.ext_getElem?
          intro t
          rcases t with _ | t
          · rw [List.getElem?_take_of_lt (by omega), List.getElem?_drop, List.getElem?_take_of_lt (by omega), List.getElem?_drop]
            simp [List.getElem?_eq_getElem (show 1 + j < cs'.length by omega)]
          · rw [List.getElem?_take_eq_none (by omega)]
            simp
        rw [hone'] at h1
        have hzs : zs[j]? = some (zs[j]'(by rw [hzsz]; exact hjl)) := List.getElem?_eq_getElem _
        refine ⟨_, _, ?_, h1.trans hzs⟩
        rw [← Go.Deep.add_add, hat (1 + j) (by omega)]
        exact List.getElem?_eq_getElem _
      obtain ⟨v0, y0, c0, h0⟩ := fld 0 g0 rfl
      obtain ⟨v1, y1, c1, h1⟩ := fld 1 g1 rfl
      obtain ⟨v2, y2, c2, h2⟩ := fld 2 g2 rfl
      obtain ⟨v3, y3, c3, h3⟩ := fld 3 g3 rfl
      obtain ⟨v4, y4, c4, h4⟩ := fld 4 g4 rfl
      obtain ⟨v5, y5, c5, h5⟩ := fld 5 g5 rfl
      obtain ⟨v6, y6, c6, h6⟩ := fld 6 g6 rfl
      obtain ⟨v7, y7, c7, h7⟩ := fld 7 g7 rfl
      rw [u0] at h0; rw [u1] at h1; rw [u2] at h2; rw [u3] at h3; rw [u4] at h4; rw [u5] at h5; rw [u6] at h6; rw [u7] at h7
      obtain ⟨o, da, ma, dc, mc, rfl, rfl, rfl, rfl, rfl, rfl, rfl, rfl, hin⟩ := op_of_fields h0 h1 h2 h3 h4 h5 h6 h7
      refine ⟨((bb, o), .slice da o.d.length dc, .slice ma o.m.length mc), ?_, fun j y hy => ?_, ⟨da, dc, ma, mc, rfl, rfl, hin.d, hin.m⟩, in_of_wf hin.wv, in_of_wf hin.wb⟩
      · have hh := hat 0 (by omega)
        rw [Go.Deep.add_add, Nat.add_zero] at hh
        rw [hh]
        have e0' : cs'[0]? = some (Value.bool bb) := by
          have := congrArg (fun l => l[0]?) e0
          simpa [List.getElem?_take_of_lt] using this
        exact e0'
      · have hj : j < 8 := (List.getElem?_eq_some_iff.1 hy).1
        match j, hj with
        | 0, _ => simp [stCells] at hy; subst hy; exact c0
        | 1, _ => simp [stCells] at hy; subst hy; exact c1
        | 2, _ => simp [stCells] at hy; subst hy; exact c2
        | 3, _ => simp [stCells] at hy; subst hy; exact c3
        | 4, _ => simp [stCells] at hy; subst hy; exact c4
        | 5, _ => simp [stCells] at hy; subst hy; exact c5
        | 6, _ => simp [stCells] at hy; subst hy; exact c6
        | 7, _ => simp [stCells] at hy; subst hy; exact c7
    obtain ⟨l, hll, hlx⟩ := list_of hv
    refine ⟨l.map (·.1), by simp [hll], fun i o ho => ?_⟩
    rw [List.getElem?_map] at ho
    cases hz : l[i]? with
    | none => rw [hz] at ho; cases ho
    | some z =>
      rw [hz] at ho
      simp at ho
      subst ho
      obtain ⟨h0, h1, h2, h3⟩ := hlx i z hz
      have hi0 := (List.getElem?_eq_some_iff.1 hz).1
      obtain ⟨z0, hz0⟩ : ∃ z0, l[0]? = some z0 := ⟨_, List.getElem?_eq_getElem (by omega)⟩
      have hc0 := (hlx 0 z0 hz0).1
      obtain ⟨b, o, spot⟩ := x
      have hspot : spot = none := by simpa [Addr.add] using World.cell?_spot hc0
      subst hspot
      refine ⟨h3, b, o, z.2.1, z.2.2, rfl, ?_, fun j y hy => ?_, h2⟩
      · rw [add_plain] at h0
        exact h0
      · have := h1 j y hy
        rw [add_plain] at this
        rw [show o + i * 9 + 1 + j = o + (i * 9 + (1 + j)) by omega]
        exact this

set_option maxRecDepth 100000 in
theorem spot_of_trod {H : Type} {enc : TypeId × Value → H} {w : World} {base : Nat} {r : Reach} {v : Value} {d : DataW H} {p : List MemPlace} (hv : Value.okWide Try.prog w r base 99 v) (h : DataW.Trod enc Try.prog w 0 (fun _ => true) true 99 v d p) :
    ∃ s : Int × Int, v = .agg #[.int .i64 s.1, .int .i64 s.2] ∧ HsIn s := by
  obtain ⟨f0, f1, hu, o0, o1, t0, t1⟩ : ∃ f0 f1 : Field, Try.prog.underlying 99 = some (.struct #[f0, f1]) ∧ f0.offset = 0 ∧ f1.offset = 1 ∧ f0.type = 3 ∧ f1.type = 3 := ⟨_, _, Try.underlying99, rfl, rfl, rfl, rfl⟩
  obtain ⟨cs, rfl, hcs⟩ := okWide_struct hu hv
  obtain ⟨fuel, hf⟩ := h
  obtain ⟨y0, y1, m, _, hl, h0, h1⟩ := trod_struct2 hu hf
  rw [cells99] at hcs
  rw [o0, t0, cells3h] at h0
  rw [o1, t1, cells3h] at h1
  obtain ⟨lcs⟩ := cs
  simp at hcs
  match lcs, hcs with
  | [x0, x1], _ =>
    simp [Value.cells] at h0 h1
    obtain ⟨z0, e0, _, wf0⟩ := DataW.trod_int Try.underlying3 h0
    obtain ⟨z1, e1, _, wf1⟩ := DataW.trod_int Try.underlying3 h1
    simp only [List.cons.injEq, and_true] at e0 e1
    subst e0
    subst e1
    exact ⟨(z0, z1), rfl, in_of_wf wf0, in_of_wf wf1⟩
end Go.Proofs.Ytljbehndnledpaa
