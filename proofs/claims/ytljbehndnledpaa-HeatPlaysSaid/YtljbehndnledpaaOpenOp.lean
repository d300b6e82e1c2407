/- An operation that came in, by value or in a slice, opened. Conditions: those of each theorem. -/
import Derived.Test.YtljbehndnledpaaStep
import Derived.ProofKit
import Derived.Test.YtljbehndnledpaaOpLinePlain
import Derived.Lib.SmallJoins
namespace Go.Proofs.Ytljbehndnledpaa
open Go.RowKit Go.WideShapes Go.ChangeShapes Go.Joins Go.Deep

theorem under80 : ∃ f0 f1 f2 f3 f4 f5 f6 f7 : Field, Try.prog.underlying 80 = some (.struct #[f0, f1, f2, f3, f4, f5, f6, f7]) ∧ oneCellFields Try.prog #[f0, f1, f2, f3, f4, f5, f6, f7] = true ∧
    f0.type = 3 ∧ f1.type = 3 ∧ f2.type = 3 ∧ f3.type = 3 ∧ f4.type = 3 ∧ f5.type = 23 ∧ f6.type = 37 ∧ f7.type = 78 := ⟨_, _, _, _, _, _, _, _, Try.underlying80, by kernel_rfl, rfl, rfl, rfl, rfl, rfl, rfl, rfl, rfl⟩
theorem cells80 : Try.prog.cellsOf 80 = 8 := by kernel_rfl
theorem intRow78 : Try.prog.cellsOf 3 = 1 := by kernel_rfl

section
variable {H : Type} {enc : TypeId × Value → H} {w : World}

theorem bs_of_field {n : Nat} {v : Value} {y : DataW H × List MemPlace} (h : DataW.trod enc Try.prog w 0 (fun _ => true) true n 37 [v] = some y) : ∃ a l c, v = .slice a l.length c ∧ Bs w a l.length l ∧ l.length ≤ c := by
  rcases open_ints Try.underlying37 Try.underlying5 (by kernel_rfl) h with ⟨hcs, _⟩ | ⟨x, l, c, zs, hcs, _, hlc, hm, hz, _, hcell, hwz⟩
  · simp only [List.cons.injEq, and_true] at hcs
    subst hcs
    exact ⟨none, [], 0, rfl, ⟨rfl, fun i x hx => by simp at hx⟩, Nat.le_refl _⟩
  · simp only [List.cons.injEq, and_true] at hcs
    subst hcs
    have hrow : IsRow .u8 w (some x) l c zs := .inr ⟨_, rfl, hlc, hm, by simpa using hz, hcell, hwz⟩
    obtain ⟨bs, hb⟩ := bs_of_row hrow
    have hl := hb.length
    exact ⟨some x, bs, c, by rw [hl], by rw [hl]; exact hb, by omega⟩
theorem is_of_field {n : Nat} {v : Value} {y : DataW H × List MemPlace} (h : DataW.trod enc Try.prog w 0 (fun _ => true) true n 78 [v] = some y) : ∃ a l c, v = .slice a l.length c ∧ Is .i64 w a l.length l ∧ l.length ≤ c ∧ ∀ z ∈ l, (Lit.int .i64 z).wf = true := by
  rcases open_ints Try.underlying78 Try.underlying3 (by kernel_rfl) h with ⟨hcs, _⟩ | ⟨x, l, c, zs, hcs, _, hlc, hm, hz, _, hcell, hwz⟩
  · simp only [List.cons.injEq, and_true] at hcs
    subst hcs
    exact ⟨none, [], 0, rfl, ⟨rfl, fun i x hx => by simp at hx⟩, Nat.le_refl _, fun z hz => by simp at hz⟩
  · simp only [List.cons.injEq, and_true] at hcs
    subst hcs
    have hrow : IsRow .i64 w (some x) l c zs := .inr ⟨_, rfl, hlc, hm, by simpa using hz, hcell, hwz⟩
    have hl := hrow.is.len
    exact ⟨some x, zs.take l, c, by rw [hl], by rw [hl]; exact hrow.is, by omega, hrow.wf⟩

/-- The eight values of an operation. -/
structure OpIn (w : World) (o : PO) (da : Option Addr) (dc : Nat) (ma : Option Addr) (mc : Nat) : Prop where
  pt0 : 0 ≤ o.pt
  pt1 : o.pt < 18446744073709551616
  wk : (Lit.int .i64 o.k).wf = true
  wv : (Lit.int .i64 o.v).wf = true
  wi : (Lit.int .i64 o.i).wf = true
  wb : (Lit.int .i64 o.b).wf = true
  wn : (Lit.int .i64 o.n).wf = true
  d : Bs w da o.d.length o.d
  m : Is .i64 w ma o.m.length o.m
  dl : o.d.length ≤ dc
  ml : o.m.length ≤ mc
  wm : ∀ z ∈ o.m, (Lit.int .i64 z).wf = true

set_option maxRecDepth 100000 in
theorem op_of_fields {n : Nat} {v0 v1 v2 v3 v4 v5 v6 v7 : Value} {y0 y1 y2 y3 y4 y5 y6 y7 : DataW H × List MemPlace}
    (h0 : DataW.trod enc Try.prog w 0 (fun _ => true) true n 3 [v0] = some y0) (h1 : DataW.trod enc Try.prog w 0 (fun _ => true) true n 3 [v1] = some y1) (h2 : DataW.trod enc Try.prog w 0 (fun _ => true) true n 3 [v2] = some y2)
    (h3 : DataW.trod enc Try.prog w 0 (fun _ => true) true n 3 [v3] = some y3) (h4 : DataW.trod enc Try.prog w 0 (fun _ => true) true n 3 [v4] = some y4) (h5 : DataW.trod enc Try.prog w 0 (fun _ => true) true n 23 [v5] = some y5)
    (h6 : DataW.trod enc Try.prog w 0 (fun _ => true) true n 37 [v6] = some y6) (h7 : DataW.trod enc Try.prog w 0 (fun _ => true) true n 78 [v7] = some y7) :
    ∃ (o : PO) (da ma : Option Addr) (dc mc : Nat), v0 = .int .i64 o.k ∧ v1 = .int .i64 o.v ∧ v2 = .int .i64 o.i ∧ v3 = .int .i64 o.b ∧ v4 = .int .i64 o.n ∧ v5 = .int .u64 o.pt ∧ v6 = .slice da o.d.length dc ∧ v7 = .slice ma o.m.length mc ∧ OpIn w o da dc ma mc := by
  obtain ⟨z0, e0, _, wf0⟩ := DataW.trod_int Try.underlying3 h0
  obtain ⟨z1, e1, _, wf1⟩ := DataW.trod_int Try.underlying3 h1
  obtain ⟨z2, e2, _, wf2⟩ := DataW.trod_int Try.underlying3 h2
  obtain ⟨z3, e3, _, wf3⟩ := DataW.trod_int Try.underlying3 h3
  obtain ⟨z4, e4, _, wf4⟩ := DataW.trod_int Try.underlying3 h4
  obtain ⟨z5, e5, _, wf5⟩ := DataW.trod_int Try.underlying23 h5
  simp only [List.cons.injEq, and_true] at e0 e1 e2 e3 e4 e5
  obtain ⟨da, d, dc, e6, hd, hdl⟩ := bs_of_field h6
  obtain ⟨ma, m, mc, e7, hm, hml, hmw⟩ := is_of_field h7
  have h5' := wf5
  simp [Lit.wf, IntKind.min, IntKind.max, IntKind.signed, IntKind.bits] at h5'
  exact ⟨⟨z0, z1, z2, z3, z4, z5, d, m⟩, da, ma, dc, mc, e0, e1, e2, e3, e4, e5, e6, e7, ⟨by simp only; omega, by simp only; omega, wf0, wf1, wf2, wf3, wf4, hd, hm, hdl, hml, hmw⟩⟩

set_option maxRecDepth 100000 in
theorem op_of_trod {base : Nat} {r : Reach} {v : Value} {dd : DataW H} {p : List MemPlace} (hv : Value.okWide Try.prog w r base 80 v) (h : DataW.Trod enc Try.prog w 0 (fun _ => true) true 80 v dd p) :
    ∃ (o : PO) (da ma : Option Addr) (dc mc : Nat), v = .agg #[.int .i64 o.k, .int .i64 o.v, .int .i64 o.i, .int .i64 o.b, .int .i64 o.n, .int .u64 o.pt, .slice da o.d.length dc, .slice ma o.m.length mc] ∧ OpIn w o da dc ma mc := by
  obtain ⟨f0, f1, f2, f3, f4, f5, f6, f7, hs, hone, t0, t1, t2, t3, t4, t5, t6, t7⟩ := under80
  obtain ⟨cs, rfl, hsz⟩ := okWide_struct hs hv
  obtain ⟨l⟩ := cs
  match l, hsz.trans cells80 with
  | [c0, c1, c2, c3, c4, c5, c6, c7], _ =>
    obtain ⟨fuel, hf⟩ := h
    obtain ⟨xs, n, _, hx, _, hlen, hg⟩ := DataW.trod_struct hs hf
    obtain ⟨o0, k0⟩ := hone_of hone 0 f0 rfl
    rw [t0] at k0
    obtain ⟨o1, k1⟩ := hone_of hone 1 f1 rfl
    rw [t1] at k1
    obtain ⟨o2, k2⟩ := hone_of hone 2 f2 rfl
    rw [t2] at k2
    obtain ⟨o3, k3⟩ := hone_of hone 3 f3 rfl
    rw [t3] at k3
    obtain ⟨o4, k4⟩ := hone_of hone 4 f4 rfl
    rw [t4] at k4
    obtain ⟨o5, k5⟩ := hone_of hone 5 f5 rfl
    rw [t5] at k5
    obtain ⟨o6, k6⟩ := hone_of hone 6 f6 rfl
    rw [t6] at k6
    obtain ⟨o7, k7⟩ := hone_of hone 7 f7 rfl
    rw [t7] at k7
    match xs, hlen with
    | [y0, y1, y2, y3, y4, y5, y6, y7], _ =>
      obtain ⟨o, da, ma, dc, mc, rfl, rfl, rfl, rfl, rfl, rfl, rfl, rfl, hin⟩ := op_of_fields (n := n) (w := w) (enc := enc) (by simpa [Value.cells, o0, k0, t0] using hg 0 f0 rfl) (by simpa [Value.cells, o1, k1, t1] using hg 1 f1 rfl) (by simpa [Value.cells, o2, k2, t2] using hg 2 f2 rfl) (by simpa [Value.cells, o3, k3, t3] using hg 3 f3 rfl) (by simpa [Value.cells, o4, k4, t4] using hg 4 f4 rfl) (by simpa [Value.cells, o5, k5, t5] using hg 5 f5 rfl) (by simpa [Value.cells, o6, k6, t6] using hg 6 f6 rfl) (by simpa [Value.cells, o7, k7, t7] using hg 7 f7 rfl)
      exact ⟨o, da, ma, dc, mc, rfl, hin⟩
end
end Go.Proofs.Ytljbehndnledpaa
