/- An event and times that came in, opened. Conditions: those of each theorem. -/
import Derived.Deep.SlicePairs
import Derived.ProofKit
import Derived.Lib.SmallJoins
import Derived.Test.YtljbehndnledpaaCursorTimes
namespace Go.Proofs.Ytljbehndnledpaa
open Go.RowKit Go.WideShapes Go.ChangeShapes Go.Joins Go.Deep

theorem under227 : ∃ f0 f1 : Field, Try.prog.underlying 227 = some (.struct #[f0, f1]) ∧ f0.offset = 0 ∧ f1.offset = 1 ∧ f0.type = 23 ∧ f1.type = 23 := ⟨_, _, Try.underlying227, rfl, rfl, rfl, rfl⟩
theorem under142 : ∃ f0 f1 : Field, Try.prog.underlying 142 = some (.struct #[f0, f1]) ∧ f0.offset = 0 ∧ f1.offset = 1 ∧ f0.type = 23 ∧ f1.type = 78 := ⟨_, _, Try.underlying142, rfl, rfl, rfl, rfl⟩
theorem cells142 : Try.prog.cellsOf 142 = 2 := by kernel_rfl
theorem cells23 : Try.prog.cellsOf 23 = 1 := by kernel_rfl
theorem cells78 : Try.prog.cellsOf 78 = 1 := by kernel_rfl

set_option maxRecDepth 100000 in
/-- Times that came in. -/
theorem marks_of_trod {H : Type} {enc : TypeId × Value → H} {w : World} {a : Option Addr} {n cap : Nat} {d : DataW H} {p : List MemPlace} (h : DataW.Trod enc Try.prog w 0 (fun _ => true) true 143 (.slice a n cap) d p) :
    ∃ l, Marks w a n l ∧ (∀ r ∈ l, 0 ≤ r.2 ∧ r.2 < 18446744073709551616) ∧ n ≤ 9223372036854775807 := by
  obtain ⟨fuel, hf⟩ := h
  obtain ⟨f0, f1, hu, o0, o1, t0, t1⟩ := under227
  rcases Go.Deep.open_slice_pairs Try.underlying143 hu (by kernel_rfl) o0 o1 (by rw [t0]; kernel_rfl) (by rw [t1]; kernel_rfl) hf with ⟨hcs, _⟩ | ⟨x, len, cap', m, k, V0, V1, D0, D1, P0, P1, hcs, _, hl, hm, hmm, _, hx⟩
  · simp [Value.cells] at hcs
    obtain ⟨rfl, rfl, rfl⟩ := hcs
    exact ⟨[], ⟨rfl, fun i x hx => by simp at hx⟩, fun x hx => by simp at hx, by omega⟩
  · simp [Value.cells] at hcs
    obtain ⟨rfl, rfl, rfl⟩ := hcs
    simp only [if_true] at hmm
    have hv : ∀ i, i < n → ∃ q : Int × Int, w.cell? (x.add (i * 2)) = some (.int .u64 q.1) ∧ w.cell? (x.add (i * 2 + 1)) = some (.int .u64 q.2) ∧ 0 ≤ q.2 ∧ q.2 < 18446744073709551616 := by
      intro i hi
      obtain ⟨h1, h2, h3, h4⟩ := hx i (by omega)
      rw [t0] at h3
      rw [t1] at h4
      obtain ⟨z0, e0, _, wf0⟩ := DataW.trod_int Try.underlying23 h3
      obtain ⟨z1, e1, _, wf1⟩ := DataW.trod_int Try.underlying23 h4
      simp only [List.cons.injEq, and_true] at e0 e1
      rw [e0] at h1
      rw [e1] at h2
      simp [Lit.wf, IntKind.min, IntKind.max, IntKind.signed, IntKind.bits] at wf0 wf1
      exact ⟨(z0, z1), h1, h2, by simp only; omega, by simp only; omega⟩
    obtain ⟨l, hll, hlx⟩ := list_of hv
    refine ⟨l, ⟨hll, fun i y hy => ?_⟩, fun y hy => ?_, by unfold maxLen at hm; omega⟩
    · obtain ⟨h1, h2, _⟩ := hlx i y hy
      have hlt : i < n := by have := (List.getElem?_eq_some_iff.1 hy).1; omega
      obtain ⟨y0, hy0⟩ : ∃ y0, l[0]? = some y0 := ⟨_, List.getElem?_eq_getElem (by omega)⟩
      obtain ⟨b, o, hb⟩ := addr_plain (hlx 0 y0 hy0).1
      refine ⟨b, o, by rw [hb], ?_, ?_⟩
      · rw [← h1, hb, add_plain]
      · rw [← h2, hb, add_plain, Nat.add_assoc]
    · obtain ⟨i, hi, rfl⟩ := List.mem_iff_getElem.1 hy
      obtain ⟨_, _, h3, h4⟩ := hlx i _ (List.getElem?_eq_getElem hi)
      exact ⟨h3, h4⟩

set_option maxRecDepth 100000 in
/-- An event that came in. -/
theorem event_of_trod {H : Type} {enc : TypeId × Value → H} {w : World} {base : Nat} {r : _} {v : Value} {d : DataW H} {p : List MemPlace} (hv : Value.okWide Try.prog w r base 142 v) (h : DataW.Trod enc Try.prog w 0 (fun _ => true) true 142 v d p) :
    ∃ (z : Nat) (a : Option Addr) (n cap : Nat) (l : List Int), v = .agg #[.int .u64 (z : Int), .slice a n cap] ∧ Is .i64 w a n l ∧ z < 18446744073709551616 := by
  obtain ⟨f0, f1, hu, o0, o1, t0, t1⟩ := under142
  obtain ⟨cs, rfl, hcs⟩ := okWide_struct hu hv
  obtain ⟨fuel, hf⟩ := h
  obtain ⟨y0, y1, m, _, hl, h0, h1⟩ := trod_struct2 hu hf
  rw [cells142] at hcs
  rw [o0, t0, cells23] at h0
  rw [o1, t1, cells78] at h1
  obtain ⟨lcs⟩ := cs
  simp at hcs
  match lcs, hcs with
  | [x0, x1], _ =>
    simp [Value.cells] at h0 h1
    obtain ⟨z, e0, _, wf0⟩ := DataW.trod_int Try.underlying23 h0
    simp only [List.cons.injEq, and_true] at e0
    subst e0
    simp [Lit.wf, IntKind.min, IntKind.max, IntKind.signed, IntKind.bits] at wf0
    obtain ⟨zn, rfl⟩ : ∃ zn : Nat, z = zn := ⟨z.toNat, by omega⟩
    rcases open_ints Try.underlying78 Try.underlying3 (by kernel_rfl) h1 with ⟨hcs, _⟩ | ⟨x, l, c, zs, hcs, _, hlc, hm, hz, _, hcell, hwz⟩
    · simp only [List.cons.injEq, and_true] at hcs
      subst hcs
      exact ⟨zn, none, 0, 0, [], rfl, ⟨rfl, fun i x hx => by simp at hx⟩, by omega⟩
    · simp only [List.cons.injEq, and_true] at hcs
      subst hcs
      have hrow : IsRow .i64 w (some x) l c zs := .inr ⟨_, rfl, hlc, hm, by simpa using hz, hcell, hwz⟩
      exact ⟨zn, some x, l, c, zs.take l, rfl, hrow.is, by omega⟩
end Go.Proofs.Ytljbehndnledpaa
