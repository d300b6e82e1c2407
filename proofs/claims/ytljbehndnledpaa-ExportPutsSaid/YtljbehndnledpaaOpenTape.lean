/- A tape that came in, opened. Conditions: those of each theorem. -/
import Derived.Test.YtljbehndnledpaaOpen
import Derived.Test.YtljbehndnledpaaHexLaw
namespace Go.Proofs.Ytljbehndnledpaa
open Go.RowKit Go.WideShapes Go.ChangeShapes

theorem under56 : ∃ f0 f1 : Field, Try.prog.underlying 56 = some (.struct #[f0, f1]) ∧ f0.offset = 0 ∧ f1.offset = 1 ∧ f0.type = 3 ∧ f1.type = 37 := ⟨_, _, Try.underlying56, rfl, rfl, rfl, rfl⟩

theorem cells56 : Try.prog.cellsOf 56 = 2 := by kernel_rfl
theorem cells3 : Try.prog.cellsOf 3 = 1 := by kernel_rfl
theorem cells37 : Try.prog.cellsOf 37 = 1 := by kernel_rfl

set_option maxRecDepth 100000 in
theorem tape_of_trod {H : Type} {enc : TypeId × Value → H} {w : World} {base : Nat} {r : _} {v : Value} {d : DataW H} {p : List MemPlace} (hv : Value.okWide Try.prog w r base 56 v) (h : DataW.Trod enc Try.prog w 0 (fun _ => true) true 56 v d p) :
    ∃ z a n cap l, v = .agg #[.int .i64 z, .slice a n cap] ∧ Bs w a n l ∧ n ≤ cap := by
  obtain ⟨f0, f1, hu, o0, o1, t0, t1⟩ := under56
  obtain ⟨cs, rfl, hcs⟩ := okWide_struct hu hv
  obtain ⟨fuel, hf⟩ := h
  obtain ⟨y0, y1, m, _, hl, h0, h1⟩ := trod_struct2 hu hf
  rw [cells56] at hcs
  rw [o0, t0, cells3] at h0
  rw [o1, t1, cells37] at h1
  obtain ⟨lcs⟩ := cs
  simp at hcs
  match lcs, hcs with
  | [x0, x1], _ =>
    simp [Value.cells] at h0 h1
    obtain ⟨z, e0, _, wf0⟩ := DataW.trod_int Try.underlying3 h0
    simp only [List.cons.injEq, and_true] at e0
    subst e0
    rcases open_ints Try.underlying37 Try.underlying5 (by kernel_rfl) h1 with ⟨hcs, _⟩ | ⟨x, l, c, zs, hcs, _, hlc, hm, hz, _, hcell, hwz⟩
    · simp only [List.cons.injEq, and_true] at hcs
      subst hcs
      exact ⟨z, none, 0, 0, [], rfl, Bs_none, Nat.le_refl _⟩
    · simp only [List.cons.injEq, and_true] at hcs
      subst hcs
      have hrow : IsRow .u8 w (some x) l c zs := .inr ⟨_, rfl, hlc, hm, by simpa using hz, hcell, hwz⟩
      obtain ⟨bs, hb⟩ := bs_of_row hrow
      exact ⟨z, some x, l, c, bs, rfl, hb, hlc⟩
  where Bs_none {w : World} : Bs w none 0 [] := ⟨rfl, fun i x hx => by simp at hx⟩
end Go.Proofs.Ytljbehndnledpaa
