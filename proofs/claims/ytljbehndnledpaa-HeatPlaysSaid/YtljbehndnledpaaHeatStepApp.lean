/- An append of counts in a region that draws its order; a row of counts resliced. Conditions: those of each theorem. -/
import Derived.Test.YtljbehndnledpaaHeatTop
import Derived.Test.YtljbehndnledpaaStepApp
namespace Go.Proofs.Ytljbehndnledpaa
open Go.RowKit

/-- Counts appended out of a slice that reads, nil or not. -/
theorem OwnH.appA {w : World} {B : Nat} {v : Value} {l : List Hs} (h : OwnH w B v l) {a : Option Addr} {m : Nat} (c : Nat) {l2 : List Hs} (hs : HRow w a m l2) (hl : l.length + m ≤ 1000000000) (hB : B ≤ w.heap.size) :
    ∃ v' w', (Builtin.append_ #[104, 104] 104 #[v, .slice a m c]).run Try.prog w = .ok v' w' ∧ OwnH w' B v' (l ++ l2) ∧ w.grownBy w' v.ownBlock := by
  by_cases h0 : 0 < m
  · obtain ⟨b, o, rfl, _⟩ := hs.2 0 (l2[0]'(by rw [hs.1]; exact h0)) (List.getElem?_eq_getElem (by rw [hs.1]; exact h0))
    exact h.app c hs hl hB
  · have hm : m = 0 := by omega
    subst hm
    have : l2 = [] := List.eq_nil_of_length_eq_zero hs.1
    subst this
    rw [List.append_nil]
    obtain ⟨i0, hi, hz0, hz1, hz2⟩ := info_parts info111
    cases a with
    | none =>
      refine ⟨v, w, ?_, h, ⟨rfl, rfl, rfl, Nat.le_refl _, fun _ _ _ => rfl⟩⟩
      rcases h.2 with ⟨rfl, h0⟩ | ⟨g, cap, cur, rfl, _, _, hnc, _⟩
      · simp [Builtin.append_, run_underlying Try.underlying104, sizeOf, typeInfo, hi, Builtin.lenOf, Builtin.firstCells]
      · simp [Builtin.append_, run_underlying Try.underlying104, sizeOf, typeInfo, hi, Builtin.lenOf, Builtin.firstCells, hnc, storeCells]
    | some ad =>
      obtain ⟨v', w', hr, ho, hg, _⟩ := run_append_own (P := Try.prog) w B 104 104 111 i0 (.agg #[.int .i64 0, .int .i64 0, .int .i64 0]) 3 24 Try.underlying104 hi hz0 hz1 hz2 rfl (by decide) v l.length (hsCells l) h ad 0 c [] rfl (fun j u hu => by simp at hu) (fun u hu => by simp at hu) (by unfold maxLen; omega) (by omega) hB
      exact ⟨v', w', hr, by simpa [OwnH] using ho, hg⟩

/-- The step in a region that draws. -/
theorem step_appH {w : World} {ops : Array Oper} {o : Oper} {a : Act} {K : Act → World → Prop} {Q : Exit → Act → World → Prop} {E : Prop} (hw : Region.wanted o (yielded ops a.tmps) = true) (s x : Operand)
    (ho : o.op = .call { callee := .builtin .append, args := #[s, x], argTypes := #[104, 104] }) (hty : o.type = 104) {B : Nat} {v : Value} {l : List Hs} {ad : Option Addr} {m c : Nat} {l2 : List Hs} (hs : a.eval s = v) (hx : a.eval x = .slice ad m c)
    (h : OwnH w B v l) (hr : HRow w ad m l2) (hl : l.length + m ≤ 1000000000) (hB : B ≤ w.heap.size) (hk : ∀ v' w', OwnH w' B v' (l ++ l2) → w.grownBy w' v.ownBlock → K (a.put o.dst v') w') : if Region.wanted o (yielded ops a.tmps) = true then Oper.wp Try.prog o a w K Q else E := by
  obtain ⟨v', w', hap, ho', hg⟩ := h.appA c hr hl hB
  refine step_append_run hw s x 104 ho (by rw [hs, hx, hty]; exact hap) (hk v' w' ho' hg)

theorem HRow.drop {w : World} {b o n : Nat} {l : List Hs} (h : HRow w (some ⟨b, o, none⟩) n l) (j : Nat) : HRow w (some ⟨b, o + j * 3, none⟩) (n - j) (l.drop j) := by
  refine ⟨by rw [List.length_drop, h.1], fun i r hr => ?_⟩
  rw [List.getElem?_drop] at hr
  obtain ⟨b', o', he, h1, h2, h3⟩ := h.2 (j + i) r hr
  simp only [Option.some.injEq, Addr.mk.injEq, and_true] at he
  obtain ⟨rfl, rfl⟩ := he
  refine ⟨b, o + j * 3, rfl, ?_, ?_, ?_⟩
  · rw [show o + j * 3 + i * 3 = o + (j + i) * 3 by omega]; exact h1
  · rw [show o + j * 3 + i * 3 + 1 = o + (j + i) * 3 + 1 by omega]; exact h2
  · rw [show o + j * 3 + i * 3 + 2 = o + (j + i) * 3 + 2 by omega]; exact h3
theorem HRow.nil (w : World) (a : Option Addr) : HRow w a 0 [] := ⟨rfl, fun i r h => by simp at h⟩
theorem HRow.one (w : World) (p : Hs) : HRow (w.alloc (.cells #[.int .i64 p.1.1, .int .i64 p.1.2, .int .i64 p.2] 111)) (some ⟨w.heap.size, 0, none⟩) 1 [p] := by
  refine ⟨rfl, fun i r h => ?_⟩
  have hi : i < 1 := by simpa using (List.getElem?_eq_some_iff.1 h).1
  have : i = 0 := by omega
  subst this
  simp at h
  subst h
  exact ⟨w.heap.size, 0, rfl, cell_laid w _ _ 0, cell_laid w _ _ 1, cell_laid w _ _ 2⟩
/-- A row of another block than the one that was grown. -/
theorem HRow.apart {w w' : World} {b o n : Nat} {l : List Hs} {ob : Option Nat} (h : HRow w (some ⟨b, o, none⟩) n l) (hg : w.grownBy w' ob) (hb : ob ≠ some b) : HRow w' (some ⟨b, o, none⟩) n l := by
  refine ⟨h.1, fun i r hr => ?_⟩
  obtain ⟨b', o', he, h1, h2, h3⟩ := h.2 i r hr
  have hlt := World.block_lt_of_cell? _ _ h1
  simp only [Option.some.injEq, Addr.mk.injEq, and_true] at he
  obtain ⟨rfl, rfl⟩ := he
  simp only at hlt
  have e : ∀ j, w'.cell? ⟨b, j, none⟩ = w.cell? ⟨b, j, none⟩ := fun j => by
    simp only [World.cell?]
    rw [hg.block b hlt (fun e => hb e.symm)]
  exact ⟨b, o, rfl, (e _).trans h1, (e _).trans h2, (e _).trans h3⟩
theorem OwnH.made (w : World) : OwnH (w.alloc (.cells #[] 111)) w.heap.size (.slice (some ⟨w.heap.size, 0, none⟩) 0 0) [] := World.ownsRow_made w #[] 0 (Nat.le_refl _) (Nat.zero_le _) (by simp)
theorem Below.drewT {B : Nat} {w0 w : World} (h : Below B w0 w) : Below B w0 w.drew := ⟨h.os, h.tape, h.output, h.size, h.block⟩

/-- A row of counts in the making. -/
structure MidH (wx W : World) (v : Value) (l : List Hs) : Prop where
  own : OwnH W wx.heap.size v l
  below : Below wx.heap.size wx W
theorem MidH.alloc {wx W : World} {v : Value} {l : List Hs} (h : MidH wx W v l) (o : Obj) : MidH wx (W.alloc o) v l := ⟨h.own.stays ((Below.refl _ _).alloc (Nat.le_refl _) o) (Nat.le_refl _), h.below.alloc h.below.size o⟩
theorem MidH.drew {wx W : World} {v : Value} {l : List Hs} (h : MidH wx W v l) : MidH wx W.drew v l := ⟨h.own, Below.drewT h.below⟩
theorem MidH.made {wx W : World} (h : Below wx.heap.size wx W) : MidH wx (W.alloc (.cells #[] 111)) (.slice (some ⟨W.heap.size, 0, none⟩) 0 0) [] := ⟨owns_lower (OwnH.made W) h.size, h.alloc h.size _⟩
theorem step_mid {wx w : World} {ops : Array Oper} {o : Oper} {a : Act} {K : Act → World → Prop} {Q : Exit → Act → World → Prop} {E : Prop} (hw : Region.wanted o (yielded ops a.tmps) = true) (s x : Operand)
    (ho : o.op = .call { callee := .builtin .append, args := #[s, x], argTypes := #[104, 104] }) (hty : o.type = 104) {v : Value} {l : List Hs} {ad : Option Addr} {m c : Nat} {l2 : List Hs} (hs : a.eval s = v) (hx : a.eval x = .slice ad m c)
    (h : MidH wx w v l) (hr : HRow w ad m l2) (hl : l.length + m ≤ 1000000000) (hk : ∀ v' w', MidH wx w' v' (l ++ l2) → w.grownBy w' v.ownBlock → K (a.put o.dst v') w') : if Region.wanted o (yielded ops a.tmps) = true then Oper.wp Try.prog o a w K Q else E :=
  step_appH hw s x ho hty hs hx h.own hr hl h.below.size fun v' w' ho' hg => hk v' w' ⟨ho', Below.own h.below h.own hg (Nat.le_refl _) h.below.size⟩ hg
end Go.Proofs.Ytljbehndnledpaa
