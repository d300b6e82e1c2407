/- The walk of ledger.Pages. Conditions: those of each theorem. -/
import Derived.Test.YtljbehndnledpaaLedgerRoom
namespace Go.Proofs.Ytljbehndnledpaa
open Go.RowKit

/-- Bytes in pieces of 120. -/
def pagesR : Nat → List UInt8 → List (List UInt8)
  | 0, l => [l]
  | f + 1, l => if 120 < l.length then l.take 120 :: pagesR f (l.drop 120) else [l]
theorem pagesR_end (f : Nat) (l : List UInt8) (h : l.length ≤ 120) : pagesR f l = [l] := by
  cases f with
  | zero => rfl
  | succ f => simp [pagesR]; omega
theorem pagesR_pos (f : Nat) (l : List UInt8) : 0 < (pagesR f l).length := by
  cases f with
  | zero => simp [pagesR]
  | succ f => unfold pagesR; split <;> simp
theorem pagesR_flat (f : Nat) (l : List UInt8) : (pagesR f l).flatten = l := by
  induction f generalizing l with
  | zero => simp [pagesR]
  | succ f ih =>
    unfold pagesR
    split
    · rw [List.flatten_cons, ih, List.take_append_drop]
    · simp
theorem pagesR_len (f : Nat) (l : List UInt8) : (pagesR f l).length ≤ f + 1 := by
  induction f generalizing l with
  | zero => simp [pagesR]
  | succ f ih =>
    unfold pagesR
    split
    · have := ih (l.drop 120); simp; omega
    · simp
/-- A page that is none of the last is whole; none is longer; where there are more, none is empty. -/
theorem pagesR_at (f : Nat) (l : List UInt8) (h : l.length ≤ f) (i : Nat) (x : List UInt8) (hx : (pagesR f l)[i]? = some x) :
    (i + 1 < (pagesR f l).length → x.length = 120) ∧ x.length ≤ 120 ∧ (1 < (pagesR f l).length → 0 < x.length) := by
  induction f generalizing l i with
  | zero =>
    have : l = [] := List.eq_nil_of_length_eq_zero (by omega)
    subst this
    have hi : i = 0 := by have := (List.getElem?_eq_some_iff.1 hx).1; simp [pagesR] at this; exact this
    subst hi
    simp [pagesR] at hx ⊢
    subst hx
    simp
  | succ f ih =>
    by_cases h120 : 120 < l.length
    · have e : pagesR (f + 1) l = l.take 120 :: pagesR f (l.drop 120) := by simp [pagesR, h120]
      rw [e] at hx ⊢
      cases i with
      | zero =>
        simp only [List.getElem?_cons_zero, Option.some.injEq] at hx
        subst hx
        simp
        omega
      | succ i =>
        simp only [List.getElem?_cons_succ] at hx
        obtain ⟨q1, q2, q3⟩ := ih (l.drop 120) (by simp; omega) i hx
        refine ⟨fun hi => q1 (by simpa using hi), q2, fun _ => ?_⟩
        by_cases h1 : 1 < (pagesR f (l.drop 120)).length
        · exact q3 h1
        · have hd : (l.drop 120).length ≤ 120 := by
            cases f with
            | zero => simp; omega
            | succ f =>
              by_cases hc : 120 < (l.drop 120).length
              · exfalso
                have := pagesR_pos f ((l.drop 120).drop 120)
                rw [show pagesR (f + 1) (l.drop 120) = (l.drop 120).take 120 :: pagesR f ((l.drop 120).drop 120) by simp only [pagesR, if_pos hc], List.length_cons] at h1
                omega
              · omega
          rw [pagesR_end _ _ hd] at hx
          have hi : i = 0 := by have := (List.getElem?_eq_some_iff.1 hx).1; simp at this; exact this
          subst hi
          simp at hx
          subst hx
          simp; omega
    · have e := pagesR_end (f + 1) l (by omega)
      rw [e] at hx ⊢
      have hi : i = 0 := by have := (List.getElem?_eq_some_iff.1 hx).1; simp at this; exact this
      subst hi
      simp at hx ⊢
      subst hx
      omega

theorem info37q : (Try.prog.info? 37).map (fun i => (i.zero, i.size, i.bytes)) = some (some (.slice none 0 0), 1, 24) := by kernel_rfl
/-- A block of bytes. -/
def IsB (w : World) (g : Nat) : Prop := ∃ arr, w.heap[g]? = some (.cells arr 5 (0, 0))
/-- A slice of bytes in a block of bytes. -/
def Part (w : World) (v : Value) (x : List UInt8) : Prop := ∃ a c, v = .slice a x.length c ∧ Bs w a x.length x ∧ x.length ≤ c ∧ (0 < x.length → ∃ g o, a = some ⟨g, o, none⟩ ∧ IsB w g)
theorem Part.same {w w' : World} {v : Value} {x : List UInt8} (h : Part w v x) (hk : ∀ g, IsB w g → w'.heap[g]? = w.heap[g]?) : Part w' v x := by
  obtain ⟨a, c, rfl, hb, hc, ha⟩ := h
  by_cases h0 : 0 < x.length
  · obtain ⟨g, o, rfl, hg⟩ := ha h0
    have e := hk g hg
    refine ⟨_, c, rfl, ?_, hc, fun _ => ⟨g, o, rfl, ?_⟩⟩
    · refine Is.mk' (by simp) fun i hi => ?_
      obtain ⟨b', o', ch, ha, hc, hcell, _⟩ := Bs.cell hb i hi
      cases ha
      simp only [World.cell?, e]
      simp only [World.cell?] at hcell
      rw [hcell]
      simp [List.getD, hc]
    · obtain ⟨arr, hg⟩ := hg
      exact ⟨arr, e.trans hg⟩
  · have : x = [] := List.eq_nil_of_length_eq_zero (by omega)
    subst this
    exact ⟨a, c, rfl, Bs.none' a, hc, fun h => by simp at h⟩
theorem IsB.lt {w : World} {g : Nat} (h : IsB w g) : g < w.heap.size := by
  obtain ⟨arr, h⟩ := h
  exact (Array.getElem?_eq_some_iff.1 h).1
theorem Part.below {w w' : World} {C : Nat} {v : Value} {x : List UInt8} (h : Part w v x) (hb : Below C w w') (hC : w.heap.size ≤ C) : Part w' v x :=
  h.same fun g hg => hb.block g (by have := hg.lt; omega)
theorem Part.grown {w w' : World} {v rv : Value} {x : List UInt8} {B n : Nat} {vs : List Value} (h : Part w v x) (hr : w.ownsRow B 37 1 rv n vs) (hg : w.grownBy w' rv.ownBlock) : Part w' v x :=
  h.same fun g hb => hg.block g hb.lt fun e => by
    rcases hr.2 with ⟨rfl, _⟩ | ⟨g', cap, cur, rfl, _, hh, _⟩
    · simp [Value.ownBlock] at e
    · simp only [Value.ownBlock, Option.some.injEq] at e
      subst e
      obtain ⟨arr, hb⟩ := hb
      rw [hb] at hh
      cases hh
/-- A slice of the call's own, of slices of bytes. -/
def OwnPages (w : World) (B : Nat) (v : Value) (L : List (List UInt8)) : Prop := ∃ vs : List Value, w.ownsRow B 37 1 v L.length vs ∧ ∀ (i : Nat) (x : List UInt8), L[i]? = some x → ∃ u, vs[i]? = some u ∧ Part w u x
theorem OwnPages.stays {w w' : World} {B C : Nat} {v : Value} {L : List (List UInt8)} (h : OwnPages w B v L) (hb : Below C w w') (hC : w.heap.size ≤ C) : OwnPages w' B v L := by
  obtain ⟨vs, h1, h2⟩ := h
  refine ⟨vs, owns_below h1 hb hC, fun i x hx => ?_⟩
  obtain ⟨u, hu, hp⟩ := h2 i x hx
  exact ⟨u, hu, hp.below hb hC⟩
theorem OwnPages.push {w : World} {B : Nat} {v u : Value} {L : List (List UInt8)} {x : List UInt8} (h : OwnPages w B v L) (hu : Part w u x) (hl : L.length ≤ 1000000) (hB : B ≤ w.heap.size) :
    ∃ v' w', (Builtin.append_ #[65, 65] 65 #[v, .slice (some ⟨w.heap.size, 0, none⟩) 1 1]).run Try.prog (w.alloc (.cells #[u] 37)) = .ok v' w' ∧ OwnPages w' B v' (L ++ [x]) ∧ w.grownBy w' v.ownBlock := by
  obtain ⟨i0, hi, hz0, hz1, hz2⟩ := info_parts info37q
  obtain ⟨vs, h1, h2⟩ := h
  have hone : u.oneCell' = true := by obtain ⟨a, c, rfl, _⟩ := hu; rfl
  obtain ⟨v', w', hr, hown, hg, _⟩ := app_new (P := Try.prog) Try.underlying65 hi hz0 hz1 hz2 rfl (by decide) h1 1 [u] rfl (by simpa using hone) (by unfold maxLen; omega) (by omega) hB
  have hvl : vs.length = L.length := by have := h1.1; simpa using this
  refine ⟨v', w', hr, ⟨vs ++ [u], by rw [List.length_append]; exact hown, fun i y hy => ?_⟩, hg⟩
  by_cases hi : i < L.length
  · rw [List.getElem?_append_left hi] at hy
    obtain ⟨q, hq, hp⟩ := h2 i y hy
    exact ⟨q, by rw [List.getElem?_append_left (by omega)]; exact hq, hp.grown h1 hg⟩
  · have hlt := (List.getElem?_eq_some_iff.1 hy).1
    simp at hlt
    obtain rfl : i = L.length := by omega
    simp at hy
    subst hy
    exact ⟨u, by rw [← hvl]; simp, hu.grown h1 hg⟩
theorem part_own {w : World} {B n : Nat} {v : Value} {x : List UInt8} (h : w.ownsRow B 5 1 v n (cellsOfB x)) (hn : n = x.length) : Part w v x := by
  subst hn
  obtain ⟨a, cap, rfl, hs, hc⟩ := own_sl h
  obtain ⟨a', cap', e, hb, _⟩ := own_bs h
  cases e
  refine ⟨a, cap, rfl, hb, hc, fun h0 => ?_⟩
  rcases h.2 with ⟨_, hz⟩ | ⟨g, cap', cur, he, _, hh, _⟩
  · omega
  · cases he
    exact ⟨g, 0, rfl, cur, hh⟩
end Go.Proofs.Ytljbehndnledpaa
