/- The walk of yesteryearlaw57.add. Conditions: those of each theorem. -/
import Derived.Test.YtljbehndnledpaaHeatEq
import Derived.Test.YtljbehndnledpaaExtent
namespace Go.Proofs.Ytljbehndnledpaa
open Go.RowKit

theorem hsCells_set (l : List Hs) (j : Nat) (p : Hs) (v : Int) (h : l[j]? = some p) : (hsCells l).set (j * 3 + 2) (.int .i64 v) = hsCells (l.set j (p.1, v)) := by
  induction l generalizing j with
  | nil => simp at h
  | cons x l ih =>
    cases j with
    | zero => simp at h; subst h; rfl
    | succ j =>
      simp only [List.getElem?_cons_succ] at h
      rw [List.set_cons_succ, hsCells_cons, hsCells_cons, ← ih j h, show (j + 1) * 3 + 2 = (j * 3 + 2) + 3 by omega]
      rfl

set_option maxRecDepth 100000 in
set_option maxHeartbeats 4000000 in
theorem lawAdd_any {B : Nat} (v : Value) (l : List Hs) (s1 s2 : Int) (w : World) (h : OwnH w B v l) (hn : l.length ≤ 100000) (hnd : (l.map (·.1)).Nodup) (h0 : ∀ p ∈ l, 0 ≤ p.2 ∧ p.2 ≤ 1000000000000) :
    Calls Try.prog 65 #[v, .agg #[.int .i64 s1, .int .i64 s2]] w fun e w' => ∃ v', e = .returned v' ∧ OwnH w' w.heap.size v' (setS l (s1, s2) (cntS l (s1, s2) + 1)) ∧ Below w.heap.size w w' := by
  have hb0 : Below w.heap.size w (w.alloc (.cells #[.int .i64 s1, .int .i64 s2] 99)) := (Below.refl _ _).alloc (Nat.le_refl _) _
  have hsz : (w.alloc (.cells #[.int .i64 s1, .int .i64 s2] 99)).heap.size = w.heap.size + 1 := by simp
  have hcl := cloneH_any v l _ (h.stays hb0 (Nat.le_refl _)) (by omega)
  have x0 : (w.alloc (.cells #[.int .i64 s1, .int .i64 s2] 99)).cell? ⟨w.heap.size, 0, none⟩ = some (.int .i64 s1) := by simp
  have x1 : (w.alloc (.cells #[.int .i64 s1, .int .i64 s2] 99)).cell? ⟨w.heap.size, 1, none⟩ = some (.int .i64 s2) := by simp
  have HC := Lib.hid hcl
  clear hcl h
  go_enter Try.func65, Try.ntmps65
  go_wp2_with fail
  refine HC.out.mono ?_
  rintro e w2 ⟨v2, rfl, ho2, hb2⟩
  have hsz2 := hb2.size
  rw [hsz] at hsz2
  have y0 : w2.cell? ⟨w.heap.size, 0, none⟩ = some (.int .i64 s1) := by rw [hb2.cell (p := ⟨w.heap.size, 0, none⟩) (by simp)]; exact x0
  have y1 : w2.cell? ⟨w.heap.size, 1, none⟩ = some (.int .i64 s2) := by rw [hb2.cell (p := ⟨w.heap.size, 1, none⟩) (by simp)]; exact x1
  have hbw2 := hb0.trans (hb2.mono hb0.size)
  clear x0 x1 hb2
  generalize (w.alloc (.cells #[.int .i64 s1, .int .i64 s2] 99)) = wA at *
  obtain ⟨a2, c2, rfl, hr2, hc2⟩ := ho2.row
  have HO2 := Lib.hid ho2
  have HR2 := Lib.hid hr2
  clear ho2 hr2
  go_wp2_with fail
  go_loopw [6] (fun u6 wr => ∃ j : Nat, j ≤ l.length ∧ u6 = .int .i64 j ∧ (∀ p ∈ l.take j, p.1 ≠ (s1, s2)) ∧ Below w2.heap.size w2 wr ∧ wr.heap = w2.heap) (fun u6 _ => l.length - (intOf u6).toNat)
  case atStart => exact ⟨0, by omega, rfl, by simp, Below.refl _ _, rfl⟩
  case round =>
    obtain ⟨j, hj, rfl, hno, hbr, hheap⟩ := hrel
    have z0 : wr.cell? ⟨w.heap.size, 0, none⟩ = some (.int .i64 s1) := by rw [hbr.cell (p := ⟨w.heap.size, 0, none⟩) (by show w.heap.size < w2.heap.size; omega)]; exact y0
    have z1 : wr.cell? ⟨w.heap.size, 1, none⟩ = some (.int .i64 s2) := by rw [hbr.cell (p := ⟨w.heap.size, 1, none⟩) (by show w.heap.size < w2.heap.size; omega)]; exact y1
    by_cases hlt : j < l.length
    · obtain ⟨b, o, p, rfl, hp, hmem, d0, d1, d2⟩ := (HR2.out.below hbr (Nat.le_refl _)).list j hlt
      have hi1 : (j : Int) < (l.length : Int) := by omega
      have d1' := d1
      have d2' := d2
      rw [show o + j * 3 + 1 = o + (j * 3 + 1) by omega] at d1'
      rw [show o + j * 3 + 2 = o + (j * 3 + 2) by omega] at d2'
      obtain ⟨⟨p1, p2⟩, pn⟩ := p
      simp only at d0 d1 d2 d1' d2'
      by_cases he : p1 = s1 ∧ p2 = s2
      · obtain ⟨rfl, rfl⟩ := he
        have hpn := h0 _ hmem
        simp only at hpn
        have w1 : IntKind.i64.wrap (pn + 1) = pn + 1 := IntWalk.i64_in _ (by omega)
        have hown : OwnH wr wA.heap.size (.slice (some ⟨b, o, none⟩) l.length c2) l := HO2.out.stays hbr (Nat.le_refl _)
        obtain ⟨ho0, hbg⟩ : o = 0 ∧ wA.heap.size ≤ b := by
          rcases hown.2 with ⟨h', _⟩ | ⟨g, cap, cur, h', hbg, _⟩
          · cases h'
          · simp only [Value.slice.injEq, Option.some.injEq, Addr.mk.injEq, and_true] at h'
            obtain ⟨⟨rfl, rfl⟩, -⟩ := h'
            exact ⟨rfl, hbg⟩
        subst ho0
        have hfr : wr.frozen? ⟨b, 0 + (j * 3 + 2), none⟩ = false := hown.frozenAt _
        have hfr' : wr.frozen? ⟨b, j * 3 + 2, none⟩ = false := hown.frozenAt _
        have hst := World.ownsRow.stored (show wr.drew.ownsRow wA.heap.size 111 3 (.slice (some ⟨b, 0, none⟩) l.length c2) l.length (hsCells l) from hown) (j * 3 + 2) (.int .i64 (pn + 1))
        rw [hsCells_set l j _ _ hp] at hst
        have hcnt : cntS l (p1, p2) = pn := cntS_at hnd hp
        have hset : setS l (p1, p2) (pn + 1) = l.set j ((p1, p2), pn + 1) := setS_at _ hnd hp
        have hres : setS l (p1, p2) (cntS l (p1, p2) + 1) = l.set j ((p1, p2), pn + 1) := by rw [hcnt, hset]
        have HRS := Lib.hid hres
        have HST := Lib.hid hst.1
        clear hres
        simp only [Nat.zero_add] at d0 d1 d2 d1' d2' hfr
        clear hst hown hcnt hset
        go_wp2_with fail
        go_region
        all_goals
          go_wp2_with fail
          go_ret
          refine ⟨_, rfl, ?_, ?_⟩
          · rw [HRS.out]
            unfold OwnH
            rw [List.length_set]
            exact owns_lower HST.out (by omega)
          · exact Below.setCell (Below.trans hbw2 (Below.mono (show Below w2.heap.size w2 wr.drew from ⟨hbr.os, hbr.tape, hbr.output, hbr.size, hbr.block⟩) (by omega))) (by show w.heap.size ≤ b; omega) _
      · have hh : ¬ p1 = s1 ∨ (p1 = s1 ∧ ¬ p2 = s2) := by
          by_cases h1 : p1 = s1
          · exact .inr ⟨h1, fun h2 => he ⟨h1, h2⟩⟩
          · exact .inl h1
        have hno' : ∀ q ∈ l.take (j + 1), q.1 ≠ (s1, s2) := fun q hq => by
          rw [List.take_add_one, hp] at hq
          rcases List.mem_append.1 hq with hq | hq
          · exact hno q hq
          · simp at hq
            subst hq
            intro e
            exact he ⟨congrArg Prod.fst e, congrArg Prod.snd e⟩
        have HN := Lib.hid hno'
        clear hno' he
        rcases hh with h1 | ⟨h1, h2⟩
        · go_wp2_with fail
          go_region
          all_goals
            go_wp2_with fail
            go_roundw
            case rel => exact ⟨j + 1, by omega, by go_num, HN.out, ⟨hbr.os, hbr.tape, hbr.output, hbr.size, hbr.block⟩, hheap⟩
            case measure => simp [intOf]; omega
        · subst h1
          go_wp2_with fail
          go_region
          all_goals
            go_wp2_with fail
            go_roundw
            case rel => exact ⟨j + 1, by omega, by go_num, HN.out, ⟨hbr.os, hbr.tape, hbr.output, hbr.size, hbr.block⟩, hheap⟩
            case measure => simp [intOf]; omega
    · obtain rfl : j = l.length := by omega
      rw [List.take_of_length_le (Nat.le_refl _)] at hno
      have hres : setS l (s1, s2) (cntS l (s1, s2) + 1) = l ++ [((s1, s2), 1)] := by rw [cntS_none hno, setS_none _ hno]; rfl
      have HRS := Lib.hid hres
      have hown : OwnH wr wA.heap.size (.slice a2 l.length c2) l := HO2.out.stays hbr (Nat.le_refl _)
      have hwA : wA.heap.size ≤ wr.heap.size := by have := hbr.size; omega
      obtain ⟨v', w', hap, ho', hg⟩ := hown.push ((s1, s2), 1) (by omega) hwA
      simp only at hap
      have hbw' : Below w.heap.size w w' := Below.own (Below.trans hbw2 (Below.mono hbr (by omega))) hown hg (by omega) (by omega)
      have hend : OwnH w' w.heap.size v' (setS l (s1, s2) (cntS l (s1, s2) + 1)) := by
        rw [HRS.out]
        exact owns_lower ho' (by omega)
      have HO := Lib.hid hend
      clear hres hno hown ho' hg hend HRS HO2 HR2 hheap
      go_wp2_with (at_builtin; refine wpList_append_run rfl _ _ _ rfl hap ?_)
      go_ret
      exact ⟨v', rfl, HO.out, hbw'⟩
end Go.Proofs.Ytljbehndnledpaa
