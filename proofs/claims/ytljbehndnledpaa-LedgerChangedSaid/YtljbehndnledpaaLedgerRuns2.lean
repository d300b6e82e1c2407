/- The walks of yesteryearlaw63.runs and of slices.Equal at runs. Conditions: those of each theorem. -/
import Derived.Test.YtljbehndnledpaaLedgerRuns
namespace Go.Proofs.Ytljbehndnledpaa
open Go.RowKit

theorem OwnRuns.last {w : World} {B : Nat} {v : Value} {l : List (Int × Int)} {r1 r2 : Int} (h : OwnRuns w B v (l ++ [(r1, r2)])) : ∃ g cap, v = .slice (some ⟨g, 0, none⟩) (l.length + 1) cap ∧ B ≤ g ∧
    w.cell? ⟨g, l.length * 2 + 1, none⟩ = some (.int .i64 r2) ∧ w.frozen? ⟨g, l.length * 2 + 1, none⟩ = false ∧ ∀ y, OwnRuns (w.setCell ⟨g, l.length * 2 + 1, none⟩ (.int .i64 y)) B v (l ++ [(r1, y)]) := by
  have hlen : (l ++ [(r1, r2)]).length = l.length + 1 := by simp
  have hcells := runCells_at (l ++ [(r1, r2)]) l.length (r1, r2) (by simp)
  have h9 := h
  unfold OwnRuns at h9
  rcases h.2 with ⟨-, h0⟩ | ⟨g, cap, cur, rfl, hbg, hg, hnc, hcm, hcs, htake⟩
  · rw [hlen] at h0; omega
  · have k2 := h.cells (g := g) rfl _ _ hcells.2
    rw [hlen] at h9 ⊢
    refine ⟨g, cap, rfl, hbg, ?_, frozen_of_row _ _ _ _ _ hg, fun y => ?_⟩
    · rw [← k2]; congr 1; unfold Addr.add; split <;> simp_all
    · have hst := (h9.stored (l.length * 2 + 1) (.int .i64 y)).1
      rw [runCells_last] at hst
      unfold OwnRuns
      rw [show (l ++ [(r1, y)]).length = l.length + 1 by simp]
      exact hst

set_option maxRecDepth 100000 in
set_option maxHeartbeats 8000000 in
theorem runs_any (g n c : Nat) (f : Nat → Bool) (w : World) (h : Flags w g n f) (hg : 0 < n → g < w.heap.size) (hn : n ≤ 4096) :
    Calls Try.prog 74 #[.slice (some ⟨g, 0, none⟩) n c] w fun e w' => ∃ v, e = .returned v ∧ OwnRuns w' w.heap.size v (runsF f n) ∧ Below w.heap.size w w' := by
  have H := Lib.hid h
  clear h
  go_enter Try.func74, Try.ntmps74
  go_wp2_with fail
  go_loopw [3, 4] (fun u3 u4 wr => ∃ i : Nat, i ≤ n ∧ u4 = .int .i64 i ∧ OwnRuns wr w.heap.size u3 (runsF f i) ∧ Below w.heap.size w wr) (fun _ u4 _ => n - (intOf u4).toNat)
  case atStart => exact ⟨0, by omega, rfl, World.ownsRow_nil _ _ _ _, Below.refl _ _⟩
  case round =>
    obtain ⟨i, hi, rfl, hown, hbw⟩ := hrel
    by_cases hlt : i < n
    · obtain ⟨hc0, -⟩ := H.out i hlt
      have hcw : wr.cell? ⟨g, i, none⟩ = some (.bool (f i)) := by rw [hbw.cell (hg (by omega))]; exact hc0
      obtain ⟨-, -, h3, h4, h5⟩ := runs_inv f i (by omega)
      have hs := runsF_succ f i
      have hi0 : (0 : Int) ≤ (i : Int) := by omega
      have hi1 : (i : Int) < (n : Int) := by omega
      cases hf : f i with
      | false =>
        have e : runStep f (runsF f i) i = runsF f i := by unfold runStep; rw [if_pos hf]
        rw [e] at hs
        rw [hf] at hcw
        have HS := Lib.hid hs
        have HOW := Lib.hid hown
        clear hs e hc0 h3 h4 h5 hf hown
        go_wp2_with fail
        exact ⟨⟨i + 1, by omega, by go_num, by rw [HS.out]; exact HOW.out, hbw⟩, by simp [intOf]; omega⟩
      | true =>
        rw [hf] at hcw
        by_cases hp : 0 < i ∧ f (i - 1) = true
        · obtain ⟨l, r, hl⟩ := h3 hp
          obtain ⟨hp0, hp1⟩ := hp
          obtain ⟨i', rfl⟩ : ∃ i', i = i' + 1 := ⟨i - 1, by omega⟩
          rw [Nat.add_sub_cancel] at hp1
          obtain ⟨hc1, -⟩ := H.out i' (by omega)
          have hcp : wr.cell? ⟨g, i', none⟩ = some (.bool true) := by rw [hbw.cell (hg (by omega)), hc1, hp1]
          have hr4 := h4 r (by rw [hl]; simp)
          obtain ⟨r1, r2⟩ := r
          simp only at hr4
          have e1 : runStep f (runsF f (i' + 1)) (i' + 1) = l ++ [(r1, r2 + 1)] := by
            unfold runStep
            rw [if_neg (by rw [hf]; simp), if_pos ⟨hp0, by rw [Nat.add_sub_cancel]; exact hp1⟩, hl]
            simp
          rw [e1] at hs
          rw [hl] at hown h5
          obtain ⟨q, cap, rfl, hbq, hcq, hfq, hst⟩ := hown.last
          have hll : l.length ≤ 4096 := by simp at h5; omega
          have s0 : IntKind.i64.wrap (((i' + 1 : Nat) : Int) - 1) = (i' : Int) := by rw [IntWalk.i64_in _ (by omega)]; omega
          have s1 : IntKind.i64.wrap ((l.length : Int) + 1 - 1) = (l.length : Int) := by rw [IntWalk.i64_in _ (by omega)]; omega
          have s3 : (l.length : Int) < (l.length : Int) + 1 := by omega
          have s4 : (0 : Int) ≤ (l.length : Int) := by omega
          have s6 : IntKind.i64.wrap (r2 + 1) = r2 + 1 := IntWalk.i64_in _ (by omega)
          have i0 : (0 : Int) < ((i' + 1 : Nat) : Int) := by omega
          have i1 : (0 : Int) ≤ (i' : Int) := by omega
          have i2 : (i' : Int) < (n : Int) := by omega
          have HS := Lib.hid hs
          have HST := Lib.hid (hst (r2 + 1))
          clear hs e1 hc0 hc1 h3 h4 h5 hf hown hl hst hp1
          go_wp2_with fail
          exact ⟨⟨i' + 1 + 1, by omega, by go_num, by rw [HS.out]; exact HST.out, hbw.setCell (p := ⟨q, l.length * 2 + 1, none⟩) hbq _⟩, by simp [intOf]; omega⟩
        · have e1 : runStep f (runsF f i) i = runsF f i ++ [((i : Int) + 1, 1)] := by
            unfold runStep
            rw [if_neg (by rw [hf]; simp), if_neg hp]
          rw [e1] at hs
          obtain ⟨v', w', hap, hown', hgr⟩ := OwnRuns.push hown ((i : Int) + 1) 1 (by omega) hbw.size
          have hbw' := Below.own hbw hown hgr (Nat.le_refl _) hbw.size
          have HS := Lib.hid hs
          have HO' := Lib.hid hown'
          have s6 : IntKind.i64.wrap ((i : Int) + 1) = (i : Int) + 1 := IntWalk.i64_in _ (by omega)
          by_cases h0 : i = 0
          · subst h0
            clear hs e1 hc0 h3 h4 h5 hf hown hown' hgr hp
            go_wp2_with (at_builtin; refine wpList_append_run rfl _ _ _ rfl hap ?_)
            exact ⟨⟨0 + 1, by omega, by go_num, by rw [HS.out]; exact HO'.out, hbw'⟩, by simp [intOf]; omega⟩
          · obtain ⟨i', rfl⟩ : ∃ i', i = i' + 1 := ⟨i - 1, by omega⟩
            have hfi : f i' = false := by
              cases hq : f i' with
              | false => rfl
              | true => exact absurd ⟨by omega, by rw [Nat.add_sub_cancel]; exact hq⟩ hp
            obtain ⟨hc1, -⟩ := H.out i' (by omega)
            have hcp : wr.cell? ⟨g, i', none⟩ = some (.bool false) := by rw [hbw.cell (hg (by omega)), hc1, hfi]
            have s0 : IntKind.i64.wrap (((i' + 1 : Nat) : Int) - 1) = (i' : Int) := by rw [IntWalk.i64_in _ (by omega)]; omega
            have i0 : (0 : Int) < ((i' + 1 : Nat) : Int) := by omega
            have i1 : (0 : Int) ≤ (i' : Int) := by omega
            have i2 : (i' : Int) < (n : Int) := by omega
            clear hs e1 hc0 hc1 h3 h4 h5 hf hown hown' hgr hp hfi
            go_wp2_with (at_builtin; refine wpList_append_run rfl _ _ _ rfl hap ?_)
            exact ⟨⟨i' + 1 + 1, by omega, by go_num, by rw [HS.out]; exact HO'.out, hbw'⟩, by simp [intOf]; omega⟩
    · obtain rfl : i = n := by omega
      go_wp2_with fail
      go_ret
      exact ⟨_, rfl, hown, hbw⟩

set_option maxRecDepth 100000 in
set_option maxHeartbeats 4000000 in
theorem sameRuns_any (a a2 : Option Addr) (n c c2 : Nat) (l : List (Int × Int)) (w : World) (h : Runs w a n l) (h2 : Runs w a2 n l) (hn : n ≤ 1000000) :
    Calls Try.prog 77 #[.slice a n c, .slice a2 n c2] w fun e w' => e = .returned (.bool true) ∧ Below w.heap.size w w' := by
  have H := Lib.hid h
  have H2 := Lib.hid h2
  have HL := Lib.hid h.1
  clear h h2
  go_enter Try.func77, Try.ntmps77
  go_wp2_with fail
  go_loopw [13] (fun u13 wr => ∃ i : Nat, i ≤ n ∧ u13 = .int .i64 i ∧ Below w.heap.size w wr) (fun u13 _ => n - (intOf u13).toNat)
  case atStart => exact ⟨0, by omega, rfl, Below.refl _ _⟩
  case round =>
    obtain ⟨i, hi, rfl, hbw⟩ := hrel
    by_cases hlt : i < n
    · obtain ⟨r, hr⟩ : ∃ r, l[i]? = some r := ⟨_, List.getElem?_eq_getElem (by rw [HL.out]; exact hlt)⟩
      obtain ⟨b1, o1, rfl, c0, c1⟩ := (H.out.below hbw (Nat.le_refl _)).2 i r hr
      obtain ⟨b2, o2, rfl, d0, d1⟩ := (H2.out.below hbw (Nat.le_refl _)).2 i r hr
      have hi0 : (0 : Int) ≤ (i : Int) := by omega
      have hi1 : (i : Int) < (n : Int) := by omega
      clear hr
      go_wp2_with fail
      go_quiet (fail)
      all_goals
        have hbd := below_drewN hbw nq
        go_wp2_with fail
        exact ⟨⟨i + 1, by omega, by go_num, hbd⟩, by simp [intOf]; omega⟩
    · obtain rfl : i = n := by omega
      go_wp2_with fail
      go_ret
      exact ⟨rfl, hbw⟩
end Go.Proofs.Ytljbehndnledpaa
