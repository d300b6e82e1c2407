/- The walk of extent.Of. Conditions: those of each theorem. -/
import Derived.Test.YtljbehndnledpaaOwnInts
namespace Go.Proofs.Ytljbehndnledpaa
open Go.RowKit

/-- Runs (from, many) with one block more. -/
def ofStep (acc : List (Int × Int)) (b : Int) : List (Int × Int) :=
  if b < 0 ∨ 4096 < b then acc else match acc.getLast? with
    | none => [(b, 1)]
    | some r => if r.1 + r.2 = b then acc.dropLast ++ [(r.1, r.2 + 1)] else acc ++ [(b, 1)]
/-- The runs of blocks. -/
def ofL (zs : List Int) : List (Int × Int) := (Lib.compact (sortL zs)).foldl ofStep []
/-- Runs whose numbers don't overflow. -/
def runOk (r : Int × Int) : Prop := 0 ≤ r.1 ∧ r.1 ≤ 4096 ∧ 1 ≤ r.2 ∧ r.2 ≤ 4097 ∧ r.1 + r.2 ≤ 4097

def runCells (l : List (Int × Int)) : List Value := l.flatMap fun r => [.int .i64 r.1, .int .i64 r.2]
theorem runCells_len (l : List (Int × Int)) : (runCells l).length = l.length * 2 := by
  induction l with
  | nil => rfl
  | cons r l ih => simp only [runCells, List.flatMap_cons, List.length_append, List.length_cons, List.length_nil] at ih ⊢; omega
theorem runCells_app (a b : List (Int × Int)) : runCells (a ++ b) = runCells a ++ runCells b := by simp [runCells]
theorem runCells_at (l : List (Int × Int)) (i : Nat) (r : Int × Int) (h : l[i]? = some r) : (runCells l)[i * 2]? = some (.int .i64 r.1) ∧ (runCells l)[i * 2 + 1]? = some (.int .i64 r.2) := by
  induction l generalizing i with
  | nil => simp at h
  | cons x l ih =>
    cases i with
    | zero => simp at h; subst h; exact ⟨rfl, rfl⟩
    | succ i =>
      simp only [List.getElem?_cons_succ] at h
      obtain ⟨h1, h2⟩ := ih i h
      have e : runCells (x :: l) = [.int .i64 x.1, .int .i64 x.2] ++ runCells l := rfl
      rw [e, show (i + 1) * 2 = i * 2 + 2 by omega, show i * 2 + 2 + 1 = (i * 2 + 1) + 2 by omega]
      exact ⟨h1, h2⟩
/-- A slice of runs of the call's own. -/
def OwnRuns (w : World) (B : Nat) (v : Value) (l : List (Int × Int)) : Prop := w.ownsRow B 121 2 v l.length (runCells l)
/-- A slice of runs that reads. -/
def Runs (w : World) (a : Option Addr) (n : Nat) (l : List (Int × Int)) : Prop :=
  l.length = n ∧ ∀ i r, l[i]? = some r → ∃ b o, a = some ⟨b, o, none⟩ ∧ w.cell? ⟨b, o + i * 2, none⟩ = some (.int .i64 r.1) ∧ w.cell? ⟨b, o + i * 2 + 1, none⟩ = some (.int .i64 r.2)
theorem Runs.below {w w' : World} {C : Nat} {a : Option Addr} {n : Nat} {l : List (Int × Int)} (h : Runs w a n l) (hb : Below C w w') (hC : w.heap.size ≤ C) : Runs w' a n l := by
  refine ⟨h.1, fun i r hr => ?_⟩
  obtain ⟨b, o, ha, h1, h2⟩ := h.2 i r hr
  have hlt := World.block_lt_of_cell? _ _ h1
  refine ⟨b, o, ha, ?_, ?_⟩
  · rw [hb.cell (p := ⟨b, o + i * 2, none⟩) (by show b < C; simp at hlt; omega)]; exact h1
  · rw [hb.cell (p := ⟨b, o + i * 2 + 1, none⟩) (by show b < C; simp at hlt; omega)]; exact h2
theorem OwnRuns.stays {w w' : World} {B C : Nat} {v : Value} {l : List (Int × Int)} (h : OwnRuns w B v l) (hb : Below C w w') (hC : w.heap.size ≤ C) : OwnRuns w' B v l := owns_below h hb hC
theorem OwnRuns.runs {w : World} {B : Nat} {v : Value} {l : List (Int × Int)} (h : OwnRuns w B v l) : ∃ a cap, v = .slice a l.length cap ∧ Runs w a l.length l ∧ l.length ≤ cap := by
  rcases h.2 with ⟨rfl, h0⟩ | ⟨g, cap, cur, rfl, hbg, hg, hnc, hcm, hcs, htake⟩
  · have : l = [] := List.eq_nil_of_length_eq_zero h0
    subst this
    exact ⟨none, 0, rfl, ⟨rfl, fun i r hr => by simp at hr⟩, Nat.le_refl _⟩
  · refine ⟨some ⟨g, 0, none⟩, cap, rfl, ⟨rfl, fun i r hr => ?_⟩, hnc⟩
    obtain ⟨h1, h2⟩ := runCells_at l i r hr
    have e1 := h.cells (g := g) rfl _ _ h1
    have e2 := h.cells (g := g) rfl _ _ h2
    refine ⟨g, 0, rfl, ?_, ?_⟩
    · rw [← e1]; congr 1; unfold Addr.add; split <;> simp_all
    · rw [← e2]; congr 1

theorem info121 : (Try.prog.info? 121).map (fun i => (i.zero, i.size, i.bytes)) = some (some (.agg #[.int .i64 0, .int .i64 0]), 2, 16) := by kernel_rfl
theorem OwnRuns.push {w : World} {B : Nat} {v : Value} {l : List (Int × Int)} (h : OwnRuns w B v l) (x y : Int) (hl : l.length ≤ 1000000000) (hB : B ≤ w.heap.size) :
    ∃ v' w', (Builtin.append_ #[122, 122] 122 #[v, .slice (some ⟨w.heap.size, 0, none⟩) 1 1]).run Try.prog (w.alloc (.cells #[.int .i64 x, .int .i64 y] 121)) = .ok v' w' ∧ OwnRuns w' B v' (l ++ [(x, y)]) ∧ w.grownBy w' v.ownBlock := by
  obtain ⟨i0, hi, hz0, hz1, hz2⟩ := info_parts info121
  obtain ⟨v', w', hr, hown, hg, _⟩ := app_new (P := Try.prog) Try.underlying122 hi hz0 hz1 hz2 rfl (by decide) h 1 [.int .i64 x, .int .i64 y] rfl (by simp [Value.oneCell']) (by unfold maxLen; omega) (by omega) hB
  refine ⟨v', w', hr, ?_, hg⟩
  unfold OwnRuns
  rw [runCells_app, List.length_append]
  exact hown
theorem runCells_last (l : List (Int × Int)) (r : Int × Int) (y : Int) : (runCells (l ++ [r])).set (l.length * 2 + 1) (.int .i64 y) = runCells (l ++ [(r.1, y)]) := by
  rw [runCells_app, runCells_app]
  have hl := runCells_len l
  rw [List.set_append_right _ _ (by omega), hl, show l.length * 2 + 1 - l.length * 2 = 1 by omega]
  rfl

theorem ofStep_ok (acc : List (Int × Int)) (b : Int) (h : ∀ r ∈ acc, runOk r) : ∀ r ∈ ofStep acc b, runOk r := by
  unfold ofStep
  split
  · exact h
  · rename_i hb
    split
    · intro r hr
      rw [List.mem_singleton.1 hr]; unfold runOk; simp only; omega
    · rename_i x hx
      have hx2 := h x (List.mem_of_getLast? hx)
      split
      · rename_i he
        intro r hr
        rcases List.mem_append.1 hr with hr | hr
        · exact h r ((List.dropLast_subset _) hr)
        · rw [List.mem_singleton.1 hr]; unfold runOk at hx2 ⊢; simp only; omega
      · intro r hr
        rcases List.mem_append.1 hr with hr | hr
        · exact h r hr
        · rw [List.mem_singleton.1 hr]; unfold runOk; simp only; omega
theorem ofStep_len (acc : List (Int × Int)) (b : Int) : (ofStep acc b).length ≤ acc.length + 1 := by
  unfold ofStep
  split
  · omega
  · split
    · simp
    · split <;> simp

set_option maxRecDepth 100000 in
set_option maxHeartbeats 8000000 in
theorem of_any (a : Option Addr) (n c : Nat) (zs : List Int) (w : World) (h : Is .i64 w a n zs) (hn : n ≤ 1000000) :
    Calls Try.prog 95 #[.slice a n c] w fun e w' => ∃ v, e = .returned v ∧ OwnRuns w' w.heap.size v (ofL zs) ∧ Below w.heap.size w w' := by
  have hzl := h.len
  have hclone : Calls Try.prog 149 #[.slice a n c] w fun e w' => ∃ v, e = .returned v ∧ w'.ownsRow w.heap.size 3 1 v zs.length (zs.map (.int .i64)) ∧ Below w.heap.size w w' := by
    by_cases h0 : n = 0
    · subst h0
      have : zs = [] := List.eq_nil_of_length_eq_zero hzl
      subst this
      cases a with
      | none =>
        refine (Try.slices_Clone_int_nil 0 c w).mono ?_
        rintro e w' ⟨rfl, rfl⟩
        exact ⟨_, rfl, World.ownsRow_nil _ _ _ _, Below.refl _ _⟩
      | some x =>
        refine (Try.slices_Clone_int_zero x c w).mono ?_
        rintro e w' ⟨v, rfl, ho, -, hb⟩
        exact ⟨v, rfl, ho, hb⟩
    · obtain ⟨b, o, rfl, hc⟩ := h.at (by omega)
      refine (Try.slices_Clone_int b o n c zs w (by omega) (by omega) (fun j hj => hc j (by omega))).mono ?_
      rintro e w' ⟨v, rfl, ho, -, hb⟩
      rw [List.take_of_length_le (by omega)] at ho
      exact ⟨v, rfl, by rw [hzl]; exact ho, hb⟩
  have HCL := Lib.hid hclone
  have hofl : ofL zs = (Lib.compact (sortL zs)).foldl ofStep [] := rfl
  obtain ⟨R, hR⟩ : ∃ R, R = ofL zs := ⟨_, rfl⟩
  rw [← hR]
  rw [hofl] at hR
  have HR := Lib.hid hR
  have hsl := sortL_len zs
  have HSL := Lib.hid hsl
  have HZL := Lib.hid hzl
  clear h hclone hofl hR hsl hzl
  go_enter Try.func95, Try.ntmps95
  go_wp2_with fail
  refine HCL.out.mono ?_
  rintro e w1 ⟨v1, rfl, ho1, hb1⟩
  obtain ⟨a1, c1, rfl, -, -⟩ := own_sl ho1
  have HO1 := Lib.hid (sort_own ho1 (by rw [HZL.out]; omega) hb1.size)
  clear ho1
  go_wp2_with fail
  refine HO1.out.mono ?_
  rintro e w2 ⟨rfl, ho2, hb2⟩
  have hb2' := hb1.trans hb2
  have HO2 := Lib.hid (compact_own ho2 (by rw [HSL.out, HZL.out]; omega))
  clear ho2
  go_wp2_with fail
  refine HO2.out.mono ?_
  rintro e w3 ⟨a3, c3, rfl, his, hb3⟩
  have hb3' := hb2'.trans hb3
  have hcl : (Lib.compact (sortL zs)).length ≤ 1000000 := by have := compact_le (sortL zs); rw [HSL.out, HZL.out] at this; omega
  generalize Lib.compact (sortL zs) = C at *
  have HIS := Lib.hid his
  clear his
  go_wp2_with fail
  go_loopw [4, 15] (fun u4 u15 wr => ∃ (i : Nat) (acc : List (Int × Int)), i ≤ C.length ∧ u15 = .int .i64 i ∧ OwnRuns wr w3.heap.size u4 acc ∧ acc.length ≤ i ∧ Hid (acc = (C.take i).foldl ofStep []) ∧ Hid (∀ r ∈ acc, runOk r) ∧ Below w3.heap.size w3 wr) (fun _ u15 _ => C.length - (intOf u15).toNat)
  case atStart => exact ⟨0, [], by omega, rfl, World.ownsRow_nil _ _ _ _, by simp, Lib.hid rfl, Lib.hid (by simp), Below.refl _ _⟩
  case round =>
    obtain ⟨i, acc, hi, rfl, hown, hal, HA, HOK, hbw⟩ := hrel
    by_cases hlt : i < C.length
    · obtain ⟨b, o, x, rfl, hx, hcx⟩ := Is.cell (Is.below HIS.out hbw (Nat.le_refl _)) i hlt
      have hnx : ofStep acc x = (C.take (i + 1)).foldl ofStep [] := by
        rw [List.take_add_one, hx, List.foldl_append, ← HA.out]; rfl
      have hok := ofStep_ok acc x HOK.out
      have hln := ofStep_len acc x
      have hi0 : (0 : Int) ≤ (i : Int) := by omega
      have hi1 : (i : Int) < (C.length : Int) := by omega
      by_cases hout : x < 0 ∨ 4096 < x
      · have he : ofStep acc x = acc := by unfold ofStep; rw [if_pos hout]
        rw [he] at hnx
        have HNX := Lib.hid hnx
        have HOW := Lib.hid hown
        clear hnx hok hln he hx hown
        rcases hout with h1 | h1
        · go_wp2_with fail
          exact ⟨⟨i + 1, acc, by omega, by go_num, HOW.out, by omega, HNX, HOK, hbw⟩, by simp [intOf]; omega⟩
        · have h2 : ¬ x < 0 := by omega
          go_wp2_with fail
          exact ⟨⟨i + 1, acc, by omega, by go_num, HOW.out, by omega, HNX, HOK, hbw⟩, by simp [intOf]; omega⟩
      · have h1 : ¬ x < 0 := by omega
        have h2 : ¬ 4096 < x := by omega
        have hnot : ¬ (x < 0 ∨ 4096 < x) := by omega
        rcases List.eq_nil_or_concat acc with rfl | ⟨l, r, rfl⟩
        · have he : ofStep [] x = [(x, 1)] := by unfold ofStep; rw [if_neg hnot]; rfl
          rw [he] at hnx hok
          obtain ⟨ua, uc, rfl, -, -⟩ := OwnRuns.runs hown
          have HNX := Lib.hid hnx
          have HOK2 := Lib.hid hok
          have HOW := Lib.hid hown
          clear hnx hok hln he hx hown hout hnot
          go_wp2_with fail
          go_quiet (fail)
          all_goals
            obtain ⟨v', w', hap, hown', hgr⟩ := OwnRuns.push (w := wr.drewN nq) HOW.out x 1 (by simp) hbw.size
            have hbw' := Below.own (below_drewN hbw nq) (show (wr.drewN nq).ownsRow _ _ _ _ _ _ from HOW.out) hgr (Nat.le_refl _) hbw.size
            have HO' := Lib.hid hown'
            clear hown' hgr
            go_wp2_with (at_builtin; refine wpList_append_run rfl _ _ _ rfl hap ?_)
            exact ⟨⟨i + 1, [(x, 1)], by omega, by go_num, HO'.out, by simp, HNX, HOK2, hbw'⟩, by simp [intOf]; omega⟩
        · rw [List.concat_eq_append] at *
          have hrok := HOK.out r (by simp)
          unfold runOk at hrok
          obtain ⟨r1, r2⟩ := r
          simp only at hrok
          have hlen : (l ++ [(r1, r2)]).length = l.length + 1 := by simp
          have hcells := runCells_at (l ++ [(r1, r2)]) l.length (r1, r2) (by simp)
          rcases hown.2 with ⟨-, h0⟩ | ⟨g, cap, cur, rfl, hbg, hg, hnc, hcm, hcs, htake⟩
          · rw [hlen] at h0; omega
          · have k1 := hown.cells (g := g) rfl _ _ hcells.1
            have k2 := hown.cells (g := g) rfl _ _ hcells.2
            have q1 : wr.cell? ⟨g, l.length * 2, none⟩ = some (.int .i64 r1) := by rw [← k1]; congr 1; unfold Addr.add; split <;> simp_all
            have q2 : wr.cell? ⟨g, l.length * 2 + 1, none⟩ = some (.int .i64 r2) := by rw [← k2]; congr 1; unfold Addr.add; split <;> simp_all
            have q3 : wr.frozen? ⟨g, l.length * 2 + 1, none⟩ = false := frozen_of_row _ _ _ _ _ hg
            have hll : l.length ≤ 1000000 := by rw [hlen] at hal; omega
            have s1 : IntKind.i64.wrap ((l.length : Int) + 1 - 1) = (l.length : Int) := by rw [IntWalk.i64_in _ (by omega)]; omega
            have s2 : (0 : Int) < (l.length : Int) + 1 := by omega
            have s3 : (l.length : Int) < (l.length : Int) + 1 := by omega
            have s4 : (0 : Int) ≤ (l.length : Int) := by omega
            have s5 : IntKind.i64.wrap (r1 + r2) = r1 + r2 := IntWalk.i64_in _ (by omega)
            have s6 : IntKind.i64.wrap (r2 + 1) = r2 + 1 := IntWalk.i64_in _ (by omega)
            rw [hlen] at hal hln
            have hrow : wr.ownsRow w3.heap.size 121 2 (.slice (some ⟨g, 0, none⟩) (l.length + 1) cap) (l.length + 1) (runCells (l ++ [(r1, r2)])) := by
              have h9 := hown
              unfold OwnRuns at h9
              rw [hlen] at h9
              exact h9
            have hown2 : OwnRuns wr w3.heap.size (.slice (some ⟨g, 0, none⟩) (l.length + 1) cap) (l ++ [(r1, r2)]) := by unfold OwnRuns; rw [hlen]; exact hrow
            rw [hlen]
            clear hown
            by_cases heq : r1 + r2 = x
            · have he : ofStep (l ++ [(r1, r2)]) x = l ++ [(r1, r2 + 1)] := by
                unfold ofStep
                rw [if_neg hnot]
                simp [heq]
              rw [he] at hnx hok
              have hst := hrow.stored (l.length * 2 + 1) (.int .i64 (r2 + 1))
              rw [runCells_last] at hst
              have hbeq : (r1 + r2 == x) = true := by rw [beq_iff_eq]; exact heq
              have HST := Lib.hid hst
              have HNX := Lib.hid hnx
              have HOK2 := Lib.hid hok
              clear hnx hok hln he hx hrow hown2 hout hnot hst k1 k2 hcells htake hg heq
              go_wp2_with fail
              go_quiet (fail)
              all_goals
                have hbd := below_drewN hbw nq
                go_wp2_with fail
                exact ⟨⟨i + 1, l ++ [(r1, r2 + 1)], by omega, by go_num, by unfold OwnRuns; rw [show (l ++ [(r1, r2 + 1)]).length = l.length + 1 by simp]; exact HST.out.1, by simp; omega, HNX, HOK2, hbd.setCell (p := ⟨g, l.length * 2 + 1, none⟩) hbg _⟩, by simp [intOf]; omega⟩
            · have he : ofStep (l ++ [(r1, r2)]) x = (l ++ [(r1, r2)]) ++ [(x, 1)] := by
                unfold ofStep
                rw [if_neg hnot]
                simp [heq]
              rw [he] at hnx hok
              have hbeq : (r1 + r2 == x) = false := by rw [beq_eq_false_iff_ne]; exact heq
              have HNX := Lib.hid hnx
              have HOK2 := Lib.hid hok
              have HOW := Lib.hid hown2
              clear hnx hok hln he hx hrow hown2 hout hnot k1 k2 hcells htake hg heq
              go_wp2_with fail
              go_quiet (fail)
              all_goals
                obtain ⟨v', w', hap, hown', hgr⟩ := OwnRuns.push (w := wr.drewN nq) HOW.out x 1 (by simp; omega) hbw.size
                have hbw' := Below.own (below_drewN hbw nq) (show (wr.drewN nq).ownsRow _ _ _ _ _ _ from HOW.out) hgr (Nat.le_refl _) hbw.size
                have HO' := Lib.hid hown'
                clear hown' hgr
                go_wp2_with (at_builtin; refine wpList_append_run rfl _ _ _ rfl hap ?_)
                exact ⟨⟨i + 1, _, by omega, by go_num, HO'.out, by simp; omega, HNX, HOK2, hbw'⟩, by simp [intOf]; omega⟩
    · obtain rfl : i = C.length := by omega
      have hfin := HA.out
      rw [List.take_length, ← HR.out] at hfin
      subst hfin
      go_wp2_with fail
      go_ret
      exact ⟨_, rfl, owns_lower hown hb3'.size, hb3'.trans (hbw.mono hb3'.size)⟩
end Go.Proofs.Ytljbehndnledpaa
