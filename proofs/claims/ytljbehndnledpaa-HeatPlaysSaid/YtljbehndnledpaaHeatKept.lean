/- heat.Map's calls in one form, whether it has a map yet or not. Conditions: those of each theorem. -/
import Derived.Test.YtljbehndnledpaaHeatTop
import Derived.Test.YtljbehndnledpaaHeatAdd
import Derived.Test.YtljbehndnledpaaHeatOf
namespace Go.Proofs.Ytljbehndnledpaa
open Go.RowKit

/-- All but the blocks of a heat.Map is as it was. -/
structure KeptH (w w' : World) (pm : Nat) (ob : Option Nat) : Prop where
  os : w'.os = w.os
  tape : w'.tape = w.tape
  output : w'.output = w.output
  size : w.heap.size ≤ w'.heap.size
  block : ∀ k, k < w.heap.size → k ≠ pm → ob ≠ some k → w'.heap[k]? = w.heap[k]?
theorem KeptH.of_below {w w' : World} (h : Below w.heap.size w w') (pm : Nat) (ob : Option Nat) : KeptH w w' pm ob := ⟨h.os, h.tape, h.output, h.size, fun k hk _ _ => h.block k hk⟩
theorem KeptH.of_pm {w w' : World} {pm : Nat} (h : w.grownBy w' (some pm)) (ob : Option Nat) : KeptH w w' pm ob := ⟨h.os, h.tape, h.output, h.size, fun k hk h1 _ => h.block k hk (fun e => h1 (Option.some.inj e))⟩
theorem KeptH.of_ob {w w' : World} {m : Nat} (h : w.grownBy w' (some m)) (pm : Nat) : KeptH w w' pm (some m) := ⟨h.os, h.tape, h.output, h.size, fun k hk _ h2 => h.block k hk (fun e => h2 e.symm)⟩
theorem KeptH.below {w0 w w' : World} {B pm : Nat} {ob : Option Nat} (h : KeptH w w' pm ob) (hb : Below B w0 w) (h1 : B ≤ pm) (h2 : ∀ b, ob = some b → B ≤ b) (hB : B ≤ w.heap.size) : Below B w0 w' :=
  ⟨h.os.trans hb.os, h.tape.trans hb.tape, h.output.trans hb.output, Nat.le_trans hb.size h.size, fun k hk => by
    rw [h.block k (by omega) (by omega) (fun e => by have := h2 k e; omega)]
    exact hb.block k hk⟩
/-- A row of counts is no block of a heat.Map. -/
theorem OwnH.keptH {w w' : World} {pm B : Nat} {ob : Option Nat} {L l : List Hs} {v : Value} (h : OwnH w B v l) (hw : HeatW w pm ob L) (hk : KeptH w w' pm ob) : OwnH w' B v l := by
  refine ⟨h.1, ?_⟩
  rcases h.2 with h2 | ⟨g, cap, cur, hv, hg, hh, r⟩
  · exact .inl h2
  · refine .inr ⟨g, cap, cur, hv, hg, ?_, r⟩
    rw [hk.block g (Array.getElem?_eq_some_iff.1 hh).1 ?_ ?_]
    · exact hh
    · rintro rfl
      have := hw.cell
      rw [hh] at this
      simp at this
    · intro e
      subst e
      obtain ⟨es, clock, hm⟩ := hw.map
      have := hm.obj
      rw [hh] at this
      cases this

/-- The list behind an operation. -/
def addL (L : List Hs) (is : Bool) (s : Int × Int) : List Hs := if is then setS L s (cntS L s + 1) else L

theorem add_heat (w : World) (pm B : Nat) (ob : Option Nat) (L : List Hs) (k v i b n pt : Int) (da ma : Option Addr) (dn dc mn mc : Nat) (mem : List Int) (hm : Is .i64 w ma mn mem) (hmn : mn ≤ 1000000000)
    (h : HeatW w pm ob L) (hB : ∀ b, ob = some b → B ≤ b) (hBw : B ≤ w.heap.size) (hin : HsIn (v, b)) (hL : L.length < 1000000) (hc : 0 ≤ cntS L (v, b) ∧ cntS L (v, b) ≤ 1000000000000) :
    Calls Try.prog 64 #[.pointer (some ⟨pm, 0, none⟩), .agg #[.int .i64 k, .int .i64 v, .int .i64 i, .int .i64 b, .int .i64 n, .int .u64 pt, .slice da dn dc, .slice ma mn mc]] w fun e w' => e = .returned (.bool (k == 4 && rightO k v i b n dn mem)) ∧
      ∃ ob', HeatW w' pm ob' (addL L (k == 4 && rightO k v i b n dn mem) (v, b)) ∧ (∀ b, ob' = some b → B ≤ b) ∧ KeptH w w' pm ob := by
  cases hr : (k == 4 && rightO k v i b n dn mem)
  · refine (add_no w pm k v i b n pt da ma dn dc mn mc mem hm hmn hr).mono ?_
    rintro e w' ⟨rfl, hb⟩
    exact ⟨rfl, ob, h.below hb, hB, KeptH.of_below hb pm ob⟩
  · rw [Bool.and_eq_true, beq_iff_eq] at hr
    obtain ⟨rfl, hr⟩ := hr
    cases ob with
    | none =>
      have hL0 : L = [] := h.map
      subst hL0
      refine (add_none w pm [] v i b n pt da ma dn dc mn mc mem hm hmn hr h hin).mono ?_
      rintro e w' ⟨rfl, m, hm2, hw, hg⟩
      exact ⟨rfl, some m, hw, fun b e => by cases e; omega, KeptH.of_pm hg none⟩
    | some m =>
      refine (add_some w pm m L v i b n pt da ma dn dc mn mc mem hm hmn hr h hin hL hc).mono ?_
      rintro e w' ⟨rfl, hw, hg⟩
      exact ⟨rfl, some m, hw, hB, KeptH.of_ob hg pm⟩
theorem cool_heat {w : World} {pm B : Nat} {ob : Option Nat} {L : List Hs} (h : HeatW w pm ob L) (hB : ∀ b, ob = some b → B ≤ b) (h0 : ∀ p ∈ L, 0 ≤ p.2 ∧ p.2 ≤ 1000000000000) :
    Calls Try.prog 62 #[.pointer (some ⟨pm, 0, none⟩)] w fun e w' => e = .returned (.tuple #[]) ∧ ∃ ob', HeatW w' pm ob' (coolS L) ∧ (∀ b, ob' = some b → B ≤ b) ∧ KeptH w w' pm ob := by
  cases ob with
  | none =>
    have hL0 : L = [] := h.map
    subst hL0
    refine (cool_nil h).mono ?_
    rintro e w' ⟨rfl, hb⟩
    exact ⟨rfl, none, h.below hb, hB, KeptH.of_below hb pm none⟩
  | some m =>
    refine (cool_some h h0).mono ?_
    rintro e w' ⟨rfl, hw, hg⟩
    exact ⟨rfl, some m, hw, hB, KeptH.of_ob hg pm⟩

theorem Cells8.keptH {w w' : World} {A pm : Nat} {ob : Option Nat} {k v i b n pt : Int} {dv mv : Value} {L : List Hs} (h : Cells8 w A k v i b n pt dv mv) (hw : HeatW w pm ob L) (hA : A ≠ pm) (hk : KeptH w w' pm ob) : Cells8 w' A k v i b n pt dv mv := by
  have hlt : A < w.heap.size := World.block_lt_of_cell? _ _ h.1
  have hob : ob ≠ some A := by
    intro e
    subst e
    obtain ⟨es, clock, hm⟩ := hw.map
    have h0 := h.1
    simp only [World.cell?] at h0
    rw [hm.obj] at h0
    cases h0
  have e : ∀ j, w'.cell? ⟨A, j, none⟩ = w.cell? ⟨A, j, none⟩ := fun j => by
    simp only [World.cell?]
    rw [hk.block A hlt hA hob]
  obtain ⟨h0, h1, h2, h3, h4, h5, h6, h7⟩ := h
  exact ⟨(e 0).trans h0, (e 1).trans h1, (e 2).trans h2, (e 3).trans h3, (e 4).trans h4, (e 5).trans h5, (e 6).trans h6, (e 7).trans h7⟩
theorem KeptH.drew {w w' : World} {pm : Nat} {ob : Option Nat} (h : KeptH w w' pm ob) : KeptH w w'.drew pm ob := ⟨h.os, h.tape, h.output, h.size, h.block⟩
theorem KeptH.trans {w w1 w2 : World} {pm : Nat} {ob ob1 : Option Nat} (h : KeptH w w1 pm ob) (h1 : KeptH w1 w2 pm ob1) (hb : ∀ b, ob1 = some b → ob = some b ∨ w.heap.size ≤ b) : KeptH w w2 pm ob :=
  ⟨h1.os.trans h.os, h1.tape.trans h.tape, h1.output.trans h.output, Nat.le_trans h.size h1.size, fun k hk e1 e2 => by
    rw [h1.block k (Nat.lt_of_lt_of_le hk h.size) e1 ?_]
    · exact h.block k hk e1 e2
    · intro e
      rcases hb k e with h3 | h3
      · exact e2 h3
      · omega⟩
theorem KeptH.of_drew {w w' : World} {pm : Nat} {ob : Option Nat} (h : KeptH w.drew w' pm ob) : KeptH w w' pm ob := ⟨h.os, h.tape, h.output, h.size, h.block⟩
theorem HeatW.drew {w : World} {pm : Nat} {ob : Option Nat} {L : List Hs} (h : HeatW w pm ob L) : HeatW w.drew pm ob L := h.heap rfl (fun _ _ => rfl)

set_option maxRecDepth 100000 in
set_option maxHeartbeats 4000000 in
theorem heatAlive_any (w : World) : Calls Try.prog 71 #[] w fun e w' => e = .returned (.bool true) ∧ Below w.heap.size w w' := by
  have hb1 : Below w.heap.size w (w.alloc (.cells #[.map none] 103)) := (Below.refl _ _).alloc (Nat.le_refl _) _
  have hb2 := hb1.alloc hb1.size (.cells #[.int .u8 1] 5)
  have hb3 := hb2.alloc hb2.size (.cells #[.int .i64 4, .int .i64 1, .int .i64 0, .int .i64 0, .int .i64 0, .int .u64 0, .slice (some ⟨w.heap.size + 1, 0, none⟩) 1 1, .slice none 0 0] 80)
  have hh : HeatW (((w.alloc (.cells #[.map none] 103)).alloc (.cells #[.int .u8 1] 5)).alloc (.cells #[.int .i64 4, .int .i64 1, .int .i64 0, .int .i64 0, .int .i64 0, .int .u64 0, .slice (some ⟨w.heap.size + 1, 0, none⟩) 1 1, .slice none 0 0] 80)) w.heap.size none [] := by
    refine ⟨?_, rfl⟩
    rw [Below.heap_alloc _ _ _ (by simp; omega), Below.heap_alloc _ _ _ (by simp)]
    exact heap_alloc_new w _
  have hC := Cells8.new ((w.alloc (.cells #[.map none] 103)).alloc (.cells #[.int .u8 1] 5)) 4 1 0 0 0 0 (.slice (some ⟨w.heap.size + 1, 0, none⟩) 1 1) (.slice none 0 0)
  have hsz : ((w.alloc (.cells #[.map none] 103)).alloc (.cells #[.int .u8 1] 5)).heap.size = w.heap.size + 1 + 1 := by simp
  rw [hsz] at hC
  have hA1 : ∀ (W : World) (ob : Option Nat) (L : List Hs), HeatW W w.heap.size ob L → (∀ b, ob = some b → w.heap.size ≤ b) → L.length ≤ 10 → 0 ≤ cntS L (1, 0) ∧ cntS L (1, 0) ≤ 10 → w.heap.size ≤ W.heap.size →
      Calls Try.prog 64 #[.pointer (some ⟨w.heap.size, 0, none⟩), .agg #[.int .i64 4, .int .i64 1, .int .i64 0, .int .i64 0, .int .i64 0, .int .u64 0, .slice (some ⟨w.heap.size + 1, 0, none⟩) 1 1, .slice none 0 0]] W fun e w' => e = .returned (.bool true) ∧
        ∃ ob', HeatW w' w.heap.size ob' (setS L (1, 0) (cntS L (1, 0) + 1)) ∧ (∀ b, ob' = some b → w.heap.size ≤ b) ∧ KeptH W w' w.heap.size ob := fun W ob L h1 h2 h3 h4 h5 => by
    have := add_heat W w.heap.size w.heap.size ob L 4 1 0 0 0 0 (some ⟨w.heap.size + 1, 0, none⟩) none 1 1 0 0 [] ⟨rfl, fun i x h => by simp at h⟩ (by omega) h1 h2 h5 ⟨⟨by decide, by decide⟩, by decide, by decide⟩ (by omega) (by omega)
    have hr : ((4 : Int) == 4 && rightO 4 1 0 0 0 1 []) = true := by decide
    rw [hr] at this
    exact this
  have HA := Lib.hid hA1
  have hS3 := hC
  unfold Cells8 at hS3
  clear hA1 hb1 hb2
  go_enter Try.func71, Try.ntmps71
  go_wp2_with fail
  generalize ((w.alloc (.cells #[.map none] 103)).alloc (.cells #[.int .u8 1] 5)).alloc (.cells #[.int .i64 4, .int .i64 1, .int .i64 0, .int .i64 0, .int .i64 0, .int .u64 0, .slice (some ⟨w.heap.size + 1, 0, none⟩) 1 1, .slice none 0 0] 80) = W3 at *
  go_region_held (fun W' => W'.cell? ⟨w.heap.size + 1 + 1, 0, none⟩ = some (.int .i64 4) ∧ W'.cell? ⟨w.heap.size + 1 + 1, 1, none⟩ = some (.int .i64 1) ∧ W'.cell? ⟨w.heap.size + 1 + 1, 2, none⟩ = some (.int .i64 0) ∧ W'.cell? ⟨w.heap.size + 1 + 1, 3, none⟩ = some (.int .i64 0) ∧ W'.cell? ⟨w.heap.size + 1 + 1, 4, none⟩ = some (.int .i64 0) ∧ W'.cell? ⟨w.heap.size + 1 + 1, 5, none⟩ = some (.int .u64 0) ∧ W'.cell? ⟨w.heap.size + 1 + 1, 6, none⟩ = some (.slice (some ⟨w.heap.size + 1, 0, none⟩) 1 1) ∧ W'.cell? ⟨w.heap.size + 1 + 1, 7, none⟩ = some (.slice none 0 0))
    (first | exact hS6 | exact hS5 | exact hS3)
    (first
      | (go_at_call 64; refine (HA.out _ none [] hh.drew (fun b e => by cases e) (by simp) (by simp [cntS]) hb3.size).mono ?_; rintro e w5 ⟨rfl, ob5, hw5, hob5, hk5⟩; have hS5 := hC.keptH hh (by omega) hk5.of_drew; have hB5 := hk5.of_drew.below hb3 (Nat.le_refl _) (fun b e => by cases e) hb3.size)
      | (go_at_call 64; refine (HA.out _ ob5 _ hw5 hob5 (by simp [setS]) (by simp [setS, cntS]) hB5.size).mono ?_; rintro e w6 ⟨rfl, ob6, hw6, hob6, hk6⟩; have hS6 := hS5.keptH hw5 (by omega) hk6; have hB6 := hk6.below hB5 (Nat.le_refl _) hob5 hB5.size))
  all_goals
    have hL6 : setS (setS [] (1, 0) (cntS [] (1, 0) + 1)) (1, 0) (cntS (setS [] (1, 0) (cntS [] (1, 0) + 1)) (1, 0) + 1) = [((1, 0), 2)] := by decide
    rw [hL6] at hw6
    have hin : HsIn (1, 0) := ⟨⟨by decide, by decide⟩, by decide, by decide⟩
    have HOF := Lib.hid (of_heat hw6 (1, 0) hin)
    have HW6 := Lib.hid hw6
    clear hw6 hw5 hh hC hS5 hS6 hk5 hk6 HA hb3 hL6
    go_wp2_with fail
    refine HOF.out.mono ?_
    rintro e w7 ⟨rfl, hb7⟩
    have HW7 := Lib.hid (HW6.out.below hb7)
    have hB7 := hB6.trans (hb7.mono hB6.size)
    have HCO := Lib.hid (cool_heat HW7.out hob6 (by simp))
    have hc2 : cntS [((1, 0), 2)] (1, 0) = 2 := by decide
    rw [hc2]
    go_wp2_with fail
    refine HCO.out.mono ?_
    rintro e w8 ⟨rfl, ob8, hw8, hob8, hk8⟩
    have hB8 := hk8.below hB7 (Nat.le_refl _) hob6 hB7.size
    have hL8 : coolS [((1, 0), 2)] = [((1, 0), 1)] := by decide
    rw [hL8] at hw8
    have hof := of_heat hw8 (1, 0) hin
    have hc1 : cntS [((1, 0), 1)] (1, 0) = 1 := by decide
    rw [hc1] at hof
    have HOF2 := Lib.hid hof
    clear hof hw8 hk8
    go_wp2_with fail
    refine HOF2.out.mono ?_
    rintro e w9 ⟨rfl, hb9⟩
    have hB9 := hB8.trans (hb9.mono hB8.size)
    go_wp2_with fail
    go_ret
    exact ⟨rfl, hB9⟩
end Go.Proofs.Ytljbehndnledpaa
