/- The walk of heat.Map.Add. Conditions: those of each theorem. -/
import Derived.Test.YtljbehndnledpaaHeatCool
import Derived.Test.YtljbehndnledpaaOpRight
import Derived.Test.YtljbehndnledpaaOpLinePlain
namespace Go.Proofs.Ytljbehndnledpaa
open Go.RowKit Go.Maps Go.ChangeMaps Go.MapKept

theorem cntS_setS : ∀ (L : List Hs) (s : Int × Int) (v : Int), cntS (setS L s v) s = v
  | [], s, v => by simp [setS, cntS]
  | p :: L, s, v => by
    unfold setS
    by_cases h : p.1 = s
    · rw [if_pos h]; simp [cntS]
    · rw [if_neg h]
      unfold cntS
      rw [if_neg h]
      exact cntS_setS L s v
theorem eql101_nil (w : World) : (binOp .eql 101 (.map none) (.map none)).run Try.prog w = .ok (.bool true) w := by kernel_rfl
theorem eql101_some (m : Nat) (w : World) : (binOp .eql 101 (.map (some m)) (.map none)).run Try.prog w = .ok (.bool false) w := by kernel_rfl
theorem setBlock_grown (w : World) (b : Nat) (o : Obj) : w.grownBy (setBlock w b o) (some b) := ⟨rfl, rfl, rfl, by simp [setBlock], fun i _ hi => by
  show (w.heap.setIfInBounds b o)[i]? = _
  rw [Array.getElem?_setIfInBounds_ne (fun e => hi (by rw [e]))]⟩
/-- Two maps' writings behind one another. -/
theorem HeatW.put {w w' : World} {pm m : Nat} {L L' : List Hs} {es : Array MapEntry} {clock : Nat} (h : HeatW w pm (some m) L) (hg : w.grownBy w' (some m)) (hm : HMap w' m es clock L') : HeatW w' pm (some m) L' := by
  refine ⟨?_, es, clock, hm⟩
  obtain ⟨es0, c0, h0⟩ := h.map
  have hne : pm ≠ m := by
    intro e
    subst e
    have := h.cell
    rw [h0.obj] at this
    cases this
  rw [hg.block pm h.pm_lt (fun e => hne (Option.some.inj e))]
  exact h.cell
theorem Below.grown {w w' : World} (h : Below w.heap.size w w') (row : Option Nat) : w.grownBy w' row := ⟨h.os, h.tape, h.output, h.size, fun i hi _ => h.block i hi⟩

set_option maxRecDepth 100000 in
set_option maxHeartbeats 4000000 in
/-- An operation that does not count. -/
theorem add_no (w : World) (pm : Nat) (k v i b n pt : Int) (da ma : Option Addr) (dn dc mn mc : Nat) (mem : List Int) (hm : Is .i64 w ma mn mem) (hmn : mn ≤ 1000000000) (hr0 : (k == 4 && rightO k v i b n dn mem) = false) :
    Calls Try.prog 64 #[.pointer (some ⟨pm, 0, none⟩), .agg #[.int .i64 k, .int .i64 v, .int .i64 i, .int .i64 b, .int .i64 n, .int .u64 pt, .slice da dn dc, .slice ma mn mc]] w fun e w' => e = .returned (.bool false) ∧ Below w.heap.size w w' := by
  have hb : Below w.heap.size w (w.alloc (.cells #[.int .i64 k, .int .i64 v, .int .i64 i, .int .i64 b, .int .i64 n, .int .u64 pt, .slice da dn dc, .slice ma mn mc] 80)) := (Below.refl _ _).alloc (Nat.le_refl _) _
  have hr := opRight_any k v i b n pt da ma dn dc mn mc mem _ (hm.below hb (Nat.le_refl _)) hmn
  obtain ⟨c0, c1, c2, c3, c4, c5, c6, c7⟩ := Cells8.new w k v i b n pt (.slice da dn dc) (.slice ma mn mc)
  by_cases h4 : k = 4
  · subst h4
    have hf : rightO 4 v i b n dn mem = false := by simpa using hr0
    rw [hf] at hr
    have HR := Lib.hid hr
    clear hr hm hr0
    go_enter Try.func64, Try.ntmps64
    go_wp2_with fail
    refine HR.out.mono ?_
    rintro e w2 ⟨rfl, hb2⟩
    go_wp2_with fail
    go_ret
    exact ⟨rfl, hb.trans (hb2.mono hb.size)⟩
  · have e4 : (k == 4) = false := by rw [beq_eq_false_iff_ne]; exact h4
    clear hr hm
    go_enter Try.func64, Try.ntmps64
    go_wp2_with fail
    go_ret
    exact ⟨rfl, hb⟩

set_option maxRecDepth 100000 in
set_option maxHeartbeats 4000000 in
/-- A write that counts, where there is a map. -/
theorem add_some (w : World) (pm m : Nat) (L : List Hs) (v i b n pt : Int) (da ma : Option Addr) (dn dc mn mc : Nat) (mem : List Int) (hm : Is .i64 w ma mn mem) (hmn : mn ≤ 1000000000) (hr0 : rightO 4 v i b n dn mem = true)
    (h : HeatW w pm (some m) L) (hin : HsIn (v, b)) (hL : L.length < 1000000) (hc : 0 ≤ cntS L (v, b) ∧ cntS L (v, b) ≤ 1000000000000) :
    Calls Try.prog 64 #[.pointer (some ⟨pm, 0, none⟩), .agg #[.int .i64 4, .int .i64 v, .int .i64 i, .int .i64 b, .int .i64 n, .int .u64 pt, .slice da dn dc, .slice ma mn mc]] w fun e w' => e = .returned (.bool true) ∧ HeatW w' pm (some m) (setS L (v, b) (cntS L (v, b) + 1)) ∧ w.grownBy w' (some m) := by
  have hb : Below w.heap.size w (w.alloc (.cells #[.int .i64 4, .int .i64 v, .int .i64 i, .int .i64 b, .int .i64 n, .int .u64 pt, .slice da dn dc, .slice ma mn mc] 80)) := (Below.refl _ _).alloc (Nat.le_refl _) _
  have hr := opRight_any 4 v i b n pt da ma dn dc mn mc mem _ (hm.below hb (Nat.le_refl _)) hmn
  have hC := Cells8.new w 4 v i b n pt (.slice da dn dc) (.slice ma mn mc)
  have hCC := Lib.hid hC
  obtain ⟨c0, -⟩ := hC
  rw [hr0] at hr
  have HR := Lib.hid hr
  clear hr hm hr0
  have HW := Lib.hid h
  clear h
  generalize hn : cntS L (v, b) = cn at *
  have s1 : IntKind.i64.wrap (cn + 1) = cn + 1 := IntWalk.i64_in _ (by omega)
  go_enter Try.func64, Try.ntmps64
  go_wp2_with fail
  refine HR.out.mono ?_
  rintro e w2 ⟨rfl, hb2⟩
  have hB := hb.trans (hb2.mono hb.size)
  have hw2 := HW.out.below hB
  obtain ⟨p0, pf⟩ := hw2.reads
  obtain ⟨d0, d1, d2, d3, -⟩ := hCC.out.below hb2 (by simp)
  obtain ⟨es, clock, hmap⟩ := hw2.map
  have hmap2 : HMap w2.drew m es clock L := hmap.heap rfl
  have hlook := hmap2.look (v, b) hin
  rw [hn] at hlook
  obtain ⟨es1, clock1, st, hent, hmap3, hstore⟩ := hmap2.entry (v, b) hin hL
  rw [hn] at hent
  obtain ⟨es2, hst, hmap4⟩ := hstore (setBlock w2.drew m (.map es1 clock1)) (cn + 1) (heap_setBlock_same hmap2.obj _)
  have hg4 : w2.grownBy (setBlock (setBlock w2.drew m (.map es1 clock1)) m (.map es2 clock1)) (some m) :=
    (show w2.grownBy (setBlock w2.drew m (.map es1 clock1)) (some m) from ⟨rfl, rfl, rfl, (setBlock_grown w2.drew m (.map es1 clock1)).size, (setBlock_grown w2.drew m (.map es1 clock1)).block⟩).andThen (setBlock_grown _ m _) (fun j hj => by cases hj; exact Or.inr rfl)
  have hfin := hw2.put hg4 hmap4
  have hgr := (Below.grown hB (some m)).andThen hg4 (fun j hj => by cases hj; exact Or.inr rfl)
  have HF := Lib.hid hfin
  have HG := Lib.hid hgr
  have hq := eql101_some m
  have hlook3 := hmap3.look (v, b) hin
  rw [hn, cntS_setS] at hlook3
  have hg3 := setBlock_grown w2.drew m (.map es1 clock1)
  have hne : pm ≠ m := by
    intro e
    subst e
    have := hw2.cell
    rw [hmap.obj] at this
    cases this
  have hlt := hw2.pm_lt
  have hwlt : w.heap.size < w2.heap.size := Nat.lt_of_lt_of_le (by simp) hb2.size
  have hwm : w.heap.size ≠ m := by
    intro e
    subst e
    exact absurd (HW.out.ob_lt rfl) (Nat.lt_irrefl _)
  have cellp : ∀ j, (setBlock w2.drew m (.map es1 clock1)).cell? ⟨pm, j, none⟩ = w2.cell? ⟨pm, j, none⟩ := fun j => by
    simp only [World.cell?]
    rw [hg3.block pm hlt (fun e => hne (Option.some.inj e))]
    rfl
  have cello : ∀ j, (setBlock w2.drew m (.map es1 clock1)).cell? ⟨w.heap.size, j, none⟩ = w2.cell? ⟨w.heap.size, j, none⟩ := fun j => by
    simp only [World.cell?]
    rw [hg3.block w.heap.size hwlt (fun e => hwm (Option.some.inj e))]
    rfl
  have p3 := (cellp 0).trans p0
  have d13 := (cello 1).trans d1
  have d33 := (cello 3).trans d3
  clear cellp cello
  clear hmap4 hmap3 hstore hfin hgr hg4
  go_wp2_with fail
  go_region
  all_goals
    go_wp2_with fail
    go_ret
    exact ⟨rfl, HF.out, HG.out⟩
/-- A map is made. -/
theorem HeatW.mapped {w : World} {pm : Nat} {L : List Hs} (h : HeatW w pm none L) :
    HeatW ((w.alloc (.map #[] 0)).setCell ⟨pm, 0, none⟩ (.map (some w.heap.size))) pm (some w.heap.size) [] ∧ w.grownBy ((w.alloc (.map #[] 0)).setCell ⟨pm, 0, none⟩ (.map (some w.heap.size))) (some pm) := by
  have hpl := h.pm_lt
  have h1 : (w.alloc (.map #[] 0)).heap[pm]? = some (.cells #[.map none] 103 (0, 0)) := by rw [Below.heap_alloc _ _ _ hpl]; exact h.cell
  have g : (w.alloc (.map #[] 0)).grownBy ((w.alloc (.map #[] 0)).setCell ⟨pm, 0, none⟩ (.map (some w.heap.size))) (some pm) := ⟨rfl, rfl, rfl, by simp, fun k _ hk => heap_setCell_other _ ⟨pm, 0, none⟩ k _ (fun e => hk (by simp [e]))⟩
  refine ⟨⟨heap_setCell_same _ pm 0 #[.map none] 103 _ h1, #[], 0, (HMap.made w).heap ?_⟩, (World.grownBy_alloc w _ (some pm)).andThen g (fun j hj => by cases hj; exact Or.inr rfl)⟩
  exact g.block _ (by simp) (fun e => by have := Option.some.inj e; omega)

set_option maxRecDepth 100000 in
set_option maxHeartbeats 4000000 in
/-- A write that counts, where there is no map yet. -/
theorem add_none (w : World) (pm : Nat) (L : List Hs) (v i b n pt : Int) (da ma : Option Addr) (dn dc mn mc : Nat) (mem : List Int) (hm : Is .i64 w ma mn mem) (hmn : mn ≤ 1000000000) (hr0 : rightO 4 v i b n dn mem = true)
    (h : HeatW w pm none L) (hin : HsIn (v, b)) :
    Calls Try.prog 64 #[.pointer (some ⟨pm, 0, none⟩), .agg #[.int .i64 4, .int .i64 v, .int .i64 i, .int .i64 b, .int .i64 n, .int .u64 pt, .slice da dn dc, .slice ma mn mc]] w fun e w' => e = .returned (.bool true) ∧ ∃ m, w.heap.size ≤ m ∧ HeatW w' pm (some m) [((v, b), 1)] ∧ w.grownBy w' (some pm) := by
  have hb : Below w.heap.size w (w.alloc (.cells #[.int .i64 4, .int .i64 v, .int .i64 i, .int .i64 b, .int .i64 n, .int .u64 pt, .slice da dn dc, .slice ma mn mc] 80)) := (Below.refl _ _).alloc (Nat.le_refl _) _
  have hr := opRight_any 4 v i b n pt da ma dn dc mn mc mem _ (hm.below hb (Nat.le_refl _)) hmn
  have hC := Cells8.new w 4 v i b n pt (.slice da dn dc) (.slice ma mn mc)
  have hCC := Lib.hid hC
  obtain ⟨c0, -⟩ := hC
  rw [hr0] at hr
  have HR := Lib.hid hr
  clear hr hm hr0
  have HW := Lib.hid h
  clear h
  have s1 : IntKind.i64.wrap (0 + 1) = 1 := by decide
  go_enter Try.func64, Try.ntmps64
  go_wp2_with fail
  refine HR.out.mono ?_
  rintro e w2 ⟨rfl, hb2⟩
  have hB := hb.trans (hb2.mono hb.size)
  have hw1 := HW.out.below hB
  obtain ⟨p1, pf⟩ := hw1.reads
  obtain ⟨hw2, hg0⟩ := hw1.mapped
  have hm2 : w.heap.size ≤ w2.heap.size := hB.size
  obtain ⟨e0, e1', e2', e3', -⟩ := hCC.out.below hb2 (by simp)
  have hq := eql101_nil
  have hpw := HW.out.pm_lt
  have hwlt0 : w.heap.size < w2.heap.size := Nat.lt_of_lt_of_le (by simp) hb2.size
  obtain ⟨m, hmz⟩ : ∃ m, m = w2.heap.size := ⟨_, rfl⟩
  rw [← hmz] at hw2 hg0
  have cellq : ∀ j, ((w2.alloc (.map #[] 0)).setCell ⟨pm, 0, none⟩ (.map (some m))).cell? ⟨w.heap.size, j, none⟩ = w2.cell? ⟨w.heap.size, j, none⟩ := fun j => by
    simp only [World.cell?]
    rw [hg0.block w.heap.size hwlt0 (fun e => by have := Option.some.inj e; omega)]
  have d1 := (cellq 1).trans e1'
  have d3 := (cellq 3).trans e3'
  clear cellq e2'
  obtain ⟨p0, pf0⟩ := hw2.reads
  obtain ⟨es, clock, hmap⟩ := hw2.map
  have hmk := run_makeMap (P := Try.prog) 101 w2
  have hpA : (w2.alloc (.map #[] 0)).heap[pm]? = some (.cells #[.map none] 103 (0, 0)) := by rw [Below.heap_alloc _ _ _ hw1.pm_lt]; exact hw1.cell
  have pA : (w2.alloc (.map #[] 0)).cell? ⟨pm, 0, none⟩ = some (.map none) := by simp only [World.cell?, hpA]; rfl
  have pB : (w2.alloc (.map #[] 0)).frozen? ⟨pm, 0, none⟩ = false := by simp only [World.frozen?, hpA]; rfl
  rw [← hmz] at hmk
  have HZ := Lib.hid hmz
  clear hmz
  go_wp2_with fail
  have hG0 := (Below.grown hB (some pm)).andThen hg0 (fun j hj => by cases hj; exact Or.inr rfl)
  have hwlt : w.heap.size < ((w2.alloc (.map #[] 0)).setCell ⟨pm, 0, none⟩ (.map (some m))).heap.size := Nat.lt_of_lt_of_le hwlt0 hg0.size
  clear hmk pA pB hpA hg0 e1' e3' e0 p1 pf hw1
  generalize ((w2.alloc (.map #[] 0)).setCell ⟨pm, 0, none⟩ (.map (some m))) = W3 at *
  have hmap2 : HMap W3.drew m es clock [] := hmap.heap rfl
  have hlook := hmap2.look (v, b) hin
  obtain ⟨es1, clock1, st, hent, hmap3, hstore⟩ := hmap2.entry (v, b) hin (by simp)
  obtain ⟨es2, hst, hmap4⟩ := hstore (setBlock W3.drew m (.map es1 clock1)) 1 (heap_setBlock_same hmap2.obj _)
  have hlook3 := hmap3.look (v, b) hin
  rw [cntS_setS] at hlook3
  have hcn : cntS [] (v, b) = 0 := rfl
  rw [hcn] at hlook hent hlook3
  have hg3 := setBlock_grown W3.drew m (.map es1 clock1)
  have hg4 : W3.grownBy (setBlock (setBlock W3.drew m (.map es1 clock1)) m (.map es2 clock1)) (some m) :=
    (show W3.grownBy (setBlock W3.drew m (.map es1 clock1)) (some m) from ⟨rfl, rfl, rfl, hg3.size, hg3.block⟩).andThen (setBlock_grown _ m _) (fun j hj => by cases hj; exact Or.inr rfl)
  have hfin := hw2.put hg4 hmap4
  have hgr := hG0.andThen hg4 (fun j hj => by cases hj; exact Or.inl (by have := HZ.out; omega))
  have HF := Lib.hid hfin
  have HG := Lib.hid hgr
  have hne : pm ≠ m := by have := HZ.out; omega
  have hlt := hw2.pm_lt
  have hwm : w.heap.size ≠ m := by have := HZ.out; omega
  have cellp : ∀ j, (setBlock W3.drew m (.map es1 clock1)).cell? ⟨pm, j, none⟩ = W3.cell? ⟨pm, j, none⟩ := fun j => by
    simp only [World.cell?]
    rw [hg3.block pm hlt (fun e => hne (Option.some.inj e))]
    rfl
  have cello : ∀ j, (setBlock W3.drew m (.map es1 clock1)).cell? ⟨w.heap.size, j, none⟩ = W3.cell? ⟨w.heap.size, j, none⟩ := fun j => by
    simp only [World.cell?]
    rw [hg3.block w.heap.size hwlt (fun e => hwm (Option.some.inj e))]
    rfl
  have p3 := (cellp 0).trans p0
  have d13 := (cello 1).trans d1
  have d33 := (cello 3).trans d3
  clear cellp cello hmap4 hmap3 hstore hfin hgr hg4
  go_region
  all_goals
    go_wp2_with fail
    go_ret
    exact ⟨rfl, m, Nat.le_trans hm2 <| Nat.le_of_eq HZ.out.symm, HF.out, HG.out⟩
end Go.Proofs.Ytljbehndnledpaa
