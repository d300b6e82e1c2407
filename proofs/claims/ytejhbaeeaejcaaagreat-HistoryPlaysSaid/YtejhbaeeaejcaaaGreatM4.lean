/- The walks of slices.Insert and slices.Delete at entries. Conditions: those of each theorem. -/
import Derived.Test.YtejhbaeeaejcaaaGreatM2
import Derived.Test.YtejhbaeeaejcaaaGreatM3
import Derived.Lib.Overlaps
import Derived.Shelf.RegionOpenPlain
import Derived.RangeFuncNested
import Derived.RangeFuncBound
import Derived.RangeFuncCalls
import Derived.RangeFuncLeaves
import Derived.Test.YtejhbaeeaejcaaaGreatM1
namespace Go.Proofs.YtejhbaeeaejcaaaGreat
open Go.RowKit

theorem step_copy_runK {P : Program} {ops : Array Oper} {o : Oper} {a : Act} {w : World} {K : Act → World → Prop} {Q : Exit → Act → World → Prop} {E : Prop}
    (hg : o.guard = none) (d x : Operand) (dT sT : TypeId) (hop : o.op = Op.call { callee := Callee.builtin Builtin.copy, args := #[d, x], argTypes := #[dT, sT] })
    (v u : Value) (hd : a.eval d = v) (hx : a.eval x = u) {v' : Value} {w' : World} (hr : (Builtin.copy_ #[dT, sT] o.type #[v, u]).run P w = .ok v' w') (hK : K (a.put o.dst v') w') :
    if Region.wanted o (yielded ops a.tmps) = true then Oper.wp P o a w K Q else E := by
  have hw : Region.wanted o (yielded ops a.tmps) = true := by simp [Region.wanted, hg]
  rw [if_pos hw]
  unfold Oper.wp
  simp [execOp, hop, resolve, invoke, builtin, hd, hx, hr, Result.andThen]
  exact hK
theorem wpList_copy_runK {P : Program} {w : World} {ops : Array Oper} {rest : List Oper} {o : Oper} {a : Act} {Q : Exit → Act → World → Prop} (hgd : o.guard = none) (d s : Operand) (t t' : TypeId)
    (ho : o.op = .call { callee := .builtin .copy, args := #[d, s], argTypes := #[t, t'] }) {v' : Value} {w' : World}
    (hr : (Builtin.copy_ #[t, t'] o.type #[a.eval d, a.eval s]).run P w = .ok v' w') (h : wpList P ops Q rest (a.put o.dst v') w') : wpList P ops Q (o :: rest) a w :=
  wpList_plain hgd fun _ hK => by
    unfold Oper.wp execOp
    simp only [ho, resolve, invoke, builtin, Sem.run_bind, Sem.run_pure, Result.andThen_ok, List.map_toArray, List.map_cons, List.map_nil, hr]
    exact hK _ _ h
theorem step_append_runK {P : Program} {ops : Array Oper} {o : Oper} {a : Act} {w : World} {K : Act → World → Prop} {Q : Exit → Act → World → Prop} {E : Prop}
    (hg : o.guard = none) (d x : Operand) (dT sT : TypeId) (hop : o.op = Op.call { callee := Callee.builtin Builtin.append, args := #[d, x], argTypes := #[dT, sT] })
    (v u : Value) (hd : a.eval d = v) (hx : a.eval x = u) {v' : Value} {w' : World} (hr : (Builtin.append_ #[dT, sT] o.type #[v, u]).run P w = .ok v' w') (hK : K (a.put o.dst v') w') :
    if Region.wanted o (yielded ops a.tmps) = true then Oper.wp P o a w K Q else E := by
  have hw : Region.wanted o (yielded ops a.tmps) = true := by simp [Region.wanted, hg]
  rw [if_pos hw]
  unfold Oper.wp
  simp [execOp, hop, resolve, invoke, builtin, hd, hx, hr, Result.andThen]
  exact hK

theorem wpList_append_runK {P : Program} {w : World} {ops : Array Oper} {rest : List Oper} {o : Oper} {a : Act} {Q : Exit → Act → World → Prop} (hgd : o.guard = none) (s x : Operand) (t t' : TypeId)
    (ho : o.op = .call { callee := .builtin .append, args := #[s, x], argTypes := #[t, t'] }) {v' : Value} {w' : World}
    (hrun : (Builtin.append_ #[t, t'] o.type #[a.eval s, a.eval x]).run P w = .ok v' w') (h : wpList P ops Q rest (a.put o.dst v') w') : wpList P ops Q (o :: rest) a w :=
  wpList_plain hgd fun _ hK => by
    unfold Oper.wp execOp
    simp only [ho, resolve, invoke, builtin, Sem.run_bind, Sem.run_pure, Result.andThen_ok, List.map_toArray, List.map_cons, List.map_nil, hrun]
    exact hK _ _ h

theorem overlaps_en {w : World} {vb b : Nat} {ca cb : Array Value} {ta tb : TypeId} (h1 : w.heap[vb]? = some (.cells ca ta (0, 0))) (h2 : w.heap[b]? = some (.cells cb tb (0, 0))) (hne : vb ≠ b) (hcb : cb.size ≠ 0) (o la va lb vc : Nat) :
    (callFunc 115 #[.slice (some ⟨vb, 0, none⟩) la va, .slice (some ⟨b, o, none⟩) lb vc]).run Tryz.prog w = .ok (.value (.bool false)) w := by
  obtain ⟨i0, hi, hz0, hz1, hz2⟩ := info_cut infoEn
  rw [run_callFunc_extern Tryz.func115 (by kernel_rfl) (by kernel_rfl) (by kernel_rfl) (e := Extern.SlicesOverlaps.overlaps #[36, 36] #[4]) (by kernel_rfl),
    Lib.run_overlaps_apart w 36 4 60 Tryz.underlying36 4 (fun w => by simp [sizeOf, typeInfo, hi, hz1]) ⟨vb, 0, none⟩ ⟨b, o, none⟩ la va lb vc hne ta tb ca.size cb.size (by simp [World.shape?, h1]) (by simp [World.shape?, h2]) hcb (by simp [World.frozen?, h1]) (by simp [World.frozen?, h1])]
  rfl

set_option maxRecDepth 100000 in
set_option maxHeartbeats 8000000 in
theorem insert_any {w : World} {B : Nat} {v : Value} {l : List En} (h : OwnE encN 4 60 w B v l) (i : Nat) (hi : i ≤ l.length) (hl : l.length ≤ 1000) {b : Nat} {e : En} (hb : w.heap[b]? = some (.cells (encN e).toArray 60 (0, 0))) (hne : v.ownBlock ≠ some b) (hB : B ≤ w.heap.size) :
    Calls Tryz.prog 93 #[v, .int .i64 (i : Int), .slice (some ⟨b, 0, none⟩) 1 1] w fun r w' => ∃ v', r = .returned v' ∧ OwnE encN 4 60 w' B v' (l.take i ++ e :: l.drop i) ∧ w.grownBy w' v.ownBlock := by
  obtain ⟨i0, hi0, hz0, hz1, hz2⟩ := info_cut infoEn
  have hsrc1 : RowE encN 4 w (some ⟨b, 0, none⟩) 1 [e] := by
    refine ⟨rfl, fun j r hj => ?_⟩
    have hj1 : j < 1 := by simpa using (List.getElem?_eq_some_iff.1 hj).1
    obtain rfl : j = 0 := by omega
    simp at hj
    subst hj
    refine ⟨b, 0, rfl, fun t x hx => ?_⟩
    simp [World.cell?, hb, hx]
  by_cases hend : i = l.length
  · subst hend
    obtain ⟨v', w', hap, ho, hg⟩ := h.app encN_len (by decide) encN_one Tryz.underlying36 hi0 hz0 hz1 hz2 rfl 1 hsrc1 (by omega) (by omega) hB
    have hres : OwnE encN 4 60 w' B v' (l.take l.length ++ e :: l.drop l.length) := by rw [List.take_length, List.drop_length]; exact ho
    have HR := Lib.hid (And.intro hres hg)
    rcases h.cases with ⟨rfl, rfl⟩ | ⟨g, cap, rfl, hbg, hgs, hR⟩
    · clear h hb hne hsrc1 ho hg hres hi hl hi0 hz0 hz1 hz2
      go_enter Tryz.func93, Tryz.ntmps93
      go_wp2_with (at_builtin; refine wpList_append_run rfl _ _ _ rfl hap ?_)
      all_goals
        go_ret
        exact ⟨_, rfl, HR.out.1, HR.out.2⟩
    · have hle := hR.le
      have hcm := hR.cm
      clear h hb hne hsrc1 ho hg hres hi hi0 hz0 hz1 hz2 hR
      generalize l.length = n at *
      go_enter Tryz.func93, Tryz.ntmps93
      go_wp2_with (at_builtin; refine wpList_append_run rfl _ _ _ rfl hap ?_)
      all_goals
        go_ret
        exact ⟨_, rfl, HR.out.1, HR.out.2⟩
  · have hlt : i < l.length := by omega
    rcases h.cases with ⟨rfl, rfl⟩ | ⟨g, cap, rfl, hbg, hgs, hR⟩
    · simp at hlt
    · have hgb : g ≠ b := fun e => hne (by rw [e]; rfl)
      have hle := hR.le
      have hcm : cap ≤ 9223372036854775807 := by have := hR.cm; unfold maxLen at this; omega
      have hdl : (l.drop i).length = l.length - i := List.length_drop
      have hli : (l.take i).length = i := by rw [List.length_take]; omega
      have hRr := hR.row encN_len
      have hsd : RowE encN 4 w (some ⟨g, i * 4, none⟩) (l.length - i) (l.drop i) := by simpa using hRr.drop i
      by_cases hroom : l.length + 1 ≤ cap
      · -- in place
        obtain ⟨w1, hr1, hR1, -, hT1⟩ := run_copyE encN_len encN_one (dT := 36) (sT := 36) Tryz.underlying36 hi0 hz1 (w := w.drew) (hR.heap rfl) (i + 1) (by omega) (l.drop i) ⟨g, i * 4, none⟩ (RowE.cells encN_len (by decide) (w := w.drew) hsd) (by rw [hdl]; omega) (l.length + 1 - i) (l.length - i) (by rw [hdl]; simp only [Nat.min_def]; split <;> omega)
        have hp1 : (l.take (i + 1)).length = i + 1 := by rw [List.length_take]; omega
        have hlen1 : (l.take (i + 1) ++ l.drop i).length = l.length + 1 := by rw [List.length_append, hp1, hdl]; omega
        have hb1 : w1.heap[b]? = some (.cells (encN e).toArray 60 (0, 0)) := (hT1.block b (fun e => hgb e.symm)).trans hb
        have hsrc2 : ∀ j u, (cellsE encN [e])[j]? = some u → w1.cell? ((⟨b, 0, none⟩ : Addr).add j) = some u := fun j u hu => by
          rw [add_pl]
          simp [World.cell?, hb1]
          simpa [cellsE] using hu
        obtain ⟨w2, hr2, -, hR2, hT2⟩ := run_copyE encN_len encN_one (dT := 36) (sT := 36) Tryz.underlying36 hi0 hz1 hR1 i (by rw [hlen1]; omega) [e] ⟨b, 0, none⟩ hsrc2 (by show i + 1 ≤ cap; omega) 1 (l.length + 1 - i) (by simp only [Nat.min_def]; split <;> simp <;> omega)
        have hR3 := hR2 (by rw [hlen1]; show i + 1 ≤ _; omega)
        have hfin : (l.take (i + 1) ++ l.drop i).take i ++ [e] ++ (l.take (i + 1) ++ l.drop i).drop (i + [e].length) = l.take i ++ e :: l.drop i := by
          rw [List.take_append_of_le_length (by omega), List.take_take, Nat.min_eq_left (by omega), show i + [e].length = (l.take (i + 1)).length by rw [hp1]; rfl, List.drop_left, List.append_assoc]; rfl
        rw [hfin] at hR3
        have hlen3 : (l.take i ++ e :: l.drop i).length = l.length + 1 := by rw [List.length_append, List.length_cons, hli, hdl]; omega
        have hown := hR3.own encN_len hbg
        rw [hlen3] at hown
        have hg : w.grownBy w2 (some g) := ⟨(hT2.os.trans hT1.os), (hT2.tape.trans hT1.tape), (hT2.output.trans hT1.output), by rw [hT2.size, hT1.size]; exact Nat.le_refl _, fun j hj hne => by
          have hjg : j ≠ g := fun e => hne (by rw [e])
          rw [hT2.block j hjg, hT1.block j hjg]; rfl⟩
        have HR := Lib.hid (And.intro hown hg)
        obtain ⟨curg, hcg, hcz, -⟩ := hR.ex
        have hov := overlaps_en hb hcg (fun e => hgb e.symm) (by rw [hcz]; omega) ((i + 1) * 4) 1 1
        have hx1 : IntKind.i64.wrap ((i : Int) + 1) = ((i + 1 : Nat) : Int) := by rw [IntWalk.i64_in _ (by omega)]; omega
        have hx2 : IntKind.i64.wrap ((l.length : Int) + 1) = ((l.length + 1 : Nat) : Int) := by rw [IntWalk.i64_in _ (by omega)]; omega
        have hn1 : ¬ (i : Int) = (l.length : Int) := by omega
        have hn2 : ¬ ((l.length + 1 : Nat) : Int) > (cap : Int) := by omega
        have hn3 : ¬ cap = i + 1 := by omega
        have hn5 : (0 : Int) ≤ (i : Int) + 1 := by omega
        have hn6 : i ≤ l.length := by omega
        have hn7 : (i : Int) ≤ (l.length : Int) + 1 := by omega
        have hn4 : ¬ cap = i := by omega
        rw [hdl] at hr1
        clear h hb hne hsrc1 hi hR hRr hsd hR1 hR2 hR3 hT1 hT2 hb1 hsrc2 hown hg hfin hlen3 hlen1 hp1 hi0 hz0 hz1 hz2 hdl hli hcg hcz
        generalize hn : l.length = n at *
        go_enter Tryz.func93, Tryz.ntmps93
        go_wp2_with (simp only [hov])
        go_region_law (refine step_copy_runK rfl _ _ 36 36 rfl _ _ (by simp [Act.eval, Act.put]; done) (by simp [Act.eval, Act.put]) (hr1 _ _ _) ?_)
        go_wp2_with (at_builtin; refine wpList_copy_runK rfl _ _ _ _ rfl (hr2 _ _ _) ?_)
        go_ret
        exact ⟨_, rfl, HR.out.1, HR.out.2⟩
      · -- a new row
        obtain ⟨cap1, w1, hr1, hR1, hc1, hb1, hsz1⟩ := run_appMakeE encN_len (by decide) (t := 36) (tn := 3) (kq := .i64) (kn := .i64) Tryz.underlying36 Tryz.underlying3 hi0 hz0 hz1 hz2 rfl hR i (by omega) (l.length + 1 - i) (by omega) (by omega) (by omega) (by omega)
        have hbs : b < w.heap.size := (Array.getElem?_eq_some_iff.1 hb).1
        have hbb1 : w1.heap[b]? = some (.cells (encN e).toArray 60 (0, 0)) := (hb1.block b hbs).trans hb
        have hsrc2 : ∀ j u, (cellsE encN [e])[j]? = some u → w1.cell? ((⟨b, 0, none⟩ : Addr).add j) = some u := fun j u hu => by
          rw [add_pl]
          simp [World.cell?, hbb1]
          simpa [cellsE] using hu
        obtain ⟨w2, hr2, hR2, -, hT2⟩ := run_copyE encN_len encN_one (dT := 36) (sT := 36) Tryz.underlying36 hi0 hz1 hR1 i (by rw [hli]; omega) [e] ⟨b, 0, none⟩ hsrc2 (by show i + 1 ≤ cap1; omega) 1 (l.length + 1 - i) (by simp only [Nat.min_def]; split <;> simp <;> omega)
        have hsd2 : RowE encN 4 w2.drew (some ⟨g, i * 4, none⟩) (l.length - i) (l.drop i) := by
          refine hsd.same (S := fun j => j = g) (fun b' o' e' => by cases e'; rfl) (fun j hj => ?_)
          subst hj
          exact (hT2.block j (by omega)).trans (hb1.block j hgs)
        have hp1 : ((l.take i).take i ++ [e]).length = i + 1 := by rw [List.length_append, List.length_take, List.length_take]; simp; omega
        obtain ⟨w3, hr3, hR3, -, hT3⟩ := run_copyE encN_len encN_one (dT := 36) (sT := 36) Tryz.underlying36 hi0 hz1 (w := w2.drew) (hR2.heap rfl) (i + 1) (by rw [hp1]; exact Nat.le_refl _) (l.drop i) ⟨g, i * 4, none⟩ (RowE.cells encN_len (by decide) hsd2) (by rw [hdl]; omega) (l.length - i) (l.length - i) (by rw [hdl]; simp)
        have hfin : ((l.take i).take i ++ [e]).take (i + 1) ++ l.drop i = l.take i ++ e :: l.drop i := by
          rw [List.take_of_length_le (by omega), List.take_take, Nat.min_self, List.append_assoc]; rfl
        rw [hfin] at hR3
        have hlen3 : (l.take i ++ e :: l.drop i).length = l.length + 1 := by rw [List.length_append, List.length_cons, hli, hdl]; omega
        have hown := hR3.own encN_len hB
        rw [hlen3] at hown
        have hg : w.grownBy w3 (some g) := ⟨hT3.os.trans (hT2.os.trans hb1.os), hT3.tape.trans (hT2.tape.trans hb1.tape), hT3.output.trans (hT2.output.trans hb1.output), by rw [hT3.size]; show w.heap.size ≤ w2.heap.size; rw [hT2.size, hsz1]; omega, fun j hj hne => by
          rw [hT3.block j (by omega)]
          exact (hT2.block j (by omega)).trans (hb1.block j hj)⟩
        have HR := Lib.hid (And.intro hown hg)
        have hx2 : IntKind.i64.wrap ((l.length : Int) + 1) = (l.length : Int) + 1 := IntWalk.i64_in _ (by omega)
        have hx3 : IntKind.i64.wrap ((l.length : Int) + 1 - (i : Int)) = ((l.length + 1 - i : Nat) : Int) := by rw [IntWalk.i64_in _ (by omega)]; omega
        have hx1 : IntKind.i64.wrap ((i : Int) + 1) = (i : Int) + 1 := IntWalk.i64_in _ (by omega)
        have hn1 : ¬ (i : Int) = (l.length : Int) := by omega
        have hn2 : (cap : Int) < (l.length : Int) + 1 := by omega
        have hn3 : ¬ cap1 = i + 1 := by omega
        have hn8 : ¬ cap1 = i := by omega
        have hn4 : ¬ cap = i := by omega
        have hn5 : (0 : Int) ≤ (i : Int) + 1 := by omega
        have hn6 : i ≤ l.length := by omega
        have hn7 : (i : Int) ≤ (l.length : Int) + 1 := by omega
        have hn9 : i ≤ l.length + 1 := by omega
        have hn10 : i + (l.length + 1 - i) = l.length + 1 := by omega
        have hn11 : l.length + 1 ≤ cap1 := by omega
        have hn12 : i ≤ cap := by omega
        rw [hdl] at hr3
        rw [hn10] at hr1
        clear h hb hne hsrc1 hi hR hRr hsd hR1 hR2 hR3 hT2 hT3 hb1 hsrc2 hown hg hfin hlen3 hp1 hi0 hz0 hz1 hz2 hdl hli hsd2 hbb1 hsz1 hc1 hroom hbs hn10
        generalize hn : l.length = n at *
        go_enter Tryz.func93, Tryz.ntmps93
        go_wp2_with (first
          | (at_builtin; refine wpList_append_runK rfl _ _ _ _ rfl (hr1 _) ?_)
          | (at_builtin; refine wpList_copy_runK rfl _ _ _ _ rfl (hr2 _ _ _) ?_))
        go_region_law (refine step_copy_runK rfl _ _ 36 36 rfl _ _ (by simp [Act.eval, Act.put]; done) (by simp [Act.eval, Act.put]) (hr3 _ _ _) ?_)
        go_wp2_with fail
        go_ret
        exact ⟨_, rfl, HR.out.1, HR.out.2⟩

set_option maxRecDepth 100000 in
set_option maxHeartbeats 8000000 in
theorem delete_any {w : World} {B : Nat} {v : Value} {l : List En} (h : OwnE encN 4 60 w B v l) (i : Nat) (hi : i < l.length) (hl : l.length ≤ 1000) :
    Calls Tryz.prog 104 #[v, .int .i64 (i : Int), .int .i64 ((i + 1 : Nat) : Int)] w fun r w' => ∃ v', r = .returned v' ∧ OwnE encN 4 60 w' B v' (l.take i ++ l.drop (i + 1)) ∧ w.grownBy w' v.ownBlock := by
  obtain ⟨i0, hi0, hz0, hz1, hz2⟩ := info_cut infoEn
  rcases h.cases with ⟨rfl, rfl⟩ | ⟨g, cap, rfl, hbg, hgs, hR⟩
  · simp at hi
  · have hle := hR.le
    have hcm : cap ≤ 9223372036854775807 := by have := hR.cm; unfold maxLen at this; omega
    have hdl : (l.drop (i + 1)).length = l.length - (i + 1) := List.length_drop
    have hli : (l.take i).length = i := by rw [List.length_take]; omega
    have hRr := hR.row encN_len
    have hsd : RowE encN 4 w (some ⟨g, (i + 1) * 4, none⟩) (l.length - (i + 1)) (l.drop (i + 1)) := by simpa using hRr.drop (i + 1)
    obtain ⟨A, hA, hsrc⟩ : ∃ A : Addr, (if cap = i + 1 then some (⟨g, 0, none⟩ : Addr) else some ⟨g, (i + 1) * 4, none⟩) = some A ∧ ∀ j u, (cellsE encN (l.drop (i + 1)))[j]? = some u → w.drew.cell? (A.add j) = some u := by
      by_cases h : cap = i + 1
      · refine ⟨⟨g, 0, none⟩, by simp [h], fun j u hu => ?_⟩
        have : l.drop (i + 1) = [] := List.eq_nil_of_length_eq_zero (by omega)
        rw [this] at hu
        simp [cellsE] at hu
      · exact ⟨⟨g, (i + 1) * 4, none⟩, by simp [h], RowE.cells encN_len (by decide) (w := w.drew) hsd⟩
    obtain ⟨w1, hr1, hR1, hT1⟩ := run_appRoomE encN_len encN_one (t := 36) Tryz.underlying36 hi0 hz1 (w := w.drew) (hR.heap rfl) i (by omega) (l.drop (i + 1)) A hsrc (by rw [hdl]; omega)
    have hlen1 : (l.take i ++ l.drop (i + 1)).length = l.length - 1 := by rw [List.length_append, hli, hdl]; omega
    obtain ⟨w2, hr2, hR2, hT2⟩ := run_clearE (by decide) (t := 36) (z := .agg #[.int .u16 0, .int .u32 0, .int .u64 0, .int .u32 0]) Tryz.underlying36 (fun w => by simp [zeroValue, typeInfo, hi0, hz0]) rfl (fun u hu => by simp [Value.cells] at hu; rcases hu with rfl | rfl | rfl | rfl <;> rfl) hR1 (l.length - 1) 1 (by omega) (by omega) ((l.length - 1) * 4) (.inr rfl)
    have hown := hR2.own encN_len hbg
    rw [hlen1] at hown
    have hg : w.grownBy w2 (some g) := ⟨(hT2.os.trans hT1.os), (hT2.tape.trans hT1.tape), (hT2.output.trans hT1.output), by rw [hT2.size, hT1.size]; exact Nat.le_refl _, fun j hj hne => by
      have hjg : j ≠ g := fun e => hne (by rw [e])
      rw [hT2.block j hjg, hT1.block j hjg]; rfl⟩
    have HR := Lib.hid (And.intro hown hg)
    rw [hdl, show i + (l.length - (i + 1)) = l.length - 1 by omega] at hr1
    have hm1 : l.length - 1 + 1 = l.length := by omega
    have hm2 : l.length - (l.length - 1) = 1 := by omega
    have hn1 : ¬ cap = l.length - 1 := by omega
    have hn2 : ¬ ((i : Int) = ((i + 1 : Nat) : Int)) := by omega
    have hn3 : i ≤ cap := by omega
    have hn4 : i + 1 ≤ l.length := by omega
    have hn5 : l.length ≤ cap := by omega
    have hn6 : l.length - 1 ≤ l.length := by omega
    clear h hR hRr hsd hR1 hR2 hT1 hT2 hsrc hown hg hlen1 hi0 hz0 hz1 hz2 hdl hli hgs hbg
    generalize hj : i + 1 = j at *
    have hij : i ≤ j := by omega
    generalize hn : l.length = n at *
    generalize hq : n - 1 = q at *
    go_enter Tryz.func104, Tryz.ntmps104
    go_wp2_with fail
    have hr1' : ∀ c, (Builtin.append_ #[36, 36] 36 #[.slice (some ⟨g, 0, none⟩) i cap, .slice (some A) (n - j) c]).run Tryz.prog w.drew = .ok (.slice (some ⟨g, 0, none⟩) q cap) w1 := fun c => hr1 _ c
    go_region_law (first | (refine step_append_runK (o := ⟨some 26, _, _, _, _, _⟩) rfl _ _ 36 36 rfl (.slice (some ⟨g, 0, none⟩) i cap) (.slice (some A) (n - j) (cap - j)) (by first | rfl | simp [Act.eval, Act.put]) (by first | rfl | simp [Act.eval, Act.put]) (hr1' _) ?_))
    go_wp2_with fail
    go_ret
    exact ⟨_, rfl, HR.out.1, HR.out.2⟩
end Go.Proofs.YtejhbaeeaejcaaaGreat
/- A range over a function whose iterator writes memory of its own: what a caller speaks of is told as a set of blocks, and the iterator keeps out of it. No program. Conditions: those of each theorem. -/
namespace Go.Proofs.YtejhbaeeaejcaaaGreat
open Go Go.RowKit

/-- The blocks of a set are as they were. -/
structure Kept (D : Nat → Prop) (W W' : World) : Prop where
  os : W'.os = W.os
  tape : W'.tape = W.tape
  output : W'.output = W.output
  size : W.heap.size ≤ W'.heap.size
  block : ∀ j, D j → W'.heap[j]? = W.heap[j]?
/-- Of the blocks that there were only those of a set have turned. -/
structure Outs (D : Nat → Prop) (W W' : World) : Prop where
  os : W'.os = W.os
  tape : W'.tape = W.tape
  output : W'.output = W.output
  size : W.heap.size ≤ W'.heap.size
  block : ∀ j, j < W.heap.size → ¬ D j → W'.heap[j]? = W.heap[j]?
theorem Kept.refl (D : Nat → Prop) (W : World) : Kept D W W := ⟨rfl, rfl, rfl, Nat.le_refl _, fun _ _ => rfl⟩
theorem Kept.trans {D : Nat → Prop} {A B C : World} (h : Kept D A B) (k : Kept D B C) : Kept D A C := ⟨k.os.trans h.os, k.tape.trans h.tape, k.output.trans h.output, Nat.le_trans h.size k.size, fun j hj => (k.block j hj).trans (h.block j hj)⟩
theorem Kept.less {D D' : Nat → Prop} {A B : World} (h : Kept D A B) (hs : ∀ j, D' j → D j) : Kept D' A B := ⟨h.os, h.tape, h.output, h.size, fun j hj => h.block j (hs j hj)⟩
theorem Outs.refl (D : Nat → Prop) (W : World) : Outs D W W := ⟨rfl, rfl, rfl, Nat.le_refl _, fun _ _ _ => rfl⟩
theorem Outs.trans {D D' : Nat → Prop} {A B C : World} (h : Outs D A B) (k : Outs D' B C) (hd : ∀ j, D' j → D j ∨ A.heap.size ≤ j) : Outs D A C :=
  ⟨k.os.trans h.os, k.tape.trans h.tape, k.output.trans h.output, Nat.le_trans h.size k.size, fun j hj hn => (k.block j (Nat.lt_of_lt_of_le hj h.size) (fun hd' => (hd j hd').elim hn (fun h2 => by omega))).trans (h.block j hj hn)⟩
theorem Outs.kept {D E : Nat → Prop} {A B : World} (h : Outs D A B) (hE : ∀ j, E j → j < A.heap.size) (hd : ∀ j, E j → ¬ D j) : Kept E A B := ⟨h.os, h.tape, h.output, h.size, fun j hj => h.block j (hE j hj) (hd j hj)⟩
theorem Outs.of_grown {D : Nat → Prop} {A B : World} {row : Option Nat} (h : A.grownBy B row) (hr : ∀ r, row = some r → D r ∨ A.heap.size ≤ r) : Outs D A B := ⟨h.os, h.tape, h.output, h.size, fun j hj hn => h.block j hj (fun e => (hr j e.symm).elim hn (fun h2 => by omega))⟩
theorem Outs.of_below {D : Nat → Prop} {A B : World} (h : Below A.heap.size A B) : Outs D A B := ⟨h.os, h.tape, h.output, h.size, fun j hj _ => h.block j hj⟩
theorem Kept.of_below {D : Nat → Prop} {A B : World} (h : Below A.heap.size A B) (hD : ∀ j, D j → j < A.heap.size) : Kept D A B := ⟨h.os, h.tape, h.output, h.size, fun j hj => h.block j (hD j hj)⟩

/-- What speaks of a set of blocks alone. -/
def Local {β : Type} (J : β → (Nat → Prop) → World → Prop) : Prop := ∀ s D W W', J s D W → Kept D W W' → J s D W'
/-- A set of blocks that grew by new ones. -/
structure Grew (D : Nat → Prop) (W : World) (D' : Nat → Prop) (W' : World) : Prop where
  new : ∀ j, D' j → D j ∨ W.heap.size ≤ j
  lt : ∀ j, D' j → j < W'.heap.size
theorem Grew.trans {D D1 D2 : Nat → Prop} {A B C : World} (h : Grew D A D1 B) (k : Grew D1 B D2 C) (hs : A.heap.size ≤ B.heap.size) : Grew D A D2 C := ⟨fun j hj => (k.new j hj).elim (h.new j) (fun h2 => .inr (by omega)), k.lt⟩
theorem Grew.refl {D : Nat → Prop} {W W' : World} (h : ∀ j, D j → j < W.heap.size) (hs : W.heap.size ≤ W'.heap.size) : Grew D W D W' := ⟨fun _ hj => .inl hj, fun j hj => Nat.lt_of_lt_of_le (h j hj) hs⟩

def SeqSep {α : Type} (F : Fence) (n : Nat) (P : Program) (g : Nat) (lb : Array Value) (encs : α → Array Value) (S Sp : List α → Prop) (X : Nat → Prop) (N : Nat) (w : World) : Prop :=
  ∀ (l : Nat) (J Jx : List α → (Nat → Prop) → World → Prop) (D0 : Nat → Prop) (W : World), Kept X w W → Local J → Local Jx → (∀ j, D0 j → j < W.heap.size) → (∀ j, D0 j → ¬ X j) →
    (∀ pre x D W1, J pre D W1 → (∀ j, D j → j < W1.heap.size) → Kept X w W1 → pre.length < N → Sp (pre ++ [x]) → YieldAt F (n - 1) P l (encs x) W1 fun e W' => ∃ D', Grew D W1 D' W' ∧ Outs D W1 W' ∧
      ((e = .returned (.bool true) ∧ J (pre ++ [x]) D' W') ∨ (e = .returned (.bool false) ∧ Jx (pre ++ [x]) D' W'))) →
    J [] D0 W →
    CallsIn F n P g (#[.func (.yield l) #[] #[]] ++ lb) W fun e W' => (∃ v, e = .returned v) ∧ ∃ D', Grew D0 W D' W' ∧ Outs D0 W W' ∧ ((∃ xs, S xs ∧ J xs D' W') ∨ (∃ pre, Sp pre ∧ Jx pre D' W'))

/-- How a round's body may be left. -/
def sepPost {α : Type} (I : List α → (Nat → Prop) → World → Prop) (Ix : Code → List α → (Nat → Prop) → World → Prop) (xs : List α) (D : Nat → Prop) (W : World) : Exit → Act → World → Prop
  | .normal, _, W' => ∃ D', Grew D W D' W' ∧ Outs D W W' ∧ I xs D' W'
  | .ret, _, W' => ∃ D', Grew D W D' W' ∧ Outs D W W' ∧ Ix .ret xs D' W'
  | .exit id, _, W' => ∃ D', Grew D W D' W' ∧ Outs D W W' ∧ Ix (.exit id) xs D' W'
  | .goto t, _, W' => ∃ D', Grew D W D' W' ∧ Outs D W W' ∧ Ix (.goto t) xs D' W'
  | .panic _, _, _ => False
  | .outgrown, _, _ => False

theorem outs_putObj (D : Nat → Prop) (W : World) (l : Nat) (o : Obj) (h : D l) : Outs D W (W.putObj l o) := Outs.of_grown (grownBy_putObj' W l o) (fun r e => by cases e; exact .inl h)
theorem kept_putObj {D : Nat → Prop} (W : World) (l : Nat) (o : Obj) (h : ¬ D l) (hlt : ∀ j, D j → j < W.heap.size) : Kept D W (W.putObj l o) :=
  ⟨(grownBy_putObj' W l o).os, (grownBy_putObj' W l o).tape, (grownBy_putObj' W l o).output, (grownBy_putObj' W l o).size, fun j hj => (grownBy_putObj' W l o).block j (hlt j hj) (fun e => by cases e; exact h hj)⟩
theorem putObj_size (W : World) (l : Nat) (o : Obj) : W.heap.size ≤ (W.putObj l o).heap.size := (grownBy_putObj' W l o).size

variable {F : Fence} {n : Nat} {P : Program}
/-- A range over such a function, outside a round. -/
theorem wpIn_rangeFunc_sep {α : Type} {g : Operand} {ps : Array Tmp} {assign body : Code} {Q : Exit → Act → World → Prop} {a : Act} {w : World}
    (hro : F.round = none) (h1 : 1 ≤ n) {gf : Nat} {lb : Array Value} (hg : a.eval g = .func (.func gf) #[] lb) (hFg : F.fn gf) (eg : ∀ args w, (callFunc gf args).run P w = .ok (.enter gf args) w)
    {encs : α → Array Value} {S Sp : List α → Prop} {X : Nat → Prop} {N : Nat} {w0 : World} (hseq : SeqSep F (n - 1) P gf lb encs S Sp X N w0) (hX : Kept X w0 w) (hXlt : ∀ j, X j → j < w.heap.size) (hps : ∀ x, (encs x).size = ps.size)
    (I : List α → (Nat → Prop) → World → Prop) (Ix : Code → List α → (Nat → Prop) → World → Prop) (I1 : List α → α → Act → (Nat → Prop) → World → Prop) (hI : Local I) (hIx : ∀ c, Local (Ix c)) (hI1 : ∀ pre x a', Local (fun (_ : Unit) => I1 pre x a'))
    (D0 : Nat → Prop) (hD0 : ∀ j, D0 j → j < w.heap.size) (hDX : ∀ j, D0 j → ¬ X j) (h0 : I [] D0 w)
    (hassign : ∀ (l : Nat) (pre : List α) (x : α) (D : Nat → Prop) (W : World) (K : Act → World → Prop), I pre D W → (∀ j, D j → j < W.heap.size) → Kept X w0 W → (∀ a' D' W', Grew D W D' W' → Outs D W W' → I1 pre x a' D' W' → K a' W') →
      assign.wpIn (F.inRound l) (n - 1 - 1) P (Exit.then K (fun _ _ _ => False)) { tmps := (ps.zip (encs x)).foldl (fun t (p, v) => t.setIfInBounds p v) a.tmps, defers := [] } W)
    (hbody : ∀ (l : Nat) (pre : List α) (x : α) (a' : Act) (D : Nat → Prop) (W : World), w.heap.size ≤ l → (∃ r, W.heap[l]? = some (.loop r)) → ¬ D l → (∀ j, D j → j < W.heap.size) → (∀ j, D j → ¬ X j) → Kept X w0 W → I1 pre x a' D W → pre.length < N → Sp (pre ++ [x]) → body.wpIn (F.inRound l) (n - 1 - 1) P (sepPost I Ix (pre ++ [x]) D W) a' W)
    (hdone : ∀ (Dd : Nat) (xs : List α) (D : Nat → Prop) (W : World), w.heap.size ≤ Dd → S xs → I xs D W → Grew D0 w D W → Outs D0 w W → ¬ D Dd → W.heap[Dd]? = some (.deferred (some [])) → Q .normal { a with defers := { target := .collected Dd, args := #[] } :: a.defers } W)
    (hstop : ∀ (Dd : Nat) (c : Code) (pre : List α) (D : Nat → Prop) (W : World), w.heap.size ≤ Dd → Sp pre → Ix c pre D W → Grew D0 w D W → Outs D0 w W → ¬ D Dd → W.heap[Dd]? = some (.deferred (some [])) → c.wpIn F n P Q { a with defers := { target := .collected Dd, args := #[] } :: a.defers } W) :
    (Code.rangeFunc g ps assign body).wpIn F n P Q a w := by
  refine wpIn_rangeFunc ?_
  intro fn hfn
  rw [hro]
  obtain ⟨rec, hrec⟩ : ∃ rec : LoopState → Option Code → Loop, rec = fun st pe => { state := st, pending := pe, fn, tmps := a.tmps, params := ps, assign, body, defers := w.heap.size } := ⟨_, rfl⟩
  obtain ⟨W1, hW1⟩ : ∃ W1, (w.alloc (.deferred (some []))).alloc (.loop (rec .ready none)) = W1 := ⟨_, rfl⟩
  have hL1 : W1.heap[w.heap.size + 1]? = some (.loop (rec .ready none)) := by
    rw [← hW1]; have := World.alloc_heap_new (w.alloc (.deferred (some []))) (.loop (rec .ready none)); rwa [World.size_alloc] at this
  have hK1 : W1.heap[w.heap.size]? = some (.deferred (some [])) := by
    rw [← hW1]; exact (Below.heap_alloc _ _ _ (by simp)).trans (World.alloc_heap_new w _)
  have hb1 : Below w.heap.size w W1 := by
    rw [← hW1]; exact ((Below.refl _ w).alloc (Nat.le_refl _) _).alloc (by simp) _
  have hs1 : W1.heap.size = w.heap.size + 2 := by rw [← hW1]; simp
  -- the caller's condition, with the two blocks of book-keeping
  obtain ⟨J, hJ⟩ : ∃ J : (Loop → Prop) → (List α → (Nat → Prop) → World → Prop) → List α → (Nat → Prop) → World → Prop, J = fun R I pre D W => ∃ Di, (∀ j, D j ↔ Di j ∨ j = w.heap.size ∨ j = w.heap.size + 1) ∧ I pre Di W ∧ ¬ Di w.heap.size ∧ ¬ Di (w.heap.size + 1) ∧ Grew D0 w Di W ∧
      (∃ r, R r ∧ W.heap[w.heap.size + 1]? = some (.loop r)) ∧ W.heap[w.heap.size]? = some (.deferred (some [])) := ⟨_, rfl⟩
  have hJl : ∀ R I, Local I → Local (J R I) := fun R I hI pre D A B h hk => by
    rw [hJ] at h ⊢
    obtain ⟨Di, hD, hi, n1, n2, hgr, ⟨r, hr, hl⟩, hd⟩ := h
    have hkD : Kept Di A B := hk.less (fun j hj => (hD j).2 (.inl hj))
    exact ⟨Di, hD, hI _ _ _ _ hi hkD, n1, n2, ⟨hgr.new, fun j hj => Nat.lt_of_lt_of_le (hgr.lt j hj) hk.size⟩, ⟨r, hr, (hk.block _ ((hD _).2 (.inr (.inr rfl)))).trans hl⟩, (hk.block _ ((hD _).2 (.inr (.inl rfl)))).trans hd⟩
  have hD1lt : ∀ j, (D0 j ∨ j = w.heap.size ∨ j = w.heap.size + 1) → j < W1.heap.size := fun j hj => by
    rw [hs1]
    rcases hj with h | h | h
    · have := hD0 j h; omega
    · omega
    · omega
  have hnD0 : ¬ D0 w.heap.size := fun h => by have := hD0 _ h; omega
  have hnD1 : ¬ D0 (w.heap.size + 1) := fun h => by have := hD0 _ h; omega
  refine ⟨w.heap.size + 1, [{ target := .collected w.heap.size, args := #[] }], W1, { target := .fn (.func gf) lb, args := #[.func (.yield (w.heap.size + 1)) #[] #[]] }, W1, gf,
    #[.func (.yield (w.heap.size + 1)) #[] #[]] ++ lb, W1, ?_, ?_, ?_, ?_, fun _ => h1, ?_⟩
  · rw [← hW1, hrec]; exact run_enterLoop_outer _ _ _ _ _
  · simp only [resolve, hg]
    simp [go_sem]
  · intro f' hf'; simp [Target.leads] at hf'; subst hf'; exact hFg
  · simp [invoke, go_sem, eg]
  · refine (hseq (w.heap.size + 1) (J (fun r => r = rec .ready none) I) (fun pre D W => ∃ c, J (fun r => r = rec .done (some c)) (Ix c) pre D W) (fun j => D0 j ∨ j = w.heap.size ∨ j = w.heap.size + 1) W1
      (hX.trans (Kept.of_below hb1 hXlt)) (hJl _ _ hI) (fun pre D A B h hk => by obtain ⟨c, hc⟩ := h; exact ⟨c, hJl _ _ (hIx c) pre D A B hc hk⟩) hD1lt (fun j hj hx => by
        have := hXlt j hx
        rcases hj with h | h | h
        · exact hDX j h hx
        · omega
        · omega) ?_ ?_).mono ?_
    · -- one round
      intro pre x D W hJW hDlt hkX hlen hSpx
      rw [hJ] at hJW
      obtain ⟨Di, hD, hi, n1, n2, hgr, ⟨r, rfl, hl⟩, hd⟩ := hJW
      have hlt : w.heap.size + 1 < W.heap.size := (Array.getElem?_eq_some_iff.1 hl).1
      have hy := run_yield (P := P) (args := encs x) hl (by rw [hrec]; exact hps x)
      rw [hrec] at hy
      refine ⟨fn, _, assign, body, hy, roundIn_of_wpIn hfn (hassign _ pre x Di W _ hi (fun j hj => hDlt j ((hD j).2 (.inl hj))) hkX ?_)⟩
      clear hy
      intro a' Da Wa hga hoa hia
      have na1 : ¬ Da w.heap.size := fun h => (hga.new _ h).elim n1 (fun h2 => by omega)
      have na2 : ¬ Da (w.heap.size + 1) := fun h => (hga.new _ h).elim n2 (fun h2 => by omega)
      have hla : Wa.heap[w.heap.size + 1]? = some (.loop (rec .ready none)) := (hoa.block _ hlt n2).trans hl
      have hda : Wa.heap[w.heap.size]? = some (.deferred (some [])) := (hoa.block _ (by omega) n1).trans hd
      have hlta : w.heap.size + 1 < Wa.heap.size := (Array.getElem?_eq_some_iff.1 hla).1
      refine ⟨_, run_beginRound hla (by rw [hrec]), ?_⟩
      obtain ⟨Wb, hWb⟩ : ∃ Wb, Wa.putObj (w.heap.size + 1) (.loop { rec .ready none with state := .busy }) = Wb := ⟨_, rfl⟩
      have hlb : Wb.heap[w.heap.size + 1]? = some (.loop { rec .ready none with state := .busy }) := by rw [← hWb]; exact World.putObj_heap_same hlta
      have hdb : Wb.heap[w.heap.size]? = some (.deferred (some [])) := by rw [← hWb]; exact (World.putObj_heap_other (by omega)).trans hda
      have hkb : Kept Da Wa Wb := by rw [← hWb]; exact kept_putObj Wa _ _ na2 hga.lt
      have hDiX : ∀ j, Di j → ¬ X j := fun j hj hx => (hgr.new j hj).elim (fun h => hDX j h hx) (fun h => by have := hXlt j hx; omega)
      have hXW : ∀ j, X j → j < W.heap.size := fun j hj => by have := hXlt j hj; omega
      have hDaX : ∀ j, Da j → ¬ X j := fun j hj hx => (hga.new j hj).elim (fun h => hDiX j h hx) (fun h => by have := hXW j hx; omega)
      have hkXa : Kept X w0 Wa := hkX.trans (hoa.kept hXW (fun j hj hd => hDiX j hd hj))
      have hkXb : Kept X w0 Wb := by rw [← hWb]; exact hkXa.trans (kept_putObj Wa _ _ (fun h => by have := hXlt _ h; omega) (fun j hj => Nat.lt_of_lt_of_le (hXW j hj) hoa.size))
      rw [hWb]
      refine wpIn_mono (hbody _ pre x a' Da Wb (by omega) ⟨_, hlb⟩ na2 (fun j hj => Nat.lt_of_lt_of_le (hga.lt j hj) hkb.size) hDaX hkXb (hI1 pre x a' () _ _ _ hia hkb) hlen hSpx) ?_
      -- what a way out of the body leaves
      have fin : ∀ (jump : Option Code) (D3 : Nat → Prop) (W3 : World) (Iz : List α → (Nat → Prop) → World → Prop), Local Iz → Grew Da Wb D3 W3 → Outs Da Wb W3 → Iz (pre ++ [x]) D3 W3 →
          (Instr.endRound (w.heap.size + 1) jump).run P W3 = .ok (.bool jump.isNone) (W3.putObj (w.heap.size + 1) (.loop (rec (if jump.isNone then .ready else .done) jump))) ∧
          ∃ D', Grew D W D' (W3.putObj (w.heap.size + 1) (.loop (rec (if jump.isNone then .ready else .done) jump))) ∧ Outs D W (W3.putObj (w.heap.size + 1) (.loop (rec (if jump.isNone then .ready else .done) jump))) ∧
            J (fun r => r = rec (if jump.isNone then .ready else .done) jump) Iz (pre ++ [x]) D' (W3.putObj (w.heap.size + 1) (.loop (rec (if jump.isNone then .ready else .done) jump))) := fun jump D3 W3 Iz hIz hg3 ho3 hi3 => by
        have hl3 : W3.heap[w.heap.size + 1]? = some (.loop { rec .ready none with state := .busy }) := (ho3.block _ (Array.getElem?_eq_some_iff.1 hlb).1 na2).trans hlb
        have hd3 : W3.heap[w.heap.size]? = some (.deferred (some [])) := (ho3.block _ (Array.getElem?_eq_some_iff.1 hdb).1 na1).trans hdb
        have hlt3 := (Array.getElem?_eq_some_iff.1 hl3).1
        have hsb := (Array.getElem?_eq_some_iff.1 hlb).1
        have m1 : ¬ D3 w.heap.size := fun h => (hg3.new _ h).elim na1 (fun h2 => by omega)
        have m2 : ¬ D3 (w.heap.size + 1) := fun h => (hg3.new _ h).elim na2 (fun h2 => by omega)
        have hr := run_endRound (P := P) jump hl3
        rw [hrec] at hr ⊢
        refine ⟨hr, ?_⟩
        rw [← hrec]
        have hs3 := putObj_size W3 (w.heap.size + 1) (.loop (rec (if jump.isNone then .ready else .done) jump))
        have hk4 : Kept D3 W3 (W3.putObj (w.heap.size + 1) (.loop (rec (if jump.isNone then .ready else .done) jump))) := kept_putObj W3 _ _ m2 hg3.lt
        have hsW : W.heap.size ≤ Wb.heap.size := Nat.le_trans hoa.size hkb.size
        have hnew3 : ∀ j, D3 j → Di j ∨ W.heap.size ≤ j := fun j hj => (hg3.new j hj).elim (fun h => hga.new j h) (fun h => .inr (by omega))
        refine ⟨fun j => D3 j ∨ j = w.heap.size ∨ j = w.heap.size + 1, ⟨fun j hj => ?_, fun j hj => ?_⟩, ?_, ?_⟩
        · rcases hj with h | h
          · exact (hnew3 j h).elim (fun h2 => .inl ((hD j).2 (.inl h2))) .inr
          · exact .inl ((hD j).2 (.inr h))
        · rcases hj with h | h | h
          · exact Nat.lt_of_lt_of_le (hg3.lt j h) hs3
          · omega
          · omega
        · have o1 : Outs D W Wa := ⟨hoa.os, hoa.tape, hoa.output, hoa.size, fun j hj hn => hoa.block j hj (fun h => hn ((hD j).2 (.inl h)))⟩
          have o2 : Outs D Wa Wb := by rw [← hWb]; exact outs_putObj D Wa _ _ ((hD _).2 (.inr (.inr rfl)))
          have o3 : Outs (fun j => Da j) Wb W3 := ho3
          have o4 : Outs D W3 (W3.putObj (w.heap.size + 1) (.loop (rec (if jump.isNone then .ready else .done) jump))) := outs_putObj D W3 _ _ ((hD _).2 (.inr (.inr rfl)))
          refine ((o1.trans o2 (fun j hj => .inl hj)).trans o3 (fun j hj => ?_)).trans o4 (fun j hj => .inl hj)
          exact (hga.new j hj).elim (fun h => .inl ((hD j).2 (.inl h))) .inr
        · rw [hJ]
          exact ⟨D3, fun j => Iff.rfl, hIz _ _ _ _ hi3 hk4, m1, m2, ⟨fun j hj => (hnew3 j hj).elim (hgr.new j) (fun h => .inr (by omega)), fun j hj => Nat.lt_of_lt_of_le (hg3.lt j hj) hs3⟩, ⟨_, rfl, World.putObj_heap_same hlt3⟩, (World.putObj_heap_other (by omega)).trans hd3⟩
      rintro e a3 W3 hp
      cases e with
      | normal =>
        obtain ⟨D3, hg3, ho3, hi3⟩ := hp
        obtain ⟨hr, D', q1, q2, q3⟩ := fin none D3 W3 I hI hg3 ho3 hi3
        exact ⟨_, _, hr, D', q1, q2, .inl ⟨rfl, q3⟩⟩
      | ret =>
        obtain ⟨D3, hg3, ho3, hi3⟩ := hp
        obtain ⟨hr, D', q1, q2, q3⟩ := fin (some .ret) D3 W3 (Ix .ret) (hIx _) hg3 ho3 hi3
        exact ⟨_, _, hr, D', q1, q2, .inr ⟨rfl, .ret, q3⟩⟩
      | exit id =>
        obtain ⟨D3, hg3, ho3, hi3⟩ := hp
        obtain ⟨hr, D', q1, q2, q3⟩ := fin (some (.exit id)) D3 W3 (Ix (.exit id)) (hIx _) hg3 ho3 hi3
        exact ⟨_, _, hr, D', q1, q2, .inr ⟨rfl, .exit id, q3⟩⟩
      | goto t =>
        obtain ⟨D3, hg3, ho3, hi3⟩ := hp
        obtain ⟨hr, D', q1, q2, q3⟩ := fin (some (.goto t)) D3 W3 (Ix (.goto t)) (hIx _) hg3 ho3 hi3
        exact ⟨_, _, hr, D', q1, q2, .inr ⟨rfl, .goto t, q3⟩⟩
      | panic ch => exact hp.elim
      | outgrown => exact hp.elim
    · rw [hJ]
      exact ⟨D0, fun j => Iff.rfl, hI _ _ _ _ h0 (Kept.of_below hb1 hD0), hnD0, hnD1, ⟨fun j hj => .inl hj, fun j hj => hD1lt j (.inl hj)⟩, ⟨_, rfl, hL1⟩, hK1⟩
    · -- behind the iterator
      have out : ∀ (D' : Nat → Prop) (W2 : World), Outs (fun j => D0 j ∨ j = w.heap.size ∨ j = w.heap.size + 1) W1 W2 → Outs D0 w W2 := fun D' W2 ho =>
        (Outs.of_below (D := D0) hb1).trans ho (fun j hj => by
          rcases hj with h | h | h
          · exact .inl h
          · exact .inr (by omega)
          · exact .inr (by omega))
      rintro e W2 ⟨⟨v, rfl⟩, D', hg2, ho2, (⟨xs, hS, hj⟩ | ⟨pre, hSp, c, hj⟩)⟩
      · rw [hJ] at hj
        obtain ⟨Di, hD, hi, n1, n2, hgr, ⟨r, rfl, hl⟩, hd⟩ := hj
        have hsz := putObj_size W2 (w.heap.size + 1) (.loop { rec .ready none with state := .exhausted })
        refine ⟨none, _, by have := run_endLoop (P := P) hl (by rw [hrec]; simp); rw [hrec] at this; exact this, ?_⟩
        refine hdone _ xs Di _ (Nat.le_refl _) hS (hI _ _ _ _ hi (kept_putObj W2 _ _ n2 hgr.lt)) ⟨hgr.new, fun j hj => Nat.lt_of_lt_of_le (hgr.lt j hj) (putObj_size _ _ _)⟩ ((out D' W2 ho2).trans (outs_putObj (fun j => j = w.heap.size + 1) W2 _ _ rfl) (fun j hj => .inr (by omega))) n1 ((World.putObj_heap_other (by omega)).trans hd)
      · rw [hJ] at hj
        obtain ⟨Di, hD, hi, n1, n2, hgr, ⟨r, rfl, hl⟩, hd⟩ := hj
        refine ⟨some c, _, by have := run_endLoop (P := P) hl (by rw [hrec]; simp); rw [hrec] at this; exact this, ?_⟩
        refine hstop _ c pre Di _ (Nat.le_refl _) hSp (hIx c _ _ _ _ hi (kept_putObj W2 _ _ n2 hgr.lt)) ⟨hgr.new, fun j hj => Nat.lt_of_lt_of_le (hgr.lt j hj) (putObj_size _ _ _)⟩ ((out D' W2 ho2).trans (outs_putObj (fun j => j = w.heap.size + 1) W2 _ _ rfl) (fun j hj => .inr (by omega))) n1 ((World.putObj_heap_other (by omega)).trans hd)
end Go.Proofs.YtejhbaeeaejcaaaGreat
/- The walks of container/heap's down, Push, Pop at blocks that are free; of the row only what it holds is told. Conditions: those of each theorem. -/
namespace Go.Proofs.YtejhbaeeaejcaaaGreat
open Go.RowKit

set_option maxRecDepth 100000 in
set_option maxHeartbeats 1500000 in
theorem down_any {p g c : Nat} {mv : Value} {F : List Nat} {w : World} (h : HeapW w p g c mv F) (i0 n : Nat) (hi0 : i0 < F.length) (hn : n ≤ F.length) (hF : F.length ≤ 100000) :
    Calls Tryz.prog 92 #[.iface 122 (.pointer (some ⟨p, 0, none⟩)), .int .i64 (i0 : Int), .int .i64 (n : Int)] w fun e w' => (∃ v, e = .returned v) ∧ ∃ F', F'.Perm F ∧ HeapW w' p g c mv F' ∧ w.grownBy w' (some g) := by
  have HH := Lib.hid h
  have hf := fnLess
  have hf2 := fnSwap
  clear h
  go_enter Tryz.func92, Tryz.ntmps92
  go_wp2_with fail
  go_loopw [7] (fun u7 wr => ∃ (j : Nat) (F' : List Nat), u7 = .int .i64 j ∧ j < F.length ∧ F'.Perm F ∧ HeapW wr p g c mv F' ∧ w.grownBy wr (some g)) (fun u7 _ => F.length - (intOf u7).toNat)
  case atStart => exact ⟨i0, F, rfl, hi0, List.Perm.refl _, HH.out, World.grownBy.refl _ _⟩
  case round =>
    obtain ⟨j, F', rfl, hj, hP, hW, hG⟩ := hrel
    have hlen := perm_len hP
    have HW := Lib.hid hW
    have HG := Lib.hid hG
    have HP := Lib.hid hP
    have hc := hW.cell
    rw [hlen] at hc
    have hv := inv_less p _ wr hc
    have s1 : IntKind.i64.wrap (2 * (j : Int)) = 2 * (j : Int) := IntWalk.i64_in _ (by omega)
    have s2 : IntKind.i64.wrap (2 * (j : Int) + 1) = ((2 * j + 1 : Nat) : Int) := by rw [IntWalk.i64_in _ (by omega)]; omega
    have s4 : IntKind.i64.wrap (((2 * j + 1 : Nat) : Int) + 1) = ((2 * j + 1 + 1 : Nat) : Int) := by rw [IntWalk.i64_in _ (by omega)]; omega
    obtain ⟨m1, hm1⟩ : ∃ m1, m1 = 2 * j + 1 + 1 := ⟨_, rfl⟩
    rw [← hm1] at s4
    obtain ⟨m, hm⟩ : ∃ m, m = 2 * j + 1 := ⟨_, rfl⟩
    rw [← hm] at s2 s4 hm1
    obtain ⟨n0, hn0⟩ : ∃ n0, n0 = F.length := ⟨_, rfl⟩
    rw [← hn0] at hlen hc hv hj hn hi0 hF ⊢
    have g2 : ¬ ((m : Int) < 0) := by omega
    have hjm : j < m := by omega
    have hmm : m < m1 := by omega
    clear hW hG hP hn0 hm hm1
    by_cases h1 : m < n
    · have g1 : ¬ ((n : Int) ≤ (m : Int)) := by omega
      by_cases h2 : m1 < n
      · have g3 : ((m1 : Int) < (n : Int)) := by omega
        have HL := Lib.hid (rowLess_any HW.out n0 m1 m hlen.symm (by omega) (by omega) (by omega))
        go_wp2_with fail
        refine HL.out.mono ?_
        rintro e w1 ⟨⟨b, rfl⟩, q1, rfl⟩
        have HW1 := Lib.hid (HW.out.drewN q1)
        have HG1 := Lib.hid (grown_drewN HG.out q1)
        have hc1 := HW1.out.cell
        rw [hlen] at hc1
        have hv1 := inv_less p _ _ hc1
        cases b
        · have HLx := Lib.hid (rowLess_any HW1.out n0 m j hlen.symm (by omega) (by omega) (by omega))
          go_wp2_with fail
          refine HLx.out.mono ?_
          rintro e w2 ⟨⟨b, rfl⟩, q2, rfl⟩
          have HW2 := Lib.hid (HW.out.drewN (q1 + q2))
          have HG2 := Lib.hid (grown_drewN HG.out (q1 + q2))
          have hc2 := HW2.out.cell
          rw [hlen] at hc2
          have hv2 := inv_swap p _ _ hc2
          cases b
          · go_wp2_with fail
            go_ret
            exact ⟨⟨_, rfl⟩, F', HP.out, HW2.out, HG2.out⟩
          · have HS := Lib.hid (rowSwap_any HW2.out n0 j m hlen.symm (by omega) (by omega) (by omega))
            go_wp2_with fail
            refine HS.out.mono ?_
            rintro e w3 ⟨rfl, F2, hP2, hW3, hg3⟩
            have HR := Lib.hid (And.intro (hP2.trans HP.out) (And.intro hW3 (HG2.out.trans hg3)))
            clear hP2 hW3 hg3
            go_wp2_with fail
            go_roundw
            case rel => exact ⟨m, F2, rfl, by omega, HR.out.1, HR.out.2.1, HR.out.2.2⟩
            case measure => simp [intOf]; omega
        · have HLx := Lib.hid (rowLess_any HW1.out n0 m1 j hlen.symm (by omega) (by omega) (by omega))
          go_wp2_with fail
          refine HLx.out.mono ?_
          rintro e w2 ⟨⟨b, rfl⟩, q2, rfl⟩
          have HW2 := Lib.hid (HW.out.drewN (q1 + q2))
          have HG2 := Lib.hid (grown_drewN HG.out (q1 + q2))
          have hc2 := HW2.out.cell
          rw [hlen] at hc2
          have hv2 := inv_swap p _ _ hc2
          cases b
          · go_wp2_with fail
            go_ret
            exact ⟨⟨_, rfl⟩, F', HP.out, HW2.out, HG2.out⟩
          · have HS := Lib.hid (rowSwap_any HW2.out n0 j m1 hlen.symm (by omega) (by omega) (by omega))
            go_wp2_with fail
            refine HS.out.mono ?_
            rintro e w3 ⟨rfl, F2, hP2, hW3, hg3⟩
            have HR := Lib.hid (And.intro (hP2.trans HP.out) (And.intro hW3 (HG2.out.trans hg3)))
            clear hP2 hW3 hg3
            go_wp2_with fail
            go_roundw
            case rel => exact ⟨m1, F2, rfl, by omega, HR.out.1, HR.out.2.1, HR.out.2.2⟩
            case measure => simp [intOf]; omega
      · have g3 : ¬ ((m1 : Int) < (n : Int)) := by omega
        have HLx := Lib.hid (rowLess_any HW.out n0 m j hlen.symm (by omega) (by omega) (by omega))
        go_wp2_with fail
        refine HLx.out.mono ?_
        rintro e w2 ⟨⟨b, rfl⟩, q2, rfl⟩
        have HW2 := Lib.hid (HW.out.drewN q2)
        have HG2 := Lib.hid (grown_drewN HG.out q2)
        have hc2 := HW2.out.cell
        rw [hlen] at hc2
        have hv2 := inv_swap p _ _ hc2
        cases b
        · go_wp2_with fail
          go_ret
          exact ⟨⟨_, rfl⟩, F', HP.out, HW2.out, HG2.out⟩
        · have HS := Lib.hid (rowSwap_any HW2.out n0 j m hlen.symm (by omega) (by omega) (by omega))
          go_wp2_with fail
          refine HS.out.mono ?_
          rintro e w3 ⟨rfl, F2, hP2, hW3, hg3⟩
          have HR := Lib.hid (And.intro (hP2.trans HP.out) (And.intro hW3 (HG2.out.trans hg3)))
          clear hP2 hW3 hg3
          go_wp2_with fail
          go_roundw
          case rel => exact ⟨m, F2, rfl, by omega, HR.out.1, HR.out.2.1, HR.out.2.2⟩
          case measure => simp [intOf]; omega
    · have g1 : ((n : Int) ≤ (m : Int)) := by omega
      clear hlen hv
      go_wp2_with fail
      go_ret
      exact ⟨⟨_, rfl⟩, F', HP.out, HW.out, HG.out⟩

/-- A list's block: the row, which may be none, and a value beside it. -/
def HeapV (w : World) (p : Nat) (v mv : Value) (F : List Nat) : Prop := w.heap[p]? = some (.cells #[v, mv] 116 (0, 0)) ∧ w.ownsRow 0 24 1 v F.length (F.map uV)
theorem HeapV.row {w : World} {p : Nat} {v mv : Value} {F : List Nat} (h : HeapV w p v mv F) (hF : F ≠ []) : ∃ g c, v = .slice (some ⟨g, 0, none⟩) F.length c ∧ HeapW w p g c mv F := by
  rcases h.2.2 with ⟨e, h0⟩ | ⟨g, cap, cur, e, h0⟩
  · exact absurd (List.eq_nil_of_length_eq_zero h0) hF
  · subst e
    exact ⟨g, cap, rfl, h⟩
theorem HeapV.ne {w : World} {p : Nat} {v mv : Value} {F : List Nat} (h : HeapV w p v mv F) : some p ≠ v.ownBlock := by
  rcases h.2.2 with ⟨rfl, _⟩ | ⟨g', cap, cur, rfl, _, hh, _⟩
  · intro e; cases e
  · intro e
    cases e
    rw [h.1] at hh
    cases hh
theorem pushU_run {w : World} {v : Value} {F : List Nat} (h : w.ownsRow 0 24 1 v F.length (F.map uV)) (x : Nat) (hl : F.length ≤ 1000000) :
    ∃ v' w', (Builtin.append_ #[114, 114] 114 #[v, .slice (some ⟨w.heap.size, 0, none⟩) 1 1]).run Tryz.prog (w.alloc (.cells #[.int .u32 (x : Int)] 24)) = .ok v' w' ∧ w'.ownsRow 0 24 1 v' (F ++ [x]).length ((F ++ [x]).map uV) ∧ w.grownBy w' v.ownBlock ∧ (v'.ownBlock = v.ownBlock ∨ ∃ g, v'.ownBlock = some g ∧ w.heap.size ≤ g) := by
  obtain ⟨i0, hi, hz0, hz1, hz2⟩ := info_cut infoU
  obtain ⟨v', w', hr, ho, hg, -, hat⟩ := run_append_own_at (P := Tryz.prog) (w.alloc (.cells #[.int .u32 (x : Int)] 24)) 0 114 114 24 i0 _ 1 4 Tryz.underlying114 hi hz0 hz1 hz2 rfl (by decide) v F.length _ (h.alloc _) ⟨w.heap.size, 0, none⟩ 1 1 [uV x] rfl (cells_new w [uV x] 24) (fun u hu => by
    simp only [List.mem_singleton] at hu
    subst hu
    rfl) (by unfold maxLen; omega) (by omega) (by omega)
  refine ⟨v', w', hr, ?_, grown_of_alloc hg, ?_⟩
  · rw [List.length_append, List.map_append]
    exact ho
  · rcases hat with h | h
    · exact .inl h
    · exact .inr ⟨_, h, by simp⟩

set_option maxRecDepth 100000 in
set_option maxHeartbeats 4000000 in
theorem rowPush_any {w : World} {p : Nat} {v mv : Value} {F : List Nat} (h : HeapV w p v mv F) (x : Nat) (hk : F.length ≤ 100000) :
    Calls Tryz.prog 168 #[.pointer (some ⟨p, 0, none⟩), .iface 24 (.int .u32 (x : Int))] w fun e w' => e = .returned (.tuple #[]) ∧ (∃ g c, HeapW w' p g c mv (F ++ [x]) ∧ (v.ownBlock = some g ∨ w.heap.size ≤ g)) ∧ Outs (fun j => j = p ∨ v.ownBlock = some j) w w' := by
  have hne := h.ne
  obtain ⟨h1, h2⟩ := h
  have hpl := (Array.getElem?_eq_some_iff.1 h1).1
  obtain ⟨v', w1, hr, hown, hg, hat⟩ := pushU_run (w := w.drew) h2 x (by omega)
  have hne1 : F ++ [x] ≠ [] := by simp
  have h1' : w1.heap[p]? = some (.cells #[v, mv] 116 (0, 0)) := (hg.block p hpl hne).trans h1
  have c0 : w.cell? ⟨p, 0, none⟩ = some v := by simp [World.cell?, h1]
  have c1 : w1.cell? ⟨p, 0, none⟩ = some v := by simp [World.cell?, h1']
  have f1 : w1.frozen? ⟨p, 0, none⟩ = false := by simp [World.frozen?, h1']
  have hne' : v'.ownBlock ≠ some p := fun e => by
    rcases hat with e2 | ⟨g, e2, hge⟩
    · exact hne (e.symm.trans e2)
    · have := Option.some.inj (e.symm.trans e2)
      have hs : w.drew.heap.size = w.heap.size := rfl
      omega
  have hfin : HeapV (w1.setCell ⟨p, 0, none⟩ v') p v' mv (F ++ [x]) := ⟨heap_setCell_same w1 p 0 #[v, mv] 116 _ h1', hown.kept (grown_cell w1 ⟨p, 0, none⟩ v') (.inr hne')⟩
  have hout : Outs (fun j => j = p ∨ v.ownBlock = some j) w (w1.setCell ⟨p, 0, none⟩ v') := ⟨hg.os, hg.tape, hg.output, by rw [World.size_setCell]; exact hg.size, fun j hj hn => by
    rw [heap_setCell_other w1 ⟨p, 0, none⟩ j _ (fun e => hn (.inl e))]
    exact hg.block j hj (fun e => hn (.inr e.symm))⟩
  have has := assertU (x : Int) w.drew
  obtain ⟨g, c, rfl, hW⟩ := hfin.row hne1
  have hL : (F ++ [x]).length = F.length + 1 := by simp
  rw [hL] at hW hout hr
  have HF := Lib.hid hW
  have HA := Lib.hid hat
  have HO := Lib.hid hout
  clear hL h2 hown hg hW hfin hout h1 h1' hat hne hne'
  go_enter Tryz.func168, Tryz.ntmps168
  go_wp2_with fail
  go_region_law (first | (refine step_append_runK (o := ⟨some 11, _, _, _, _, _⟩) rfl _ _ _ _ rfl _ _ rfl rfl hr ?_))
  all_goals
    go_wp2_with fail
    go_end0
    refine ⟨rfl, ?_, HO.out⟩
    refine ⟨g, c, HF.out, ?_⟩
    rcases HA.out with e | ⟨g', e, hge⟩
    · exact .inl e.symm
    · cases e
      exact .inr hge

theorem HeapW.cut {w : World} {p g c : Nat} {mv : Value} {F : List Nat} (h : HeapW w p g c mv F) : HeapW (w.setCell ⟨p, 0, none⟩ (.slice (some ⟨g, 0, none⟩) (F.length - 1) c)) p g c mv F.dropLast := by
  have hne := h.ne
  obtain ⟨h1, h2, h3⟩ := h
  have hd : F.dropLast.length = F.length - 1 := List.length_dropLast
  refine ⟨by rw [hd]; exact heap_setCell_same w p 0 #[.slice (some ⟨g, 0, none⟩) F.length c, mv] 116 _ h1, by simp, .inr ?_⟩
  rcases h3 with ⟨e, _⟩ | ⟨g', cap, cur, e, hb, hh, hnc, hcm, hcs, ht⟩
  · cases e
  · cases e
    refine ⟨g, c, cur, by rw [hd], hb, by rw [heap_setCell_other w ⟨p, 0, none⟩ g _ (fun e => hne e.symm)]; exact hh, by rw [hd]; omega, hcm, hcs, ?_⟩
    rw [Nat.mul_one] at ht ⊢
    rw [hd, List.map_dropLast, List.dropLast_eq_take, List.length_map, ← ht, List.take_take]
    congr 1
    omega
set_option maxRecDepth 100000 in
set_option maxHeartbeats 4000000 in
theorem rowPop_any {w : World} {p g c : Nat} {mv : Value} {F : List Nat} (h : HeapW w p g c mv F) (x : Nat) (hx : F[F.length - 1]? = some x) (hk : F.length ≤ 100000) :
    Calls Tryz.prog 167 #[.pointer (some ⟨p, 0, none⟩)] w fun e w' => e = .returned (.iface 24 (.int .u32 (x : Int))) ∧ HeapW w' p g c mv F.dropLast ∧ w.grownBy w' (some p) := by
  have c0 := h.cell
  have c1 := h.at hx
  have f0 : w.frozen? ⟨p, 0, none⟩ = false := by simp [World.frozen?, h.1]
  have hlt := (List.getElem?_eq_some_iff.1 hx).1
  have HF := Lib.hid (And.intro h.cut (grown_cell w ⟨p, 0, none⟩ (.slice (some ⟨g, 0, none⟩) (F.length - 1) c)))
  have hcap : F.length ≤ c := by
    rcases h.2.2 with ⟨e, _⟩ | ⟨g', cap, cur, e, hb, hh, hnc, _⟩
    · cases e
    · cases e; exact hnc
  have s1 : IntKind.i64.wrap ((F.length : Int) - 1) = ((F.length - 1 : Nat) : Int) := by rw [IntWalk.i64_in _ (by omega)]; omega
  have hm : F.length - 1 < F.length := by omega
  have hmc : F.length - 1 ≤ c := by omega
  clear h hx hlt
  generalize F.length - 1 = m at *
  generalize F.length = n at *
  have g0 : (0 : Int) ≤ (m : Int) := by omega
  have g1 : (m : Int) < (n : Int) := by omega
  have g2 : (m : Int) ≤ (c : Int) := by omega
  have g3 : ¬ ((m : Int) < 0) := by omega
  go_enter Tryz.func167, Tryz.ntmps167
  go_wp2_with fail
  go_ret
  exact ⟨rfl, HF.out.1, HF.out.2⟩

theorem Outs.turn {D : Nat → Prop} {w w' : World} {g : Nat} (h : w.grownBy w' (some g)) (hD : D g) : Outs D w w' := ⟨h.os, h.tape, h.output, h.size, fun j hj hn => h.block j hj (fun e => hn (by cases e; exact hD))⟩

set_option maxRecDepth 100000 in
set_option maxHeartbeats 4000000 in
theorem heapPush_any {w : World} {p : Nat} {v mv : Value} {F : List Nat} (h : HeapV w p v mv F) (x : Nat) (hk : F.length < 100000) :
    Calls Tryz.prog 91 #[.iface 122 (.pointer (some ⟨p, 0, none⟩)), .iface 24 (.int .u32 (x : Int))] w fun e w' => e = .returned (.tuple #[]) ∧ (∃ g c F', F'.Perm (F ++ [x]) ∧ HeapW w' p g c mv F' ∧ (v.ownBlock = some g ∨ w.heap.size ≤ g)) ∧ Outs (fun j => j = p ∨ v.ownBlock = some j) w w' := by
  have HP := Lib.hid (rowPush_any h x (by omega))
  have hi := inv_push p w
  have hf := fnPush
  clear h
  go_enter Tryz.func91, Tryz.ntmps91
  go_wp2_with fail
  refine HP.out.mono ?_
  clear HP hi hf
  rintro e w2 ⟨rfl, ⟨g, c, hF, hat⟩, hO⟩
  have hL : (F ++ [x]).length = F.length + 1 := by simp
  have hc := hF.cell
  have hi := inv_len p _ w2 hc
  have hf := fnLen
  have HU := Lib.hid (up_any hF F.length (by omega) (by omega))
  have HF := Lib.hid (And.intro hF (And.intro hat hO))
  rw [hL] at hc hi
  have s1 : IntKind.i64.wrap (((F.length + 1 : Nat) : Int) - 1) = (F.length : Int) := by rw [IntWalk.i64_in _ (by omega)]; omega
  have s2 : IntKind.i64.wrap ((F.length : Int) + 1 - 1) = (F.length : Int) := by rw [IntWalk.i64_in _ (by omega)]; omega
  clear hF hat hO hL
  go_wp2_with fail
  refine (rowLen_any (some ⟨g, 0, none⟩) (F.length + 1) c w2).mono ?_
  rintro e w3 ⟨rfl, rfl⟩
  go_wp2_with fail
  refine HU.out.mono ?_
  rintro e w4 ⟨rfl, F', hP, hW, hg⟩
  have HR := Lib.hid (And.intro hP (And.intro hW hg))
  clear hP hW hg
  go_wp2_with fail
  go_end0
  obtain ⟨hF, hat, hO⟩ := HF.out
  obtain ⟨hP, hW, hg⟩ := HR.out
  refine ⟨rfl, ⟨g, c, F', hP, hW, hat⟩, ⟨hg.os.trans hO.os, hg.tape.trans hO.tape, hg.output.trans hO.output, Nat.le_trans hO.size hg.size, fun j hj hn => ?_⟩⟩
  rw [hg.block j (Nat.lt_of_lt_of_le hj hO.size) (fun e => by
    rcases hat with e2 | e2
    · exact hn (.inr (e2.trans e.symm))
    · have := Option.some.inj e
      omega)]
  exact hO.block j hj hn

set_option maxRecDepth 100000 in
set_option maxHeartbeats 4000000 in
theorem heapPop_any {w : World} {p g c : Nat} {mv : Value} {F : List Nat} (h : HeapW w p g c mv F) (hne : F ≠ []) (hk : F.length < 100000) :
    Calls Tryz.prog 65 #[.iface 122 (.pointer (some ⟨p, 0, none⟩))] w fun e w' => ∃ (x : Nat) (F' : List Nat), e = .returned (.iface 24 (.int .u32 (x : Int))) ∧ (x :: F').Perm F ∧ HeapW w' p g c mv F' ∧ Outs (fun j => j = p ∨ j = g) w w' := by
  have hl : 0 < F.length := List.length_pos_iff.2 hne
  have s1 : IntKind.i64.wrap ((F.length : Int) - 1) = ((F.length - 1 : Nat) : Int) := by rw [IntWalk.i64_in _ (by omega)]; omega
  have HS := Lib.hid (rowSwap_any h F.length 0 (F.length - 1) rfl hl (by omega) (by omega))
  have hc := h.cell
  have hi := inv_len p _ w hc
  have hi2 := inv_swap p _ w hc
  have hf := fnLen
  have hf2 := fnSwap
  clear h
  have HK := Lib.hid (And.intro hl hk)
  have HM := Lib.hid (show F.length - 1 + 1 = F.length by omega)
  obtain ⟨n, hn⟩ : ∃ n, n = F.length := ⟨_, rfl⟩
  obtain ⟨m, hm⟩ : ∃ m, m = F.length - 1 := ⟨_, rfl⟩
  rw [← hm, ← hn] at s1 HS
  rw [← hn] at hc hi hi2
  have HE := Lib.hid (And.intro hn hm)
  clear hn hm hl hk hne
  go_enter Tryz.func65, Tryz.ntmps65
  go_wp2_with fail
  refine (rowLen_any (some ⟨g, 0, none⟩) n c w).mono ?_
  rintro e w1 ⟨rfl, rfl⟩
  go_wp2_with fail
  refine HS.out.mono ?_
  clear HS hc hi hi2
  rintro e w2 ⟨rfl, F2, hP2, hW2, hg2⟩
  have hl2 := perm_len hP2
  have HD := Lib.hid (down_any hW2 0 m (by have := HK.out.1; omega) (by have := HE.out.2; omega) (by have := HK.out.2; omega))
  have HR2 := Lib.hid (And.intro hP2 (And.intro hW2 hg2))
  clear hP2 hW2 hg2 hl2
  go_wp2_with fail
  refine HD.out.mono ?_
  clear HD
  rintro e w3 ⟨⟨vv, rfl⟩, F3, hP3, hW3, hg3⟩
  have hl3 := perm_len hP3
  have hl2 := perm_len HR2.out.1
  have hlen : F3.length = F.length := hl3.trans hl2
  have hne3 : F3 ≠ [] := by
    have := HK.out.1
    intro e
    rw [e] at hlen
    simp at hlen
    omega
  have hx : F3[F3.length - 1]? = some (F3.getLast hne3) := by rw [← List.getLast?_eq_getElem?, List.getLast?_eq_some_getLast hne3]
  have HP := Lib.hid (rowPop_any hW3 _ hx (by have := HK.out.2; omega))
  have HX := Lib.hid (List.dropLast_concat_getLast hne3)
  have hi3 := inv_pop p w3
  have hf3 := fnPop
  have HR3 := Lib.hid (And.intro hP3 (And.intro hW3 hg3))
  generalize F3.getLast hne3 = x at *
  clear hP3 hW3 hg3 hl3 hl2 hlen hx hne3
  go_wp2_with fail
  refine HP.out.mono ?_
  rintro e w4 ⟨rfl, hW4, hg4⟩
  have HR4 := Lib.hid (And.intro hW4 hg4)
  clear hW4 hg4
  go_wp2_with fail
  go_ret
  refine ⟨x, F3.dropLast, rfl, ?_, HR4.out.1, (Outs.turn HR2.out.2.2 (.inr rfl)).trans ((Outs.turn HR3.out.2.2 (.inr rfl)).trans (Outs.turn HR4.out.2 (.inl rfl)) (fun j hj => .inl hj)) (fun j hj => .inl hj)⟩
  have h1 := HX.out
  have h2 : (x :: F3.dropLast).Perm F3 := by
    rw [← h1] 
    simpa using (List.perm_append_singleton x F3.dropLast).symm
  exact h2.trans (HR3.out.1.trans HR2.out.1)
end Go.Proofs.YtejhbaeeaejcaaaGreat
