/- The walk of the law ScriptBack: it returns true and writes nothing that was there. Conditions: those of the theorem. Printed by wip/mkscriptback.py. -/
import Derived.Test.YtljbehndnledpaaScriptBackPlain
import Derived.Laws.OwnMore
namespace Go.Proofs.Ytljbehndnledpaa
open Go.RowKit

theorem zeros_16385 (w : World) (Z : List UInt8) (hZ : Z = List.replicate 16385 0) : ∃ w', (Instr.makeSlice 37 (.int .i64 16385) (.int .i64 16385)).run Try.prog w = .ok (.slice (some ⟨w.heap.size, 0, none⟩) 16385 16385) w' ∧ (convert 37 9 (.slice (some ⟨w.heap.size, 0, none⟩) 16385 16385)).run Try.prog w' = .ok (.string ⟨Z.toArray⟩) w' ∧ w.grownBy w' none := by
  obtain ⟨i0, hi, hz0, hz1, hz2⟩ := info_parts info5
  obtain ⟨w', hr, ho, hg⟩ := run_make_full (P := Try.prog) (w := w) w.heap.size 37 5 i0 (.int .u8 0) 1 Try.underlying37 hi hz0 hz1 .i64 .i64 16385 (by rw [hz2]; omega) (by unfold maxLen; omega) (Nat.le_refl _)
  have e : (madeCells (Value.int .u8 0).cells (16385 * 1)).toList = cellsOfB Z := by
    rw [hZ]
    show (madeCells #[Value.int .u8 0] (16385 * 1)).toList = _
    rw [toList_madeCells_one]
    unfold cellsOfB
    rw [List.map_replicate]
    rfl
  rw [e] at ho
  obtain ⟨a, c, he, hb, _⟩ := own_bs ho
  simp only [Value.slice.injEq] at he
  obtain ⟨rfl, -, rfl⟩ := he
  exact ⟨w', hr, hb.str, hg⟩

/-- What is told of each operation that came in. -/
def opFine (q : PO) : Prop := 0 ≤ q.pt ∧ q.pt < 18446744073709551616
theorem rights_snoc (l : List PO) (i : Nat) (q : PO) (h : l[i]? = some q) : (rights (l.take (i + 1))).map PO.plain = (rights (l.take i)).map PO.plain ++ (if q.right then [q.plain] else []) := by
  rw [List.take_add_one, h]
  unfold rights
  simp only [Option.toList_some, List.filter_append, List.map_append]
  congr 1
  cases hq : q.right <;> simp [List.filter, hq]
theorem rights_len (l : List PO) : (rights l).length ≤ l.length := List.length_filter_le _ _

set_option maxRecDepth 100000 in
set_option maxHeartbeats 16000000 in
theorem scriptBack_law (a : Option Addr) (n c : Nat) (l : List PO) (w : World) (h : Ops w a n l) (hf : ∀ q ∈ l, opFine q) :
    Calls Try.prog 13 #[.slice a n c] w fun e w' => e = .returned (.bool true) ∧ Below w.heap.size w w' := by
  by_cases hbig : 40 < n
  · have hbi : (40 : Int) < (n : Int) := by omega
    clear h hf
    go_enter Try.func13, Try.ntmps13
    go_wp2_with fail
    go_ret
    exact ⟨rfl, Below.refl _ _⟩
  · have hbi : ¬ (40 : Int) < (n : Int) := by omega
    have HLL := Lib.hid h.1
    have H := Lib.hid h
    have HF := Lib.hid hf
    clear h hf
    go_enter Try.func13, Try.ntmps13
    go_wp2_with fail
    go_loopw [3, 4] (fun u3 u4 wr => ∃ i : Nat, i ≤ n ∧ u4 = .int .i64 i ∧ OwnOps wr w.heap.size u3 ((rights (l.take i)).map PO.plain) ∧ Hid (∀ q ∈ l.take i, q.d.length ≤ 300 ∧ q.m.length ≤ 100) ∧ Below w.heap.size w wr) (fun _ u4 _ => n - (intOf u4).toNat)
    case atStart => exact ⟨0, by omega, rfl, OwnOps.nil _ _, Lib.hid (by simp), Below.refl _ _⟩
    case round =>
      obtain ⟨i, hi, rfl, hown, HSM, hbw⟩ := hrel
      by_cases hlt : i < n
      · obtain ⟨q, hq⟩ : ∃ q, l[i]? = some q := ⟨_, List.getElem?_eq_getElem (by rw [HLL.out]; exact hlt)⟩
        have hqf := HF.out q (List.mem_of_getElem? hq)
        have hsn := rights_snoc l i q hq
        obtain ⟨b1, p1, da, ma, dc, mc, rfl, hs1, hd1, hm1⟩ := (H.out.below hbw (Nat.le_refl _)).cells i q hq
        obtain ⟨c0, c1, c2, c3, c4, c5, c6, c7⟩ := hs1
        have hb1 : b1 < wr.heap.size := World.block_lt_of_cell? _ _ c0
        have hi0 : (0 : Int) ≤ (i : Int) := by omega
        have hi1 : (i : Int) < (n : Int) := by omega
        have hgr := great_any q.k q.v q.i q.b q.n q.pt da ma q.d.length dc q.m.length mc wr
        have hcl : ((rights (l.take i)).map PO.plain).length ≤ 40 := by
          have := rights_len (l.take i)
          rw [List.length_map]; rw [List.length_take] at this; omega
        by_cases hg : 300 < q.d.length ∨ 100 < q.m.length
        · have hgd : (decide (300 < q.d.length) || decide (100 < q.m.length)) = true := by simpa using hg
          rw [hgd] at hgr
          have HG := Lib.hid hgr
          clear hgr hgd hg hq hd1 hm1 hsn hown
          go_wp2_with fail
          refine HG.out.mono ?_
          rintro e w2 ⟨rfl, hb2⟩
          go_wp2_with fail
          go_ret
          exact ⟨rfl, hbw.trans (hb2.mono hbw.size)⟩
        · have hgd : (decide (300 < q.d.length) || decide (100 < q.m.length)) = false := by
            cases hq : (decide (300 < q.d.length) || decide (100 < q.m.length)) with
            | false => rfl
            | true => exact absurd (by simpa using hq) hg
          rw [hgd] at hgr
          have hsm2 : ∀ x ∈ l.take (i + 1), x.d.length ≤ 300 ∧ x.m.length ≤ 100 := by
            intro x hx
            rw [List.take_add_one, hq] at hx
            rcases List.mem_append.1 hx with hx | hx
            · exact HSM.out x hx
            · simp at hx; subst hx; omega
          have HSM2 := Lib.hid hsm2
          have hql : q.m.length ≤ 1000000000 := by omega
          have hright := fun W (hW : Below wr.heap.size wr W) => refRightO_any q.k q.v q.i q.b q.n q.pt da ma q.d.length dc q.m.length mc q.m W (Is.below hm1 hW (Nat.le_refl _)) hql
          have hplain := fun W (hW : Below wr.heap.size wr W) hr => refPlain_any q.k q.v q.i q.b q.n q.pt q.d q.m da ma q.d.length dc q.m.length mc W hr (Is.below hd1 hW (Nat.le_refl _)) (Is.below hm1 hW (Nat.le_refl _))
          have hqr : q.right = rightO q.k q.v q.i q.b q.n q.d.length q.m := rfl
          have hplain : ∀ W, Below wr.heap.size wr W → q.right = true → Calls Try.prog 55 #[.agg #[.int .i64 q.k, .int .i64 q.v, .int .i64 q.i, .int .i64 q.b, .int .i64 q.n, .int .u64 q.pt, .slice da q.d.length dc, .slice ma q.m.length mc]] W (OpEnds q.plain W) := fun W hW hr => hplain W hW hr
          rw [← hqr] at hright
          have HG := Lib.hid hgr
          have HRT := Lib.hid hright
          have HPL := Lib.hid hplain
          have HOW := Lib.hid hown
          clear hgr hgd hg hq hd1 hm1 hown hright hplain hqr hsm2
          cases hr : q.right with
          | false =>
            rw [hr] at hsn HRT
            rw [if_neg (by simp), List.append_nil] at hsn
            have HSN := Lib.hid hsn
            clear hsn hr
            go_wp2_with fail
            refine HG.out.mono ?_
            rintro e w2 ⟨rfl, hb2⟩
            have e0 := hb2.cell (p := ⟨b1, p1 + i * 8, none⟩) hb1
            have e1 := hb2.cell (p := ⟨b1, p1 + i * 8 + 1, none⟩) hb1
            have e2 := hb2.cell (p := ⟨b1, p1 + i * 8 + 2, none⟩) hb1
            have e3 := hb2.cell (p := ⟨b1, p1 + i * 8 + 3, none⟩) hb1
            have e4 := hb2.cell (p := ⟨b1, p1 + i * 8 + 4, none⟩) hb1
            have e5 := hb2.cell (p := ⟨b1, p1 + i * 8 + 5, none⟩) hb1
            have e6 := hb2.cell (p := ⟨b1, p1 + i * 8 + 6, none⟩) hb1
            have e7 := hb2.cell (p := ⟨b1, p1 + i * 8 + 7, none⟩) hb1
            rw [c0] at e0; rw [c1] at e1; rw [c2] at e2; rw [c3] at e3; rw [c4] at e4; rw [c5] at e5; rw [c6] at e6; rw [c7] at e7
            go_wp2_with fail
            refine (HRT.out _ hb2).mono ?_
            rintro e w3 ⟨rfl, hb3⟩
            have hb3' := hb2.trans (hb3.mono hb2.size)
            go_wp2_with fail
            exact ⟨⟨i + 1, by omega, by go_num, by rw [HSN.out]; exact HOW.out.stays hb3' (Nat.le_refl _) hbw.size, HSM2, hbw.trans (hb3'.mono hbw.size)⟩, by simp [intOf]; omega⟩
          | true =>
            rw [hr] at hsn HRT
            rw [if_pos rfl] at hsn
            have HSN := Lib.hid hsn
            have hrp := HPL.out
            clear hsn
            have HPL2 := Lib.hid (fun W hW => HPL.out W hW hr)
            clear hr hrp
            go_wp2_with fail
            refine HG.out.mono ?_
            rintro e w2 ⟨rfl, hb2⟩
            have e0 := hb2.cell (p := ⟨b1, p1 + i * 8, none⟩) hb1
            have e1 := hb2.cell (p := ⟨b1, p1 + i * 8 + 1, none⟩) hb1
            have e2 := hb2.cell (p := ⟨b1, p1 + i * 8 + 2, none⟩) hb1
            have e3 := hb2.cell (p := ⟨b1, p1 + i * 8 + 3, none⟩) hb1
            have e4 := hb2.cell (p := ⟨b1, p1 + i * 8 + 4, none⟩) hb1
            have e5 := hb2.cell (p := ⟨b1, p1 + i * 8 + 5, none⟩) hb1
            have e6 := hb2.cell (p := ⟨b1, p1 + i * 8 + 6, none⟩) hb1
            have e7 := hb2.cell (p := ⟨b1, p1 + i * 8 + 7, none⟩) hb1
            rw [c0] at e0; rw [c1] at e1; rw [c2] at e2; rw [c3] at e3; rw [c4] at e4; rw [c5] at e5; rw [c6] at e6; rw [c7] at e7
            go_wp2_with fail
            refine (HRT.out _ hb2).mono ?_
            rintro e w3 ⟨rfl, hb3⟩
            have hb3' := hb2.trans (hb3.mono hb2.size)
            have g0 := hb3'.cell (p := ⟨b1, p1 + i * 8, none⟩) hb1
            have g1 := hb3'.cell (p := ⟨b1, p1 + i * 8 + 1, none⟩) hb1
            have g2 := hb3'.cell (p := ⟨b1, p1 + i * 8 + 2, none⟩) hb1
            have g3 := hb3'.cell (p := ⟨b1, p1 + i * 8 + 3, none⟩) hb1
            have g4 := hb3'.cell (p := ⟨b1, p1 + i * 8 + 4, none⟩) hb1
            have g5 := hb3'.cell (p := ⟨b1, p1 + i * 8 + 5, none⟩) hb1
            have g6 := hb3'.cell (p := ⟨b1, p1 + i * 8 + 6, none⟩) hb1
            have g7 := hb3'.cell (p := ⟨b1, p1 + i * 8 + 7, none⟩) hb1
            rw [c0] at g0; rw [c1] at g1; rw [c2] at g2; rw [c3] at g3; rw [c4] at g4; rw [c5] at g5; rw [c6] at g6; rw [c7] at g7
            go_wp2_with fail
            refine (HPL2.out _ hb3').mono ?_
            rintro e w4 ⟨dv, mv, rfl, hpd, hpm, hb4⟩
            have hb4' := hb3'.trans (hb4.mono hb3'.size)
            have hbw4 := hbw.trans (hb4'.mono hbw.size)
            generalize q.plain = x at *
            obtain ⟨pda, pdc, pma, pmc, rfl, rfl, -, -⟩ := own_op hpd hpm
            rw [show opV x (.slice pda x.d.length pdc) (.slice pma x.m.length pmc) = .agg #[.int .i64 x.k, .int .i64 x.v, .int .i64 x.i, .int .i64 x.b, .int .i64 x.n, .int .u64 x.pt, .slice pda x.d.length pdc, .slice pma x.m.length pmc] from rfl]
            have hbase : w.heap.size ≤ w3.heap.size := by have := hbw.size; have := hb3'.size; omega
            obtain ⟨v', w', hap, hown', hgr⟩ := (HOW.out.stays hb4' (Nat.le_refl _) hbw.size).push x (OpFar.own (ownsRow_base hpd hbase) (ownsRow_base hpm hbase)) (by omega) hbw4.size
            have hbF := (HOW.out.stays hb4' (Nat.le_refl _) hbw.size).below hbw4 hgr (Nat.le_refl _) hbw4.size
            rw [← HSN.out] at hown'
            have HO' := Lib.hid hown'
            clear hown' hgr hpd hpm c0 c1 c2 c3 c4 c5 c6 c7 e0 e1 e2 e3 e4 e5 e6 e7 g0 g1 g2 g3 g4 g5 g6 g7
            go_wp2_with (at_builtin; refine wpList_append_run rfl _ _ _ rfl hap ?_)
            exact ⟨⟨i + 1, by omega, by go_num, HO'.out, HSM2, hbF⟩, by simp [intOf]; omega⟩
      · obtain rfl : i = n := by omega
        have htk : l.take i = l := List.take_of_length_le (Nat.le_of_eq HLL.out)
        rw [htk] at hown
        have hsm := HSM.out
        rw [htk] at hsm
        have htx := text_any a i c l wr (H.out.below hbw (Nat.le_refl _)) (by omega) (fun q hq => by
          have h1 := hsm q hq
          have h2 := HF.out q hq
          unfold opFine at h2; omega)
        have hpt := parse_text l (by rw [HLL.out]; omega) (fun q hq => HF.out q hq)
        have hts := text_small l (fun q hq => HF.out q hq)
        rw [HLL.out] at hts
        have hpa := fun W => parse_any ⟨(textL l).toArray⟩ W (by show (textL l).length ≤ _; omega)
        rw [show (⟨(textL l).toArray⟩ : ByteArray).data.toList = textL l by simp, hpt] at hpa
        have htx : Calls Try.prog 61 #[.slice a i c] wr fun e w' => e = .returned (.string ⟨(textL l).toArray⟩) ∧ Below wr.heap.size wr w' := htx
        obtain ⟨Z, hZ⟩ : ∃ Z : List UInt8, Z = List.replicate 16385 0 := ⟨_, rfl⟩
        have hZl : Z.length = 16385 := by rw [hZ]; simp
        have hpz := fun W => parse_any ⟨Z.toArray⟩ W (by show Z.length ≤ _; omega)
        rw [show (⟨Z.toArray⟩ : ByteArray).data.toList = Z by simp, show parseO Z = ([], 0, 12) by unfold parseO; rw [if_pos (by omega)]] at hpz
        have hmk := fun W => zeros_16385 W Z hZ
        have hlen : ((rights l).map PO.plain).length ≤ 40 := by have := rights_len l; rw [List.length_map]; rw [HLL.out] at this; omega
        have hsml : ∀ x ∈ (rights l).map PO.plain, x.d.length ≤ 1000000000 ∧ x.m.length ≤ 1000000000 := by
          intro x hx
          obtain ⟨y, hy, rfl⟩ := List.mem_map.1 hx
          have h1 := hsm y (List.mem_filter.1 hy).1
          have h2 := y.plain_len
          omega
        generalize textL l = T at *
        generalize (rights l).map PO.plain = P at *
        have HT := Lib.hid htx
        have HPA := Lib.hid hpa
        have HPZ := Lib.hid hpz
        have HMK := Lib.hid hmk
        have HSML := Lib.hid hsml
        have HOW := Lib.hid hown
        have hBs := hbw.size
        clear htx hpa hpz hmk hsml hown hsm hpt hZ hZl htk
        go_wp2_with fail
        refine HT.out.mono ?_
        rintro e w1 ⟨rfl, hb1⟩
        have hbw1 := hbw.trans (hb1.mono hbw.size)
        go_wp2_with fail
        refine (HPA.out _).mono ?_
        rintro e w2 ⟨hb2, v2, rfl, ho2⟩
        have hbw2 := hbw1.trans (hb2.mono hbw1.size)
        have hk2 := hb1.trans (hb2.mono hb1.size)
        obtain ⟨a2, c2, rfl, hops2, -⟩ := ho2.ops
        obtain ⟨a1, c1, rfl, hops1, -⟩ := (HOW.out.stays hk2 (Nat.le_refl _) hBs).ops
        obtain ⟨w3, hmk, hcv, hg3⟩ := HMK.out w2
        have hb3 : Below w2.heap.size w2 w3 := (Below.refl _ _).grown hg3 (Nat.le_refl _) (fun k hk => by cases hk)
        have HO1 := Lib.hid (hops1.below hb3 (Nat.le_refl _))
        have HO2 := Lib.hid (hops2.below hb3 (Nat.le_refl _))
        have hbw3 := hbw2.trans (hb3.mono hbw2.size)
        clear ho2 hops1 hops2 hg3
        go_wp2_with fail
        refine (HPZ.out _).mono ?_
        rintro e w4 ⟨hb4, v4, rfl, ho4⟩
        have hbw4 := hbw3.trans (hb4.mono hbw3.size)
        obtain ⟨a4, c4, rfl, -, -⟩ := ho4.ops
        clear ho4 hmk hcv
        go_wp2_with fail
        refine (refSames_any a2 a1 P.length c2 c1 P w4 (HO2.out.below hb4 (Nat.le_refl _)) (HO1.out.below hb4 (Nat.le_refl _)) (by omega) HSML.out).mono ?_
        rintro e w5 ⟨rfl, hb5⟩
        go_wp2_with fail
        refine (alive29_any _).mono ?_
        rintro e w6 ⟨rfl, hb6⟩
        go_wp2_with fail
        go_ret
        have hb56 := hb5.trans (hb6.mono hb5.size)
        exact ⟨rfl, hbw4.trans (hb56.mono hbw4.size)⟩
end Go.Proofs.Ytljbehndnledpaa
