/- The walk of yesteryearlaw57.HeatPlays. Conditions: those of each theorem. -/
import Derived.Test.YtljbehndnledpaaHeatInsert
import Derived.Test.YtljbehndnledpaaHeatLawAdd
import Derived.Test.YtljbehndnledpaaHeatEqual
import Derived.Test.YtljbehndnledpaaOpenSteps
import Derived.Test.YtljbehndnledpaaOpRefRight
import Derived.Test.YtljbehndnledpaaOpFields
import Derived.Deep.CutBlock
import Derived.Deep.QuietTactic
import Derived.BigQuiet
import Derived.Deep.RegionHeld
import Derived.Deep.RegionHeldLaw
import Derived.Test.YtljbehndnledpaaHeatStepApp
namespace Go.Proofs.Ytljbehndnledpaa
open Go.RowKit

/-- What holds behind a call. -/
structure PlayH (wS wr : World) (pm : Nat) (ob : Option Nat) (u8 : Value) (L : List Hs) (i : Nat) : Prop where
  heat : HeatW wr pm ob L
  ob : ∀ b, ob = some b → wS.heap.size ≤ b
  row : OwnH wr wS.heap.size u8 L
  few : Few L i
  below : Below wS.heap.size wS wr

theorem PlayH.stays {wS wr w' : World} {pm : Nat} {ob : Option Nat} {u8 : Value} {L : List Hs} {i : Nat} (h : PlayH wS wr pm ob u8 L i) (hb : Below wr.heap.size wr w') : PlayH wS w' pm ob u8 L i :=
  ⟨h.heat.below hb, h.ob, h.row.stays hb (Nat.le_refl _), h.few, h.below.trans (hb.mono h.below.size)⟩
theorem topL_nil : topL [] = [] := by simp [topL]
/-- The list behind a call. -/
def nextL (L : List Hs) (cool : Bool) (o : PO) : List Hs := if cool then coolS L else addL L (o.k == 4 && rightO o.k o.v o.i o.b o.n o.d.length o.m) (o.v, o.b)

set_option maxRecDepth 100000 in
set_option maxHeartbeats 16000000 in
theorem heatLaw_any (a : Option Addr) (n c : Nat) (l : List (Bool × PO)) (s : Int × Int) (many : Int) (w : World) (hl : StepsOf w a n l) (hs : HsIn s) :
    Calls Try.prog 14 #[.slice a n c, .agg #[.int .i64 s.1, .int .i64 s.2], .int .i64 many] w fun e w' => e = .returned (.bool true) ∧ Below w.heap.size w w' := by
  have hb0 : Below w.heap.size w (w.alloc (.cells #[.int .i64 s.1, .int .i64 s.2] 99)) := (Below.refl _ _).alloc (Nat.le_refl _) _
  by_cases hn : n > 80
  · go_enter Try.func14, Try.ntmps14
    go_wp2_with fail
    go_ret
    exact ⟨rfl, hb0⟩
  · have hlS := hl.below hb0 (Nat.le_refl _)
    have c1 : (w.alloc (.cells #[.int .i64 s.1, .int .i64 s.2] 99)).cell? ⟨w.heap.size, 0, none⟩ = some (.int .i64 s.1) := cell_laid w _ _ 0
    have c2 : (w.alloc (.cells #[.int .i64 s.1, .int .i64 s.2] 99)).cell? ⟨w.heap.size, 1, none⟩ = some (.int .i64 s.2) := cell_laid w _ _ 1
    have hszS : (w.alloc (.cells #[.int .i64 s.1, .int .i64 s.2] 99)).heap.size = w.heap.size + 1 := by simp
    go_enter Try.func14, Try.ntmps14
    go_wp2_with fail
    generalize w.alloc (.cells #[.int .i64 s.1, .int .i64 s.2] 99) = wS at *
    have hP0 : PlayH wS (wS.alloc (.cells #[.map none] 103)) wS.heap.size none (.slice none 0 0) [] 0 := ⟨⟨heap_alloc_new wS _, rfl⟩, fun b e => (by cases e), World.ownsRow_nil _ _ _ _, ⟨by simp, fun p hp => by simp at hp⟩, (Below.refl _ _).alloc (Nat.le_refl _) _⟩
    rw [← hszS]
    generalize hsb : w.heap.size = sb at *
    generalize hpm : wS.heap.size = pm at *
    subst hszS
    go_loopw [8, 9] (fun u8 u9 wr => ∃ (i : Nat) (L : List Hs) (ob : Option Nat), i ≤ n ∧ u9 = .int .i64 i ∧ PlayH wS wr (sb + 1) ob u8 L i) (fun _ u9 _ => n - (intOf u9).toNat)
    case atStart => exact ⟨0, [], none, by omega, rfl, hP0⟩
    case round =>
      obtain ⟨i, L, ob, hi, rfl, hP⟩ := hrel
      by_cases hlt : i < n
      · have hi1 : (i : Int) < (n : Int) := by omega
        obtain ⟨st, hst⟩ : ∃ st, l[i]? = some st := ⟨_, List.getElem?_eq_getElem (by rw [hl.1]; exact hlt)⟩
        have hbw := hP.below
        obtain ⟨hin, b, p, dv, mv, rfl, g0, gc, da, dc, ma, mc, rfl, rfl, hd, hm⟩ := (hlS.below hbw (by omega)).2 i st hst
        obtain ⟨cool, o⟩ := st
        simp only at g0 gc hin hd hm
        have k0 := gc 0 _ rfl
        have k1 := gc 1 _ rfl
        have k2 := gc 2 _ rfl
        have k3 := gc 3 _ rfl
        have k4 := gc 4 _ rfl
        have k5 := gc 5 _ rfl
        have k6 := gc 6 _ rfl
        have k7 := gc 7 _ rfl
        rw [Nat.add_zero] at k0
        clear gc
        have hPA := hP.stays ((Below.refl _ wr).alloc (Nat.le_refl _) (.cells #[.int .i64 o.k, .int .i64 o.v, .int .i64 o.i, .int .i64 o.b, .int .i64 o.n, .int .u64 o.pt, .slice da o.d.length dc, .slice ma o.m.length mc] 80))
        have hCA := Cells8.new wr o.k o.v o.i o.b o.n o.pt (.slice da o.d.length dc) (.slice ma o.m.length mc)
        have hltb := World.block_lt_of_cell? _ _ g0
        have gA := cell_past g0 (.cells #[.int .i64 o.k, .int .i64 o.v, .int .i64 o.i, .int .i64 o.b, .int .i64 o.n, .int .u64 o.pt, .slice da o.d.length dc, .slice ma o.m.length mc] 80)
        have hszA : (wr.alloc (.cells #[.int .i64 o.k, .int .i64 o.v, .int .i64 o.i, .int .i64 o.b, .int .i64 o.n, .int .u64 o.pt, .slice da o.d.length dc, .slice ma o.m.length mc] 80)).heap.size = wr.heap.size + 1 := by simp
        have hmA := hm.below ((Below.refl _ wr).alloc (Nat.le_refl _) (.cells #[.int .i64 o.k, .int .i64 o.v, .int .i64 o.i, .int .i64 o.b, .int .i64 o.n, .int .u64 o.pt, .slice da o.d.length dc, .slice ma o.m.length mc] 80)) (Nat.le_refl _)
        clear hP0 hm hd
        have HPA := Lib.hid hPA
        have hpmlt := hP.heat.pm_lt
        clear hPA hP
        go_wp2_with fail
        clear g0 k0 k1 k2 k3 k4 k5 k6 k7 hltb
        generalize wr.alloc (.cells #[.int .i64 o.k, .int .i64 o.v, .int .i64 o.i, .int .i64 o.b, .int .i64 o.n, .int .u64 o.pt, .slice da o.d.length dc, .slice ma o.m.length mc] 80) = wA at *
        generalize hoA : wr.heap.size = oA at *
        refine (great_any o.k o.v o.i o.b o.n o.pt da ma o.d.length dc o.m.length mc wA).mono ?_
        rintro e w2 ⟨rfl, hb2⟩
        have HP2 := Lib.hid (HPA.out.stays hb2)
        have hbS := HP2.out.below
        cases hgr : (decide (300 < o.d.length) || decide (100 < o.m.length))
        · have hC2 := hCA.below hb2 (by omega)
          have g2 : w2.cell? ⟨b, p + i * 9, none⟩ = some (.bool cool) := by
            rw [hb2.cell (p := ⟨b, p + i * 9, none⟩) (World.block_lt_of_cell? _ _ gA)]
            exact gA
          have hm2 := hmA.below hb2 (Nat.le_refl _)
          have hml : o.m.length ≤ 100 := by
            rw [Bool.or_eq_false_iff] at hgr
            have := hgr.2
            simp at this
            exact this
          have hsz2 : oA + 1 ≤ w2.heap.size := by have := hb2.size; omega
          clear hCA gA hmA HPA hgr hb2
          obtain ⟨c20, c21, c22, c23, c24, c25, c26, c27⟩ := hC2
          go_upto_region 11 with fail
          go_cut [11] from 35 to 41 (fun u11 wx => u11 = .bool (o.k == 4 && rightO o.k o.v o.i o.b o.n o.d.length o.m) ∧ Below w2.heap.size w2 wx)
          case first =>
            -- BEGIN c11
            by_cases h4 : o.k = 4
            · have e4 : (o.k == 4) = true := by rw [h4]; rfl
              have HRR := Lib.hid (refRightO_any o.k o.v o.i o.b o.n o.pt da ma o.d.length dc o.m.length mc o.m w2 hm2 (by omega))
              clear hm2 h4
              go_wp2_with fail
              refine HRR.out.mono ?_
              rintro e w3 ⟨rfl, hb3⟩
              go_wp2_with fail
              go_meet
              case rel => exact ⟨by rw [e4, Bool.true_and], hb3⟩
            · have e4 : (o.k == 4) = false := by rw [beq_eq_false_iff_ne]; exact h4
              go_wp2_with fail
              go_meet
              case rel => exact ⟨by rw [e4, Bool.false_and], Below.refl _ _⟩
            -- END c11
          case rest =>
            obtain ⟨rfl, hbx⟩ := hcut
            have HP3 := Lib.hid (HP2.out.stays hbx)
            have hC3 := (show Cells8 w2 oA o.k o.v o.i o.b o.n o.pt (.slice da o.d.length dc) (.slice ma o.m.length mc) from ⟨c20, c21, c22, c23, c24, c25, c26, c27⟩).below hbx (by omega)
            obtain ⟨c30, c31, c32, c33, c34, c35, c36, c37⟩ := hC3
            have g3 : wc.cell? ⟨b, p + i * 9, none⟩ = some (.bool cool) := by
              rw [hbx.cell (p := ⟨b, p + i * 9, none⟩) (World.block_lt_of_cell? _ _ g2)]
              exact g2
            have hm3 := hm2.below hbx (Nat.le_refl _)
            have hsz3 := HP3.out.below.size
            clear hm2 g2 HP2 c20 c21 c22 c23 c24 c25 c26 c27 hbS
            obtain ⟨a8, c8, rfl, hr8, -⟩ := HP3.out.row.row
            go_upto_if 46 with fail
            go_cut [8] from 47 to 63 (fun u8 wx => ∃ ob', PlayH wS wx (sb + 1) ob' u8 (nextL L cool o) (i + 1))
            case first =>
              -- BEGIN c8
              cases cool
              · have HAD := Lib.hid (add_heat wc (sb + 1) wS.heap.size ob L o.k o.v o.i o.b o.n o.pt da ma o.d.length dc o.m.length mc o.m hm3 (by omega) HP3.out.heat HP3.out.ob HP3.out.below.size hin (by have := HP3.out.few.len; omega) (by have := HP3.out.few.cnt (o.v, o.b); omega))
                generalize his : (o.k == 4 && rightO o.k o.v o.i o.b o.n o.d.length o.m) = is at *
                go_wp2_with fail
                refine HAD.out.mono ?_
                rintro e w4 ⟨rfl, ob4, hw4, hob4, hk4⟩
                have hb4 := hk4.below HP3.out.below (by omega) HP3.out.ob HP3.out.below.size
                have ho4 := HP3.out.row.keptH HP3.out.heat hk4
                have hC4 := (show Cells8 wc oA o.k o.v o.i o.b o.n o.pt (.slice da o.d.length dc) (.slice ma o.m.length mc) from ⟨c30, c31, c32, c33, c34, c35, c36, c37⟩).keptH HP3.out.heat (by omega) hk4
                obtain ⟨-, c41, -, c43, -⟩ := hC4
                have hss4 := hb4.size
                have hnx : nextL L false o = addL L (o.k == 4 && rightO o.k o.v o.i o.b o.n o.d.length o.m) (o.v, o.b) := rfl
                rw [his] at hnx
                have HX := Lib.hid hnx
                cases is
                · have hP5 : PlayH wS w4 (sb + 1) ob4 (.slice a8 L.length c8) (addL L false (o.v, o.b)) (i + 1) := ⟨hw4, hob4, ho4, HP3.out.few.add false _, hb4⟩
                  have HP5 := Lib.hid hP5
                  clear hw4 hk4 hb4 ho4 hP5 HAD hnx HP3 hm3 hbx hr8
                  go_wp2_with fail
                  go_meet
                  case rel => exact ⟨ob4, by rw [HX.out]; exact HP5.out⟩
                · have HAL := Lib.hid (lawAdd_any (.slice a8 L.length c8) L o.v o.b w4 ho4 (by have := HP3.out.few.len; omega) HP3.out.heat.ok.2.1 (fun p hp => by have := HP3.out.few.val p hp; omega))
                  have HF := Lib.hid (HP3.out.few.add true (o.v, o.b))
                  have HW := Lib.hid hw4
                  clear hw4 hk4 ho4 HAD hnx HP3 hm3 hbx hr8
                  go_wp2_with fail
                  refine HAL.out.mono ?_
                  rintro e w5 ⟨v5, rfl, ho5, hb5⟩
                  have hP5 : PlayH wS w5 (sb + 1) ob4 v5 (addL L true (o.v, o.b)) (i + 1) := ⟨HW.out.below hb5, hob4, owns_lower ho5 hss4, HF.out, hb4.trans (hb5.mono hss4)⟩
                  have HP5 := Lib.hid hP5
                  clear ho5 hb5 hP5 HAL hb4
                  go_wp2_with fail
                  go_meet
                  case rel => exact ⟨ob4, by rw [HX.out]; exact HP5.out⟩
              · have HCO := Lib.hid (cool_heat HP3.out.heat HP3.out.ob (fun p hp => by have := HP3.out.few.val p hp; omega))
                go_wp2_with fail
                refine HCO.out.mono ?_
                rintro e w4 ⟨rfl, ob4, hw4, hob4, hk4⟩
                have hb4 := hk4.below HP3.out.below (by omega) HP3.out.ob HP3.out.below.size
                have ho4 := HP3.out.row.keptH HP3.out.heat hk4
                have hss4 := hb4.size
                obtain ⟨a9, c9, he9, hr9, -⟩ := ho4.row
                cases he9
                have HLC := Lib.hid (lawCool_any a8 L.length c8 L w4 hr9 (by have := HP3.out.few.len; omega) (fun p hp => by have := HP3.out.few.val p hp; omega))
                have HF := Lib.hid HP3.out.few.cool
                have HW := Lib.hid hw4
                clear hw4 hk4 ho4 HCO HP3 hm3 hbx hr8 hr9
                go_wp2_with fail
                refine HLC.out.mono ?_
                rintro e w5 ⟨v5, rfl, ho5, hb5⟩
                have hP5 : PlayH wS w5 (sb + 1) ob4 v5 (coolS L) (i + 1) := ⟨HW.out.below hb5, hob4, owns_lower ho5 hss4, HF.out, hb4.trans (hb5.mono hss4)⟩
                have HP5 := Lib.hid hP5
                clear ho5 hb5 hP5 HLC hb4
                go_wp2_with fail
                go_meet
                case rel => exact ⟨ob4, HP5.out⟩
              -- END c8
            case rest =>
              obtain ⟨ob5, hP5⟩ := hcut
              generalize nextL L cool o = L2 at *
              obtain ⟨a9, c9, rfl, hr9, -⟩ := hP5.row.row
              rename World => wo
              have HP5 := Lib.hid hP5
              have HR9 := Lib.hid hr9
              have hS1 : wo.cell? ⟨sb, 0, none⟩ = some (.int .i64 s.1) := by rw [hP5.below.cell (p := ⟨sb, 0, none⟩) (by show sb < wS.heap.size; omega)]; exact c1
              have hS2 : wo.cell? ⟨sb, 1, none⟩ = some (.int .i64 s.2) := by rw [hP5.below.cell (p := ⟨sb, 1, none⟩) (by show sb < wS.heap.size; omega)]; exact c2
              have hL2 : L2.length ≤ 80 := by have := hP5.few.len; omega
              have hv2 : ∀ p ∈ L2, 0 ≤ p.2 ∧ p.2 ≤ 80 := fun p hp => by have := hP5.few.val p hp; omega
              have hnd : (L2.map (·.1)).Nodup := hP5.heat.ok.2.1
              have hsS := hP5.below.size
              clear hP5 hr9 g3 hm3 HP3 c30 c31 c32 c33 c34 c35 c36 c37 hbx hr8
              go_wp2_with fail
              go_loopw [12, 13, 14, 15] (fun u12 u13 u14 u15 wr => ∃ k : Nat, k ≤ L2.length ∧ u15 = .int .i64 k ∧ OwnH wr wo.heap.size u12 (topL (L2.take k)) ∧ u13 = .int .i64 (cntS (L2.take k) s) ∧ u14 = .int .i64 (sumS (L2.take k)) ∧ Below wo.heap.size wo wr) (fun _ _ _ u15 _ => L2.length - (intOf u15).toNat)
              case atStart => exact ⟨0, by omega, rfl, by rw [List.take_zero, topL_nil]; exact World.ownsRow_nil _ _ _ _, rfl, rfl, Below.refl _ _⟩
              case round =>
                obtain ⟨k, hk, rfl, hown, rfl, rfl, hbk⟩ := hrel
                by_cases hkl : k < L2.length
                · obtain ⟨b9, o9, q, rfl, hq, hqm, d0, d1, d2⟩ := (HR9.out.below hbk (Nat.le_refl _)).list k hkl
                  have hk1 : (k : Int) < (L2.length : Int) := by omega
                  obtain ⟨⟨q1, q2⟩, qn⟩ := q
                  simp only at d0 d1 d2
                  have d1' := d1
                  have d2' := d2
                  rw [show o9 + k * 3 + 1 = o9 + (k * 3 + 1) by omega] at d1'
                  rw [show o9 + k * 3 + 2 = o9 + (k * 3 + 2) by omega] at d2'
                  have htl : (topL (L2.take k)).length = k := by rw [topL_len, List.length_take]; omega
                  obtain ⟨at12, ct12, rfl, hrt, hct⟩ := hown.row
                  rw [htl] at hown hrt hct ⊢
                  have HO := Lib.hid hown
                  have HRT := Lib.hid hrt
                  have HTT : Hid (topL (L2.take k) = topL (L2.take k)) := Lib.hid rfl
                  clear hown hrt
                  generalize hT : topL (L2.take k) = T at *
                  have HTE := Lib.hid hT
                  clear hT HTT
                  go_upto_block 4 with fail
                  rename World => wk
                  go_cut [16] from 72 to 87 (fun u16 wx => ∃ j : Nat, j ≤ k ∧ u16 = .int .i64 j ∧ (∀ i t, j ≤ i → T[i]? = some t → befH ((q1, q2), qn) t = true) ∧ (j = 0 ∨ ∃ t, T[j - 1]? = some t ∧ befH ((q1, q2), qn) t = false) ∧ Below wk.heap.size wk wx)
                  case first =>
                    -- BEGIN c16
                    go_wp2_with fail
                    go_loopw [16] (fun u16 wr => ∃ j : Nat, j ≤ k ∧ u16 = .int .i64 j ∧ (∀ i t, j ≤ i → T[i]? = some t → befH ((q1, q2), qn) t = true) ∧ Below wk.heap.size wk wr) (fun u16 _ => (intOf u16).toNat)
                    case atStart => exact ⟨k, Nat.le_refl _, rfl, fun i t hi ht => by have := (List.getElem?_eq_some_iff.1 ht).1; omega, Below.refl _ _⟩
                    case round =>
                      obtain ⟨j, hj, rfl, hbf, hbj⟩ := hrel
                      rcases Nat.eq_zero_or_pos j with rfl | hj0
                      · have HBF := Lib.hid hbf
                        clear hbf
                        go_wp2_with fail
                        go_quiet (fail)
                        go_wp2_with fail
                        go_meet
                        case rel => exact ⟨0, Nat.zero_le _, rfl, HBF.out, .inl rfl, ⟨hbj.os, hbj.tape, hbj.output, hbj.size, hbj.block⟩⟩
                      · obtain ⟨j, rfl⟩ : ∃ j', j = j' + 1 := ⟨j - 1, by omega⟩
                        obtain ⟨b12, o12, t, rfl, ht, htm, f0, f1, f2⟩ := (HRT.out.below hbj (Nat.le_refl _)).list j (by omega)
                        obtain ⟨b9', o9', qq, he9, hqq, -, d0, d1, d2⟩ := (HR9.out.below (hbk.trans (hbj.mono hbk.size)) (Nat.le_refl _)).list k hkl
                        cases he9
                        rw [hq] at hqq
                        cases hqq
                        simp only at d0 d1 d2
                        obtain ⟨⟨t1, t2⟩, tn⟩ := t
                        simp only at f0 f1 f2
                        have hS : wr.cell? ⟨b9, o9 + k * 3, none⟩ = some (.int .i64 q1) ∧ wr.cell? ⟨b9, o9 + k * 3 + 1, none⟩ = some (.int .i64 q2) ∧ wr.cell? ⟨b9, o9 + k * 3 + 2, none⟩ = some (.int .i64 qn) ∧ wr.cell? ⟨b12, o12 + j * 3, none⟩ = some (.int .i64 t1) ∧ wr.cell? ⟨b12, o12 + j * 3 + 1, none⟩ = some (.int .i64 t2) ∧ wr.cell? ⟨b12, o12 + j * 3 + 2, none⟩ = some (.int .i64 tn) := ⟨d0, d1, d2, f0, f1, f2⟩
                        have hS5 : ∀ w5, Below wr.heap.size wr.drew w5 → w5.cell? ⟨b9, o9 + k * 3, none⟩ = some (.int .i64 q1) ∧ w5.cell? ⟨b9, o9 + k * 3 + 1, none⟩ = some (.int .i64 q2) ∧ w5.cell? ⟨b9, o9 + k * 3 + 2, none⟩ = some (.int .i64 qn) ∧ w5.cell? ⟨b12, o12 + j * 3, none⟩ = some (.int .i64 t1) ∧ w5.cell? ⟨b12, o12 + j * 3 + 1, none⟩ = some (.int .i64 t2) ∧ w5.cell? ⟨b12, o12 + j * 3 + 2, none⟩ = some (.int .i64 tn) := fun w5 h5 =>
                          ⟨(h5.cell (World.block_lt_of_cell? _ _ d0)).trans d0, (h5.cell (World.block_lt_of_cell? _ _ d1)).trans d1, (h5.cell (World.block_lt_of_cell? _ _ d2)).trans d2, (h5.cell (World.block_lt_of_cell? _ _ f0)).trans f0, (h5.cell (World.block_lt_of_cell? _ _ f1)).trans f1, (h5.cell (World.block_lt_of_cell? _ _ f2)).trans f2⟩
                        have HS5 := Lib.hid hS5
                        have hj1 : (j : Int) < (k : Int) := by omega
                        have hsub : IntKind.i64.wrap (((j + 1 : Nat) : Int) - 1) = (j : Int) := by rw [IntWalk.i64_in _ (by omega)]; omega
                        have hsub2 : IntKind.i64.wrap (j : Int) = (j : Int) := IntWalk.i64_in _ (by omega)
                        have hsub3 : IntKind.i64.wrap ((j : Int) + 1 - 1) = (j : Int) := by rw [IntWalk.i64_in _ (by omega)]; omega
                        have hj2 : (0 : Int) ≤ (j : Int) := by omega
                        have hpos : decide ((0 : Int) < ((j + 1 : Nat) : Int)) = true := decide_eq_true (by omega)
                        have hBF := fun W' => before_any ((q1, q2), qn) ((t1, t2), tn) W'
                        clear hS5 d0 d1 d2 d1' d2' f0 f1 f2
                        have HBF := Lib.hid hbf
                        have HTj := Lib.hid ht
                        have HBJ : Hid (∀ w5, Below wr.heap.size wr.drew w5 → Below wk.heap.size wk w5) := Lib.hid fun w5 h5 => Below.trans (show Below wk.heap.size wk wr.drew from ⟨hbj.os, hbj.tape, hbj.output, hbj.size, hbj.block⟩) (Below.mono h5 hbj.size)
                        clear hbf ht
                        cases hbb : befH ((q1, q2), qn) ((t1, t2), tn)
                        · rw [hbb] at hBF
                          have HBB := Lib.hid hbb
                          clear hbb
                          go_wp2_with fail
                          go_region_held (fun W' => W'.cell? ⟨b9, o9 + k * 3, none⟩ = some (.int .i64 q1) ∧ W'.cell? ⟨b9, o9 + k * 3 + 1, none⟩ = some (.int .i64 q2) ∧ W'.cell? ⟨b9, o9 + k * 3 + 2, none⟩ = some (.int .i64 qn) ∧ W'.cell? ⟨b12, o12 + j * 3, none⟩ = some (.int .i64 t1) ∧ W'.cell? ⟨b12, o12 + j * 3 + 1, none⟩ = some (.int .i64 t2) ∧ W'.cell? ⟨b12, o12 + j * 3 + 2, none⟩ = some (.int .i64 tn)) (first | exact hS6 | exact hS)
                            (first | (go_at_call 66; refine (hBF _).mono ?_; rintro e w5 ⟨rfl, hb5⟩; have hS6 := HS5.out w5 hb5))
                          all_goals
                            go_wp2_with fail
                            go_meet
                            case rel => exact ⟨j + 1, hj, by go_num, HBF.out, .inr ⟨((t1, t2), tn), by simpa using HTj.out, HBB.out⟩, HBJ.out _ hb5⟩
                        · rw [hbb] at hBF
                          have hnb : ∀ i t, j ≤ i → T[i]? = some t → befH ((q1, q2), qn) t = true := fun i t hi hti => by
                            rcases Nat.eq_or_lt_of_le hi with rfl | hi
                            · rw [HTj.out] at hti
                              cases hti
                              exact hbb
                            · exact HBF.out i t hi hti
                          have HNB := Lib.hid hnb
                          clear hbb hnb
                          go_wp2_with fail
                          go_region_held (fun W' => W'.cell? ⟨b9, o9 + k * 3, none⟩ = some (.int .i64 q1) ∧ W'.cell? ⟨b9, o9 + k * 3 + 1, none⟩ = some (.int .i64 q2) ∧ W'.cell? ⟨b9, o9 + k * 3 + 2, none⟩ = some (.int .i64 qn) ∧ W'.cell? ⟨b12, o12 + j * 3, none⟩ = some (.int .i64 t1) ∧ W'.cell? ⟨b12, o12 + j * 3 + 1, none⟩ = some (.int .i64 t2) ∧ W'.cell? ⟨b12, o12 + j * 3 + 2, none⟩ = some (.int .i64 tn)) (first | exact hS6 | exact hS)
                            (first | (go_at_call 66; refine (hBF _).mono ?_; rintro e w5 ⟨rfl, hb5⟩; have hS6 := HS5.out w5 hb5))
                          all_goals
                            go_wp2_with fail
                            go_roundw
                            case rel => exact ⟨j, by omega, by go_num, HNB.out, HBJ.out _ hb5⟩
                            case measure => simp [intOf]
                    -- END c16
                  case rest =>
                    obtain ⟨j, hj, rfl, hge, hat, hbc⟩ := hcut
                    rename World => wx
                    have hins := ins_top (l := L2.take k) ((q1, q2), qn) j (by rw [HTE.out]; omega) (by rw [HTE.out]; exact hge) (by rw [HTE.out]; exact hat)
                    rw [HTE.out, show L2.take k ++ [((q1, q2), qn)] = L2.take (k + 1) by rw [List.take_add_one, hq]; rfl] at hins
                    have HINS := Lib.hid hins
                    have hox := HO.out.stays hbc (Nat.le_refl _)
                    have hcap : (at12 = none ∧ k = 0 ∧ ct12 = 0) ∨ ∃ g, at12 = some ⟨g, 0, none⟩ := by
                      rcases hox.2 with ⟨h', h0⟩ | ⟨g, cap, cur, h', -⟩
                      · cases h'
                        exact .inl ⟨rfl, rfl, rfl⟩
                      · cases h'
                        exact .inr ⟨g, rfl⟩
                    have hbox : Below wo.heap.size wo wx := hbk.trans (hbc.mono hbk.size)
                    have hrx := HRT.out.below hbc (Nat.le_refl _)
                    clear hge hat hins hox
                    go_upto_region 27 with fail
                    go_cut [12] from 88 to 102 (fun u12 wy => OwnH wy wx.heap.size u12 (topL (L2.take (k + 1))) ∧ Below wx.heap.size wx wy)
                    case first =>
                      have hSof : ∀ W, Below wx.heap.size wx W → W.cell? ⟨b9, o9 + k * 3, none⟩ = some (.int .i64 q1) ∧ W.cell? ⟨b9, o9 + k * 3 + 1, none⟩ = some (.int .i64 q2) ∧ W.cell? ⟨b9, o9 + k * 3 + 2, none⟩ = some (.int .i64 qn) := fun W hW => by
                        obtain ⟨b9', o9', qq, he9, hqq, -, e0, e1, e2⟩ := (HR9.out.below (hbox.trans (hW.mono hbox.size)) (Nat.le_refl _)).list k hkl
                        cases he9
                        rw [hq] at hqq
                        cases hqq
                        exact ⟨e0, e1, e2⟩
                      have hRof : ∀ W, Below wx.heap.size wx W → HRow W at12 k T := fun W hW => hrx.below hW (Nat.le_refl _)
                      have hS := hSof wx (Below.refl _ _)
                      have HSO := Lib.hid hSof
                      have HRO := Lib.hid hRof
                      clear hSof hRof hrx
                      have mE := (MidH.made (Below.refl wx.heap.size wx)).drew
                      have hbP := (Below.refl wx.heap.size wx).alloc (Nat.le_refl _) (.cells #[.int .i64 q1, .int .i64 q2, .int .i64 qn] 111)
                      have hbPd := Below.drewT hbP
                      have mEP := ((MidH.made (Below.refl wx.heap.size wx)).alloc (.cells #[.int .i64 q1, .int .i64 q2, .int .i64 qn] 111)).drew
                      have mPE := (MidH.made hbP).drew
                      have rEP : HRow ((wx.alloc (.cells #[] 111)).alloc (.cells #[.int .i64 q1, .int .i64 q2, .int .i64 qn] 111)).drew (some ⟨wx.heap.size + 1, 0, none⟩) 1 [((q1, q2), qn)] := by
                        have := HRow.one (wx.alloc (.cells #[] 111)) ((q1, q2), qn)
                        rw [show (wx.alloc (.cells #[] 111)).heap.size = wx.heap.size + 1 by simp] at this
                        exact this
                      have rPE : HRow ((wx.alloc (.cells #[.int .i64 q1, .int .i64 q2, .int .i64 qn] 111)).alloc (.cells #[] 111)).drew (some ⟨wx.heap.size, 0, none⟩) 1 [((q1, q2), qn)] :=
                        (HRow.one wx ((q1, q2), qn)).below (Below.drewT ((Below.refl _ _).alloc (Nat.le_refl _) (.cells #[] 111))) (Nat.le_refl _)
                      rw [show (wx.alloc (.cells #[.int .i64 q1, .int .i64 q2, .int .i64 qn] 111)).heap.size = wx.heap.size + 1 by simp] at mPE
                      rcases hcap with ⟨rfl, rfl, rfl⟩ | ⟨g, rfl⟩
                      · obtain rfl : j = 0 := by omega
                        have hT0 : T = [] := List.eq_nil_of_length_eq_zero htl
                        subst hT0
                        -- BEGIN n27
                        have hSof0 : ∀ W, Below wx.heap.size wx W → W.cell? ⟨b9, o9, none⟩ = some (.int .i64 q1) ∧ W.cell? ⟨b9, o9 + 1, none⟩ = some (.int .i64 q2) ∧ W.cell? ⟨b9, o9 + 2, none⟩ = some (.int .i64 qn) := fun W hW => by simpa using HSO.out W hW
                        have HSO0 := Lib.hid hSof0
                        have hS0 := HSO0.out wx (Below.refl _ _)
                        clear hSof0 hS HSO
                        go_region_held_law (fun W' => W'.cell? ⟨b9, o9, none⟩ = some (.int .i64 q1) ∧ W'.cell? ⟨b9, o9 + 1, none⟩ = some (.int .i64 q2) ∧ W'.cell? ⟨b9, o9 + 2, none⟩ = some (.int .i64 qn))
                          (first | exact hS0 | exact HSO0.out _ (by first | with_reducible exact mE.below | with_reducible exact hbPd | with_reducible exact mEP.below | with_reducible exact mPE.below | with_reducible exact m3.below | with_reducible exact m2.below | with_reducible exact m1P.below | with_reducible exact m1.below))
                          (first
                            | (refine step_mid (v := .slice (some ⟨wx.heap.size, 0, none⟩) 0 0) (o := ⟨some 92, _, _, _, _, _⟩) rfl _ _ rfl rfl rfl rfl (by with_reducible exact mE) ((HRO.out _ mE.below).take 0 (by omega)) (by first | (simp; done) | (simp; omega)) ?_; intro v1 W1 m1 hg1; have pP := HRow.one W1 ((q1, q2), qn); have m1P := m1.alloc (.cells #[.int .i64 q1, .int .i64 q2, .int .i64 qn] 111))
                            | (refine step_mid (v := .slice (some ⟨wx.heap.size, 0, none⟩) 0 0) (o := ⟨some 92, _, _, _, _, _⟩) rfl _ _ rfl rfl rfl rfl (by with_reducible exact mEP) ((HRO.out _ mEP.below).take 0 (by omega)) (by first | (simp; done) | (simp; omega)) ?_; intro v1 W1 m1P hg1; have pP := rEP.apart hg1 (by simp [Value.ownBlock]))
                            | (refine step_mid (v := .slice (some ⟨wx.heap.size + 1, 0, none⟩) 0 0) (o := ⟨some 92, _, _, _, _, _⟩) rfl _ _ rfl rfl rfl rfl (by with_reducible exact mPE) ((HRO.out _ mPE.below).take 0 (by omega)) (by first | (simp; done) | (simp; omega)) ?_; intro v1 W1 m1P hg1; have pP := rPE.apart hg1 (by simp [Value.ownBlock]))
                            | (refine step_mid (v := v1) (o := ⟨some 98, _, _, _, _, _⟩) rfl _ _ rfl rfl rfl rfl (by with_reducible exact m1P) (by with_reducible exact pP) (by first | (simp; done) | (simp; omega)) ?_; intro v2 W2 m2 hg2)
                            | (refine step_mid (v := v2) (o := ⟨some 102, _, _, _, _, _⟩) rfl _ _ rfl rfl rfl rfl (by with_reducible exact m2) (HRow.nil _ _) (by first | (simp; done) | (simp; omega)) ?_; intro v3 W3 m3 hg3))
                        all_goals
                          go_wp2_with fail
                          go_meet
                          case rel => exact ⟨by rw [← HINS.out]; exact m3.own, m3.below⟩
                        -- END n27
                      · by_cases hjc : j < ct12
                        · have hjc1 : (j : Int) < (ct12 : Int) := by omega
                          have hjk1 : (j : Int) ≤ (k : Int) := by omega
                          -- BEGIN l27
                          go_region_held_law (fun W' => W'.cell? ⟨b9, o9 + k * 3, none⟩ = some (.int .i64 q1) ∧ W'.cell? ⟨b9, o9 + k * 3 + 1, none⟩ = some (.int .i64 q2) ∧ W'.cell? ⟨b9, o9 + k * 3 + 2, none⟩ = some (.int .i64 qn))
                            (first | exact hS | exact HSO.out _ (by first | with_reducible exact mE.below | with_reducible exact hbPd | with_reducible exact mEP.below | with_reducible exact mPE.below | with_reducible exact m3.below | with_reducible exact m2.below | with_reducible exact m1P.below | with_reducible exact m1.below))
                            (first
                              | (refine step_mid (v := .slice (some ⟨wx.heap.size, 0, none⟩) 0 0) (o := ⟨some 92, _, _, _, _, _⟩) rfl _ _ rfl rfl rfl rfl (by with_reducible exact mE) ((HRO.out _ mE.below).take j (by omega)) (by simp; omega) ?_; intro v1 W1 m1 hg1; have pP := HRow.one W1 ((q1, q2), qn); have m1P := m1.alloc (.cells #[.int .i64 q1, .int .i64 q2, .int .i64 qn] 111))
                              | (refine step_mid (v := .slice (some ⟨wx.heap.size, 0, none⟩) 0 0) (o := ⟨some 92, _, _, _, _, _⟩) rfl _ _ rfl rfl rfl rfl (by with_reducible exact mEP) ((HRO.out _ mEP.below).take j (by omega)) (by simp; omega) ?_; intro v1 W1 m1P hg1; have pP := rEP.apart hg1 (by simp [Value.ownBlock]))
                              | (refine step_mid (v := .slice (some ⟨wx.heap.size + 1, 0, none⟩) 0 0) (o := ⟨some 92, _, _, _, _, _⟩) rfl _ _ rfl rfl rfl rfl (by with_reducible exact mPE) ((HRO.out _ mPE.below).take j (by omega)) (by simp; omega) ?_; intro v1 W1 m1P hg1; have pP := rPE.apart hg1 (by simp [Value.ownBlock]))
                              | (refine step_mid (v := v1) (o := ⟨some 98, _, _, _, _, _⟩) rfl _ _ rfl rfl rfl rfl (by with_reducible exact m1P) (by with_reducible exact pP) (by simp; omega) ?_; intro v2 W2 m2 hg2)
                              | (refine step_mid (v := v2) (o := ⟨some 102, _, _, _, _, _⟩) rfl _ _ rfl rfl rfl rfl (by with_reducible exact m2) (by simpa using (HRO.out _ m2.below).drop j) (by simp; omega) ?_; intro v3 W3 m3 hg3))
                          all_goals
                            go_wp2_with fail
                            go_meet
                            case rel => exact ⟨by rw [← HINS.out]; exact m3.own, m3.below⟩
                          -- END l27
                        · obtain rfl : j = ct12 := by omega
                          obtain rfl : k = j := by omega
                          -- BEGIN e27
                          go_region_held_law (fun W' => W'.cell? ⟨b9, o9 + k * 3, none⟩ = some (.int .i64 q1) ∧ W'.cell? ⟨b9, o9 + k * 3 + 1, none⟩ = some (.int .i64 q2) ∧ W'.cell? ⟨b9, o9 + k * 3 + 2, none⟩ = some (.int .i64 qn))
                            (first | exact hS | exact HSO.out _ (by first | with_reducible exact mE.below | with_reducible exact hbPd | with_reducible exact mEP.below | with_reducible exact mPE.below | with_reducible exact m3.below | with_reducible exact m2.below | with_reducible exact m1P.below | with_reducible exact m1.below))
                            (first
                              | (refine step_mid (v := .slice (some ⟨wx.heap.size, 0, none⟩) 0 0) (o := ⟨some 92, _, _, _, _, _⟩) rfl _ _ rfl rfl rfl rfl (by with_reducible exact mE) ((HRO.out _ mE.below).take k (by omega)) (by simp; omega) ?_; intro v1 W1 m1 hg1; have pP := HRow.one W1 ((q1, q2), qn); have m1P := m1.alloc (.cells #[.int .i64 q1, .int .i64 q2, .int .i64 qn] 111))
                              | (refine step_mid (v := .slice (some ⟨wx.heap.size, 0, none⟩) 0 0) (o := ⟨some 92, _, _, _, _, _⟩) rfl _ _ rfl rfl rfl rfl (by with_reducible exact mEP) ((HRO.out _ mEP.below).take k (by omega)) (by simp; omega) ?_; intro v1 W1 m1P hg1; have pP := rEP.apart hg1 (by simp [Value.ownBlock]))
                              | (refine step_mid (v := .slice (some ⟨wx.heap.size + 1, 0, none⟩) 0 0) (o := ⟨some 92, _, _, _, _, _⟩) rfl _ _ rfl rfl rfl rfl (by with_reducible exact mPE) ((HRO.out _ mPE.below).take k (by omega)) (by simp; omega) ?_; intro v1 W1 m1P hg1; have pP := rPE.apart hg1 (by simp [Value.ownBlock]))
                              | (refine step_mid (v := v1) (o := ⟨some 98, _, _, _, _, _⟩) rfl _ _ rfl rfl rfl rfl (by with_reducible exact m1P) (by with_reducible exact pP) (by simp; omega) ?_; intro v2 W2 m2 hg2)
                              | (refine step_mid (v := v2) (o := ⟨some 102, _, _, _, _, _⟩) rfl _ _ rfl rfl rfl rfl (by with_reducible exact m2) (HRow.nil _ _) (by simp; omega) ?_; intro v3 W3 m3 hg3))
                          all_goals
                            go_wp2_with fail
                            go_meet
                            case rel => exact ⟨by rw [← HINS.out, List.drop_of_length_le (Nat.le_of_eq htl)]; exact m3.own, m3.below⟩
                          -- END e27
                    case rest =>
                      -- BEGIN r28
                      obtain ⟨ho12, hby⟩ := hcut
                      rename World => wy
                      have hboy : Below wo.heap.size wo wy := hbox.trans (hby.mono hbox.size)
                      obtain ⟨b9', o9', qq, he9, hqq, -, d0, d1, d2⟩ := (HR9.out.below hboy (Nat.le_refl _)).list k hkl
                      cases he9
                      rw [hq] at hqq
                      cases hqq
                      simp only at d0 d1 d2
                      have d1' := d1
                      have d2' := d2
                      rw [show o9 + k * 3 + 1 = o9 + (k * 3 + 1) by omega] at d1'
                      rw [show o9 + k * 3 + 2 = o9 + (k * 3 + 2) by omega] at d2'
                      have x1 : wy.cell? ⟨sb, 0, none⟩ = some (.int .i64 s.1) := by rw [hboy.cell (p := ⟨sb, 0, none⟩) (by show sb < wo.heap.size; omega)]; exact hS1
                      have x2 : wy.cell? ⟨sb, 1, none⟩ = some (.int .i64 s.2) := by rw [hboy.cell (p := ⟨sb, 1, none⟩) (by show sb < wo.heap.size; omega)]; exact hS2
                      have hsnoc : L2.take (k + 1) = L2.take k ++ [((q1, q2), qn)] := by rw [List.take_add_one, hq]; rfl
                      have hsm : sumS (L2.take (k + 1)) = sumS (L2.take k) + qn := by rw [hsnoc, sumS_snoc]
                      have hcn : cntS (L2.take (k + 1)) s = if (q1, q2) = s then qn else cntS (L2.take k) s := by
                        rw [hsnoc]
                        refine cntS_snoc _ _ s ?_
                        rw [← hsnoc]
                        exact List.Nodup.sublist ((List.take_sublist _ _).map _) hnd
                      have hq0 := hv2 _ hqm
                      simp only at hq0
                      have hs0 := sumS_le (l := L2.take k) (m := 80) (fun p hp => hv2 p (List.mem_of_mem_take hp))
                      have htk : ((L2.take k).length : Int) ≤ 80 := by rw [List.length_take]; omega
                      have hwr : IntKind.i64.wrap (sumS (L2.take k) + qn) = sumS (L2.take k) + qn := IntWalk.i64_in _ (by omega)
                      have hown : OwnH wy wo.heap.size u12 (topL (L2.take (k + 1))) := owns_lower ho12 hbox.size
                      have HO1 := Lib.hid hown
                      have HSM := Lib.hid hsm
                      have HCN := Lib.hid hcn
                      have hbd : Below wo.heap.size wo wy.drew := ⟨hboy.os, hboy.tape, hboy.output, hboy.size, hboy.block⟩
                      have heq := eql99 q1 q2 s.1 s.2
                      clear ho12 hown hsm hcn hsnoc hs0 htk hq0 HINS hcap HO HRT
                      by_cases hqs : (q1, q2) = s
                      · have hbb : (q1 == s.1 && q2 == s.2) = true := by rw [← hqs]; simp
                        rw [hbb] at heq
                        have HQS := Lib.hid hqs
                        clear hqs hbb
                        go_wp2_with fail
                        go_region
                        all_goals
                          go_wp2_with fail
                          go_roundw
                          case rel => exact ⟨k + 1, by omega, by go_num, HO1.out, by rw [HCN.out, if_pos HQS.out], by rw [HSM.out], hbd⟩
                          case measure => simp [intOf]; omega
                      · have hbb : (q1 == s.1 && q2 == s.2) = false := by
                          rw [← Bool.not_eq_true, Bool.and_eq_true, beq_iff_eq, beq_iff_eq]
                          exact fun h => hqs (Prod.ext h.1 h.2)
                        rw [hbb] at heq
                        have HQS := Lib.hid hqs
                        clear hqs hbb
                        go_wp2_with fail
                        go_region
                        all_goals
                          go_wp2_with fail
                          go_roundw
                          case rel => exact ⟨k + 1, by omega, by go_num, HO1.out, by rw [HCN.out, if_neg HQS.out], by rw [HSM.out], hbd⟩
                          case measure => simp [intOf]; omega
                      -- END r28
                · obtain rfl : k = L2.length := by omega
                  rw [List.take_of_length_le (Nat.le_refl _)] at hown ⊢
                  rename World => wk
                  obtain ⟨at12, ct12, rfl, hrt, hct⟩ := hown.row
                  rw [topL_len] at hrt hct ⊢
                  have hsm := sumS_le (l := L2) (m := 80) hv2
                  have hsl : ((L2.length : Nat) : Int) ≤ 80 := by omega
                  have hPB : ∀ W, Below wk.heap.size wk W → HeatW W (sb + 1) ob5 L2 ∧ (W.cell? ⟨sb, 0, none⟩ = some (.int .i64 s.1) ∧ W.cell? ⟨sb, 1, none⟩ = some (.int .i64 s.2)) ∧ HRow W at12 L2.length (topL L2) := fun W hW => by
                    have hbo : Below wo.heap.size wo W := hbk.trans (hW.mono hbk.size)
                    refine ⟨HP5.out.heat.below hbo, ⟨?_, ?_⟩, hrt.below hW (Nat.le_refl _)⟩
                    · rw [hbo.cell (p := ⟨sb, 0, none⟩) (by show sb < wo.heap.size; omega)]; exact hS1
                    · rw [hbo.cell (p := ⟨sb, 1, none⟩) (by show sb < wo.heap.size; omega)]; exact hS2
                  have HB := Lib.hid hPB
                  have hS0 := (HB.out wk.drew (Below.drewT (Below.refl _ _))).2.1
                  have hb00 : Below wk.heap.size wk wk.drew := Below.drewT (Below.refl _ _)
                  have HOF := fun W hW => of_heat (HB.out W hW).1 s hs
                  have HSU := fun W hW => sum_heat (HB.out W hW).1 (fun p hp => (hv2 p hp).1) (by omega)
                  have HTO := fun W hW => top_heat many (HB.out W hW).1
                  have HEQ : ∀ (W : World) (hW : Below wk.heap.size wk W) (at1 : Option Addr) (n1 c1 : Nat), HRow W at1 n1 ((topL L2).take many.toNat) → Calls Try.prog 69 #[.slice at1 n1 c1, .slice at12 (min (max many 0) (L2.length : Int)).toNat ct12] W fun e w' => e = .returned (.bool true) ∧ Below W.heap.size W w' := fun W hW at1 n1 c1 hr1 => by
                    have := equalH_any at1 at12 n1 (min (max many 0) (L2.length : Int)).toNat c1 ct12 _ _ W hr1 ((HB.out W hW).2.2.top many (topL_len L2)) (by have := hr1.1; rw [List.length_take, topL_len] at this; omega)
                    rw [decide_eq_true rfl] at this
                    exact this
                  generalize cntS L2 s = cn at *
                  generalize sumS L2 = sm at *
                  have H1 := Lib.hid HOF
                  have H2 := Lib.hid HSU
                  have H3 := Lib.hid HTO
                  have H4 := Lib.hid HEQ
                  clear hPB HOF HSU HTO HEQ hrt hown hv2 hnd
                  go_wp2_with fail
                  go_region_held (fun W' => W'.cell? ⟨sb, 0, none⟩ = some (.int .i64 s.1) ∧ W'.cell? ⟨sb, 1, none⟩ = some (.int .i64 s.2)) (first | exact hS8 | exact hS7 | exact hS6 | exact hS5 | exact hS0)
                    (first
                      | (go_at_call 67; refine (H1.out _ hb00).mono ?_; rintro e w5 ⟨rfl, hb5⟩; have hB5 := hb00.trans hb5; have hS5 := (HB.out w5 hB5).2.1)
                      | (go_at_call 68; refine (H2.out w5 hB5).mono ?_; rintro e w6 ⟨rfl, hb6⟩; have hB6 := hB5.trans (hb6.mono hB5.size); have hS6 := (HB.out w6 hB6).2.1)
                      | (go_at_call 70; refine (H3.out w6 hB6).mono ?_; rintro e w7 ⟨at1, n1, c1, rfl, hr7, hb7⟩; have hB7 := hB6.trans (hb7.mono hB6.size); have hS7 := (HB.out w7 hB7).2.1)
                      | (go_at_call 69; refine (H4.out w7 hB7 at1 n1 c1 hr7).mono ?_; rintro e w8 ⟨rfl, hb8⟩; have hB8 := hB7.trans (hb8.mono hB7.size); have hS8 := (HB.out w8 hB8).2.1))
                  all_goals
                    go_wp2_with fail
                    go_roundw
                    case rel => exact ⟨i + 1, L2, ob5, by omega, by go_num, HP5.out.stays (hbk.trans (hB8.mono hbk.size))⟩
                    case measure => simp [intOf]; omega
        · go_wp2_with fail
          go_ret
          exact ⟨rfl, by rw [hsb]; exact hb0.trans (HP2.out.below.mono (by omega))⟩
      · obtain rfl : i = n := by omega
        have HP := Lib.hid hP
        clear hP hP0 hl hlS
        go_wp2_with fail
        refine (heatAlive_any wr).mono ?_
        rintro e w9 ⟨rfl, hb9⟩
        have hb := HP.out.below.trans (hb9.mono HP.out.below.size)
        go_wp2_with fail
        go_ret
        exact ⟨rfl, by rw [hsb]; exact hb0.trans (hb.mono (by omega))⟩
end Go.Proofs.Ytljbehndnledpaa
