/- The walk of the law ExportPuts: it returns true and writes nothing that was there. No condition but that the tape's bytes read. -/
import Derived.Test.YtljbehndnledpaaExportAlive
import Derived.Deep.RegionHeld3
namespace Go.Proofs.Ytljbehndnledpaa
open Go.RowKit

/-- A slice of one byte, just laid. -/
theorem own_one (w : World) (c : UInt8) (x : Int) (h : x = (c.toNat : Int)) : (w.alloc (.cells #[.int .u8 x] 5)).ownsRow w.heap.size 5 1 (.slice (some ⟨w.heap.size, 0, none⟩) 1 1) [c].length (cellsOfB [c]) := by
  subst h
  exact ⟨rfl, .inr ⟨w.heap.size, 1, #[.int .u8 (c.toNat : Int)], rfl, Nat.le_refl _, heap_alloc_new w _, Nat.le_refl _, by unfold maxLen; omega, rfl, rfl⟩⟩

set_option maxRecDepth 100000 in
set_option maxHeartbeats 2000000 in
theorem exportPutsLaw (z : Int) (a : Option Addr) (n cap : Nat) (l : List UInt8) (w : World) (h : Bs w a n l) (hcap : n ≤ cap) :
    Calls Try.prog 8 #[.agg #[.int .i64 z, .slice a n cap]] w fun e w' => e = .returned (.bool true) ∧ Below w.heap.size w w' := by
  by_cases hbig : 2100 < n
  · go_enter Try.func8, Try.ntmps8
    go_wp2_with fail
    go_ret
    exact ⟨rfl, (Below.refl _ _).alloc (Nat.le_refl _) _⟩
  · have hn : n ≤ 2100 := by omega
    clear hbig
    have hB0 : Below w.heap.size w (w.alloc (.cells #[.int .i64 z, .slice a n cap] 56)) := (Below.refl _ _).alloc (Nat.le_refl _) _
    have hp := put_any z a n cap l (w.alloc (.cells #[.int .i64 z, .slice a n cap] 56)) (h.below hB0 (Nat.le_refl _)) hcap
    have HB := Lib.hid h
    have HL := Lib.hid h.length
    have HP := Lib.hid hp
    clear h hp
    go_enter Try.func8, Try.ntmps8
    go_wp2_with fail
    refine HP.out.mono ?_
    clear HP
    rintro e w1 ⟨hb1, h1⟩
    have hb2 : Below w.heap.size w w1 := hB0.trans (hb1.mono (by simp))
    have c0 : w1.cell? ⟨w.heap.size, 0, none⟩ = some (.int .i64 z) := by rw [hb1.cell (by simp)]; simp
    have c1 : w1.cell? ⟨w.heap.size, 1, none⟩ = some (.slice a n cap) := by rw [hb1.cell (by simp)]; simp
    have hlt : w.heap.size < w1.heap.size := by have := hb1.size; simp at this; omega
    rcases h1 with ⟨hr, rfl⟩ | ⟨hr, v, rfl, ho⟩
    · have hR := refRight_any z a n cap w1 false (Lib.hid hr)
      have HR := Lib.hid hR
      clear hR hr hb1 hB0
      go_wp2_with fail
      refine HR.out.mono ?_
      rintro e w2 ⟨rfl, hb3⟩
      have hb4 := hb2.trans (hb3.mono hb2.size)
      clear hb3
      go_wp2_with fail
      refine (alive_any w2).mono ?_
      rintro e w3 ⟨rfl, hb5⟩
      have hb6 := hb4.trans (hb5.mono hb4.size)
      clear hb5
      go_wp2_with fail
      go_ret
      exact ⟨rfl, hb6⟩
    · have hz := of_decide_eq_true hr
      obtain ⟨k, rfl⟩ : ∃ k : Nat, z = k := ⟨z.toNat, by omega⟩
      obtain ⟨h1, h2, h3⟩ := hz
      have hR := refRight_any k a n cap w1 true (Lib.hid hr)
      have HR := Lib.hid hR
      have hk8 : ((UInt8.ofNat k).toNat : Int) = k := by rw [UInt8.toNat_ofNat']; omega
      have hG : getL (UInt8.ofNat ((k : Int)).toNat :: packL l) = ((k : Int), l, 0) := by
        simp only [getL]
        rw [unpack_pack l 2048 (by rw [HL.out]; omega), Int.toNat_natCast, hk8, HL.out]
        simp [hr]
      obtain ⟨P, hP⟩ : ∃ P, P = UInt8.ofNat ((k : Int)).toNat :: packL l := ⟨_, rfl⟩
      rw [← hP] at ho hG
      have hPl : P.length ≤ 10000 := by have := packL_len l; rw [HL.out] at this; rw [hP]; simp; omega
      obtain ⟨av, cv, rfl, hsv, hcv⟩ := own_sl ho
      obtain ⟨av', cv', e', hbv, _⟩ := own_bs ho
      cases e'
      have HBV := Lib.hid hbv
      have HG := Lib.hid hG
      have HPP := Lib.hid hP
      clear hR hr hb1 hB0 hsv ho hG hk8 hbv hP
      go_wp2_with fail
      refine HR.out.mono ?_
      rintro e w2 ⟨rfl, hb3⟩
      have hb4 := hb2.trans (hb3.mono hb2.size)
      have c0' : w2.cell? ⟨w.heap.size, 0, none⟩ = some (.int .i64 k) := by rw [hb3.cell hlt]; exact c0
      have c1' : w2.cell? ⟨w.heap.size, 1, none⟩ = some (.slice a n cap) := by rw [hb3.cell hlt]; exact c1
      have hbv2 : Bs w2 av P.length P := HBV.out.below hb3 (Nat.le_refl _)
      have hg := get_any av P.length cv P w2 hbv2 hcv (by omega)
      rw [HG.out] at hg
      have HGT := Lib.hid hg
      have hlt2 : w.heap.size < w2.heap.size := Nat.lt_of_lt_of_le hlt hb3.size
      have HBV2 := Lib.hid hbv2
      clear hb3 hg hbv2 c0 c1 HBV
      go_wp2_with fail
      refine HGT.out.mono ?_
      rintro e w3 ⟨hb5, v2, rfl, ho2⟩
      obtain ⟨a2, c2, rfl, hb2s, _⟩ := own_bs ho2
      simp only at hb2s
      have hb6 := hb4.trans (hb5.mono hb4.size)
      have c0 : w3.cell? ⟨w.heap.size, 0, none⟩ = some (.int .i64 k) := by rw [hb5.cell hlt2]; exact c0'
      have c1 : w3.cell? ⟨w.heap.size, 1, none⟩ = some (.slice a n cap) := by rw [hb5.cell hlt2]; exact c1'
      have hlt3 : w.heap.size < w3.heap.size := Nat.lt_of_lt_of_le hlt2 hb5.size
      have HV2 := Lib.hid hb2s
      have HBV3 := Lib.hid (Is.below HBV2.out hb5 (Nat.le_refl _))
      have H3 := Lib.hid h3
      clear ho2 hb2s hb5 hb4 c0' c1' HGT HR hlt2 HBV2 hb2 h3 hlt
      go_wp2_with fail
      have hb7 : Below w3.heap.size w3 (w3.alloc (.cells #[.int .i64 k, .slice a2 l.length c2] 56)) := (Below.refl _ _).alloc (Nat.le_refl _) _
      have d0 : (w3.alloc (.cells #[.int .i64 k, .slice a2 l.length c2] 56)).cell? ⟨w3.heap.size, 0, none⟩ = some (.int .i64 k) := by simp
      have d1 : (w3.alloc (.cells #[.int .i64 k, .slice a2 l.length c2] 56)).cell? ⟨w3.heap.size, 1, none⟩ = some (.slice a2 l.length c2) := by simp
      have hlt4 : w3.heap.size < (w3.alloc (.cells #[.int .i64 k, .slice a2 l.length c2] 56)).heap.size := by simp
      generalize w3.alloc (.cells #[.int .i64 k, .slice a2 l.length c2] 56) = w4 at *
      have hb8 : Below w.heap.size w w4 := hb6.trans (hb7.mono hb6.size)
      have e0 : w4.cell? ⟨w.heap.size, 0, none⟩ = some (.int .i64 k) := by rw [hb7.cell hlt3]; exact c0
      have e1 : w4.cell? ⟨w.heap.size, 1, none⟩ = some (.slice a n cap) := by rw [hb7.cell hlt3]; exact c1
      have hlt5 : w.heap.size < w4.heap.size := Nat.lt_trans hlt3 hlt4
      have HV4 : Hid (Bs w4 a2 l.length l) := Lib.hid (HV2.out.below hb7 (Nat.le_refl _))
      have HP4 : Hid (Bs w4 av P.length P) := Lib.hid (HBV3.out.below hb7 (Nat.le_refl _))
      have hw8 : IntKind.u8.wrap (k : Int) = k := by rw [IntKind.wrap_u8']; omega
      have hc8 : ((UInt8.ofNat ((k : Int)).toNat).toNat : Int) = k := by rw [UInt8.toNat_ofNat', Int.toNat_natCast]; omega
      have HC8 := Lib.hid hc8
      clear HV2 HBV3 c0 c1 hb7 hb6 hc8 HG
      generalize w3.heap.size = D at *
      clear hlt3
      have HBd : Bs w4.drew a n l := HB.out.below hb8.drew (Nat.le_refl _)
      have HBa : Bs (w4.alloc (.cells #[.int .u8 k] 5)).drew a n l := HB.out.below (hb8.alloc hb8.size _).drew (Nat.le_refl _)
      go_region_held3 (fun w' => w'.cell? ⟨w.heap.size, 0, none⟩ = some (.int .i64 k) ∧ w'.cell? ⟨w.heap.size, 1, none⟩ = some (.slice a n cap) ∧ w'.cell? ⟨D, 0, none⟩ = some (.int .i64 k) ∧ w'.cell? ⟨D, 1, none⟩ = some (.slice a2 l.length c2))
       (first
        | exact hHeld
        | exact ⟨by assumption, by assumption, by assumption, by assumption⟩
        | go_keep)
       (first
        | (refine step_call (o := ⟨some 44, _, _, _, _, _⟩) (by kernel_rfl) 41 Try.func41 (by kernel_rfl) rfl _ _ rfl #[.slice a n cap] (by simp [Act.eval]) (refPack_any a n cap l _ (by with_reducible exact HBd) (by omega) hcap) ?_
           rintro e w5 ⟨v5, rfl, ho5, hb9⟩
           refine ⟨v5, rfl, ?_⟩
           have hb10 : Below w4.heap.size w4 w5 := (Below.refl _ _).drew.trans hb9
           have e0'' : w5.cell? ⟨w.heap.size, 0, none⟩ = some (.int .i64 k) := by rw [hb10.cell hlt5]; exact e0
           have e1'' : w5.cell? ⟨w.heap.size, 1, none⟩ = some (.slice a n cap) := by rw [hb10.cell hlt5]; exact e1
           have d0'' : w5.cell? ⟨D, 0, none⟩ = some (.int .i64 k) := by rw [hb10.cell hlt4]; exact d0
           have d1'' : w5.cell? ⟨D, 1, none⟩ = some (.slice a2 l.length c2) := by rw [hb10.cell hlt4]; exact d1
           have hl6 : w.heap.size < w5.heap.size := Nat.lt_of_lt_of_le hlt5 hb10.size
           have hl7 : D < w5.heap.size := Nat.lt_of_lt_of_le hlt4 hb10.size
           obtain ⟨g5, c5, rfl⟩ := own_some ho5 (packL_pos l (by rw [HL.out]; have := H3.out; omega))
           have hown := own_one w5 (UInt8.ofNat ((k : Int)).toNat) k HC8.out.symm
           have ho7 := own_keep ho5 ((Below.refl w5.heap.size w5).alloc (Nat.le_refl _) (.cells #[.int .u8 k] 5))
           obtain ⟨a7, c7, e7, hb7s, _⟩ := own_bs ho7
           cases e7
           obtain ⟨v6, w6, hap, ho6, hg6⟩ := app_src hown c5 hb7s (by have := packL_len l; rw [HL.out] at this; simp; omega) (by simp)
           have hb11 : Below w4.heap.size w4 w6 := Below.own (hb10.alloc hb10.size (.cells #[.int .u8 k] 5)) hown hg6 hb10.size (by have := hb10.size; simp; omega)
           have e0' : w6.cell? ⟨w.heap.size, 0, none⟩ = some (.int .i64 k) := by rw [hb11.cell hlt5]; exact e0
           have e1' : w6.cell? ⟨w.heap.size, 1, none⟩ = some (.slice a n cap) := by rw [hb11.cell hlt5]; exact e1
           have d0' : w6.cell? ⟨D, 0, none⟩ = some (.int .i64 k) := by rw [hb11.cell hlt4]; exact d0
           have d1' : w6.cell? ⟨D, 1, none⟩ = some (.slice a2 l.length c2) := by rw [hb11.cell hlt4]; exact d1
           have hl8 : w.heap.size < w6.heap.size := Nat.lt_of_lt_of_le hlt5 hb11.size
           have hl9 : D < w6.heap.size := Nat.lt_of_lt_of_le hlt4 hb11.size
           have hb12 : Below w.heap.size w w6 := hb8.trans (hb11.mono hb8.size)
           have hq1 : Bs w6 av P.length P := HP4.out.below hb11 (Nat.le_refl _)
           have hq2 : Bs w6 a2 l.length l := HV4.out.below hb11 (Nat.le_refl _)
           have hq3 : Bs w6 a n l := HB.out.below hb12 (Nat.le_refl _)
           rw [show [UInt8.ofNat ((k : Int)).toNat] ++ packL l = P from HPP.out.symm] at ho6
           obtain ⟨a6, c6, rfl, hq4, _⟩ := own_bs ho6
           have HQ1 := Lib.hid hq1
           have HQ2 := Lib.hid hq2
           have HQ3 := Lib.hid hq3
           have HQ4 := Lib.hid hq4
           clear hq1 hq2 hq3 hq4 ho6 hb11
           clear hown ho7 hb7s hg6 ho5 hb9 hb10)
        | (refine step_call (o := ⟨some 44, _, _, _, _, _⟩) (by kernel_rfl) 41 Try.func41 (by kernel_rfl) rfl _ _ rfl #[.slice a n cap] (by simp [Act.eval]) (refPack_any a n cap l _ (by with_reducible exact HBa) (by omega) hcap) ?_
           rintro e w5 ⟨v5, rfl, ho5, hb9⟩
           refine ⟨v5, rfl, ?_⟩
           have hb10 : Below w4.heap.size w4 w5 := ((Below.refl _ _).alloc (Nat.le_refl _) _).drew.trans (hb9.mono (by simp))
           have e0'' : w5.cell? ⟨w.heap.size, 0, none⟩ = some (.int .i64 k) := by rw [hb10.cell hlt5]; exact e0
           have e1'' : w5.cell? ⟨w.heap.size, 1, none⟩ = some (.slice a n cap) := by rw [hb10.cell hlt5]; exact e1
           have d0'' : w5.cell? ⟨D, 0, none⟩ = some (.int .i64 k) := by rw [hb10.cell hlt4]; exact d0
           have d1'' : w5.cell? ⟨D, 1, none⟩ = some (.slice a2 l.length c2) := by rw [hb10.cell hlt4]; exact d1
           have hl6 : w.heap.size < w5.heap.size := Nat.lt_of_lt_of_le hlt5 hb10.size
           have hl7 : D < w5.heap.size := Nat.lt_of_lt_of_le hlt4 hb10.size
           obtain ⟨g5, c5, rfl⟩ := own_some ho5 (packL_pos l (by rw [HL.out]; have := H3.out; omega))
           have hown0 := own_one w4 (UInt8.ofNat ((k : Int)).toNat) k HC8.out.symm
           have hown := own_keep hown0.drew hb9
           obtain ⟨a7, c7, e7, hb7s, _⟩ := own_bs ho5
           cases e7
           obtain ⟨v6, w6, hap, ho6, hg6⟩ := app_src hown c5 hb7s (by have := packL_len l; rw [HL.out] at this; simp; omega) hb10.size
           have hb11 : Below w4.heap.size w4 w6 := Below.own hb10 hown hg6 (Nat.le_refl _) hb10.size
           have e0' : w6.cell? ⟨w.heap.size, 0, none⟩ = some (.int .i64 k) := by rw [hb11.cell hlt5]; exact e0
           have e1' : w6.cell? ⟨w.heap.size, 1, none⟩ = some (.slice a n cap) := by rw [hb11.cell hlt5]; exact e1
           have d0' : w6.cell? ⟨D, 0, none⟩ = some (.int .i64 k) := by rw [hb11.cell hlt4]; exact d0
           have d1' : w6.cell? ⟨D, 1, none⟩ = some (.slice a2 l.length c2) := by rw [hb11.cell hlt4]; exact d1
           have hl8 : w.heap.size < w6.heap.size := Nat.lt_of_lt_of_le hlt5 hb11.size
           have hl9 : D < w6.heap.size := Nat.lt_of_lt_of_le hlt4 hb11.size
           have hb12 : Below w.heap.size w w6 := hb8.trans (hb11.mono hb8.size)
           have hq1 : Bs w6 av P.length P := HP4.out.below hb11 (Nat.le_refl _)
           have hq2 : Bs w6 a2 l.length l := HV4.out.below hb11 (Nat.le_refl _)
           have hq3 : Bs w6 a n l := HB.out.below hb12 (Nat.le_refl _)
           rw [show [UInt8.ofNat ((k : Int)).toNat] ++ packL l = P from HPP.out.symm] at ho6
           obtain ⟨a6, c6, rfl, hq4, _⟩ := own_bs ho6
           have HQ1 := Lib.hid hq1
           have HQ2 := Lib.hid hq2
           have HQ3 := Lib.hid hq3
           have HQ4 := Lib.hid hq4
           clear hq1 hq2 hq3 hq4 ho6 hb11
           clear hown hown0 hb7s hg6 ho5 hb9 hb10)
        | (refine step_append_run (o := ⟨some 45, _, _, _, _, _⟩) (by kernel_rfl) _ _ _ rfl hap ?_)
        | (refine step_call (o := ⟨some 46, _, _, _, _, _⟩) (by kernel_rfl) 31 Try.func31 (by kernel_rfl) rfl _ _ rfl #[.slice av P.length cv, .slice a6 P.length c6] (by simp [Act.eval]) (bytesEq_any av a6 P.length P.length cv c6 P P w6 HQ1.out HQ4.out) ?_
           rintro e w7 ⟨rfl, rfl⟩
           refine ⟨_, rfl, ?_⟩)
        | (refine step_call (o := ⟨some 60, _, _, _, _, _⟩) (by kernel_rfl) 31 Try.func31 (by kernel_rfl) rfl _ _ rfl #[.slice a2 l.length c2, .slice a n cap] (by simp [Act.eval]) (bytesEq_any a2 a l.length n c2 cap l l w6 HQ2.out HQ3.out) ?_
           rintro e w7 ⟨rfl, rfl⟩
           refine ⟨_, rfl, ?_⟩)
        | (refine step_call (o := ⟨some 67, _, _, _, _, _⟩) (by kernel_rfl) 39 Try.func39 (by kernel_rfl) rfl _ _ rfl #[] (by simp) (alive_any w6) ?_
           rintro e w8 ⟨rfl, hb13⟩
           refine ⟨_, rfl, ?_⟩
           have e0q : w8.cell? ⟨w.heap.size, 0, none⟩ = some (.int .i64 k) := by rw [hb13.cell hl8]; exact e0'
           have e1q : w8.cell? ⟨w.heap.size, 1, none⟩ = some (.slice a n cap) := by rw [hb13.cell hl8]; exact e1'
           have d0q : w8.cell? ⟨D, 0, none⟩ = some (.int .i64 k) := by rw [hb13.cell hl9]; exact d0'
           have d1q : w8.cell? ⟨D, 1, none⟩ = some (.slice a2 l.length c2) := by rw [hb13.cell hl9]; exact d1'
           have hb14 := hb12.trans (hb13.mono hb12.size)))
      all_goals
        go_wp2_with fail
        go_ret
        exact ⟨rfl, hb14⟩
end Go.Proofs.Ytljbehndnledpaa
