/- The walk of yesteryearref29.Line. Conditions: those of the theorem. -/
import Derived.Test.YtljbehndnledpaaOpSame
namespace Go.Proofs.Ytljbehndnledpaa
open Go.RowKit

theorem words_each (o : PO) (h : o.right = true) (hp0 : 0 ≤ o.pt) (hp1 : o.pt < 18446744073709551616) : (∀ y ∈ o.words, y.length ≤ 200) ∧ o.words.length ≤ 9 := by
  obtain ⟨hk, hall⟩ := PO.right_all h
  have hnum : ∀ z : Int, 0 ≤ z → z < 18446744073709551616 → (numW z).length ≤ 20 := fun z h0 h1 => dec_len _ (by omega)
  have hpart : ∀ c ∈ looksL o.k, (∀ y ∈ o.part c, y.length ≤ 200) ∧ (c ≠ 109 → (o.part c).length ≤ 1) ∧ (o.part c).length ≤ 8 := by
    intro c hc
    have hm := hall c hc
    rcases looks_letters _ c hc with rfl | rfl | rfl | rfl | rfl | rfl | rfl
    · rw [part_v]; simp [mayO, okId] at hm; have := hnum o.v (by omega) (by omega); simp; omega
    · rw [part_i]; simp [mayO, okId] at hm; have := hnum o.i (by omega) (by omega); simp; omega
    · rw [part_b]; simp [mayO, okPlace] at hm; have := hnum o.b (by omega) (by omega); simp; omega
    · rw [part_n]; simp [mayO, okCount] at hm; have := hnum o.n (by omega) (by omega); simp; omega
    · rw [part_p]; have := hnum o.pt hp0 hp1; simp; omega
    · rw [part_d]; simp [mayO, okData] at hm; have := hexL_len o.d; simp; omega
    · rw [part_m]; simp [mayO, okMem] at hm
      refine ⟨fun y hy => ?_, by simp, by simp; omega⟩
      obtain ⟨x, hx, rfl⟩ := List.mem_map.1 hy
      have := rises_range o.m 0 (Int.le_refl 0) hm.1 x hx
      have := hnum x (by omega) (by omega)
      omega
  refine ⟨fun y hy => ?_, ?_⟩
  · unfold PO.words at hy
    rcases List.mem_cons.1 hy with rfl | hy
    · have := word_len o.k; omega
    · obtain ⟨c, hc, hy⟩ := List.mem_flatMap.1 hy
      exact (hpart c hc).1 y hy
  · unfold PO.words
    obtain ⟨k, v, i, b, n, pt, d, m⟩ := o
    simp only at hk hpart ⊢
    rw [List.length_cons]
    generalize PO.part ⟨k, v, i, b, n, pt, d, m⟩ = F at *
    rcases kinds k hk.1 hk.2 with rfl | rfl | rfl | rfl | rfl | rfl | rfl | rfl | rfl | rfl | rfl | rfl | rfl | rfl | rfl | rfl | rfl | rfl | rfl <;>
      simp [looksL] at hpart ⊢ <;> omega

set_option maxRecDepth 100000 in
set_option maxHeartbeats 8000000 in
theorem refLine_any (k v i b n pt : Int) (d : List UInt8) (m : List Int) (da ma : Option Addr) (dn dc mn mc : Nat) (w : World) (hd : Bs w da dn d) (hm : Is .i64 w ma mn m) (hdn : dn ≤ 1000000000) (hmn : mn ≤ 1000000000) (hp0 : 0 ≤ pt) (hp1 : pt < 18446744073709551616) :
    Calls Try.prog 51 #[.agg #[.int .i64 k, .int .i64 v, .int .i64 i, .int .i64 b, .int .i64 n, .int .u64 pt, .slice da dn dc, .slice ma mn mc]] w fun e w' => e = .returned (.string (mkS (PO.line ⟨k, v, i, b, n, pt, d, m⟩))) ∧ Below w.heap.size w w' := by
  have hm0 : m.length = mn := hm.len
  have hdl : d.length = dn := by have := hd.len; simpa using this
  have hb : Below w.heap.size w (w.alloc (.cells #[.int .i64 k, .int .i64 v, .int .i64 i, .int .i64 b, .int .i64 n, .int .u64 pt, .slice da dn dc, .slice ma mn mc] 80)) := (Below.refl _ _).alloc (Nat.le_refl _) _
  have hc8 := Cells8.new w k v i b n pt (.slice da dn dc) (.slice ma mn mc)
  have hA : w.heap.size < (w.alloc (.cells #[.int .i64 k, .int .i64 v, .int .i64 i, .int .i64 b, .int .i64 n, .int .u64 pt, .slice da dn dc, .slice ma mn mc] 80)).heap.size := by simp
  have hright := refRightO_any k v i b n pt da ma dn dc mn mc m (w.alloc (.cells #[.int .i64 k, .int .i64 v, .int .i64 i, .int .i64 b, .int .i64 n, .int .u64 pt, .slice da dn dc, .slice ma mn mc] 80)) (Is.below hm hb (Nat.le_refl _)) hmn
  have hRR : PO.right ⟨k, v, i, b, n, pt, d, m⟩ = rightO k v i b n dn m := by rw [← hdl]; rfl
  cases hr : rightO k v i b n dn m with
  | false =>
    have hL : PO.line ⟨k, v, i, b, n, pt, d, m⟩ = [] := by unfold PO.line; rw [hRR, hr]; rfl
    rw [hL]
    rw [hr] at hright
    clear hL hRR hr hc8 hA hd hm hdl
    have HR := Lib.hid hright
    clear hright
    go_enter Try.func51, Try.ntmps51
    go_wp2_with fail
    generalize w.alloc (.cells #[.int .i64 k, .int .i64 v, .int .i64 i, .int .i64 b, .int .i64 n, .int .u64 pt, .slice da dn dc, .slice ma mn mc] 80) = w1 at *
    refine HR.out.mono ?_
    rintro e w2 ⟨rfl, hb2⟩
    go_wp2_with fail
    go_ret
    exact ⟨rfl, hb.trans (hb2.mono hb.size)⟩
  | true =>
    have hL : PO.line ⟨k, v, i, b, n, pt, d, m⟩ = joinL (PO.words ⟨k, v, i, b, n, pt, d, m⟩) := by unfold PO.line; rw [hRR, hr]; rfl
    have hwd := fun w hd hm => refWordsO_any k v i b n pt d m da ma dn dc mn mc w (hRR.trans hr) hd hm hdn hmn hp0 hp1
    obtain ⟨hwe, hwc⟩ := words_each _ (hRR.trans hr) hp0 hp1
    rw [hL]
    rw [hr] at hright
    obtain ⟨S0, r, hWW⟩ : ∃ S0 r, PO.words ⟨k, v, i, b, n, pt, d, m⟩ = S0 :: r := ⟨_, _, rfl⟩
    rw [hWW] at hwd hwe hwc ⊢
    obtain ⟨T0, hT0⟩ : ∃ T, T = joinL (S0 :: r) := ⟨_, rfl⟩
    rw [← hT0]
    have HT0 := Lib.hid hT0
    have HWE := Lib.hid hwe
    have HWD := Lib.hid hwd
    have HR := Lib.hid hright
    have HD := Lib.hid hd
    have HM := Lib.hid hm
    have HC8 := Lib.hid hc8
    have hS0 := hwe S0 (List.mem_cons_self ..)
    clear hT0 hwd hwe hright hL hRR hr hd hm hc8 hWW hm0 hdl
    go_enter Try.func51, Try.ntmps51
    go_wp2_with fail
    generalize w.alloc (.cells #[.int .i64 k, .int .i64 v, .int .i64 i, .int .i64 b, .int .i64 n, .int .u64 pt, .slice da dn dc, .slice ma mn mc] 80) = w1 at *
    refine HR.out.mono ?_
    rintro e w2 ⟨rfl, hb2⟩
    obtain ⟨d0, d1, d2, d3, d4, d5, d6, d7⟩ := HC8.out.below hb2 hA
    go_wp2_with fail
    refine (HWD.out w2 (Is.below HD.out (hb.trans (hb2.mono hb.size)) (Nat.le_refl _)) (Is.below HM.out (hb.trans (hb2.mono hb.size)) (Nat.le_refl _))).mono ?_
    rintro e w3 ⟨vv, rfl, hown, hb3⟩
    have hb4 := hb2.trans (hb3.mono hb2.size)
    obtain ⟨a, cap, rfl, hss⟩ := hown.ss
    obtain ⟨B, o, rfl, hc⟩ := hss.at (by simp)
    have hc0 : w3.cell? ⟨B, o, none⟩ = some (.string ⟨S0.toArray⟩) := hc 0 _ rfl
    have HC := Lib.hid hc
    have hlen : (S0 :: r).length = r.length + 1 := rfl
    rw [hlen]
    have hrl : r.length ≤ 8 := by rw [hlen] at hwc; omega
    have hrl2 : (0 : Int) < (r.length : Int) + 1 := by omega
    clear hc hss hown hwc hlen d0 d1 d2 d3 d4 d5 d6 d7
    go_wp2_with fail
    go_loop [4, 5] (fun u4 u5 => ∃ j : Nat, j ≤ r.length ∧ u5 = .int .i64 ((j : Int) + 1) ∧ u4 = .string ⟨(S0 ++ sp (r.take j)).toArray⟩ ∧ (S0 ++ sp (r.take j)).length ≤ 201 * (j + 1)) (fun _ u5 => r.length + 1 - (intOf u5).toNat)
    case atStart => exact ⟨0, by omega, rfl, by simp [sp], by simp [sp]; omega⟩
    case round =>
      obtain ⟨j, hj, rfl, rfl, hsl⟩ := hrel
      by_cases hlt : j < r.length
      · obtain ⟨y, hy⟩ : ∃ y, r[j]? = some y := ⟨_, List.getElem?_eq_getElem hlt⟩
        have hck : w3.cell? ⟨B, o + (j + 1), none⟩ = some (.string ⟨y.toArray⟩) := HC.out (j + 1) (sv (mkS y)) (by simp [hy])
        have hyl := HWE.out y (List.mem_cons_of_mem _ (List.mem_of_getElem? hy))
        have hnx : S0 ++ sp (r.take (j + 1)) = (S0 ++ sp (r.take j)) ++ (32 :: y) := by
          rw [List.take_add_one, hy, sp_app, List.append_assoc]; simp [sp]
        have HNX := Lib.hid hnx
        generalize S0 ++ sp (r.take j) = T at *
        clear hnx hy
        have hj1 : (j : Int) + 1 < (r.length : Int) + 1 := by omega
        have hj0 : (0 : Int) ≤ (j : Int) + 1 := by omega
        have hjn : ((j : Int) + 1).toNat = j + 1 := by omega
        go_wp2_with fail
        refine ⟨⟨j + 1, by omega, by go_num, ?_, by rw [HNX.out]; simp; omega⟩, by simp [intOf]; omega⟩
        rw [HNX.out]
        rfl
      · obtain rfl : j = r.length := by omega
        rw [List.take_length]
        have hfin : S0 ++ sp r = T0 := by rw [HT0.out]; rfl
        rw [hfin]
        clear hfin hsl
        go_wp2_with fail
        go_ret
        exact ⟨rfl, hb.trans (hb4.mono hb.size)⟩
end Go.Proofs.Ytljbehndnledpaa
