/- The walk of yesteryearlaw56.BatchSquash. Conditions: those of each theorem. -/
import Derived.Deep.Cut
import Derived.Deep.RegionHeld
import Derived.Test.YtljbehndnledpaaOpenOps
import Derived.Test.YtljbehndnledpaaBatchPlain
import Derived.Test.YtljbehndnledpaaBatchAlive
import Derived.Test.YtljbehndnledpaaBatchSplit
import Derived.Test.YtljbehndnledpaaBatchTouched
import Derived.Test.YtljbehndnledpaaSame29
namespace Go.Proofs.Ytljbehndnledpaa
open Go.RowKit Go.ChangeShapes Go.WideShapes

theorem ops_cap_of_trod {H : Type} {enc : TypeId × Value → H} {w : World} {a : Option Addr} {n cap : Nat} {d : DataW H} {p : List MemPlace} (h : DataW.Trod enc Try.prog w 0 (fun _ => true) true 87 (.slice a n cap) d p) : n ≤ cap := by
  obtain ⟨fuel, hf⟩ := h
  obtain ⟨f0, f1, f2, f3, f4, f5, f6, f7, hs, hone, -⟩ := under80
  rcases open_slice_fields Try.underlying87 hs hone cells80 hf with ⟨hcs, _⟩ | ⟨x, len, cap', m, D, Pl, hcs, _, hl, -⟩
  · simp [Value.cells] at hcs
    omega
  · simp [Value.cells] at hcs
    omega
end Go.Proofs.Ytljbehndnledpaa
namespace Go.Proofs.Ytljbehndnledpaa
open Go.RowKit

set_option maxRecDepth 100000 in
set_option maxHeartbeats 1000000 in
theorem few_big (a : Option Addr) (n c : Nat) (w : World) (hn : 60 < n) :
    Calls Try.prog 81 #[.slice a n c, .int .i64 60] w fun e w' => e = .returned (.bool false) ∧ Below w.heap.size w w' := by
  have hm : (60 : Int) < (n : Int) := by omega
  go_enter Try.func81, Try.ntmps81
  go_wp2_with fail
  go_ret
  exact ⟨rfl, Below.refl _ _⟩

theorem Ops.cellsAt {w : World} {a : Option Addr} {n : Nat} {l : List PO} (h : Ops w a n l) {i : Nat} {o : PO} (ho : l[i]? = some o) :
    ∃ b p da dc ma mc, a = some ⟨b, p, none⟩ ∧ OpVal w o (.slice da o.d.length dc) (.slice ma o.m.length mc) ∧ ∀ W, Below w.heap.size w W → Cells8at W b (p + i * 8) o (.slice da o.d.length dc) (.slice ma o.m.length mc) ∧ Is .i64 W ma o.m.length o.m := by
  obtain ⟨b, p, dv, mv, ha, hc, da, dc, ma, mc, rfl, rfl, hb, hi⟩ := h.2 i o ho
  refine ⟨b, p, da, dc, ma, mc, ha, ⟨da, dc, ma, mc, rfl, rfl, hb, hi⟩, fun W hW => ⟨?_, Is.below hi hW (Nat.le_refl _)⟩⟩
  have hk : ∀ j x, (opCells o (.slice da o.d.length dc) (.slice ma o.m.length mc))[j]? = some x → W.cell? ⟨b, p + i * 8 + j, none⟩ = some x := fun j x hx => by
    have h1 := hc j x hx
    have h2 := World.block_lt_of_cell? _ _ h1
    rw [hW.cell (p := ⟨b, p + i * 8 + j, none⟩) (by simpa using h2)]
    exact h1
  have k0 := hk 0 _ rfl
  rw [Nat.add_zero] at k0
  exact ⟨k0, hk 1 _ rfl, hk 2 _ rfl, hk 3 _ rfl, hk 4 _ rfl, hk 5 _ rfl, hk 6 _ rfl, hk 7 _ rfl⟩

set_option maxRecDepth 100000 in
set_option maxHeartbeats 8000000 in
theorem batchLaw_any (a : Option Addr) (n c : Nat) (l : List PO) (vol most : Int) (w : World) (h : Ops w a n l) (hc : n ≤ c) (hm : most ≤ 9223372036854775807) :
    Calls Try.prog 16 #[.slice a n c, .int .i64 vol, .int .i64 most] w fun e w' => e = .returned (.bool true) ∧ Below w.heap.size w w' := by
  by_cases hbig : 60 < n
  · go_enter Try.func16, Try.ntmps16
    go_wp2_with fail
    refine (few_big a n c w hbig).mono ?_
    rintro e w2 ⟨rfl, hb2⟩
    go_wp2_with fail
    go_ret
    exact ⟨rfl, hb2⟩
  have hn : n ≤ 60 := by omega
  have hfew := few_any a n c l 60 w h (by omega)
  rw [show decide ((n : Int) ≤ 60) = true by simp; omega, Bool.true_and] at hfew
  cases hall : l.all fineO with
  | false =>
    rw [hall] at hfew
    have HF := Lib.hid hfew
    clear hfew h
    go_enter Try.func16, Try.ntmps16
    go_wp2_with fail
    refine HF.out.mono ?_
    rintro e w2 ⟨rfl, hb2⟩
    go_wp2_with fail
    go_ret
    exact ⟨rfl, hb2⟩
  | true =>
    rw [hall] at hfew
    have hfine : ∀ o ∈ l, o.d.length ≤ 300 ∧ o.m.length ≤ 100 := fun o ho => by
      have := List.all_eq_true.1 hall o ho
      simp [fineO] at this
      exact this
    have H := Lib.hid h
    have HL := Lib.hid h.1
    have HFINE := Lib.hid hfine
    have HF := Lib.hid hfew
    clear hfew h hall hfine
    go_enter Try.func16, Try.ntmps16
    go_wp2_with fail
    refine HF.out.mono ?_
    clear HF
    rintro e w1 ⟨rfl, hb1⟩
    go_wp2_with fail
    go_loopw [7, 9] (fun u7 u9 wr => ∃ (i : Nat) (acc : List PO), i ≤ n ∧ u9 = .int .i64 i ∧ OwnOps wr w.heap.size u7 acc ∧ acc.length ≤ i ∧ Hid (acc ++ wantL (l.drop i) = wantL l) ∧ Below w.heap.size w wr) (fun _ u9 _ => n - (intOf u9).toNat)
    case atStart => exact ⟨0, [], by omega, rfl, OwnOps.nil _ _, by simp, Lib.hid (by simp), hb1⟩
    case round =>
      obtain ⟨i, acc, hi, rfl, hown, hal, HA, hbW⟩ := hrel
      by_cases hlt : i < n
      · obtain ⟨o, ho⟩ : ∃ o, l[i]? = some o := ⟨_, List.getElem?_eq_getElem (by rw [HL.out]; exact hlt)⟩
        obtain ⟨b, p, da, dc, ma, mc, rfl, hval, hcat⟩ := H.out.cellsAt ho
        have hml := (HFINE.out o (List.mem_of_getElem? ho)).2
        have hwn := fun h => want_next (acc := acc) ho h
        have HWN := Lib.hid (hwn HA.out)
        have HC := Lib.hid hcat
        have HVAL := Lib.hid hval
        have HOW := Lib.hid hown
        obtain ⟨⟨c0, c1, c2, c3, c4, c5, c6, c7⟩, his⟩ := hcat wr hbW
        have HP := Lib.hid (plain56_any o.k o.v o.i o.b o.n o.pt da ma o.d.length dc o.m.length mc o.m wr his (by omega))
        have hi0 : (0 : Int) ≤ (i : Int) := by omega
        have hi1 : (i : Int) < (n : Int) := by omega
        clear hwn hcat hval hown his ho HA
        go_wp2_with fail
        refine HP.out.mono ?_
        clear HP c0 c1 c2 c3 c4 c5 c6 c7
        rintro e w2 ⟨rfl, hb2⟩
        obtain ⟨P, hP⟩ : ∃ P, plainO o.k o.v o.i o.b o.n o.d.length o.m = P := ⟨_, rfl⟩
        rw [hP]
        have HPP : Hid (o.plain56 = P) := Lib.hid hP
        have hbW2 := hbW.trans (hb2.mono hbW.size)
        have HOW2 := Lib.hid (HOW.out.stays hb2 (Nat.le_refl _) hbW.size)
        clear hP HOW
        go_wp2_with fail
        go_loopw [10, 11] (fun u10 u11 wx => ∃ q : Nat, q ≤ 64 ∧ u11 = .int .i64 q ∧ u10 = .bool (P && idleB o (l.drop (i + 1)) q) ∧ Below w2.heap.size w2 wx) (fun _ u11 _ => 64 - (intOf u11).toNat)
        case atStart => exact ⟨0, by omega, rfl, by rw [idleB_zero, Bool.and_true], Below.refl _ _⟩
        case round =>
          obtain ⟨q, hq, rfl, rfl, hbx⟩ := hrel
          rename World => wx
          have hbWx := hbW2.trans (hbx.mono hbW2.size)
          obtain ⟨⟨c0, c1, c2, c3, c4, c5, c6, c7⟩, -⟩ := HC.out wx hbWx
          have hq0 : (0 : Int) ≤ (q : Int) := by omega
          cases hI : (P && idleB o (l.drop (i + 1)) q) with
          | false =>
            have hid : o.idle56 (l.drop (i + 1)) = false := by
              rw [idle56_B, HPP.out]
              cases P with
              | false => rfl
              | true => rw [Bool.true_and] at hI ⊢; exact idleB_down _ _ q hq hI
            have hwn := HWN.out
            rw [hid, if_neg (by decide)] at hwn
            have HW2 := Lib.hid hwn
            obtain ⟨v', w', hap, hown', hgr⟩ := (HOW2.out.stays hbx (Nat.le_refl _) hbW2.size).push o (.inr ⟨w, Nat.le_refl _, hbWx, HVAL.out⟩ : OpFar wx w.heap.size o (.slice da o.d.length dc) (.slice ma o.m.length mc)) (by omega) hbWx.size
            have hbx' := (HOW2.out.stays hbx (Nat.le_refl _) hbW2.size).below hbWx hgr (Nat.le_refl _) hbWx.size
            have HO := Lib.hid hown'
            clear hwn hid hown' hgr
            by_cases hq6 : q < 64
            · have hq1 : (q : Int) < 64 := by omega
              go_wp2_with (at_builtin; refine wpList_append_run rfl _ _ _ rfl hap ?_)
              exact ⟨⟨i + 1, acc ++ [o], by omega, by go_num, HO.out, by simp; omega, HW2, hbx'⟩, by simp [intOf]; omega⟩
            · have hq1 : ¬ (q : Int) < 64 := by omega
              go_wp2_with (at_builtin; refine wpList_append_run rfl _ _ _ rfl hap ?_)
              exact ⟨⟨i + 1, acc ++ [o], by omega, by go_num, HO.out, by simp; omega, HW2, hbx'⟩, by simp [intOf]; omega⟩
          | true =>
            rw [Bool.and_eq_true] at hI
            obtain ⟨rfl, hI2⟩ := hI
            by_cases hq6 : q < 64
            · have hq1 : (q : Int) < 64 := by omega
              have hnx := idleB_next o (l.drop (i + 1)) q
              rw [hI2, Bool.true_and] at hnx
              have HNX := Lib.hid hnx
              clear hnx
              have HTO := Lib.hid (touches_any o.k o.v o.i o.b o.n o.pt o.v (q : Int) da ma o.d.length dc o.m.length mc)
              obtain ⟨T, hT⟩ : ∃ T, touchO o.k o.v o.b o.n o.v (q : Int) = T := ⟨_, rfl⟩
              have HT2 : Hid (o.touch o.v (q : Int) = T) := Lib.hid hT
              rw [hT] at HTO
              clear hT
              have hbD : Below w.heap.size w wx.drew := hbWx.drew
              have hS0 := (HC.out wx.drew hbD).1
              have hbD : Below w.heap.size w wx.drew := hbWx.drew
              have hS0 := (HC.out wx.drew hbD).1
              have hbD : Below w.heap.size w wx.drew := hbWx.drew
              have hS0 := (HC.out wx.drew hbD).1
              have hbD : Below w.heap.size w wx.drew := hbWx.drew
              have hS0 := (HC.out wx.drew hbD).1
              have hbD : Below w.heap.size w wx.drew := hbWx.drew
              have hS0 := (HC.out wx.drew hbD).1
              have hbD : Below w.heap.size w wx.drew := hbWx.drew
              have hS0 := (HC.out wx.drew hbD).1
              have hbD : Below w.heap.size w wx.drew := hbWx.drew
              have hS0 := (HC.out wx.drew hbD).1
              cases T with
              | false =>
                rw [HT2.out] at HNX
                go_wp2_with fail
                refine wp_region_held_drew (S := (fun W' => W'.cell? ⟨b, p + i * 8, none⟩ = some (.int .i64 o.k) ∧ W'.cell? ⟨b, p + i * 8 + 1, none⟩ = some (.int .i64 o.v) ∧ W'.cell? ⟨b, p + i * 8 + 2, none⟩ = some (.int .i64 o.i) ∧ W'.cell? ⟨b, p + i * 8 + 3, none⟩ = some (.int .i64 o.b) ∧ W'.cell? ⟨b, p + i * 8 + 4, none⟩ = some (.int .i64 o.n) ∧ W'.cell? ⟨b, p + i * 8 + 5, none⟩ = some (.int .u64 o.pt) ∧ W'.cell? ⟨b, p + i * 8 + 6, none⟩ = some (.slice da o.d.length dc) ∧ W'.cell? ⟨b, p + i * 8 + 7, none⟩ = some (.slice ma o.m.length mc))) (by kernel_rfl) hS0 (fun hHeld => ?_)
                refine wpAnyH_take (i := 0) (v := ?v0) rfl (by kernel_rfl) (by kernel_rfl) (by kernel_rfl) (fun _ _ _ h => h) (Or.inl ⟨by rfl, ?hy0⟩) (by assumption) ?rest0
                case hy0 => (intro w' hSw; (try dsimp only at hSw); go_simp; try with_reducible rfl)
                try dsimp [Act.put]
                refine wpAnyH_take (i := 1) (v := ?v1) rfl (by kernel_rfl) (by kernel_rfl) (by kernel_rfl) (fun _ _ _ h => h) (Or.inl ⟨by rfl, ?hy1⟩) (by assumption) ?rest1
                case hy1 => (intro w' hSw; (try dsimp only at hSw); go_simp; try with_reducible rfl)
                try dsimp [Act.put]
                refine wpAnyH_take (i := 2) (v := ?v2) rfl (by kernel_rfl) (by kernel_rfl) (by kernel_rfl) (fun _ _ _ h => h) (Or.inl ⟨by rfl, ?hy2⟩) (by assumption) ?rest2
                case hy2 => (intro w' hSw; (try dsimp only at hSw); go_simp; try with_reducible rfl)
                try dsimp [Act.put]
                refine wpAnyH_take (i := 3) (v := ?v3) rfl (by kernel_rfl) (by kernel_rfl) (by kernel_rfl) (fun _ _ _ h => h) (Or.inl ⟨by rfl, ?hy3⟩) (by assumption) ?rest3
                case hy3 => (intro w' hSw; (try dsimp only at hSw); go_simp; try with_reducible rfl)
                try dsimp [Act.put]
                refine wpAnyH_take (i := 4) (v := ?v4) rfl (by kernel_rfl) (by kernel_rfl) (by kernel_rfl) (fun _ _ _ h => h) (Or.inl ⟨by rfl, ?hy4⟩) (by assumption) ?rest4
                case hy4 => (intro w' hSw; (try dsimp only at hSw); go_simp; try with_reducible rfl)
                try dsimp [Act.put]
                refine wpAnyH_take (i := 5) (v := ?v5) rfl (by kernel_rfl) (by kernel_rfl) (by kernel_rfl) (fun _ _ _ h => h) (Or.inl ⟨by rfl, ?hy5⟩) (by assumption) ?rest5
                case hy5 => (intro w' hSw; (try dsimp only at hSw); go_simp; try with_reducible rfl)
                try dsimp [Act.put]
                refine wpAnyH_take (i := 6) (v := ?v6) rfl (by kernel_rfl) (by kernel_rfl) (by kernel_rfl) (fun _ _ _ h => h) (Or.inl ⟨by rfl, ?hy6⟩) (by assumption) ?rest6
                case hy6 => (intro w' hSw; (try dsimp only at hSw); go_simp; try with_reducible rfl)
                try dsimp [Act.put]
                refine wpAnyH_take (i := 7) (v := ?v7) rfl (by kernel_rfl) (by kernel_rfl) (by kernel_rfl) (fun _ _ _ h => h) (Or.inl ⟨by rfl, ?hy7⟩) (by assumption) ?rest7
                case hy7 => (intro w' hSw; (try dsimp only at hSw); go_simp; try with_reducible rfl)
                try dsimp [Act.put]
                refine wpAnyH_take (i := 8) (v := ?v8) rfl (by kernel_rfl) (by kernel_rfl) (by kernel_rfl) (fun _ _ _ h => h) (Or.inl ⟨by rfl, ?hy8⟩) (by assumption) ?rest8
                case hy8 => (intro w' hSw; (try dsimp only at hSw); go_simp; try with_reducible rfl)
                try dsimp [Act.put]
                refine wpAnyH_take (i := 9) (v := ?v9) rfl (by kernel_rfl) (by kernel_rfl) (by kernel_rfl) (fun _ _ _ h => h) (Or.inl ⟨by rfl, ?hy9⟩) (by assumption) ?rest9
                case hy9 => (intro w' hSw; (try dsimp only at hSw); go_simp; try with_reducible rfl)
                try dsimp [Act.put]
                refine wpAnyH_ready (rs := [10]) (by kernel_rfl) (by simp) ?_
                refine AllReadyH.cons rfl (fun K hK => ?_) AllReadyH.nil
                go_simp
                go_wp2_with (go_at_call 83; refine (HTO.out _).mono ?_; rintro e W3 ⟨rfl, hb3⟩)
                have hbW3 := hbD.trans (hb3.mono hbD.size)
                have hS3 := (HC.out W3 hbW3).1
                refine hK.out _ _ hS3 (fun hHeld => ?_)
                clear hK K
                refine wpAnyH_take (i := 11) (v := ?v11) rfl (by kernel_rfl) (by kernel_rfl) (by kernel_rfl) (fun _ _ _ h => h) (Or.inl ⟨by rfl, ?hy11⟩) (by assumption) ?rest11
                case hy11 => (intro w' hSw; (try dsimp only at hSw); go_simp; try with_reducible rfl)
                try dsimp [Act.put]
                refine wpAnyH_take (i := 12) (v := ?v12) rfl (by kernel_rfl) (by kernel_rfl) (by kernel_rfl) (fun _ _ _ h => h) (Or.inl ⟨by rfl, ?hy12⟩) (by assumption) ?rest12
                case hy12 => (intro w' hSw; (try dsimp only at hSw); go_simp; try with_reducible rfl)
                try dsimp [Act.put]
                refine wpAnyH_take (i := 13) (v := undef) rfl (by kernel_rfl) (by kernel_rfl) (by kernel_rfl) (fun _ _ _ h => h) (Or.inr ⟨by kernel_rfl, rfl⟩) (by assumption) ?_
                try dsimp [Act.put]
                refine wpAnyH_take (i := 14) (v := undef) rfl (by kernel_rfl) (by kernel_rfl) (by kernel_rfl) (fun _ _ _ h => h) (Or.inr ⟨by kernel_rfl, rfl⟩) (by assumption) ?_
                try dsimp [Act.put]
                refine wpAnyH_take (i := 15) (v := undef) rfl (by kernel_rfl) (by kernel_rfl) (by kernel_rfl) (fun _ _ _ h => h) (Or.inr ⟨by kernel_rfl, rfl⟩) (by assumption) ?_
                try dsimp [Act.put]
                refine wpAnyH_take (i := 16) (v := undef) rfl (by kernel_rfl) (by kernel_rfl) (by kernel_rfl) (fun _ _ _ h => h) (Or.inr ⟨by kernel_rfl, rfl⟩) (by assumption) ?_
                try dsimp [Act.put]
                refine wpAnyH_take (i := 17) (v := undef) rfl (by kernel_rfl) (by kernel_rfl) (by kernel_rfl) (fun _ _ _ h => h) (Or.inr ⟨by kernel_rfl, rfl⟩) (by assumption) ?_
                try dsimp [Act.put]
                refine wpAnyH_take (i := 18) (v := undef) rfl (by kernel_rfl) (by kernel_rfl) (by kernel_rfl) (fun _ _ _ h => h) (Or.inr ⟨by kernel_rfl, rfl⟩) (by assumption) ?_
                try dsimp [Act.put]
                refine wpAnyH_take (i := 19) (v := undef) rfl (by kernel_rfl) (by kernel_rfl) (by kernel_rfl) (fun _ _ _ h => h) (Or.inr ⟨by kernel_rfl, rfl⟩) (by assumption) ?_
                try dsimp [Act.put]
                refine wpAnyH_take (i := 20) (v := undef) rfl (by kernel_rfl) (by kernel_rfl) (by kernel_rfl) (fun _ _ _ h => h) (Or.inr ⟨by kernel_rfl, rfl⟩) (by assumption) ?_
                try dsimp [Act.put]
                refine wpAnyH_take (i := 21) (v := undef) rfl (by kernel_rfl) (by kernel_rfl) (by kernel_rfl) (fun _ _ _ h => h) (Or.inr ⟨by kernel_rfl, rfl⟩) (by assumption) ?_
                try dsimp [Act.put]
                refine wpAnyH_take (i := 22) (v := ?v22) rfl (by kernel_rfl) (by kernel_rfl) (by kernel_rfl) (fun _ _ _ h => h) (Or.inl ⟨by rfl, ?hy22⟩) (by assumption) ?rest22
                case hy22 => (intro w' hSw; (try dsimp only at hSw); go_simp; try with_reducible rfl)
                try dsimp [Act.put]
                refine wpAnyH_take (i := 23) (v := ?v23) rfl (by kernel_rfl) (by kernel_rfl) (by kernel_rfl) (fun _ _ _ h => h) (Or.inl ⟨by rfl, ?hy23⟩) (by assumption) ?rest23
                case hy23 => (intro w' hSw; (try dsimp only at hSw); go_simp; try with_reducible rfl)
                try dsimp [Act.put]
                refine wpAnyH_done (by kernel_rfl) ?_ _
                have hb3' : Below w2.heap.size w2 W3 := hbx.trans (((Below.refl _ wx).drew.trans hb3).mono hbx.size)
                go_wp2_with fail
                exact ⟨⟨q + 1, by omega, by go_num, by rw [HNX.out]; rfl, hb3'⟩, by simp [intOf]; omega⟩
              | true =>
                rw [HT2.out] at HNX
                have HAG := Lib.hid (fun W (hW : Below w.heap.size w W) => again_any (some ⟨b, p, none⟩) n c i l o.v (q : Int) W (H.out.below hW (Nat.le_refl _)) (by omega) hlt (fun o ho => by have := (HFINE.out o ho).2; omega))
                go_wp2_with fail
                refine wp_region_held_drew (S := (fun W' => W'.cell? ⟨b, p + i * 8, none⟩ = some (.int .i64 o.k) ∧ W'.cell? ⟨b, p + i * 8 + 1, none⟩ = some (.int .i64 o.v) ∧ W'.cell? ⟨b, p + i * 8 + 2, none⟩ = some (.int .i64 o.i) ∧ W'.cell? ⟨b, p + i * 8 + 3, none⟩ = some (.int .i64 o.b) ∧ W'.cell? ⟨b, p + i * 8 + 4, none⟩ = some (.int .i64 o.n) ∧ W'.cell? ⟨b, p + i * 8 + 5, none⟩ = some (.int .u64 o.pt) ∧ W'.cell? ⟨b, p + i * 8 + 6, none⟩ = some (.slice da o.d.length dc) ∧ W'.cell? ⟨b, p + i * 8 + 7, none⟩ = some (.slice ma o.m.length mc))) (by kernel_rfl) hS0 (fun hHeld => ?_)
                refine wpAnyH_take (i := 0) (v := ?vt0) rfl (by kernel_rfl) (by kernel_rfl) (by kernel_rfl) (fun _ _ _ h => h) (Or.inl ⟨by kernel_rfl, ?hyt0⟩) (by assumption) ?restt0
                case hyt0 => (intro w' hSw; (try dsimp only at hSw); go_simp; try with_reducible rfl)
                try dsimp [Act.put]
                refine wpAnyH_take (i := 1) (v := ?vt1) rfl (by kernel_rfl) (by kernel_rfl) (by kernel_rfl) (fun _ _ _ h => h) (Or.inl ⟨by kernel_rfl, ?hyt1⟩) (by assumption) ?restt1
                case hyt1 => (intro w' hSw; (try dsimp only at hSw); go_simp; try with_reducible rfl)
                try dsimp [Act.put]
                refine wpAnyH_take (i := 2) (v := ?vt2) rfl (by kernel_rfl) (by kernel_rfl) (by kernel_rfl) (fun _ _ _ h => h) (Or.inl ⟨by kernel_rfl, ?hyt2⟩) (by assumption) ?restt2
                case hyt2 => (intro w' hSw; (try dsimp only at hSw); go_simp; try with_reducible rfl)
                try dsimp [Act.put]
                refine wpAnyH_take (i := 3) (v := ?vt3) rfl (by kernel_rfl) (by kernel_rfl) (by kernel_rfl) (fun _ _ _ h => h) (Or.inl ⟨by kernel_rfl, ?hyt3⟩) (by assumption) ?restt3
                case hyt3 => (intro w' hSw; (try dsimp only at hSw); go_simp; try with_reducible rfl)
                try dsimp [Act.put]
                refine wpAnyH_take (i := 4) (v := ?vt4) rfl (by kernel_rfl) (by kernel_rfl) (by kernel_rfl) (fun _ _ _ h => h) (Or.inl ⟨by kernel_rfl, ?hyt4⟩) (by assumption) ?restt4
                case hyt4 => (intro w' hSw; (try dsimp only at hSw); go_simp; try with_reducible rfl)
                try dsimp [Act.put]
                refine wpAnyH_take (i := 5) (v := ?vt5) rfl (by kernel_rfl) (by kernel_rfl) (by kernel_rfl) (fun _ _ _ h => h) (Or.inl ⟨by kernel_rfl, ?hyt5⟩) (by assumption) ?restt5
                case hyt5 => (intro w' hSw; (try dsimp only at hSw); go_simp; try with_reducible rfl)
                try dsimp [Act.put]
                refine wpAnyH_take (i := 6) (v := ?vt6) rfl (by kernel_rfl) (by kernel_rfl) (by kernel_rfl) (fun _ _ _ h => h) (Or.inl ⟨by kernel_rfl, ?hyt6⟩) (by assumption) ?restt6
                case hyt6 => (intro w' hSw; (try dsimp only at hSw); go_simp; try with_reducible rfl)
                try dsimp [Act.put]
                refine wpAnyH_take (i := 7) (v := ?vt7) rfl (by kernel_rfl) (by kernel_rfl) (by kernel_rfl) (fun _ _ _ h => h) (Or.inl ⟨by kernel_rfl, ?hyt7⟩) (by assumption) ?restt7
                case hyt7 => (intro w' hSw; (try dsimp only at hSw); go_simp; try with_reducible rfl)
                try dsimp [Act.put]
                refine wpAnyH_take (i := 8) (v := ?vt8) rfl (by kernel_rfl) (by kernel_rfl) (by kernel_rfl) (fun _ _ _ h => h) (Or.inl ⟨by kernel_rfl, ?hyt8⟩) (by assumption) ?restt8
                case hyt8 => (intro w' hSw; (try dsimp only at hSw); go_simp; try with_reducible rfl)
                try dsimp [Act.put]
                refine wpAnyH_take (i := 9) (v := ?vt9) rfl (by kernel_rfl) (by kernel_rfl) (by kernel_rfl) (fun _ _ _ h => h) (Or.inl ⟨by kernel_rfl, ?hyt9⟩) (by assumption) ?restt9
                case hyt9 => (intro w' hSw; (try dsimp only at hSw); go_simp; try with_reducible rfl)
                try dsimp [Act.put]
                refine wpAnyH_ready (rs := [10]) (by kernel_rfl) (by simp) ?_
                refine AllReadyH.cons rfl (fun K hK => ?_) AllReadyH.nil
                go_simp
                go_wp2_with (go_at_call 83; refine (HTO.out _).mono ?_; rintro e W3 ⟨rfl, hb3⟩)
                have hbW3 := hbD.trans (hb3.mono hbD.size)
                have hS3 := (HC.out W3 hbW3).1
                refine hK.out _ _ hS3 (fun hHeld => ?_)
                clear hK K
                refine wpAnyH_take (i := 11) (v := ?vt11) rfl (by kernel_rfl) (by kernel_rfl) (by kernel_rfl) (fun _ _ _ h => h) (Or.inl ⟨by kernel_rfl, ?hyt11⟩) (by assumption) ?restt11
                case hyt11 => (intro w' hSw; (try dsimp only at hSw); go_simp; try with_reducible rfl)
                try dsimp [Act.put]
                refine wpAnyH_take (i := 12) (v := ?vt12) rfl (by kernel_rfl) (by kernel_rfl) (by kernel_rfl) (fun _ _ _ h => h) (Or.inl ⟨by kernel_rfl, ?hyt12⟩) (by assumption) ?restt12
                case hyt12 => (intro w' hSw; (try dsimp only at hSw); go_simp; try with_reducible rfl)
                try dsimp [Act.put]
                refine wpAnyH_take (i := 13) (v := ?vt13) rfl (by kernel_rfl) (by kernel_rfl) (by kernel_rfl) (fun _ _ _ h => h) (Or.inl ⟨by kernel_rfl, ?hyt13⟩) (by assumption) ?restt13
                case hyt13 => (intro w' hSw; (try dsimp only at hSw); go_simp; try with_reducible rfl)
                try dsimp [Act.put]
                refine wpAnyH_take (i := 14) (v := ?vt14) rfl (by kernel_rfl) (by kernel_rfl) (by kernel_rfl) (fun _ _ _ h => h) (Or.inl ⟨by kernel_rfl, ?hyt14⟩) (by assumption) ?restt14
                case hyt14 => (intro w' hSw; (try dsimp only at hSw); go_simp; try with_reducible rfl)
                try dsimp [Act.put]
                refine wpAnyH_take (i := 15) (v := ?vt15) rfl (by kernel_rfl) (by kernel_rfl) (by kernel_rfl) (fun _ _ _ h => h) (Or.inl ⟨by kernel_rfl, ?hyt15⟩) (by assumption) ?restt15
                case hyt15 => (intro w' hSw; (try dsimp only at hSw); go_simp; try with_reducible rfl)
                try dsimp [Act.put]
                refine wpAnyH_take (i := 16) (v := ?vt16) rfl (by kernel_rfl) (by kernel_rfl) (by kernel_rfl) (fun _ _ _ h => h) (Or.inl ⟨by kernel_rfl, ?hyt16⟩) (by assumption) ?restt16
                case hyt16 => (intro w' hSw; (try dsimp only at hSw); go_simp; try with_reducible rfl)
                try dsimp [Act.put]
                refine wpAnyH_take (i := 17) (v := ?vt17) rfl (by kernel_rfl) (by kernel_rfl) (by kernel_rfl) (fun _ _ _ h => h) (Or.inl ⟨by kernel_rfl, ?hyt17⟩) (by assumption) ?restt17
                case hyt17 => (intro w' hSw; (try dsimp only at hSw); go_simp; try with_reducible rfl)
                try dsimp [Act.put]
                refine wpAnyH_take (i := 18) (v := ?vt18) rfl (by kernel_rfl) (by kernel_rfl) (by kernel_rfl) (fun _ _ _ h => h) (Or.inl ⟨by kernel_rfl, ?hyt18⟩) (by assumption) ?restt18
                case hyt18 => (intro w' hSw; (try dsimp only at hSw); go_simp; try with_reducible rfl)
                try dsimp [Act.put]
                refine wpAnyH_take (i := 19) (v := ?vt19) rfl (by kernel_rfl) (by kernel_rfl) (by kernel_rfl) (fun _ _ _ h => h) (Or.inl ⟨by kernel_rfl, ?hyt19⟩) (by assumption) ?restt19
                case hyt19 => (intro w' hSw; (try dsimp only at hSw); go_simp; try with_reducible rfl)
                try dsimp [Act.put]
                refine wpAnyH_take (i := 20) (v := ?vt20) rfl (by kernel_rfl) (by kernel_rfl) (by kernel_rfl) (fun _ _ _ h => h) (Or.inl ⟨by kernel_rfl, ?hyt20⟩) (by assumption) ?restt20
                case hyt20 => (intro w' hSw; (try dsimp only at hSw); go_simp; try with_reducible rfl)
                try dsimp [Act.put]
                refine wpAnyH_ready (rs := [21]) (by kernel_rfl) (by simp) ?_
                refine AllReadyH.cons rfl (fun K hK => ?_) AllReadyH.nil
                go_simp
                go_wp2_with (go_at_call 84; refine (HAG.out W3 hbW3).mono ?_; rintro e W4 ⟨rfl, hb4⟩)
                have hbW4 := hbW3.trans (hb4.mono hbW3.size)
                have hS4 := (HC.out W4 hbW4).1
                refine hK.out _ _ hS4 (fun hHeld => ?_)
                clear hK K
                refine wpAnyH_take (i := 22) (v := ?vt22) rfl (by kernel_rfl) (by kernel_rfl) (by kernel_rfl) (fun _ _ _ h => h) (Or.inl ⟨by kernel_rfl, ?hyt22⟩) (by assumption) ?restt22
                case hyt22 => (intro w' hSw; (try dsimp only at hSw); go_simp; try with_reducible rfl)
                try dsimp [Act.put]
                refine wpAnyH_take (i := 23) (v := ?vt23) rfl (by kernel_rfl) (by kernel_rfl) (by kernel_rfl) (fun _ _ _ h => h) (Or.inl ⟨by kernel_rfl, ?hyt23⟩) (by assumption) ?restt23
                case hyt23 => (intro w' hSw; (try dsimp only at hSw); go_simp; try with_reducible rfl)
                try dsimp [Act.put]
                refine wpAnyH_done (by kernel_rfl) ?_ _
                have hb3' : Below w2.heap.size w2 W3 := hbx.trans (((Below.refl _ wx).drew.trans hb3).mono hbx.size)
                have hb4' := hb3'.trans (hb4.mono hb3'.size)
                go_wp2_with fail
                exact ⟨⟨q + 1, by omega, by go_num, by rw [HNX.out]; rfl, hb4'⟩, by simp [intOf]; omega⟩
            · obtain rfl : q = 64 := by omega
              have hwn := HWN.out
              rw [idle56_B, HPP.out, hI2, Bool.and_true, if_pos rfl] at hwn
              have HW2 := Lib.hid hwn
              have HO := Lib.hid (HOW2.out.stays hbx (Nat.le_refl _) hbW2.size)
              clear hwn
              go_wp2_with fail
              exact ⟨⟨i + 1, acc, by omega, by go_num, HO.out, by omega, HW2, hbWx⟩, by simp [intOf]; omega⟩
      · obtain rfl : n = i := by omega
        rename World => wo
        have hacc : acc = sqKeep l := by
          have := HA.out
          rw [List.drop_eq_nil_of_le (Nat.le_of_eq HL.out), show wantL [] = [] from rfl, List.append_nil, want_eq] at this
          exact this
        subst hacc
        obtain ⟨aw, cw, rfl, -, -⟩ := hown.ops
        have HW := Lib.hid hown
        have HB := Lib.hid hbW
        have hkl := sqKeep_len l
        have hll := HL.out
        clear hown hbW HA hal hlt hi
        go_wp2_with fail
        go_loopw [8, 12] (fun u8 u12 wx => ∃ q : Nat, q ≤ 64 ∧ u12 = .int .i64 q ∧ wx.ownsRow wo.heap.size 3 1 u8 (blocksB vol l q).length ((blocksB vol l q).map (.int .i64)) ∧ Below wo.heap.size wo wx) (fun _ u12 _ => 64 - (intOf u12).toNat)
        case atStart => exact ⟨0, by omega, rfl, World.ownsRow_nil _ _ _ _, Below.refl _ _⟩
        case round =>
          obtain ⟨q, hq, rfl, hown, hbx⟩ := hrel
          rename World => wx
          by_cases hq6 : q < 64
          · have hq1 : (q : Int) < 64 := by omega
            have HOW := Lib.hid hown
            clear hown
            go_wp2_with fail
            go_loopw [13, 14] (fun u13 u14 wy => ∃ i : Nat, i ≤ n ∧ u14 = .int .i64 i ∧ u13 = .bool (anyL vol q (l.take i)) ∧ Below wx.heap.size wx wy) (fun _ u14 _ => n - (intOf u14).toNat)
            case atStart => exact ⟨0, by omega, rfl, rfl, Below.refl _ _⟩
            case round =>
              obtain ⟨i, hi, rfl, rfl, hby⟩ := hrel
              rename World => wy
              by_cases hlt : i < n
              · obtain ⟨o, ho⟩ : ∃ o, l[i]? = some o := ⟨_, List.getElem?_eq_getElem (by omega)⟩
                obtain ⟨b, p, da, dc, ma, mc, rfl, -, hcat⟩ := H.out.cellsAt ho
                have hml := (HFINE.out o (List.mem_of_getElem? ho)).2
                have HNX := Lib.hid (any_next vol q ho)
                have hbY := (HB.out.trans (hbx.mono HB.out.size)).trans (hby.mono (HB.out.trans (hbx.mono HB.out.size)).size)
                obtain ⟨⟨c0, c1, c2, c3, c4, c5, c6, c7⟩, his⟩ := hcat wy hbY
                have HC := Lib.hid hcat
                have HP := Lib.hid (plain56_any o.k o.v o.i o.b o.n o.pt da ma o.d.length dc o.m.length mc o.m wy his (by omega))
                have hi0 : (0 : Int) ≤ (i : Int) := by omega
                have hi1 : (i : Int) < (n : Int) := by omega
                clear his hcat ho
                cases hA : anyL vol q (l.take i) with
                | true =>
                  rw [hA, Bool.true_or] at HNX
                  clear HP
                  go_wp2_with fail
                  exact ⟨⟨i + 1, by omega, by go_num, by rw [HNX.out], hby⟩, by simp [intOf]; omega⟩
                | false =>
                  rw [hA, Bool.false_or] at HNX
                  obtain ⟨P, hP⟩ : ∃ P, plainO o.k o.v o.i o.b o.n o.d.length o.m = P := ⟨_, rfl⟩
                  rw [hP] at HP
                  rw [show o.plain56 = P from hP] at HNX
                  clear hP
                  cases P with
                  | false =>
                    rw [Bool.false_and] at HNX
                    go_wp2_with fail
                    refine HP.out.mono ?_
                    rintro e w3 ⟨rfl, hb3⟩
                    go_wp2_with fail
                    exact ⟨⟨i + 1, by omega, by go_num, by rw [HNX.out], hby.trans (hb3.mono hby.size)⟩, by simp [intOf]; omega⟩
                  | true =>
                    rw [Bool.true_and] at HNX
                    have HTO := Lib.hid (touches_any o.k o.v o.i o.b o.n o.pt vol (q : Int) da ma o.d.length dc o.m.length mc)
                    have HT2 : Hid (o.touch vol (q : Int) = touchO o.k o.v o.b o.n vol (q : Int)) := Lib.hid rfl
                    go_wp2_with fail
                    refine HP.out.mono ?_
                    rintro e w3 ⟨rfl, hb3⟩
                    have hb03 := hbY.trans (hb3.mono hbY.size)
                    obtain ⟨⟨d0, d1, d2, d3, d4, d5, d6, d7⟩, -⟩ := HC.out w3 hb03
                    clear c0 c1 c2 c3 c4 c5 c6 c7
                    go_wp2_with fail
                    refine (HTO.out w3).mono ?_
                    rintro e w4 ⟨rfl, hb4⟩
                    rw [← HT2.out]
                    have hby3 := hby.trans (hb3.mono hby.size)
                    go_wp2_with fail
                    exact ⟨⟨i + 1, by omega, by go_num, by rw [HNX.out], hby3.trans (hb4.mono hby3.size)⟩, by simp [intOf]; omega⟩
              · obtain rfl : n = i := by omega
                have htk : l.take n = l := List.take_of_length_le (Nat.le_of_eq hll)
                rw [htk]
                have hbn := blocksB_next vol l q
                have hbl := blocksB_len vol l q
                have how := owns_below HOW.out hby (Nat.le_refl _)
                have hby' := hbx.trans (hby.mono hbx.size)
                cases hA : anyL vol q l with
                | false =>
                  rw [hA, if_neg (by decide)] at hbn
                  have HBN := Lib.hid hbn
                  have HO := Lib.hid how
                  clear hbn how
                  go_wp2_with fail
                  exact ⟨⟨q + 1, by omega, by go_num, by rw [HBN.out]; exact HO.out, hby'⟩, by simp [intOf]; omega⟩
                | true =>
                  rw [hA, if_pos rfl] at hbn
                  obtain ⟨v', w', hap, hown', hgr⟩ := app_int how (q : Int) (by omega) hby'.size
                  have hbz := Below.own hby' how hgr (Nat.le_refl _) hby'.size
                  have HBN := Lib.hid hbn
                  have HO := Lib.hid hown'
                  clear hbn how hown' hgr
                  go_wp2_with (at_builtin; refine wpList_append_run rfl _ _ _ rfl hap ?_)
                  exact ⟨⟨q + 1, by omega, by go_num, by rw [HBN.out]; exact HO.out, hbz⟩, by simp [intOf]; omega⟩
          · obtain rfl : q = 64 := by omega
            rw [blocksB_all] at hown
            obtain ⟨ab, cb, rfl, hblk, -⟩ := own_sl hown
            have hbX := HB.out.trans (hbx.mono HB.out.size)
            have HBLK : Hid (Is .i64 wx ab (blocksL vol l).length (blocksL vol l)) := Lib.hid hblk
            have HWX := Lib.hid (HW.out.stays hbx (Nat.le_refl _) HB.out.size)
            have hsp := splitOps_any a n c l most wx (H.out.below hbX (Nat.le_refl _)) (by omega) hc hm
            have HSP := Lib.hid hsp
            clear hown hblk hsp HW hbx
            go_wp2_with fail
            refine HSP.out.mono ?_
            clear HSP
            rintro e w4 ⟨v4, r, rfl, hrows, hr1, hr2, hb4⟩
            have hb04 := hbX.trans (hb4.mono hbX.size)
            have hs0 : 1 ≤ mostOf most := by unfold mostOf; omega
            have hmx : max most 1 = (mostOf most : Int) := by unfold mostOf; omega
            have hrn : r ≤ n := by
              by_cases h0 : r = 0
              · omega
              · have h1 := hr2 (r - 1) (by omega)
                have h2 : r - 1 ≤ (r - 1) * mostOf most := Nat.le_mul_of_pos_right _ hs0
                omega
            have HWS := Lib.hid (HWX.out.stays hb4 (Nat.le_refl _) hbX.size)
            have HBLK4 : Hid (Is .i64 w4 ab (blocksL vol l).length (blocksL vol l)) := Lib.hid (Is.below HBLK.out hb4 (Nat.le_refl _))
            have HROW : Hid (∀ j, j < r → ∃ g a' c', v4 = .slice (some ⟨g, 0, none⟩) r (match v4 with | .slice _ _ cc => cc | _ => 0) ∧ w4.cell? ⟨g, j, none⟩ = some (.slice a' ((l.drop (j * mostOf most)).take (mostOf most)).length c') ∧ Ops w4 a' ((l.drop (j * mostOf most)).take (mostOf most)).length ((l.drop (j * mostOf most)).take (mostOf most))) := Lib.hid fun j hj => by
              obtain ⟨ar, cr, rfl, -, hat⟩ := hrows.at
              obtain ⟨g, u, rfl, hcell, how⟩ := hat j _ (rowsTo_at _ l r j hj)
              obtain ⟨a', c', rfl, hops, -⟩ := how.ops
              exact ⟨g, a', c', by rw [rowsTo_len], hcell, hops⟩
            obtain ⟨ar, cr, rfl, -, -⟩ := hrows.at
            rw [rowsTo_len] at *
            generalize hsm : mostOf most = sm at *
            have HR2 := Lib.hid hr2
            have HB4 := Lib.hid hb04
            clear hrows hb04 hb4 hbX HWX HBLK hr2 hsm
            go_wp2_with fail
            go_loopw [16, 17] (fun u16 u17 wx => ∃ i : Nat, i ≤ r ∧ u17 = .int .i64 i ∧ OwnOps wx w4.heap.size u16 (l.take (i * sm)) ∧ Below w4.heap.size w4 wx) (fun _ u17 _ => r - (intOf u17).toNat)
            case atStart => exact ⟨0, by omega, rfl, by rw [Nat.zero_mul, List.take_zero]; exact OwnOps.nil _ _, Below.refl _ _⟩
            case round =>
              obtain ⟨i, hi, rfl, hown, hbx⟩ := hrel
              rename World => wx
              by_cases hlt : i < r
              · obtain ⟨g, a', c', hv, hcell, hops⟩ := HROW.out i hlt
                have har : ar = some ⟨g, 0, none⟩ := by cases hv; rfl
                subst har
                have hcx := (hbx.cell (p := ⟨g, i, none⟩) (World.block_lt_of_cell? _ _ hcell)).trans hcell
                have hin := HR2.out i hlt
                have hfar := (hops.far (Nat.le_refl w4.heap.size)).stays hbx (Nat.le_refl _) (Nat.le_refl _)
                have hlen : ((l.drop (i * sm)).take sm).length = min sm (n - i * sm) := by rw [List.length_take, List.length_drop, hll]
                have hlast : i + 1 < r → ((l.drop (i * sm)).take sm).length = sm := fun h => by
                  have := HR2.out (i + 1) h
                  rw [Nat.succ_mul] at this
                  rw [hlen]; omega
                have hpos : 0 < ((l.drop (i * sm)).take sm).length := by rw [hlen]; omega
                have hle : ((l.drop (i * sm)).take sm).length ≤ sm := by rw [hlen]; omega
                have hle2 : ((l.drop (i * sm)).take sm).length ≤ n := by rw [hlen]; omega
                have hfl : l.take (i * sm) ++ (l.drop (i * sm)).take sm = l.take ((i + 1) * sm) := by rw [Nat.succ_mul, List.take_add]
                obtain ⟨b, p, dv, mv, ha', -⟩ := hops.2 0 _ (List.getElem?_eq_getElem hpos)
                subst ha'
                have htl : (l.take (i * sm)).length ≤ n := by rw [List.length_take]; omega
                obtain ⟨v', w', hap, hown', hgr⟩ := hown.app c' hfar (by omega) hbx.size
                rw [hfl] at hown'
                have hbx' := hown.below hbx hgr (Nat.le_refl _) hbx.size
                have HO := Lib.hid hown'
                have HLA := Lib.hid hlast
                clear hown hown' hgr hfar hfl hops hcell hlast hlen hv
                generalize ((l.drop (i * sm)).take sm).length = k at *
                have hi0 : (0 : Int) ≤ (i : Int) := by omega
                have hi1 : (i : Int) < (r : Int) := by omega
                have hk0 : ((k : Int) == 0) = false := by rw [beq_eq_false_iff_ne]; omega
                have hk1 : ¬ ((sm : Int) < (k : Int)) := by omega
                have s1 : IntKind.i64.wrap ((i : Int) + 1) = (i : Int) + 1 := IntWalk.i64_in _ (by omega)
                by_cases hla : i + 1 < r
                · have hk2 := HLA.out hla
                  subst hk2
                  have hla' : (i : Int) + 1 < (r : Int) := by omega
                  go_wp2_with (at_builtin; refine wpList_append_run rfl _ _ _ rfl hap ?_)
                  exact ⟨⟨i + 1, by omega, by go_num, HO.out, hbx'⟩, by simp [intOf]; omega⟩
                · have hla' : ¬ ((i : Int) + 1 < (r : Int)) := by omega
                  go_wp2_with (at_builtin; refine wpList_append_run rfl _ _ _ rfl hap ?_)
                  exact ⟨⟨i + 1, by omega, by go_num, HO.out, hbx'⟩, by simp [intOf]; omega⟩
              · obtain rfl : r = i := by omega
                rw [List.take_of_length_le (by rw [hll]; omega)] at hown
                obtain ⟨aa, ca, rfl, hopa, -⟩ := hown.ops
                have hb0x := HB4.out.trans (hbx.mono HB4.out.size)
                obtain ⟨aw', cw', e, hopw, -⟩ := (HWS.out.stays hbx (Nat.le_refl _) HB4.out.size).ops
                cases e
                have hfm : ∀ o ∈ l, o.m.length ≤ 1000000000 := fun o ho => by have := (HFINE.out o ho).2; omega
                have hfl : ∀ q ∈ l, q.d.length ≤ 1000000000 ∧ q.m.length ≤ 1000000000 := fun o ho => by have := HFINE.out o ho; omega
                have hfk : ∀ q ∈ sqKeep l, q.d.length ≤ 1000000000 ∧ q.m.length ≤ 1000000000 := fun o ho => hfl o (sqKeep_mem l o ho)
                have HOA : Hid (Ops wx aa n l) := Lib.hid (by rw [← hll]; exact hopa)
                have HOW : Hid (Ops wx aw (sqKeep l).length (sqKeep l)) := Lib.hid hopw
                have HSQ := Lib.hid (squash_any a n c l wx (H.out.below hb0x (Nat.le_refl _)) (by omega) hfm)
                have HFM := Lib.hid hfm
                have HFL := Lib.hid hfl
                have HFK := Lib.hid hfk
                have HBK : Hid (Is .i64 wx ab (blocksL vol l).length (blocksL vol l)) := Lib.hid (Is.below HBLK4.out hbx (Nat.le_refl _))
                have hbkl : (blocksL vol l).length ≤ 64 := blocksB_len vol l 64
                rw [hll]
                clear hown hopa hopw hfm hfl hfk HWS HBLK4 HROW HR2
                go_wp2_with fail
                refine HSQ.out.mono ?_
                clear HSQ
                rintro e w5 ⟨v5, rfl, ho5, hb5⟩
                obtain ⟨a5, c5, rfl, hop5, -⟩ := ho5.ops
                have hs1 := refSames_any a5 aw (sqKeep l).length c5 cw (sqKeep l) w5 hop5 (HOW.out.below hb5 (Nat.le_refl _)) (by omega) HFK.out
                have HS1 := Lib.hid hs1
                have HB5 := Lib.hid (hb0x.trans (hb5.mono hb0x.size))
                clear ho5 hop5 hs1
                go_wp2_with fail
                refine HS1.out.mono ?_
                clear HS1
                rintro e w6 ⟨rfl, hb6⟩
                have hbx6 := hb5.trans (hb6.mono hb5.size)
                have HB6 := Lib.hid (HB5.out.trans (hb6.mono HB5.out.size))
                have HTC := Lib.hid (touched_any a n c l vol w6 (H.out.below HB6.out (Nat.le_refl _)) (by omega) HFM.out)
                go_wp2_with fail
                refine HTC.out.mono ?_
                clear HTC
                rintro e w7 ⟨a7, c7, rfl, his, hb7⟩
                have hbx7 := hbx6.trans (hb7.mono hbx6.size)
                have HB7 := Lib.hid (HB6.out.trans (hb7.mono HB6.out.size))
                have HEQ := Lib.hid (equalInts_any a7 ab c7 cb (blocksL vol l) w7 his (Is.below HBK.out hbx7 (Nat.le_refl _)) (by omega))
                clear his
                go_wp2_with fail
                refine HEQ.out.mono ?_
                clear HEQ
                rintro e w8 ⟨rfl, hb8⟩
                have hbx8 := hbx7.trans (hb8.mono hbx7.size)
                have HB8 := Lib.hid (HB7.out.trans (hb8.mono HB7.out.size))
                have HS2 := Lib.hid (refSames_any aa a n ca c l w8 (HOA.out.below hbx8 (Nat.le_refl _)) (H.out.below HB8.out (Nat.le_refl _)) (by omega) HFL.out)
                go_wp2_with fail
                refine HS2.out.mono ?_
                clear HS2
                rintro e w9 ⟨rfl, hb9⟩
                have HB9 := Lib.hid (HB8.out.trans (hb9.mono HB8.out.size))
                go_wp2_with fail
                refine (batchAlive_any w9).mono ?_
                rintro e wA ⟨rfl, hbA⟩
                have HBA := Lib.hid (HB9.out.trans (hbA.mono HB9.out.size))
                go_wp2_with fail
                go_ret
                exact ⟨rfl, HBA.out⟩
end Go.Proofs.Ytljbehndnledpaa
