/- The walks of cursor.New at nought, of yesteryearlaw60.alive, and of the law CursorLines. Conditions: those of each theorem. -/
import Derived.Deep.RegionHeld
import Derived.Test.YtljbehndnledpaaCursorMake
import Derived.Test.YtljbehndnledpaaCursorLine
namespace Go.Proofs.Ytljbehndnledpaa
open Go.RowKit

set_option maxHeartbeats 1000000 in
theorem cursorNew_any (w : World) : Calls Try.prog 150 #[.int .i64 0] w fun e w' => e = .returned (.tuple #[.pointer none, .int .i64 10]) ∧ w' = w := by
  go_enter Try.func150, Try.ntmps150
  go_wp2_with fail
  go_ret2
  exact ⟨rfl, rfl⟩

theorem ofL_two : ofL [0, 1] = [(0, 2)] := by
  have h1 : sortL [0, 1] = [0, 1] := List.mergeSort_of_pairwise (by simp)
  unfold ofL
  rw [h1]
  have h2 : Lib.compact ([0, 1] : List Int) = [0, 1] := by decide
  rw [h2]
  decide
theorem lineC_alive : lineC 3 [(3, 5)] [0, 1] = [51, 32, 64, 53, 32, 48, 45, 49] := by
  unfold lineC
  rw [ofL_two]
  decide +kernel

/-- Times are laid into a state. -/
theorem times_set {w : World} {s : Nat} {arr : Array Value} (hs : w.heap[s]? = some (.cells arr 159 (0, 0))) (har : 8 < arr.size) (v : Value) :
    (w.setCell ⟨s, 8, none⟩ v).cell? ⟨s, 8, none⟩ = some v := by
  have := heap_setCell_same w s 8 arr 159 v hs
  unfold World.cell?
  simp only [this]
  simp [har]
theorem marks_one {w : World} {g : Nat} (h : w.heap[g]? = some (.cells #[.int .u64 3, .int .u64 5] 227 (0, 0))) : Marks w (some ⟨g, 0, none⟩) 1 [(3, 5)] := by
  refine ⟨rfl, fun i r hr => ?_⟩
  have hi := (List.getElem?_eq_some_iff.1 hr).1
  obtain rfl : i = 0 := by simp at hi; omega
  simp at hr
  subst hr
  exact ⟨g, 0, rfl, by simp [World.cell?, h], by simp [World.cell?, h]⟩
theorem is_two {w : World} {g : Nat} (h : w.heap[g]? = some (.cells #[.int .i64 0, .int .i64 1] 3 (0, 0))) : Is .i64 w (some ⟨g, 0, none⟩) 2 [0, 1] := by
  refine Is.mk' rfl fun i hi => ?_
  match i, hi with
  | 0, _ => simp [World.cell?, h]
  | 1, _ => simp [World.cell?, h]

set_option maxRecDepth 100000 in
set_option maxHeartbeats 4000000 in
theorem cursorAlive_any (w : World) : Calls Try.prog 96 #[] w fun e w' => e = .returned (.bool true) ∧ Below w.heap.size w w' := by
  go_enter Try.func96, Try.ntmps96
  go_wp2_with fail
  refine (make_any w).mono ?_
  rintro e w2 ⟨s, arr, rfl, hs, har, hws, hb2⟩
  have hsl := (Array.getElem?_eq_some_iff.1 hs).1
  obtain ⟨u, hu⟩ : ∃ u, arr[8]? = some u := ⟨_, Array.getElem?_eq_getElem har⟩
  have c8 : w2.cell? ⟨s, 8, none⟩ = some u := by simp [World.cell?, hs, hu]
  have f8 : w2.frozen? ⟨s, 8, none⟩ = false := by simp [World.frozen?, hs]
  have hs' : (w2.alloc (.cells #[.int .u64 3, .int .u64 5] 227)).heap[s]? = some (.cells arr 159 (0, 0)) := by rw [Below.heap_alloc _ _ _ hsl]; exact hs
  have d8 : (w2.alloc (.cells #[.int .u64 3, .int .u64 5] 227)).cell? ⟨s, 8, none⟩ = some u := by simp [World.cell?, hs', hu]
  have g8 : (w2.alloc (.cells #[.int .u64 3, .int .u64 5] 227)).frozen? ⟨s, 8, none⟩ = false := by simp [World.frozen?, hs']
  have hs0 : (w2.setCell ⟨s, 8, none⟩ (.slice (some ⟨w2.heap.size, 0, none⟩) 1 1)).heap.size = w2.heap.size := by simp
  have hb3 : Below w.heap.size w (w2.setCell ⟨s, 8, none⟩ (.slice (some ⟨w2.heap.size, 0, none⟩) 1 1)) := hb2.setCell (p := ⟨s, 8, none⟩) hws _
  have ht := times_set hs har (.slice (some ⟨w2.heap.size, 0, none⟩) 1 1)
  go_wp2_with fail
  clear c8 f8 d8 g8 hs' hs hu
  generalize w2.setCell ⟨s, 8, none⟩ (.slice (some ⟨w2.heap.size, 0, none⟩) 1 1) = w3 at *
  have hb4 := hb3.alloc hb3.size (.cells #[.int .u64 3, .int .u64 5] 227)
  have hn4 := heap_alloc_new w3 (.cells #[.int .u64 3, .int .u64 5] 227)
  rw [hs0] at hn4
  have hm4 := marks_one hn4
  have ht4 : (w3.alloc (.cells #[.int .u64 3, .int .u64 5] 227)).cell? ⟨s, 8, none⟩ = some (.slice (some ⟨w2.heap.size, 0, none⟩) 1 1) := (World.grownBy_alloc w3 _ none).cell ht (by simp)
  have hs4 : (w3.alloc (.cells #[.int .u64 3, .int .u64 5] 227)).heap.size = w2.heap.size + 1 := by simp [hs0]
  generalize w3.alloc (.cells #[.int .u64 3, .int .u64 5] 227) = w4 at *
  refine (cursorNew_any w4).mono ?_
  rintro e w5 ⟨rfl, rfl⟩
  have hb5 := hb4.alloc hb4.size (.cells #[.int .i64 0, .int .i64 1] 3)
  have hn5 := heap_alloc_new w5 (.cells #[.int .i64 0, .int .i64 1] 3)
  rw [hs4] at hn5
  have hI := is_two hn5
  have hal : Below w5.heap.size w5 (w5.alloc (.cells #[.int .i64 0, .int .i64 1] 3)) := (Below.refl _ _).alloc (Nat.le_refl _) _
  have ht5 : (w5.alloc (.cells #[.int .i64 0, .int .i64 1] 3)).cell? ⟨s, 8, none⟩ = some (.slice (some ⟨w2.heap.size, 0, none⟩) 1 1) := (World.grownBy_alloc w5 _ none).cell ht4 (by simp)
  have hL := line_any s 2 2 1 1 3 (some ⟨w2.heap.size + 1, 0, none⟩) (some ⟨w2.heap.size, 0, none⟩) [0, 1] [(3, 5)] _ ht5 (hm4.below hal (Nat.le_refl _)) (fun r hr => by simp at hr; subst hr; simp) (by omega) hI (by omega) (by omega)
  rw [lineC_alive] at hL
  have HL := Lib.hid hL
  clear hL hm4 hI hn4 hn5 ht ht4 ht5
  go_wp2_with fail
  refine HL.out.mono ?_
  rintro e w6 ⟨rfl, hb6⟩
  have hb06 := hb5.trans (hb6.mono hb5.size)
  have hq : (mkS [51, 32, 64, 53, 32, 48, 45, 49]).toList = [51, 32, 64, 53, 32, 48, 45, 49] := by decide +kernel
  go_wp2_with fail
  go_ret
  exact ⟨rfl, hb06⟩

set_option maxRecDepth 100000 in
set_option maxHeartbeats 8000000 in
theorem cursorLaw_any (seq n c nm cm : Nat) (a am : Option Addr) (b : List Int) (l : List (Int × Int)) (w : World) (hm : Marks w am nm l) (hmb : ∀ r ∈ l, 0 ≤ r.2 ∧ r.2 < 18446744073709551616) (hnm : nm ≤ 9223372036854775807)
    (hb : Is .i64 w a n b) (hq : seq < 18446744073709551616) :
    Calls Try.prog 17 #[.agg #[.int .u64 (seq : Int), .slice a n c], .slice am nm cm] w fun e w' => e = .returned (.bool true) ∧ Below w.heap.size w w' := by
  have hb0 : Below w.heap.size w (w.alloc (.cells #[.int .u64 (seq : Int), .slice a n c] 142)) := (Below.refl _ _).alloc (Nat.le_refl _) _
  have HA : Hid (∀ W, Below (w.alloc (.cells #[.int .u64 (seq : Int), .slice a n c] 142)).heap.size (w.alloc (.cells #[.int .u64 (seq : Int), .slice a n c] 142)) W → W.cell? ⟨w.heap.size, 0, none⟩ = some (.int .u64 (seq : Int)) ∧ W.cell? ⟨w.heap.size, 1, none⟩ = some (.slice a n c) ∧ Below w.heap.size w W) := Lib.hid fun W hW => by
    have hsz : w.heap.size < (w.alloc (.cells #[.int .u64 (seq : Int), .slice a n c] 142)).heap.size := by simp
    exact ⟨(hW.cell (p := ⟨w.heap.size, 0, none⟩) hsz).trans (by simp), (hW.cell (p := ⟨w.heap.size, 1, none⟩) hsz).trans (by simp), hb0.trans (hW.mono hb0.size)⟩
  have HR := Lib.hid (refRightM_any am nm cm l (w.alloc (.cells #[.int .u64 (seq : Int), .slice a n c] 142)) (hm.below hb0 (Nat.le_refl _)) hnm)
  have HM := Lib.hid hm
  have HI := Lib.hid hb
  clear hm hb
  go_enter Try.func17, Try.ntmps17
  go_wp2_with fail
  refine HR.out.mono ?_
  clear HR
  rintro e w2 ⟨⟨r, rfl⟩, hb2⟩
  obtain ⟨c0, c1, hb02⟩ := HA.out w2 hb2
  cases r with
  | false =>
    go_wp2_with fail
    go_ret
    exact ⟨rfl, hb02⟩
  | true =>
    by_cases hn : 60 < n
    · have hn' : (60 : Int) < (n : Int) := by omega
      go_wp2_with fail
      go_ret
      exact ⟨rfl, hb02⟩
    · have hn' : ¬ (60 : Int) < (n : Int) := by omega
      go_wp2_with fail
      refine (make_any w2).mono ?_
      rintro e w3 ⟨s, arr, rfl, hs, har, hws, hb3⟩
      have hsl := (Array.getElem?_eq_some_iff.1 hs).1
      obtain ⟨u, hu⟩ : ∃ u, arr[8]? = some u := ⟨_, Array.getElem?_eq_getElem har⟩
      have c8 : w3.cell? ⟨s, 8, none⟩ = some u := by simp [World.cell?, hs, hu]
      have f8 : w3.frozen? ⟨s, 8, none⟩ = false := by simp [World.frozen?, hs]
      have hb23 : Below w2.heap.size w2 (w3.setCell ⟨s, 8, none⟩ (.slice am nm cm)) := hb3.setCell (p := ⟨s, 8, none⟩) hws _
      have hb24 := hb2.trans (hb23.mono hb2.size)
      have ht := times_set hs har (.slice am nm cm)
      obtain ⟨d0, d1, hb04⟩ := HA.out _ hb24
      have hsz3 : (w3.setCell ⟨s, 8, none⟩ (.slice am nm cm)).heap.size = w3.heap.size := by simp
      go_wp2_with fail
      clear c8 f8 hs hu
      generalize w3.setCell ⟨s, 8, none⟩ (.slice am nm cm) = wS at *
      have hbD : Below w.heap.size w wS.drew := hb04.drew
      have hb2D := hb24.drew
      have htD : wS.drew.cell? ⟨s, 8, none⟩ = some (.slice am nm cm) := ht
      have hS0 : wS.drew.cell? ⟨w.heap.size, 0, none⟩ = some (.int .u64 (seq : Int)) ∧ wS.drew.cell? ⟨w.heap.size, 1, none⟩ = some (.slice a n c) := ⟨d0, d1⟩
      have hbl : b.length = n := HI.out.len
      have HLN : Hid (∀ W, Below w.heap.size w W → W.cell? ⟨s, 8, none⟩ = some (.slice am nm cm) → Calls Try.prog 93 #[.pointer (some ⟨s, 0, none⟩), .agg #[.int .u64 (seq : Int), .slice a n c]] W fun e w' => e = .returned (.string (mkS (lineC seq l b))) ∧ Below W.heap.size W w') :=
        Lib.hid fun W hW ht => line_any s n c nm cm seq a am b l W ht (HM.out.below hW (Nat.le_refl _)) hmb hnm (Is.below HI.out hW (Nat.le_refl _)) (by omega) hq
      have HOF : Hid (∀ W, Below w.heap.size w W → Calls Try.prog 95 #[.slice a n c] W fun e w' => ∃ v, e = .returned v ∧ OwnRuns w' W.heap.size v (ofL b) ∧ Below W.heap.size W w') := Lib.hid fun W hW => of_any a n c b W (Is.below HI.out hW (Nat.le_refl _)) (by omega)
      have he1 := extL_len (ofL b)
      have he2 := ofL_len b
      have hd1 := dec_wide seq hq
      have z1 := mkS_size (dec seq)
      have z2 := mkS_size (extL (ofL b))
      have hsp : (⟨#[32]⟩ : ByteArray).size = 1 := rfl
      have hat : (⟨#[32, 64]⟩ : ByteArray).size = 2 := rfl
      have hN1 : Calls Try.prog 21 #[.int .u64 (seq : Int)] wS fun e w' => e = .returned (.string (mkS (dec seq))) ∧ wS = w' := refNum_any seq wS hq
      have HN1 := Lib.hid hN1
      have HWH := Lib.hid (refWhen_any am nm cm l (seq : Int) wS (HM.out.below hb04 (Nat.le_refl _)) hnm)
      clear hN1 c0 c1
      refine HN1.out.mono ?_
      rintro e w9 ⟨rfl, rfl⟩
      go_wp2_with fail
      refine HWH.out.mono ?_
      rintro e w9 ⟨rfl, rfl⟩
      cases hwh : whenL (seq : Int) l with
      | none =>
        have HL : Hid (lineC seq l b = dec seq ++ ([32] ++ extL (ofL b))) := Lib.hid (by unfold lineC headL; rw [hwh]; simp)
        have hE : mkS (dec seq) ++ ⟨#[32]⟩ ++ mkS (extL (ofL b)) = mkS (lineC seq l b) := by rw [HL.out]; simp only [← mkS_app, ByteArray.append_assoc]; rfl
        clear hwh
        go_wp2_with fail
        go_region_held (fun W' => W'.cell? ⟨w.heap.size, 0, none⟩ = some (.int .u64 (seq : Int)) ∧ W'.cell? ⟨w.heap.size, 1, none⟩ = some (.slice a n c)) (first | exact hS8 | exact hS7 | exact hS6 | exact hS5 | exact hS0) (first
          | (go_at_call 93; refine (HLN.out _ hbD htD).mono ?_; rintro e w5 ⟨rfl, hb5⟩; have hb25 := hb2D.trans (hb5.mono hb2D.size); obtain ⟨x5, y5, hb05⟩ := HA.out w5 hb25; have hS5 := And.intro x5 y5)
          | (go_at_call 95; refine (HOF.out w5 hb05).mono ?_; rintro e w6 ⟨v6, rfl, ho6, hb6⟩; obtain ⟨a6, c6, rfl, hru, -⟩ := ho6.runs; have hb26 := hb25.trans (hb6.mono hb25.size); obtain ⟨x6, y6, hb06⟩ := HA.out w6 hb26; have hS6 := And.intro x6 y6)
          | (go_at_call 94; refine (extText_any a6 (ofL b).length c6 (ofL b) w6 hru (by omega)).mono ?_; rintro e w7 ⟨rfl, hb7⟩; have hb27 := hb26.trans (hb7.mono hb26.size); obtain ⟨x7, y7, hb07⟩ := HA.out w7 hb27; have hS7 := And.intro x7 y7)
          | (go_at_call 96; refine (cursorAlive_any w7).mono ?_; rintro e w8 ⟨rfl, hb8⟩; have hb28 := hb27.trans (hb8.mono hb27.size); obtain ⟨x8, y8, hb08⟩ := HA.out w8 hb28; have hS8 := And.intro x8 y8))
        all_goals
          go_wp2_with fail
          go_ret
          exact ⟨rfl, hb08⟩
      | some t =>
        obtain ⟨r, hr, hrt⟩ := whenL_mem hwh
        have ht2 := hmb r hr
        rw [hrt] at ht2
        obtain ⟨tn, rfl⟩ : ∃ tn : Nat, t = tn := ⟨t.toNat, by omega⟩
        have hd2 := dec_wide tn (by omega)
        have z3 := mkS_size (dec tn)
        have HN2 : Hid (∀ W, Calls Try.prog 21 #[.int .u64 (tn : Int)] W fun e w' => e = .returned (.string (mkS (dec tn))) ∧ W = w') := Lib.hid fun W => refNum_any tn W (by omega)
        have HL : Hid (lineC seq l b = dec seq ++ (([32, 64] ++ dec tn) ++ ([32] ++ extL (ofL b)))) := Lib.hid (by unfold lineC headL; rw [hwh]; simp)
        have hE : mkS (dec seq) ++ (⟨#[32, 64]⟩ ++ mkS (dec tn)) ++ ⟨#[32]⟩ ++ mkS (extL (ofL b)) = mkS (lineC seq l b) := by rw [HL.out]; simp only [← mkS_app, ByteArray.append_assoc]; rfl
        clear hwh hr hrt
        go_wp2_with fail
        refine (HN2.out _).mono ?_
        rintro e w9 ⟨rfl, rfl⟩
        go_wp2_with fail
        go_region_held (fun W' => W'.cell? ⟨w.heap.size, 0, none⟩ = some (.int .u64 (seq : Int)) ∧ W'.cell? ⟨w.heap.size, 1, none⟩ = some (.slice a n c)) (first | exact hS8 | exact hS7 | exact hS6 | exact hS5 | exact hS0) (first
          | (go_at_call 93; refine (HLN.out _ hbD htD).mono ?_; rintro e w5 ⟨rfl, hb5⟩; have hb25 := hb2D.trans (hb5.mono hb2D.size); obtain ⟨x5, y5, hb05⟩ := HA.out w5 hb25; have hS5 := And.intro x5 y5)
          | (go_at_call 95; refine (HOF.out w5 hb05).mono ?_; rintro e w6 ⟨v6, rfl, ho6, hb6⟩; obtain ⟨a6, c6, rfl, hru, -⟩ := ho6.runs; have hb26 := hb25.trans (hb6.mono hb25.size); obtain ⟨x6, y6, hb06⟩ := HA.out w6 hb26; have hS6 := And.intro x6 y6)
          | (go_at_call 94; refine (extText_any a6 (ofL b).length c6 (ofL b) w6 hru (by omega)).mono ?_; rintro e w7 ⟨rfl, hb7⟩; have hb27 := hb26.trans (hb7.mono hb26.size); obtain ⟨x7, y7, hb07⟩ := HA.out w7 hb27; have hS7 := And.intro x7 y7)
          | (go_at_call 96; refine (cursorAlive_any w7).mono ?_; rintro e w8 ⟨rfl, hb8⟩; have hb28 := hb27.trans (hb8.mono hb27.size); obtain ⟨x8, y8, hb08⟩ := HA.out w8 hb28; have hS8 := And.intro x8 y8))
        all_goals
          go_wp2_with fail
          go_ret
          exact ⟨rfl, hb08⟩
end Go.Proofs.Ytljbehndnledpaa
