/- The walk of yesteryearref29.guess. Conditions: those of the theorem. Printed by wip/mkguess.py. -/
import Derived.Test.YtljbehndnledpaaRefLoose
import Derived.Test.YtljbehndnledpaaOpPlainRef
namespace Go.Proofs.Ytljbehndnledpaa
open Go.RowKit

def kindTo : Nat → List UInt8 → Nat
  | 0, _ => 0
  | k + 1, x => if wordL ((k + 1 : Nat) : Int) = x then k + 1 else kindTo k x
theorem kindFrom_zero : ∀ (f k : Nat) (x : List UInt8), 1 ≤ k → kindFrom f k x = 0 → ∀ j : Nat, k ≤ j → j < k + f → wordL (j : Int) ≠ x
  | 0, k, x, _, _, j, h1, h2 => by omega
  | f + 1, k, x, hk, h, j, h1, h2 => by
    simp only [kindFrom] at h
    split at h
    · omega
    · rename_i hne
      rcases Nat.eq_or_lt_of_le h1 with rfl | h4
      · exact hne
      · exact kindFrom_zero f (k + 1) x (by omega) h j h4 (by omega)
theorem kindTo_zero (x : List UInt8) : ∀ k : Nat, (∀ j : Nat, 1 ≤ j → j ≤ k → wordL (j : Int) ≠ x) → kindTo k x = 0
  | 0, _ => rfl
  | k + 1, h => by
    rw [kindTo, if_neg (h (k + 1) (by omega) (by omega))]
    exact kindTo_zero x k fun j h1 h2 => h j h1 (by omega)
theorem kindTo_word (K : Nat) (h1 : 1 ≤ K) (h2 : K ≤ 19) : kindTo 19 (wordL (K : Int)) = K := by
  have : K = 1 ∨ K = 2 ∨ K = 3 ∨ K = 4 ∨ K = 5 ∨ K = 6 ∨ K = 7 ∨ K = 8 ∨ K = 9 ∨ K = 10 ∨ K = 11 ∨ K = 12 ∨ K = 13 ∨ K = 14 ∨ K = 15 ∨ K = 16 ∨ K = 17 ∨ K = 18 ∨ K = 19 := by omega
  rcases this with rfl | rfl | rfl | rfl | rfl | rfl | rfl | rfl | rfl | rfl | rfl | rfl | rfl | rfl | rfl | rfl | rfl | rfl | rfl <;> rfl
theorem kindTo_kindOf (x : List UInt8) : kindTo 19 x = kindOf x := by
  by_cases h : kindOf x = 0
  · rw [h]
    exact kindTo_zero x 19 fun j h1 h2 => kindFrom_zero 19 1 x (by omega) h j h1 (by omega)
  · obtain ⟨hw, h1, h2⟩ := kindOf_some x h
    conv => lhs; rw [← hw]
    rw [kindTo_word _ h1 h2]
theorem guessAll_step (r : List (List UInt8)) (o : PO) (cs : List UInt8) (ws : List (List UInt8)) (j : Nat) (c : UInt8) (y : List UInt8) (hc : cs[j]? = some c) (hy : ws[j]? = some y) :
    guessAll r o (cs.drop j) (ws.drop j) = guessAll r (o.guess r c y) (cs.drop (j + 1)) (ws.drop (j + 1)) := by
  obtain ⟨h1, e1⟩ := List.getElem?_eq_some_iff.1 hc
  obtain ⟨h2, e2⟩ := List.getElem?_eq_some_iff.1 hy
  rw [List.drop_eq_getElem_cons h1, List.drop_eq_getElem_cons h2, e1, e2]
  rfl
theorem guessAll_end (r : List (List UInt8)) (o : PO) (cs : List UInt8) (ws : List (List UInt8)) (j : Nat) (h : cs.length ≤ j ∨ ws.length ≤ j) : guessAll r o (cs.drop j) (ws.drop j) = o := by
  rcases h with h | h
  · rw [List.drop_eq_nil_of_le h]
    cases ws.drop j <;> rfl
  · rw [List.drop_eq_nil_of_le h]
    cases cs.drop j <;> rfl

theorem res122 (tmps : Array Value) (R : Nat) (cs : Array Value) (W : World) (h2 : tmps[2]? = some (.pointer (some ⟨R, 0, none⟩))) (h : W.heap[R]? = some (.cells cs 80 (0, 0))) (hs : cs.size = 8) :
    (results Try.f122 tmps).run Try.prog W = .ok (.agg cs) W := by
  have h1 := run_loadVar_row (P := Try.prog) W R 80 80 cs (0, 0) _ h Try.underlying80 rfl (by rw [hs]; exact info80)
  simp [results, Try.results122, asAddr, h2, h1]

set_option maxRecDepth 100000 in
set_option maxHeartbeats 16000000 in
theorem refGuess_any (b o cap : Nat) (x : List UInt8) (r : List (List UInt8)) (w : World) (hss : Ss w (some ⟨b, o, none⟩) (r.length + 1) ((x :: r).map mkS)) (hrl : r.length ≤ 100000) (hwl : ∀ y ∈ r, y.length ≤ 1000000) :
    Calls Try.prog 122 #[.slice (some ⟨b, o, none⟩) (r.length + 1) cap] w (OpEnds (guessO (x :: r)) w) := by
  obtain ⟨j0, ji, jz0, jz1, jz2⟩ := info_parts info3
  have hc : ∀ i y, ((x :: r).map fun y => sv (mkS y))[i]? = some y → w.cell? ⟨b, o + i, none⟩ = some y := by
    intro i y hy
    have h2 := hss.2 i y (by rw [List.map_map]; exact hy)
    obtain ⟨b', o', e, h3⟩ := h2
    cases e
    exact h3
  have hc0 : w.cell? ⟨b, o, none⟩ = some (.string ⟨x.toArray⟩) := hc 0 _ rfl
  have hbw0 : b < w.heap.size := World.block_lt_of_cell? _ _ hc0
  have hb : Below w.heap.size w ((w.alloc (.cells #[.int .i64 0, .int .i64 0, .int .i64 0, .int .i64 0, .int .i64 0, .int .u64 0, .slice none 0 0, .slice none 0 0] 80)).alloc (.cells #[.int .i64 0, .int .i64 0, .int .i64 0, .int .i64 0, .int .i64 0, .int .u64 0, .slice none 0 0, .slice none 0 0] 80)) := ((Below.refl _ _).alloc (Nat.le_refl _) _).alloc (by simp) _
  have hRz : ((w.alloc (.cells #[.int .i64 0, .int .i64 0, .int .i64 0, .int .i64 0, .int .i64 0, .int .u64 0, .slice none 0 0, .slice none 0 0] 80)).alloc (.cells #[.int .i64 0, .int .i64 0, .int .i64 0, .int .i64 0, .int .i64 0, .int .u64 0, .slice none 0 0, .slice none 0 0] 80)).heap[w.heap.size]? = some (.cells zeroA 80 (0, 0)) := by
    rw [heap_alloc_old _ _ (by simp)]
    exact heap_alloc_new w (.cells #[.int .i64 0, .int .i64 0, .int .i64 0, .int .i64 0, .int .i64 0, .int .u64 0, .slice none 0 0, .slice none 0 0] 80)
  have hO0 : Opc ((w.alloc (.cells #[.int .i64 0, .int .i64 0, .int .i64 0, .int .i64 0, .int .i64 0, .int .u64 0, .slice none 0 0, .slice none 0 0] 80)).alloc (.cells #[.int .i64 0, .int .i64 0, .int .i64 0, .int .i64 0, .int .i64 0, .int .u64 0, .slice none 0 0, .slice none 0 0] 80)) (w.heap.size + 1) (PO.of 0) := by
    have := Opc.of_new (w.alloc (.cells #[.int .i64 0, .int .i64 0, .int .i64 0, .int .i64 0, .int .i64 0, .int .u64 0, .slice none 0 0, .slice none 0 0] 80)) 0
    rw [show (w.alloc (.cells #[.int .i64 0, .int .i64 0, .int .i64 0, .int .i64 0, .int .i64 0, .int .u64 0, .slice none 0 0, .slice none 0 0] 80)).heap.size = w.heap.size + 1 by simp] at this
    exact this
  have hix : (0 : Int) < (r.length : Int) + 1 := by omega
  have hrl2 : (r.length : Int) ≤ 100000 := by omega
  have hG : guessO (x :: r) = guessAll r (PO.of (kindTo 19 x)) (looksL (kindTo 19 x : Int)) r := by rw [guessO_cons, kindTo_kindOf]
  obtain ⟨G, hGG⟩ : ∃ G, G = guessO (x :: r) := ⟨_, rfl⟩
  rw [← hGG] at hG ⊢
  unfold OpEnds
  have HG := Lib.hid hG
  have HC := Lib.hid hc
  have HWL := Lib.hid hwl
  have HRz := Lib.hid hRz
  have HO0 := Lib.hid hO0
  have hsz : ((w.alloc (.cells #[.int .i64 0, .int .i64 0, .int .i64 0, .int .i64 0, .int .i64 0, .int .u64 0, .slice none 0 0, .slice none 0 0] 80)).alloc (.cells #[.int .i64 0, .int .i64 0, .int .i64 0, .int .i64 0, .int .i64 0, .int .u64 0, .slice none 0 0, .slice none 0 0] 80)).heap.size = w.heap.size + 2 := by simp
  have HSZ := Lib.hid hsz
  have hc1 : ((w.alloc (.cells #[.int .i64 0, .int .i64 0, .int .i64 0, .int .i64 0, .int .i64 0, .int .u64 0, .slice none 0 0, .slice none 0 0] 80)).alloc (.cells #[.int .i64 0, .int .i64 0, .int .i64 0, .int .i64 0, .int .i64 0, .int .u64 0, .slice none 0 0, .slice none 0 0] 80)).cell? ⟨b, o, none⟩ = some (.string ⟨x.toArray⟩) := by rw [hb.cell hbw0]; exact hc0
  clear hG hGG hss hc hwl hRz hO0 hsz hc0
  go_enter Try.func122, Try.ntmps122
  go_wp2_with fail
  generalize (w.alloc (.cells #[.int .i64 0, .int .i64 0, .int .i64 0, .int .i64 0, .int .i64 0, .int .u64 0, .slice none 0 0, .slice none 0 0] 80)).alloc (.cells #[.int .i64 0, .int .i64 0, .int .i64 0, .int .i64 0, .int .i64 0, .int .u64 0, .slice none 0 0, .slice none 0 0] 80) = w1 at *
  go_loopw [4] (fun u4 wr => ∃ k : Nat, 1 ≤ k ∧ k ≤ 20 ∧ u4 = .int .i64 k ∧ Opc wr (w.heap.size + 1) (PO.of (kindTo (k - 1) x)) ∧ Below (w.heap.size + 1) w1 wr) (fun u4 _ => 20 - (intOf u4).toNat)
  case atStart => exact ⟨1, by omega, by omega, rfl, HO0.out, Below.refl _ _⟩
  case round =>
    obtain ⟨k, hk1, hk, rfl, hO, hbw⟩ := hrel
    by_cases hlt : k < 20
    · have hq0 : wr.cell? ⟨b, o, none⟩ = some (.string ⟨x.toArray⟩) := by rw [hbw.cell (by show b < _; omega)]; exact hc1
      have HQ := Lib.hid fun w => refWord_any (k : Int) w
      have hkt : kindTo (k + 1 - 1) x = if wordL (k : Int) = x then k else kindTo (k - 1) x := by
        obtain ⟨k', rfl⟩ : ∃ k', k = k' + 1 := ⟨k - 1, by omega⟩
        rfl
      have hPlt : w.heap.size + 1 < wr.heap.size := by obtain ⟨_, _, hA, _, _⟩ := hO; exact (Array.getElem?_eq_some_iff.1 hA).1
      generalize hW : wordL (k : Int) = W at *
      by_cases hWx : W = x
      · have hne : (W == x) = true := by simp [hWx]
        rw [if_pos hWx] at hkt
        have HKT := Lib.hid hkt
        have HO := Lib.hid hO
        clear hWx hkt hW hO
        go_wp2_with fail
        (go_region_held3 (fun w' => w'.cell? ⟨b, o, none⟩ = some (.string ⟨x.toArray⟩))
            (first | exact hHeld | exact HS3 | go_keep)
            (first
             | (refine step_call (o := ⟨some 15, _, _, _, _, _⟩) (by kernel_rfl) 164 Try.func164 (by kernel_rfl) rfl _ _ rfl #[.int .i64 (k : Int)] (by simp [Act.eval]) (HQ.out _) ?_
                rintro e w3 ⟨rfl, hb3⟩
                refine ⟨_, rfl, ?_⟩
                have hb3' : Below wr.heap.size wr w3 := (Below.refl wr.heap.size wr).drew.trans hb3
                have hb4 : Below (w.heap.size + 1) w1 w3 := hbw.trans (hb3'.mono (by omega))
                have HS3 : w3.cell? ⟨b, o, none⟩ = some (.string ⟨x.toArray⟩) := by rw [hb4.cell (by show b < _; omega)]; exact hc1)))
        all_goals
          obtain ⟨dv, mv, hA, hdo, hmo⟩ := HO.out.stays hb3' (Nat.le_refl _)
          obtain ⟨e0, f0⟩ := row_cells hA 0 _ rfl
          have hA2 := heap_setCell_same w3 (w.heap.size + 1) 0 _ 80 (.int .i64 (k : Int)) hA
          have HA2 := Lib.hid hA2
          have HDO := Lib.hid hdo
          have HMO := Lib.hid hmo
          clear hA2 hA hdo hmo
          go_wp2_with fail
          exact ⟨⟨k + 1, by omega, by omega, by go_num, by rw [HKT.out]; exact ⟨dv, mv, HA2.out, owns_setCell (A := w.heap.size + 1) HDO.out (by omega) _ _, owns_setCell (A := w.heap.size + 1) HMO.out (by omega) _ _⟩, below_set hb4 _ _⟩, by simp [intOf]; omega⟩
      · have hne : (W == x) = false := by simp [hWx]
        rw [if_neg hWx] at hkt
        have HKT := Lib.hid hkt
        have HO := Lib.hid hO
        clear hWx hkt hW hO
        go_wp2_with fail
        (go_region_held3 (fun w' => w'.cell? ⟨b, o, none⟩ = some (.string ⟨x.toArray⟩))
            (first | exact hHeld | exact HS3 | go_keep)
            (first
             | (refine step_call (o := ⟨some 15, _, _, _, _, _⟩) (by kernel_rfl) 164 Try.func164 (by kernel_rfl) rfl _ _ rfl #[.int .i64 (k : Int)] (by simp [Act.eval]) (HQ.out _) ?_
                rintro e w3 ⟨rfl, hb3⟩
                refine ⟨_, rfl, ?_⟩
                have hb3' : Below wr.heap.size wr w3 := (Below.refl wr.heap.size wr).drew.trans hb3
                have hb4 : Below (w.heap.size + 1) w1 w3 := hbw.trans (hb3'.mono (by omega))
                have HS3 : w3.cell? ⟨b, o, none⟩ = some (.string ⟨x.toArray⟩) := by rw [hb4.cell (by show b < _; omega)]; exact hc1)))
        all_goals
          go_wp2_with fail
          exact ⟨⟨k + 1, by omega, by omega, by go_num, by rw [HKT.out]; exact HO.out.stays hb3' (Nat.le_refl _), hb4⟩, by simp [intOf]; omega⟩
    · have hk20 : k = 20 := by omega
      subst hk20
      have hO : Opc wr (w.heap.size + 1) (PO.of (kindTo 19 x)) := hO
      have hG := HG.out
      have hL3 := (looks_all (kindTo 19 x : Int)).2
      have hlet := looks_letters (kindTo 19 x : Int)
      have HLK := Lib.hid (looks_any (kindTo 19 x : Int))
      obtain ⟨dv, mv, hA, hdo, hmo⟩ := hO
      obtain ⟨e0, f0⟩ := row_cells hA 0 _ rfl
      have hO2 : Opc wr (w.heap.size + 1) (PO.of (kindTo 19 x)) := ⟨dv, mv, hA, hdo, hmo⟩
      have hPlt : w.heap.size + 1 < wr.heap.size := (Array.getElem?_eq_some_iff.1 hA).1
      clear hA hdo hmo HG
      generalize kindTo 19 x = K at *
      have HO2 := Lib.hid hO2
      have HG := Lib.hid hG
      have HLET := Lib.hid hlet
      clear hO2 hG hlet
      go_wp2_with fail
      refine (HLK.out _).mono ?_
      rintro e w2 ⟨rfl, hb2⟩
      have hO3 := HO2.out.stays hb2 (Nat.le_refl _)
      have hb3 := hbw.trans (hb2.mono (by omega))
      generalize looksL (K : Int) = L at *
      have HO3 := Lib.hid hO3
      clear hO3
      go_wp2_with fail
      go_loopw [7] (fun u7 wq => ∃ (j : Nat) (q : PO), j ≤ L.length ∧ j ≤ r.length ∧ u7 = .int .i64 j ∧ Opc wq (w.heap.size + 1) q ∧ q.m.length ≤ 100000 * j ∧ Hid (G = guessAll r q (L.drop j) (r.drop j)) ∧ Below (w.heap.size + 1) w1 wq) (fun u7 _ => L.length - (intOf u7).toNat)
      case atStart => exact ⟨0, _, by omega, by omega, rfl, HO3.out, by simp [PO.of], HG, hb3⟩
      case round =>
        obtain ⟨j, q, hj, hjr, rfl, hO, hqm, HGQ, hbl⟩ := hrel
        by_cases hend : j < L.length ∧ j < r.length
        · obtain ⟨hjl, hjr2⟩ := hend
          obtain ⟨c, hcM⟩ : ∃ c, L[j]? = some c := ⟨_, List.getElem?_eq_getElem hjl⟩
          obtain ⟨y, hyr⟩ : ∃ y, r[j]? = some y := ⟨_, List.getElem?_eq_getElem hjr2⟩
          have hst := guessAll_step r q L r j c y hcM hyr
          have hlet := HLET.out c (List.mem_of_getElem? hcM)
          have hyl := HWL.out y (List.mem_of_getElem? hyr)
          have hcy : wr.cell? ⟨b, o + (j + 1), none⟩ = some (.string ⟨y.toArray⟩) := by
            rw [hbl.cell (by show b < _; omega), hb.cell hbw0]
            exact HC.out (j + 1) (sv (mkS y)) (by simp [hyr])
          obtain ⟨z, hz⟩ : ∃ z : Int, z = (c.toNat : Int) := ⟨_, rfl⟩
          have hcb : ∀ h : j < (⟨L.toArray⟩ : ByteArray).size, (((⟨L.toArray⟩ : ByteArray)[j]'h).toNat : Int) = z := fun h => by rw [byteAt L j c hcM, hz]
          have hj0 : (0 : Int) ≤ (j : Int) := by omega
          have hj1 : (j : Int) < (L.length : Int) := by omega
          have hj2 : (j : Int) < (r.length : Int) := by omega
          have hj3 : (j : Int) + 1 < (r.length : Int) + 1 := by omega
          have hj5 : (0 : Int) ≤ (j : Int) + 1 := by omega
          have hw1 : IntKind.i64.wrap ((j : Int) + 1) = (j : Int) + 1 := IntWalk.i64_in _ (by omega)
          have hw2 : ((j : Int) + 1).toNat = j + 1 := by omega
          have hys : y.length ≤ maxLen := by unfold maxLen; omega
          have hyd : (⟨y.toArray⟩ : ByteArray).data.toList = y := by simp
          obtain ⟨dv, mv, hA, hdo, hmo⟩ := hO
          have hPl2 : w.heap.size + 1 < wr.heap.size := (Array.getElem?_eq_some_iff.1 hA).1
          rcases hlet with rfl | rfl | rfl | rfl | rfl | rfl | rfl
          · have hz' : z = 118 := hz
            subst hz'
            clear hz
            have hst2 := hst
            rw [guess_v] at hst2
            have HST := Lib.hid hst2
            have hsm := refSmall_any ⟨y.toArray⟩ wr hys
            rw [hyd] at hsm
            have HSM := Lib.hid hsm
            obtain ⟨e0, f0⟩ := row_cells hA 1 _ rfl
            have hA2 := heap_setCell_same wr (w.heap.size + 1) 1 _ 80 (.int .i64 (smallL y)) hA
            have HA2 := Lib.hid hA2
            have HDO := Lib.hid hdo
            have HMO := Lib.hid hmo
            clear hA2 hA hdo hmo hst hst2 hsm hyd hcM hyr
            go_wp2_with fail
            refine HSM.out.mono ?_
            rintro e w6 ⟨rfl, rfl⟩
            go_wp2_with fail
            exact ⟨⟨j + 1, { q with v := smallL y }, by omega, by omega, by go_num, ⟨dv, mv, HA2.out, owns_setCell (A := w.heap.size + 1) HDO.out (by omega) _ _, owns_setCell (A := w.heap.size + 1) HMO.out (by omega) _ _⟩, by simp only; omega, by rw [HGQ.out]; exact HST, below_set hbl _ _⟩, by simp [intOf]; omega⟩
          · have hz' : z = 105 := hz
            subst hz'
            clear hz
            have hst2 := hst
            rw [guess_i] at hst2
            have HST := Lib.hid hst2
            have hsm := refSmall_any ⟨y.toArray⟩ wr hys
            rw [hyd] at hsm
            have HSM := Lib.hid hsm
            obtain ⟨e0, f0⟩ := row_cells hA 2 _ rfl
            have hA2 := heap_setCell_same wr (w.heap.size + 1) 2 _ 80 (.int .i64 (smallL y)) hA
            have HA2 := Lib.hid hA2
            have HDO := Lib.hid hdo
            have HMO := Lib.hid hmo
            clear hA2 hA hdo hmo hst hst2 hsm hyd hcM hyr
            go_wp2_with fail
            refine HSM.out.mono ?_
            rintro e w6 ⟨rfl, rfl⟩
            go_wp2_with fail
            exact ⟨⟨j + 1, { q with i := smallL y }, by omega, by omega, by go_num, ⟨dv, mv, HA2.out, owns_setCell (A := w.heap.size + 1) HDO.out (by omega) _ _, owns_setCell (A := w.heap.size + 1) HMO.out (by omega) _ _⟩, by simp only; omega, by rw [HGQ.out]; exact HST, below_set hbl _ _⟩, by simp [intOf]; omega⟩
          · have hz' : z = 98 := hz
            subst hz'
            clear hz
            have hst2 := hst
            rw [guess_b] at hst2
            have HST := Lib.hid hst2
            have hsm := refSmall_any ⟨y.toArray⟩ wr hys
            rw [hyd] at hsm
            have HSM := Lib.hid hsm
            obtain ⟨e0, f0⟩ := row_cells hA 3 _ rfl
            have hA2 := heap_setCell_same wr (w.heap.size + 1) 3 _ 80 (.int .i64 (smallL y)) hA
            have HA2 := Lib.hid hA2
            have HDO := Lib.hid hdo
            have HMO := Lib.hid hmo
            clear hA2 hA hdo hmo hst hst2 hsm hyd hcM hyr
            go_wp2_with fail
            refine HSM.out.mono ?_
            rintro e w6 ⟨rfl, rfl⟩
            go_wp2_with fail
            exact ⟨⟨j + 1, { q with b := smallL y }, by omega, by omega, by go_num, ⟨dv, mv, HA2.out, owns_setCell (A := w.heap.size + 1) HDO.out (by omega) _ _, owns_setCell (A := w.heap.size + 1) HMO.out (by omega) _ _⟩, by simp only; omega, by rw [HGQ.out]; exact HST, below_set hbl _ _⟩, by simp [intOf]; omega⟩
          · have hz' : z = 110 := hz
            subst hz'
            clear hz
            have hst2 := hst
            rw [guess_n] at hst2
            have HST := Lib.hid hst2
            have hsm := refSmall_any ⟨y.toArray⟩ wr hys
            rw [hyd] at hsm
            have HSM := Lib.hid hsm
            obtain ⟨e0, f0⟩ := row_cells hA 4 _ rfl
            have hA2 := heap_setCell_same wr (w.heap.size + 1) 4 _ 80 (.int .i64 (smallL y)) hA
            have HA2 := Lib.hid hA2
            have HDO := Lib.hid hdo
            have HMO := Lib.hid hmo
            clear hA2 hA hdo hmo hst hst2 hsm hyd hcM hyr
            go_wp2_with fail
            refine HSM.out.mono ?_
            rintro e w6 ⟨rfl, rfl⟩
            go_wp2_with fail
            exact ⟨⟨j + 1, { q with n := smallL y }, by omega, by omega, by go_num, ⟨dv, mv, HA2.out, owns_setCell (A := w.heap.size + 1) HDO.out (by omega) _ _, owns_setCell (A := w.heap.size + 1) HMO.out (by omega) _ _⟩, by simp only; omega, by rw [HGQ.out]; exact HST, below_set hbl _ _⟩, by simp [intOf]; omega⟩
          · have hz' : z = 112 := hz
            subst hz'
            clear hz
            have hst2 := hst
            rw [guess_p] at hst2
            have HST := Lib.hid hst2
            have hsm := refRead_any ⟨y.toArray⟩ wr hys
            rw [hyd] at hsm
            have HSM := Lib.hid hsm
            obtain ⟨e0, f0⟩ := row_cells hA 5 _ rfl
            have hA2 := heap_setCell_same wr (w.heap.size + 1) 5 _ 80 (.int .u64 ((rd y).1 : Int)) hA
            have HA2 := Lib.hid hA2
            have HDO := Lib.hid hdo
            have HMO := Lib.hid hmo
            clear hA2 hA hdo hmo hst hst2 hsm hyd hcM hyr
            go_wp2_with fail
            refine HSM.out.mono ?_
            rintro e w6 ⟨rfl, rfl⟩
            go_wp2_with fail
            exact ⟨⟨j + 1, { q with pt := ((rd y).1 : Int) }, by omega, by omega, by go_num, ⟨dv, mv, HA2.out, owns_setCell (A := w.heap.size + 1) HDO.out (by omega) _ _, owns_setCell (A := w.heap.size + 1) HMO.out (by omega) _ _⟩, by simp only; omega, by rw [HGQ.out]; exact HST, below_set hbl _ _⟩, by simp [intOf]; omega⟩
          · have hz' : z = 100 := hz
            subst hz'
            clear hz
            have hst2 := hst
            rw [guess_d] at hst2
            have HST := Lib.hid hst2
            have hsm := refBytes_any ⟨y.toArray⟩ wr hyl
            rw [hyd] at hsm
            have HSM := Lib.hid hsm
            have HA := Lib.hid hA
            have HMO := Lib.hid hmo
            clear hA hdo hmo hst hst2 hsm hyd hcM hyr
            go_wp2_with fail
            refine HSM.out.mono ?_
            rintro e w6 ⟨vv, rfl, hown, hb6⟩
            obtain ⟨sa, sc, rfl, -, -⟩ := own_sl hown
            have hA6 := heap_below HA.out hb6 (Nat.le_refl _)
            obtain ⟨e0, f0⟩ := row_cells hA6 6 _ rfl
            have hA2 := fun v => heap_setCell_same w6 (w.heap.size + 1) 6 _ 80 v hA6
            have HA2 := Lib.hid hA2
            have HDO := Lib.hid (ownsRow_base hown (show w.heap.size + 1 + 1 ≤ wr.heap.size by omega))
            have HMO6 := Lib.hid (ownsRow_below HMO.out hb6 (Nat.le_refl _))
            have hbl6 := hbl.trans (hb6.mono (by omega))
            clear hA2 hA6 hown
            go_wp2_with fail
            exact ⟨⟨j + 1, { q with d := loose y }, by omega, by omega, by go_num, ⟨_, mv, HA2.out _, owns_setCell (A := w.heap.size + 1) HDO.out (by omega) _ _, owns_setCell (A := w.heap.size + 1) HMO6.out (by omega) _ _⟩, by simp only; omega, by rw [HGQ.out]; exact HST, below_set hbl6 _ _⟩, by simp [intOf]; omega⟩
          · have hz' : z = 109 := hz
            subst hz'
            clear hz
            have hst2 := hst
            rw [guess_m] at hst2
            have HST := Lib.hid hst2
            have HO := Lib.hid (show Opc wr (w.heap.size + 1) q from ⟨dv, mv, hA, hdo, hmo⟩)
            clear hA hdo hmo hst hst2 hcM hyr hyd
            go_wp2_with fail
            go_loopw [9] (fun u9 wq => ∃ t : Nat, t ≤ r.length ∧ u9 = .int .i64 ((t : Int) + 1) ∧ Opc wq (w.heap.size + 1) { q with m := q.m ++ (r.take t).map smallL } ∧ Below (w.heap.size + 1) w1 wq) (fun u9 _ => r.length + 1 - (intOf u9).toNat)
            case atStart => exact ⟨0, by omega, rfl, by simpa using HO.out, hbl⟩
            case round =>
              obtain ⟨t, ht, rfl, hOt, hbt⟩ := hrel
              by_cases htl : t < r.length
              · obtain ⟨y2, hy2⟩ : ∃ y2, r[t]? = some y2 := ⟨_, List.getElem?_eq_getElem htl⟩
                have hy2l := HWL.out y2 (List.mem_of_getElem? hy2)
                have hcy2 : wr.cell? ⟨b, o + (t + 1), none⟩ = some (.string ⟨y2.toArray⟩) := by
                  rw [hbt.cell (by show b < _; omega), hb.cell hbw0]
                  exact HC.out (t + 1) (sv (mkS y2)) (by simp [hy2])
                have hnx : q.m ++ (r.take (t + 1)).map smallL = (q.m ++ (r.take t).map smallL) ++ [smallL y2] := by
                  rw [List.take_add_one, hy2, List.map_append, List.append_assoc]; rfl
                have HNX := Lib.hid hnx
                obtain ⟨dv, mv, hA, hdo, hmo⟩ := hOt
                simp only at hA hdo hmo
                have hml : (q.m ++ (r.take t).map smallL).length ≤ 1000000 := by rw [List.length_append, List.length_map, List.length_take]; omega
                generalize q.m ++ (r.take t).map smallL = M at *
                have hsm := refSmall_any ⟨y2.toArray⟩ wr.drew (by show y2.length ≤ _; unfold maxLen; omega)
                rw [show (⟨y2.toArray⟩ : ByteArray).data.toList = y2 by simp] at hsm
                generalize smallL y2 = zz at *
                have hPl2 : w.heap.size + 1 < wr.heap.size := (Array.getElem?_eq_some_iff.1 hA).1
                have hmo' : wr.drew.ownsRow (w.heap.size + 1 + 1) 3 1 mv M.length (M.map (.int .i64)) := hmo
                obtain ⟨v', w', hap, hown', hgr, _⟩ := app_new (P := Try.prog) Try.underlying78 ji jz0 jz1 jz2 rfl (by decide) hmo' 1 [.int .i64 zz] rfl (by simp [Value.oneCell']) (by unfold maxLen; omega) (by omega) (show w.heap.size + 1 + 1 ≤ wr.heap.size by omega)
                obtain ⟨sa, sc, rfl, -, -⟩ := own_sl hown'
                obtain ⟨ma, mc, rfl, -, -⟩ := own_sl hmo
                obtain ⟨e0, f0⟩ := row_cells hA 7 _ rfl
                have hdo' := World.ownsRow.kept (w := wr.drew) hdo hgr (owns_apart (w := wr.drew) hdo hmo' (by decide))
                have hg2 : w'.heap[w.heap.size + 1]? = wr.heap[w.heap.size + 1]? := hgr.block (w.heap.size + 1) hPl2 (fun e => by have := (hmo'.lt _ e.symm).1; omega)
                rw [hA] at hg2
                obtain ⟨e1, f1⟩ := row_cells hg2 7 _ rfl
                have hA2 := fun v => heap_setCell_same w' (w.heap.size + 1) 7 _ 80 v hg2
                have hbt' : Below (w.heap.size + 1) w1 w' := hbt.drew.grown hgr (show w.heap.size + 1 ≤ wr.heap.size by omega) (fun k hk => by have := (hmo'.lt k hk).1; omega)
                have HA2 := Lib.hid hA2
                have HDO := Lib.hid hdo'
                have HMO := Lib.hid hown'
                have HSM := Lib.hid hsm
                have t0 : (0 : Int) ≤ (t : Int) + 1 := by omega
                have t1 : (t : Int) + 1 < (r.length : Int) + 1 := by omega
                have t3 : (t : Int) < (r.length : Int) := by omega
                have t2 : ((t : Int) + 1).toNat = t + 1 := by omega
                clear hA hA2 hdo hdo' hmo hmo' hown' hg2 hgr hnx hy2 hsm
                go_wp2_with fail
                go_region_law (first
                  | (refine step_append_run (o := ⟨some 98, _, _, _, _, _⟩) rfl _ _ _ rfl hap ?_)
                  | (refine step_call (o := ⟨some 96, _, _, _, _, _⟩) (by kernel_rfl) 170 Try.func170 (by kernel_rfl) rfl _ _ rfl #[.string ⟨y2.toArray⟩] (by simp [Act.eval]) (HSM.out) ?_; rintro e w9 ⟨rfl, rfl⟩; refine ⟨_, rfl, ?_⟩))
                all_goals
                  go_wp2_with fail
                  exact ⟨⟨t + 1, by omega, by go_num, by rw [HNX.out]; exact ⟨dv, _, HA2.out _, owns_setCell (A := w.heap.size + 1) HDO.out (by omega) _ _, owns_setCell (A := w.heap.size + 1) (by simpa using HMO.out) (by omega) _ _⟩, below_set hbt' _ _⟩, by simp [intOf]; omega⟩
              · obtain rfl : t = r.length := by omega
                rw [List.take_length] at hOt
                have HOt := Lib.hid hOt
                clear hOt
                go_wp2_with fail
                exact ⟨⟨j + 1, { q with m := q.m ++ r.map smallL }, by omega, by omega, by go_num, HOt.out, by simp; omega, by rw [HGQ.out]; exact HST, hbt⟩, by simp [intOf]; omega⟩
        · have hq := guessAll_end r q L r j (by omega)
          have hGq := HGQ.out
          rw [hq] at hGq
          subst hGq
          obtain ⟨dv, mv, hA8, hd8, hm8⟩ := hO
          obtain ⟨sa, sc, rfl, hds, -⟩ := own_sl hd8
          obtain ⟨sma, smc, rfl, hms, -⟩ := own_sl hm8
          have hRx : wr.heap[w.heap.size]? = some (.cells zeroA 80 (0, 0)) := by rw [hbl.block _ (by omega)]; exact HRz.out
          have HRx := Lib.hid hRx
          have HA8 := Lib.hid hA8
          have HD8 := Lib.hid hd8
          have HM8 := Lib.hid hm8
          clear hRx hA8 hd8 hm8 hds hms hq
          have hbF := hb.trans (hbl.mono (by omega))
          by_cases hjl : j < L.length
          · have hjr3 : ¬ (j : Int) + 1 < (r.length : Int) + 1 := by omega
            have hjr4 : ¬ (j : Int) < (r.length : Int) := by omega
            go_wp2_with (first
              | ((with_reducible show wpList _ _ _ ({ dst := _, op := Op.load 80 (Operand.tmp 3), type := _, pos := _, after := _, guard := _ } :: _) _ _); refine wpList_load_row rfl 80 _ rfl (w.heap.size + 1) rfl 80 _ (0, 0) _ HA8.out Try.underlying80 rfl info80 ?_)
              | ((with_reducible show wpList _ _ _ ({ dst := _, op := Op.store 80 (Operand.tmp 2) _, type := _, pos := _, after := _, guard := _ } :: _) _ _); refine wpList_store_row rfl 80 _ _ rfl w.heap.size _ rfl rfl 80 _ HRx.out info80 rfl (opA_one _ _ _ _ _ _ _ _ _ _ _ _) ?_))
            exact bodyPost_ret (res122 _ (w.heap.size) _ _ rfl (setRow_heap _ _ _ _ _ _ HRx.out) rfl) rfl ⟨_, _, rfl, ownsRow_base (owns_setRow (g := w.heap.size) HD8.out (by omega) _) (show w.heap.size ≤ w.heap.size + 1 + 1 by omega), ownsRow_base (owns_setRow (g := w.heap.size) HM8.out (by omega) _) (show w.heap.size ≤ w.heap.size + 1 + 1 by omega), below_setRow hbF (Nat.le_refl _) _⟩
          · go_wp2_with (first
              | ((with_reducible show wpList _ _ _ ({ dst := _, op := Op.load 80 (Operand.tmp 3), type := _, pos := _, after := _, guard := _ } :: _) _ _); refine wpList_load_row rfl 80 _ rfl (w.heap.size + 1) rfl 80 _ (0, 0) _ HA8.out Try.underlying80 rfl info80 ?_)
              | ((with_reducible show wpList _ _ _ ({ dst := _, op := Op.store 80 (Operand.tmp 2) _, type := _, pos := _, after := _, guard := _ } :: _) _ _); refine wpList_store_row rfl 80 _ _ rfl w.heap.size _ rfl rfl 80 _ HRx.out info80 rfl (opA_one _ _ _ _ _ _ _ _ _ _ _ _) ?_))
            exact bodyPost_ret (res122 _ (w.heap.size) _ _ rfl (setRow_heap _ _ _ _ _ _ HRx.out) rfl) rfl ⟨_, _, rfl, ownsRow_base (owns_setRow (g := w.heap.size) HD8.out (by omega) _) (show w.heap.size ≤ w.heap.size + 1 + 1 by omega), ownsRow_base (owns_setRow (g := w.heap.size) HM8.out (by omega) _) (show w.heap.size ≤ w.heap.size + 1 + 1 by omega), below_setRow hbF (Nat.le_refl _) _⟩
end Go.Proofs.Ytljbehndnledpaa
