/- The walks of extent.Right and extent.Text. Conditions: those of each theorem. -/
import Derived.Test.YtljbehndnledpaaExtent
import Derived.Test.YtljbehndnledpaaManifest
namespace Go.Proofs.Ytljbehndnledpaa
open Go.RowKit

/-- Are runs a set, behind an end? -/
def rightR (e : Int) : List (Int × Int) → Bool
  | [] => true
  | r :: t => if r.2 < 1 ∨ r.1 ≤ e ∨ r.1 < 0 ∨ 4097 < r.2 ∨ 4096 < r.1 then false else rightR (r.1 + r.2) t
theorem rightR_mem : ∀ (l : List (Int × Int)) (e : Int), rightR e l = true → ∀ r ∈ l, 1 ≤ r.2 ∧ r.2 ≤ 4097 ∧ 0 ≤ r.1 ∧ r.1 ≤ 4096
  | [], _, _, r, h => by cases h
  | a :: t, e, h, r, hr => by
    unfold rightR at h
    split at h
    · cases h
    · rename_i hn
      rcases List.mem_cons.1 hr with rfl | hr
      · omega
      · exact rightR_mem t _ h r hr
def partR (r : Int × Int) : List UInt8 := dec r.1.toNat ++ if 1 < r.2 then [45] ++ dec (r.1 + r.2 - 1).toNat else []
def joinR : Bool → List (Int × Int) → List UInt8
  | _, [] => []
  | more, r :: t => (if more then [44] else []) ++ partR r ++ joinR true t
def extL (l : List (Int × Int)) : List UInt8 := if rightR (-1) l then joinR false l else []
theorem drop_run {l : List (Int × Int)} {i : Nat} {r : Int × Int} (h : l[i]? = some r) : l.drop i = r :: l.drop (i + 1) := by
  have hi := (List.getElem?_eq_some_iff.1 h).1
  rw [List.drop_eq_getElem_cons hi, (List.getElem?_eq_some_iff.1 h).2]

set_option maxRecDepth 100000 in
set_option maxHeartbeats 8000000 in
theorem extRight_any (a : Option Addr) (n c : Nat) (l : List (Int × Int)) (w : World) (h : Runs w a n l) (hn : n ≤ 1000000) :
    Calls Try.prog 148 #[.slice a n c] w fun e w' => e = .returned (.bool (rightR (-1) l)) ∧ Below w.heap.size w w' := by
  have H := Lib.hid h
  have HL := Lib.hid h.1
  clear h
  go_enter Try.func148, Try.ntmps148
  go_wp2_with fail
  go_loopw [3, 8] (fun u3 u8 wr => ∃ (i : Nat) (e : Int), i ≤ n ∧ u8 = .int .i64 i ∧ u3 = .int .i64 e ∧ Hid (rightR (-1) l = rightR e (l.drop i)) ∧ Below w.heap.size w wr) (fun _ u8 _ => n - (intOf u8).toNat)
  case atStart => exact ⟨0, -1, by omega, rfl, rfl, Lib.hid rfl, Below.refl _ _⟩
  case round =>
    obtain ⟨i, e, hi, rfl, rfl, HE, hbw⟩ := hrel
    by_cases hlt : i < n
    · obtain ⟨r, hr⟩ : ∃ r, l[i]? = some r := ⟨_, List.getElem?_eq_getElem (by rw [HL.out]; exact hlt)⟩
      obtain ⟨b, o, rfl, k0, k1⟩ := (H.out.below hbw (Nat.le_refl _)).2 i r hr
      have hw : rightR e (l.drop i) = if r.2 < 1 ∨ r.1 ≤ e ∨ r.1 < 0 ∨ 4097 < r.2 ∨ 4096 < r.1 then false else rightR (r.1 + r.2) (l.drop (i + 1)) := by rw [drop_run hr]; rfl
      have hb4 : Below wr.heap.size wr (wr.alloc (.cells #[.int .i64 r.1, .int .i64 r.2] 121)) := (Below.refl _ _).alloc (Nat.le_refl _) _
      have hbw4 := hbw.trans (hb4.mono hbw.size)
      have hi0 : (0 : Int) ≤ (i : Int) := by omega
      have hi1 : (i : Int) < (n : Int) := by omega
      have HW := Lib.hid hw
      obtain ⟨r1, r2⟩ := r
      simp only at *
      clear hr hw
      by_cases c1 : r2 < 1
      · go_wp2_with fail
        go_ret
        exact ⟨by rw [HE.out, HW.out, if_pos (by omega)]; rfl, hbw4⟩
      · by_cases c2 : r1 ≤ e
        · go_wp2_with fail
          go_ret
          exact ⟨by rw [HE.out, HW.out, if_pos (by omega)]; rfl, hbw4⟩
        · by_cases c3 : r1 < 0
          · go_wp2_with fail
            go_ret
            exact ⟨by rw [HE.out, HW.out, if_pos (by omega)]; rfl, hbw4⟩
          · by_cases c4 : 4097 < r2
            · go_wp2_with fail
              go_ret
              exact ⟨by rw [HE.out, HW.out, if_pos (by omega)]; rfl, hbw4⟩
            · by_cases c5 : 4096 < r1
              · go_wp2_with fail
                go_ret
                exact ⟨by rw [HE.out, HW.out, if_pos (by omega)]; rfl, hbw4⟩
              · have s1 : IntKind.i64.wrap (r1 + r2) = r1 + r2 := IntWalk.i64_in _ (by omega)
                go_wp2_with fail
                exact ⟨⟨i + 1, r1 + r2, by omega, by go_num, rfl, Lib.hid (by rw [HE.out, HW.out, if_neg (by omega)]), hbw4⟩, by simp [intOf]; omega⟩
    · obtain rfl : i = n := by omega
      have hw : rightR e (l.drop i) = true := by rw [List.drop_eq_nil_of_le (Nat.le_of_eq HL.out)]; rfl
      have HW := Lib.hid hw
      clear hw
      go_wp2_with fail
      go_ret
      exact ⟨by rw [HE.out, HW.out]; rfl, hbw⟩

set_option maxRecDepth 100000 in
set_option maxHeartbeats 8000000 in
theorem extText_any (a : Option Addr) (n c : Nat) (l : List (Int × Int)) (w : World) (h : Runs w a n l) (hn : n ≤ 1000000) :
    Calls Try.prog 94 #[.slice a n c] w fun e w' => e = .returned (.string (mkS (extL l))) ∧ Below w.heap.size w w' := by
  have hr0 := extRight_any a n c l w h hn
  cases hR : rightR (-1) l with
  | false =>
    rw [hR] at hr0
    have he : extL l = [] := by unfold extL; rw [hR]; rfl
    rw [he]
    have HR := Lib.hid hr0
    clear h hr0 hR he
    go_enter Try.func94, Try.ntmps94
    go_wp2_with fail
    refine HR.out.mono ?_
    rintro e w2 ⟨rfl, hb2⟩
    go_wp2_with fail
    go_ret
    exact ⟨rfl, hb2⟩
  | true =>
    rw [hR] at hr0
    have he : extL l = joinR false l := by unfold extL; rw [hR]; rfl
    rw [he]
    have hmem := rightR_mem l _ hR
    have HR := Lib.hid hr0
    have HM := Lib.hid hmem
    have H := Lib.hid h
    have HL := Lib.hid h.1
    clear h hr0 hR he hmem
    go_enter Try.func94, Try.ntmps94
    go_wp2_with fail
    refine HR.out.mono ?_
    clear HR
    rintro e w2 ⟨rfl, hb2⟩
    go_wp2_with fail
    go_loopw [3, 11] (fun u3 u11 wr => ∃ (i : Nat) (t : List UInt8), i ≤ n ∧ u11 = .int .i64 i ∧ u3 = .string (mkS t) ∧ t.length ≤ i * 100 ∧ Hid (t ++ joinR (decide (0 < i)) (l.drop i) = joinR false l) ∧ Below w.heap.size w wr) (fun _ u11 _ => n - (intOf u11).toNat)
    case atStart => exact ⟨0, [], by omega, rfl, rfl, by simp, Lib.hid rfl, hb2⟩
    case round =>
      obtain ⟨i, t, hi, rfl, rfl, htl, HE, hbw⟩ := hrel
      by_cases hlt : i < n
      · obtain ⟨r, hr⟩ : ∃ r, l[i]? = some r := ⟨_, List.getElem?_eq_getElem (by rw [HL.out]; exact hlt)⟩
        obtain ⟨b, o, rfl, k0, k1⟩ := (H.out.below hbw (Nat.le_refl _)).2 i r hr
        have hm := HM.out r (List.mem_of_getElem? hr)
        have hw : t ++ ((if 0 < i then [44] else []) ++ partR r ++ joinR true (l.drop (i + 1))) = joinR false l := by
          rw [← HE.out, drop_run hr]
          show _ = t ++ ((if decide (0 < i) = true then [44] else []) ++ partR r ++ joinR true (l.drop (i + 1)))
          simp only [decide_eq_true_eq]
        have hb4 : Below wr.heap.size wr (wr.alloc (.cells #[.int .i64 r.1, .int .i64 r.2] 121)) := (Below.refl _ _).alloc (Nat.le_refl _) _
        have hbw4 := hbw.trans (hb4.mono hbw.size)
        have hi0 : (0 : Int) ≤ (i : Int) := by omega
        have hi1 : (i : Int) < (n : Int) := by omega
        have q0 : (wr.alloc (.cells #[.int .i64 r.1, .int .i64 r.2] 121)).cell? ⟨wr.heap.size, 0, none⟩ = some (.int .i64 r.1) := by simp
        have q1 : (wr.alloc (.cells #[.int .i64 r.1, .int .i64 r.2] 121)).cell? ⟨wr.heap.size, 1, none⟩ = some (.int .i64 r.2) := by simp
        have qsz : wr.heap.size < (wr.alloc (.cells #[.int .i64 r.1, .int .i64 r.2] 121)).heap.size := by simp
        have hd1 := dec_short r.1 (by omega)
        have hd2 := dec_short (r.1 + r.2 - 1) (by omega)
        have hN1 := fun W => num_max r.1 r.1 W (by omega) (by omega)
        have hN2 := fun W => num_max (r.1 + r.2 - 1) (r.1 + r.2 - 1) W (by omega) (by omega)
        have s1 : IntKind.i64.wrap (r.1 + r.2) = r.1 + r.2 := IntWalk.i64_in _ (by omega)
        have s2 : IntKind.i64.wrap (r.1 + r.2 - 1) = r.1 + r.2 - 1 := IntWalk.i64_in _ (by omega)
        have s3 : IntKind.u64.wrap r.1 = r.1 := by simp [IntKind.wrap, IntKind.signed, IntKind.bits]; omega
        have s4 : IntKind.u64.wrap (r.1 + r.2 - 1) = r.1 + r.2 - 1 := by simp [IntKind.wrap, IntKind.signed, IntKind.bits]; omega
        have HN1 := Lib.hid hN1
        have HN2 := Lib.hid hN2
        have HW := Lib.hid hw
        clear hr hw hN1 hN2
        obtain ⟨r1, r2⟩ := r
        simp only at *
        have z1 := mkS_size t
        have hcm : (⟨#[44]⟩ : ByteArray).size = 1 := rfl
        have hcd : (⟨#[45]⟩ : ByteArray).size = 1 := rfl
        have z2 := mkS_size (dec r1.toNat)
        have z3 := mkS_size (dec (r1 + r2 - 1).toNat)
        have HA1 : Hid (∀ W, Below (wr.alloc (.cells #[.int .i64 r1, .int .i64 r2] 121)).heap.size (wr.alloc (.cells #[.int .i64 r1, .int .i64 r2] 121)) W → W.cell? ⟨wr.heap.size, 0, none⟩ = some (.int .i64 r1) ∧ W.cell? ⟨wr.heap.size, 1, none⟩ = some (.int .i64 r2) ∧ Below w.heap.size w W) :=
          Lib.hid fun W hW => ⟨(hW.cell (p := ⟨wr.heap.size, 0, none⟩) qsz).trans q0, (hW.cell (p := ⟨wr.heap.size, 1, none⟩) qsz).trans q1, hbw4.trans (hW.mono hbw4.size)⟩
        have hpt1 : 1 < r2 → partR (r1, r2) = dec r1.toNat ++ ([45] ++ dec (r1 + r2 - 1).toNat) := fun h => by simp [partR, h]
        have hpt2 : ¬ 1 < r2 → partR (r1, r2) = dec r1.toNat := fun h => by simp [partR, h]
        generalize dec (r1 + r2 - 1).toNat = D2 at *
        generalize dec r1.toNat = D1 at *
        clear q0 q1 qsz hbw4 hb4
        by_cases hip : 0 < i
        · have hip' : (0 : Int) < (i : Int) := by omega
          rw [if_pos hip] at HW
          clear hip
          by_cases hr2 : 1 < r2
          · have hpt := hpt1 hr2
            rw [hpt] at HW
            have he : mkS t ++ ⟨#[44]⟩ ++ mkS D1 ++ (⟨#[45]⟩ ++ mkS D2) = mkS (t ++ ([44] ++ (D1 ++ ([45] ++ D2)))) := by simp only [← mkS_app, ByteArray.append_assoc]; rfl
            have HE2 := Lib.hid he
            clear he hpt hpt1 hpt2
            go_wp2_with fail
            refine (HN1.out _).mono ?_
            rintro e w5 ⟨rfl, hb5⟩
            obtain ⟨d0, d1, hb5'⟩ := HA1.out w5 hb5
            go_wp2_with fail
            refine (HN2.out _).mono ?_
            rintro e w6 ⟨rfl, hb6⟩
            have hb6' := hb5'.trans (hb6.mono hb5'.size)
            go_wp2_with fail
            exact ⟨⟨i + 1, _, by omega, by go_num, by rw [← HE2.out], by simp only [List.length_append, List.length_cons, List.length_nil]; omega, Lib.hid (by rw [← HW.out]; simp), hb6'⟩, by simp [intOf]; omega⟩
          · have hpt := hpt2 hr2
            rw [hpt] at HW
            have he : mkS t ++ ⟨#[44]⟩ ++ mkS D1 = mkS (t ++ ([44] ++ D1)) := by simp only [← mkS_app, ByteArray.append_assoc]; rfl
            have HE2 := Lib.hid he
            clear he hpt hpt1 hpt2
            go_wp2_with fail
            refine (HN1.out _).mono ?_
            rintro e w5 ⟨rfl, hb5⟩
            obtain ⟨d0, d1, hb5'⟩ := HA1.out w5 hb5
            go_wp2_with fail
            exact ⟨⟨i + 1, _, by omega, by go_num, by rw [← HE2.out], by simp only [List.length_append, List.length_cons, List.length_nil]; omega, Lib.hid (by rw [← HW.out]; simp), hb5'⟩, by simp [intOf]; omega⟩
        · have hip' : ¬ (0 : Int) < (i : Int) := by omega
          rw [if_neg hip] at HW
          clear hip
          by_cases hr2 : 1 < r2
          · have hpt := hpt1 hr2
            rw [hpt] at HW
            have he : mkS t ++ mkS D1 ++ (⟨#[45]⟩ ++ mkS D2) = mkS (t ++ (D1 ++ ([45] ++ D2))) := by simp only [← mkS_app, ByteArray.append_assoc]; rfl
            have HE2 := Lib.hid he
            clear he hpt hpt1 hpt2
            go_wp2_with fail
            refine (HN1.out _).mono ?_
            rintro e w5 ⟨rfl, hb5⟩
            obtain ⟨d0, d1, hb5'⟩ := HA1.out w5 hb5
            go_wp2_with fail
            refine (HN2.out _).mono ?_
            rintro e w6 ⟨rfl, hb6⟩
            have hb6' := hb5'.trans (hb6.mono hb5'.size)
            go_wp2_with fail
            exact ⟨⟨i + 1, _, by omega, by go_num, by rw [← HE2.out], by simp only [List.length_append, List.length_cons, List.length_nil]; omega, Lib.hid (by rw [← HW.out]; simp), hb6'⟩, by simp [intOf]; omega⟩
          · have hpt := hpt2 hr2
            rw [hpt] at HW
            have he : mkS t ++ mkS D1 = mkS (t ++ D1) := by rw [← mkS_app]
            have HE2 := Lib.hid he
            clear he hpt hpt1 hpt2
            go_wp2_with fail
            refine (HN1.out _).mono ?_
            rintro e w5 ⟨rfl, hb5⟩
            obtain ⟨d0, d1, hb5'⟩ := HA1.out w5 hb5
            go_wp2_with fail
            exact ⟨⟨i + 1, _, by omega, by go_num, by rw [← HE2.out], by simp only [List.length_append]; omega, Lib.hid (by rw [← HW.out]; simp), hb5'⟩, by simp [intOf]; omega⟩
      · obtain rfl : i = n := by omega
        have hw := HE.out
        rw [List.drop_eq_nil_of_le (Nat.le_of_eq HL.out)] at hw
        have hw' : t = joinR false l := by rw [← hw]; simp [joinR]
        subst hw'
        go_wp2_with fail
        go_ret
        exact ⟨rfl, hbw⟩
end Go.Proofs.Ytljbehndnledpaa
