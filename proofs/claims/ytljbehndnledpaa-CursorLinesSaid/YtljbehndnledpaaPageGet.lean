/- The walk of page.Get at 128 bytes. Conditions: those of the theorem. -/
import Derived.Test.YtljbehndnledpaaFixGet
import Derived.Deep.RegionHeld3
namespace Go.Proofs.Ytljbehndnledpaa
open Go.RowKit

theorem kind_any (k : Nat) (w : World) : Calls Try.prog 158 #[.int .i64 (k : Int)] w fun e w' => e = .returned (.bool (decide (1 ≤ k) && decide (k ≤ 6))) ∧ w = w' := by
  by_cases h1 : 1 ≤ k
  · have h1i : (1 : Int) ≤ (k : Int) := by omega
    by_cases h2 : k ≤ 6
    · have h2i : (k : Int) ≤ 6 := by omega
      go_enter Try.func158, Try.ntmps158
      go_wp2_with fail
      go_ret
      exact ⟨by simp [*], rfl⟩
    · have h2i : ¬ (k : Int) ≤ 6 := by omega
      go_enter Try.func158, Try.ntmps158
      go_wp2_with fail
      go_ret
      exact ⟨by simp [*], rfl⟩
  · have h1i : ¬ (1 : Int) ≤ (k : Int) := by omega
    go_enter Try.func158, Try.ntmps158
    go_wp2_with fail
    go_ret
    exact ⟨by simp [*], rfl⟩

set_option maxRecDepth 100000 in
set_option maxHeartbeats 8000000 in
theorem pageGet_any (b o cap : Nat) (l : List UInt8) (w : World) (h : Bs w (some ⟨b, o, none⟩) 128 l) (hcap : 128 ≤ cap) :
    Calls Try.prog 113 #[.slice (some ⟨b, o, none⟩) 128 cap] w (PageEnds l w) := by
  have hask := asksPage_eq l h.length
  obtain ⟨x0, x1, k, n, r, rfl, hr⟩ := bytes4 h.length
  obtain ⟨b2, o2, k', e2, hk', hck, hbl⟩ := Bs.cell h 2 (by omega)
  cases e2
  obtain ⟨b3, o3, n', e3, hn', hcn, _⟩ := Bs.cell h 3 (by omega)
  cases e3
  simp at hk' hn'
  subst hk' hn'
  have hA : asksPage (x0 :: x1 :: k :: n :: r) = (decide (x0 = 157) && decide (x1 = 76) && (decide (1 ≤ k.toNat) && decide (k.toNat ≤ 6)) && decide (n.toNat ≤ 120) && ((r.drop n.toNat).take (120 - n.toNat)).all (· == 0) && decide (leVal ((x0 :: x1 :: k :: n :: r).drop 124) = crcL ((x0 :: x1 :: k :: n :: r).take 124))) := rfl
  rw [hask] at hA
  have hG : ((x0 :: x1 :: k :: n :: r).getD 2 0) = k := rfl
  have h2 := Bs.piece h 0 2 (by omega)
  rw [Nat.add_zero, List.drop_zero] at h2
  have hz := fun (hn : n.toNat ≤ 120) => Bs.piece h (4 + n.toNat) (120 - n.toNat) (by omega)
  rw [show (x0 :: x1 :: k :: n :: r).drop (4 + n.toNat) = r.drop n.toNat by rw [Nat.add_comm]; rfl] at hz
  have hbody := fun (hn : n.toNat ≤ 120) => Bs.piece h 4 n.toNat (by omega)
  have hhead := Bs.piece h 0 124 (by omega)
  rw [Nat.add_zero, List.drop_zero] at hhead
  have htail := Bs.tail h 124 (by omega)
  have hmagic : leVal ((x0 :: x1 :: k :: n :: r).take 2) = x0.toNat + 256 * x1.toNat := by simp [leVal]
  have hfix := fixGet_any (some ⟨b, o, none⟩) 2 cap _ w h2 (by omega) (by omega)
  rw [hmagic] at hfix
  obtain ⟨l, hl⟩ : ∃ l, l = x0 :: x1 :: k :: n :: r := ⟨_, rfl⟩
  rw [← hl] at hA hG hhead h htail hbody ⊢
  have HA := Lib.hid hA
  have HG := Lib.hid hG
  have HB := Lib.hid h
  have HZ := Lib.hid hz
  have HBODY := Lib.hid hbody
  have HHEAD := Lib.hid hhead
  have HTAIL := Lib.hid htail
  have HFIX := Lib.hid hfix
  have hkb := k.toNat_lt
  have hnb := n.toNat_lt
  have h0b := x0.toNat_lt
  have h1b := x1.toNat_lt
  have hw1 : IntKind.i64.wrap (k.toNat : Int) = k.toNat := IntWalk.i64_in _ (by omega)
  have hw2 : IntKind.i64.wrap (n.toNat : Int) = n.toNat := IntWalk.i64_in _ (by omega)
  have hw3 : IntKind.i64.wrap (4 + (n.toNat : Int)) = 4 + n.toNat := IntWalk.i64_in _ (by omega)
  clear hA hG hbody hhead h hl hr htail hfix hz hask h2 hmagic
  by_cases hmg : x0 = 157 ∧ x1 = 76
  · obtain ⟨rfl, rfl⟩ := hmg
    have hkind := kind_any k.toNat w
    obtain ⟨kd, hkd⟩ : ∃ kd, (decide (1 ≤ k.toNat) && decide (k.toNat ≤ 6)) = kd := ⟨_, rfl⟩
    rw [hkd] at hkind HA
    have HKIND := Lib.hid hkind
    clear hkind hkd
    cases kd
    · have hnp : isPage l = false := by rw [HA.out]; simp
      have HNP := Lib.hid hnp
      clear hnp HA HZ HBODY HHEAD HTAIL
      go_enter Try.func113, Try.ntmps113
      go_wp2_with fail
      refine HFIX.out.mono ?_
      rintro e w1 ⟨rfl, rfl⟩
      go_wp2_with fail
      refine HKIND.out.mono ?_
      rintro e w1 ⟨rfl, rfl⟩
      go_wp2_with fail
      go_ret3
      exact ⟨Below.refl _ _, _, _, 21, rfl, .inr ⟨HNP.out, by omega⟩⟩
    · by_cases hn : n.toNat ≤ 120
      · rw [decide_eq_true hn] at HA
        have hzz := HZ.out hn
        have HBY := Lib.hid (HBODY.out hn)
        have hni : (n.toNat : Int) ≤ 120 := by omega
        obtain ⟨Z, hZ⟩ : ∃ Z, Z = (r.drop n.toNat).take (120 - n.toNat) := ⟨_, rfl⟩
        rw [← hZ] at HA hzz
        have HZZ := Lib.hid hzz
        have hcx : ¬ cap = 4 + n.toNat := by omega
        have hcx2 : ¬ cap = 124 := by omega
        have hcx3 : ¬ cap = 4 := by omega
        have hli : 120 - (n.toNat : Int) = ((120 - n.toNat : Nat) : Int) := by omega
        have hln : 124 - (4 + n.toNat) = 120 - n.toNat := by omega
        clear hZ hzz HBODY HZ
        generalize n.toNat = nn at *
        go_enter Try.func113, Try.ntmps113
        go_wp2_with fail
        refine HFIX.out.mono ?_
        rintro e w1 ⟨rfl, rfl⟩
        go_wp2_with fail
        refine HKIND.out.mono ?_
        rintro e w1 ⟨rfl, rfl⟩
        go_wp2_with fail
        have hzl := HZZ.out.length
        have HZL := Lib.hid hzl
        clear hzl HFIX HKIND hcn
        go_loop [36] (fun u36 => ∃ j : Nat, j ≤ 120 - nn ∧ u36 = .int .i64 j ∧ Hid ((Z.take j).all (· == 0) = true)) (fun u36 => (120 - nn) - (intOf u36).toNat)
        case atStart => exact ⟨0, by omega, rfl, Lib.hid rfl⟩
        case round =>
          obtain ⟨j, hj, rfl, HJ⟩ := hrel
          by_cases hlt : j < 120 - nn
          · obtain ⟨_, _, c, e1, hc, hckz, _⟩ := Bs.cell HZZ.out j hlt
            cases e1
            have hj0 : (0 : Int) ≤ (j : Int) := by omega
            have hj1 : (j : Int) < ((124 - (4 + nn) : Nat) : Int) := by omega
            have hj2 : (j : Int) < ((120 - nn : Nat) : Int) := by omega
            have hb0 := byte0 c
            by_cases hc0 : c = 0
            · have hb := hb0.1 hc0
              have hnx : (Z.take (j + 1)).all (· == 0) = true := by
                rw [List.take_add_one, hc, List.all_append, HJ.out, hc0]; rfl
              have HN := Lib.hid hnx
              subst hc0
              clear hc hb0 HJ hnx
              go_wp2_with fail
              exact ⟨⟨j + 1, by omega, by go_num, HN⟩, by simp [intOf]; omega⟩
            · have hb := hb0.2 hc0
              have hza : Z.all (· == 0) = false := by
                rw [List.all_eq_false]
                exact ⟨c, List.mem_of_getElem? hc, by simpa using hc0⟩
              have hnp : isPage l = false := by rw [HA.out, hza]; simp
              have HNP := Lib.hid hnp
              clear hc hb0 HJ hza hnp HA hc0
              go_wp2_with fail
              go_ret3
              exact ⟨Below.refl _ _, _, _, 21, rfl, .inr ⟨HNP.out, by omega⟩⟩
          · have hje : j = 120 - nn := by omega
            subst hje
            have hza : Z.all (· == 0) = true := by
              have := HJ.out
              rwa [List.take_of_length_le (by rw [HZL.out]; omega)] at this
            have hP : isPage l = decide (leVal (l.drop 124) = crcL (l.take 124)) := by rw [HA.out, hza]; simp
            have hcl := crcL_lt (l.take 124)
            have hlen4 : (l.drop 124).length = 4 := by rw [List.length_drop, HB.out.length]
            have hvl := leVal_lt (l.drop 124)
            rw [hlen4] at hvl
            obtain ⟨lv, hlv⟩ : ∃ lv, lv = leVal (l.drop 124) := ⟨_, rfl⟩
            obtain ⟨cr, hcr⟩ : ∃ cr, cr = crcL (l.take 124) := ⟨_, rfl⟩
            rw [← hlv, ← hcr] at hP
            rw [← hlv] at hvl
            rw [← hcr] at hcl
            have HLV := Lib.hid hlv
            have HCR := Lib.hid hcr
            have HP := Lib.hid hP
            have hw32 : IntKind.u32.wrap (lv : Int) = lv := by rw [IntKind.wrap_u32']; omega
            have hb1 : Below w.heap.size w (w.alloc (.cells #[.slice (some ⟨b, o, none⟩) 124 cap] 37)) := (Below.refl _ _).alloc (Nat.le_refl _) _
            have hT1 : Bs w.drew (some ⟨b, o + 124, none⟩) 4 (l.drop 124) := HTAIL.out.below (Below.refl _ _).drew (Nat.le_refl _)
            have hT2 : Bs (w.alloc (.cells #[.slice (some ⟨b, o, none⟩) 124 cap] 37)).drew (some ⟨b, o + 124, none⟩) 4 (l.drop 124) := HTAIL.out.below hb1.drew (Nat.le_refl _)
            have hH1 : Bs (w.alloc (.cells #[.slice (some ⟨b, o, none⟩) 124 cap] 37)).drew (some ⟨b, o, none⟩) 124 (l.take 124) := HHEAD.out.below hb1.drew (Nat.le_refl _)
            have hC1 : (w.alloc (.cells #[.slice (some ⟨b, o, none⟩) 124 cap] 37)).drew.cell? ⟨w.heap.size, 0, none⟩ = some (.slice (some ⟨b, o, none⟩) 124 cap) := by simp
            have hb2 := hb1.drew
            clear hlv hcr hP hza hlen4 HA HJ HZZ HZL
            go_wp2_with fail
            go_region_with (first
              | (go_at_call 157
                 refine (fixGet_any (some ⟨b, o + 124, none⟩) 4 (cap - 124) (l.drop 124) _ (by with_reducible first | exact hT1 | exact hT2 | exact hT3) (by omega) (by omega)).mono ?_
                 rintro e w3 ⟨rfl, rfl⟩
                 simp only [← HLV.out])
              | (go_at_call 159
                 refine (crcOf_any w.heap.size 0 124 cap 1 (some ⟨b, o, none⟩) (l.take 124) _ (by with_reducible exact hH1) (by omega) (by with_reducible exact hC1)).mono ?_
                 rintro e w4 ⟨rfl, hb3⟩
                 have hb4 := hb2.trans (hb3.mono hb2.size)
                 have hT3 : Bs w4 (some ⟨b, o + 124, none⟩) 4 (l.drop 124) := HTAIL.out.below hb4 (Nat.le_refl _)
                 simp only [← HCR.out]))
            all_goals
              clear hT1 hT2 hH1 hC1 hb1 hb2 hb3 hT3
              by_cases hlc : lv = cr
              · have hnp : isPage l = true := by rw [HP.out, decide_eq_true hlc]
                have HNP := Lib.hid hnp
                subst hlc
                have hne : ((lv : Int) != (lv : Int)) = false := by simp
                have hs1 : (0 : Int) ≤ 4 + (nn : Int) := by omega
                have hs2 : 4 + (nn : Int) ≤ (cap : Int) := by omega
                have hs3 : (4 : Int) ≤ max (4 + (nn : Int)) 0 := by omega
                have hs4 : (4 + (nn : Int)).toNat - 4 = nn := by omega
                have hck4 : w4.cell? ⟨b, o + 2, none⟩ = some (.int .u8 (k.toNat : Int)) := by rw [hb4.cell hbl]; exact hck
                have hY4 : Bs w4.drew (some ⟨b, o + 4, none⟩) nn (List.take nn (List.drop 4 l)) := HBY.out.below hb4.drew (Nat.le_refl _)
                have hown0 : w4.drew.ownsRow w.heap.size 5 1 (.slice none 0 0) ([] : List UInt8).length (cellsOfB []) := World.ownsRow_nil _ _ _ _
                obtain ⟨v', w5, hap, _, hgr⟩ := app_src hown0 (cap - 4) hY4 (by simp; omega) hb4.drew.size
                have hb6 : Below w.heap.size w w5 := Below.own hb4.drew hown0 hgr (Nat.le_refl _) hb4.drew.size
                have hck5 : w5.cell? ⟨b, o + 2, none⟩ = some (.int .u8 (k.toNat : Int)) := by rw [hb6.cell hbl]; exact hck
                clear hnp hY4 hgr hown0 HP HLV HCR HBY HHEAD HTAIL HB hck
                go_wp2_with fail
                simp only [Act.put, List.getElem_toArray, List.getElem_cons_zero, List.getElem_cons_succ, List.setIfInBounds_toArray, List.set_cons_zero, List.set_cons_succ]
                first
                  | (go_region_held3 (fun w' => w'.cell? ⟨b, o + 2, none⟩ = some (.int .u8 (k.toNat : Int)))
                      (first | exact hHeld | exact hck5 | go_keep)
                      (first | refine step_append_run (o := ⟨some 60, _, _, _, _, _⟩) (by kernel_rfl) _ _ _ rfl hap ?_))
                  | fail "no region"
                all_goals
                  go_wp2_with fail
                  go_ret3
                  exact ⟨hb6, _, _, 0, rfl, .inl ⟨HNP.out, rfl, by rw [HG.out]⟩⟩
              · have hnp : isPage l = false := by rw [HP.out, decide_eq_false hlc]
                have HNP := Lib.hid hnp
                have hne : ((lv : Int) != (cr : Int)) = true := by simp; omega
                clear hnp HP HLV HCR HBY HHEAD HTAIL HB
                go_wp2_with fail
                go_ret3
                exact ⟨hb4, _, _, 22, rfl, .inr ⟨HNP.out, by omega⟩⟩
      · have hnp : isPage l = false := by rw [HA.out]; simp [hn]
        have HNP := Lib.hid hnp
        have hni : ¬ (n.toNat : Int) ≤ 120 := by omega
        clear hnp HA HZ HBODY HHEAD HTAIL
        go_enter Try.func113, Try.ntmps113
        go_wp2_with fail
        refine HFIX.out.mono ?_
        rintro e w1 ⟨rfl, rfl⟩
        go_wp2_with fail
        refine HKIND.out.mono ?_
        rintro e w1 ⟨rfl, rfl⟩
        go_wp2_with fail
        go_ret3
        exact ⟨Below.refl _ _, _, _, 21, rfl, .inr ⟨HNP.out, by omega⟩⟩
  · have hnp : isPage l = false := by
      rw [HA.out]
      by_cases e0 : x0 = 157
      · have e1 : ¬ x1 = 76 := fun e => hmg ⟨e0, e⟩
        simp [e1]
      · simp [e0]
    have hmi : ¬ (((x0.toNat + 256 * x1.toNat : Nat) : Int) = 19613) := by
      intro e
      exact hmg ⟨UInt8.toNat_inj.1 (by show x0.toNat = 157; omega), UInt8.toNat_inj.1 (by show x1.toNat = 76; omega)⟩
    have HNP := Lib.hid hnp
    generalize x0.toNat + 256 * x1.toNat = mg at *
    clear hnp HA HZ HBODY HHEAD HTAIL hmg
    go_enter Try.func113, Try.ntmps113
    go_wp2_with fail
    refine HFIX.out.mono ?_
    rintro e w1 ⟨rfl, rfl⟩
    go_wp2_with fail
    go_ret3
    exact ⟨Below.refl _ _, _, _, 21, rfl, .inr ⟨HNP.out, by omega⟩⟩
end Go.Proofs.Ytljbehndnledpaa
