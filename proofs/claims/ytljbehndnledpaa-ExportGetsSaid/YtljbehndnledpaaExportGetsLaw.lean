/- The walk of the law ExportGets: it returns true and writes nothing that was there. No condition but that the bytes read. -/
import Derived.Test.YtljbehndnledpaaExportPutsLaw
namespace Go.Proofs.Ytljbehndnledpaa
open Go.RowKit

theorem getL_of (c : UInt8) (r d : List UInt8) (f : Nat) (hU : looseA r 2048 [] = (d, f)) :
    getL (c :: r) = if f = 0 then (if packL d = r then (if rightT (c.toNat : Int) d.length = true then ((c.toNat : Int), d, 0) else (0, [], 21)) else (0, [], 21)) else (0, [], f) := by
  simp only [getL, unpackL, hU]
  by_cases h0 : f = 0
  · by_cases h1 : packL d = r
    · simp [h0, h1]
    · simp [h0, h1]
  · simp [h0]

theorem looseF_len : ∀ (f : Nat) (l : List UInt8) (most : Nat) (acc : List UInt8), acc.length ≤ most → (looseF f l most acc).1.length ≤ most := by
  intro f
  induction f with
  | zero => intro l most acc h; exact h
  | succ f ih =>
    intro l most acc h
    cases l with
    | nil => exact h
    | cons c r =>
      rw [looseF]
      split
      · split
        · exact Nat.zero_le _
        · split
          · exact Nat.zero_le _
          · exact ih _ _ _ (by omega)
      · split
        · exact Nat.zero_le _
        · exact ih _ _ _ (by omega)

/-- A slice of bytes that is owned: what it reads as, and that its length is within its capacity. -/
theorem own_sl3 {w : World} {base n : Nat} {v : Value} {l : List UInt8} (h : w.ownsRow base 5 1 v n (cellsOfB l)) : ∃ a cap, v = .slice a n cap ∧ Bs w a n l ∧ n ≤ cap := by
  obtain ⟨a, cap, rfl, _, hc⟩ := own_sl h
  obtain ⟨a', cap', e, hb, _⟩ := own_bs h
  cases e
  exact ⟨a, cap, rfl, hb, hc⟩

set_option maxRecDepth 100000 in
set_option maxHeartbeats 4000000 in
theorem exportGetsLaw (a : Option Addr) (n cap : Nat) (l : List UInt8) (w : World) (h : Bs w a n l) (hcap : n ≤ cap) :
    Calls Try.prog 9 #[.slice a n cap] w fun e w' => e = .returned (.bool true) ∧ Below w.heap.size w w' := by
  by_cases hbig : 600 < n
  · go_enter Try.func9, Try.ntmps9
    go_wp2_with fail
    go_ret
    exact ⟨rfl, Below.refl _ _⟩
  · have hn : n ≤ 600 := by omega
    clear hbig
    have hp := get_any a n cap l w h hcap (by omega)
    have HB := Lib.hid h
    have hL := h.length
    cases l with
    | nil =>
      simp at hL
      subst hL
      have hg : getL [] = (0, [], 20) := rfl
      rw [hg] at hp
      have HP := Lib.hid hp
      clear hp hg h
      go_enter Try.func9, Try.ntmps9
      go_wp2_with fail
      refine HP.out.mono ?_
      rintro e w1 ⟨hb1, v, rfl, ho⟩
      obtain ⟨a2, c2, rfl, _⟩ := own_bs ho
      clear ho HP
      go_wp2_with fail
      have hb2 := hb1.alloc hb1.size (.cells #[.int .i64 0, .slice a2 0 c2] 56)
      refine (alive_any _).mono ?_
      rintro e w2 ⟨rfl, hb3⟩
      have hb4 := hb2.trans (hb3.mono hb2.size)
      clear hb3 hb2
      go_wp2_with fail
      go_ret
      exact ⟨rfl, hb4⟩
    | cons c r =>
      simp at hL
      subst hL
      obtain ⟨b, o, c', rfl, hc, hck, hbl⟩ := Bs.cell h 0 (by omega)
      simp at hc
      subst hc
      rw [Nat.add_zero] at hck
      have hcb : c.toNat < 256 := c.toNat_lt
      have htail := Bs.tail h 1 (by omega)
      simp only [Nat.add_sub_cancel, List.drop_succ_cons, List.drop_zero] at htail
      have htl : ∀ (a1 : Option Addr), (a1 = some ⟨b, o + 1, none⟩ ∨ cap = 1) → Bs w a1 r.length r := by
        intro a1 h1
        rcases h1 with rfl | h1
        · exact htail
        · have hr0 : r = [] := List.eq_nil_of_length_eq_zero (by omega)
          subst hr0
          exact Bs.none' _
      have HT := Lib.hid htl
      obtain ⟨G, hG⟩ : ∃ G, G = getL (c :: r) := ⟨_, rfl⟩
      rw [← hG] at hp
      have HP := Lib.hid hp
      have HG := Lib.hid hG
      obtain ⟨gz, gd, ge⟩ := G
      clear hp hG h htail htl
      go_enter Try.func9, Try.ntmps9
      go_wp2_with fail
      refine HP.out.mono ?_
      clear HP
      rintro e w1 ⟨hb1, v, rfl, ho⟩
      simp only at ho
      obtain ⟨a2, c2, rfl, hgd, _⟩ := own_bs ho
      have HGD := Lib.hid hgd
      clear ho hgd
      go_wp2_with fail
      all_goals
        have hb2 := hb1.alloc hb1.size (.cells #[.int .i64 gz, .slice a2 gd.length c2] 56)
        have d0 : (w1.alloc (.cells #[.int .i64 gz, .slice a2 gd.length c2] 56)).cell? ⟨w1.heap.size, 0, none⟩ = some (.int .i64 gz) := by simp
        have d1 : (w1.alloc (.cells #[.int .i64 gz, .slice a2 gd.length c2] 56)).cell? ⟨w1.heap.size, 1, none⟩ = some (.slice a2 gd.length c2) := by simp
        have hD : w1.heap.size < (w1.alloc (.cells #[.int .i64 gz, .slice a2 gd.length c2] 56)).heap.size := by simp
        have HGD2 : Hid (Bs (w1.alloc (.cells #[.int .i64 gz, .slice a2 gd.length c2] 56)) a2 gd.length gd) := Lib.hid (HGD.out.below ((Below.refl _ _).alloc (Nat.le_refl _) _) (Nat.le_refl _))
        clear HGD
        generalize w1.alloc (.cells #[.int .i64 gz, .slice a2 gd.length c2] 56) = w2 at *
        generalize w1.heap.size = D at *
        obtain ⟨U, hU⟩ : ∃ U, looseA r 2048 [] = U := ⟨_, rfl⟩
        obtain ⟨d, f⟩ := U
        have hGe := getL_of c r d f hU
        rw [← HG.out] at hGe
        have HGE := Lib.hid hGe
        clear HG hGe
        first
          | (have hone : cap = 1 := by assumption
             have hlo := loose_any (some ⟨b, o, none⟩) r.length 0 2048 r w2 (Is.below (HT.out _ (.inr hone)) hb2 (Nat.le_refl _)) (by omega) (by omega) (by omega)
             rw [hU] at hlo
             refine hlo.mono ?_
             clear hlo)
          | (have hlo := loose_any (some ⟨b, o + 1, none⟩) r.length (cap - 1) 2048 r w2 (Is.below (HT.out _ (.inl rfl)) hb2 (Nat.le_refl _)) (by omega) (by omega) (by omega)
             rw [hU] at hlo
             refine hlo.mono ?_
             clear hlo)
        rintro e w3 ⟨hb3, v3, rfl, ho3⟩
        obtain ⟨a3, c3, rfl, hd3, hc3⟩ := own_sl3 ho3
        simp only at hd3 ⊢
        have hb4 := hb2.trans (hb3.mono hb2.size)
        have e0 : w3.cell? ⟨D, 0, none⟩ = some (.int .i64 gz) := by rw [hb3.cell hD]; exact d0
        have e1 : w3.cell? ⟨D, 1, none⟩ = some (.slice a2 gd.length c2) := by rw [hb3.cell hD]; exact d1
        have hD3 : D < w3.heap.size := Nat.lt_of_lt_of_le hD hb3.size
        have hck3 : w3.cell? ⟨b, o, none⟩ = some (.int .u8 (c.toNat : Int)) := by rw [hb4.cell hbl]; exact hck
        have hbl3 : b < w3.heap.size := Nat.lt_of_lt_of_le hbl hb4.size
        have HGD3 : Hid (Bs w3 a2 gd.length gd) := Lib.hid (HGD2.out.below hb3 (Nat.le_refl _))
        have HD3 := Lib.hid hd3
        clear ho3 hd3 HGD2 d0 d1 hD hb3 hb1 hb2
        have hdl : d.length ≤ 2048 := by have := looseF_len (r.length + 1) r 2048 [] (by simp); unfold looseA at hU; rw [hU] at this; exact this
        clear hU
        by_cases hf : f = 0
        · have HGE' := HGE.out
          rw [if_pos hf] at HGE'
          subst hf
          clear HGE
          obtain ⟨P, hP⟩ : ∃ P, packL d = P := ⟨_, rfl⟩
          rw [hP] at HGE'
          have HPP := Lib.hid hP
          have HBd : Bs w3.drew a3 d.length d := HD3.out.below ((Below.refl _ _).drew) (Nat.le_refl _)
          obtain ⟨rt, hrt⟩ : ∃ rt, rightT (c.toNat : Int) d.length = rt := ⟨_, rfl⟩
          rw [hrt] at HGE'
          have HRT := Lib.hid hrt
          obtain ⟨pb, hpb⟩ : ∃ pb, (P == r) = pb := ⟨_, rfl⟩
          have HPB := Lib.hid hpb
          have hw64 : IntKind.i64.wrap (c.toNat : Int) = c.toNat := IntWalk.i64_in _ (by omega)
          have hi0 : (0 : Int) ≤ (r.length : Int) := by omega
          have hi1 : (1 : Int) ≤ (r.length : Int) + 1 := by omega
          have hi2 : (r.length : Int) + 1 ≤ (cap : Int) := by omega
          have hcases : (pb = true ∧ rt = true ∧ gz = (c.toNat : Int) ∧ gd = d ∧ ge = 0) ∨ ((pb = false ∨ (pb = true ∧ rt = false)) ∧ gz = 0 ∧ gd = [] ∧ ge = 21) := by
            by_cases hpr : P = r
            · rw [if_pos hpr] at HGE'
              have : pb = true := by rw [← hpb, hpr]; simp
              cases rt
              · refine .inr ⟨.inr ⟨this, rfl⟩, ?_⟩
                simpa using HGE'
              · refine .inl ⟨this, rfl, ?_⟩
                simpa using HGE'
            · rw [if_neg hpr] at HGE'
              exact .inr ⟨.inl (by rw [← hpb, beq_eq_false_iff_ne]; exact hpr), by simpa using HGE'⟩
          clear hP hrt hpb HGE' HB hck hbl
          rcases hcases with ⟨rfl, rfl, rfl, rfl, rfl⟩ | ⟨hbad, rfl, rfl, rfl⟩
          · go_wp2_with fail
            first
              | (go_region_held3 (fun w' => w'.cell? ⟨D, 0, none⟩ = some (.int .i64 (c.toNat : Int)) ∧ w'.cell? ⟨D, 1, none⟩ = some (.slice a2 gd.length c2) ∧ w'.cell? ⟨b, o, none⟩ = some (.int .u8 (c.toNat : Int)))
                  (first
                | exact hHeld
                | exact ⟨by assumption, by assumption, by assumption⟩
                | go_keep)
                  (first
                | (refine step_call (o := ⟨some 44, _, _, _, _, _⟩) (by kernel_rfl) 41 Try.func41 (by kernel_rfl) rfl _ _ rfl #[.slice a3 gd.length c3] (by simp [Act.eval]) (refPack_any a3 gd.length c3 gd _ (by with_reducible exact HBd) (by omega) hc3) ?_
                   rintro e w5 ⟨v5, rfl, ho5, hb9⟩
                   refine ⟨v5, rfl, ?_⟩
                   have hb10 : Below w3.heap.size w3 w5 := (Below.refl _ _).drew.trans hb9
                   have e0' : w5.cell? ⟨D, 0, none⟩ = some (.int .i64 (c.toNat : Int)) := by rw [hb10.cell hD3]; exact e0
                   have e1' : w5.cell? ⟨D, 1, none⟩ = some (.slice a2 gd.length c2) := by rw [hb10.cell hD3]; exact e1
                   have e2' : w5.cell? ⟨b, o, none⟩ = some (.int .u8 (c.toNat : Int)) := by rw [hb10.cell hbl3]; exact hck3
                   have hD5 : D < w5.heap.size := Nat.lt_of_lt_of_le hD3 hb10.size
                   have hbl5 : b < w5.heap.size := Nat.lt_of_lt_of_le hbl3 hb10.size
                   have hb12 : Below w.heap.size w w5 := hb4.trans (hb10.mono hb4.size)
                   rw [HPP.out] at ho5
                   obtain ⟨a5, c5, rfl, hs5, _⟩ := own_bs ho5
                   have HS5 := Lib.hid hs5
                   have HD5 : Hid (Bs w5 a3 gd.length gd) := Lib.hid (HD3.out.below hb10 (Nat.le_refl _))
                   have HGD5 : Hid (Bs w5 a2 gd.length gd) := Lib.hid (HGD3.out.below hb10 (Nat.le_refl _))
                   have hB12 := Lib.hid hb12
                   clear ho5 hs5 hb9)
                | (have hmany : ¬ cap = 1 := by assumption
                   refine step_call (o := ⟨some 47, _, _, _, _, _⟩) (by kernel_rfl) 31 Try.func31 (by kernel_rfl) rfl _ _ rfl #[.slice a5 P.length c5, .slice (some ⟨b, o + 1, none⟩) r.length (cap - 1)] (by simp [Act.eval]) (bytesEq_any a5 (some ⟨b, o + 1, none⟩) P.length r.length c5 (cap - 1) P r _ (by with_reducible exact HS5.out) ((HT.out _ (.inl rfl)).below hB12.out (Nat.le_refl _))) ?_
                   rintro e w7 ⟨rfl, rfl⟩
                   refine ⟨_, rfl, ?_⟩
                   simp only [HPB.out])
                | (have hone : cap = 1 := by assumption
                   refine step_call (o := ⟨some 47, _, _, _, _, _⟩) (by kernel_rfl) 31 Try.func31 (by kernel_rfl) rfl _ _ rfl #[.slice a5 P.length c5, .slice (some ⟨b, o, none⟩) r.length 0] (by simp [Act.eval]) (bytesEq_any a5 (some ⟨b, o, none⟩) P.length r.length c5 0 P r _ (by with_reducible exact HS5.out) ((HT.out _ (.inr hone)).below hB12.out (Nat.le_refl _))) ?_
                   rintro e w7 ⟨rfl, rfl⟩
                   refine ⟨_, rfl, ?_⟩
                   simp only [HPB.out])
                | (refine step_call (o := ⟨some 56, _, _, _, _, _⟩) (by kernel_rfl) 38 Try.func38 (by kernel_rfl) rfl _ _ rfl #[.agg #[.int .i64 (c.toNat : Int), .slice a3 gd.length c3]] (by simp [Act.eval]) (refRight_any (c.toNat : Int) a3 gd.length c3 _ _ (by with_reducible exact HRT)) ?_
                   rintro e w8 ⟨rfl, hb13⟩
                   refine ⟨_, rfl, ?_⟩
                   have e0q : w8.cell? ⟨D, 0, none⟩ = some (.int .i64 (c.toNat : Int)) := by rw [hb13.cell hD5]; exact e0'
                   have e1q : w8.cell? ⟨D, 1, none⟩ = some (.slice a2 gd.length c2) := by rw [hb13.cell hD5]; exact e1'
                   have e2q : w8.cell? ⟨b, o, none⟩ = some (.int .u8 (c.toNat : Int)) := by rw [hb13.cell hbl5]; exact e2'
                   have HD8 : Hid (Bs w8 a3 gd.length gd) := Lib.hid (HD5.out.below hb13 (Nat.le_refl _))
                   have HGD8 : Hid (Bs w8 a2 gd.length gd) := Lib.hid (HGD5.out.below hb13 (Nat.le_refl _))
                   have hD8 : D < w8.heap.size := Nat.lt_of_lt_of_le hD5 hb13.size
                   have hbl8 : b < w8.heap.size := Nat.lt_of_lt_of_le hbl5 hb13.size
                   have hb14 : Below w.heap.size w w8 := hB12.out.trans (hb13.mono hB12.out.size)
                   clear hb13)))
              | fail "no region"
            all_goals
              clear HBd e0 e1 hck3 HGD3 HD3 HPP HRT HPB
              go_wp2_with fail
              have HGx : Bs w8.drew a2 gd.length gd := HGD8.out.below ((Below.refl _ _).drew) (Nat.le_refl _)
              have HDx : Bs w8.drew a3 gd.length gd := HD8.out.below ((Below.refl _ _).drew) (Nat.le_refl _)
              have hcc : ((c.toNat : Int) == (c.toNat : Int)) = true := by simp
              have hb16 := hb14.drew
              first
                | (go_region_held3 (fun w' => w'.cell? ⟨D, 0, none⟩ = some (.int .i64 (c.toNat : Int)) ∧ w'.cell? ⟨D, 1, none⟩ = some (.slice a2 gd.length c2) ∧ w'.cell? ⟨b, o, none⟩ = some (.int .u8 (c.toNat : Int)))
                    (first
                     | exact hHeld
                     | exact ⟨by assumption, by assumption, by assumption⟩
                     | go_keep)
                    (first
                     | (refine step_call (o := ⟨some 90, _, _, _, _, _⟩) (by kernel_rfl) 31 Try.func31 (by kernel_rfl) rfl _ _ rfl #[.slice a2 gd.length c2, .slice a3 gd.length c3] (by simp [Act.eval]) (bytesEq_any a2 a3 gd.length gd.length c2 c3 gd gd _ (by with_reducible exact HGx) (by with_reducible exact HDx)) ?_
                        rintro e w7 ⟨rfl, rfl⟩
                        refine ⟨_, rfl, ?_⟩
                        simp only [beq_self_eq_true])
                     | (refine step_call (o := ⟨some 97, _, _, _, _, _⟩) (by kernel_rfl) 39 Try.func39 (by kernel_rfl) rfl _ _ rfl #[] (by simp) (alive_any _) ?_
                        rintro e w10 ⟨rfl, hb17⟩
                        refine ⟨_, rfl, ?_⟩
                        have e0r : w10.cell? ⟨D, 0, none⟩ = some (.int .i64 (c.toNat : Int)) := by rw [hb17.cell hD8]; exact e0q
                        have e1r : w10.cell? ⟨D, 1, none⟩ = some (.slice a2 gd.length c2) := by rw [hb17.cell hD8]; exact e1q
                        have e2r : w10.cell? ⟨b, o, none⟩ = some (.int .u8 (c.toNat : Int)) := by rw [hb17.cell hbl8]; exact e2q
                        have hb18 := hb16.trans (hb17.mono hb16.size))))
                | fail "no region 11"
              all_goals
                go_wp2_with fail
                go_ret
                exact ⟨rfl, hb18⟩
          · simp only [List.length_nil] at e1
            rcases hbad with rfl | ⟨rfl, rfl⟩
            · go_wp2_with fail
              first
                | go_region_with (first
                | (go_at_call 41
                   refine (refPack_any a3 d.length c3 d _ (by with_reducible exact HBd) (by omega) hc3).mono ?_
                   rintro e w5 ⟨v5, rfl, ho5, hb9⟩
                   have hb10 : Below w3.heap.size w3 w5 := (Below.refl _ _).drew.trans hb9
                   have e0' : w5.cell? ⟨D, 0, none⟩ = some (.int .i64 0) := by rw [hb10.cell hD3]; exact e0
                   have e1' : w5.cell? ⟨D, 1, none⟩ = some (.slice a2 0 c2) := by rw [hb10.cell hD3]; exact e1
                   have e2' : w5.cell? ⟨b, o, none⟩ = some (.int .u8 (c.toNat : Int)) := by rw [hb10.cell hbl3]; exact hck3
                   have hD5 : D < w5.heap.size := Nat.lt_of_lt_of_le hD3 hb10.size
                   have hbl5 : b < w5.heap.size := Nat.lt_of_lt_of_le hbl3 hb10.size
                   have hb12 : Below w.heap.size w w5 := hb4.trans (hb10.mono hb4.size)
                   rw [HPP.out] at ho5
                   obtain ⟨a5, c5, rfl, hs5, _⟩ := own_bs ho5
                   have HS5 := Lib.hid hs5
                   have HD5 : Hid (Bs w5 a3 d.length d) := Lib.hid (HD3.out.below hb10 (Nat.le_refl _))
                   have HGD5 : Hid (Bs w5 a2 0 []) := Lib.hid (HGD3.out.below hb10 (Nat.le_refl _))
                   have hB12 := Lib.hid hb12
                   clear ho5 hs5 hb9)
                | (go_at_call 31
                   have hmany : ¬ cap = 1 := by assumption
                   refine (bytesEq_any a5 (some ⟨b, o + 1, none⟩) P.length r.length c5 (cap - 1) P r _ (by with_reducible exact HS5.out) ((HT.out _ (.inl rfl)).below hB12.out (Nat.le_refl _))).mono ?_
                   rintro e w7 ⟨rfl, rfl⟩
                   simp only [HPB.out])
                | (go_at_call 31
                   have hone : cap = 1 := by assumption
                   refine (bytesEq_any a5 (some ⟨b, o, none⟩) P.length r.length c5 0 P r _ (by with_reducible exact HS5.out) ((HT.out _ (.inr hone)).below hB12.out (Nat.le_refl _))).mono ?_
                   rintro e w7 ⟨rfl, rfl⟩
                   simp only [HPB.out]))
                | fail "no region"
              all_goals
                go_wp2_with fail
                refine (alive_any _).mono ?_
                rintro e w9 ⟨rfl, hb15⟩
                go_wp2_with fail
                go_ret
                first
                  | exact ⟨rfl, hb14.trans (hb15.mono hb14.size)⟩
                  | exact ⟨rfl, hb12.trans (hb15.mono hb12.size)⟩
            · have hPr : P = r := by simpa using HPB.out
              go_wp2_with fail
              first
                | (go_region_held3 (fun w' => w'.cell? ⟨D, 0, none⟩ = some (.int .i64 0) ∧ w'.cell? ⟨D, 1, none⟩ = some (.slice a2 0 c2) ∧ w'.cell? ⟨b, o, none⟩ = some (.int .u8 (c.toNat : Int)))
                    (first
                | exact hHeld
                | exact ⟨by assumption, by assumption, by assumption⟩
                | go_keep)
                    (first
                | (refine step_call (o := ⟨some 44, _, _, _, _, _⟩) (by kernel_rfl) 41 Try.func41 (by kernel_rfl) rfl _ _ rfl #[.slice a3 d.length c3] (by simp [Act.eval]) (refPack_any a3 d.length c3 d _ (by with_reducible exact HBd) (by omega) hc3) ?_
                   rintro e w5 ⟨v5, rfl, ho5, hb9⟩
                   refine ⟨v5, rfl, ?_⟩
                   have hb10 : Below w3.heap.size w3 w5 := (Below.refl _ _).drew.trans hb9
                   have e0' : w5.cell? ⟨D, 0, none⟩ = some (.int .i64 0) := by rw [hb10.cell hD3]; exact e0
                   have e1' : w5.cell? ⟨D, 1, none⟩ = some (.slice a2 0 c2) := by rw [hb10.cell hD3]; exact e1
                   have e2' : w5.cell? ⟨b, o, none⟩ = some (.int .u8 (c.toNat : Int)) := by rw [hb10.cell hbl3]; exact hck3
                   have hD5 : D < w5.heap.size := Nat.lt_of_lt_of_le hD3 hb10.size
                   have hbl5 : b < w5.heap.size := Nat.lt_of_lt_of_le hbl3 hb10.size
                   have hb12 : Below w.heap.size w w5 := hb4.trans (hb10.mono hb4.size)
                   rw [HPP.out] at ho5
                   obtain ⟨a5, c5, rfl, hs5, _⟩ := own_bs ho5
                   have HS5 := Lib.hid hs5
                   have HD5 : Hid (Bs w5 a3 d.length d) := Lib.hid (HD3.out.below hb10 (Nat.le_refl _))
                   have HGD5 : Hid (Bs w5 a2 0 []) := Lib.hid (HGD3.out.below hb10 (Nat.le_refl _))
                   have hB12 := Lib.hid hb12
                   clear ho5 hs5 hb9)
                | (have hmany : ¬ cap = 1 := by assumption
                   refine step_call (o := ⟨some 47, _, _, _, _, _⟩) (by kernel_rfl) 31 Try.func31 (by kernel_rfl) rfl _ _ rfl #[.slice a5 P.length c5, .slice (some ⟨b, o + 1, none⟩) r.length (cap - 1)] (by simp [Act.eval]) (bytesEq_any a5 (some ⟨b, o + 1, none⟩) P.length r.length c5 (cap - 1) P r _ (by with_reducible exact HS5.out) ((HT.out _ (.inl rfl)).below hB12.out (Nat.le_refl _))) ?_
                   rintro e w7 ⟨rfl, rfl⟩
                   refine ⟨_, rfl, ?_⟩
                   simp only [HPB.out])
                | (have hone : cap = 1 := by assumption
                   refine step_call (o := ⟨some 47, _, _, _, _, _⟩) (by kernel_rfl) 31 Try.func31 (by kernel_rfl) rfl _ _ rfl #[.slice a5 P.length c5, .slice (some ⟨b, o, none⟩) r.length 0] (by simp [Act.eval]) (bytesEq_any a5 (some ⟨b, o, none⟩) P.length r.length c5 0 P r _ (by with_reducible exact HS5.out) ((HT.out _ (.inr hone)).below hB12.out (Nat.le_refl _))) ?_
                   rintro e w7 ⟨rfl, rfl⟩
                   refine ⟨_, rfl, ?_⟩
                   simp only [HPB.out])
                | (have hPr' : P = r := by assumption
                   refine step_call (o := ⟨some 56, _, _, _, _, _⟩) (by kernel_rfl) 38 Try.func38 (by kernel_rfl) rfl _ _ rfl #[.agg #[.int .i64 (c.toNat : Int), .slice a3 d.length c3]] (by simp [Act.eval]) (refRight_any (c.toNat : Int) a3 d.length c3 _ _ (by with_reducible exact HRT)) ?_
                   rintro e w8 ⟨rfl, hb13⟩
                   refine ⟨_, rfl, ?_⟩
                   have e0q : w8.cell? ⟨D, 0, none⟩ = some (.int .i64 0) := by rw [hb13.cell hD5]; exact e0'
                   have e1q : w8.cell? ⟨D, 1, none⟩ = some (.slice a2 0 c2) := by rw [hb13.cell hD5]; exact e1'
                   have e2q : w8.cell? ⟨b, o, none⟩ = some (.int .u8 (c.toNat : Int)) := by rw [hb13.cell hbl5]; exact e2'
                   have HD8 : Hid (Bs w8 a3 d.length d) := Lib.hid (HD5.out.below hb13 (Nat.le_refl _))
                   have HGD8 : Hid (Bs w8 a2 0 []) := Lib.hid (HGD5.out.below hb13 (Nat.le_refl _))
                   have hD8 : D < w8.heap.size := Nat.lt_of_lt_of_le hD5 hb13.size
                   have hbl8 : b < w8.heap.size := Nat.lt_of_lt_of_le hbl5 hb13.size
                   have hb14 : Below w.heap.size w w8 := hB12.out.trans (hb13.mono hB12.out.size)
                   clear hb13)))
                | fail "no region"
              all_goals
                go_wp2_with fail
                refine (alive_any _).mono ?_
                rintro e w9 ⟨rfl, hb15⟩
                go_wp2_with fail
                go_ret
                first
                  | exact ⟨rfl, hb14.trans (hb15.mono hb14.size)⟩
                  | exact ⟨rfl, hb12.trans (hb15.mono hb12.size)⟩
        · have hG3 : gz = 0 ∧ gd = [] ∧ ge = f := by
            have := HGE.out
            rw [if_neg hf] at this
            simpa using this
          obtain ⟨rfl, rfl, rfl⟩ := hG3
          have hf0 : ((ge : Int) == 0) = false := by rw [beq_eq_false_iff_ne]; omega
          have hf1 : ((ge : Int) != 0) = true := by simp [bne, hf0]
          clear HGE hf
          simp only [List.length_nil] at e1 HGD3
          clear HB HT hck hbl
          go_wp2_with fail
          go_quiet (fail)
          rename_i nq _
          have hb5 := below_drewN hb4 nq
          go_wp2_with fail
          refine (alive_any _).mono ?_
          rintro e w4 ⟨rfl, hb6⟩
          go_wp2_with fail
          go_ret
          exact ⟨rfl, hb5.trans (hb6.mono hb5.size)⟩
end Go.Proofs.Ytljbehndnledpaa
