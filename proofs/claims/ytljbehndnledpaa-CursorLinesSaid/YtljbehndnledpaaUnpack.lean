/- The walk of rle.Unpack. Conditions: those of the theorem. -/
import Derived.Test.YtljbehndnledpaaLoose
import Derived.Test.YtljbehndnledpaaUnhex
import Derived.Test.YtljbehndnledpaaPieces
import Derived.Deep.RegionWith
namespace Go.Proofs.Ytljbehndnledpaa
open Go.RowKit

/-- A slice of the call's own is kept by what writes to no block that was there. -/
theorem own_keep {w w' : World} {base : Nat} {e : TypeId} {size n : Nat} {v : Value} {xs : List Value} (h : w.ownsRow base e size v n xs) (hb : Below w.heap.size w w') : w'.ownsRow base e size v n xs := by
  refine ⟨h.1, ?_⟩
  rcases h.2 with h2 | ⟨g, cap, cur, hv, hbg, hg, hr⟩
  · exact .inl h2
  · have hgs : g < w.heap.size := (Array.getElem?_eq_some_iff.1 hg).1
    exact .inr ⟨g, cap, cur, hv, hbg, by rw [hb.block g hgs]; exact hg, hr⟩

set_option maxRecDepth 100000 in
theorem low7_fin : ∀ n : Fin 256, bits .and .u8 ((n.val : Nat) : Int) 127 = ((n.val % 128 : Nat) : Int) := by decide
theorem low7 (n : Nat) (h : n < 256) : bits .and .u8 (n : Int) 127 = ((n % 128 : Nat) : Int) := low7_fin ⟨n, h⟩

set_option maxRecDepth 100000 in
set_option maxHeartbeats 2000000 in
theorem unpack_any (a : Option Addr) (n cap most : Nat) (l : List UInt8) (w : World) (h : Bs w a n l) (hn : n ≤ 5000000) (hcap : n ≤ cap) :
    Calls Try.prog 105 #[.slice a n cap, .int .i64 (most : Nat)] w (LooseEnds (unpackL l most) w) := by
  obtain ⟨R, hR⟩ : ∃ R, R = looseA l most [] := ⟨_, rfl⟩
  obtain ⟨S, hS⟩ : ∃ S, S = unpackL l most := ⟨_, rfl⟩
  rw [← hS]
  unfold unpackL at hS
  rw [← hR] at hS
  have HS := Lib.hid hS
  have HR := Lib.hid hR
  have HB := Lib.hid h
  have HL := Lib.hid h.length
  clear hR hS h
  go_enter Try.func105, Try.ntmps105
  go_wp2_with fail
  go_loopw [6, 7] (fun u6 u7 wr => ∃ (k : Nat) (acc : List UInt8), k ≤ n ∧ u7 = .int .i64 k ∧ wr.ownsRow w.heap.size 5 1 u6 acc.length (cellsOfB acc) ∧ acc.length + 128 * (n - k) ≤ 640000000 ∧ Below w.heap.size w wr ∧ Hid (looseA (l.drop k) most acc = R)) (fun _ u7 _ => n - (intOf u7).toNat)
  case atStart => exact ⟨0, [], by omega, rfl, World.ownsRow_nil _ _ _ _, by simp; omega, Below.refl _ _, Lib.hid (by rw [HR.out]; rfl)⟩
  case round =>
    obtain ⟨k, acc, hk, rfl, hown, hal, hbw, HA⟩ := hrel
    by_cases hlt : k < n
    · obtain ⟨b, o, c, rfl, hc, hck, hbl⟩ := Bs.cell (HB.out.below hbw (Nat.le_refl _)) k hlt
      have hd := drop_cons hc
      have hA := HA.out
      rw [hd] at hA
      have hcb : c.toNat < 256 := c.toNat_lt
      have hdl : (l.drop (k + 1)).length = n - (k + 1) := by rw [List.length_drop, HL.out]
      clear hd hc HA HR
      have hbits := low7 c.toNat hcb
      by_cases h128 : c.toNat < 128
      · rw [show c.toNat % 128 = c.toNat by omega] at hbits
        by_cases hshort : n - (k + 1) < c.toNat + 1
        · have hR2 : R = ([], 20) := by rw [← hA]; exact looseA_short c _ most acc h128 (by omega)
          clear hA hdl
          have hS2 : S = ([], 20) := by rw [HS.out, hR2]; rfl
          clear HS hR2
          subst hS2
          go_wp2_with fail
          all_goals
            go_ret2
            exact ⟨hbw, _, rfl, World.ownsRow_nil _ _ _ _⟩
        · have hB1' := Bs.tail HB.out (k + 1) hlt
          have hsrc := Bs.piece hB1' 0 (c.toNat + 1) (by omega)
          rw [Nat.add_zero, List.drop_zero] at hsrc
          have hsrc2 : Bs w (some ⟨b, o + (k + 1), none⟩) (k + 1 + (c.toNat + 1) - (k + 1)) (List.take (c.toNat + 1) (List.drop (k + 1) l)) := by
            rw [show k + 1 + (c.toNat + 1) - (k + 1) = c.toNat + 1 by omega]; exact hsrc
          obtain ⟨v', w', hap, hown', hgr⟩ := app_src hown (cap - (k + 1)) (hsrc2.below hbw (Nat.le_refl _)) (by omega) hbw.size
          have hbw' := Below.own hbw hown hgr (Nat.le_refl _) hbw.size
          obtain ⟨a2, cap2, rfl⟩ := own_shape hown'
          have hlen : (acc ++ (l.drop (k + 1)).take (c.toNat + 1)).length = acc.length + (c.toNat + 1) := by rw [List.length_append, List.length_take, hdl]; omega
          have hA1 := looseA_big1 c (l.drop (k + 1)) most acc h128 (by omega)
          have hA2 := looseA_go1 c (l.drop (k + 1)) most acc h128 (by omega)
          rw [hA] at hA1 hA2
          rw [List.drop_drop] at hA2
          generalize acc ++ (l.drop (k + 1)).take (c.toNat + 1) = acc2 at *
          have HLN := Lib.hid hlen
          have hck1 : ¬ cap = k + 1 := by omega
          clear hlen hsrc hsrc2 hA hB1' hdl hgr hown
          by_cases hbig : most < acc2.length
          · have hR2 := hA1 hbig
            have hS2 : S = ([], 12) := by rw [HS.out, hR2]; rfl
            clear hA1 hA2 HS hR2
            subst hS2
            have hgt : (most : Int) < (acc2.length : Int) := by omega
            go_wp2_with (at_builtin; refine wpList_append_run rfl _ _ _ rfl hap ?_)
            all_goals
              go_ret2
              exact ⟨hbw', _, rfl, World.ownsRow_nil _ _ _ _⟩
          · have HA := Lib.hid (hA2 hbig).symm
            have hal2 : acc2.length + 128 * (n - (k + 1 + (c.toNat + 1))) ≤ 640000000 := by rw [HLN.out]; omega
            clear hA1 hA2
            go_wp2_with (at_builtin; refine wpList_append_run rfl _ _ _ rfl hap ?_)
            all_goals
              exact ⟨⟨k + 1 + (c.toNat + 1), _, by omega, by go_num, hown', hal2, hbw', HA⟩, by simp [intOf]; omega⟩
      · rw [show c.toNat % 128 = c.toNat - 128 by omega] at hbits
        obtain ⟨v', w', hap, hown', hgr⟩ := app_zeros hown (c.toNat - 127) (by omega) (by omega) hbw.size
        rw [show ((c.toNat - 127 : Nat) : Int) = ((c.toNat - 128 : Nat) : Int) + 1 by omega] at hap
        have hbw' := Below.own hbw hown hgr (Nat.le_refl _) hbw.size
        obtain ⟨a2, cap2, rfl⟩ := own_shape hown'
        have hlen : (acc ++ List.replicate (c.toNat - 127) 0).length = acc.length + (c.toNat - 127) := by rw [List.length_append, List.length_replicate]
        have hA1 := looseA_big2 c (l.drop (k + 1)) most acc h128
        have hA2 := looseA_go2 c (l.drop (k + 1)) most acc h128
        rw [hA] at hA1 hA2
        generalize acc ++ List.replicate (c.toNat - 127) 0 = acc2 at *
        have HLN := Lib.hid hlen
        clear hlen hA hdl hgr hown
        by_cases hbig : most < acc2.length
        · have hR2 := hA1 hbig
          have hS2 : S = ([], 12) := by rw [HS.out, hR2]; rfl
          clear hA1 hA2 HS hR2
          subst hS2
          have hgt : (most : Int) < (acc2.length : Int) := by omega
          go_wp2_with (at_builtin; refine Lib.wpList_append_run _ rfl _ _ _ _ rfl _ _ rfl rfl _ _ hap ?_)
          all_goals
            go_ret2
            exact ⟨hbw', _, rfl, World.ownsRow_nil _ _ _ _⟩
        · have HA := Lib.hid (hA2 hbig).symm
          have hal2 : acc2.length + 128 * (n - (k + 1)) ≤ 640000000 := by rw [HLN.out]; omega
          clear hA1 hA2
          go_wp2_with (at_builtin; refine Lib.wpList_append_run _ rfl _ _ _ _ rfl _ _ rfl rfl _ _ hap ?_)
          all_goals
            exact ⟨⟨k + 1, _, by omega, by go_num, hown', hal2, hbw', HA⟩, by simp [intOf]; omega⟩
    · have he : R = (acc, 0) := by rw [← HA.out, List.drop_of_length_le (by rw [HL.out]; omega), looseA_nil]
      have hS2 : S = (if packL acc = l then (acc, 0) else ([], 21)) := by rw [HS.out, he]; rfl
      clear HA HS HR he
      obtain ⟨a2, cap2, rfl, hbs2, hlc⟩ := own_sl hown
      obtain ⟨a3, cap3, e3, hbs, _⟩ := own_bs hown
      cases e3
      have hpk := pack_any a2 acc.length cap2 acc wr.drew (hbs.below (Below.refl _ _).drew (Nat.le_refl _)) (by omega) hlc
      have hb2 : Bs wr.drew a n l := HB.out.below hbw.drew (Nat.le_refl _)
      have c2 := hb2.str (cap := cap)
      obtain ⟨P, hP⟩ : ∃ P, P = packL acc := ⟨_, rfl⟩
      rw [← hP] at hpk hS2
      have HC := Lib.hid c2
      clear hbs2 hbs c2 hb2
      by_cases heq : P = l
      · rw [if_pos heq] at hS2
        subst heq
        have HP := Lib.hid hpk
        subst hS2
        clear hP hpk
        have c2 := HC.out
        go_wp2_with fail
        go_region_with (go_at_call 104; refine HP.out.mono ?_; rintro e w1 ⟨v, rfl, hov, hbv⟩; obtain ⟨a4, cap4, rfl, hbs4, hl4⟩ := own_bs hov; have c1 := hbs4.str (cap := cap4); have hbw1 := hbw.drew.trans (hbv.mono hbw.drew.size); have hb3 : Bs w1 a n P := HB.out.below hbw1 (Nat.le_refl _); have c3 := hb3.str (cap := cap); have hown1 := own_keep hown.drew hbv; clear hb3 hov hbs4)
        all_goals
          go_wp2_with fail
          go_ret2
          exact ⟨hbw1, _, rfl, hown1⟩
      · rw [if_neg heq] at hS2
        have hne : (P == l) = false := by simpa using heq
        have HP := Lib.hid hpk
        subst hS2
        clear hP hpk heq hown
        have c2 := HC.out
        go_wp2_with fail
        go_region_with (go_at_call 104; refine HP.out.mono ?_; rintro e w1 ⟨v, rfl, hov, hbv⟩; obtain ⟨a4, cap4, rfl, hbs4, hl4⟩ := own_bs hov; have c1 := hbs4.str (cap := cap4); have hbw1 := hbw.drew.trans (hbv.mono hbw.drew.size); have hb3 : Bs w1 a n l := HB.out.below hbw1 (Nat.le_refl _); have c3 := hb3.str (cap := cap); clear hb3 hov hbs4)
        all_goals
          go_wp2_with fail
          go_ret2
          exact ⟨hbw1, _, rfl, World.ownsRow_nil _ _ _ _⟩
end Go.Proofs.Ytljbehndnledpaa
