/- The walks of yesteryearref09.two, Pack. Conditions: those of each theorem. -/
import Derived.Test.YtljbehndnledpaaStepApp
import Derived.Test.YtljbehndnledpaaStep
import Derived.Test.YtljbehndnledpaaRlePack
import Derived.Deep.RegionLaw
namespace Go.Proofs.Ytljbehndnledpaa
open Go.RowKit

theorem two_at (l : List UInt8) (c d : UInt8) (k : Nat) (hc : l[k]? = some c) (hd : l[k + 1]? = some d) : two (l.drop k) = (c == 0 && d == 0) := by
  rw [drop_cons hc, drop_cons hd]; rfl
theorem two_end (l : List UInt8) (k : Nat) (h : l.length ≤ k + 1) : two (l.drop k) = false := by
  have : (l.drop k).length ≤ 1 := by rw [List.length_drop]; omega
  match l.drop k, this with
  | [], _ => rfl
  | [_], _ => rfl

set_option maxRecDepth 100000 in
set_option maxHeartbeats 1000000 in
theorem two_any (a : Option Addr) (n cap : Nat) (k : Nat) (l : List UInt8) (w : World) (h : Bs w a n l) (hn : n ≤ 1000000000) (hk : k ≤ n) (r : Bool) (hr : Hid (two (l.drop k) = r)) :
    Calls Try.prog 106 #[.slice a n cap, .int .i64 k] w fun e w' => e = .returned (.bool r) ∧ w = w' := by
  have HL := Lib.hid h.length
  by_cases hlt : k + 1 < n
  · obtain ⟨b, o, c, rfl, hc, hck, _⟩ := h.cell k (by omega)
    obtain ⟨b', o', d, ha, hd, hdk, _⟩ := h.cell (k + 1) hlt
    simp only [Option.some.injEq, Addr.mk.injEq, and_true] at ha
    obtain ⟨rfl, rfl⟩ := ha
    have ht := two_at l c d k hc hd
    rw [hr.out] at ht
    have hb0 := byte0 c
    have hd0 := byte0 d
    by_cases hc0 : c = 0
    · have hb := hb0.1 hc0
      by_cases hd00 : d = 0
      · have hdb := hd0.1 hd00
        have hr' : r = true := by rw [ht, hc0, hd00]; rfl
        subst hr'
        clear ht hb0 hd0 hc0 hd00 hr hc hd
        go_enter Try.func106, Try.ntmps106
        go_wp2_with fail
        go_ret
        exact ⟨rfl, rfl⟩
      · have hdb := hd0.2 hd00
        have hr' : r = false := by rw [ht]; simp [hd00]
        subst hr'
        clear ht hb0 hd0 hc0 hd00 hr hc hd
        go_enter Try.func106, Try.ntmps106
        go_wp2_with fail
        go_ret
        exact ⟨rfl, rfl⟩
    · have hb := hb0.2 hc0
      have hr' : r = false := by rw [ht]; simp [hc0]
      subst hr'
      clear ht hb0 hd0 hc0 hr hc hd
      go_enter Try.func106, Try.ntmps106
      go_wp2_with fail
      go_ret
      exact ⟨rfl, rfl⟩
  · have hr' : r = false := by rw [← hr.out]; exact two_end l k (by rw [HL.out]; omega)
    subst hr'
    clear hr
    go_enter Try.func106, Try.ntmps106
    go_wp2_with fail
    go_ret
    exact ⟨rfl, rfl⟩

theorem two_any0 (a : Option Addr) (n cap : Nat) (l : List UInt8) (w : World) (h : Bs w a n l) (hn : n ≤ 1000000000) (r : Bool) (hr : Hid (two l = r)) :
    Calls Try.prog 106 #[.slice a n cap, .int .i64 0] w fun e w' => e = .returned (.bool r) ∧ w = w' :=
  two_any a n cap 0 l w h hn (by omega) r hr
theorem Bs.tail {w : World} {b o n : Nat} {l : List UInt8} (h : Bs w (some ⟨b, o, none⟩) n l) (k : Nat) (hk : k ≤ n) : Bs w (some ⟨b, o + k, none⟩) (n - k) (l.drop k) := by
  have := Bs.piece h k (n - k) (by omega)
  rw [List.take_of_length_le (by rw [List.length_drop, h.length]; omega)] at this
  exact this
theorem Bs.tail_if {w : World} {b o n cap : Nat} {l : List UInt8} (h : Bs w (some ⟨b, o, none⟩) n l) (k : Nat) (hk : k ≤ n) (hc : n ≤ cap) :
    Bs w (if cap = k then some ⟨b, o, none⟩ else some ⟨b, o + k, none⟩) (n - k) (l.drop k) := by
  by_cases e : cap = k
  · have hn : n - k = 0 := by omega
    rw [hn, List.drop_of_length_le (by rw [h.length]; omega)]
    exact Bs.none' _
  · rw [if_neg e]; exact Bs.tail h k hk

/-- What the outer loop keeps: what has been packed, and what is left. -/
def RPRel (P : List UInt8) (w : World) (u0 u3 : Value) (wr : World) : Prop :=
  ∃ (a : Option Addr) (n cap : Nat) (rest acc : List UInt8), u0 = .slice a n cap ∧ n ≤ cap ∧ n ≤ 1000000000 ∧ Hid (Bs w a n rest) ∧ wr.ownsRow w.heap.size 5 1 u3 acc.length (cellsOfB acc) ∧ Below w.heap.size w wr ∧ Hid (acc ++ packL rest = P)

set_option maxRecDepth 100000 in
set_option maxHeartbeats 4000000 in
theorem refPack_any (a : Option Addr) (n cap : Nat) (l : List UInt8) (w : World) (h : Bs w a n l) (hn : n ≤ 1000000000) (hcap : n ≤ cap) :
    Calls Try.prog 41 #[.slice a n cap] w fun e w' => ∃ v, e = .returned v ∧ w'.ownsRow w.heap.size 5 1 v (packL l).length (cellsOfB (packL l)) ∧ Below w.heap.size w w' := by
  have hpl := packL_len l
  rw [h.length] at hpl
  obtain ⟨P, hP⟩ : ∃ P, P = packL l := ⟨_, rfl⟩
  rw [← hP] at hpl ⊢
  have hpl2 : P.length ≤ 2000000000 := by omega
  have HPe := Lib.hid hP
  have HB := Lib.hid h
  clear hP h hpl
  go_enter Try.func41, Try.ntmps41
  go_wp2_with fail
  go_loopw [0, 3] (fun u0 u3 wr => RPRel P w u0 u3 wr) (fun u0 _ _ => match u0 with | .slice _ m _ => m | _ => 0)
  case atStart => exact ⟨a, n, cap, l, [], rfl, hcap, hn, HB, World.ownsRow_nil _ _ _ _, Below.refl _ _, Lib.hid (by rw [HPe.out]; rfl)⟩
  case round =>
    clear HB HPe hn hcap
    obtain ⟨a, n, cap, l, acc, rfl, hcap, hn, HB, hown, hbw, HA⟩ := hrel
    have HL := Lib.hid HB.out.length
    by_cases hpos : 0 < n
    · have hal : acc.length ≤ 2000000000 := by
        have h1 := congrArg List.length HA.out
        rw [List.length_append] at h1
        omega
      have hw := HB.out.below hbw (Nat.le_refl _)
      have hne : l ≠ [] := fun e => by have := HL.out; rw [e] at this; simp at this; omega
      cases h2 : two l with
      | true =>
        have htw := two_any0 a n cap l wr hw hn true (Lib.hid h2)
        have HTW := Lib.hid htw
        have HT := Lib.hid h2
        have HNE := Lib.hid hne
        have HW := Lib.hid hw
        clear htw h2 hne hw
        go_wp2_with fail
        refine HTW.out.mono ?_
        rintro e w1 ⟨rfl, rfl⟩
        go_wp2_with fail
        obtain ⟨q, hq⟩ : ∃ q : Nat, q = zf 128 l := ⟨_, rfl⟩
        have HQ := Lib.hid hq
        clear hq
        go_loop [4] (fun u4 => ∃ k : Nat, k ≤ n ∧ k ≤ 128 ∧ u4 = .int .i64 k ∧ Hid (q = k + zf (128 - k) (l.drop k))) (fun u4 => n - (intOf u4).toNat)
        case atStart => exact ⟨0, by omega, by omega, rfl, Lib.hid (by rw [HQ.out]; simp)⟩
        case round =>
          obtain ⟨k, hk, hk2, rfl, HK⟩ := hrel
          by_cases hlt : k < n ∧ k < 128 ∧ l[k]? = some 0
          · obtain ⟨h1, h3, hc⟩ := hlt
            obtain ⟨b, o, c, rfl, hc', hck, _⟩ := Bs.cell HW.out k h1
            rw [hc] at hc'
            simp only [Option.some.injEq] at hc'
            subst hc'
            have hd := drop_cons hc
            have hnext : q = (k + 1) + zf (128 - (k + 1)) (l.drop (k + 1)) := by
              rw [HK.out, hd, show 128 - k = (128 - (k + 1)) + 1 by omega, zf, if_pos rfl]
              omega
            have HN := Lib.hid hnext
            have hb : ((0 : Int) == 0) = true := rfl
            simp only [UInt8.toNat_ofNat, Nat.reducePow, Nat.zero_mod, Int.cast_ofNat_Int] at hck
            clear hnext hd hc
            go_wp2_with fail
            exact ⟨⟨k + 1, by omega, by omega, by go_num, HN⟩, by simp [intOf]; omega⟩
          · have hexit : q = k ∧ (¬ k < n ∨ (k < n ∧ ¬ k < 128) ∨ (k < n ∧ k < 128 ∧ ∃ (b o : Nat) (c : UInt8), a = some ⟨b, o, none⟩ ∧ wr.cell? ⟨b, o + k, none⟩ = some (.int .u8 (c.toNat : Int)) ∧ ((c.toNat : Int) == 0) = false)) := by
              by_cases h1 : k < n
              · by_cases h3 : k < 128
                · obtain ⟨b, o, c, ha, hc', hck, _⟩ := Bs.cell HW.out k h1
                  have hc0 : c ≠ 0 := fun e => hlt ⟨h1, h3, by rw [hc', e]⟩
                  refine ⟨?_, .inr (.inr ⟨h1, h3, b, o, c, ha, hck, (byte0 c).2 hc0⟩)⟩
                  rw [HK.out, drop_cons hc', show 128 - k = (128 - (k + 1)) + 1 by omega, zf, if_neg hc0]
                  rfl
                · exact ⟨by rw [HK.out, show 128 - k = 0 by omega]; simp [zf], .inr (.inl ⟨h1, h3⟩)⟩
              · refine ⟨?_, .inl h1⟩
                rw [HK.out, List.drop_of_length_le (by rw [HL.out]; omega)]
                cases 128 - k <;> rfl
            obtain ⟨rfl, hexit⟩ := hexit
            have hq2 : 2 ≤ q := by rw [HQ.out]; exact zf_pos l HT.out
            have hpk := packL_two l HT.out
            rw [← HQ.out] at hpk
            have hbyte : (127 + (q : Int)) = ((UInt8.ofNat (127 + q)).toNat : Int) := by rw [UInt8.toNat_ofNat']; omega
            have hnew : (acc ++ [UInt8.ofNat (127 + q)]) ++ packL (l.drop q) = P := by
              rw [List.append_assoc, List.singleton_append, ← hpk]; exact HA.out
            obtain ⟨v', w', hap, hown', hgr⟩ := app_byte hown _ _ hbyte (by omega) hbw.size
            have hbw' := Below.own hbw hown hgr (Nat.le_refl _) hbw.size
            have HN := Lib.hid hnew
            obtain ⟨ba, oa, rfl, hall⟩ := HW.out.at (by omega)
            have htail := Lib.hid (Bs.tail HB.out q hk)
            have htail2 := Lib.hid (Bs.tail_if HB.out q hk hcap)
            clear hall
            clear hpk hnew hbyte hlt
            rcases hexit with h1 | ⟨h1, h3⟩ | ⟨h1, h3, b, o, c, ha, hck, hc0⟩
            rotate_left 2
            · simp only [Option.some.injEq, Addr.mk.injEq, and_true] at ha
              obtain ⟨rfl, rfl⟩ := ha
              go_wp2_with (at_builtin; refine wpList_append_run rfl _ _ _ rfl hap ?_)
              first
                | exact ⟨⟨_, _, _, _, _, rfl, by omega, by omega, htail, hown', hbw', HN⟩, by simp only []; omega⟩
                | exact ⟨⟨_, _, _, _, _, rfl, by omega, by omega, htail2, hown', hbw', HN⟩, by simp only []; omega⟩
            all_goals
              go_wp2_with (at_builtin; refine wpList_append_run rfl _ _ _ rfl hap ?_)
              first
                | exact ⟨⟨_, _, _, _, _, rfl, by omega, by omega, htail, hown', hbw', HN⟩, by simp only []; omega⟩
                | exact ⟨⟨_, _, _, _, _, rfl, by omega, by omega, htail2, hown', hbw', HN⟩, by simp only []; omega⟩
      | false =>
        have htw := two_any0 a n cap l wr hw hn false (Lib.hid h2)
        have HTW := Lib.hid htw
        have HT := Lib.hid h2
        have HNE := Lib.hid hne
        have HW := Lib.hid hw
        clear htw h2 hne hw
        go_wp2_with fail
        refine HTW.out.mono ?_
        rintro e w1 ⟨rfl, rfl⟩
        go_wp2_with fail
        obtain ⟨q, hq⟩ : ∃ q : Nat, q = pf 128 l := ⟨_, rfl⟩
        have HQ := Lib.hid hq
        clear hq
        go_loop [4] (fun u4 => ∃ k : Nat, k ≤ n ∧ k ≤ 128 ∧ u4 = .int .i64 k ∧ Hid (q = k + pf (128 - k) (l.drop k))) (fun u4 => n - (intOf u4).toNat)
        case atStart => exact ⟨0, by omega, by omega, rfl, Lib.hid (by rw [HQ.out]; simp)⟩
        case round =>
          obtain ⟨k, hk, hk2, rfl, HK⟩ := hrel
          by_cases hlt : k < n ∧ k < 128 ∧ two (l.drop k) = false
          · obtain ⟨h1, h3, hc⟩ := hlt
            obtain ⟨b, o, c, ha0, hc', hck0, hbl0⟩ := Bs.cell HW.out k h1
            have hd := drop_cons hc'
            have hnext : q = (k + 1) + pf (128 - (k + 1)) (l.drop (k + 1)) := by
              rw [hd] at hc
              rw [HK.out, hd, show 128 - k = (128 - (k + 1)) + 1 by omega, pf, if_neg (by rw [hc]; simp)]
              omega
            have HN := Lib.hid hnext
            have htk := Lib.hid (two_any a n cap k l wr HW.out hn hk false (Lib.hid hc))
            clear hnext hd hc hc' ha0 hck0 hbl0
            go_wp2_with fail
            refine htk.out.mono ?_
            rintro e w1 ⟨rfl, rfl⟩
            go_wp2_with fail
            exact ⟨⟨k + 1, by omega, by omega, by go_num, HN⟩, by simp [intOf]; omega⟩
          · have hexit : q = k ∧ (¬ k < n ∨ (k < n ∧ ¬ k < 128) ∨ (k < n ∧ k < 128 ∧ Hid (two (l.drop k) = true))) := by
              by_cases h1 : k < n
              · by_cases h3 : k < 128
                · have ht : two (l.drop k) = true := by
                    cases ht : two (l.drop k) with
                    | true => rfl
                    | false => exact absurd ⟨h1, h3, ht⟩ hlt
                  refine ⟨?_, .inr (.inr ⟨h1, h3, ht⟩)⟩
                  obtain ⟨b, o, c, _, hc', _, _⟩ := Bs.cell HW.out k h1
                  rw [drop_cons hc'] at ht
                  rw [HK.out, drop_cons hc', show 128 - k = (128 - (k + 1)) + 1 by omega, pf, if_pos ht]
                  rfl
                · exact ⟨by rw [HK.out, show 128 - k = 0 by omega]; simp [pf], .inr (.inl ⟨h1, h3⟩)⟩
              · refine ⟨?_, .inl h1⟩
                rw [HK.out, List.drop_of_length_le (by rw [HL.out]; omega)]
                cases 128 - k <;> rfl
            obtain ⟨rfl, hexit⟩ := hexit
            have hq2 : 0 < q := by rw [HQ.out]; exact pf_pos 127 l HNE.out HT.out
            have hpk := packL_plain l HNE.out HT.out
            rw [← HQ.out] at hpk
            have hbyte : ((q : Int) - 1) = ((UInt8.ofNat (q - 1)).toNat : Int) := by rw [UInt8.toNat_ofNat']; omega
            have hnew : (acc ++ [UInt8.ofNat (q - 1)]) ++ l.take q ++ packL (l.drop q) = P := by
              rw [← HA.out, hpk]; simp
            have hownd : wr.drew.ownsRow w.heap.size 5 1 u3 acc.length (cellsOfB acc) := hown.drew
            have hbd : Below w.heap.size w wr.drew := hbw.drew
            obtain ⟨v', w', hap0, hown', hgr⟩ := app_byte hownd _ _ hbyte (by omega) hbd.size
            have hap : (Builtin.append_ #[37, 37] 37 #[u3, .slice (some ⟨wr.heap.size, 0, none⟩) 1 1]).run Try.prog ((wr.alloc (.cells #[.int .u8 ((q : Int) - 1)] 5)).drew) = .ok v' w' := hap0
            clear hap0
            have hbw' := Below.own hbd hownd hgr (Nat.le_refl _) hbd.size
            obtain ⟨ba, oa, rfl, hall⟩ := HW.out.at (by omega)
            have hsrc : Bs w' (some ⟨ba, oa, none⟩) q (l.take q) := by
              have := Bs.piece (HB.out.below hbw' (Nat.le_refl _)) 0 q (by omega)
              simpa using this
            obtain ⟨v2, w2, hap2, hown2, hgr2⟩ := app_src hown' cap hsrc (by rw [List.length_append]; simp; omega) hbw'.size
            have hbw2 := Below.own hbw' hown' hgr2 (Nat.le_refl _) hbw'.size
            have HN := Lib.hid hnew
            have htail := Lib.hid (Bs.tail HB.out q hk)
            have htail2 := Lib.hid (Bs.tail_if HB.out q hk hcap)
            clear hpk hnew hbyte hlt hall hsrc
            have hqc : q ≤ cap := by omega
            have hw1 : IntKind.i64.wrap ((q : Int) - 1) = (q : Int) - 1 := IntWalk.i64_in _ (by omega)
            have hw2 : IntKind.u8.wrap ((q : Int) - 1) = (q : Int) - 1 := by rw [IntKind.wrap_u8']; omega
            rcases hexit with h1 | ⟨h1, h3⟩ | ⟨h1, h3, ht⟩
            rotate_left 2
            · have htk := Lib.hid (two_any (some ⟨ba, oa, none⟩) n cap q l wr HW.out hn hk true ht)
              go_wp2_with fail
              refine htk.out.mono ?_
              rintro e w1 ⟨rfl, rfl⟩
              go_wp2_with fail
              go_region_law (first | (refine step_append_run (o := ⟨some 54, _, _, _, _, _⟩) rfl _ _ _ rfl hap ?_) | (refine step_append_run (o := ⟨some 58, _, _, _, _, _⟩) rfl _ _ _ rfl hap2 ?_))
              go_wp2_with fail
              all_goals
                first
                  | exact ⟨⟨_, _, _, _, _, rfl, by omega, by omega, htail, hown2, hbw2, HN⟩, by simp only []; omega⟩
                  | exact ⟨⟨_, _, _, _, _, rfl, by omega, by omega, htail2, hown2, hbw2, HN⟩, by simp only []; omega⟩
            all_goals
              go_wp2_with fail
              go_region_law (first | (refine step_append_run (o := ⟨some 54, _, _, _, _, _⟩) rfl _ _ _ rfl hap ?_) | (refine step_append_run (o := ⟨some 58, _, _, _, _, _⟩) rfl _ _ _ rfl hap2 ?_))
              go_wp2_with fail
              all_goals
                first
                  | exact ⟨⟨_, _, _, _, _, rfl, by omega, by omega, htail, hown2, hbw2, HN⟩, by simp only []; omega⟩
                  | exact ⟨⟨_, _, _, _, _, rfl, by omega, by omega, htail2, hown2, hbw2, HN⟩, by simp only []; omega⟩
    · have hl0 : l = [] := List.eq_nil_of_length_eq_zero (by rw [HL.out]; omega)
      have he : acc = P := by
        have := HA.out
        rw [hl0, packL_nil, List.append_nil] at this
        exact this
      subst he
      clear hl0
      go_wp2_with fail
      go_ret
      exact ⟨_, rfl, hown, hbw⟩
end Go.Proofs.Ytljbehndnledpaa
