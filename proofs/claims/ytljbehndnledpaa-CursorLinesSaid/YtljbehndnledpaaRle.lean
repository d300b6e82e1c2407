/- The walks of rle.zeros, plain, Pack and yesteryearref09.two, Pack. Conditions: those of each theorem. -/
import Derived.Test.YtljbehndnledpaaStep
import Derived.Test.YtljbehndnledpaaRlePlain
namespace Go.Proofs.Ytljbehndnledpaa
open Go.RowKit

theorem drop_cons {l : List UInt8} {k : Nat} {c : UInt8} (h : l[k]? = some c) : l.drop k = c :: l.drop (k + 1) := by
  have hk := (List.getElem?_eq_some_iff.1 h).1
  rw [List.drop_eq_getElem_cons hk]
  congr 1
  rw [List.getElem?_eq_getElem hk] at h
  simpa using h

theorem byte0 (c : UInt8) : (c = 0 → ((c.toNat : Int) == 0) = true) ∧ (c ≠ 0 → ((c.toNat : Int) == 0) = false) := by
  refine ⟨fun h => by rw [h]; rfl, fun h => ?_⟩
  rw [beq_eq_false_iff_ne]
  intro e
  exact h (UInt8.toNat_inj.1 (by simp; omega))

set_option maxRecDepth 100000 in
set_option maxHeartbeats 1000000 in
theorem zeros_any (a : Option Addr) (n cap at_ : Nat) (l : List UInt8) (w : World) (h : Bs w a n l) (hn : n ≤ 1000000000) (hat : at_ ≤ n) :
    Calls Try.prog 151 #[.slice a n cap, .int .i64 at_] w fun e w' => e = .returned (.int .i64 (zf 128 (l.drop at_) : Nat)) ∧ w = w' := by
  obtain ⟨m, hm⟩ : ∃ m, m = l.drop at_ := ⟨_, rfl⟩
  obtain ⟨z, hz⟩ : ∃ z : Nat, z = zf 128 (l.drop at_) := ⟨_, rfl⟩
  rw [← hz]
  have HZ := Lib.hid hz
  have HL := Lib.hid h.length
  clear hz hm
  go_enter Try.func151, Try.ntmps151
  go_wp2_with fail
  go_loop [5] (fun u5 => ∃ k : Nat, at_ + k ≤ n ∧ k ≤ 128 ∧ u5 = .int .i64 k ∧ Hid (z = k + zf (128 - k) (l.drop (at_ + k)))) (fun u5 => n - (intOf u5).toNat)
  case atStart => exact ⟨0, by omega, by omega, rfl, Lib.hid (by rw [HZ.out]; simp)⟩
  case round =>
    obtain ⟨k, hk, hk2, rfl, HK⟩ := hrel
    by_cases hlt : at_ + k < n
    · obtain ⟨b, o, c, rfl, hc, hck, _⟩ := h.cell (at_ + k) hlt
      have hd := drop_cons hc
      have hb0 := byte0 c
      by_cases hc0 : c = 0
      · have hb := hb0.1 hc0
        by_cases h128 : k < 128
        · have hnext : z = (k + 1) + zf (128 - (k + 1)) (l.drop (at_ + k + 1)) := by
            rw [HK.out, hd, show 128 - k = (128 - (k + 1)) + 1 by omega, zf, if_pos hc0]
            omega
          have HN := Lib.hid hnext
          clear hnext hd hc hb0 hc0
          go_wp2_with fail
          exact ⟨⟨k + 1, by omega, by omega, by go_num, HN⟩, by simp [intOf]; omega⟩
        · have hend : z = k := by
            rw [HK.out, show 128 - k = 0 by omega]; simp [zf]
          subst hend
          clear hd hc hb0 hc0
          go_wp2_with fail
          go_ret
          exact ⟨rfl, rfl⟩
      · have hb := hb0.2 hc0
        have hend : z = k := by
          rw [HK.out, hd]
          cases 128 - k with
          | zero => rfl
          | succ f => rw [zf, if_neg hc0]; rfl
        subst hend
        clear hd hc hb0 hc0
        go_wp2_with fail
        go_ret
        exact ⟨rfl, rfl⟩
    · have hend : z = k := by
        rw [HK.out, List.drop_of_length_le (by rw [HL.out]; omega)]
        cases 128 - k <;> rfl
      subst hend
      go_wp2_with fail
      go_ret
      exact ⟨rfl, rfl⟩
theorem two_drop {c : UInt8} (hc : c ≠ 0) (r : List UInt8) : two (c :: r) = false := by
  cases r with
  | nil => rfl
  | cons d r => simp [two, hc]

set_option maxRecDepth 100000 in
set_option maxHeartbeats 1000000 in
theorem plain_any (a : Option Addr) (n cap at_ : Nat) (l : List UInt8) (w : World) (h : Bs w a n l) (hn : n ≤ 1000000000) (hat : at_ ≤ n) :
    Calls Try.prog 152 #[.slice a n cap, .int .i64 at_] w fun e w' => e = .returned (.int .i64 (pf 128 (l.drop at_) : Nat)) ∧ w = w' := by
  obtain ⟨z, hz⟩ : ∃ z : Nat, z = pf 128 (l.drop at_) := ⟨_, rfl⟩
  rw [← hz]
  have HZ := Lib.hid hz
  have HL := Lib.hid h.length
  clear hz
  go_enter Try.func152, Try.ntmps152
  go_wp2_with fail
  go_loop [5] (fun u5 => ∃ k : Nat, at_ + k ≤ n ∧ k ≤ 128 ∧ u5 = .int .i64 k ∧ Hid (z = k + pf (128 - k) (l.drop (at_ + k)))) (fun u5 => n - (intOf u5).toNat)
  case atStart => exact ⟨0, by omega, by omega, rfl, Lib.hid (by rw [HZ.out]; simp)⟩
  case round =>
    obtain ⟨k, hk, hk2, rfl, HK⟩ := hrel
    by_cases hlt : at_ + k < n
    · by_cases h128 : k < 128
      · obtain ⟨b, o, c, rfl, hc, hck, _⟩ := h.cell (at_ + k) hlt
        have hd := drop_cons hc
        have hb0 := byte0 c
        by_cases hc0 : c = 0
        · have hb := hb0.1 hc0
          have hzz := zeros_any (some ⟨b, o, none⟩) n cap (at_ + k) l w h hn (by omega)
          have e1 : ((at_ + k : Nat) : Int) = (at_ : Int) + (k : Int) := by omega
          rw [e1] at hzz
          have htwo := zf_two 126 (l.drop (at_ + k))
          obtain ⟨q, hq⟩ : ∃ q : Nat, q = zf 128 (l.drop (at_ + k)) := ⟨_, rfl⟩
          rw [← hq] at hzz
          by_cases h2 : 2 ≤ q
          · have hend : z = k := by
              have ht := htwo.1 (by rw [← show q = zf (126 + 2) (l.drop (at_ + k)) from hq]; exact h2)
              rw [hd] at ht
              rw [HK.out, hd, show 128 - k = (127 - k) + 1 by omega, pf, if_pos ht]; rfl
            subst hend
            have HZZ := Lib.hid hzz
            have h2b : decide ((2 : Int) ≤ (q : Int)) = true := decide_eq_true (by omega)
            clear hd hc hb0 hc0 htwo hq hzz e1
            go_wp2_with fail
            refine HZZ.out.mono ?_
            rintro e w1 ⟨rfl, rfl⟩
            go_wp2_with fail
            go_ret
            exact ⟨rfl, rfl⟩
          · have hnext : z = (k + 1) + pf (128 - (k + 1)) (l.drop (at_ + k + 1)) := by
              have ht : two (l.drop (at_ + k)) = false := by
                cases ht : two (l.drop (at_ + k)) with
                | false => rfl
                | true => exact absurd (htwo.2 ht) (by rw [← show q = zf (126 + 2) (l.drop (at_ + k)) from hq]; exact h2)
              rw [hd] at ht
              rw [HK.out, hd, show 128 - k = (128 - (k + 1)) + 1 by omega, pf, if_neg (by rw [ht]; simp)]
              omega
            have HN := Lib.hid hnext
            have HZZ := Lib.hid hzz
            have h2b : decide ((2 : Int) ≤ (q : Int)) = false := decide_eq_false (by omega)
            clear hd hc hb0 hc0 htwo hq hzz e1 hnext
            go_wp2_with fail
            refine HZZ.out.mono ?_
            rintro e w1 ⟨rfl, rfl⟩
            go_wp2_with fail
            exact ⟨⟨k + 1, by omega, by omega, by go_num, HN⟩, by simp [intOf]; omega⟩
        · have hb := hb0.2 hc0
          have hnext : z = (k + 1) + pf (128 - (k + 1)) (l.drop (at_ + k + 1)) := by
            have ht : two (c :: l.drop (at_ + k + 1)) = false := two_drop hc0 _
            rw [HK.out, hd, show 128 - k = (128 - (k + 1)) + 1 by omega, pf, if_neg (by rw [ht]; simp)]
            omega
          have HN := Lib.hid hnext
          clear hd hc hb0 hc0 hnext
          go_wp2_with fail
          exact ⟨⟨k + 1, by omega, by omega, by go_num, HN⟩, by simp [intOf]; omega⟩
      · have hend : z = k := by rw [HK.out, show 128 - k = 0 by omega]; simp [pf]
        subst hend
        go_wp2_with fail
        go_ret
        exact ⟨rfl, rfl⟩
    · have hend : z = k := by
        rw [HK.out, List.drop_of_length_le (by rw [HL.out]; omega)]
        cases 128 - k <;> rfl
      subst hend
      go_wp2_with fail
      go_ret
      exact ⟨rfl, rfl⟩
end Go.Proofs.Ytljbehndnledpaa
