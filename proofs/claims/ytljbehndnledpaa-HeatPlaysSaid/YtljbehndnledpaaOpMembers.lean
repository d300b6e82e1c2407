/- The walk of op.members. Conditions: those of the theorem. -/
import Derived.Test.YtljbehndnledpaaOpSmall
namespace Go.Proofs.Ytljbehndnledpaa
open Go.RowKit

set_option maxRecDepth 100000 in
set_option maxHeartbeats 2000000 in
theorem members_any (a : Option Addr) (n cap : Nat) (l : List Int) (w : World) (h : Is .i64 w a n l) (hn : n ≤ 1000000000) :
    Calls Try.prog 163 #[.slice a n cap] w fun e w' => e = .returned (.bool (okMem l)) ∧ w = w' := by
  have HB := Lib.hid h
  have HL := Lib.hid h.len
  obtain ⟨r, hr⟩ : ∃ r, r = okMem l := ⟨_, rfl⟩
  rw [← hr]
  have HR := Lib.hid hr
  clear h hr
  go_enter Try.func163, Try.ntmps163
  go_wp2_with fail
  go_loop [7] (fun u7 => ∃ k : Nat, k ≤ n ∧ u7 = .int .i64 k ∧ Hid (rises 0 (l.take k) = true)) (fun u7 => n - (intOf u7).toNat)
  case atStart => exact ⟨0, by omega, rfl, Lib.hid rfl⟩
  case round =>
    obtain ⟨k, hk, rfl, HK⟩ := hrel
    by_cases hlt : k < n
    · obtain ⟨b, o, x, rfl, hx, hck⟩ := Is.cell HB.out k hlt
      have hnx := rises_take l k x hx
      have hpos := rises_pos (l.take k) 0 (by omega) HK.out
      rw [HK.out] at hnx
      have hid := opId_any x w
      obtain ⟨q, hq⟩ : ∃ q, okId x = q := ⟨_, rfl⟩
      rw [hq] at hid
      have HID := Lib.hid hid
      cases q
      · have hn2 : rises 0 (l.take (k + 1)) = false := by
          rw [hnx]
          unfold okId at hq
          by_cases h1 : 1 ≤ x
          · have h2 : ¬ x ≤ 65535 := by intro h2; simp [h1, h2] at hq
            simp [h2]
          · have h2 : ¬ (l.take k).getLast?.getD 0 < x := by omega
            simp [h2]
        have hrf : r = false := by rw [HR.out, okMem, rises_false l (k + 1) hn2]; rfl
        subst hrf
        clear hx hnx hn2 HK hid hq hpos
        go_wp2_with fail
        refine HID.out.mono ?_
        rintro e w1 ⟨rfl, rfl⟩
        go_wp2_with fail
        go_ret
        exact ⟨rfl, rfl⟩
      · have hx12 : 1 ≤ x ∧ x ≤ 65535 := by
          unfold okId at hq
          simpa using hq
        cases k with
        | zero =>
          rw [Nat.add_zero] at hck
          have hn2 : rises 0 (l.take (0 + 1)) = true := by
            rw [hnx]
            have : ((l.take 0).getLast?.getD 0) = 0 := rfl
            rw [this]
            simp [hx12.2]; omega
          have HN := Lib.hid hn2
          clear hx hnx hn2 HK hid hq hpos
          go_wp2_with fail
          refine HID.out.mono ?_
          rintro e w1 ⟨rfl, rfl⟩
          go_wp2_with fail
          exact ⟨⟨1, by omega, by go_num, HN⟩, by simp [intOf]; omega⟩
        | succ k =>
          obtain ⟨_, _, y, e1, hy, hcy⟩ := Is.cell HB.out k (by omega)
          cases e1
          have hla := last_take l k y hy
          rw [hla] at hnx
          have hk0 : (0 : Int) < ((k + 1 : Nat) : Int) := by omega
          have hk1 : IntKind.i64.wrap (((k + 1 : Nat) : Int) - 1) = (k : Int) := by rw [IntWalk.i64_in _ (by omega)]; omega
          have hki : (0 : Int) ≤ (k : Int) := by omega
          have hkn : (k : Int) < (n : Int) := by omega
          by_cases hyx : y < x
          · have hn2 : rises 0 (l.take (k + 1 + 1)) = true := by rw [hnx]; simp [hyx, hx12.2]
            have HN := Lib.hid hn2
            clear hx hnx hn2 HK hid hq hpos hla hy
            go_wp2_with fail
            refine HID.out.mono ?_
            rintro e w1 ⟨rfl, rfl⟩
            go_wp2_with fail
            exact ⟨⟨k + 1 + 1, by omega, by go_num, HN⟩, by simp [intOf]; omega⟩
          · have hn2 : rises 0 (l.take (k + 1 + 1)) = false := by rw [hnx]; simp [hyx]
            have hrf : r = false := by rw [HR.out, okMem, rises_false l (k + 1 + 1) hn2]; rfl
            subst hrf
            clear hx hnx hn2 HK hid hq hpos hla hy
            go_wp2_with fail
            refine HID.out.mono ?_
            rintro e w1 ⟨rfl, rfl⟩
            go_wp2_with fail
            go_ret
            exact ⟨rfl, rfl⟩
    · have hkn : k = n := by omega
      subst hkn
      have hrt : r = (decide (1 ≤ k) && decide (k ≤ 8)) := by
        have := HK.out
        rw [List.take_of_length_le (by rw [HL.out]; omega)] at this
        rw [HR.out, okMem, this, HL.out]; rfl
      clear HK
      by_cases h1 : 1 ≤ k
      · by_cases h2 : k ≤ 8
        · have hrt2 : r = true := by rw [hrt]; simp [h1, h2]
          subst hrt2
          clear hrt
          go_wp2_with fail
          go_ret
          exact ⟨by simp <;> omega, rfl⟩
        · have hrt2 : r = false := by rw [hrt]; simp [h2]
          subst hrt2
          clear hrt
          go_wp2_with fail
          go_ret
          exact ⟨by simp <;> omega, rfl⟩
      · have hrt2 : r = false := by rw [hrt]; simp [h1]
        subst hrt2
        clear hrt
        go_wp2_with fail
        go_ret
        exact ⟨by simp <;> omega, rfl⟩
end Go.Proofs.Ytljbehndnledpaa
