/- The walk of yesteryearref05.same. Conditions: those of the theorem. -/
import Derived.Test.YtljbehndnledpaaPagePut
namespace Go.Proofs.Ytljbehndnledpaa
open Go.RowKit

set_option maxRecDepth 100000 in
set_option maxHeartbeats 1000000 in
theorem sameB_any (b o n cap b' o' n' cap' : Nat) (l l' : List UInt8) (w : World) (h : Bs w (some ⟨b, o, none⟩) n l) (h' : Bs w (some ⟨b', o', none⟩) n' l') (hn : n ≤ 1000000000) (hn' : n' ≤ 1000000000) :
    Calls Try.prog 110 #[.slice (some ⟨b, o, none⟩) n cap, .slice (some ⟨b', o', none⟩) n' cap'] w fun e w' => e = .returned (.bool (l == l')) ∧ Below w.heap.size w w' := by
  have HL := Lib.hid h.length
  have HL' := Lib.hid h'.length
  have HB := Lib.hid h
  have HB' := Lib.hid h'
  obtain ⟨r, hr⟩ : ∃ r, r = (l == l') := ⟨_, rfl⟩
  rw [← hr]
  have HR := Lib.hid hr
  clear h h' hr
  by_cases hnn : n = n'
  · subst hnn
    go_enter Try.func110, Try.ntmps110
    go_wp2_with fail
    go_loopw [5] (fun u5 wr => ∃ k : Nat, k ≤ n ∧ u5 = .int .i64 k ∧ Hid (l.take k = l'.take k) ∧ Below w.heap.size w wr) (fun u5 _ => n - (intOf u5).toNat)
    case atStart => exact ⟨0, by omega, rfl, Lib.hid (by simp), Below.refl _ _⟩
    case round =>
      obtain ⟨k, hk, rfl, HK, hbw⟩ := hrel
      by_cases hlt : k < n
      · obtain ⟨_, _, c, e1, hc, hck, hbl⟩ := Bs.cell (HB.out.below hbw (Nat.le_refl _)) k hlt
        cases e1
        obtain ⟨_, _, c', e2, hc', hck', hbl'⟩ := Bs.cell (HB'.out.below hbw (Nat.le_refl _)) k hlt
        cases e2
        have hi0 : (0 : Int) ≤ (k : Int) := by omega
        have hi1 : (k : Int) < (n : Int) := by omega
        by_cases hcc : c = c'
        · have hnx : l.take (k + 1) = l'.take (k + 1) := by rw [List.take_add_one, List.take_add_one, HK.out, hc, hc', hcc]
          have HN := Lib.hid hnx
          subst hcc
          clear hnx hc hc' HK
          go_wp2_with fail
          go_quiet (fail)
          all_goals
            have hbd := fun nq => below_drewN hbw nq
            go_wp2_with fail
            exact ⟨⟨k + 1, by omega, by go_num, HN, hbd _⟩, by simp [intOf]; omega⟩
        · have hne : ((c.toNat : Int) == (c'.toNat : Int)) = false := by
            rw [beq_eq_false_iff_ne]
            intro e
            exact hcc (UInt8.toNat_inj.1 (by omega))
          have hrf : r = false := by
            rw [HR.out, beq_eq_false_iff_ne]
            intro e
            rw [e, hc'] at hc
            cases hc
            exact hcc rfl
          subst hrf
          clear hc hc' HK hcc
          go_wp2_with fail
          go_quiet (fail)
          all_goals
            have hbd := fun nq => below_drewN hbw nq
            go_wp2_with fail
            go_ret
            exact ⟨rfl, hbd _⟩
      · have hkn : k = n := by omega
        subst hkn
        have hrt : r = true := by
          have := HK.out
          rw [List.take_of_length_le (by rw [HL.out]; omega), List.take_of_length_le (by rw [HL'.out]; omega)] at this
          rw [HR.out, this]; simp
        subst hrt
        go_wp2_with fail
        go_ret
        exact ⟨rfl, hbw⟩
  · have hrf : r = false := by
      rw [HR.out, beq_eq_false_iff_ne]
      intro e
      exact hnn (by rw [← HL.out, ← HL'.out, e])
    subst hrf
    have hne : ((n : Int) == (n' : Int)) = false := by rw [beq_eq_false_iff_ne]; omega
    go_enter Try.func110, Try.ntmps110
    go_wp2_with fail
    go_ret
    exact ⟨rfl, Below.refl _ _⟩
end Go.Proofs.Ytljbehndnledpaa
