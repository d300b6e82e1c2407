/- The walks of yesteryearref29.digit and bytes. Conditions: those of each theorem. -/
import Derived.Test.YtljbehndnledpaaScriptSet
import Derived.Test.YtljbehndnledpaaStepApp
namespace Go.Proofs.Ytljbehndnledpaa
open Go.RowKit

theorem looseD_big (c : UInt8) (h : 97 ≤ c.toNat) : ((looseD c).toNat : Int) = ((c.toNat : Int) - 87) % 16 := by
  have h1 := UInt8.toNat_lt c
  unfold looseD
  rw [if_pos h, UInt8.toNat_mod, UInt8.toNat_sub]
  rw [show (87 : UInt8).toNat = 87 from rfl, show (16 : UInt8).toNat = 16 from rfl]
  omega
theorem looseD_small (c : UInt8) (h : ¬ 97 ≤ c.toNat) : ((looseD c).toNat : Int) = (((c.toNat : Int) - 48) % 256) % 16 := by
  have h1 := UInt8.toNat_lt c
  unfold looseD
  rw [if_neg h, UInt8.toNat_mod, UInt8.toNat_sub]
  rw [show (48 : UInt8).toNat = 48 from rfl, show (16 : UInt8).toNat = 16 from rfl]
  omega

set_option maxHeartbeats 1000000 in
theorem looseD_any (c : UInt8) (z : Int) (w : World) (hz : z = (c.toNat : Int)) :
    Calls Try.prog 196 #[.int .u8 z] w fun e w' => e = .returned (.int .u8 ((looseD c).toNat : Int)) ∧ w = w' := by
  have h256 := UInt8.toNat_lt c
  by_cases h : 97 ≤ c.toNat
  · have hr := looseD_big c h
    have hz0 : 97 ≤ z := by omega
    have hz1 : z < 256 := by omega
    rw [← hz] at hr
    generalize ((looseD c).toNat : Int) = r at *
    have HR := Lib.hid hr
    clear hr hz h256 h
    go_enter Try.func196, Try.ntmps196
    go_wp2_with fail
    go_ret
    exact ⟨ret_int (by rw [HR.out] <;> omega), rfl⟩
  · have hr := looseD_small c h
    have hz0 : ¬ 97 ≤ z := by omega
    have hz1 : z < 256 := by omega
    have hz2 : 0 ≤ z := by omega
    rw [← hz] at hr
    generalize ((looseD c).toNat : Int) = r at *
    have HR := Lib.hid hr
    clear hr hz h256 h
    have hw : IntKind.u8.wrap (z - 48) = (z - 48) % 256 := by rw [IntKind.wrap_u8']
    go_enter Try.func196, Try.ntmps196
    go_wp2_with fail
    go_ret
    exact ⟨ret_int (by rw [HR.out] <;> omega), rfl⟩

theorem loose_snoc : ∀ (l : List UInt8) (a b : UInt8), l.length % 2 = 0 → loose (l ++ [a, b]) = loose l ++ [16 * looseD a + looseD b]
  | [], a, b, _ => rfl
  | [x], a, b, h => by simp at h
  | x :: y :: l, a, b, h => by
    have := loose_snoc l a b (by simp at h; omega)
    show _ :: loose (l ++ [a, b]) = _
    rw [this]; rfl
theorem loose_odd : ∀ (l : List UInt8) (a : UInt8), l.length % 2 = 0 → loose (l ++ [a]) = loose l
  | [], a, _ => rfl
  | [x], a, h => by simp at h
  | x :: y :: l, a, h => by
    have := loose_odd l a (by simp at h; omega)
    show _ :: loose (l ++ [a]) = _
    rw [this]; rfl
theorem loose_len : ∀ (l : List UInt8), (loose l).length = l.length / 2
  | [] => rfl
  | [x] => by simp [loose]
  | x :: y :: l => by
    show (loose l).length + 1 = (l.length + 2) / 2
    rw [loose_len l]; omega

set_option maxRecDepth 100000 in
set_option maxHeartbeats 4000000 in
theorem refBytes_any (s : ByteArray) (w : World) (hs : s.size ≤ 1000000) :
    Calls Try.prog 171 #[.string s] w fun e w' => ∃ v, e = .returned v ∧ w'.ownsRow w.heap.size 5 1 v (loose s.data.toList).length (cellsOfB (loose s.data.toList)) ∧ Below w.heap.size w w' := by
  go_enter Try.func171, Try.ntmps171
  go_wp2_with fail
  go_loopw [3, 4] (fun u3 u4 wr => ∃ k : Nat, k ≤ s.size ∧ k % 2 = 0 ∧ u4 = .int .i64 (k : Int) ∧ wr.ownsRow w.heap.size 5 1 u3 (loose (s.data.toList.take (k))).length (cellsOfB (loose (s.data.toList.take (k)))) ∧ Below w.heap.size w wr) (fun _ u4 _ => s.size - (intOf u4).toNat)
  case atStart => exact ⟨0, by omega, rfl, rfl, World.ownsRow_nil _ _ _ _, Below.refl _ _⟩
  case round =>
    obtain ⟨k, hk, hk2, rfl, hown, hbw⟩ := hrel
    by_cases hlt : k + 1 < s.size
    · have h1 := take_snoc s (k) (by omega)
      have h2 := take_snoc s (k + 1) hlt
      rw [h1, List.append_assoc] at h2
      have hlen : (s.data.toList.take (k)).length = k := by rw [List.length_take, bytes_len]; omega
      have hnx := loose_snoc (s.data.toList.take (k)) s[k] s[k + 1] (by omega)
      rw [show ([s[k]] ++ [s[k + 1]] : List UInt8) = [s[k], s[k + 1]] from rfl] at h2
      rw [← h2] at hnx
      have hll := loose_len (s.data.toList.take (k))
      generalize hL : loose (s.data.toList.take (k)) = L at *
      have HNX := Lib.hid hnx
      have q1 := fun W => (looseD_any s[k] _ W rfl).mono (fun _ _ ⟨h1, h2⟩ => (⟨h1, h2.symm⟩ : _ ∧ _ = W))
      have q2 := fun W => (looseD_any s[k + 1] _ W rfl).mono (fun _ _ ⟨h1, h2⟩ => (⟨h1, h2.symm⟩ : _ ∧ _ = W))
      have hz : ((16 * looseD s[k] + looseD s[k + 1] : UInt8).toNat : Int) = (16 * ((looseD s[k]).toNat : Int) % 256 + ((looseD s[k + 1]).toNat : Int)) % 256 := by
        rw [UInt8.toNat_add, UInt8.toNat_mul, show (16 : UInt8).toNat = 16 from rfl]; omega
      generalize 16 * looseD s[k] + looseD s[k + 1] = x at *
      have b1 := UInt8.toNat_lt (looseD s[k])
      have b2 := UInt8.toNat_lt (looseD s[k + 1])
      have b3 : s[k].toNat < 256 := UInt8.toNat_lt _
      have b4 : s[k + 1].toNat < 256 := UInt8.toNat_lt _
      generalize (looseD s[k]).toNat = p at *
      generalize (looseD s[k + 1]).toNat = q at *
      obtain ⟨D, hD⟩ : ∃ D : Int, D = (x.toNat : Int) := ⟨_, rfl⟩
      have w1 : IntKind.u8.wrap (16 * (p : Int)) = 16 * (p : Int) % 256 := by rw [IntKind.wrap_u8']
      have w2 : IntKind.u8.wrap (16 * (p : Int) % 256 + (q : Int)) = D := by rw [IntKind.wrap_u8', hD, hz]
      obtain ⟨v', w', hap, hown', hgr⟩ := app_byte hown.drew D x hD (by omega) hbw.size
      have hbw' := Below.own hbw.drew hown.drew hgr (Nat.le_refl _) hbw.size
      have hk1 : k < s.size := by omega
      have hk3 : (k : Int) < (s.size : Int) := by omega
      have hk4 : (k : Int) + 1 < (s.size : Int) := by omega
      have hk0 : (0 : Int) ≤ (k : Int) := by omega
      have hk5 : (0 : Int) ≤ (k : Int) + 1 := by omega
      have hk6 : ((k : Int) + 1).toNat = k + 1 := by omega
      have hk7 : IntKind.i64.wrap ((k : Int) + 1) = (k : Int) + 1 := IntWalk.i64_in _ (by omega)
      have HQ1 := Lib.hid q1
      have HQ2 := Lib.hid q2
      have HO := Lib.hid hown'
      clear hnx h1 h2 hz hD q1 q2 hown' hL
      go_wp2_with fail
      go_region_law (first
        | (refine step_append_run (o := ⟨some 25, _, _, _, _, _⟩) rfl _ _ _ rfl hap ?_)
        | (refine step_call (o := ⟨some 16, _, _, _, _, _⟩) (by kernel_rfl) 196 Try.func196 (by kernel_rfl) rfl _ _ rfl #[.int .u8 (s[k].toNat : Int)] (by simp [Act.eval]) (HQ1.out _) ?_; rintro e w1 ⟨rfl, rfl⟩; refine ⟨_, rfl, ?_⟩)
        | (refine step_call (o := ⟨some 22, _, _, _, _, _⟩) (by kernel_rfl) 196 Try.func196 (by kernel_rfl) rfl _ _ rfl #[.int .u8 (s[k + 1].toNat : Int)] (by simp [Act.eval, Act.put]) (HQ2.out _) ?_; rintro e w1 ⟨rfl, rfl⟩; refine ⟨_, rfl, ?_⟩))
      all_goals
        go_wp2_with fail
        refine ⟨⟨k + 1 + 1, by omega, by omega, by go_num, ?_, hbw'⟩, by simp [intOf]; omega⟩
        rw [HNX.out]
        exact HO.out
    · have hfin : loose s.data.toList = loose (s.data.toList.take (k)) := by
        rcases (by omega : k = s.size ∨ k + 1 = s.size) with h | h
        · rw [h, take_all]
        · have h1 := take_snoc s (k) (by omega)
          rw [h, take_all] at h1
          conv => lhs; rw [h1]
          exact loose_odd _ _ (by rw [List.length_take, bytes_len]; omega)
      rw [← hfin] at hown
      go_wp2_with fail
      go_ret
      exact ⟨_, rfl, hown, hbw⟩
end Go.Proofs.Ytljbehndnledpaa
