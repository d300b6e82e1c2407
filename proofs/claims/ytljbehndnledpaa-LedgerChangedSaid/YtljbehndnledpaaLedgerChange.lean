/- The walk of ledger.Changed. Conditions: those of each theorem. -/
import Derived.Test.YtljbehndnledpaaLedgerAlone
namespace Go.Proofs.Ytljbehndnledpaa
open Go.RowKit

theorem foldl_congr_mem {α β : Type} {f g : β → α → β} : ∀ {l : List α} (b : β), (∀ b x, x ∈ l → f b x = g b x) → l.foldl f b = l.foldl g b
  | [], _, _ => rfl
  | x :: l, b, h => by
    rw [List.foldl_cons, List.foldl_cons, h b x (by simp)]
    exact foldl_congr_mem _ fun b y hy => h b y (List.mem_cons_of_mem _ hy)
theorem runsF_congr {f g : Nat → Bool} {n : Nat} (h : ∀ j, j < n → f j = g j) : runsF f n = runsF g n := by
  unfold runsF
  refine foldl_congr_mem _ fun acc i hi => ?_
  have hi := List.mem_range.1 hi
  unfold runStep
  rw [h i hi]
  by_cases h0 : i = 0
  · subst h0; simp
  · rw [h (i - 1) (by omega)]
theorem onesF_len (f : Nat → Bool) (n : Nat) : (onesF f n).length ≤ n := by
  unfold onesF
  rw [List.length_map]
  exact Nat.le_trans (List.length_filter_le _ _) (by simp)

set_option maxRecDepth 100000 in
set_option maxHeartbeats 4000000 in
theorem change_any (ma ga mb gb n : Nat) (fa fb : Nat → Bool) (w : World) (ha : BmF w ma ga n fa) (hb : BmF w mb gb n fb) (hn : n ≤ 4096) :
    Calls Try.prog 75 #[.pointer (some ⟨ma, 0, none⟩), .pointer (some ⟨mb, 0, none⟩)] w fun e w' => ∃ v1 v2, e = .returned (.tuple #[v1, v2]) ∧
      OwnRuns w' w.heap.size v1 (runsF (fun j => fb j && !fa j) n) ∧ OwnRuns w' w.heap.size v2 (runsF (fun j => fa j && !fb j) n) ∧ Below w.heap.size w w' := by
  obtain ⟨Ta, hTa, eTa⟩ := ha
  obtain ⟨Tb, hTb, eTb⟩ := hb
  have e1 : ofL (onesF (fun j => bitOf Tb j && !bitOf Ta j) n) = runsF (fun j => fb j && !fa j) n := by
    rw [ofL_ones _ _ hn]
    exact runsF_congr fun j hj => by rw [eTa j hj, eTb j hj]
  have e2 : ofL (onesF (fun j => bitOf Ta j && !bitOf Tb j) n) = runsF (fun j => fa j && !fb j) n := by
    rw [ofL_ones _ _ hn]
    exact runsF_congr fun j hj => by rw [eTa j hj, eTb j hj]
  have l1 := onesF_len (fun j => bitOf Tb j && !bitOf Ta j) n
  have l2 := onesF_len (fun j => bitOf Ta j && !bitOf Tb j) n
  have a1 : ∀ W, Below w.heap.size w W → Calls Try.prog 133 #[.pointer (some ⟨mb, 0, none⟩), .pointer (some ⟨ma, 0, none⟩)] W fun e w' => ∃ v, e = .returned v ∧ w'.ownsRow W.heap.size 3 1 v (onesF (fun j => bitOf Tb j && !bitOf Ta j) n).length ((onesF (fun j => bitOf Tb j && !bitOf Ta j) n).map (.int .i64)) ∧ Below W.heap.size W w' :=
    fun W hW => alone_any mb gb ma ga n Tb Ta W (hTb.below hW (Nat.le_refl _)) (hTa.below hW (Nat.le_refl _)) hn
  have a2 : ∀ W, Below w.heap.size w W → Calls Try.prog 133 #[.pointer (some ⟨ma, 0, none⟩), .pointer (some ⟨mb, 0, none⟩)] W fun e w' => ∃ v, e = .returned v ∧ w'.ownsRow W.heap.size 3 1 v (onesF (fun j => bitOf Ta j && !bitOf Tb j) n).length ((onesF (fun j => bitOf Ta j && !bitOf Tb j) n).map (.int .i64)) ∧ Below W.heap.size W w' :=
    fun W hW => alone_any ma ga mb gb n Ta Tb W (hTa.below hW (Nat.le_refl _)) (hTb.below hW (Nat.le_refl _)) hn
  generalize onesF (fun j => bitOf Tb j && !bitOf Ta j) n = z1 at *
  generalize onesF (fun j => bitOf Ta j && !bitOf Tb j) n = z2 at *
  rw [← e1, ← e2]
  have A1 := Lib.hid a1
  have A2 := Lib.hid a2
  clear e1 e2 eTa eTb hTa hTb a1 a2
  go_enter Try.func75, Try.ntmps75
  go_wp2_with fail
  refine (A1.out w (Below.refl _ _)).mono ?_
  rintro e w1 ⟨v, rfl, ho, hb1⟩
  obtain ⟨a, cap, rfl, hs, -⟩ := own_sl ho
  clear ho
  go_wp2_with fail
  refine (of_any a z1.length cap z1 w1 hs (by omega)).mono ?_
  rintro e w2 ⟨v1, rfl, ho1, hb2⟩
  have hb12 := hb1.trans (hb2.mono hb1.size)
  clear hs
  go_wp2_with fail
  refine (A2.out w2 hb12).mono ?_
  rintro e w3 ⟨v, rfl, ho, hb3⟩
  obtain ⟨a', cap', rfl, hs, -⟩ := own_sl ho
  clear ho
  have hb13 := hb12.trans (hb3.mono hb12.size)
  go_wp2_with fail
  refine (of_any a' z2.length cap' z2 w3 hs (by omega)).mono ?_
  rintro e w4 ⟨v2, rfl, ho2, hb4⟩
  have hb14 := hb13.trans (hb4.mono hb13.size)
  have q1 : OwnRuns w4 w.heap.size v1 (ofL z1) := owns_lower ((OwnRuns.stays ho1 hb3 (Nat.le_refl _)).stays hb4 (Nat.le_refl _)) hb1.size
  have q2 : OwnRuns w4 w.heap.size v2 (ofL z2) := owns_lower ho2 hb13.size
  go_wp2_with fail
  go_ret2
  exact ⟨v1, v2, rfl, q1, q2, hb14⟩
end Go.Proofs.Ytljbehndnledpaa
