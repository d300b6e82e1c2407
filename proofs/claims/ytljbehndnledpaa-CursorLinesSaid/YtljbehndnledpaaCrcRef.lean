/- The walks of yesteryearref02.bits, turned, number. Conditions: those of each theorem. -/
import Derived.Test.YtljbehndnledpaaBools
namespace Go.Proofs.Ytljbehndnledpaa
open Go.RowKit

theorem res187 (tmps : Array Value) (b : Nat) (f : Nat → Bool) (W : World) (h2 : tmps[2]? = some (.pointer (some ⟨b, 0, none⟩))) (h : Bools W b f) :
    (results Try.f187 tmps).run Try.prog W = .ok (.agg (boolsV f).toArray) W := by
  have h1 := loadVar280 h
  simp [results, Try.results187, asAddr, h2, h1]

theorem shr_bit (n k : Nat) : (n / 2 ^ k) % 2 = if n.testBit k then 1 else 0 := by
  rw [Nat.testBit_eq_decide_div_mod_eq]
  by_cases h : n / 2 ^ k % 2 = 1
  · simp [h]
  · simp [h]; omega

set_option maxRecDepth 100000 in
set_option maxHeartbeats 1000000 in
theorem bits_any (n : Nat) (w : World) (hn : n < 4294967296) :
    Calls Try.prog 187 #[.int .u32 (n : Int)] w fun e w' => e = .returned (.agg (boolsV fun i => n.testBit i).toArray) ∧ Below w.heap.size w w' := by
  go_enter Try.func187, Try.ntmps187
  go_wp2_with fail
  have q0 := (Bools.new w 280 (fun _ => false) #[.bool false, .bool false, .bool false, .bool false, .bool false, .bool false, .bool false, .bool false, .bool false, .bool false, .bool false, .bool false, .bool false, .bool false, .bool false, .bool false, .bool false, .bool false, .bool false, .bool false, .bool false, .bool false, .bool false, .bool false, .bool false, .bool false, .bool false, .bool false, .bool false, .bool false, .bool false, .bool false] rfl)
  have hb0 : Below w.heap.size w (w.alloc (.cells #[.bool false, .bool false, .bool false, .bool false, .bool false, .bool false, .bool false, .bool false, .bool false, .bool false, .bool false, .bool false, .bool false, .bool false, .bool false, .bool false, .bool false, .bool false, .bool false, .bool false, .bool false, .bool false, .bool false, .bool false, .bool false, .bool false, .bool false, .bool false, .bool false, .bool false, .bool false, .bool false] 280)) := (Below.refl _ _).alloc (Nat.le_refl _) _
  have hsz : (w.alloc (.cells #[.bool false, .bool false, .bool false, .bool false, .bool false, .bool false, .bool false, .bool false, .bool false, .bool false, .bool false, .bool false, .bool false, .bool false, .bool false, .bool false, .bool false, .bool false, .bool false, .bool false, .bool false, .bool false, .bool false, .bool false, .bool false, .bool false, .bool false, .bool false, .bool false, .bool false, .bool false, .bool false] 280)).heap.size = w.heap.size + 1 := by simp
  generalize w.alloc (.cells #[.bool false, .bool false, .bool false, .bool false, .bool false, .bool false, .bool false, .bool false, .bool false, .bool false, .bool false, .bool false, .bool false, .bool false, .bool false, .bool false, .bool false, .bool false, .bool false, .bool false, .bool false, .bool false, .bool false, .bool false, .bool false, .bool false, .bool false, .bool false, .bool false, .bool false, .bool false, .bool false] 280) = w1 at *
  have q1 := (Bools.new w1 280 (fun _ => false) #[.bool false, .bool false, .bool false, .bool false, .bool false, .bool false, .bool false, .bool false, .bool false, .bool false, .bool false, .bool false, .bool false, .bool false, .bool false, .bool false, .bool false, .bool false, .bool false, .bool false, .bool false, .bool false, .bool false, .bool false, .bool false, .bool false, .bool false, .bool false, .bool false, .bool false, .bool false, .bool false] rfl)
  have q0' := q0.alloc (.cells #[.bool false, .bool false, .bool false, .bool false, .bool false, .bool false, .bool false, .bool false, .bool false, .bool false, .bool false, .bool false, .bool false, .bool false, .bool false, .bool false, .bool false, .bool false, .bool false, .bool false, .bool false, .bool false, .bool false, .bool false, .bool false, .bool false, .bool false, .bool false, .bool false, .bool false, .bool false, .bool false] 280)
  have hb1 : Below w.heap.size w (w1.alloc (.cells #[.bool false, .bool false, .bool false, .bool false, .bool false, .bool false, .bool false, .bool false, .bool false, .bool false, .bool false, .bool false, .bool false, .bool false, .bool false, .bool false, .bool false, .bool false, .bool false, .bool false, .bool false, .bool false, .bool false, .bool false, .bool false, .bool false, .bool false, .bool false, .bool false, .bool false, .bool false, .bool false] 280)) := hb0.alloc (by omega) _
  rw [hsz] at q1
  generalize w1.alloc (.cells #[.bool false, .bool false, .bool false, .bool false, .bool false, .bool false, .bool false, .bool false, .bool false, .bool false, .bool false, .bool false, .bool false, .bool false, .bool false, .bool false, .bool false, .bool false, .bool false, .bool false, .bool false, .bool false, .bool false, .bool false, .bool false, .bool false, .bool false, .bool false, .bool false, .bool false, .bool false, .bool false] 280) = w2 at *
  clear q0 hb0 hsz
  go_loopw [0, 4] (fun u0 u4 wr => ∃ k : Nat, k ≤ 32 ∧ u4 = .int .i64 k ∧ u0 = .int .u32 (n / 2 ^ k : Nat) ∧ Bools wr w.heap.size (fun _ => false) ∧ Bools wr (w.heap.size + 1) (fun i => decide (i < k) && n.testBit i) ∧ Below w.heap.size w wr) (fun _ u4 _ => 32 - (intOf u4).toNat)
  case atStart => exact ⟨0, by omega, rfl, by simp, q0', q1.congr (by simp), hb1⟩
  case round =>
    obtain ⟨k, hk, rfl, rfl, hq0, hq1, hbw⟩ := hrel
    by_cases hlt : k < 32
    · have hc := (hq1 k hlt).1
      have hf := (hq1 k hlt).2
      have hm := shr_bit n k
      have hd : n / 2 ^ (k + 1) = (n / 2 ^ k) / 2 := by rw [Nat.pow_succ, Nat.div_div_eq_div_mul]
      have hmi : ((n / 2 ^ k : Nat) : Int) % 2 = if n.testBit k then 1 else 0 := by
        have : ((n / 2 ^ k : Nat) : Int) % 2 = ((n / 2 ^ k % 2 : Nat) : Int) := by omega
        rw [this, hm]; split <;> rfl
      have hdl : n / 2 ^ k < 4294967296 := Nat.lt_of_le_of_lt (Nat.div_le_self _ _) hn
      have hset := hq1.set k hlt (n.testBit k)
      have hap := hq0.apart (b' := w.heap.size + 1) (k := k) (by omega) (.bool (n.testBit k))
      have hbn := hbw.setCell (p := ⟨w.heap.size + 1, k, none⟩) (Nat.le_succ _) (.bool (n.testBit k))
      have hset2 : Bools (wr.setCell ⟨w.heap.size + 1, k, none⟩ (.bool (n.testBit k))) (w.heap.size + 1) (fun i => decide (i < k + 1) && n.testBit i) := hset.congr (fun j _ => by
        by_cases e : j = k
        · subst e; simp
        · simp [e, show (j < k + 1) = (j < k) by simp; omega])
      generalize n / 2 ^ k = q at *
      have HD := Lib.hid hd
      have HQ := Lib.hid hq1
      have HS := Lib.hid hset2
      clear hq1 hset hset2 hd hm
      cases ht : n.testBit k with
      | true =>
        rw [ht] at hmi hap hbn HS
        go_wp2_with fail
        exact ⟨⟨k + 1, by omega, by go_num, by rw [HD.out]; simp, hap, HS.out, hbn⟩, by simp [intOf]; omega⟩
      | false =>
        rw [ht] at hmi hap hbn HS
        go_wp2_with fail
        exact ⟨⟨k + 1, by omega, by go_num, by rw [HD.out]; simp, hap, HS.out, hbn⟩, by simp [intOf]; omega⟩
    · have : k = 32 := by omega
      subst this
      have hq2 : Bools wr (w.heap.size + 1) (fun i => n.testBit i) := hq1.congr (fun j hj => by simp [hj])
      have hs := Bools.stored hq0 (fun i => n.testBit i)
      have hb := Below.setCells' hbw (Nat.le_refl w.heap.size) (boolsV fun i => n.testBit i) 0
      go_wp2_with (first
        | (refine wpl_load280 rfl _ rfl _ rfl _ hq2 ?_)
        | (refine wpl_store280 rfl _ _ rfl _ rfl _ rfl _ hq0 ?_))
      refine bodyPost_ret (res187 _ w.heap.size _ _ rfl hs) rfl ?_
      exact ⟨rfl, hb⟩
end Go.Proofs.Ytljbehndnledpaa
