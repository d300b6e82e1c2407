/- The walks of yesteryearref02.turned and number. Conditions: those of each theorem. -/
import Derived.Test.YtljbehndnledpaaCrcRef
namespace Go.Proofs.Ytljbehndnledpaa
open Go.RowKit

/-- The bits of a number, as 32 bools. -/
def bitsOf (n : Nat) : Array Value := (boolsV fun i => n.testBit i).toArray

theorem res186 (tmps : Array Value) (b : Nat) (f : Nat → Bool) (W : World) (h2 : tmps[2]? = some (.pointer (some ⟨b, 0, none⟩))) (h : Bools W b f) :
    (results Try.f186 tmps).run Try.prog W = .ok (.agg (boolsV f).toArray) W := by
  have h1 := loadVar280 h
  simp [results, Try.results186, asAddr, h2, h1]

theorem testBit_not32 (n j : Nat) (hj : j < 32) : (n ^^^ 4294967295).testBit j = !n.testBit j := by
  rw [Nat.testBit_xor, show (4294967295 : Nat) = 2 ^ 32 - 1 from rfl, Nat.testBit_two_pow_sub_one]
  simp [hj]

set_option maxRecDepth 100000 in
set_option maxHeartbeats 1000000 in
theorem turned_any (n : Nat) (w : World) :
    Calls Try.prog 186 #[.agg (bitsOf n)] w fun e w' => e = .returned (.agg (bitsOf (n ^^^ 4294967295))) ∧ Below w.heap.size w w' := by
  have e0 : (bitsOf (n ^^^ 4294967295)) = (boolsV fun i => !n.testBit i).toArray := by
    unfold bitsOf
    rw [boolsV_congr (fun j hj => testBit_not32 n j hj)]
  rw [e0]
  have q0 := Bools.new w 280 (fun i => n.testBit i) (bitsOf n) rfl
  have hb0 : Below w.heap.size w (w.alloc (.cells (bitsOf n) 280)) := (Below.refl _ _).alloc (Nat.le_refl _) _
  have hsz : (w.alloc (.cells (bitsOf n) 280)).heap.size = w.heap.size + 1 := by simp
  have hbs : (bitsOf n).size = 32 := boolsV_size _
  clear e0
  go_enter Try.func186, Try.ntmps186
  generalize bitsOf n = arr at *
  go_wp2_with fail
  generalize w.alloc (.cells arr 280) = w1 at *
  have q1 := Bools.new w1 280 (fun _ => false) #[.bool false, .bool false, .bool false, .bool false, .bool false, .bool false, .bool false, .bool false, .bool false, .bool false, .bool false, .bool false, .bool false, .bool false, .bool false, .bool false, .bool false, .bool false, .bool false, .bool false, .bool false, .bool false, .bool false, .bool false, .bool false, .bool false, .bool false, .bool false, .bool false, .bool false, .bool false, .bool false] rfl
  have q0' := q0.alloc (.cells #[.bool false, .bool false, .bool false, .bool false, .bool false, .bool false, .bool false, .bool false, .bool false, .bool false, .bool false, .bool false, .bool false, .bool false, .bool false, .bool false, .bool false, .bool false, .bool false, .bool false, .bool false, .bool false, .bool false, .bool false, .bool false, .bool false, .bool false, .bool false, .bool false, .bool false, .bool false, .bool false] 280)
  have hb1 : Below w.heap.size w (w1.alloc (.cells #[.bool false, .bool false, .bool false, .bool false, .bool false, .bool false, .bool false, .bool false, .bool false, .bool false, .bool false, .bool false, .bool false, .bool false, .bool false, .bool false, .bool false, .bool false, .bool false, .bool false, .bool false, .bool false, .bool false, .bool false, .bool false, .bool false, .bool false, .bool false, .bool false, .bool false, .bool false, .bool false] 280)) := hb0.alloc (by omega) _
  rw [hsz] at q1
  generalize w1.alloc (.cells #[.bool false, .bool false, .bool false, .bool false, .bool false, .bool false, .bool false, .bool false, .bool false, .bool false, .bool false, .bool false, .bool false, .bool false, .bool false, .bool false, .bool false, .bool false, .bool false, .bool false, .bool false, .bool false, .bool false, .bool false, .bool false, .bool false, .bool false, .bool false, .bool false, .bool false, .bool false, .bool false] 280) = w2 at *
  clear q0 hb0 hsz
  go_loopw [3] (fun u3 wr => ∃ k : Nat, k ≤ 32 ∧ u3 = .int .i64 k ∧ Bools wr w.heap.size (fun i => if i < k then !n.testBit i else n.testBit i) ∧ Bools wr (w.heap.size + 1) (fun _ => false) ∧ Below w.heap.size w wr) (fun u3 _ => 32 - (intOf u3).toNat)
  case atStart => exact ⟨0, by omega, rfl, q0'.congr (by simp), q1, hb1⟩
  case round =>
    obtain ⟨k, hk, rfl, hq0, hq1, hbw⟩ := hrel
    by_cases hlt : k < 32
    · have hc := (hq0 k hlt).1
      have hf := (hq0 k hlt).2
      simp only [Nat.lt_irrefl, if_false] at hc
      have hset := hq0.set k hlt (!n.testBit k)
      have hap := hq1.apart (b' := w.heap.size) (k := k) (by omega) (.bool (!n.testBit k))
      have hbn := hbw.setCell (p := ⟨w.heap.size, k, none⟩) (Nat.le_refl _) (.bool (!n.testBit k))
      have hset2 : Bools (wr.setCell ⟨w.heap.size, k, none⟩ (.bool (!n.testBit k))) w.heap.size (fun i => if i < k + 1 then !n.testBit i else n.testBit i) := hset.congr (fun j _ => by
        by_cases e : j = k
        · subst e; simp
        · simp [e, show (j < k + 1) = (j < k) by simp; omega])
      have HS := Lib.hid hset2
      clear hset hset2 hq0 hq1
      go_wp2_with fail
      exact ⟨⟨k + 1, by omega, by go_num, HS.out, hap, hbn⟩, by simp [intOf]; omega⟩
    · have : k = 32 := by omega
      subst this
      have hq2 : Bools wr w.heap.size (fun i => !n.testBit i) := hq0.congr (fun j hj => by simp [hj])
      have hs := Bools.stored hq1 (fun i => !n.testBit i)
      have hb := Below.setCells' hbw (Nat.le_succ w.heap.size) (boolsV fun i => !n.testBit i) 0
      go_wp2_with (first
        | (refine wpl_load280 rfl _ rfl _ rfl _ hq2 ?_)
        | (refine wpl_store280 rfl _ _ rfl _ rfl _ rfl _ hq1 ?_))
      refine bodyPost_ret (res186 _ (w.heap.size + 1) _ _ rfl hs) rfl ?_
      exact ⟨rfl, hb⟩

theorem half_next (x j : Nat) : x / 2 ^ j = 2 * (x / 2 ^ (j + 1)) + (if x.testBit j then 1 else 0) := by
  have h := shr_bit x j
  rw [Nat.pow_succ, ← Nat.div_div_eq_div_mul]
  generalize x / 2 ^ j = q at *
  omega

set_option maxRecDepth 100000 in
set_option maxHeartbeats 1000000 in
theorem number_any (n : Nat) (w : World) (hn : n < 4294967296) :
    Calls Try.prog 188 #[.agg (bitsOf n)] w fun e w' => e = .returned (.int .u32 (n : Int)) ∧ Below w.heap.size w w' := by
  have q0 := Bools.new w 280 (fun i => n.testBit i) (bitsOf n) rfl
  have hb0 : Below w.heap.size w (w.alloc (.cells (bitsOf n) 280)) := (Below.refl _ _).alloc (Nat.le_refl _) _
  have hbs : (bitsOf n).size = 32 := boolsV_size _
  go_enter Try.func188, Try.ntmps188
  generalize bitsOf n = arr at *
  go_wp2_with fail
  generalize w.alloc (.cells arr 280) = w1 at *
  go_loop [3, 4] (fun u3 u4 => (∃ j : Nat, j < 32 ∧ u4 = .int .i64 j ∧ u3 = .int .u32 (n / 2 ^ (j + 1) : Nat)) ∨ (u4 = .int .i64 (-1) ∧ u3 = .int .u32 (n : Nat))) (fun _ u4 => (intOf u4 + 1).toNat)
  case atStart => exact .inl ⟨31, by omega, rfl, by rw [Nat.div_eq_of_lt (by omega)]; rfl⟩
  case round =>
    rcases hrel with ⟨j, hj, rfl, rfl⟩ | ⟨rfl, rfl⟩
    · have hc := (q0 j hj).1
      simp only at hc
      have hx := half_next n j
      have hd : n / 2 ^ j < 4294967296 := Nat.lt_of_le_of_lt (Nat.div_le_self _ _) hn
      obtain ⟨r, hr⟩ : ∃ r, r = n / 2 ^ j := ⟨_, rfl⟩
      rw [← hr] at hx hd
      have HR := Lib.hid hr
      clear hr
      generalize n / 2 ^ (j + 1) = q at *
      cases ht : n.testBit j with
      | true =>
        rw [ht] at hc hx
        simp only [if_true] at hx
        have hw1 : IntKind.u32.wrap (2 * (q : Int)) = 2 * (q : Int) := by rw [IntKind.wrap_u32']; omega
        have hw2 : IntKind.u32.wrap (2 * (q : Int) + 1) = 2 * (q : Int) + 1 := by rw [IntKind.wrap_u32']; omega
        have hxi : (r : Int) = 2 * (q : Int) + 1 := by omega
        clear hx
        go_wp2_with fail
        cases j with
        | zero => exact ⟨.inr ⟨by go_num, by rw [← hxi, HR.out]; simp⟩, by simp [intOf]⟩
        | succ j => exact ⟨.inl ⟨j, by omega, by go_num, by rw [← hxi, HR.out]⟩, by simp [intOf]; omega⟩
      | false =>
        rw [ht] at hc hx
        simp only [Bool.false_eq_true, if_false] at hx
        have hw1 : IntKind.u32.wrap (2 * (q : Int)) = 2 * (q : Int) := by rw [IntKind.wrap_u32']; omega
        have hxi : (r : Int) = 2 * (q : Int) := by omega
        clear hx
        go_wp2_with fail
        cases j with
        | zero => exact ⟨.inr ⟨by go_num, by rw [← hxi, HR.out]; simp⟩, by simp [intOf]⟩
        | succ j => exact ⟨.inl ⟨j, by omega, by go_num, by rw [← hxi, HR.out]⟩, by simp [intOf]; omega⟩
    · go_wp2_with fail
      go_ret
      exact ⟨rfl, hb0⟩
end Go.Proofs.Ytljbehndnledpaa
