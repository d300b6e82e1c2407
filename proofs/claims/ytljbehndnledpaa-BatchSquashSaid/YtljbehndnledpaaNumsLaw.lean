/- The walk of the law TextNums: it returns true and writes nothing that was there. No condition but that the arguments read as a number and a text. -/
import Derived.Test.YtljbehndnledpaaHex
import Derived.Test.YtljbehndnledpaaRefRead
namespace Go.Proofs.Ytljbehndnledpaa
open Go.RowKit

theorem dec_len (n : Nat) (h : n < 18446744073709551616) : (dec n).length ≤ 20 := by
  have h1 := val_ge (dec n) (digs_dec n) (dec_ne n)
  rcases Nat.lt_or_ge 20 (dec n).length with h2 | h2
  · have h3 := h1 (dec_head n (by omega))
    rw [val_dec] at h3
    have h4 : 10 ^ 20 ≤ 10 ^ ((dec n).length - 1) := Nat.pow_le_pow_right (by omega) (by omega)
    omega
  · exact h2

theorem read_dec (n : Nat) (w : World) (h : n < 18446744073709551616) :
    Calls Try.prog 25 #[.string ⟨(dec n).toArray⟩] w fun e w' => e = .returned (.tuple #[.int .u64 n, .int .i64 0]) ∧ w = w' := by
  have hl := dec_len n h
  have hr := read_any ⟨(dec n).toArray⟩ w (by show (dec n).toArray.size ≤ maxLen; rw [List.size_toArray]; unfold maxLen; omega)
  have e : rd (⟨(dec n).toArray⟩ : ByteArray).data.toList = (n, 0) := rd_dec n h
  rw [e] at hr
  exact hr

set_option maxRecDepth 100000 in
set_option maxHeartbeats 1000000 in
theorem textAlive (w : World) : Calls Try.prog 28 #[] w fun e w' => e = .returned (.bool true) ∧ Below w.heap.size w w' := by
  go_enter Try.func28, Try.ntmps28
  go_wp2_with fail
  refine (hex_any (some ⟨w.heap.size, 0, none⟩) 2 2 [1, 171] _ (Is.mk' rfl fun i hi => ?_) (by omega)).mono ?_
  · match i, hi with
    | 0, _ => simp [go_sem]
    | 1, _ => simp [go_sem]
  · rintro e w1 ⟨rfl, hb1⟩
    have e1 : (⟨(hexL [1, 171]).toArray⟩ : ByteArray) = ⟨#[48, 49, 97, 98]⟩ := by decide +kernel
    rw [e1]
    go_wp2_with fail
    refine (num_any 0 _ (by omega)).mono ?_
    rintro e w2 ⟨rfl, hb2⟩
    have e2 : (⟨(dec 0).toArray⟩ : ByteArray) = ⟨#[48]⟩ := by decide +kernel
    rw [e2]
    go_wp2_with fail
    go_ret
    refine ⟨rfl, ?_⟩
    have h0 : Below w.heap.size w (w.alloc (.cells #[Value.int IntKind.u8 1, Value.int IntKind.u8 171] 5)) := (Below.refl _ _).alloc (Nat.le_refl _) _
    have h1 := h0.trans (hb1.mono (by simp))
    exact h1.trans (hb2.mono h1.size)

set_option maxRecDepth 100000 in
set_option maxHeartbeats 1000000 in
theorem textNumsLaw (n : Nat) (s : ByteArray) (w : World) (hn : n < 18446744073709551616) (hs : s.size ≤ maxLen) :
    Calls Try.prog 5 #[.int .u64 n, .string s] w fun e w' => e = .returned (.bool true) ∧ Below w.heap.size w w' := by
  by_cases hbig : 100 < s.size
  · go_enter Try.func5, Try.ntmps5
    go_wp2_with fail
    go_ret
    exact ⟨rfl, Below.refl _ _⟩
  · go_enter Try.func5, Try.ntmps5
    go_wp2_with fail
    refine (read_any s _ hs).mono ?_
    rintro e w1 ⟨rfl, rfl⟩
    go_wp2_with fail
    refine (refRead_any s _ hs).mono ?_
    rintro e w1 ⟨rfl, rfl⟩
    generalize (rd s.data.toList).1 = m
    generalize (rd s.data.toList).2 = f
    go_wp2_with fail
    refine (num_any n _ hn).mono ?_
    rintro e w1 ⟨rfl, hb1⟩
    go_wp2_with fail
    refine (read_dec n _ hn).mono ?_
    rintro e w2 ⟨rfl, rfl⟩
    go_wp2_with fail
    refine (refNum_any n _ hn).mono ?_
    rintro e w2 ⟨rfl, rfl⟩
    go_wp2_with fail
    refine (textAlive _).mono ?_
    rintro e w2 ⟨rfl, hb2⟩
    go_wp2_with fail
    go_ret
    exact ⟨rfl, hb1.trans (hb2.mono hb1.size)⟩
theorem u64_of_wf {z : Int} (h : (Lit.int .u64 z).wf = true) : ∃ n : Nat, z = (n : Int) ∧ n < 18446744073709551616 := by
  simp [Lit.wf, IntKind.min, IntKind.max, IntKind.signed, IntKind.bits] at h
  exact ⟨z.toNat, by omega, by omega⟩

theorem textNumsLaw' (z : Int) (s : ByteArray) (w : World) (hz : (Lit.int .u64 z).wf = true) (hs : s.size ≤ maxLen) :
    Calls Try.prog 5 #[.int .u64 z, .string s] w fun e w' => e = .returned (.bool true) ∧ Below w.heap.size w w' := by
  obtain ⟨n, rfl, hn⟩ := u64_of_wf hz
  exact textNumsLaw n s w hn hs
end Go.Proofs.Ytljbehndnledpaa
