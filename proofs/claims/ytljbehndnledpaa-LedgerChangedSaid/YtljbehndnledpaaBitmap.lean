/- The walks of bitmap.Map's methods. Conditions: those of each theorem. -/
import Derived.Test.YtljbehndnledpaaExtent
namespace Go.Proofs.Ytljbehndnledpaa
open Go.RowKit

/-- Is a bit of bytes one? -/
def bitOf (T : List UInt8) (i : Nat) : Bool := (T.getD (i / 8) 0).toNat / 2 ^ (i % 8) % 2 == 1
/-- A map of bits in memory: its own block m, the bytes in block g. -/
structure Bmap (w : World) (m g n : Nat) (T : List UInt8) : Prop where
  head : w.heap[m]? = some (.cells #[.slice (some ⟨g, 0, none⟩) T.length T.length, .int .i64 (n : Int)] 211 (0, 0))
  row : w.heap[g]? = some (.cells (cellsOfB T).toArray 5 (0, 0))
  len : T.length = (n + 7) / 8
  lt : m < g ∨ g < m
theorem Bmap.below {w w' : World} {C m g n : Nat} {T : List UInt8} (h : Bmap w m g n T) (hb : Below C w w') (hC : w.heap.size ≤ C) : Bmap w' m g n T :=
  ⟨by rw [hb.block m (by have := (Array.getElem?_eq_some_iff.1 h.head).1; omega)]; exact h.head, by rw [hb.block g (by have := (Array.getElem?_eq_some_iff.1 h.row).1; omega)]; exact h.row, h.len, h.lt⟩

set_option maxHeartbeats 1000000 in
theorem bmIn_any (m n : Nat) (v : Value) (i : Int) (w : World) (h : w.heap[m]? = some (.cells #[v, .int .i64 (n : Int)] 211 (0, 0))) :
    Calls Try.prog 178 #[.pointer (some ⟨m, 0, none⟩), .int .i64 i] w fun e w' => e = .returned (.bool (decide (0 ≤ i) && decide (i < n))) ∧ w = w' := by
  have c1 : w.cell? ⟨m, 1, none⟩ = some (.int .i64 (n : Int)) := by rw [cell_of_row w m 1 _ 211 (0, 0) h]; rfl
  clear h
  by_cases h0 : 0 ≤ i
  · go_enter Try.func178, Try.ntmps178
    go_wp2_with fail
    go_ret
    exact ⟨by simp [h0], rfl⟩
  · go_enter Try.func178, Try.ntmps178
    go_wp2_with fail
    go_ret
    exact ⟨by simp; omega, rfl⟩

theorem and7 (i : Nat) (h : i ≤ 1000000) : bits BinOp.and IntKind.i64 (i : Int) 7 = ((i % 8 : Nat) : Int) := by
  have h7 : (BitVec.ofInt 64 7).toNat = 2 ^ 3 - 1 := by decide
  have key : (BitVec.ofInt 64 (i : Int) &&& BitVec.ofInt 64 7).toNat = ((i : Int) % ((2 ^ 64 : Nat) : Int)).toNat % 2 ^ 3 := by
    rw [BitVec.toNat_and, BitVec.toNat_ofInt, h7, Nat.and_two_pow_sub_one_eq_mod]
  show IntKind.i64.wrap ((BitVec.ofInt 64 (i : Int) &&& BitVec.ofInt 64 7).toNat : Nat) = _
  rw [key, IntKind.wrap_i64]
  omega
theorem and1 (z : Nat) (h : z < 256) : bits BinOp.and IntKind.u8 (z : Int) 1 = ((z % 2 : Nat) : Int) := by
  have h1 : z &&& 1 = z % 2 := Nat.and_one_is_mod z
  rw [← h1]
  go_bits2

set_option maxHeartbeats 1000000 in
theorem bmHas_any (m g n : Nat) (T : List UInt8) (i : Nat) (w : World) (h : Bmap w m g n T) (hi : i < n) (hn : n ≤ 1000000) :
    Calls Try.prog 135 #[.pointer (some ⟨m, 0, none⟩), .int .i64 (i : Int)] w fun e w' => e = .returned (.bool (bitOf T i)) ∧ w = w' := by
  have c0 : w.cell? ⟨m, 0, none⟩ = some (.slice (some ⟨g, 0, none⟩) T.length T.length) := by rw [cell_of_row w m 0 _ 211 (0, 0) h.head]; rfl
  have hin := bmIn_any m n _ (i : Int) w h.head
  have hk : i / 8 < T.length := by rw [h.len]; omega
  obtain ⟨x, hx⟩ : ∃ x, T[i / 8]? = some x := ⟨_, List.getElem?_eq_getElem hk⟩
  have ck : w.cell? ⟨g, i / 8, none⟩ = some (.int .u8 (x.toNat : Int)) := by
    rw [cell_of_row w g (i / 8) _ 5 (0, 0) h.row]
    simp [cellsOfB, hx]
  have hd : (decide ((0 : Int) ≤ (i : Int)) && decide ((i : Int) < (n : Int))) = true := by simp; omega
  rw [hd] at hin
  have HIN := Lib.hid hin
  have hb : bitOf T i = (x.toNat / 2 ^ (i % 8) % 2 == 1) := by unfold bitOf; rw [List.getD_eq_getElem?_getD, hx]; rfl
  rw [hb]
  have hx256 := UInt8.toNat_lt x
  have a1 := and7 i (by omega)
  have hq : x.toNat / 2 ^ (i % 8) < 256 := Nat.lt_of_le_of_lt (Nat.div_le_self _ _) hx256
  have a2 := and1 _ hq
  have hr8 : i % 8 < 8 := Nat.mod_lt _ (by omega)
  generalize i % 8 = r at *
  have r0 : (0 : Int) ≤ (r : Int) := by omega
  have r1 : (r : Int) ≤ 8 := by omega
  have e1 : (x.toNat : Int) / 2 ^ r = ((x.toNat / 2 ^ r : Nat) : Int) := by simp
  generalize x.toNat / 2 ^ r = z at *
  have hkl : ((i / 8 : Nat) : Int) < (T.length : Int) := by omega
  clear h hin hd hb hx
  go_enter Try.func135, Try.ntmps135
  go_wp2_with fail
  refine HIN.out.mono ?_
  rintro e w1 ⟨rfl, rfl⟩
  go_wp2_with fail
  go_ret
  exact ⟨ret_bool (by rw [Bool.eq_iff_iff]; simp; omega), rfl⟩

set_option maxHeartbeats 1000000 in
theorem bmHasOut_any (m g n : Nat) (T : List UInt8) (i : Int) (w : World) (h : Bmap w m g n T) (hi : ¬ (0 ≤ i ∧ i < n)) :
    Calls Try.prog 135 #[.pointer (some ⟨m, 0, none⟩), .int .i64 i] w fun e w' => e = .returned (.bool false) ∧ w = w' := by
  have hin := bmIn_any m n _ i w h.head
  have hd : (decide ((0 : Int) ≤ i) && decide (i < (n : Int))) = false := by
    by_cases h0 : 0 ≤ i
    · have : ¬ i < n := fun h1 => hi ⟨h0, h1⟩
      simp [this]
    · simp [h0]
  rw [hd] at hin
  have HIN := Lib.hid hin
  clear h hin hd hi
  go_enter Try.func135, Try.ntmps135
  go_wp2_with fail
  refine HIN.out.mono ?_
  rintro e w1 ⟨rfl, rfl⟩
  go_wp2_with fail
  go_ret
  exact ⟨rfl, rfl⟩

set_option maxHeartbeats 1000000 in
theorem bmLen_any (m g n : Nat) (T : List UInt8) (w : World) (h : Bmap w m g n T) :
    Calls Try.prog 134 #[.pointer (some ⟨m, 0, none⟩)] w fun e w' => e = .returned (.int .i64 (n : Int)) ∧ w = w' := by
  have c1 : w.cell? ⟨m, 1, none⟩ = some (.int .i64 (n : Int)) := by rw [cell_of_row w m 1 _ 211 (0, 0) h.head]; rfl
  clear h
  go_enter Try.func134, Try.ntmps134
  go_wp2_with fail
  go_ret
  exact ⟨rfl, rfl⟩

/-- Bytes with a bit more. -/
def setBit (T : List UInt8) (i : Nat) : List UInt8 := T.set (i / 8) (UInt8.ofNat ((T.getD (i / 8) 0).toNat ||| 2 ^ (i % 8)))
theorem setBit_len (T : List UInt8) (i : Nat) : (setBit T i).length = T.length := by simp [setBit]
theorem bitOf_set (T : List UInt8) (i j : Nat) (hi : i / 8 < T.length) : bitOf (setBit T i) j = (bitOf T j || decide (i = j)) := by
  have hx : (T.getD (i / 8) 0).toNat < 256 := UInt8.toNat_lt _
  have hor : (T.getD (i / 8) 0).toNat ||| 2 ^ (i % 8) < 256 := Nat.or_lt_two_pow (n := 8) hx (Nat.lt_of_lt_of_le (Nat.pow_lt_pow_right (by omega) (Nat.mod_lt i (by omega))) (by decide))
  have tb : ∀ a k : Nat, (a / 2 ^ k % 2 == 1) = a.testBit k := fun a k => by rw [Nat.testBit_eq_decide_div_mod_eq]; rfl
  by_cases hb : i / 8 = j / 8
  · have e1 : (setBit T i).getD (j / 8) 0 = UInt8.ofNat ((T.getD (i / 8) 0).toNat ||| 2 ^ (i % 8)) := by
      unfold setBit
      rw [← hb]
      simp [List.getD, hi]
    unfold bitOf
    rw [e1, UInt8.toNat_ofNat', Nat.mod_eq_of_lt hor, tb, tb, Nat.testBit_or, ← hb, Nat.testBit_two_pow]
    congr 1
    rw [Bool.eq_iff_iff]
    simp
    omega
  · have e1 : (setBit T i).getD (j / 8) 0 = T.getD (j / 8) 0 := by
      unfold setBit
      simp [List.getD, hb]
    unfold bitOf
    rw [e1]
    have : i ≠ j := fun e => hb (by rw [e])
    simp [this]
end Go.Proofs.Ytljbehndnledpaa
