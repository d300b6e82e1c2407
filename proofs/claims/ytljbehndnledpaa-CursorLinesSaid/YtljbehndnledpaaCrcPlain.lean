/- Plain: the sum of bytes, bit by bit, in two readings that are one. No condition. -/
import Derived.Test.YtljbehndnledpaaBase
namespace Go.Proofs.Ytljbehndnledpaa

/-- One bit turned over the state. -/
def crcBit (n : Nat) : Nat := if n % 2 = 1 then n / 2 ^^^ 3988292384 else n / 2
/-- One bit turned over the state, the bit handed in. -/
def crcBitB (n : Nat) (b : Bool) : Nat := if decide (n % 2 = 1) != b then n / 2 ^^^ 3988292384 else n / 2

def crcBits : Nat → Nat → Nat
  | 0, n => n
  | k + 1, n => crcBit (crcBits k n)
def crcBitsB (c : Nat) : Nat → Nat → Nat
  | 0, n => n
  | k + 1, n => crcBitB (crcBitsB c k n) (c.testBit k)

def crcByte (n : Nat) (c : UInt8) : Nat := crcBits 8 (n ^^^ c.toNat)
def crcGo (n : Nat) (l : List UInt8) : Nat := l.foldl crcByte n
/-- The sum of bytes. -/
def crcL (l : List UInt8) : Nat := crcGo 4294967295 l ^^^ 4294967295

theorem crcBit_xor (s d : Nat) : crcBit (s ^^^ d) = crcBitB s (decide (d % 2 = 1)) ^^^ (d / 2) := by
  have h1 : (s ^^^ d) % 2 = (s % 2 + d % 2) % 2 := by
    have h := Nat.testBit_xor s d 0
    simp only [Nat.testBit_zero] at h
    rcases Nat.mod_two_eq_zero_or_one s with a | a <;> rcases Nat.mod_two_eq_zero_or_one d with b | b <;> rcases Nat.mod_two_eq_zero_or_one (s ^^^ d) with c | c <;> simp [a, b, c] at h ⊢
  have h2 : (s ^^^ d) / 2 = s / 2 ^^^ d / 2 := by
    apply Nat.eq_of_testBit_eq
    intro i
    simp [Nat.testBit_div_two]
  unfold crcBit crcBitB
  rw [h1, h2]
  rcases Nat.mod_two_eq_zero_or_one s with a | a <;> rcases Nat.mod_two_eq_zero_or_one d with b | b <;> simp [a, b]
  · rw [Nat.xor_assoc, Nat.xor_assoc, Nat.xor_comm (d / 2)]
  · rw [Nat.xor_assoc, Nat.xor_assoc, Nat.xor_comm (d / 2)]

theorem crcBits_xor (s c : Nat) : ∀ k, crcBits k (s ^^^ c) = crcBitsB c k s ^^^ (c >>> k)
  | 0 => by simp [crcBits, crcBitsB]
  | k + 1 => by
    rw [crcBits, crcBits_xor s c k, crcBit_xor, crcBitsB]
    congr 1
    · congr 1
      simp [Nat.testBit]

theorem crcByte_eq (n : Nat) (c : UInt8) : crcByte n c = crcBitsB c.toNat 8 n := by
  unfold crcByte
  rw [crcBits_xor]
  have : c.toNat >>> 8 = 0 := by rw [Nat.shiftRight_eq_div_pow]; have := c.toNat_lt; omega
  rw [this, Nat.xor_zero]

theorem crcBit_lt {n : Nat} (h : n < 4294967296) : crcBit n < 4294967296 := by
  unfold crcBit
  split
  · exact Nat.xor_lt_two_pow (n := 32) (by omega) (by omega)
  · omega
theorem crcBitB_lt {n : Nat} (b : Bool) (h : n < 4294967296) : crcBitB n b < 4294967296 := by
  unfold crcBitB
  split
  · exact Nat.xor_lt_two_pow (n := 32) (by omega) (by omega)
  · omega
theorem crcBits_lt {n : Nat} (h : n < 4294967296) : ∀ k, crcBits k n < 4294967296
  | 0 => h
  | k + 1 => crcBit_lt (crcBits_lt h k)
theorem crcBitsB_lt {n : Nat} (c : Nat) (h : n < 4294967296) : ∀ k, crcBitsB c k n < 4294967296
  | 0 => h
  | k + 1 => crcBitB_lt _ (crcBitsB_lt c h k)
theorem crcByte_lt {n : Nat} (c : UInt8) (h : n < 4294967296) : crcByte n c < 4294967296 := by
  unfold crcByte
  exact crcBits_lt (Nat.xor_lt_two_pow (n := 32) (by omega) (by have := c.toNat_lt; omega)) 8
theorem crcGo_lt : ∀ (l : List UInt8) {n : Nat}, n < 4294967296 → crcGo n l < 4294967296
  | [], _, h => h
  | c :: l, _, h => crcGo_lt l (crcByte_lt c h)
theorem crcL_lt (l : List UInt8) : crcL l < 4294967296 := Nat.xor_lt_two_pow (n := 32) (crcGo_lt l (by omega)) (by omega)
end Go.Proofs.Ytljbehndnledpaa
