/- The walks of what slices' sort draws by (math/bits.Len at small numbers, nextPowerOfTwo, xorshift.Next). Conditions: those of each theorem. -/
import Derived.Test.YtejhbaeeaejcaaaGreatM13
import Derived.Test.YtejhbaeeaejcaaaGreatM18
import Derived.Lib.Strings
import Derived.Lib.Slices
import Derived.Lib.Small
import Derived.Lib.Walk
import Derived.Lib.BitFns
import Derived.Laws.Bits64
import Derived.Sort.Row
import Derived.Laws.Bits64b
import Derived.Test.YtejhbaeeaejcaaaGreatM17
namespace Go.Proofs.YtejhbaeeaejcaaaGreat
open Go.RowKit

theorem twoPow_len (x : Nat) (h0 : 0 < x) (h : x < 1000001) : 2 ^ Lib.bitLen x ≤ 2 * x := by
  induction x using Nat.strongRecOn with
  | _ x ih =>
    rw [Lib.bitLen_half x (by omega) (by omega)]
    by_cases h2 : 2 ≤ x
    · have := ih (x / 2) (by omega) (by omega) (by omega)
      rw [Nat.pow_add]
      omega
    · obtain rfl : x = 1 := by omega
      decide

theorem len64_n (n : Nat) (hn : n ≤ 1000000) (w : World) : Calls Tryz.prog 131 #[.int .u64 (n : Int)] w fun e w' => e = .returned (.int .i64 (Lib.bitLen n : Nat)) ∧ w' = w := by
  have h := len64_x (n : Int) w (by omega) (by omega)
  rwa [Int.toNat_natCast] at h

set_option maxRecDepth 100000 in
theorem bitsLen_n (n : Nat) (hn : n ≤ 1000000) (w : World) : Calls Tryz.prog 113 #[.int .u64 (n : Int)] w fun e w' => e = .returned (.int .i64 (Lib.bitLen n : Nat)) ∧ w' = w := by
  go_enter Tryz.func113, Tryz.ntmps113
  go_wp2_with (first | (go_at_call 131; refine (len64_n n hn _).mono ?_; rintro e w' ⟨rfl, rfl⟩))
  go_ret
  exact ⟨rfl, rfl⟩

set_option maxRecDepth 100000 in
theorem nextPow_n (n : Nat) (h0 : 0 < n) (hn : n ≤ 1000000) (w : World) : Calls Tryz.prog 135 #[.int .i64 (n : Int)] w fun e w' => ∃ m : Nat, e = .returned (.int .u64 (m : Int)) ∧ 0 < m ∧ m ≤ 2 * n ∧ w' = w := by
  have hk := twoPow_len n h0 (by omega)
  have hp := Nat.two_pow_pos (Lib.bitLen n)
  have hk2 : Lib.bitLen n ≤ 63 := by
    have := Lib.bitLen_le n 63 (by omega) (by omega)
    omega
  have hw : IntKind.u64.wrap ((2 : Int) ^ Lib.bitLen n) = ((2 ^ Lib.bitLen n : Nat) : Int) := by
    rw [IntKind.wrap_u64, show ((2 : Int) ^ Lib.bitLen n) = ((2 ^ Lib.bitLen n : Nat) : Int) by push_cast; rfl]
    generalize (2 : Nat) ^ Lib.bitLen n = p at hk
    omega
  have HK := Lib.hid (And.intro hk hp)
  have HL := Lib.hid (bitsLen_n n hn w)
  clear hk hp
  generalize (2 : Nat) ^ Lib.bitLen n = m at *
  go_enter Tryz.func135, Tryz.ntmps135
  go_wp2_with (first | (go_at_call 113; refine HL.out.mono ?_; rintro e w' ⟨rfl, rfl⟩))
  go_ret
  exact ⟨m, rfl, HK.out.2, HK.out.1, rfl⟩

/-- A cell that holds a random number. -/
def Sx (sw : Nat) (w : World) : Prop := ∃ (X : Nat) (cs : Array Value) (ty : TypeId), X < 18446744073709551616 ∧ w.heap[sw]? = some (.cells cs ty (0, 0)) ∧ cs[0]? = some (.int .u64 (X : Int))
theorem Sx.cell {sw : Nat} {w : World} (h : Sx sw w) : ∃ X : Nat, X < 18446744073709551616 ∧ w.cell? ⟨sw, 0, none⟩ = some (.int .u64 (X : Int)) ∧ w.frozen? ⟨sw, 0, none⟩ = false := by
  obtain ⟨z, cs, ty, h0, h1, h2⟩ := h
  exact ⟨z, h0, by simp [World.cell?, h1, h2], by simp [World.frozen?, h1]⟩
theorem Sx.grown {sw g : Nat} {w w' : World} (h : Sx sw w) (hb : w.grownBy w' (some g)) (hne : g ≠ sw) : Sx sw w' := by
  obtain ⟨X, cs, ty, h0, h1, h2⟩ := h
  exact ⟨X, cs, ty, h0, (hb.block sw (Array.getElem?_eq_some_iff.1 h1).1 (by simpa using fun e => hne e.symm)).trans h1, h2⟩
theorem Sx.set {sw : Nat} {w : World} (h : Sx sw w) (X : Nat) (hX : X < 18446744073709551616) : Sx sw (w.setCell ⟨sw, 0, none⟩ (.int .u64 (X : Int))) := by
  obtain ⟨Y, cs, ty, h0, h2, h3⟩ := h
  have hl : 0 < cs.size := by
    rcases Nat.eq_zero_or_pos cs.size with h0 | h0
    · simp [Array.getElem?_eq_none (by omega : cs.size ≤ 0)] at h3
    · exact h0
  exact ⟨X, _, ty, hX, heap_setCell_same w sw 0 cs ty (.int .u64 (X : Int)) h2, by simp [hl]⟩

theorem setCell_twice (w : World) (blk off : Nat) (v v' : Value) : (w.setCell ⟨blk, off, none⟩ v).setCell ⟨blk, off, none⟩ v' = w.setCell ⟨blk, off, none⟩ v' := by
  rw [Go.Sort.setCell_eq, Go.Sort.setCell_eq, Go.Sort.mapBlock_mapBlock, Go.Sort.setCell_eq]
  congr 1
  funext c
  simp

set_option maxHeartbeats 4000000 in
set_option maxRecDepth 100000 in
theorem xorNext_n (sw : Nat) (w : World) (h : Sx sw w) : Calls Tryz.prog 136 #[.pointer (some ⟨sw, 0, none⟩)] w fun e w' => ∃ X : Nat, X < 18446744073709551616 ∧ e = .returned (.int .u64 (X : Int)) ∧ Sx sw w' ∧ w.grownBy w' (some sw) := by
  have HX := Lib.hid h
  obtain ⟨X, hX, hc, hf⟩ := h.cell
  obtain ⟨A, hA⟩ : ∃ A : Nat, A = X ^^^ (X * 8192 % 18446744073709551616) := ⟨_, rfl⟩
  obtain ⟨B, hB⟩ : ∃ B : Nat, B = A ^^^ (A / 128) := ⟨_, rfl⟩
  obtain ⟨C, hC⟩ : ∃ C : Nat, C = B ^^^ (B * 131072 % 18446744073709551616) := ⟨_, rfl⟩
  have lA : A < 18446744073709551616 := by rw [hA]; exact Nat.xor_lt_two_pow (n := 64) (by omega) (by omega)
  have lB : B < 18446744073709551616 := by rw [hB]; exact Nat.xor_lt_two_pow (n := 64) (by omega) (by omega)
  have lC : C < 18446744073709551616 := by rw [hC]; exact Nat.xor_lt_two_pow (n := 64) (by omega) (by omega)
  have e1 : bits .xor .u64 (X : Int) (IntKind.u64.wrap ((X : Int) * 8192)) = (A : Int) := by
    rw [IntKind.wrap_u64, show ((X : Int) * 8192 % 18446744073709551616) = ((X * 8192 % 18446744073709551616 : Nat) : Int) by omega, bits_xor_u64_nat _ _ hX (by omega), hA]
  have e2 : bits .xor .u64 (A : Int) ((A : Int) / 128) = (B : Int) := by
    rw [show ((A : Int) / 128) = ((A / 128 : Nat) : Int) by omega, bits_xor_u64_nat _ _ lA (by omega), hB]
  have e3 : bits .xor .u64 (B : Int) (IntKind.u64.wrap ((B : Int) * 131072)) = (C : Int) := by
    rw [IntKind.wrap_u64, show ((B : Int) * 131072 % 18446744073709551616) = ((B * 131072 % 18446744073709551616 : Nat) : Int) by omega, bits_xor_u64_nat _ _ lB (by omega), hC]
  clear hA hB hC h
  have HS := Lib.hid (HX.out.set C lC)
  have hss : ∀ v v', (w.setCell ⟨sw, 0, none⟩ v).setCell ⟨sw, 0, none⟩ v' = w.setCell ⟨sw, 0, none⟩ v' := setCell_twice w sw 0
  go_enter Tryz.func136, Tryz.ntmps136
  go_wp2
  go_region
  all_goals go_wp2
  all_goals go_region
  all_goals go_wp2
  all_goals go_region
  all_goals go_wp2
  go_ret
  exact ⟨C, lC, rfl, HS.out, by have := grown_cell w ⟨sw, 0, none⟩ (.int .u64 (C : Int)); exact ⟨this.os, this.tape, this.output, this.size, this.block⟩⟩
end Go.Proofs.YtejhbaeeaejcaaaGreat
/- The walks of slices' ordered sort at []uint32 (3: patterns broken). Conditions: those of each theorem. -/
namespace Go.Proofs.YtejhbaeeaejcaaaGreat
open Go.RowKit

def StX32 (g sw : Nat) (w0 : World) (xs0 : List Nat) (w : World) : Prop := St32 g w0 xs0 w ∧ Sx sw w
theorem StX32.drew {g sw : Nat} {w0 w : World} {xs0 : List Nat} (h : StX32 g sw w0 xs0 w) : StX32 g sw w0 xs0 w.drew := ⟨h.1.drew, h.2⟩
theorem StX32.drewN {g sw : Nat} {w0 w : World} {xs0 : List Nat} (h : StX32 g sw w0 xs0 w) (q : Nat) : StX32 g sw w0 xs0 (w.drewN q) := by
  induction q with
  | zero => exact h
  | succ q ih => exact ih.drew

set_option maxRecDepth 100000 in
set_option maxHeartbeats 8000000 in
theorem breakPatterns_u32 {g n c : Nat} {w0 w : World} {xs0 : List Nat} (h : St32 g w0 xs0 w) (hn : xs0.length = n) (hn2 : n ≤ 1000000) (a b : Nat) (hab : a + 12 < b) (hb : b ≤ n) :
    Calls Tryz.prog 123 #[.slice (some ⟨g, 0, none⟩) n c, .int .i64 (a : Int), .int .i64 (b : Int)] w fun e w' => e = .returned (.tuple #[]) ∧ St32 g w0 xs0 w' := by
  have hgl := h.glt
  have hsz : w0.heap.size ≤ w.heap.size := by obtain ⟨_, _, _, h3⟩ := h; exact h3.size
  obtain ⟨l, hl⟩ : ∃ l, b = a + l := ⟨b - a, by omega⟩
  obtain ⟨q, hq⟩ : ∃ q, q = l / 4 := ⟨_, rfl⟩
  obtain ⟨j, hj⟩ : ∃ j, j + 1 = a + 2 * q := ⟨a + 2 * q - 1, by omega⟩
  have hA : St32 g w0 xs0 (w.alloc (.cells #[.int .u64 (l : Int)] 210)) := h.heap ((Below.refl _ _).alloc (Nat.le_refl _) _)
  have hP : Sx w.heap.size (w.alloc (.cells #[.int .u64 (l : Int)] 210)) := ⟨l, _, _, by omega, heap_alloc_new w _, rfl⟩
  have HB := Lib.hid (And.intro hn (And.intro hsz (show g ≠ w.heap.size by omega)))
  have HW := Lib.hid (And.intro hA hP)
  have HNP := Lib.hid (nextPow_n l (by omega) (by omega) (w.alloc (.cells #[.int .u64 (l : Int)] 210)))
  have s0 : IntKind.i64.wrap ((b : Int) - (a : Int)) = (l : Int) := by rw [IntWalk.i64_in _ (by omega)]; omega
  have l0 : 0 ≤ (l : Int) := by omega
  have s00 : IntKind.u64.wrap (l : Int) = (l : Int) := by rw [IntKind.wrap_u64]; omega
  have s1 : (l : Int) / 4 = (q : Int) := by omega
  have s2 : IntKind.i64.wrap (q : Int) = (q : Int) := IntWalk.i64_in _ (by omega)
  have s3 : IntKind.i64.wrap ((q : Int) * 2) = (q : Int) * 2 := IntWalk.i64_in _ (by omega)
  have s6 : IntKind.i64.wrap ((a : Int) + (q : Int) * 2) = ((j + 1 : Nat) : Int) := by rw [IntWalk.i64_in _ (by omega)]; omega
  have s7 : IntKind.i64.wrap (((j + 1 : Nat) : Int) - 1) = (j : Int) := by rw [IntWalk.i64_in _ (by omega)]; omega
  have s8 : IntKind.i64.wrap (((j + 1 : Nat) : Int) + 1) = ((j + 2 : Nat) : Int) := by rw [IntWalk.i64_in _ (by omega)]; omega
  have g8 : 8 ≤ (l : Int) := by omega
  have HI := Lib.hid (show 12 < l ∧ a + l = b ∧ b ≤ n ∧ j + 3 < b ∧ n ≤ 1000000 by omega)
  clear h hn hn2 hab hb hgl hsz hA hP hl hq hj
  obtain ⟨j1, hj1⟩ : ∃ j1, j1 = j + 1 := ⟨_, rfl⟩
  obtain ⟨j2, hj2⟩ : ∃ j2, j2 = j + 2 := ⟨_, rfl⟩
  rw [← hj1] at s6 s7 s8
  rw [← hj2] at s8
  have HJ := Lib.hid (And.intro hj1 hj2)
  clear hj1 hj2
  go_enter Tryz.func123, Tryz.ntmps123
  go_upto_region 3 with fail
  generalize w.alloc (.cells #[.int .u64 (l : Int)] 210) = wA at *
  generalize w.heap.size = sw at *
  go_wp2_with fail
  refine HNP.out.mono ?_
  rintro e w1 ⟨m, rfl, hm0, hm1, rfl⟩
  have HM := Lib.hid (And.intro hm0 hm1)
  have sm : IntKind.u64.wrap ((m : Int) - 1) = ((m - 1 : Nat) : Int) := by rw [IntKind.wrap_u64]; have := HI.out; omega
  clear hm0 hm1
  obtain ⟨m', hm'⟩ : ∃ m', m' = m - 1 := ⟨_, rfl⟩
  rw [← hm'] at sm
  have HM' := Lib.hid hm'
  clear hm'
  go_wp2_with fail
  go_loopw [9] (fun u9 wr => ∃ i : Nat, i ≤ j + 3 ∧ u9 = .int .i64 i ∧ StX32 g sw w0 xs0 wr) (fun u9 _ => j + 4 - (intOf u9).toNat)
  case atStart => exact ⟨j, by omega, rfl, HW.out⟩
  case round =>
    obtain ⟨i, hi, rfl, hS⟩ := hrel
    have HS := Lib.hid hS
    clear hS
    by_cases hlt : i ≤ j2
    · have g0 : (i : Int) ≤ (j2 : Int) := by omega
      have si : IntKind.i64.wrap ((i : Int) + 1) = ((i + 1 : Nat) : Int) := by rw [IntWalk.i64_in _ (by have := HI.out; omega)]; omega
      have HC := Lib.hid (xorNext_n sw wr HS.out.2)
      have HL := Lib.hid hlt
      clear hlt
      go_wp2_with fail
      refine HC.out.mono ?_
      rintro e w2 ⟨X, hX, rfl, hsx, hgr⟩
      have HS2 := Lib.hid (show StX32 g sw w0 xs0 w2 from ⟨HS.out.1.sw HB.out.2.1 HB.out.2.2 hgr, hsx⟩)
      clear hsx hgr
      obtain ⟨y, hy⟩ : ∃ y, y = X &&& m' := ⟨_, rfl⟩
      have hyl : y < 2 * l := by
        have h1 : X &&& m' ≤ m' := Nat.and_le_right
        have := HM.out; have := HM'.out
        omega
      have sa : bits .and .u64 (X : Int) (m' : Int) = (y : Int) := by
        rw [bits_and_u64_nat _ _ hX (by have := HM.out; have := HM'.out; have := HI.out; omega), hy]
      have sc : IntKind.i64.wrap (y : Int) = (y : Int) := IntWalk.i64_in _ (by have := HI.out; omega)
      have HY := Lib.hid hyl
      clear hy hyl hX
      go_upto_if 43 with fail
      go_cut [10] from 43 to 46 (fun u10 wx => ∃ o : Nat, o < l ∧ u10 = .int .i64 o ∧ wx = w2)
      case first =>
        by_cases hge : l ≤ y
        · have g1 : (l : Int) ≤ (y : Int) := by omega
          have se : IntKind.i64.wrap ((y : Int) - (l : Int)) = ((y - l : Nat) : Int) := by rw [IntWalk.i64_in _ (by have := HI.out; have := HY.out; omega)]; omega
          go_wp2_with fail
          go_meet
          case rel => exact ⟨y - l, by have := HY.out; omega, rfl, rfl⟩
        · have g1 : ¬ (l : Int) ≤ (y : Int) := by omega
          go_wp2_with fail
          go_meet
          case rel => exact ⟨y, by omega, rfl, rfl⟩
      case rest =>
        obtain ⟨o, ho, rfl, rfl⟩ := hcut
        obtain ⟨p, hp⟩ : ∃ p, p = a + o := ⟨_, rfl⟩
        have t1 : IntKind.i64.wrap ((a : Int) + (o : Int)) = (p : Int) := by rw [IntWalk.i64_in _ (by have := HI.out; omega)]; omega
        have i0 : (0 : Int) ≤ (i : Int) := by omega
        have i1 : (i : Int) < (n : Int) := by have := HI.out; have := HL.out; have := HJ.out; omega
        have i2 : (0 : Int) ≤ (p : Int) := by omega
        have i3 : (p : Int) < (n : Int) := by have := HI.out; omega
        obtain ⟨z0, z1, e0, e1, f0, f1, f2, e2, hS4⟩ := HS2.out.1.swap i p (by have := HB.out.1; have := HI.out; have := HL.out; have := HJ.out; omega) (by have := HB.out.1; have := HI.out; omega)
        have HS4 := Lib.hid (show StX32 g sw w0 xs0 _ from ⟨hS4, HS2.out.2.grown ((grown_cell wc ⟨g, i, none⟩ (.int .u32 (z1 : Int))).trans (grown_cell (wc.setCell ⟨g, i, none⟩ (.int .u32 (z1 : Int))) ⟨g, p, none⟩ (.int .u32 (z0 : Int)))) HB.out.2.2⟩)
        clear hS4 hp ho
        go_wp2_with fail
        go_region_law fail
        all_goals
          go_wp2_with fail
          go_roundw
          case rel => exact ⟨i + 1, by have := HL.out; have := HJ.out; omega, rfl, by first | exact HS4.out | exact HS4.out.drew | exact HS4.out.drewN _⟩
          case measure => have := HL.out; have := HJ.out; simp [intOf]; omega
    · have g0 : ¬ (i : Int) ≤ (j2 : Int) := by omega
      go_wp2_with fail
      go_end0
      exact ⟨rfl, HS.out.1⟩
end Go.Proofs.YtejhbaeeaejcaaaGreat
/- The walks of slices' ordered sort at []uint32 (4: partial insertion). Conditions: those of each theorem. -/
namespace Go.Proofs.YtejhbaeeaejcaaaGreat
open Go.RowKit

def BoolR32 (e : Ending) : Prop := ∃ r : Bool, e = .returned (.bool r)

set_option maxRecDepth 100000 in
set_option maxHeartbeats 16000000 in
theorem partialIns_u32 {g n c : Nat} {w0 w : World} {xs0 : List Nat} (h : St32 g w0 xs0 w) (hn : xs0.length = n) (hn2 : n ≤ 1000000) (a b : Nat) (hab : a + 12 < b) (hb : b ≤ n) :
    Calls Tryz.prog 126 #[.slice (some ⟨g, 0, none⟩) n c, .int .i64 (a : Int), .int .i64 (b : Int)] w fun e w' => BoolR32 e ∧ St32 g w0 xs0 w' := by
  have H := Lib.hid h
  have HB := Lib.hid (And.intro hn (And.intro hn2 (And.intro hab hb)))
  have s0 : IntKind.i64.wrap ((a : Int) + 1) = ((a + 1 : Nat) : Int) := by rw [IntWalk.i64_in _ (by omega)]; omega
  obtain ⟨l, hl⟩ : ∃ l, b = a + l := ⟨b - a, by omega⟩
  have sl : IntKind.i64.wrap ((b : Int) - (a : Int)) = (l : Int) := by rw [IntWalk.i64_in _ (by omega)]; omega
  have HL := Lib.hid hl
  clear h hn hn2 hab hb hl
  obtain ⟨a1, ha1⟩ : ∃ a1, a1 = a + 1 := ⟨_, rfl⟩
  rw [← ha1] at s0
  have HA := Lib.hid ha1
  clear ha1
  go_enter Tryz.func126, Tryz.ntmps126
  go_wp2_with fail
  go_loopw [7, 8, 9, 10] (fun u7 u8 _ _ wr => ∃ i s : Nat, a + 1 ≤ i ∧ i ≤ b ∧ s ≤ 5 ∧ u7 = .int .i64 i ∧ u8 = .int .i64 s ∧ St32 g w0 xs0 wr) (fun _ u8 _ _ _ => 5 - (intOf u8).toNat)
  case atStart => exact ⟨a1, 0, by have := HA.out; omega, by have := HA.out; have := HB.out; omega, by omega, rfl, rfl, H.out⟩
  case round =>
    obtain ⟨i, s, hi1, hi2, hs, rfl, rfl, hS⟩ := hrel
    have HS := Lib.hid hS
    have HI := Lib.hid (And.intro hi1 hi2)
    clear hS hi1 hi2 s0
    by_cases hs5 : s < 5
    · have g0 : (s : Int) < 5 := by omega
      have ss : IntKind.i64.wrap ((s : Int) + 1) = ((s + 1 : Nat) : Int) := by rw [IntWalk.i64_in _ (by omega)]; omega
      rename World => wo
      go_upto_block 2 with fail
      go_cut [7] from 17 to 34 (fun u7 wx => ∃ k : Nat, a + 1 ≤ k ∧ k ≤ b ∧ u7 = .int .i64 k ∧ St32 g w0 xs0 wx)
      case first =>
        go_wp2_with fail
        go_loopw [7] (fun u7 wr => ∃ k : Nat, a + 1 ≤ k ∧ k ≤ b ∧ u7 = .int .i64 k ∧ St32 g w0 xs0 wr) (fun u7 _ => b - (intOf u7).toNat)
        case atStart => exact ⟨i, HI.out.1, HI.out.2, rfl, HS.out⟩
        case round =>
          obtain ⟨k, hk1, hk2, rfl, hS⟩ := hrel
          have HS2 := Lib.hid hS
          clear hS
          by_cases hkb : k < b
          · obtain ⟨m, hm⟩ : ∃ m, m + 1 = k := ⟨k - 1, by omega⟩
            obtain ⟨x, hx, -⟩ := HS2.out.at k (by have := HB.out; omega)
            obtain ⟨y, hy, -⟩ := HS2.out.at m (by have := HB.out; omega)
            have sm : IntKind.i64.wrap ((k : Int) - 1) = (m : Int) := by rw [IntWalk.i64_in _ (by have := HB.out; omega)]; omega
            have sk : IntKind.i64.wrap ((k : Int) + 1) = ((k + 1 : Nat) : Int) := by rw [IntWalk.i64_in _ (by have := HB.out; omega)]; omega
            have b0 : (0 : Int) ≤ (m : Int) := by omega
            have b1 : (m : Int) < (n : Int) := by have := HB.out; omega
            have b2 : (0 : Int) ≤ (k : Int) := by omega
            have b3 : (k : Int) < (n : Int) := by have := HB.out; omega
            have b4 : (k : Int) < (b : Int) := by omega
            have HK := Lib.hid (And.intro hk1 hkb)
            clear hm hk1 hk2 hkb
            go_wp2_with fail
            go_quiet ((go_at_call 127; exact Calls.quiet_of_same (less_u32 _ _ _)))
            have HS3 := Lib.hid (HS2.out.drewN nq)
            generalize decide (x < y) = bl at *
            generalize wr.drewN nq = wq at *
            clear hx hy
            cases bl with
            | true =>
              go_wp2_with fail
              go_meet
              case rel => exact ⟨k, HK.out.1, by have := HK.out; omega, rfl, HS3.out⟩
            | false =>
              go_wp2_with fail
              go_roundw
              case rel => exact ⟨k + 1, by have := HK.out; omega, by have := HK.out; omega, rfl, HS3.out⟩
              case measure => have := HK.out; simp [intOf]; omega
          · have b4 : ¬ (k : Int) < (b : Int) := by omega
            go_wp2_with fail
            go_quiet (fail)
            have HS3 := Lib.hid (HS2.out.drewN nq)
            go_wp2_with fail
            go_meet
            case rel => exact ⟨k, hk1, hk2, rfl, HS3.out⟩
      case rest =>
        obtain ⟨k, hk1, hk2, rfl, hS⟩ := hcut
        have HS2 := Lib.hid hS
        have HK := Lib.hid (And.intro hk1 hk2)
        clear hS hk1 hk2
        by_cases hkb : k = b
        · have hkb' : (k : Int) = (b : Int) := by omega
          clear hkb
          go_wp2_with fail
          go_ret
          exact ⟨⟨true, rfl⟩, HS2.out⟩
        · have hkb' : ¬ (k : Int) = (b : Int) := by omega
          have hkbb : ((k : Int) == (b : Int)) = false := by simpa using hkb'
          by_cases h50 : l < 50
          · have h50' : (l : Int) < 50 := by omega
            go_wp2_with fail
            go_ret
            exact ⟨⟨false, rfl⟩, HS2.out⟩
          · have h50' : ¬ (l : Int) < 50 := by omega
            obtain ⟨m, hm⟩ : ∃ m, m + 1 = k := ⟨k - 1, by have := HK.out; omega⟩
            have HK2 := Lib.hid (show m + 1 = k ∧ a ≤ m ∧ k < b by have := HK.out; omega)
            have sm : IntKind.i64.wrap ((k : Int) - 1) = (m : Int) := by rw [IntWalk.i64_in _ (by have := HB.out; have := HK.out; omega)]; omega
            have sk : IntKind.i64.wrap ((k : Int) + 1) = ((k + 1 : Nat) : Int) := by rw [IntWalk.i64_in _ (by have := HB.out; have := HK.out; omega)]; omega
            have b0 : (0 : Int) ≤ (m : Int) := by omega
            have b1 : (m : Int) < (n : Int) := by have := HB.out; have := HK2.out; omega
            have b2 : (0 : Int) ≤ (k : Int) := by omega
            have b3 : (k : Int) < (n : Int) := by have := HB.out; have := HK2.out; omega
            obtain ⟨d1, hd1⟩ : ∃ d1, k = a + d1 := ⟨k - a, by have := HK2.out; omega⟩
            have sd1 : IntKind.i64.wrap ((k : Int) - (a : Int)) = (d1 : Int) := by rw [IntWalk.i64_in _ (by have := HB.out; have := HK.out; omega)]; omega
            obtain ⟨d2, hd2⟩ : ∃ d2, b = k + d2 := ⟨b - k, by have := HK2.out; omega⟩
            have sd2 : IntKind.i64.wrap ((b : Int) - (k : Int)) = (d2 : Int) := by rw [IntWalk.i64_in _ (by have := HB.out; have := HK.out; omega)]; omega
            clear hm hkb h50 hd1 hd2
            obtain ⟨k1, hk1⟩ : ∃ k1, k1 = k + 1 := ⟨_, rfl⟩
            rw [← hk1] at sk
            have HK1 := Lib.hid hk1
            clear hk1
            obtain ⟨z0, z1, e0, e1, f0, f1, f2, e2, hS4⟩ := HS2.out.swap k m (by have := HB.out; have := HK2.out; omega) (by have := HB.out; have := HK2.out; omega)
            have HS4 := Lib.hid hS4
            clear hS4
            go_upto_region 11 with fail
            go_cut [] from 42 to 57 (fun wx => St32 g w0 xs0 wx)
            case first =>
              go_region_law fail
              all_goals
                go_wp2_with fail
                go_meet
                case rel => exact (by first | exact HS4.out | exact HS4.out.drew | exact HS4.out.drewN _)
            case rest =>
              have HS5 := Lib.hid hcut
              clear hcut e0 e1 f0 f1 f2 e2 HS4
              rename World => w5
              go_upto_if 61 with fail
              go_cut [9] from 61 to 94 (fun _ wx => St32 g w0 xs0 wx)
              case first =>
                by_cases h2 : 2 ≤ d1
                · have h2' : (2 : Int) ≤ (d1 : Int) := by omega
                  go_wp2_with fail
                  go_loopw [9] (fun u9 wr => ∃ j : Nat, j < n ∧ u9 = .int .i64 j ∧ St32 g w0 xs0 wr) (fun u9 _ => (intOf u9).toNat)
                  case atStart => exact ⟨m, by have := HB.out; have := HK2.out; omega, rfl, HS5.out⟩
                  case round =>
                    obtain ⟨j, hj, rfl, hS⟩ := hrel
                    have HS6 := Lib.hid hS
                    clear hS
                    by_cases hj1 : 1 ≤ j
                    · obtain ⟨q, hq⟩ : ∃ q, q + 1 = j := ⟨j - 1, by omega⟩
                      obtain ⟨x, hx, -⟩ := HS6.out.at j (by have := HB.out; omega)
                      obtain ⟨y, hy, -⟩ := HS6.out.at q (by have := HB.out; omega)
                      have t1 : IntKind.i64.wrap ((j : Int) - 1) = (q : Int) := by rw [IntWalk.i64_in _ (by have := HB.out; omega)]; omega
                      have c0 : (0 : Int) ≤ (q : Int) := by omega
                      have c1 : (q : Int) < (n : Int) := by omega
                      have c2 : (0 : Int) ≤ (j : Int) := by omega
                      have c3 : (j : Int) < (n : Int) := by omega
                      have c4 : (1 : Int) ≤ (j : Int) := by omega
                      have HQ := Lib.hid (And.intro hq hj)
                      clear hq hj hj1
                      go_wp2_with fail
                      go_quiet ((go_at_call 127; exact Calls.quiet_of_same (less_u32 _ _ _)))
                      have hS7 := HS6.out.drewN nq
                      generalize decide (x < y) = bl at *
                      obtain ⟨z0, z1, e0, e1, f0, f1, f2, e2, hS4⟩ := hS7.swap j q (by have := HB.out; have := HQ.out; omega) (by have := HB.out; have := HQ.out; omega)
                      have HS4 := Lib.hid hS4
                      have HS7 := Lib.hid hS7
                      clear hS4 hS7 hx hy
                      generalize wr.drewN nq = wq at *
                      cases bl with
                      | false =>
                        go_wp2_with fail
                        go_meet
                        case rel => exact HS7.out
                      | true =>
                        go_wp2_with fail
                        go_region_law fail
                        all_goals
                          go_wp2_with fail
                          go_roundw
                          case rel => exact ⟨q, by have := HQ.out; omega, rfl, by first | exact HS4.out | exact HS4.out.drew | exact HS4.out.drewN _⟩
                          case measure => have := HQ.out; simp [intOf]; omega
                    · have c4 : ¬ (1 : Int) ≤ (j : Int) := by omega
                      go_wp2_with fail
                      go_meet
                      case rel => exact HS6.out
                · have h2' : ¬ (2 : Int) ≤ (d1 : Int) := by omega
                  go_wp2_with fail
                  go_meet
                  case rel => exact HS5.out
              case rest =>
                have HS8 := Lib.hid hcut
                clear hcut
                rename World => w8
                by_cases h2 : 2 ≤ d2
                · have h2' : (2 : Int) ≤ (d2 : Int) := by omega
                  go_wp2_with fail
                  go_loopw [10] (fun u10 wr => ∃ j : Nat, 1 ≤ j ∧ j ≤ b ∧ u10 = .int .i64 j ∧ St32 g w0 xs0 wr) (fun u10 _ => b - (intOf u10).toNat)
                  case atStart => exact ⟨k1, by have := HK1.out; omega, by have := HK1.out; have := HK2.out; omega, rfl, HS8.out⟩
                  case round =>
                    obtain ⟨j, hj0, hj, rfl, hS⟩ := hrel
                    have HS6 := Lib.hid hS
                    clear hS
                    by_cases hj1 : j < b
                    · obtain ⟨q, hq⟩ : ∃ q, q + 1 = j := ⟨j - 1, by omega⟩
                      obtain ⟨x, hx, -⟩ := HS6.out.at j (by have := HB.out; omega)
                      obtain ⟨y, hy, -⟩ := HS6.out.at q (by have := HB.out; omega)
                      have t1 : IntKind.i64.wrap ((j : Int) - 1) = (q : Int) := by rw [IntWalk.i64_in _ (by have := HB.out; omega)]; omega
                      have t2 : IntKind.i64.wrap ((j : Int) + 1) = ((j + 1 : Nat) : Int) := by rw [IntWalk.i64_in _ (by have := HB.out; omega)]; omega
                      have c0 : (0 : Int) ≤ (q : Int) := by omega
                      have c1 : (q : Int) < (n : Int) := by have := HB.out; omega
                      have c2 : (0 : Int) ≤ (j : Int) := by omega
                      have c3 : (j : Int) < (n : Int) := by have := HB.out; omega
                      have c4 : (j : Int) < (b : Int) := by omega
                      have HQ := Lib.hid (And.intro hq hj1)
                      clear hq hj hj0 hj1
                      go_wp2_with fail
                      go_quiet ((go_at_call 127; exact Calls.quiet_of_same (less_u32 _ _ _)))
                      have hS7 := HS6.out.drewN nq
                      generalize decide (x < y) = bl at *
                      obtain ⟨z0, z1, e0, e1, f0, f1, f2, e2, hS4⟩ := hS7.swap j q (by have := HB.out; have := HQ.out; omega) (by have := HB.out; have := HQ.out; omega)
                      have HS4 := Lib.hid hS4
                      have HS7 := Lib.hid hS7
                      clear hS4 hS7 hx hy
                      generalize wr.drewN nq = wq at *
                      cases bl with
                      | false =>
                        go_wp2_with fail
                        go_roundw
                        case rel => exact ⟨k, s + 1, HK.out.1, HK.out.2, by omega, rfl, rfl, HS7.out⟩
                        case measure => simp [intOf]; omega
                      | true =>
                        go_wp2_with fail
                        go_region_law fail
                        all_goals
                          go_wp2_with fail
                          go_roundw
                          case rel => exact ⟨j + 1, by omega, by have := HQ.out; omega, rfl, by first | exact HS4.out | exact HS4.out.drew | exact HS4.out.drewN _⟩
                          case measure => have := HQ.out; simp [intOf]; omega
                    · have c4 : ¬ (j : Int) < (b : Int) := by omega
                      go_wp2_with fail
                      go_roundw
                      case rel => exact ⟨k, s + 1, HK.out.1, HK.out.2, by omega, rfl, rfl, HS6.out⟩
                      case measure => simp [intOf]; omega
                · have h2' : ¬ (2 : Int) ≤ (d2 : Int) := by omega
                  go_wp2_with fail
                  go_roundw
                  case rel => exact ⟨k, s + 1, HK.out.1, HK.out.2, by omega, rfl, rfl, HS8.out⟩
                  case measure => simp [intOf]; omega
    · have g0 : ¬ (s : Int) < 5 := by omega
      go_wp2_with fail
      go_ret
      exact ⟨⟨false, rfl⟩, HS.out⟩
end Go.Proofs.YtejhbaeeaejcaaaGreat
/- The walks of slices' ordered sort at []uint32 (5: the partitions). Conditions: those of each theorem. -/
namespace Go.Proofs.YtejhbaeeaejcaaaGreat
open Go.RowKit

def Part32 (a b : Nat) (e : Ending) : Prop := ∃ (x : Nat) (r : Bool), e = .returned (.tuple #[.int .i64 (x : Int), .bool r]) ∧ a ≤ x ∧ x < b
def PartE32 (a b : Nat) (e : Ending) : Prop := ∃ x : Nat, e = .returned (.int .i64 (x : Int)) ∧ a < x ∧ x ≤ b

set_option maxRecDepth 100000 in
set_option maxHeartbeats 16000000 in
theorem partitionEqual_u32 {g n c : Nat} {w0 w : World} {xs0 : List Nat} (h : St32 g w0 xs0 w) (hn : xs0.length = n) (hn2 : n ≤ 1000000) (a b p : Nat) (hab : a + 1 < b) (hb : b ≤ n) (hp1 : a ≤ p) (hp2 : p < b) :
    Calls Tryz.prog 128 #[.slice (some ⟨g, 0, none⟩) n c, .int .i64 (a : Int), .int .i64 (b : Int), .int .i64 (p : Int)] w fun e w' => PartE32 a b e ∧ St32 g w0 xs0 w' := by
  have H := Lib.hid h
  have HB := Lib.hid (And.intro hn (And.intro hn2 (And.intro hab (And.intro hb (And.intro hp1 hp2)))))
  obtain ⟨a1, ha1⟩ : ∃ a1, a1 = a + 1 := ⟨_, rfl⟩
  obtain ⟨b1, hb1⟩ : ∃ b1, b1 + 1 = b := ⟨b - 1, by omega⟩
  have sa : IntKind.i64.wrap ((a : Int) + 1) = (a1 : Int) := by rw [IntWalk.i64_in _ (by omega)]; omega
  have sb : IntKind.i64.wrap ((b : Int) - 1) = (b1 : Int) := by rw [IntWalk.i64_in _ (by omega)]; omega
  have HI := Lib.hid (show a + 1 ≤ a1 ∧ a1 ≤ b ∧ a ≤ b1 ∧ b1 < b by omega)
  clear h hn hn2 hab hb hp1 hp2 ha1 hb1
  have q0 : (0 : Int) ≤ (a : Int) := by omega
  have q1 : (a : Int) < (n : Int) := by have := HB.out; omega
  have q2 : (0 : Int) ≤ (p : Int) := by omega
  have q3 : (p : Int) < (n : Int) := by have := HB.out; omega
  go_enter Tryz.func128, Tryz.ntmps128
  obtain ⟨z0, z1, e0, e1, f0, f1, f2, e2, hS4⟩ := H.out.swap a p (by have := HB.out; omega) (by have := HB.out; omega)
  have HS4 := Lib.hid hS4
  clear hS4
  go_upto_region 1 with fail
  go_cut [] from 11 to 24 (fun wx => St32 g w0 xs0 wx)
  case first =>
    go_region_law fail
    all_goals
      go_wp2_with fail
      go_meet
      case rel => exact (by first | exact HS4.out | exact HS4.out.drew | exact HS4.out.drewN _)
  have HS1 := Lib.hid hcut
  clear hcut e0 e1 f0 f1 f2 e2 HS4
  go_wp2_with fail
  go_loopw [9, 10] (fun u9 u10 wr => ∃ i j : Nat, (a + 1 ≤ i ∧ i ≤ b ∧ a ≤ j ∧ j < b) ∧ u9 = .int .i64 i ∧ u10 = .int .i64 j ∧ St32 g w0 xs0 wr) (fun u9 u10 _ => (intOf u10).toNat + 1 - (intOf u9).toNat)
  case atStart => exact ⟨a1, b1, HI.out, rfl, rfl, HS1.out⟩
  case round =>
    obtain ⟨i, j, hij, rfl, rfl, hS⟩ := hrel
    have HIJ := Lib.hid hij
    have HS2 := Lib.hid hS
    clear hS hij sa sb
    rename World => woHS3
    go_upto_block 2 with fail
    go_cut [9] from 29 to 45 (fun u wx => ∃ K : Nat, (i ≤ K ∧ K ≤ b) ∧ u = .int .i64 K ∧ St32 g w0 xs0 wx)
    case first =>
      go_wp2_with fail
      go_loopw [9] (fun u wr => ∃ K : Nat, (i ≤ K ∧ K ≤ b) ∧ u = .int .i64 K ∧ St32 g w0 xs0 wr) (fun u _ => b - (intOf u).toNat)
      case atStart => exact ⟨i, (by have := HIJ.out; omega), rfl, HS2.out⟩
      case round =>
        obtain ⟨k, ⟨hk1, hk2⟩, rfl, hS⟩ := hrel
        have HSa := Lib.hid hS
        clear hS
        by_cases hkt : k ≤ j
        · have sk : IntKind.i64.wrap ((k : Int) + 1) = ((k + 1 : Nat) : Int) := by rw [IntWalk.i64_in _ (by have := HB.out; have := HIJ.out; omega)]; omega
          obtain ⟨x, hx, -⟩ := HSa.out.at k (by have := HB.out; have := HIJ.out; omega)
          obtain ⟨y, hy, -⟩ := HSa.out.at a (by have := HB.out; have := HIJ.out; omega)
          have d0 : (0 : Int) ≤ (a : Int) := by omega
          have d1 : (a : Int) < (n : Int) := by have := HB.out; omega
          have d2 : (0 : Int) ≤ (k : Int) := by omega
          have d3 : (k : Int) < (n : Int) := by have := HB.out; have := HIJ.out; omega
          have d4 : (k : Int) ≤ (j : Int) := by omega
          have HK := Lib.hid (And.intro hk1 (And.intro hk2 hkt))
          clear hk1 hk2 hkt
          go_wp2_with fail
          go_quiet ((go_at_call 127; exact Calls.quiet_of_same (less_u32 _ _ _)))
          have HS3 := Lib.hid (HSa.out.drewN nq)
          generalize decide (y < x) = bl at *
          generalize wr.drewN nq = wq at *
          clear hx hy
          cases bl with
          | true =>
            go_wp2_with fail
            go_meet
            case rel => exact ⟨k, by have := HK.out; omega, rfl, HS3.out⟩
          | false =>
            go_wp2_with fail
            go_roundw
            case rel => exact ⟨k + 1, by have := HK.out; have := HIJ.out; omega, rfl, HS3.out⟩
            case measure => have := HK.out; have := HIJ.out; simp [intOf]; omega
        · have d4 : ¬ (k : Int) ≤ (j : Int) := by omega
          go_wp2_with fail
          go_quiet (fail)
          have HS3 := Lib.hid (HSa.out.drewN nq)
          go_wp2_with fail
          go_meet
          case rel => exact ⟨k, by omega, rfl, HS3.out⟩
    obtain ⟨i2, hi2, rfl, hSHS3⟩ := hcut
    have Hi2 := Lib.hid hi2
    have HS3 := Lib.hid hSHS3
    clear hi2 hSHS3
    have HIK := Lib.hid (show a + 1 ≤ i2 ∧ i2 ≤ b ∧ a ≤ j ∧ j < b by have := HIJ.out; have := Hi2.out; omega)
    rename World => woHS5
    go_upto_block 4 with fail
    go_cut [10] from 46 to 61 (fun u wx => ∃ K : Nat, (a ≤ K ∧ K ≤ j) ∧ u = .int .i64 K ∧ St32 g w0 xs0 wx)
    case first =>
      go_wp2_with fail
      go_loopw [10] (fun u wr => ∃ K : Nat, (a ≤ K ∧ K ≤ j) ∧ u = .int .i64 K ∧ St32 g w0 xs0 wr) (fun u _ => (intOf u).toNat)
      case atStart => exact ⟨j, (by have := HIK.out; omega), rfl, HS3.out⟩
      case round =>
        obtain ⟨k, ⟨hk1, hk2⟩, rfl, hS⟩ := hrel
        have HSa := Lib.hid hS
        clear hS
        by_cases hkt : i2 ≤ k
        · obtain ⟨q, hq⟩ : ∃ q, q + 1 = k := ⟨k - 1, by have := HIK.out; omega⟩
          have sk : IntKind.i64.wrap ((k : Int) - 1) = (q : Int) := by rw [IntWalk.i64_in _ (by have := HB.out; have := HIK.out; omega)]; omega
          obtain ⟨x, hx, -⟩ := HSa.out.at k (by have := HB.out; have := HIK.out; omega)
          obtain ⟨y, hy, -⟩ := HSa.out.at a (by have := HB.out; have := HIK.out; omega)
          have d0 : (0 : Int) ≤ (a : Int) := by omega
          have d1 : (a : Int) < (n : Int) := by have := HB.out; omega
          have d2 : (0 : Int) ≤ (k : Int) := by omega
          have d3 : (k : Int) < (n : Int) := by have := HB.out; have := HIK.out; omega
          have d4 : (i2 : Int) ≤ (k : Int) := by omega
          have HK := Lib.hid (And.intro hk1 (And.intro hk2 (And.intro hkt hq)))
          clear hk1 hk2 hkt hq
          go_wp2_with fail
          go_quiet ((go_at_call 127; exact Calls.quiet_of_same (less_u32 _ _ _)))
          have HS3 := Lib.hid (HSa.out.drewN nq)
          generalize decide (y < x) = bl at *
          generalize wr.drewN nq = wq at *
          clear hx hy
          cases bl with
          | false =>
            go_wp2_with fail
            go_meet
            case rel => exact ⟨k, by have := HK.out; omega, rfl, HS3.out⟩
          | true =>
            go_wp2_with fail
            go_roundw
            case rel => exact ⟨q, by have := HK.out; have := HIK.out; omega, rfl, HS3.out⟩
            case measure => have := HK.out; have := HIK.out; simp [intOf]; omega
        · have d4 : ¬ (i2 : Int) ≤ (k : Int) := by omega
          go_wp2_with fail
          go_quiet (fail)
          have HS3 := Lib.hid (HSa.out.drewN nq)
          go_wp2_with fail
          go_meet
          case rel => exact ⟨k, by omega, rfl, HS3.out⟩
    obtain ⟨j2, hj2, rfl, hSHS5⟩ := hcut
    have Hj2 := Lib.hid hj2
    have HS5 := Lib.hid hSHS5
    clear hj2 hSHS5
    by_cases hgt : j2 < i2
    · have hgt' : (j2 : Int) < (i2 : Int) := by omega
      go_wp2_with fail
      go_ret
      exact ⟨⟨i2, rfl, by have := HIK.out; omega, by have := HIK.out; omega⟩, HS5.out⟩
    · have hgt' : ¬ (j2 : Int) < (i2 : Int) := by omega
      have HG := Lib.hid hgt
      clear hgt
      obtain ⟨q, hq⟩ : ∃ q, q + 1 = j2 := ⟨j2 - 1, by have := HIK.out; have := HG.out; omega⟩
      have sq : IntKind.i64.wrap ((j2 : Int) - 1) = (q : Int) := by rw [IntWalk.i64_in _ (by have := HB.out; have := HIK.out; have := Hj2.out; omega)]; omega
      have si : IntKind.i64.wrap ((i2 : Int) + 1) = ((i2 + 1 : Nat) : Int) := by rw [IntWalk.i64_in _ (by have := HB.out; have := HIK.out; omega)]; omega
      have HQ := Lib.hid hq
      clear hq
      have p0i2 : (0 : Int) ≤ (i2 : Int) := by omega
      have p1i2 : (i2 : Int) < (n : Int) := by have := HB.out; have := HIK.out; have := HG.out; have := Hj2.out; omega

      have p0j2 : (0 : Int) ≤ (j2 : Int) := by omega
      have p1j2 : (j2 : Int) < (n : Int) := by have := HB.out; have := HIK.out; have := Hj2.out; omega
      obtain ⟨z0, z1, e0, e1, f0, f1, f2, e2, hS4⟩ := HS5.out.swap i2 j2 (by have := HB.out; have := HIK.out; have := HG.out; have := Hj2.out; omega) (by have := HB.out; have := HIK.out; have := HG.out; have := Hj2.out; omega)
      have HS4 := Lib.hid hS4
      clear hS4
      go_upto_region 8 with fail
      go_cut [] from 65 to 78 (fun wx => St32 g w0 xs0 wx)
      case first =>
        go_region_law fail
        all_goals
          go_wp2_with fail
          go_meet
          case rel => exact (by first | exact HS4.out | exact HS4.out.drew | exact HS4.out.drewN _)
      have HS6 := Lib.hid hcut
      clear hcut e0 e1 f0 f1 f2 e2 HS4
      go_wp2_with fail
      go_roundw
      case rel => exact ⟨i2 + 1, q, by have := HB.out; have := HIK.out; have := HG.out; have := Hj2.out; have := HQ.out; omega, rfl, rfl, HS6.out⟩
      case measure => have := HB.out; have := HIK.out; have := HG.out; have := Hj2.out; have := Hi2.out; have := HQ.out; simp [intOf]; omega

set_option maxRecDepth 100000 in
set_option maxHeartbeats 16000000 in
theorem partition_u32 {g n c : Nat} {w0 w : World} {xs0 : List Nat} (h : St32 g w0 xs0 w) (hn : xs0.length = n) (hn2 : n ≤ 1000000) (a b p : Nat) (hab : a + 1 < b) (hb : b ≤ n) (hp1 : a ≤ p) (hp2 : p < b) :
    Calls Tryz.prog 129 #[.slice (some ⟨g, 0, none⟩) n c, .int .i64 (a : Int), .int .i64 (b : Int), .int .i64 (p : Int)] w fun e w' => Part32 a b e ∧ St32 g w0 xs0 w' := by
  have H := Lib.hid h
  have HB := Lib.hid (And.intro hn (And.intro hn2 (And.intro hab (And.intro hb (And.intro hp1 hp2)))))
  obtain ⟨a1, ha1⟩ : ∃ a1, a1 = a + 1 := ⟨_, rfl⟩
  obtain ⟨b1, hb1⟩ : ∃ b1, b1 + 1 = b := ⟨b - 1, by omega⟩
  have sa : IntKind.i64.wrap ((a : Int) + 1) = (a1 : Int) := by rw [IntWalk.i64_in _ (by omega)]; omega
  have sb : IntKind.i64.wrap ((b : Int) - 1) = (b1 : Int) := by rw [IntWalk.i64_in _ (by omega)]; omega
  have HI := Lib.hid (show a + 1 ≤ a1 ∧ a1 ≤ b ∧ a ≤ b1 ∧ b1 < b by omega)
  clear h hn hn2 hab hb hp1 hp2 ha1 hb1
  have q0 : (0 : Int) ≤ (a : Int) := by omega
  have q1 : (a : Int) < (n : Int) := by have := HB.out; omega
  have q2 : (0 : Int) ≤ (p : Int) := by omega
  have q3 : (p : Int) < (n : Int) := by have := HB.out; omega
  go_enter Tryz.func129, Tryz.ntmps129
  obtain ⟨z0, z1, e0, e1, f0, f1, f2, e2, hS4⟩ := H.out.swap a p (by have := HB.out; omega) (by have := HB.out; omega)
  have HS4 := Lib.hid hS4
  clear hS4
  go_upto_region 1 with fail
  go_cut [] from 12 to 25 (fun wx => St32 g w0 xs0 wx)
  case first =>
    go_region_law fail
    all_goals
      go_wp2_with fail
      go_meet
      case rel => exact (by first | exact HS4.out | exact HS4.out.drew | exact HS4.out.drewN _)
  have HS1 := Lib.hid hcut
  clear hcut e0 e1 f0 f1 f2 e2 HS4
  rename World => woHS3
  go_upto_block 0 with fail
  go_cut [10] from 30 to 45 (fun u wx => ∃ K : Nat, (a1 ≤ K ∧ K ≤ b) ∧ u = .int .i64 K ∧ St32 g w0 xs0 wx)
  case first =>
    go_wp2_with fail
    go_loopw [10] (fun u wr => ∃ K : Nat, (a1 ≤ K ∧ K ≤ b) ∧ u = .int .i64 K ∧ St32 g w0 xs0 wr) (fun u _ => b - (intOf u).toNat)
    case atStart => exact ⟨a1, (by have := HI.out; omega), rfl, HS1.out⟩
    case round =>
      obtain ⟨k, ⟨hk1, hk2⟩, rfl, hS⟩ := hrel
      have HSa := Lib.hid hS
      clear hS
      by_cases hkt : k ≤ b1
      · have sk : IntKind.i64.wrap ((k : Int) + 1) = ((k + 1 : Nat) : Int) := by rw [IntWalk.i64_in _ (by have := HB.out; have := HI.out; omega)]; omega
        obtain ⟨x, hx, -⟩ := HSa.out.at k (by have := HB.out; have := HI.out; omega)
        obtain ⟨y, hy, -⟩ := HSa.out.at a (by have := HB.out; have := HI.out; omega)
        have d0 : (0 : Int) ≤ (a : Int) := by omega
        have d1 : (a : Int) < (n : Int) := by have := HB.out; omega
        have d2 : (0 : Int) ≤ (k : Int) := by omega
        have d3 : (k : Int) < (n : Int) := by have := HB.out; have := HI.out; omega
        have d4 : (k : Int) ≤ (b1 : Int) := by omega
        have HK := Lib.hid (And.intro hk1 (And.intro hk2 hkt))
        clear hk1 hk2 hkt
        go_wp2_with fail
        go_quiet ((go_at_call 127; exact Calls.quiet_of_same (less_u32 _ _ _)))
        have HS3 := Lib.hid (HSa.out.drewN nq)
        generalize decide (x < y) = bl at *
        generalize wr.drewN nq = wq at *
        clear hx hy
        cases bl with
        | false =>
          go_wp2_with fail
          go_meet
          case rel => exact ⟨k, by have := HK.out; omega, rfl, HS3.out⟩
        | true =>
          go_wp2_with fail
          go_roundw
          case rel => exact ⟨k + 1, by have := HK.out; have := HI.out; omega, rfl, HS3.out⟩
          case measure => have := HK.out; have := HI.out; simp [intOf]; omega
      · have d4 : ¬ (k : Int) ≤ (b1 : Int) := by omega
        go_wp2_with fail
        go_quiet (fail)
        have HS3 := Lib.hid (HSa.out.drewN nq)
        go_wp2_with fail
        go_meet
        case rel => exact ⟨k, by omega, rfl, HS3.out⟩
  obtain ⟨i2, hi2, rfl, hSHS3⟩ := hcut
  have Hi2 := Lib.hid hi2
  have HS3 := Lib.hid hSHS3
  clear hi2 hSHS3
  have HIK := Lib.hid (show a + 1 ≤ i2 ∧ i2 ≤ b ∧ a ≤ b1 ∧ b1 < b by have := HI.out; have := Hi2.out; omega)
  rename World => woHS5
  go_upto_block 2 with fail
  go_cut [11] from 46 to 62 (fun u wx => ∃ K : Nat, (a ≤ K ∧ K ≤ b1) ∧ u = .int .i64 K ∧ St32 g w0 xs0 wx)
  case first =>
    go_wp2_with fail
    go_loopw [11] (fun u wr => ∃ K : Nat, (a ≤ K ∧ K ≤ b1) ∧ u = .int .i64 K ∧ St32 g w0 xs0 wr) (fun u _ => (intOf u).toNat)
    case atStart => exact ⟨b1, (by have := HIK.out; omega), rfl, HS3.out⟩
    case round =>
      obtain ⟨k, ⟨hk1, hk2⟩, rfl, hS⟩ := hrel
      have HSa := Lib.hid hS
      clear hS
      by_cases hkt : i2 ≤ k
      · obtain ⟨q, hq⟩ : ∃ q, q + 1 = k := ⟨k - 1, by have := HIK.out; omega⟩
        have sk : IntKind.i64.wrap ((k : Int) - 1) = (q : Int) := by rw [IntWalk.i64_in _ (by have := HB.out; have := HIK.out; omega)]; omega
        obtain ⟨x, hx, -⟩ := HSa.out.at k (by have := HB.out; have := HIK.out; omega)
        obtain ⟨y, hy, -⟩ := HSa.out.at a (by have := HB.out; have := HIK.out; omega)
        have d0 : (0 : Int) ≤ (a : Int) := by omega
        have d1 : (a : Int) < (n : Int) := by have := HB.out; omega
        have d2 : (0 : Int) ≤ (k : Int) := by omega
        have d3 : (k : Int) < (n : Int) := by have := HB.out; have := HIK.out; omega
        have d4 : (i2 : Int) ≤ (k : Int) := by omega
        have HK := Lib.hid (And.intro hk1 (And.intro hk2 (And.intro hkt hq)))
        clear hk1 hk2 hkt hq
        go_wp2_with fail
        go_quiet ((go_at_call 127; exact Calls.quiet_of_same (less_u32 _ _ _)))
        have HS3 := Lib.hid (HSa.out.drewN nq)
        generalize decide (x < y) = bl at *
        generalize wr.drewN nq = wq at *
        clear hx hy
        cases bl with
        | true =>
          go_wp2_with fail
          go_meet
          case rel => exact ⟨k, by have := HK.out; omega, rfl, HS3.out⟩
        | false =>
          go_wp2_with fail
          go_roundw
          case rel => exact ⟨q, by have := HK.out; have := HIK.out; omega, rfl, HS3.out⟩
          case measure => have := HK.out; have := HIK.out; simp [intOf]; omega
      · have d4 : ¬ (i2 : Int) ≤ (k : Int) := by omega
        go_wp2_with fail
        go_quiet (fail)
        have HS3 := Lib.hid (HSa.out.drewN nq)
        go_wp2_with fail
        go_meet
        case rel => exact ⟨k, by omega, rfl, HS3.out⟩
  obtain ⟨j2, hj2, rfl, hSHS5⟩ := hcut
  have Hj2 := Lib.hid hj2
  have HS5 := Lib.hid hSHS5
  clear hj2 hSHS5
  have p0j2 : (0 : Int) ≤ (j2 : Int) := by omega
  have p1j2 : (j2 : Int) < (n : Int) := by have := HB.out; have := HIK.out; have := Hj2.out; omega
  by_cases hgt : j2 < i2
  · have hgt' : (j2 : Int) < (i2 : Int) := by omega
    obtain ⟨z0, z1, e0, e1, f0, f1, f2, e2, hS4⟩ := HS5.out.swap j2 a (by have := HB.out; have := HIK.out; have := Hj2.out; omega) (by have := HB.out; have := HIK.out; have := Hj2.out; omega)
    have HS4 := Lib.hid hS4
    clear hS4
    go_upto_region 8 with fail
    go_cut [] from 66 to 79 (fun wx => St32 g w0 xs0 wx)
    case first =>
      go_region_law fail
      all_goals
        go_wp2_with fail
        go_meet
        case rel => exact (by first | exact HS4.out | exact HS4.out.drew | exact HS4.out.drewN _)
    have HS6 := Lib.hid hcut
    clear hcut e0 e1 f0 f1 f2 e2 HS4
    go_wp2_with fail
    go_ret2
    exact ⟨⟨j2, true, rfl, by have := Hj2.out; omega, by have := HIK.out; have := Hj2.out; omega⟩, HS6.out⟩
  · have hgt' : ¬ (j2 : Int) < (i2 : Int) := by omega
    have HG := Lib.hid hgt
    clear hgt
    obtain ⟨q, hq⟩ : ∃ q, q + 1 = j2 := ⟨j2 - 1, by have := HIK.out; have := HG.out; omega⟩
    have sq : IntKind.i64.wrap ((j2 : Int) - 1) = (q : Int) := by rw [IntWalk.i64_in _ (by have := HB.out; have := HIK.out; have := Hj2.out; omega)]; omega
    have si : IntKind.i64.wrap ((i2 : Int) + 1) = ((i2 + 1 : Nat) : Int) := by rw [IntWalk.i64_in _ (by have := HB.out; have := HIK.out; omega)]; omega
    have HQ := Lib.hid hq
    clear hq
    have p0i2 : (0 : Int) ≤ (i2 : Int) := by omega
    have p1i2 : (i2 : Int) < (n : Int) := by have := HB.out; have := HIK.out; have := HG.out; have := Hj2.out; omega
    obtain ⟨z0, z1, e0, e1, f0, f1, f2, e2, hS4⟩ := HS5.out.swap i2 j2 (by have := HB.out; have := HIK.out; have := HG.out; have := Hj2.out; omega) (by have := HB.out; have := HIK.out; have := HG.out; have := Hj2.out; omega)
    have HS4 := Lib.hid hS4
    clear hS4
    go_upto_region 10 with fail
    go_cut [] from 81 to 94 (fun wx => St32 g w0 xs0 wx)
    case first =>
      go_region_law fail
      all_goals
        go_wp2_with fail
        go_meet
        case rel => exact (by first | exact HS4.out | exact HS4.out.drew | exact HS4.out.drewN _)
    have HS6 := Lib.hid hcut
    clear hcut e0 e1 f0 f1 f2 e2 HS4
    clear p0i2 p1i2 p0j2 p1j2
    go_wp2_with fail
    go_loopw [10, 11] (fun u10 u11 wr => ∃ i j : Nat, (a + 1 ≤ i ∧ i ≤ b ∧ a ≤ j ∧ j < b) ∧ u10 = .int .i64 i ∧ u11 = .int .i64 j ∧ St32 g w0 xs0 wr) (fun u10 u11 _ => (intOf u11).toNat + 1 - (intOf u10).toNat)
    case atStart => exact ⟨i2 + 1, q, by have := HB.out; have := HIK.out; have := HG.out; have := Hj2.out; have := HQ.out; omega, rfl, rfl, HS6.out⟩
    case round =>
      clear sq si hgt'
      obtain ⟨i, j, hij, rfl, rfl, hS⟩ := hrel
      have HIJ := Lib.hid hij
      have HS7 := Lib.hid hS
      clear hS hij sa sb
      rename World => woHS8
      go_upto_block 6 with fail
      go_cut [10] from 99 to 114 (fun u wx => ∃ K : Nat, (i ≤ K ∧ K ≤ b) ∧ u = .int .i64 K ∧ St32 g w0 xs0 wx)
      case first =>
        go_wp2_with fail
        go_loopw [10] (fun u wr => ∃ K : Nat, (i ≤ K ∧ K ≤ b) ∧ u = .int .i64 K ∧ St32 g w0 xs0 wr) (fun u _ => b - (intOf u).toNat)
        case atStart => exact ⟨i, (by have := HIJ.out; omega), rfl, HS7.out⟩
        case round =>
          obtain ⟨k, ⟨hk1, hk2⟩, rfl, hS⟩ := hrel
          have HSa := Lib.hid hS
          clear hS
          by_cases hkt : k ≤ j
          · have sk : IntKind.i64.wrap ((k : Int) + 1) = ((k + 1 : Nat) : Int) := by rw [IntWalk.i64_in _ (by have := HB.out; have := HIJ.out; omega)]; omega
            obtain ⟨x, hx, -⟩ := HSa.out.at k (by have := HB.out; have := HIJ.out; omega)
            obtain ⟨y, hy, -⟩ := HSa.out.at a (by have := HB.out; have := HIJ.out; omega)
            have d0 : (0 : Int) ≤ (a : Int) := by omega
            have d1 : (a : Int) < (n : Int) := by have := HB.out; omega
            have d2 : (0 : Int) ≤ (k : Int) := by omega
            have d3 : (k : Int) < (n : Int) := by have := HB.out; have := HIJ.out; omega
            have d4 : (k : Int) ≤ (j : Int) := by omega
            have HK := Lib.hid (And.intro hk1 (And.intro hk2 hkt))
            clear hk1 hk2 hkt
            go_wp2_with fail
            go_quiet ((go_at_call 127; exact Calls.quiet_of_same (less_u32 _ _ _)))
            have HS3 := Lib.hid (HSa.out.drewN nq)
            generalize decide (x < y) = bl at *
            generalize wr.drewN nq = wq at *
            clear hx hy
            cases bl with
            | false =>
              go_wp2_with fail
              go_meet
              case rel => exact ⟨k, by have := HK.out; omega, rfl, HS3.out⟩
            | true =>
              go_wp2_with fail
              go_roundw
              case rel => exact ⟨k + 1, by have := HK.out; have := HIJ.out; omega, rfl, HS3.out⟩
              case measure => have := HK.out; have := HIJ.out; simp [intOf]; omega
          · have d4 : ¬ (k : Int) ≤ (j : Int) := by omega
            go_wp2_with fail
            go_quiet (fail)
            have HS3 := Lib.hid (HSa.out.drewN nq)
            go_wp2_with fail
            go_meet
            case rel => exact ⟨k, by omega, rfl, HS3.out⟩
      obtain ⟨i3, hi3, rfl, hSHS8⟩ := hcut
      have Hi3 := Lib.hid hi3
      have HS8 := Lib.hid hSHS8
      clear hi3 hSHS8
      have HIL := Lib.hid (show a + 1 ≤ i3 ∧ i3 ≤ b ∧ a ≤ j ∧ j < b by have := HIJ.out; have := Hi3.out; omega)
      rename World => woHS9
      go_upto_block 8 with fail
      go_cut [11] from 115 to 131 (fun u wx => ∃ K : Nat, (a ≤ K ∧ K ≤ j) ∧ u = .int .i64 K ∧ St32 g w0 xs0 wx)
      case first =>
        go_wp2_with fail
        go_loopw [11] (fun u wr => ∃ K : Nat, (a ≤ K ∧ K ≤ j) ∧ u = .int .i64 K ∧ St32 g w0 xs0 wr) (fun u _ => (intOf u).toNat)
        case atStart => exact ⟨j, (by have := HIL.out; omega), rfl, HS8.out⟩
        case round =>
          obtain ⟨k, ⟨hk1, hk2⟩, rfl, hS⟩ := hrel
          have HSa := Lib.hid hS
          clear hS
          by_cases hkt : i3 ≤ k
          · obtain ⟨q, hq⟩ : ∃ q, q + 1 = k := ⟨k - 1, by have := HIL.out; omega⟩
            have sk : IntKind.i64.wrap ((k : Int) - 1) = (q : Int) := by rw [IntWalk.i64_in _ (by have := HB.out; have := HIL.out; omega)]; omega
            obtain ⟨x, hx, -⟩ := HSa.out.at k (by have := HB.out; have := HIL.out; omega)
            obtain ⟨y, hy, -⟩ := HSa.out.at a (by have := HB.out; have := HIL.out; omega)
            have d0 : (0 : Int) ≤ (a : Int) := by omega
            have d1 : (a : Int) < (n : Int) := by have := HB.out; omega
            have d2 : (0 : Int) ≤ (k : Int) := by omega
            have d3 : (k : Int) < (n : Int) := by have := HB.out; have := HIL.out; omega
            have d4 : (i3 : Int) ≤ (k : Int) := by omega
            have HK := Lib.hid (And.intro hk1 (And.intro hk2 (And.intro hkt hq)))
            clear hk1 hk2 hkt hq
            go_wp2_with fail
            go_quiet ((go_at_call 127; exact Calls.quiet_of_same (less_u32 _ _ _)))
            have HS3 := Lib.hid (HSa.out.drewN nq)
            generalize decide (x < y) = bl at *
            generalize wr.drewN nq = wq at *
            clear hx hy
            cases bl with
            | true =>
              go_wp2_with fail
              go_meet
              case rel => exact ⟨k, by have := HK.out; omega, rfl, HS3.out⟩
            | false =>
              go_wp2_with fail
              go_roundw
              case rel => exact ⟨q, by have := HK.out; have := HIL.out; omega, rfl, HS3.out⟩
              case measure => have := HK.out; have := HIL.out; simp [intOf]; omega
          · have d4 : ¬ (i3 : Int) ≤ (k : Int) := by omega
            go_wp2_with fail
            go_quiet (fail)
            have HS3 := Lib.hid (HSa.out.drewN nq)
            go_wp2_with fail
            go_meet
            case rel => exact ⟨k, by omega, rfl, HS3.out⟩
      obtain ⟨j3, hj3, rfl, hSHS9⟩ := hcut
      have Hj3 := Lib.hid hj3
      have HS9 := Lib.hid hSHS9
      clear hj3 hSHS9
      have p0j3 : (0 : Int) ≤ (j3 : Int) := by omega
      have p1j3 : (j3 : Int) < (n : Int) := by have := HB.out; have := HIL.out; have := Hj3.out; omega
      by_cases hgt : j3 < i3
      · have hgt' : (j3 : Int) < (i3 : Int) := by omega
        obtain ⟨z0, z1, e0, e1, f0, f1, f2, e2, hS4⟩ := HS9.out.swap j3 a (by have := HB.out; have := HIL.out; have := Hj3.out; omega) (by have := HB.out; have := HIL.out; have := Hj3.out; omega)
        have HS4 := Lib.hid hS4
        clear hS4
        go_upto_region 21 with fail
        go_cut [] from 153 to 166 (fun wx => St32 g w0 xs0 wx)
        case first =>
          go_region_law fail
          all_goals
            go_wp2_with fail
            go_meet
            case rel => exact (by first | exact HS4.out | exact HS4.out.drew | exact HS4.out.drewN _)
        have HS10 := Lib.hid hcut
        clear hcut e0 e1 f0 f1 f2 e2 HS4
        go_wp2_with fail
        go_ret2
        exact ⟨⟨j3, false, rfl, by have := Hj3.out; omega, by have := HIL.out; have := Hj3.out; omega⟩, HS10.out⟩
      · have hgt' : ¬ (j3 : Int) < (i3 : Int) := by omega
        have HG3 := Lib.hid hgt
        clear hgt
        obtain ⟨q3, hq3⟩ : ∃ q, q + 1 = j3 := ⟨j3 - 1, by have := HIL.out; have := HG3.out; omega⟩
        have sq3 : IntKind.i64.wrap ((j3 : Int) - 1) = (q3 : Int) := by rw [IntWalk.i64_in _ (by have := HB.out; have := HIL.out; have := Hj3.out; omega)]; omega
        have si3 : IntKind.i64.wrap ((i3 : Int) + 1) = ((i3 + 1 : Nat) : Int) := by rw [IntWalk.i64_in _ (by have := HB.out; have := HIL.out; omega)]; omega
        have HQ3 := Lib.hid hq3
        clear hq3
        have p0i3 : (0 : Int) ≤ (i3 : Int) := by omega
        have p1i3 : (i3 : Int) < (n : Int) := by have := HB.out; have := HIL.out; have := HG3.out; have := Hj3.out; have := Hi3.out; have := HQ3.out; omega
        obtain ⟨z0, z1, e0, e1, f0, f1, f2, e2, hS4⟩ := HS9.out.swap i3 j3 (by have := HB.out; have := HIL.out; have := HG3.out; have := Hj3.out; have := Hi3.out; have := HQ3.out; omega) (by have := HB.out; have := HIL.out; have := HG3.out; have := Hj3.out; have := Hi3.out; have := HQ3.out; omega)
        have HS4 := Lib.hid hS4
        clear hS4
        go_upto_region 18 with fail
        go_cut [] from 135 to 148 (fun wx => St32 g w0 xs0 wx)
        case first =>
          go_region_law fail
          all_goals
            go_wp2_with fail
            go_meet
            case rel => exact (by first | exact HS4.out | exact HS4.out.drew | exact HS4.out.drewN _)
        have HS10 := Lib.hid hcut
        clear hcut e0 e1 f0 f1 f2 e2 HS4
        go_wp2_with fail
        go_roundw
        case rel => exact ⟨i3 + 1, q3, by have := HB.out; have := HIL.out; have := HG3.out; have := Hj3.out; have := Hi3.out; have := HQ3.out; omega, rfl, rfl, HS10.out⟩
        case measure => have := HB.out; have := HIL.out; have := HG3.out; have := Hj3.out; have := Hi3.out; have := HQ3.out; simp [intOf]; omega
end Go.Proofs.YtejhbaeeaejcaaaGreat
/- The walks of slices' ordered sort at []uint32 (6: pdqsort, Sort): what a row holds is told, not its order. Conditions: those of each theorem. -/
namespace Go.Proofs.YtejhbaeeaejcaaaGreat
open Go.RowKit

set_option maxRecDepth 100000 in
set_option maxHeartbeats 32000000 in
theorem pdq_u32 {g n c : Nat} {w0 : World} {xs0 : List Nat} (hn : xs0.length = n) (hn2 : n ≤ 1000000) (N : Nat) : ∀ (a b lim : Nat) (w : World), St32 g w0 xs0 w → b - a < N → a ≤ b → b ≤ n → lim ≤ 64 →
    Calls Tryz.prog 112 #[.slice (some ⟨g, 0, none⟩) n c, .int .i64 (a : Int), .int .i64 (b : Int), .int .i64 (lim : Int)] w fun e w' => e = .returned (.tuple #[]) ∧ St32 g w0 xs0 w' := by
  induction N with
  | zero => intro a b lim w _ h; omega
  | succ N ih =>
    intro a b lim w h hN hab hb hlim
    have IH := Lib.hid ih
    have H := Lib.hid h
    have HB := Lib.hid (And.intro hn (And.intro hn2 hN))
    have HR := Lib.hid (And.intro hab (And.intro hb hlim))
    clear h hn hn2 hN hab hb hlim ih
    go_enter Tryz.func112, Tryz.ntmps112
    go_wp2_with fail
    go_loopw [1, 2, 3, 8, 9, 10, 11, 12, 13, 14, 15, 16, 17, 18] (fun u1 u2 u3 u8 u9 _ _ _ _ _ _ _ _ _ wr => ∃ (i j l : Nat) (wb wp : Bool), (i ≤ j ∧ j ≤ n ∧ l ≤ 64 ∧ j - i < N + 1) ∧ u1 = .int .i64 i ∧ u2 = .int .i64 j ∧ u3 = .int .i64 l ∧ u8 = .bool wb ∧ u9 = .bool wp ∧ St32 g w0 xs0 wr) (fun u1 u2 _ _ _ _ _ _ _ _ _ _ _ _ _ => (intOf u2).toNat - (intOf u1).toNat)
    case atStart => exact ⟨a, b, lim, true, true, ⟨HR.out.1, HR.out.2.1, HR.out.2.2, HB.out.2.2⟩, rfl, rfl, rfl, rfl, rfl, H.out⟩
    case round =>
      clear HR H
      obtain ⟨i, j, l, wb, wp, hR, rfl, rfl, rfl, rfl, rfl, hS⟩ := hrel
      have HR := Lib.hid hR
      have HS := Lib.hid hS
      clear hS hR
      obtain ⟨d, hd⟩ : ∃ d, j = i + d := ⟨j - i, by have := HR.out; omega⟩
      have sd : IntKind.i64.wrap ((j : Int) - (i : Int)) = (d : Int) := by rw [IntWalk.i64_in _ (by have := HR.out; have := HB.out; omega)]; omega
      have HD := Lib.hid hd
      clear hd
      by_cases hd12 : d ≤ 12
      · have hd12' : (d : Int) ≤ 12 := by omega
        have HC := Lib.hid (insertion_u32 (c := c) HS.out HB.out.1 HB.out.2.1 i j HR.out.1 HR.out.2.1)
        go_wp2_with fail
        refine HC.out.mono ?_
        rintro e w2 ⟨rfl, hS2⟩
        have HS2 := Lib.hid hS2
        clear hS2
        go_wp2_with fail
        refine bodyPost_ret (results_none rfl _ _ _) rfl ?_
        exact ⟨rfl, HS2.out⟩
      · have hd12' : ¬ (d : Int) ≤ 12 := by omega
        by_cases hl0 : l = 0
        · have hl0' : (l : Int) = 0 := by omega
          have HC := Lib.hid (heapSort_u32 (c := c) HS.out HB.out.1 HB.out.2.1 i j (by have := HD.out; omega) HR.out.2.1)
          clear hl0
          go_wp2_with fail
          refine HC.out.mono ?_
          rintro e w2 ⟨rfl, hS2⟩
          have HS2 := Lib.hid hS2
          clear hS2
          go_wp2_with fail
          refine bodyPost_ret (results_none rfl _ _ _) rfl ?_
          exact ⟨rfl, HS2.out⟩
        · have hl0' : ¬ (l : Int) = 0 := by omega
          have hl0b : ((l : Int) == 0) = false := by simpa using hl0'
          have HR2 := Lib.hid (show 12 < d ∧ 0 < l by omega)
          have sl : IntKind.i64.wrap ((l : Int) - 1) = ((l - 1 : Nat) : Int) := by rw [IntWalk.i64_in _ (by have := HR.out; omega)]; have := HR2.out; omega
          clear hl0 hd12
          rename World => wo
          go_upto_if 35 with fail
          go_cut [3] from 35 to 41 (fun u3 wx => ∃ l : Nat, l ≤ 64 ∧ u3 = .int .i64 l ∧ St32 g w0 xs0 wx)
          case first =>
            cases wb with
            | true =>
              go_wp2_with fail
              go_meet
              case rel => exact ⟨l, HR.out.2.2.1, rfl, HS.out⟩
            | false =>
              have HC := Lib.hid (breakPatterns_u32 (c := c) HS.out HB.out.1 HB.out.2.1 i j (by have := HD.out; have := HR2.out; omega) HR.out.2.1)
              go_wp2_with fail
              refine HC.out.mono ?_
              rintro e w2 ⟨rfl, hS2⟩
              have HS2 := Lib.hid hS2
              clear hS2
              go_wp2_with fail
              go_meet
              case rel => exact ⟨l - 1, by have := HR.out; omega, rfl, HS2.out⟩
          clear sl hl0' hl0b
          obtain ⟨l', hl', rfl, hS1⟩ := hcut
          have HLL := Lib.hid hl'
          have HS1 := Lib.hid hS1
          clear hl' hS1
          have HC := Lib.hid (choosePivot_u32 (c := c) HS1.out HB.out.1 HB.out.2.1 i j (by have := HD.out; have := HR2.out; omega) HR.out.2.1)
          go_wp2_with fail
          refine HC.out.mono ?_
          rintro e w2 ⟨x, y, rfl, hx1, hx2, hS2⟩
          have HS2 := Lib.hid hS2
          have HX := Lib.hid (And.intro hx1 hx2)
          clear hS2 hx1 hx2
          go_upto_if 50 with fail
          go_cut [11, 12] from 42 to 60 (fun u11 u12 wx => ∃ x y : Nat, (i ≤ x ∧ x < j) ∧ u11 = .int .i64 x ∧ u12 = .int .i64 y ∧ St32 g w0 xs0 wx)
          case first =>
            by_cases hy : y = 2
            · have hy' : (y : Int) = 2 := by omega
              obtain ⟨t, ht⟩ : ∃ t, x = i + t := ⟨x - i, by have := HX.out; omega⟩
              obtain ⟨j1, hj1⟩ : ∃ j1, j1 + 1 = j := ⟨j - 1, by have := HX.out; omega⟩
              obtain ⟨x2, hx2⟩ : ∃ x2, x2 + t = j1 := ⟨j1 - t, by have := HX.out; omega⟩
              have t1 : IntKind.i64.wrap ((x : Int) - (i : Int)) = (t : Int) := by rw [IntWalk.i64_in _ (by have := HX.out; have := HR.out; have := HB.out; omega)]; omega
              have t2 : IntKind.i64.wrap ((j : Int) - 1) = (j1 : Int) := by rw [IntWalk.i64_in _ (by have := HX.out; have := HR.out; have := HB.out; omega)]; omega
              have t3 : IntKind.i64.wrap ((j1 : Int) - (t : Int)) = (x2 : Int) := by rw [IntWalk.i64_in _ (by have := HX.out; have := HR.out; have := HB.out; omega)]; omega
              have HX2 := Lib.hid (show i ≤ x2 ∧ x2 < j by have := HX.out; omega)
              have HC2 := Lib.hid (reverse_u32 (c := c) HS2.out HB.out.1 HB.out.2.1 i j (by have := HX.out; omega) HR.out.2.1)
              clear hy ht hj1 hx2
              go_wp2_with fail
              refine HC2.out.mono ?_
              rintro e w3 ⟨rfl, hS3⟩
              have HS3 := Lib.hid hS3
              clear hS3
              go_wp2_with fail
              go_meet
              case rel => exact ⟨x2, 1, HX2.out, rfl, rfl, HS3.out⟩
            · have hy' : ¬ (y : Int) = 2 := by omega
              have hyb : ((y : Int) == 2) = false := by simpa using hy'
              go_wp2_with fail
              go_meet
              case rel => exact ⟨x, y, HX.out, rfl, rfl, HS2.out⟩
          clear HX HS2
          obtain ⟨x, y, hx, rfl, rfl, hS3⟩ := hcut
          have HX := Lib.hid hx
          have HS3 := Lib.hid hS3
          clear hx hS3
          rename World => w3
          go_upto_region 15 with fail
          go_cut [68] from 61 to 68 (fun u68 wx => ∃ bl : Bool, u68 = .bool bl ∧ wx = w3)
          case first =>
            by_cases hy : y = 1
            · have hy' : (y : Int) = 1 := by omega
              have hyb : ((y : Int) == 1) = true := by simpa using hy'
              clear hy
              cases wb <;> cases wp <;> (go_wp2_with fail; go_meet; case rel => exact ⟨_, rfl, rfl⟩)
            · have hy' : ¬ (y : Int) = 1 := by omega
              have hyb : ((y : Int) == 1) = false := by simpa using hy'
              clear hy
              cases wb <;> cases wp <;> (go_wp2_with fail; go_meet; case rel => exact ⟨_, rfl, rfl⟩)
          obtain ⟨bl, rfl, rfl⟩ := hcut
          rename World => w4
          go_upto_if 68 with fail
          go_cut [] from 68 to 72 (fun wx => St32 g w0 xs0 wx)
          case first =>
            cases bl with
            | false =>
              go_wp2_with fail
              go_meet
              case rel => exact HS3.out
            | true =>
              have HC2 := Lib.hid (partialIns_u32 (c := c) HS3.out HB.out.1 HB.out.2.1 i j (by have := HD.out; have := HR2.out; omega) HR.out.2.1)
              go_wp2_with fail
              refine HC2.out.mono ?_
              rintro e w5 ⟨⟨r, rfl⟩, hS5⟩
              have HS5 := Lib.hid hS5
              clear hS5
              cases r with
              | true =>
                go_wp2_with fail
                refine bodyPost_ret (results_none rfl _ _ _) rfl ?_
                exact ⟨rfl, HS5.out⟩
              | false =>
                go_wp2_with fail
                go_meet
                case rel => exact HS5.out
          clear HS3
          have HS3 := Lib.hid hcut
          clear hcut
          rename World => w5
          go_upto_region 17 with fail
          go_cut [87] from 73 to 87 (fun u87 wx => ∃ bl : Bool, u87 = .bool bl ∧ St32 g w0 xs0 wx)
          case first =>
            by_cases hi0 : 0 < i
            · obtain ⟨m, hm⟩ : ∃ m, m + 1 = i := ⟨i - 1, by omega⟩
              obtain ⟨v, hv, -⟩ := HS3.out.at m (by have := HR.out; have := HB.out; omega)
              obtain ⟨u, hu, -⟩ := HS3.out.at x (by have := HR.out; have := HX.out; have := HB.out; omega)
              have sm : IntKind.i64.wrap ((i : Int) - 1) = (m : Int) := by rw [IntWalk.i64_in _ (by have := HR.out; have := HB.out; omega)]; omega
              have d0 : (0 : Int) ≤ (m : Int) := by omega
              have d1 : (m : Int) < (n : Int) := by have := HR.out; have := HB.out; omega
              have d2 : (0 : Int) ≤ (x : Int) := by omega
              have d3 : (x : Int) < (n : Int) := by have := HR.out; have := HX.out; have := HB.out; omega
              have d4 : (0 : Int) < (i : Int) := by omega
              clear hm
              go_quiet ((go_at_call 127; exact Calls.quiet_of_same (less_u32 _ _ _)))
              have HS4 := Lib.hid (HS3.out.drewN nq)
              go_wp2_with fail
              go_meet
              case rel => exact ⟨_, rfl, HS4.out⟩
            · obtain rfl : i = 0 := by omega
              go_quiet (fail)
              have HS4 := Lib.hid (HS3.out.drewN nq)
              go_wp2_with fail
              go_meet
              case rel => exact ⟨_, rfl, HS4.out⟩
          obtain ⟨bl, rfl, hS4⟩ := hcut
          have HS4 := Lib.hid hS4
          clear hS4 HS3
          have HI2 := Lib.hid (show i + 1 < j by have := HD.out; have := HR2.out; omega)
          cases bl with
          | true =>
            have HC2 := Lib.hid (partitionEqual_u32 (c := c) HS4.out HB.out.1 HB.out.2.1 i j x HI2.out HR.out.2.1 HX.out.1 HX.out.2)
            go_wp2_with fail
            refine HC2.out.mono ?_
            rintro e w6 ⟨⟨m, rfl, hm1, hm2⟩, hS6⟩
            have HS6 := Lib.hid hS6
            have HM := Lib.hid (And.intro hm1 hm2)
            clear hS6 hm1 hm2
            go_wp2_with fail
            go_roundw
            case rel => exact ⟨m, j, l', wb, wp, ⟨HM.out.2, HR.out.2.1, HLL.out, by have := HR.out; have := HM.out; omega⟩, rfl, rfl, rfl, rfl, rfl, HS6.out⟩
            case measure => have := HM.out; simp [intOf]; omega
          | false =>
            have HC2 := Lib.hid (partition_u32 (c := c) HS4.out HB.out.1 HB.out.2.1 i j x HI2.out HR.out.2.1 HX.out.1 HX.out.2)
            go_wp2_with fail
            refine HC2.out.mono ?_
            rintro e w6 ⟨⟨m, r, rfl, hm1, hm2⟩, hS6⟩
            have HS6 := Lib.hid hS6
            obtain ⟨lL, hlL⟩ : ∃ lL, m = i + lL := ⟨m - i, by omega⟩
            obtain ⟨lR, hlR⟩ : ∃ lR, j = m + lR := ⟨j - m, by omega⟩
            have t1 : IntKind.i64.wrap ((m : Int) - (i : Int)) = (lL : Int) := by rw [IntWalk.i64_in _ (by have := HR.out; have := HB.out; omega)]; omega
            have t2 : IntKind.i64.wrap ((j : Int) - (m : Int)) = (lR : Int) := by rw [IntWalk.i64_in _ (by have := HR.out; have := HB.out; omega)]; omega
            have t3 : IntKind.i64.wrap ((m : Int) + 1) = ((m + 1 : Nat) : Int) := by rw [IntWalk.i64_in _ (by have := HR.out; have := HB.out; omega)]; omega
            have d0 : (0 : Int) ≤ (d : Int) := by omega
            obtain ⟨q, hq⟩ : ∃ q, q = d / 8 := ⟨_, rfl⟩
            have t4 : (d : Int) / 8 = (q : Int) := by omega
            have t5 : IntKind.i64.wrap (q : Int) = (q : Int) := IntWalk.i64_in _ (by have := HR.out; have := HB.out; have := HD.out; omega)
            have HM := Lib.hid (And.intro hm1 hm2)
            clear hS6 hm1 hm2 hlL hlR hq
            obtain ⟨m1, hm1⟩ : ∃ m1, m1 = m + 1 := ⟨_, rfl⟩
            rw [← hm1] at t3
            have HM1 := Lib.hid hm1
            clear hm1
            by_cases hlr : lL < lR
            · have hlr' : (lL : Int) < (lR : Int) := by omega
              have HC3 := Lib.hid (IH.out i m l' w6 HS6.out (by have := HR.out; have := HM.out; omega) HM.out.1 (by have := HR.out; have := HM.out; omega) HLL.out)
              clear hlr
              go_wp2_with fail
              refine HC3.out.mono ?_
              rintro e w7 ⟨rfl, hS7⟩
              have HS7 := Lib.hid hS7
              clear hS7
              go_wp2_with fail
              go_roundw
              case rel => exact ⟨m1, j, l', _, r, ⟨by have := HM.out; have := HM1.out; omega, HR.out.2.1, HLL.out, by have := HR.out; have := HM.out; have := HM1.out; omega⟩, rfl, rfl, rfl, rfl, rfl, HS7.out⟩
              case measure => have := HM.out; have := HM1.out; simp [intOf]; omega
            · have hlr' : ¬ (lL : Int) < (lR : Int) := by omega
              have HC3 := Lib.hid (IH.out m1 j l' w6 HS6.out (by have := HR.out; have := HM.out; have := HM1.out; omega) (by have := HM.out; have := HM1.out; omega) HR.out.2.1 HLL.out)
              clear hlr
              go_wp2_with fail
              refine HC3.out.mono ?_
              rintro e w7 ⟨rfl, hS7⟩
              have HS7 := Lib.hid hS7
              clear hS7
              go_wp2_with fail
              go_roundw
              case rel => exact ⟨i, m, l', _, r, ⟨HM.out.1, by have := HR.out; have := HM.out; omega, HLL.out, by have := HR.out; have := HM.out; omega⟩, rfl, rfl, rfl, rfl, rfl, HS7.out⟩
              case measure => have := HM.out; simp [intOf]; omega
set_option maxRecDepth 100000 in
set_option maxHeartbeats 4000000 in
theorem sort_u32 {g n c : Nat} {w : World} {xs : List Nat} (h : Rw32 w g xs) (hn : xs.length = n) (hn2 : n ≤ 1000000) :
    Calls Tryz.prog 89 #[.slice (some ⟨g, 0, none⟩) n c] w fun e w' => e = .returned (.tuple #[]) ∧ St32 g w xs w' := by
  have HL := Lib.hid (bitsLen_n n hn2 w)
  have hk := Lib.bitLen_le n 64 (by omega) (by omega)
  have HC := Lib.hid (pdq_u32 (g := g) (c := c) (w0 := w) hn hn2 (n + 1) 0 n (Lib.bitLen n) w h.st (by omega) (by omega) (by omega) hk)
  have s0 : IntKind.u64.wrap (n : Int) = (n : Int) := by rw [IntKind.wrap_u64]; omega
  clear h hn hk
  go_enter Tryz.func89, Tryz.ntmps89
  go_wp2_with fail
  refine HL.out.mono ?_
  rintro e w' ⟨rfl, rfl⟩
  go_wp2_with fail
  refine HC.out.mono ?_
  rintro e w2 ⟨rfl, hS⟩
  have HS := Lib.hid hS
  clear hS
  go_wp2_with fail
  go_end0
  exact ⟨rfl, HS.out⟩

set_option maxRecDepth 100000 in
set_option maxHeartbeats 4000000 in
theorem insertion_none32 {w : World} :
    Calls Tryz.prog 121 #[.slice none 0 0, .int .i64 0, .int .i64 0] w fun e w' => e = .returned (.tuple #[]) ∧ w' = w := by
  go_enter Tryz.func121, Tryz.ntmps121
  go_wp2_with fail
  go_loopw [6] (fun u6 wr => u6 = .int .i64 1 ∧ wr = w) (fun u6 _ => 1 - (intOf u6).toNat)
  case atStart => exact ⟨rfl, rfl⟩
  case round =>
    obtain ⟨rfl, rfl⟩ := hrel
    go_wp2_with fail
    go_end0
    exact ⟨rfl, rfl⟩

set_option maxRecDepth 100000 in
set_option maxHeartbeats 4000000 in
theorem pdq_none32 {w : World} (l : Nat) :
    Calls Tryz.prog 112 #[.slice none 0 0, .int .i64 0, .int .i64 0, .int .i64 (l : Int)] w fun e w' => e = .returned (.tuple #[]) ∧ w' = w := by
  go_enter Tryz.func112, Tryz.ntmps112
  go_wp2_with fail
  go_loopw [1, 2, 8, 9, 10, 11, 12, 13, 14, 15, 16, 17, 18] (fun u1 u2 _ _ _ _ _ _ _ _ _ _ _ wr => u1 = .int .i64 0 ∧ u2 = .int .i64 0 ∧ wr = w) (fun _ _ _ _ _ _ _ _ _ _ _ _ _ _ => 0)
  case atStart => exact ⟨rfl, rfl, rfl⟩
  case round =>
    obtain ⟨rfl, rfl, rfl⟩ := hrel
    go_wp2_with fail
    refine (insertion_none32 (w := wr)).mono ?_
    rintro e w2 ⟨rfl, rfl⟩
    go_wp2_with fail
    refine bodyPost_ret (results_none rfl _ _ _) rfl ?_
    exact ⟨rfl, rfl⟩

set_option maxRecDepth 100000 in
set_option maxHeartbeats 4000000 in
theorem sort_none32 {w : World} :
    Calls Tryz.prog 89 #[.slice none 0 0] w fun e w' => e = .returned (.tuple #[]) ∧ w' = w := by
  have HL := Lib.hid (bitsLen_n 0 (by omega) w)
  go_enter Tryz.func89, Tryz.ntmps89
  go_wp2_with fail
  refine HL.out.mono ?_
  rintro e w' ⟨rfl, rfl⟩
  go_wp2_with fail
  refine (pdq_none32 (w := w') _).mono ?_
  rintro e w2 ⟨rfl, rfl⟩
  go_wp2_with fail
  go_end0
  exact ⟨rfl, rfl⟩
end Go.Proofs.YtejhbaeeaejcaaaGreat
