/- The walks of yesteryearlaw63.made, runs and of slices.Equal at runs. Conditions: those of each theorem. -/
import Derived.Test.YtljbehndnledpaaBitmap2
namespace Go.Proofs.Ytljbehndnledpaa
open Go.RowKit

/-- A map of n blocks in memory that has just the blocks of which f says yes. -/
def BmF (w : World) (m g n : Nat) (f : Nat → Bool) : Prop := ∃ T, Bmap w m g n T ∧ ∀ j, j < n → bitOf T j = f j
theorem BmF.below {w w' : World} {C m g n : Nat} {f : Nat → Bool} (h : BmF w m g n f) (hb : Below C w w') (hC : w.heap.size ≤ C) : BmF w' m g n f := by
  obtain ⟨T, h1, h2⟩ := h
  exact ⟨T, h1.below hb hC, h2⟩
/-- Is a number among numbers? -/
def among (zs : List Int) (j : Nat) : Bool := zs.contains (j : Int)
theorem bitOf_zero (L j : Nat) : bitOf (List.replicate L 0) j = false := by
  have : (List.replicate L (0 : UInt8)).getD (j / 8) 0 = 0 := by
    rw [List.getD_eq_getElem?_getD, List.getElem?_replicate]
    split <;> rfl
  unfold bitOf
  rw [this]
  simp

def MadeRel (w : World) (n : Nat) (zs : List Int) (u : Value) (wr : World) : Prop := ∃ m g, u = .pointer (some ⟨m, 0, none⟩) ∧ w.heap.size ≤ m ∧ w.heap.size ≤ g ∧ BmF wr m g n (among zs) ∧ Below w.heap.size w wr

set_option maxRecDepth 100000 in
set_option maxHeartbeats 4000000 in
theorem made_any (n k c : Nat) (a : Option Addr) (zs : List Int) (w : World) (h : Is .i64 w a k zs) (hn : n ≤ 4096) (hk : k ≤ 1000000) :
    Calls Try.prog 72 #[.int .i64 (n : Int), .slice a k c] w fun e w' => ∃ v, e = .returned v ∧ MadeRel w n zs v w' := by
  have HZ := Lib.hid h
  have HZL := Lib.hid h.len
  clear h
  go_enter Try.func72, Try.ntmps72
  go_wp2_with fail
  refine (bmNew_any n w hn).mono ?_
  rintro e w1 ⟨v, rfl, m, g, rfl, hbm, hm, hg, hb1⟩
  have hF : BmF w1 m g n (among (zs.take 0)) := ⟨_, hbm, fun j _ => by rw [bitOf_zero]; simp [among]⟩
  have HF := Lib.hid hF
  clear hbm hF
  go_wp2_with fail
  go_loopw [7] (fun u7 wr => ∃ i : Nat, i ≤ k ∧ u7 = .int .i64 i ∧ BmF wr m g n (among (zs.take i)) ∧ Below w.heap.size w wr) (fun u7 _ => k - (intOf u7).toNat)
  case atStart => exact ⟨0, by omega, rfl, HF.out, hb1⟩
  case round =>
    obtain ⟨i, hi, rfl, hbf, hbw⟩ := hrel
    by_cases hlt : i < k
    · obtain ⟨b, o, x, rfl, hx, hcx⟩ := Is.cell (Is.below HZ.out hbw (Nat.le_refl _)) i hlt
      obtain ⟨T, hT, hTf⟩ := hbf
      have hset := bmSet_any m g n T x wr hT (by omega)
      have hnx : ∀ j, among (zs.take (i + 1)) j = (among (zs.take i) j || decide (x = (j : Int))) := by
        intro j
        unfold among
        rw [List.take_add_one, hx, Option.toList_some, List.contains_eq_any_beq, List.contains_eq_any_beq, List.any_append]
        congr 1
        rw [Bool.eq_iff_iff]
        simp
        omega
      have HS := Lib.hid hset
      have HNX := Lib.hid hnx
      have HTF := Lib.hid hTf
      have hi0 : (0 : Int) ≤ (i : Int) := by omega
      have hi1 : (i : Int) < (k : Int) := by omega
      clear hx hT hTf hset hnx
      go_wp2_with fail
      refine HS.out.mono ?_
      rintro e w2 ⟨⟨bb, rfl⟩, T', hT', hTf', hgr⟩
      have hbw' : Below w.heap.size w w2 := hbw.grown hgr hbw.size (fun q hq => by cases hq; exact hg)
      have hF : BmF w2 m g n (among (zs.take (i + 1))) := ⟨T', hT', fun j hj => by
        rw [hTf', HNX.out, HTF.out j hj]
        simp [hj]⟩
      have HF2 := Lib.hid hF
      clear hT' hTf' hgr hF
      go_wp2_with fail
      exact ⟨⟨i + 1, by omega, by go_num, HF2.out, hbw'⟩, by simp [intOf]; omega⟩
    · obtain rfl : i = k := by omega
      have htk : zs.take i = zs := List.take_of_length_le (Nat.le_of_eq HZL.out)
      rw [htk] at hbf
      go_wp2_with fail
      go_ret
      exact ⟨_, rfl, m, g, rfl, hm, hg, hbf, hbw⟩
end Go.Proofs.Ytljbehndnledpaa
