/- The walks of crc.Sum.Add and crc.Of (of one piece). Conditions: those of each theorem. -/
import Derived.Test.YtljbehndnledpaaCrcTurn
import Derived.Test.YtljbehndnledpaaRle
namespace Go.Proofs.Ytljbehndnledpaa
open Go.RowKit

theorem not_u32 (m : Nat) (h : m < 4294967296) : bits .xor .u32 IntKind.u32.max (m : Int) = ((m ^^^ 4294967295 : Nat) : Int) := by
  rw [show IntKind.u32.max = ((4294967295 : Nat) : Int) from rfl, u32_xor_nat _ _ (by omega) h, Nat.xor_comm]

theorem crcGo_snoc (m : Nat) (l : List UInt8) (k : Nat) (c : UInt8) (hc : l[k]? = some c) : crcGo m (l.take (k + 1)) = crcByte (crcGo m (l.take k)) c := by
  rw [List.take_add_one, hc]
  simp [crcGo, List.foldl_append]

set_option maxRecDepth 100000 in
set_option maxHeartbeats 1000000 in
theorem add_any (p s : Nat) (a : Option Addr) (n cap : Nat) (l : List UInt8) (w : World) (h : Bs w a n l) (hs : s < 4294967296) (hn : n ≤ 1000000000) (hc : w.cell? ⟨p, 0, none⟩ = some (.int .u32 (s : Int))) (hf : w.frozen? ⟨p, 0, none⟩ = false) :
    Calls Try.prog 190 #[.pointer (some ⟨p, 0, none⟩), .slice a n cap] w fun e w' => (∃ v, e = .returned v) ∧ w' = w.setCell ⟨p, 0, none⟩ (.int .u32 (crcGo (s ^^^ 4294967295) l ^^^ 4294967295 : Nat)) := by
  have h1 := not_u32 s hs
  obtain ⟨m, hm⟩ : ∃ m, m = s ^^^ 4294967295 := ⟨_, rfl⟩
  have hml : m < 4294967296 := by rw [hm]; exact Nat.xor_lt_two_pow (n := 32) (by omega) (by omega)
  rw [← hm] at h1 ⊢
  clear hm
  have HB := Lib.hid h
  have HL := Lib.hid h.length
  clear h
  go_enter Try.func190, Try.ntmps190
  go_wp2_with fail
  go_loop [4, 14] (fun u4 u14 => ∃ k : Nat, k ≤ n ∧ u14 = .int .i64 k ∧ u4 = .int .u32 (crcGo m (l.take k) : Nat)) (fun _ u14 => n - (intOf u14).toNat)
  case atStart => exact ⟨0, by omega, rfl, rfl⟩
  case round =>
    obtain ⟨k, hk, rfl, rfl⟩ := hrel
    have hgl := crcGo_lt (l.take k) hml
    by_cases hlt : k < n
    · obtain ⟨b, o, c, rfl, hcc, hck, _⟩ := Bs.cell HB.out k hlt
      have HN := Lib.hid (crcGo_snoc m l k c hcc)
      generalize crcGo m (l.take k) = g at *
      clear hcc
      go_wp2_with fail
      refine (turn_any g c w hgl).mono ?_
      rintro e w1 ⟨rfl, rfl⟩
      go_wp2_with fail
      exact ⟨⟨k + 1, by omega, by go_num, by rw [HN.out]⟩, by simp [intOf]; omega⟩
    · have hkn : k = n := by omega
      subst hkn
      have ht : l.take k = l := List.take_of_length_le (by rw [HL.out]; omega)
      rw [ht] at hgl ⊢
      have h2 := not_u32 _ hgl
      obtain ⟨g, hg⟩ : ∃ g, g = crcGo m l := ⟨_, rfl⟩
      rw [← hg] at hgl h2 ⊢
      have HG := Lib.hid hg
      clear hg ht
      go_wp2_with fail
      go_end0
      exact ⟨⟨_, rfl⟩, by rw [HG.out]⟩

set_option maxRecDepth 100000 in
set_option maxHeartbeats 1000000 in
theorem crcOf_any (b o n cap n0 : Nat) (a : Option Addr) (l : List UInt8) (w : World) (h : Bs w a n l) (hn : n ≤ 1000000000) (hc : w.cell? ⟨b, o, none⟩ = some (.slice a n cap)) :
    Calls Try.prog 159 #[.slice (some ⟨b, o, none⟩) 1 n0] w fun e w' => e = .returned (.int .u32 (crcL l : Nat)) ∧ Below w.heap.size w w' := by
  have HB := Lib.hid h
  have HC := Lib.hid hc
  have hbl : b < w.heap.size := World.block_lt_of_cell? w _ hc
  have hb0 : Below w.heap.size w (w.alloc (.cells #[.int .u32 0] 286)) := (Below.refl _ _).alloc (Nat.le_refl _) _
  have c0 : (w.alloc (.cells #[.int .u32 0] 286)).cell? ⟨w.heap.size, 0, none⟩ = some (.int .u32 ((0 : Nat) : Int)) := by simp
  have f0 : (w.alloc (.cells #[.int .u32 0] 286)).frozen? ⟨w.heap.size, 0, none⟩ = false := by simp
  clear h hc
  go_enter Try.func159, Try.ntmps159
  go_wp2_with fail
  generalize w.alloc (.cells #[.int .u32 0] 286) = w1 at *
  go_loopw [10] (fun u10 wr => (u10 = .int .i64 0 ∧ wr = w1) ∨ (u10 = .int .i64 1 ∧ wr = w1.setCell ⟨w.heap.size, 0, none⟩ (.int .u32 (crcL l : Nat)))) (fun u10 _ => 1 - (intOf u10).toNat)
  case atStart => exact .inl ⟨rfl, rfl⟩
  case round =>
    rcases hrel with ⟨rfl, rfl⟩ | ⟨rfl, rfl⟩
    · have hc : wr.cell? ⟨b, o, none⟩ = some (.slice a n cap) := by rw [hb0.cell hbl]; exact HC.out
      have hbs : Bs wr a n l := HB.out.below hb0 (Nat.le_refl _)
      have hadd := add_any w.heap.size 0 a n cap l wr hbs (by omega) hn c0 f0
      have HA := Lib.hid hadd
      clear hbs hadd
      go_wp2_with fail
      refine HA.out.mono ?_
      rintro e w2 ⟨⟨v, rfl⟩, rfl⟩
      go_wp2_with fail
      exact ⟨.inr ⟨rfl, by unfold crcL; rfl⟩, by simp [intOf]⟩
    · have c1 : (w1.setCell ⟨w.heap.size, 0, none⟩ (.int .u32 (crcL l : Nat))).cell? ⟨w.heap.size, 0, none⟩ = some (.int .u32 (crcL l : Nat)) := World.cell?_setCell_same _ _ _ c0
      have hb1 : Below w.heap.size w (w1.setCell ⟨w.heap.size, 0, none⟩ (.int .u32 (crcL l : Nat))) := hb0.setCell (Nat.le_refl _) _
      generalize w1.setCell ⟨w.heap.size, 0, none⟩ (.int .u32 (crcL l : Nat)) = w2 at *
      go_wp2_with go_in
      go_ret
      exact ⟨rfl, hb1⟩
end Go.Proofs.Ytljbehndnledpaa
