/- The walk of the law TextWords: it returns true and writes nothing that was there. No condition but that the argument reads as a text. -/
import Derived.Test.YtljbehndnledpaaSplit
import Derived.Test.YtljbehndnledpaaNumsLaw
namespace Go.Proofs.Ytljbehndnledpaa
open Go.RowKit

theorem OwnS.ss {w : World} {B : Nat} {v : Value} {l : List (List UInt8)} (h : OwnS w B v l) : ∃ a cap, v = .slice a l.length cap ∧ Ss w a l.length (l.map mkS) := by
  obtain ⟨a, cap, hv, hs, _⟩ := own_sl h
  refine ⟨a, cap, hv, ?_⟩
  unfold Ss
  rw [List.map_map]
  exact hs

set_option maxRecDepth 100000 in
set_option maxHeartbeats 1000000 in
theorem textWordsLaw (s : ByteArray) (w : World) :
    Calls Try.prog 7 #[.string s] w fun e w' => e = .returned (.bool true) ∧ Below w.heap.size w w' := by
  by_cases hbig : 500 < s.size
  · go_enter Try.func7, Try.ntmps7
    go_wp2_with fail
    go_ret
    exact ⟨rfl, Below.refl _ _⟩
  · have hwl : (wordsL s.data.toList).length ≤ 501 := by
      have h1 := List.length_filter_le (fun p : List UInt8 => !p.isEmpty) (pieces 32 s.data.toList)
      have h2 := pieces_len 32 s.data.toList
      rw [bytes_len] at h2
      unfold wordsL; omega
    have hll : (linesL s.data.toList).length ≤ 501 := by
      have h2 := pieces_len 10 s.data.toList
      rw [bytes_len] at h2
      unfold linesL
      split
      · have := (fwd_len 10 s.data.toList).1; rw [bytes_len] at this; omega
      · omega
    obtain ⟨W, hW⟩ : ∃ W, W = wordsL s.data.toList := ⟨_, rfl⟩
    obtain ⟨L, hL⟩ : ∃ L, L = linesL s.data.toList := ⟨_, rfl⟩
    rw [← hW] at hwl
    rw [← hL] at hll
    have HW := Lib.hid hW
    have HL := Lib.hid hL
    clear hW hL
    go_enter Try.func7, Try.ntmps7
    go_wp2_with fail
    refine (words_any s w (by omega)).mono ?_
    rintro e w1 ⟨v1, rfl, ho1, hb1⟩
    rw [← HW.out] at ho1
    obtain ⟨a1, c1, rfl, hs1⟩ := ho1.ss
    clear ho1
    go_wp2_with fail
    refine (refWords_any s w1 (by omega)).mono ?_
    rintro e w2 ⟨v2, rfl, ho2, hb2⟩
    rw [← HW.out] at ho2
    obtain ⟨a2, c2, rfl, hs2⟩ := ho2.ss
    clear ho2
    have hB2 := hb1.trans (hb2.mono hb1.size)
    go_wp2_with fail
    refine (sameS_any a1 a2 _ c1 c2 _ w2 (hs1.below hb2 (Nat.le_refl _)) hs2 (by omega)).mono ?_
    rintro e w3 ⟨rfl, hb3⟩
    have hB3 := hB2.trans (hb3.mono hB2.size)
    clear hs1 hs2
    go_wp2_with fail
    refine (lines_any s w3 (by omega)).mono ?_
    rintro e w4 ⟨v1, rfl, ho1, hb4⟩
    rw [← HL.out] at ho1
    obtain ⟨a3, c3, rfl, hs3⟩ := ho1.ss
    clear ho1
    have hB4 := hB3.trans (hb4.mono hB3.size)
    go_wp2_with fail
    refine (refLines_any s w4 (by omega)).mono ?_
    rintro e w5 ⟨v2, rfl, ho2, hb5⟩
    rw [← HL.out] at ho2
    obtain ⟨a4, c4, rfl, hs4⟩ := ho2.ss
    clear ho2
    have hB5 := hB4.trans (hb5.mono hB4.size)
    go_wp2_with fail
    refine (sameS_any a3 a4 _ c3 c4 _ w5 (hs3.below hb5 (Nat.le_refl _)) hs4 (by omega)).mono ?_
    rintro e w6 ⟨rfl, hb6⟩
    have hB6 := hB5.trans (hb6.mono hB5.size)
    go_wp2_with fail
    refine (textAlive w6).mono ?_
    rintro e w7 ⟨rfl, hb7⟩
    go_wp2_with fail
    go_ret
    exact ⟨rfl, hB6.trans (hb7.mono hB6.size)⟩
end Go.Proofs.Ytljbehndnledpaa
