/- The walks of script.small and yesteryearref29.small. Conditions: those of each theorem. -/
import Derived.Test.YtljbehndnledpaaOpGuessPlain
import Derived.Test.YtljbehndnledpaaRefRead
namespace Go.Proofs.Ytljbehndnledpaa
open Go.RowKit

theorem rd_cases (l : List UInt8) : ∃ (n er : Nat), rd l = (n, er) ∧ n < 18446744073709551616 ∧ (er = 0 ∨ er = 21 ∨ er = 50) ∧ smallL l = (if er = 0 ∧ n ≤ 65535 then (n : Int) else -1) := by
  refine ⟨(rd l).1, (rd l).2, rfl, by have := rd_lt l; omega, ?_, rfl⟩
  unfold rd
  repeat' split
  all_goals simp

set_option maxHeartbeats 1000000 in
theorem small_any (s : ByteArray) (w : World) (hs : s.size ≤ maxLen) :
    Calls Try.prog 169 #[.string s] w fun e w' => e = .returned (.int .i64 (smallL s.data.toList)) ∧ w = w' := by
  obtain ⟨n, er, h1, h2, h3, h4⟩ := rd_cases s.data.toList
  have hq := read_any s w hs
  rw [h1] at hq
  rw [h4]
  have HQ := Lib.hid hq
  clear h1 h4 hq
  by_cases he : er = 0
  · subst he
    by_cases hn : n ≤ 65535
    · rw [if_pos ⟨rfl, hn⟩]
      have hn2 : ¬ (65535 : Int) < n := by omega
      go_enter Try.func169, Try.ntmps169
      go_wp2_with fail
      refine HQ.out.mono ?_
      rintro e w1 ⟨rfl, rfl⟩
      go_wp2_with fail
      go_ret
      exact ⟨rfl, rfl⟩
    · rw [if_neg (fun h => hn h.2)]
      have hn2 : (65535 : Int) < n := by omega
      go_enter Try.func169, Try.ntmps169
      go_wp2_with fail
      refine HQ.out.mono ?_
      rintro e w1 ⟨rfl, rfl⟩
      go_wp2_with fail
      go_ret
      exact ⟨rfl, rfl⟩
  · rw [if_neg (fun h => he h.1)]
    have he2 : ((er : Int) != 0) = true := by rw [bne_iff_ne]; omega
    go_enter Try.func169, Try.ntmps169
    go_wp2_with fail
    refine HQ.out.mono ?_
    rintro e w1 ⟨rfl, rfl⟩
    go_wp2_with fail
    go_ret
    exact ⟨rfl, rfl⟩

set_option maxHeartbeats 1000000 in
theorem refSmall_any (s : ByteArray) (w : World) (hs : s.size ≤ maxLen) :
    Calls Try.prog 170 #[.string s] w fun e w' => e = .returned (.int .i64 (smallL s.data.toList)) ∧ w = w' := by
  obtain ⟨n, er, h1, h2, h3, h4⟩ := rd_cases s.data.toList
  have hq := refRead_any s w hs
  rw [h1] at hq
  rw [h4]
  have HQ := Lib.hid hq
  clear h1 h4 hq
  by_cases he : er = 0
  · subst he
    by_cases hn : n ≤ 65535
    · rw [if_pos ⟨rfl, hn⟩]
      have hn2 : ¬ (65535 : Int) < n := by omega
      go_enter Try.func170, Try.ntmps170
      go_wp2_with fail
      refine HQ.out.mono ?_
      rintro e w1 ⟨rfl, rfl⟩
      go_wp2_with fail
      go_ret
      exact ⟨rfl, rfl⟩
    · rw [if_neg (fun h => hn h.2)]
      have hn2 : (65535 : Int) < n := by omega
      go_enter Try.func170, Try.ntmps170
      go_wp2_with fail
      refine HQ.out.mono ?_
      rintro e w1 ⟨rfl, rfl⟩
      go_wp2_with fail
      go_ret
      exact ⟨rfl, rfl⟩
  · rw [if_neg (fun h => he h.1)]
    have he2 : ((er : Int) != 0) = true := by rw [bne_iff_ne]; omega
    go_enter Try.func170, Try.ntmps170
    go_wp2_with fail
    refine HQ.out.mono ?_
    rintro e w1 ⟨rfl, rfl⟩
    go_wp2_with fail
    go_ret
    exact ⟨rfl, rfl⟩
end Go.Proofs.Ytljbehndnledpaa
