/- The walk of yesteryearref13.Right. Conditions: those of the theorem. -/
import Derived.Test.YtljbehndnledpaaOpMay
import Derived.Deep.RegionHeld3
import Derived.Test.YtljbehndnledpaaStep
namespace Go.Proofs.Ytljbehndnledpaa
open Go.RowKit

theorem looks_all (k : Int) : ((looksL k).all fun c => c == 118 || c == 105 || c == 98 || c == 110 || c == 112 || c == 100 || c == 109) = true ∧ (looksL k).length ≤ 3 := by
  by_cases hk : 1 ≤ k ∧ k ≤ 19
  · rcases kinds k hk.1 hk.2 with rfl | rfl | rfl | rfl | rfl | rfl | rfl | rfl | rfl | rfl | rfl | rfl | rfl | rfl | rfl | rfl | rfl | rfl | rfl <;> decide
  · rw [looks_out k hk]; decide
theorem looks_letters (k : Int) (c : UInt8) (h : c ∈ looksL k) : c = 118 ∨ c = 105 ∨ c = 98 ∨ c = 110 ∨ c = 112 ∨ c = 100 ∨ c = 109 := by
  have := List.all_eq_true.1 (looks_all k).1 c h
  simp only [Bool.or_eq_true, beq_iff_eq] at this
  rcases this with (((((h | h) | h) | h) | h) | h) | h <;> simp [h]

set_option maxRecDepth 100000 in
set_option maxHeartbeats 4000000 in
theorem refRightO_any (k v i b n pt : Int) (da ma : Option Addr) (dn dc mn mc : Nat) (mem : List Int) (w : World) (hm : Is .i64 w ma mn mem) (hmn : mn ≤ 1000000000) :
    Calls Try.prog 60 #[.agg #[.int .i64 k, .int .i64 v, .int .i64 i, .int .i64 b, .int .i64 n, .int .u64 pt, .slice da dn dc, .slice ma mn mc]] w fun e w' => e = .returned (.bool (rightO k v i b n dn mem)) ∧ Below w.heap.size w w' := by
  have hb : Below w.heap.size w (w.alloc (.cells #[.int .i64 k, .int .i64 v, .int .i64 i, .int .i64 b, .int .i64 n, .int .u64 pt, .slice da dn dc, .slice ma mn mc] 80)) := (Below.refl _ _).alloc (Nat.le_refl _) _
  have hlet := looks_letters k
  have hL3 := (looks_all k).2
  have c0 : (w.alloc (.cells #[.int .i64 k, .int .i64 v, .int .i64 i, .int .i64 b, .int .i64 n, .int .u64 pt, .slice da dn dc, .slice ma mn mc] 80)).cell? ⟨w.heap.size, 0, none⟩ = some (.int .i64 k) := by simp
  have c1 : (w.alloc (.cells #[.int .i64 k, .int .i64 v, .int .i64 i, .int .i64 b, .int .i64 n, .int .u64 pt, .slice da dn dc, .slice ma mn mc] 80)).cell? ⟨w.heap.size, 1, none⟩ = some (.int .i64 v) := by simp
  have c2 : (w.alloc (.cells #[.int .i64 k, .int .i64 v, .int .i64 i, .int .i64 b, .int .i64 n, .int .u64 pt, .slice da dn dc, .slice ma mn mc] 80)).cell? ⟨w.heap.size, 2, none⟩ = some (.int .i64 i) := by simp
  have c3 : (w.alloc (.cells #[.int .i64 k, .int .i64 v, .int .i64 i, .int .i64 b, .int .i64 n, .int .u64 pt, .slice da dn dc, .slice ma mn mc] 80)).cell? ⟨w.heap.size, 3, none⟩ = some (.int .i64 b) := by simp
  have c4 : (w.alloc (.cells #[.int .i64 k, .int .i64 v, .int .i64 i, .int .i64 b, .int .i64 n, .int .u64 pt, .slice da dn dc, .slice ma mn mc] 80)).cell? ⟨w.heap.size, 4, none⟩ = some (.int .i64 n) := by simp
  have c5 : (w.alloc (.cells #[.int .i64 k, .int .i64 v, .int .i64 i, .int .i64 b, .int .i64 n, .int .u64 pt, .slice da dn dc, .slice ma mn mc] 80)).cell? ⟨w.heap.size, 5, none⟩ = some (.int .u64 pt) := by simp
  have c6 : (w.alloc (.cells #[.int .i64 k, .int .i64 v, .int .i64 i, .int .i64 b, .int .i64 n, .int .u64 pt, .slice da dn dc, .slice ma mn mc] 80)).cell? ⟨w.heap.size, 6, none⟩ = some (.slice da dn dc) := by simp
  have c7 : (w.alloc (.cells #[.int .i64 k, .int .i64 v, .int .i64 i, .int .i64 b, .int .i64 n, .int .u64 pt, .slice da dn dc, .slice ma mn mc] 80)).cell? ⟨w.heap.size, 7, none⟩ = some (.slice ma mn mc) := by simp
  have hlt : w.heap.size < (w.alloc (.cells #[.int .i64 k, .int .i64 v, .int .i64 i, .int .i64 b, .int .i64 n, .int .u64 pt, .slice da dn dc, .slice ma mn mc] 80)).heap.size := by simp
  have HM := Lib.hid hm
  have hlk := looks_any k (w.alloc (.cells #[.int .i64 k, .int .i64 v, .int .i64 i, .int .i64 b, .int .i64 n, .int .u64 pt, .slice da dn dc, .slice ma mn mc] 80))
  have hR : rightO k v i b n dn mem = ((decide (1 ≤ k) && decide (k ≤ 19)) && (looksL k).all (mayO v i b n dn mem)) := rfl
  obtain ⟨r, hr⟩ : ∃ r, r = rightO k v i b n dn mem := ⟨_, rfl⟩
  rw [← hr] at hR ⊢
  generalize (decide (1 ≤ k) && decide (k ≤ 19)) = q at *
  generalize looksL k = L at *
  have HR := Lib.hid hR
  have HLET := Lib.hid hlet
  have HLK := Lib.hid hlk
  clear hm hR hr hlet hlk
  go_enter Try.func60, Try.ntmps60
  go_wp2_with fail
  generalize w.alloc (.cells #[.int .i64 k, .int .i64 v, .int .i64 i, .int .i64 b, .int .i64 n, .int .u64 pt, .slice da dn dc, .slice ma mn mc] 80) = w1 at *
  refine HLK.out.mono ?_
  rintro e w2 ⟨rfl, hb2⟩
  go_wp2_with fail
  go_loopw [4, 5] (fun u4 u5 wr => ∃ j : Nat, j ≤ L.length ∧ u5 = .int .i64 j ∧ u4 = .bool (q && (L.take j).all (mayO v i b n dn mem)) ∧ Below w1.heap.size w1 wr) (fun _ u5 _ => L.length - (intOf u5).toNat)
  case atStart => exact ⟨0, by omega, rfl, by simp, hb2⟩
  case round =>
    obtain ⟨j, hj, rfl, rfl, hbw⟩ := hrel
    by_cases hlt2 : j < L.length
    · obtain ⟨c, hc⟩ : ∃ c, L[j]? = some c := ⟨_, List.getElem?_eq_getElem hlt2⟩
      have hcb : ∀ h : j < (⟨L.toArray⟩ : ByteArray).size, (⟨L.toArray⟩ : ByteArray)[j]'h = c := fun h => by
        have e : (⟨L.toArray⟩ : ByteArray)[j]'h = L[j]'hlt2 := rfl
        rw [e]
        rw [List.getElem?_eq_getElem hlt2] at hc
        exact Option.some.inj hc
      have hnx : (q && (L.take (j + 1)).all (mayO v i b n dn mem)) = ((q && (L.take j).all (mayO v i b n dn mem)) && mayO v i b n dn mem c) := by
        rw [List.take_add_one, hc, List.all_append, Bool.and_assoc]; simp
      have HNX := Lib.hid hnx
      have hlet := HLET.out c (List.mem_of_getElem? hc)
      generalize (q && (L.take j).all (mayO v i b n dn mem)) = ok at *
      have d0 : wr.cell? ⟨w.heap.size, 0, none⟩ = some (.int .i64 k) := by rw [hbw.cell hlt]; exact c0
      have d1 : wr.cell? ⟨w.heap.size, 1, none⟩ = some (.int .i64 v) := by rw [hbw.cell hlt]; exact c1
      have d2 : wr.cell? ⟨w.heap.size, 2, none⟩ = some (.int .i64 i) := by rw [hbw.cell hlt]; exact c2
      have d3 : wr.cell? ⟨w.heap.size, 3, none⟩ = some (.int .i64 b) := by rw [hbw.cell hlt]; exact c3
      have d4 : wr.cell? ⟨w.heap.size, 4, none⟩ = some (.int .i64 n) := by rw [hbw.cell hlt]; exact c4
      have d5 : wr.cell? ⟨w.heap.size, 5, none⟩ = some (.int .u64 pt) := by rw [hbw.cell hlt]; exact c5
      have d6 : wr.cell? ⟨w.heap.size, 6, none⟩ = some (.slice da dn dc) := by rw [hbw.cell hlt]; exact c6
      have d7 : wr.cell? ⟨w.heap.size, 7, none⟩ = some (.slice ma mn mc) := by rw [hbw.cell hlt]; exact c7
      have hmw : Is .i64 wr.drew ma mn mem := Is.below HM.out (hb.trans (hbw.mono hb.size)).drew (Nat.le_refl _)
      have hj0 : (0 : Int) ≤ (j : Int) := by omega
      have hj1 : (j : Int) < (L.length : Int) := by omega
      have hmay := may_any k v i b n pt da ma dn dc mn mc mem c wr.drew hmw hmn hlet
      have HMAY := Lib.hid hmay
      clear hmay hmw hlet hnx
      cases ok
      · go_wp2_with fail
        go_quiet (fail)
        all_goals
          have hbd := fun nq => below_drewN hbw nq
          go_wp2_with fail
          exact ⟨⟨j + 1, by omega, by go_num, by rw [HNX.out]; simp, hbd _⟩, by simp [intOf]; omega⟩
      · go_wp2_with fail
        first
          | (go_region_held3 (fun w' => w'.cell? ⟨w.heap.size, 0, none⟩ = some (.int .i64 k) ∧ w'.cell? ⟨w.heap.size, 1, none⟩ = some (.int .i64 v) ∧ w'.cell? ⟨w.heap.size, 2, none⟩ = some (.int .i64 i) ∧ w'.cell? ⟨w.heap.size, 3, none⟩ = some (.int .i64 b) ∧ w'.cell? ⟨w.heap.size, 4, none⟩ = some (.int .i64 n) ∧ w'.cell? ⟨w.heap.size, 5, none⟩ = some (.int .u64 pt) ∧ w'.cell? ⟨w.heap.size, 6, none⟩ = some (.slice da dn dc) ∧ w'.cell? ⟨w.heap.size, 7, none⟩ = some (.slice ma mn mc))
              (first | exact hHeld | exact HS3 | go_keep)
              (first
               | (refine step_call (o := ⟨some 24, _, _, _, _, _⟩) (by kernel_rfl) 123 Try.func123 (by kernel_rfl) rfl _ _ rfl #[.agg #[.int .i64 k, .int .i64 v, .int .i64 i, .int .i64 b, .int .i64 n, .int .u64 pt, .slice da dn dc, .slice ma mn mc], .int .u8 (c.toNat : Int)] (by simp [Act.eval]) HMAY.out ?_
                  rintro e w3 ⟨rfl, hb3⟩
                  refine ⟨_, rfl, ?_⟩
                  have hb4 : Below w1.heap.size w1 w3 := hbw.trans (((Below.refl wr.heap.size wr).drew.trans hb3).mono hbw.size)
                  have HS3 : w3.cell? ⟨w.heap.size, 0, none⟩ = some (.int .i64 k) ∧ w3.cell? ⟨w.heap.size, 1, none⟩ = some (.int .i64 v) ∧ w3.cell? ⟨w.heap.size, 2, none⟩ = some (.int .i64 i) ∧ w3.cell? ⟨w.heap.size, 3, none⟩ = some (.int .i64 b) ∧ w3.cell? ⟨w.heap.size, 4, none⟩ = some (.int .i64 n) ∧ w3.cell? ⟨w.heap.size, 5, none⟩ = some (.int .u64 pt) ∧ w3.cell? ⟨w.heap.size, 6, none⟩ = some (.slice da dn dc) ∧ w3.cell? ⟨w.heap.size, 7, none⟩ = some (.slice ma mn mc) := ⟨by rw [hb4.cell hlt]; exact c0, by rw [hb4.cell hlt]; exact c1, by rw [hb4.cell hlt]; exact c2, by rw [hb4.cell hlt]; exact c3, by rw [hb4.cell hlt]; exact c4, by rw [hb4.cell hlt]; exact c5, by rw [hb4.cell hlt]; exact c6, by rw [hb4.cell hlt]; exact c7⟩)))
          | fail "no region"
        all_goals
          go_wp2_with fail
          exact ⟨⟨j + 1, by omega, by go_num, by rw [HNX.out, Bool.true_and], hb4⟩, by simp [intOf]; omega⟩
    · have hje : j = L.length := by omega
      subst hje
      rw [List.take_length]
      rw [← HR.out]
      go_wp2_with fail
      go_ret
      exact ⟨rfl, hb.trans (hbw.mono hb.size)⟩
end Go.Proofs.Ytljbehndnledpaa
