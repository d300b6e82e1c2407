/- The walks of times.When, yesteryearref20.Right and When. Conditions: those of each theorem. -/
import Derived.BigQuiet
import Derived.Test.YtljbehndnledpaaStep
namespace Go.Proofs.Ytljbehndnledpaa
open Go.RowKit

/-- A slice of marks that reads. -/
def Marks (w : World) (a : Option Addr) (n : Nat) (l : List (Int × Int)) : Prop :=
  l.length = n ∧ ∀ i r, l[i]? = some r → ∃ b o, a = some ⟨b, o, none⟩ ∧ w.cell? ⟨b, o + i * 2, none⟩ = some (.int .u64 r.1) ∧ w.cell? ⟨b, o + i * 2 + 1, none⟩ = some (.int .u64 r.2)
theorem Marks.below {w w' : World} {C : Nat} {a : Option Addr} {n : Nat} {l : List (Int × Int)} (h : Marks w a n l) (hb : Below C w w') (hC : w.heap.size ≤ C) : Marks w' a n l := by
  refine ⟨h.1, fun i r hr => ?_⟩
  obtain ⟨b, o, ha, h1, h2⟩ := h.2 i r hr
  have hlt := World.block_lt_of_cell? _ _ h1
  refine ⟨b, o, ha, ?_, ?_⟩
  · rw [hb.cell (p := ⟨b, o + i * 2, none⟩) (by show b < C; simp at hlt; omega)]; exact h1
  · rw [hb.cell (p := ⟨b, o + i * 2 + 1, none⟩) (by show b < C; simp at hlt; omega)]; exact h2
/-- The time of a number. -/
def whenL (s : Int) : List (Int × Int) → Option Int
  | [] => none
  | r :: t => if s ≤ r.1 then some r.2 else whenL s t
theorem whenL_at {s : Int} {l : List (Int × Int)} {i : Nat} {r : Int × Int} (h : l[i]? = some r) : whenL s (l.drop i) = if s ≤ r.1 then some r.2 else whenL s (l.drop (i + 1)) := by
  have hi := (List.getElem?_eq_some_iff.1 h).1
  rw [List.drop_eq_getElem_cons hi, (List.getElem?_eq_some_iff.1 h).2]
  rfl

set_option maxRecDepth 100000 in
set_option maxHeartbeats 4000000 in
theorem when_any (a : Option Addr) (n c : Nat) (l : List (Int × Int)) (s : Int) (w : World) (h : Marks w a n l) (hn : n ≤ 9223372036854775807) :
    Calls Try.prog 147 #[.slice a n c, .int .u64 s] w fun e w' => e = .returned (.tuple #[.int .u64 ((whenL s l).getD 0), .bool (whenL s l).isSome]) ∧ Below w.heap.size w w' := by
  have H := Lib.hid h
  have HL := Lib.hid h.1
  clear h
  go_enter Try.func147, Try.ntmps147
  go_wp2_with fail
  go_loopw [10] (fun u10 wr => ∃ i : Nat, i ≤ n ∧ u10 = .int .i64 i ∧ Hid (whenL s l = whenL s (l.drop i)) ∧ Below w.heap.size w wr) (fun u10 _ => n - (intOf u10).toNat)
  case atStart => exact ⟨0, by omega, rfl, Lib.hid rfl, Below.refl _ _⟩
  case round =>
    obtain ⟨i, hi, rfl, HE, hbw⟩ := hrel
    by_cases hlt : i < n
    · obtain ⟨r, hr⟩ : ∃ r, l[i]? = some r := ⟨_, List.getElem?_eq_getElem (by rw [HL.out]; exact hlt)⟩
      obtain ⟨b, o, rfl, k0, k1⟩ := (H.out.below hbw (Nat.le_refl _)).2 i r hr
      have hw := whenL_at (s := s) hr
      have hb4 : Below wr.heap.size wr (wr.alloc (.cells #[.int .u64 r.1, .int .u64 r.2] 227)) := (Below.refl _ _).alloc (Nat.le_refl _) _
      have hbw4 := hbw.trans (hb4.mono hbw.size)
      have hi0 : (0 : Int) ≤ (i : Int) := by omega
      have hi1 : (i : Int) < (n : Int) := by omega
      have s1 : IntKind.i64.wrap ((i : Int) + 1) = (i : Int) + 1 := IntWalk.i64_in _ (by omega)
      obtain ⟨r1, r2⟩ := r
      simp only at *
      by_cases hs : s ≤ r1
      · rw [if_pos hs] at hw
        have HW := Lib.hid hw
        clear hw hr
        go_wp2_with fail
        go_ret2
        exact ⟨by rw [HE.out, HW.out]; rfl, hbw4⟩
      · rw [if_neg hs] at hw
        have HW := Lib.hid (HE.out.trans hw)
        clear hw hr
        go_wp2_with fail
        exact ⟨⟨i + 1, by omega, by go_num, HW, hbw4⟩, by simp [intOf]; omega⟩
    · obtain rfl : i = n := by omega
      have hw : whenL s l = none := by rw [HE.out, List.drop_eq_nil_of_le (Nat.le_of_eq HL.out)]; rfl
      have HW := Lib.hid hw
      clear hw
      go_wp2_with fail
      go_ret2
      exact ⟨by rw [HW.out]; rfl, hbw⟩

set_option maxRecDepth 100000 in
set_option maxHeartbeats 4000000 in
theorem refWhen_any (a : Option Addr) (n c : Nat) (l : List (Int × Int)) (s : Int) (w : World) (h : Marks w a n l) (hn : n ≤ 9223372036854775807) :
    Calls Try.prog 92 #[.slice a n c, .int .u64 s] w fun e w' => e = .returned (.tuple #[.int .u64 ((whenL s l).getD 0), .bool (whenL s l).isSome]) ∧ w' = w := by
  have H := Lib.hid h
  have HL := Lib.hid h.1
  clear h
  have s0 : IntKind.i64.wrap ((n : Int) - 1) = (n : Int) - 1 := IntWalk.i64_in _ (by omega)
  go_enter Try.func92, Try.ntmps92
  go_wp2_with fail
  go_loopw [6, 7, 8] (fun u6 u7 u8 wr => ∃ j : Nat, j ≤ n ∧ u8 = .int .i64 ((j : Int) - 1) ∧ u6 = .int .u64 ((whenL s (l.drop j)).getD 0) ∧ u7 = .bool (whenL s (l.drop j)).isSome ∧ wr = w) (fun _ _ u8 _ => (intOf u8 + 1).toNat)
  case atStart => exact ⟨n, by omega, rfl, by rw [List.drop_eq_nil_of_le (Nat.le_of_eq HL.out)]; rfl, by rw [List.drop_eq_nil_of_le (Nat.le_of_eq HL.out)]; rfl, rfl⟩
  case round =>
    obtain ⟨j, hj, rfl, rfl, rfl, rfl⟩ := hrel
    cases j with
    | succ j =>
      obtain ⟨r, hr⟩ : ∃ r, l[j]? = some r := ⟨_, List.getElem?_eq_getElem (by rw [HL.out]; omega)⟩
      obtain ⟨b, o, rfl, k0, k1⟩ := H.out.2 j r hr
      have hw := whenL_at (s := s) hr
      have ej : ((j + 1 : Nat) : Int) - 1 = (j : Int) := by omega
      rw [ej]
      have hi0 : (0 : Int) ≤ (j : Int) := by omega
      have hi1 : (j : Int) < (n : Int) := by omega
      have s1 : IntKind.i64.wrap ((j : Int) - 1) = (j : Int) - 1 := IntWalk.i64_in _ (by omega)
      obtain ⟨r1, r2⟩ := r
      simp only at *
      by_cases hs : s ≤ r1
      · rw [if_pos hs] at hw
        have HW := Lib.hid hw
        clear hw hr
        go_wp2_with fail
        exact ⟨⟨j, by omega, by go_num, by rw [HW.out]; rfl, by rw [HW.out]; rfl, trivial⟩, by simp [intOf]⟩
      · rw [if_neg hs] at hw
        have HW := Lib.hid hw
        clear hw hr
        go_wp2_with fail
        exact ⟨⟨j, by omega, by go_num, by rw [HW.out], by rw [HW.out], trivial⟩, by simp [intOf]⟩
    | zero =>
      go_wp2_with fail
      go_ret2
      exact ⟨by rw [List.drop_zero]; rfl, rfl⟩

set_option maxRecDepth 100000 in
set_option maxHeartbeats 4000000 in
theorem refRightM_any (a : Option Addr) (n c : Nat) (l : List (Int × Int)) (w : World) (h : Marks w a n l) (hn : n ≤ 9223372036854775807) :
    Calls Try.prog 90 #[.slice a n c] w fun e w' => (∃ r, e = .returned (.bool r)) ∧ Below w.heap.size w w' := by
  have H := Lib.hid h
  have HL := Lib.hid h.1
  clear h
  go_enter Try.func90, Try.ntmps90
  go_wp2_with fail
  go_loopw [3] (fun u3 wr => ∃ k : Nat, k ≤ n ∧ u3 = .int .i64 ((k : Int) + 1) ∧ Below w.heap.size w wr) (fun u3 _ => n - (intOf u3).toNat)
  case atStart => exact ⟨0, by omega, rfl, Below.refl _ _⟩
  case round =>
    obtain ⟨k, hk, rfl, hbw⟩ := hrel
    by_cases hlt : k + 1 < n
    · obtain ⟨r, hr⟩ : ∃ r, l[k]? = some r := ⟨_, List.getElem?_eq_getElem (by rw [HL.out]; omega)⟩
      obtain ⟨q, hq⟩ : ∃ r, l[k + 1]? = some r := ⟨_, List.getElem?_eq_getElem (by rw [HL.out]; omega)⟩
      obtain ⟨b, o, rfl, k0, k1⟩ := (H.out.below hbw (Nat.le_refl _)).2 k r hr
      obtain ⟨b', o', hbo, d0, d1⟩ := (H.out.below hbw (Nat.le_refl _)).2 (k + 1) q hq
      cases hbo
      have e1 : ((k + 1 : Nat) : Int) = (k : Int) + 1 := by omega
      have hi0 : (0 : Int) ≤ (k : Int) := by omega
      have hi1 : (k : Int) < (n : Int) := by omega
      have hi2 : (k : Int) + 1 < (n : Int) := by omega
      have hi3 : (0 : Int) ≤ (k : Int) + 1 := by omega
      have hi4 : ((k : Int) + 1).toNat = k + 1 := by omega
      have s1 : IntKind.i64.wrap ((k : Int) + 1 - 1) = (k : Int) := by rw [IntWalk.i64_in _ (by omega)]; omega
      have s2 : IntKind.i64.wrap ((k : Int) + 1 + 1) = (k : Int) + 1 + 1 := IntWalk.i64_in _ (by omega)
      obtain ⟨r1, r2⟩ := r
      obtain ⟨q1, q2⟩ := q
      simp only at *
      clear hr hq e1
      by_cases hs : q1 ≤ r1
      · go_wp2_with fail
        go_quiet (fail)
        all_goals
          have hbd := below_drewN hbw nq
          go_wp2_with fail
          go_ret
          exact ⟨⟨_, rfl⟩, hbd⟩
      · have hs' : decide (q1 ≤ r1) = false := by simp; omega
        by_cases ht : q2 ≤ r2
        · go_wp2_with fail
          go_quiet (fail)
          all_goals
            have hbd := below_drewN hbw nq
            go_wp2_with fail
            go_ret
            exact ⟨⟨_, rfl⟩, hbd⟩
        · have ht' : decide (q2 ≤ r2) = false := by simp; omega
          go_wp2_with fail
          go_quiet (fail)
          all_goals
            have hbd := below_drewN hbw nq
            go_wp2_with fail
            exact ⟨⟨k + 1, by omega, by go_num, hbd⟩, by simp [intOf]; omega⟩
    · have hi2 : ¬ ((k : Int) + 1 < (n : Int)) := by omega
      go_wp2_with fail
      go_ret
      exact ⟨by cases decide ((n : Int) ≤ 64) <;> simp, hbw⟩
end Go.Proofs.Ytljbehndnledpaa
