/- The walk of the law SearchFirst: it returns true and writes nothing that was there. Condition: the slice and the number read as integers. -/
import Derived.Test.YtljbehndnledpaaSearch
namespace Go.Proofs.Ytljbehndnledpaa
open Go.RowKit

theorem AskIn.below {b : Nat} {f n : Int} {w wr : World} {B : Nat} (h : AskIn b f n w wr) (hb : B ≤ b) (hB : B ≤ w.heap.size) : Below B w wr :=
  ⟨h.gr.os, h.gr.tape, h.gr.output, h.gr.size, fun k hk => h.gr.block k (by omega) (by simp; omega)⟩

set_option maxHeartbeats 400000 in
theorem searchAlive (w : World) : Calls Try.prog 20 #[] w fun e w' => e = .returned (.bool true) ∧ Below w.heap.size w w' := by
  go_enter Try.func20, Try.ntmps20
  go_wp2_with fail
  refine (first_any w.heap.size (some ⟨w.heap.size + 1, 0, none⟩) 3 3 [1, 5, 9] 4 _ ⟨by simp [go_sem], by simp [go_sem], by simp [go_sem], World.grownBy.refl _ _⟩ (by omega) ?_ ?_ ?_).mono ?_
  · rintro a ⟨⟩ _; simp
  · refine Is.mk' rfl fun i hi => ?_
    match i, hi with
    | 0, _ => simp [go_sem]
    | 1, _ => simp [go_sem]
    | 2, _ => simp [go_sem]
  · intro i j hij hj
    match i, j, hij, hj with
    | 0, 1, _, _ => simp
    | 0, 2, _, _ => simp
    | 1, 2, _, _ => simp
    | _ + 2, _, _, _ => omega
  · rintro e w' ⟨k, n, hk, h1, h2, rfl, h3, h4, h5, h6⟩
    have hn : n ≤ 3 := by have := bl_le 3; omega
    have hk1 : k = 1 := by
      by_cases h0 : k = 0
      · subst h0; have := h2 0 (by omega) (by omega); simp at this
      · by_cases h : 1 < k
        · have := h1 1 h; simp at this
        · omega
    subst hk1
    have hc := h3.c1
    have hb : Below w.heap.size w w' := ((Below.refl _ _).alloc (Nat.le_refl _) _).alloc (by simp) _ |>.trans (h3.below (by omega) (by simp; omega))
    have h6 := h6 (by omega)
    go_wp2_with fail
    go_ret
    exact ⟨ret_bool (by simp), hb⟩

/-- What the law's first loop has found from place k on. -/
def LawRel (len : Nat) (zs : List Int) (f : Int) (k : Nat) (u5 u6 : Value) : Prop :=
  (∀ i, k ≤ i → i < len → 0 < i → zs.getD (i - 1) 0 < zs.getD i 0) ∧
  ((∃ m, k ≤ m ∧ m < len ∧ f ≤ zs.getD m 0 ∧ (∀ j, k ≤ j → j < m → zs.getD j 0 < f) ∧ u5 = .int .u64 (zs.getD m 0) ∧ u6 = .bool true) ∨
   (u5 = .int .u64 0 ∧ u6 = .bool false ∧ ∀ j, k ≤ j → j < len → zs.getD j 0 < f))

theorem LawRel.rises {len : Nat} {zs : List Int} {f : Int} {u5 u6 : Value} (h : LawRel len zs f 0 u5 u6) : Rises len zs := by
  have step : ∀ d i, i + d + 1 < len → zs.getD i 0 < zs.getD (i + d + 1) 0 := by
    intro d
    induction d with
    | zero => intro i hi; exact h.1 (i + 1) (by omega) (by omega) (by omega)
    | succ d ih =>
      intro i hi
      have h1 := ih i (by omega)
      have h2 := h.1 (i + d + 2) (by omega) (by omega) (by omega)
      have e : i + d + 2 - 1 = i + d + 1 := by omega
      rw [e] at h2
      have e2 : i + (d + 1) + 1 = i + d + 2 := by omega
      rw [e2]
      omega
  intro i j hij hj
  obtain ⟨d, rfl⟩ : ∃ d, j = i + d + 1 := ⟨j - i - 1, by omega⟩
  exact step d i hj

/-- Beside what First comes to, the law's loop has found the same. -/
theorem LawRel.ends {len : Nat} {zs : List Int} {f : Int} {u5 u6 : Value} (h : LawRel len zs f 0 u5 u6) :
    ∃ (v : Int) (t : Bool), u5 = .int .u64 v ∧ u6 = .bool t ∧ ∀ (b : Nat) (w : World) (e : Ending) (w' : World), FirstEnds b len zs f w e w' →
      ∃ n : Int, e = .returned (.tuple #[.int .u64 v, .bool t]) ∧ AskIn b f n w w' ∧ 0 ≤ n ∧ n ≤ bl len := by
  rcases h.2 with ⟨m, h1, h2, h3, h4, rfl, rfl⟩ | ⟨rfl, rfl, h3⟩
  · refine ⟨_, _, rfl, rfl, fun b w e w' ⟨k, n, hk, g1, g2, he, g3, g4, g5, _⟩ => ⟨n, ?_, g3, g4, g5⟩⟩
    have hkm : k = m := by
      rcases Nat.lt_trichotomy k m with hlt | heq | hgt
      · have := g2 k (Nat.le_refl _) (by omega); have := h4 k (by omega) hlt; omega
      · exact heq
      · have := g1 m hgt; omega
    subst hkm
    rw [he, if_pos h2, decide_eq_true h2]
  · refine ⟨_, _, rfl, rfl, fun b w e w' ⟨k, n, hk, g1, g2, he, g3, g4, g5, _⟩ => ⟨n, ?_, g3, g4, g5⟩⟩
    have hkl : ¬ k < len := fun hlt => by have := g2 k (Nat.le_refl _) hlt; have := h3 k (by omega) hlt; omega
    rw [he, if_neg hkl, decide_eq_false hkl]

theorem LawRel.yes {len : Nat} {zs : List Int} {f x : Int} {j : Nat} {u5 u6 : Value} (h : LawRel len zs f (j + 1) u5 u6) (hj : j < len) (hf : f ≤ zs.getD j 0)
    (hr : 0 < j → zs.getD (j - 1) 0 < zs.getD j 0) (hx : x = zs.getD j 0) : LawRel len zs f j (.int .u64 x) (.bool true) := by
  refine ⟨fun i h1 h2 h3 => ?_, .inl ⟨j, Nat.le_refl _, hj, hf, fun i h1 h2 => by omega, by rw [hx], rfl⟩⟩
  by_cases e : i = j
  · subst e; exact hr h3
  · exact h.1 i (by omega) h2 h3

theorem LawRel.no {len : Nat} {zs : List Int} {f : Int} {j : Nat} {u5 u6 : Value} (h : LawRel len zs f (j + 1) u5 u6) (hj : j < len) (hf : zs.getD j 0 < f)
    (hr : 0 < j → zs.getD (j - 1) 0 < zs.getD j 0) : LawRel len zs f j u5 u6 := by
  refine ⟨fun i h1 h2 h3 => ?_, ?_⟩
  · by_cases e : i = j
    · subst e; exact hr h3
    · exact h.1 i (by omega) h2 h3
  · rcases h.2 with ⟨m, h1, h2, h3, h4, h5, h6⟩ | ⟨h1, h2, h3⟩
    · refine .inl ⟨m, by omega, h2, h3, fun i hi hm => ?_, h5, h6⟩
      by_cases e : i = j
      · subst e; exact hf
      · exact h4 i (by omega) hm
    · refine .inr ⟨h1, h2, fun i hi hl => ?_⟩
      by_cases e : i = j
      · subst e; exact hf
      · exact h3 i (by omega) hl

set_option maxHeartbeats 1000000 in
theorem searchLaw (a0 : Option Addr) (len cap : Nat) (zs : List Int) (f : Int) (w : World) (hw : Is .u64 w a0 len zs) :
    Calls Try.prog 3 #[.slice a0 len cap, .int .u64 f] w fun e w' => e = .returned (.bool true) ∧ Below w.heap.size w w' := by
  by_cases hbig : 1000 < len
  · go_enter Try.func3, Try.ntmps3
    go_wp2_with fail
    go_ret
    exact ⟨rfl, Below.refl _ _⟩
  · go_enter Try.func3, Try.ntmps3
    go_wp2_with fail
    go_loopw [5, 6, 7] (fun u5 u6 u7 wr => ∃ (k : Nat) (z : Int), k ≤ len ∧ u7 = .int .i64 z ∧ z = (k : Int) - 1 ∧ LawRel len zs f k u5 u6 ∧ Below w.heap.size w wr) (fun _ _ u7 _ => (intOf u7 + 1).toNat)
    case atStart => exact ⟨len, _, by omega, rfl, rfl, ⟨fun i h1 h2 => by omega, .inr ⟨rfl, rfl, fun i h1 h2 => by omega⟩⟩, Below.refl _ _⟩
    case round =>
      obtain ⟨k, z, hk, rfl, hz, hr, hb⟩ := hrel
      by_cases h0 : 0 ≤ z
      · obtain ⟨j, rfl⟩ := Int.eq_ofNat_of_zero_le h0
        have hkj : k = j + 1 := by omega
        subst hkj
        obtain ⟨b, o, rfl, hc⟩ := hw.at (by omega)
        clear hz h0
        have hcr : ∀ i, i < len → wr.cell? ⟨b, o + i, none⟩ = some (.int .u64 (zs.getD i 0)) := fun i hi => by
          rw [hb.cell (World.block_lt_of_cell? w _ (hc i hi))]; exact hc i hi
        have hcj := hcr j (by omega)
        by_cases h1 : 0 < j
        · have hcj' := hcr (j - 1) (by omega)
          clear hcr hc
          obtain ⟨x, hx⟩ : ∃ x, x = zs.getD j 0 := ⟨_, rfl⟩
          obtain ⟨y, hy⟩ : ∃ y, y = zs.getD (j - 1) 0 := ⟨_, rfl⟩
          rw [← hx] at hcj
          rw [← hy] at hcj'
          have HX := Lib.hid hx
          have HY := Lib.hid hy
          clear hx hy
          by_cases hyx : x ≤ y
          · go_wp2_with fail
            go_quiet (fail)
            go_wp2_with fail
            go_ret
            exact ⟨rfl, below_drewN hb _⟩
          · by_cases hfx : f ≤ x
            · go_wp2_with fail
              go_quiet (fail)
              go_wp2_with fail
              exact ⟨⟨j, _, by omega, rfl, rfl, LawRel.yes hr (by omega) (by rw [← HX.out]; exact hfx) (fun _ => by rw [← HX.out, ← HY.out]; omega) HX.out, below_drewN hb _⟩, by simp [intOf]⟩
            · go_wp2_with fail
              go_quiet (fail)
              go_wp2_with fail
              exact ⟨⟨j, _, by omega, rfl, rfl, LawRel.no hr (by omega) (by rw [← HX.out]; omega) (fun _ => by rw [← HX.out, ← HY.out]; omega), below_drewN hb _⟩, by simp [intOf]⟩
        · obtain rfl : j = 0 := by omega
          clear hcr hc
          obtain ⟨x, hx⟩ : ∃ x, x = zs.getD 0 0 := ⟨_, rfl⟩
          rw [← hx, Nat.add_zero] at hcj
          have HX := Lib.hid hx
          clear hx
          by_cases hfx : f ≤ x
          · go_wp2_with fail
            go_quiet (fail)
            go_wp2_with fail
            exact ⟨⟨0, _, by omega, rfl, rfl, LawRel.yes hr (by omega) (by rw [← HX.out]; exact hfx) (fun h => by omega) HX.out, below_drewN hb _⟩, by simp [intOf]⟩
          · go_wp2_with fail
            go_quiet (fail)
            go_wp2_with fail
            exact ⟨⟨0, _, by omega, rfl, rfl, LawRel.no hr (by omega) (by rw [← HX.out]; omega) (fun h => by omega), below_drewN hb _⟩, by simp [intOf]⟩
      · obtain rfl : k = 0 := by omega
        clear hz
        have hris : Rises len zs := hr.rises
        have hbw : ∀ a, a0 = some a → 0 < len → a.block < w.heap.size := fun a ha hl => by
          obtain ⟨b, o, rfl, hc⟩ := hw.at hl
          cases ha
          exact World.block_lt_of_cell? w _ (hc 0 hl)
        obtain ⟨v, t, rfl, rfl, hvt⟩ := hr.ends
        go_wp2_with fail
        refine (first_any wr.heap.size a0 len cap zs f _ ⟨by simp [go_sem], by simp [go_sem], by simp [go_sem], World.grownBy.refl _ _⟩ (by omega) ?_ (hw.below (hb.alloc hb.size _) (Nat.le_refl _)) hris).mono ?_
        · intro a ha hl e
          have := hbw a ha hl; have := hb.size; omega
        · rintro e w2 he
          obtain ⟨n, rfl, h3, h4, h5⟩ := hvt _ _ _ _ he
          clear he
          have hc1 := h3.c1
          have hb2 : Below w.heap.size w w2 := (hb.alloc hb.size _).trans (h3.below hb.size (by have := hb.size; simp; omega))
          go_wp2_with fail
          go_loopw [11, 12] (fun u11 u12 wq => ∃ (m k : Nat), u11 = .int .i64 m ∧ u12 = .int .i64 k ∧ k ≤ 1000 ∧ m ≤ bl len ∧ m + bl k = bl len ∧ wq = w2) (fun _ u12 _ => (intOf u12).toNat)
          case atStart => exact ⟨0, len, rfl, rfl, by omega, by omega, by omega, rfl⟩
          case round =>
            obtain ⟨m, k, rfl, rfl, hk1, hm, hmk, rfl⟩ := hrel
            have hbl := bl_le len
            by_cases hk0 : 0 < k
            · have := bl_pos k hk0
              go_wp2_with fail
              exact ⟨⟨m + 1, k / 2, by go_num, by go_num, by omega, by omega, by omega, trivial⟩, by simp [intOf]; omega⟩
            · obtain rfl : k = 0 := by omega
              rw [bl_zero] at hmk
              have hnm : n ≤ m := by omega
              go_wp2_with fail
              refine (searchAlive _).mono ?_
              rintro e w3 ⟨rfl, hb3⟩
              go_wp2_with fail
              go_ret
              exact ⟨rfl, hb2.trans (hb3.mono hb2.size)⟩
end Go.Proofs.Ytljbehndnledpaa
