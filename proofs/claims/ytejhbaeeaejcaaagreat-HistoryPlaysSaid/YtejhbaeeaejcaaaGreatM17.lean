/- The walks of slices' ordered sort at []uint32 (2: the choice of a pivot, a range turned round). Conditions: those of each theorem. -/
import Derived.Test.YtejhbaeeaejcaaaGreatM16
namespace Go.Proofs.YtejhbaeeaejcaaaGreat
open Go.RowKit

/-- A cell that holds a number. -/
def Swp32 (sw : Nat) (w : World) : Prop := ∃ (z : Int) (cs : Array Value) (ty : TypeId), w.heap[sw]? = some (.cells cs ty (0, 0)) ∧ cs[0]? = some (.int .i64 z)
theorem Swp32.cell {sw : Nat} {w : World} (h : Swp32 sw w) : ∃ z : Int, w.cell? ⟨sw, 0, none⟩ = some (.int .i64 z) ∧ w.frozen? ⟨sw, 0, none⟩ = false := by
  obtain ⟨z, cs, ty, h1, h2⟩ := h
  exact ⟨z, by simp [World.cell?, h1, h2], by simp [World.frozen?, h1]⟩
def SwK32 (sw : Nat) (w w' : World) : Prop := w.grownBy w' (some sw) ∧ Swp32 sw w'
theorem SwK32.refl {sw : Nat} {w : World} (h : Swp32 sw w) : SwK32 sw w w := ⟨World.grownBy.refl _ _, h⟩
theorem SwK32.trans {sw : Nat} {w w1 w2 : World} (h : SwK32 sw w w1) (h' : SwK32 sw w1 w2) : SwK32 sw w w2 := ⟨h.1.trans h'.1, h'.2⟩
theorem SwK32.drew {sw : Nat} {w w1 : World} (h : SwK32 sw w w1) : SwK32 sw w w1.drew := ⟨⟨h.1.os, h.1.tape, h.1.output, h.1.size, h.1.block⟩, h.2⟩
theorem SwK32.drewN {sw : Nat} {w w1 : World} (h : SwK32 sw w w1) (q : Nat) : SwK32 sw w (w1.drewN q) := by
  induction q with
  | zero => exact h
  | succ q ih => exact ih.drew
theorem SwK32.set {sw : Nat} {w w1 : World} (h : SwK32 sw w w1) (z : Int) : SwK32 sw w (w1.setCell ⟨sw, 0, none⟩ (.int .i64 z)) := by
  obtain ⟨h1, y, cs, ty, h2, h3⟩ := h
  have hl : 0 < cs.size := by
    rcases Nat.eq_zero_or_pos cs.size with h0 | h0
    · simp [Array.getElem?_eq_none (by omega : cs.size ≤ 0)] at h3
    · exact h0
  exact ⟨h1.trans (grown_cell w1 ⟨sw, 0, none⟩ (.int .i64 z)), z, _, ty, heap_setCell_same w1 sw 0 cs ty (.int .i64 z) h2, by simp [hl]⟩
theorem St32.sw {g sw : Nat} {w0 w w' : World} {xs0 : List Nat} (h : St32 g w0 xs0 w) (hs : w0.heap.size ≤ sw) (hg : g ≠ sw) (hb : w.grownBy w' (some sw)) : St32 g w0 xs0 w' := by
  have hgl := h.glt
  obtain ⟨xs, h1, ⟨cs, h2, h4⟩, h3⟩ := h
  refine ⟨xs, h1, ⟨cs, (hb.block g hgl (by simp; omega)).trans h2, h4⟩, hb.os.trans h3.os, hb.tape.trans h3.tape, hb.output.trans h3.output, Nat.le_trans h3.size hb.size, fun j hj hn => (hb.block j (Nat.lt_of_lt_of_le hj h3.size) (by simp; omega)).trans (h3.block j hj hn)⟩

set_option maxRecDepth 100000 in
set_option maxHeartbeats 4000000 in
theorem order2_u32 {g n c sw : Nat} {w0 w : World} {xs0 : List Nat} (h : St32 g w0 xs0 w) (hn : xs0.length = n) (hs : Swp32 sw w) (hgs : g ≠ sw) (a b : Nat) (ha : a < n) (hb : b < n) :
    Calls Tryz.prog 140 #[.slice (some ⟨g, 0, none⟩) n c, .int .i64 (a : Int), .int .i64 (b : Int), .pointer (some ⟨sw, 0, none⟩)] w fun e w' => ∃ x y : Nat, e = .returned (.tuple #[.int .i64 (x : Int), .int .i64 (y : Int)]) ∧ (x = a ∧ y = b ∨ x = b ∧ y = a) ∧ SwK32 sw w w' := by
  obtain ⟨x, hx, -⟩ := h.at a (by omega)
  obtain ⟨y, hy, -⟩ := h.at b (by omega)
  have a0 : (0 : Int) ≤ (a : Int) := by omega
  have a1 : (a : Int) < (n : Int) := by omega
  have b0 : (0 : Int) ≤ (b : Int) := by omega
  have b1 : (b : Int) < (n : Int) := by omega
  have HS := Lib.hid (SwK32.refl hs)
  clear h hn hs hgs ha hb
  go_enter Tryz.func140, Tryz.ntmps140
  go_wp2_with fail
  go_quiet ((go_at_call 127; exact Calls.quiet_of_same (less_u32 _ _ _)))
  have HS2 := HS.out.drewN nq
  generalize decide (y < x) = bl at *
  clear hx hy
  generalize w.drewN nq = wq at *
  obtain ⟨z, hz, hf⟩ := HS2.2.cell
  have HS3 := Lib.hid HS2
  clear HS2
  cases bl with
  | true =>
    go_wp2_with fail
    go_ret2
    exact ⟨b, a, rfl, Or.inr ⟨rfl, rfl⟩, HS3.out.set _⟩
  | false =>
    go_wp2_with fail
    go_ret2
    exact ⟨a, b, rfl, Or.inl ⟨rfl, rfl⟩, HS3.out⟩

set_option maxRecDepth 100000 in
set_option maxHeartbeats 4000000 in
theorem median_u32 {g n c sw : Nat} {w0 w : World} {xs0 : List Nat} (h : St32 g w0 xs0 w) (hn : xs0.length = n) (hs : Swp32 sw w) (hw : w0.heap.size ≤ sw) (hgs : g ≠ sw) (p q a b d : Nat) (ha : p ≤ a ∧ a < q) (hb : p ≤ b ∧ b < q) (hd : p ≤ d ∧ d < q) (hq : q ≤ n) :
    Calls Tryz.prog 138 #[.slice (some ⟨g, 0, none⟩) n c, .int .i64 (a : Int), .int .i64 (b : Int), .int .i64 (d : Int), .pointer (some ⟨sw, 0, none⟩)] w fun e w' => ∃ x : Nat, e = .returned (.int .i64 (x : Int)) ∧ p ≤ x ∧ x < q ∧ SwK32 sw w w' := by
  have HC1 := Lib.hid (order2_u32 (c := c) h hn hs hgs a b (by omega) (by omega))
  have HH := Lib.hid (And.intro h (And.intro hn (And.intro hw hgs)))
  have HR := Lib.hid (And.intro ha (And.intro hb (And.intro hd hq)))
  clear h hn hs hw hgs ha hb hd hq
  go_enter Tryz.func138, Tryz.ntmps138
  go_wp2_with fail
  refine HC1.out.mono ?_
  rintro e w1 ⟨x1, y1, rfl, hxy, k1⟩
  have HX1 := Lib.hid (show (p ≤ x1 ∧ x1 < q) ∧ (p ≤ y1 ∧ y1 < q) by have := HR.out; omega)
  have HK1 := Lib.hid k1
  have HC2 := Lib.hid (order2_u32 (c := c) (HH.out.1.sw HH.out.2.2.1 HH.out.2.2.2 k1.1) HH.out.2.1 k1.2 HH.out.2.2.2 y1 d (by have := HR.out; have := HX1.out; omega) (by have := HR.out; omega))
  clear k1 hxy
  go_wp2_with fail
  refine HC2.out.mono ?_
  rintro e w2 ⟨x2, y2, rfl, hxy, k2⟩
  have HX2 := Lib.hid (show (p ≤ x2 ∧ x2 < q) ∧ (p ≤ y2 ∧ y2 < q) by have := HR.out; have := HX1.out; omega)
  have HK2 := Lib.hid (HK1.out.trans k2)
  have HC3 := Lib.hid (order2_u32 (c := c) (HH.out.1.sw HH.out.2.2.1 HH.out.2.2.2 HK2.out.1) HH.out.2.1 HK2.out.2 HH.out.2.2.2 x1 x2 (by have := HR.out; have := HX1.out; omega) (by have := HR.out; have := HX2.out; omega))
  clear k2 hxy
  go_wp2_with fail
  refine HC3.out.mono ?_
  rintro e w3 ⟨x3, y3, rfl, hxy, k3⟩
  have HX3 := Lib.hid (show (p ≤ x3 ∧ x3 < q) ∧ (p ≤ y3 ∧ y3 < q) by have := HX1.out; have := HX2.out; omega)
  have HK3 := Lib.hid (HK2.out.trans k3)
  clear k3 hxy
  go_wp2_with fail
  go_ret
  exact ⟨y3, rfl, HX3.out.2.1, HX3.out.2.2, HK3.out⟩

set_option maxRecDepth 100000 in
set_option maxHeartbeats 4000000 in
theorem medianAdj_u32 {g n c sw : Nat} {w0 w : World} {xs0 : List Nat} (h : St32 g w0 xs0 w) (hn : xs0.length = n) (hn2 : n ≤ 1000000) (hs : Swp32 sw w) (hw : w0.heap.size ≤ sw) (hgs : g ≠ sw) (p q a : Nat) (ha : p + 1 ≤ a ∧ a + 1 < q) (hq : q ≤ n) :
    Calls Tryz.prog 137 #[.slice (some ⟨g, 0, none⟩) n c, .int .i64 (a : Int), .pointer (some ⟨sw, 0, none⟩)] w fun e w' => ∃ x : Nat, e = .returned (.int .i64 (x : Int)) ∧ p ≤ x ∧ x < q ∧ SwK32 sw w w' := by
  obtain ⟨m, rfl⟩ : ∃ m, a = m + 1 := ⟨a - 1, by omega⟩
  have HC1 := Lib.hid (median_u32 (c := c) h hn hs hw hgs p q m (m + 1) (m + 1 + 1) (by omega) (by omega) (by omega) hq)
  have s1 : IntKind.i64.wrap (((m + 1 : Nat) : Int) - 1) = (m : Int) := by rw [IntWalk.i64_in _ (by omega)]; omega
  have s2 : IntKind.i64.wrap (((m + 1 : Nat) : Int) + 1) = ((m + 1 + 1 : Nat) : Int) := by rw [IntWalk.i64_in _ (by omega)]; omega
  clear h hn hs hw hgs ha hq
  generalize m + 1 + 1 = m2 at *
  generalize m + 1 = m1 at *
  go_enter Tryz.func137, Tryz.ntmps137
  go_wp2_with fail
  refine HC1.out.mono ?_
  rintro e w1 ⟨x, rfl, h1, h2, h3⟩
  have H3 := Lib.hid (And.intro h1 (And.intro h2 h3))
  clear h1 h2 h3
  go_wp2_with fail
  go_ret
  exact ⟨x, rfl, H3.out⟩

set_option maxRecDepth 100000 in
set_option maxHeartbeats 8000000 in
theorem reverse_u32 {g n c : Nat} {w0 w : World} {xs0 : List Nat} (h : St32 g w0 xs0 w) (hn : xs0.length = n) (hn2 : n ≤ 1000000) (a b : Nat) (hab : a < b) (hb : b ≤ n) :
    Calls Tryz.prog 125 #[.slice (some ⟨g, 0, none⟩) n c, .int .i64 (a : Int), .int .i64 (b : Int)] w fun e w' => e = .returned (.tuple #[]) ∧ St32 g w0 xs0 w' := by
  have H := Lib.hid h
  have HN := Lib.hid (And.intro hn hb)
  obtain ⟨d, rfl⟩ : ∃ d, b = d + 1 := ⟨b - 1, by omega⟩
  have s1 : IntKind.i64.wrap (((d + 1 : Nat) : Int) - 1) = (d : Int) := by rw [IntWalk.i64_in _ (by omega)]; omega
  have had : a ≤ d := by omega
  obtain ⟨b', hb'⟩ : ∃ b', b' = d + 1 := ⟨_, rfl⟩
  have HN := Lib.hid (show xs0.length = n ∧ d < n from ⟨HN.out.1, by have := HN.out.2; omega⟩)
  rw [← hb'] at s1
  rw [← hb']
  clear h hn hb hab hb'
  go_enter Tryz.func125, Tryz.ntmps125
  go_wp2_with fail
  go_loopw [6, 7] (fun u6 u7 wr => ∃ i j : Nat, i ≤ j + 1 ∧ j ≤ d ∧ u6 = .int .i64 i ∧ u7 = .int .i64 j ∧ St32 g w0 xs0 wr) (fun _ u7 _ => (intOf u7).toNat)
  case atStart => exact ⟨a, d, by omega, by omega, rfl, rfl, H.out⟩
  case round =>
    obtain ⟨i, j, hij, hjd, rfl, rfl, hS⟩ := hrel
    have HS := Lib.hid hS
    clear hS
    by_cases hlt : i < j
    · obtain ⟨m, hm⟩ : ∃ m, m + 1 = j := ⟨j - 1, by omega⟩
      have i0 : (0 : Int) ≤ (i : Int) := by omega
      have i1 : (i : Int) < (n : Int) := by have := HN.out; omega
      have i2 : (0 : Int) ≤ (j : Int) := by omega
      have i3 : (j : Int) < (n : Int) := by have := HN.out; omega
      have g0 : (i : Int) < (j : Int) := by omega
      have s3 : IntKind.i64.wrap ((i : Int) + 1) = ((i + 1 : Nat) : Int) := by rw [IntWalk.i64_in _ (by omega)]; omega
      have s4 : IntKind.i64.wrap ((j : Int) - 1) = (m : Int) := by rw [IntWalk.i64_in _ (by omega)]; omega
      obtain ⟨z0, z1, e0, e1, f0, f1, f2, e2, hS4⟩ := HS.out.swap i j (by have := HN.out; omega) (by have := HN.out; omega)
      have HS4 := Lib.hid hS4
      have HJ := Lib.hid (And.intro hm (And.intro hlt hjd))
      clear hS4 hm hlt hjd hij had
      go_wp2_with fail
      go_region_law fail
      all_goals
        go_wp2_with fail
        go_roundw
        case rel => exact ⟨i + 1, m, by have := HJ.out; omega, by have := HJ.out; omega, rfl, rfl, by first | exact HS4.out | exact HS4.out.drew | exact HS4.out.drewN _⟩
        case measure => have := HJ.out; simp [intOf]; omega
    · have g0 : ¬ ((i : Int) < (j : Int)) := by omega
      go_wp2_with fail
      go_end0
      exact ⟨rfl, HS.out⟩
set_option maxRecDepth 100000 in
set_option maxHeartbeats 8000000 in
theorem choosePivot_u32 {g n c : Nat} {w0 w : World} {xs0 : List Nat} (h : St32 g w0 xs0 w) (hn : xs0.length = n) (hn2 : n ≤ 1000000) (a b : Nat) (hab : a + 12 < b) (hb : b ≤ n) :
    Calls Tryz.prog 124 #[.slice (some ⟨g, 0, none⟩) n c, .int .i64 (a : Int), .int .i64 (b : Int)] w fun e w' => ∃ x y : Nat, e = .returned (.tuple #[.int .i64 (x : Int), .int .i64 (y : Int)]) ∧ a ≤ x ∧ x < b ∧ St32 g w0 xs0 w' := by
  have hgl := h.glt
  have hsz : w0.heap.size ≤ w.heap.size := by obtain ⟨_, _, _, h3⟩ := h; exact h3.size
  have hA : St32 g w0 xs0 (w.alloc (.cells #[.int .i64 0] 3)) := h.heap ((Below.refl _ _).alloc (Nat.le_refl _) _)
  have hP : Swp32 w.heap.size (w.alloc (.cells #[.int .i64 0] 3)) := ⟨0, _, _, heap_alloc_new w _, rfl⟩
  have HB := Lib.hid (And.intro hn (And.intro hn2 (And.intro hsz (show g ≠ w.heap.size by omega))))
  have HW := Lib.hid (And.intro hA (SwK32.refl hP))
  obtain ⟨l, hl⟩ : ∃ l, b = a + l := ⟨b - a, by omega⟩
  obtain ⟨q, hq⟩ : ∃ q, q = l / 4 := ⟨_, rfl⟩
  obtain ⟨i, hi⟩ : ∃ i, i = a + q := ⟨_, rfl⟩
  obtain ⟨j, hj⟩ : ∃ j, j = a + 2 * q := ⟨_, rfl⟩
  obtain ⟨k, hk⟩ : ∃ k, k = a + 3 * q := ⟨_, rfl⟩
  have s0 : IntKind.i64.wrap ((b : Int) - (a : Int)) = (l : Int) := by rw [IntWalk.i64_in _ (by omega)]; omega
  have l0 : 0 ≤ (l : Int) := by omega
  have s1 : (l : Int) / 4 = (q : Int) := by omega
  have s2 : IntKind.i64.wrap (q : Int) = (q : Int) := IntWalk.i64_in _ (by omega)
  have s3 : IntKind.i64.wrap ((q : Int) * 2) = (q : Int) * 2 := IntWalk.i64_in _ (by omega)
  have s4 : IntKind.i64.wrap ((q : Int) * 3) = (q : Int) * 3 := IntWalk.i64_in _ (by omega)
  have s5 : IntKind.i64.wrap ((a : Int) + (q : Int)) = (i : Int) := by rw [IntWalk.i64_in _ (by omega)]; omega
  have s6 : IntKind.i64.wrap ((a : Int) + (q : Int) * 2) = (j : Int) := by rw [IntWalk.i64_in _ (by omega)]; omega
  have s7 : IntKind.i64.wrap ((a : Int) + (q : Int) * 3) = (k : Int) := by rw [IntWalk.i64_in _ (by omega)]; omega
  have g8 : 8 ≤ (l : Int) := by omega
  have HI := Lib.hid (show (a + 1 ≤ i ∧ i + 1 < b) ∧ (a + 1 ≤ j ∧ j + 1 < b) ∧ (a + 1 ≤ k ∧ k + 1 < b) ∧ b ≤ n by omega)
  have hl50 : ((50 : Int) ≤ (l : Int)) ∨ ¬ ((50 : Int) ≤ (l : Int)) := Decidable.em _
  clear h hn hn2 hab hb hgl hsz hA hP hl hq hi hj hk
  go_enter Tryz.func124, Tryz.ntmps124
  clear hl50
  go_upto_if 34 with fail
  generalize w.alloc (.cells #[.int .i64 0] 3) = wA at *
  generalize w.heap.size = sw at *
  go_cut [10, 11, 12] from 34 to 43 (fun u10 u11 u12 wx => ∃ i j k : Nat, u10 = .int .i64 i ∧ u11 = .int .i64 j ∧ u12 = .int .i64 k ∧ (a ≤ i ∧ i < b) ∧ (a ≤ j ∧ j < b) ∧ (a ≤ k ∧ k < b) ∧ SwK32 sw wA wx)
  case first =>
    by_cases hl50 : (50 : Int) ≤ (l : Int)
    · have HC1 := Lib.hid (medianAdj_u32 (c := c) (HW.out.1.sw HB.out.2.2.1 HB.out.2.2.2 HW.out.2.1) HB.out.1 HB.out.2.1 HW.out.2.2 HB.out.2.2.1 HB.out.2.2.2 a b i (by have := HI.out; omega) (by have := HI.out; omega))
      go_wp2_with fail
      refine HC1.out.mono ?_
      rintro e w1 ⟨i1, rfl, hi1, hi2, k1⟩
      have HK1 := Lib.hid k1
      have HC2 := Lib.hid (medianAdj_u32 (c := c) (HW.out.1.sw HB.out.2.2.1 HB.out.2.2.2 HK1.out.1) HB.out.1 HB.out.2.1 HK1.out.2 HB.out.2.2.1 HB.out.2.2.2 a b j (by have := HI.out; omega) (by have := HI.out; omega))
      have HI1 := Lib.hid (And.intro hi1 hi2)
      clear k1 hi1 hi2
      go_wp2_with fail
      refine HC2.out.mono ?_
      rintro e w2 ⟨j1, rfl, hj1, hj2, k2⟩
      have HK2 := Lib.hid (HK1.out.trans k2)
      have HC3 := Lib.hid (medianAdj_u32 (c := c) (HW.out.1.sw HB.out.2.2.1 HB.out.2.2.2 HK2.out.1) HB.out.1 HB.out.2.1 HK2.out.2 HB.out.2.2.1 HB.out.2.2.2 a b k (by have := HI.out; omega) (by have := HI.out; omega))
      have HI2 := Lib.hid (And.intro hj1 hj2)
      clear k2 hj1 hj2
      go_wp2_with fail
      refine HC3.out.mono ?_
      rintro e w3 ⟨k1, rfl, hk1, hk2, k3⟩
      have HK3 := Lib.hid (HK2.out.trans k3)
      have HI3 := Lib.hid (And.intro hk1 hk2)
      clear k3 hk1 hk2
      go_wp2_with fail
      go_meet
      case rel => exact ⟨i1, j1, k1, rfl, rfl, rfl, HI1.out, HI2.out, HI3.out, HK3.out⟩
    · go_wp2_with fail
      go_meet
      case rel => exact ⟨i, j, k, rfl, rfl, rfl, by have := HI.out; omega, by have := HI.out; omega, by have := HI.out; omega, HW.out.2⟩
  case rest =>
    obtain ⟨i2, j2, k2, rfl, rfl, rfl, hi, hj, hk, hK⟩ := hcut
    have HK := Lib.hid hK
    have HC1 := Lib.hid (median_u32 (c := c) (HW.out.1.sw HB.out.2.2.1 HB.out.2.2.2 HK.out.1) HB.out.1 HK.out.2 HB.out.2.2.1 HB.out.2.2.2 a b i2 j2 k2 hi hj hk (by have := HI.out; omega))
    clear hi hj hk hK
    go_wp2_with fail
    refine HC1.out.mono ?_
    rintro e w1 ⟨x, rfl, hx1, hx2, k1⟩
    have HK1 := Lib.hid (HK.out.trans k1)
    have HX := Lib.hid (And.intro hx1 hx2)
    obtain ⟨z, hz, -⟩ := k1.2.cell
    clear k1 hx1 hx2
    have HE := Lib.hid (HW.out.1.sw HB.out.2.2.1 HB.out.2.2.2 HK1.out.1)
    by_cases h0 : z = 0
    · go_wp2_with fail
      go_ret2
      exact ⟨x, 1, rfl, HX.out.1, HX.out.2, HE.out⟩
    · by_cases h12 : z = 12
      · go_wp2_with fail
        go_ret2
        exact ⟨x, 2, rfl, HX.out.1, HX.out.2, HE.out⟩
      · go_wp2_with fail
        go_ret2
        exact ⟨x, 0, rfl, HX.out.1, HX.out.2, HE.out⟩
end Go.Proofs.YtejhbaeeaejcaaaGreat
