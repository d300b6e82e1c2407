/- The walks of over.Mid, asked.is, search.First. No condition but those of each theorem. -/
import Derived.Test.YtljbehndnledpaaBase
namespace Go.Proofs.Ytljbehndnledpaa
open Go.RowKit

set_option maxHeartbeats 400000 in
theorem mid_any (a b : Int) (w : World) (ha : 0 ≤ a) (ha' : a < 18446744073709551616) (hb : 0 ≤ b) (hb' : b < 18446744073709551616) :
    Calls Try.prog 97 #[.int .u64 a, .int .u64 b] w fun e w' => e = .returned (.int .u64 ((a + b) / 2)) ∧ w = w' := by
  go_enter Try.func97, Try.ntmps97
  go_wp2
  go_ret
  exact ⟨ret_int (mid_u64 a b ha ha' hb hb'), rfl⟩

set_option maxHeartbeats 400000 in
theorem is_any (b : Nat) (x f n : Int) (w : World) (h0 : w.cell? ⟨b, 0, none⟩ = some (.int .u64 f)) (h1 : w.cell? ⟨b, 1, none⟩ = some (.int .i64 n))
    (hf : w.frozen? ⟨b, 1, none⟩ = false) (hn : 0 ≤ n) (hn' : n ≤ 1000000) :
    Calls Try.prog 19 #[.pointer (some ⟨b, 0, none⟩), .int .u64 x] w fun e w' => e = .returned (.bool (decide (f ≤ x))) ∧ w.setCell ⟨b, 1, none⟩ (.int .i64 (n + 1)) = w' := by
  go_enter Try.func19, Try.ntmps19
  go_wp2
  go_ret
  exact ⟨rfl, rfl⟩

/-- What a bound asked of rising numbers keeps: its cells, and all blocks but its own. -/
structure AskIn (b : Nat) (f n : Int) (w wr : World) : Prop where
  c0 : wr.cell? ⟨b, 0, none⟩ = some (.int .u64 f)
  c1 : wr.cell? ⟨b, 1, none⟩ = some (.int .i64 n)
  fz : wr.frozen? ⟨b, 1, none⟩ = false
  gr : w.grownBy wr (some b)

theorem AskIn.step {b : Nat} {f n m : Int} {w wr : World} (h : AskIn b f n w wr) : AskIn b f m w (wr.setCell ⟨b, 1, none⟩ (.int .i64 m)) := by
  refine ⟨?_, ?_, ?_, ?_⟩
  · rw [World.cell?_setCell_other _ _ _ _ (by simp)]; exact h.c0
  · exact World.cell?_setCell_same _ _ _ h.c1
  · rw [World.frozen?_setCell]; exact h.fz
  · exact ⟨h.gr.os, h.gr.tape, h.gr.output, by simp [World.setCell]; exact h.gr.size, fun k hk hne => by
      rw [Below.heap_setCell _ _ _ _ (by intro e; exact hne (by rw [e]))]; exact h.gr.block k hk hne⟩

/-- What First comes to. -/
def FirstEnds (b len : Nat) (zs : List Int) (f : Int) (w : World) (e : Ending) (w' : World) : Prop :=
  ∃ (k : Nat) (n : Int), k ≤ len ∧ (∀ i, i < k → zs.getD i 0 < f) ∧ (∀ i, k ≤ i → i < len → f ≤ zs.getD i 0) ∧
    e = .returned (.tuple #[.int .u64 (if k < len then zs.getD k 0 else 0), .bool (decide (k < len))]) ∧ AskIn b f n w w' ∧ 0 ≤ n ∧ n ≤ bl len ∧ (0 < len → 0 < n)

def FirstRel (b len : Nat) (zs : List Int) (f : Int) (w : World) (u v : Value) (wr : World) : Prop :=
  ∃ (lo hi : Nat) (n : Int), u = .int .u64 lo ∧ v = .int .u64 hi ∧ lo ≤ hi ∧ hi ≤ len ∧ (∀ i, i < lo → zs.getD i 0 < f) ∧ (∀ i, hi ≤ i → i < len → f ≤ zs.getD i 0) ∧
    AskIn b f n w wr ∧ 0 ≤ n ∧ n + bl (hi - lo) ≤ bl len ∧ (lo = 0 ∧ hi = len ∨ 0 < n)

def Rises (len : Nat) (zs : List Int) : Prop := ∀ i j, i < j → j < len → zs.getD i 0 < zs.getD j 0

set_option maxHeartbeats 1000000 in
theorem first_any (b : Nat) (a0 : Option Addr) (len cap : Nat) (zs : List Int) (f : Int) (w : World)
    (ha : AskIn b f 0 w w) (hlen : len ≤ 1000) (hab : ∀ a, a0 = some a → 0 < len → a.block ≠ b) (hrow : Is .u64 w a0 len zs) (hsorted : Rises len zs) :
    Calls Try.prog 18 #[.slice a0 len cap, .func (.func 19) #[.pointer (some ⟨b, 0, none⟩)] #[]] w (FirstEnds b len zs f w) := by
  go_enter Try.func18, Try.ntmps18
  go_wp2_with fail
  go_loopw [6, 7] (fun u v wr => FirstRel b len zs f w u v wr) (fun u v _ => (intOf v - intOf u).toNat)
  case atStart => exact ⟨0, len, 0, rfl, rfl, by omega, by omega, fun i hi => by omega, fun i h1 h2 => by omega, ha, by omega, by simp, .inl ⟨rfl, rfl⟩⟩
  case round =>
    obtain ⟨lo, hi, n, rfl, rfl, h1, h2, h3, h4, h5, h6, h7, h8⟩ := hrel
    have hbl := bl_le len
    by_cases hlt : lo < hi
    · obtain ⟨ab, ao, rfl, hcell⟩ := hrow.at (by omega)
      have hab := hab _ rfl (by omega)
      have hm : ∀ i, i < len → wr.cell? ⟨ab, ao + i, none⟩ = some (.int .u64 (zs.getD i 0)) := fun i hi => by
        rw [World.cell?_of_block (h5.gr.block ab (World.block_lt_of_cell? w _ (hcell i hi)) (by simp [hab]))]; exact hcell i hi
      obtain ⟨x, hx⟩ : ∃ x, x = zs.getD ((lo + hi) / 2) 0 := ⟨_, rfl⟩
      have hmid := hm ((lo + hi) / 2) (by omega)
      rw [← hx] at hmid
      have HX := Lib.hid hx
      clear hx hm
      have hstep : n + 1 + bl ((hi - lo) / 2) ≤ bl len := by
        have := bl_pos (hi - lo) (by omega); omega
      go_wp2_with fail
      refine (mid_any _ _ _ (by omega) (by omega) (by omega) (by omega)).mono ?_
      rintro e w1 ⟨rfl, rfl⟩
      have hc0 := h5.c0
      have hc1 := h5.c1
      have hfz := h5.fz
      by_cases hf : f ≤ x
      · go_wp2_with (go_at_call 19; refine (is_any b _ f n _ hc0 hc1 hfz (by omega) (by omega)).mono ?_; rintro e w2 ⟨rfl, rfl⟩)
        refine ⟨⟨lo, (lo + hi) / 2, n + 1, rfl, by go_num, by omega, by omega, h3, ?_, h5.step, by omega, ?_, .inr (by omega)⟩, by simp [intOf]; omega⟩
        · intro i hi1 hi2
          by_cases e : i = (lo + hi) / 2
          · subst e; rw [← HX.out]; exact hf
          · have := hsorted ((lo + hi) / 2) i (by omega) hi2; rw [← HX.out] at this; omega
        · rw [show (lo + hi) / 2 - lo = (hi - lo) / 2 by omega]; omega
      · go_wp2_with (go_at_call 19; refine (is_any b _ f n _ hc0 hc1 hfz (by omega) (by omega)).mono ?_; rintro e w2 ⟨rfl, rfl⟩)
        refine ⟨⟨(lo + hi) / 2 + 1, hi, n + 1, by go_num, rfl, by omega, by omega, ?_, h4, h5.step, by omega, ?_, .inr (by omega)⟩, by simp [intOf]; omega⟩
        · intro i hi1
          by_cases e : i = (lo + hi) / 2
          · subst e; rw [← HX.out]; omega
          · have := hsorted i ((lo + hi) / 2) (by omega) (by omega); rw [← HX.out] at this; omega
        · have := bl_mono ((hi - lo) / 2) (hi - ((lo + hi) / 2 + 1)) (by omega); omega
    · obtain rfl : lo = hi := by omega
      by_cases hlen2 : lo < len
      · obtain ⟨ab, ao, rfl, hcell⟩ := hrow.at (by omega)
        have hab := hab _ rfl (by omega)
        have hcl : wr.cell? ⟨ab, ao + lo, none⟩ = some (.int .u64 (zs.getD lo 0)) := by
          rw [World.cell?_of_block (h5.gr.block ab (World.block_lt_of_cell? w _ (hcell lo hlen2)) (by simp [hab]))]; exact hcell lo hlen2
        have hne : ((lo : Int) == (len : Int)) = false := by simp; omega
        go_wp2_with fail
        go_ret2
        exact ⟨lo, n, by omega, h3, fun i h => h4 i (by omega), by rw [if_pos hlen2, decide_eq_true hlen2]; rfl, h5, h6, by omega, fun _ => by omega⟩
      · have hne : ((lo : Int) == (len : Int)) = true := by simp; omega
        go_wp2_with fail
        go_ret2
        exact ⟨lo, n, by omega, h3, fun i h => h4 i (by omega), by rw [if_neg hlen2, decide_eq_false hlen2]; rfl, h5, h6, by omega, fun _ => by omega⟩
end Go.Proofs.Ytljbehndnledpaa
