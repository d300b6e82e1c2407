/- The walk of disk.New. Conditions: those of the theorem. -/
import Derived.Test.YtljbehndnledpaaDisk
import Derived.Laws.OwnMore
namespace Go.Proofs.Ytljbehndnledpaa
open Go.RowKit

theorem info37 : (Try.prog.info? 37).map (fun i => (i.zero, i.size, i.bytes)) = some (some (.slice none 0 0), 1, 24) := by kernel_rfl

set_option maxRecDepth 100000 in
theorem zeros_128 (w : World) : ∃ w', (Instr.makeSlice 37 (.int .i64 128) (.int .i64 128)).run Try.prog w = .ok (.slice (some ⟨w.heap.size, 0, none⟩) 128 128) w' ∧ Bs w' (some ⟨w.heap.size, 0, none⟩) 128 (List.replicate 128 0) ∧ At w' w.heap.size 5 ∧ w.grownBy w' none := by
  obtain ⟨i0, hi, hz0, hz1, hz2⟩ := info_parts info5
  obtain ⟨w', hr, ho, hg⟩ := run_make_full (P := Try.prog) (w := w) w.heap.size 37 5 i0 (.int .u8 0) 1 Try.underlying37 hi hz0 hz1 .i64 .i64 128 (by rw [hz2]; omega) (by unfold maxLen; omega) (Nat.le_refl _)
  have e : (madeCells (Value.int .u8 0).cells (128 * 1)).toList = cellsOfB (List.replicate 128 0) := by kernel_rfl
  rw [e] at ho
  have hat : At w' w.heap.size 5 := by
    rcases ho.2 with ⟨h, _⟩ | ⟨g, cap, cur, he, _, hh, _⟩
    · cases h
    · cases he
      exact ⟨cur, hh⟩
  obtain ⟨a, c, he, hb, _⟩ := own_bs ho
  cases he
  exact ⟨w', hr, hb, hat, hg⟩

theorem rows_n (w : World) (n : Nat) (hn : n ≤ 4096) (h1 : 1 ≤ n) : ∃ w', (Instr.makeSlice 65 (.int .i64 (n : Int)) (.int .i64 (n : Int))).run Try.prog w = .ok (.slice (some ⟨w.heap.size, 0, none⟩) n n) w' ∧ (∀ i, i < n → w'.cell? ⟨w.heap.size, i, none⟩ = some (.slice none 0 0)) ∧ At w' w.heap.size 37 ∧ w.grownBy w' none := by
  obtain ⟨i0, hi, hz0, hz1, hz2⟩ := info_parts info37
  obtain ⟨w', hr, ho, hg⟩ := run_make_full (P := Try.prog) (w := w) w.heap.size 65 37 i0 (.slice none 0 0) 1 Try.underlying65 hi hz0 hz1 .i64 .i64 n (by rw [hz2]; omega) (by unfold maxLen; omega) (Nat.le_refl _)
  rcases ho.2 with ⟨h, _⟩ | ⟨g, cap, cur, he, _, hh, _, _, hcs, ht⟩
  · cases h
  · cases he
    refine ⟨w', hr, fun i hi => ?_, ⟨cur, hh⟩, hg⟩
    rw [cell_of_row w' w.heap.size i cur 37 (0, 0) hh]
    have h2 : cur.toList[i]? = (madeCells (Value.slice none 0 0).cells (n * 1)).toList[i]? := by
      rw [← ht, List.getElem?_take_of_lt (by omega)]
    rw [← Array.getElem?_toList, h2]
    simp [madeCells, Value.cells, hi, Nat.mod_one]

/-- A disk that is being made: k of its sectors are. -/
structure Half (w0 : World) (p s n k : Nat) (w : World) : Prop where
  bel : Below w0.heap.size w0 w
  ps : s < p
  sb : w0.heap.size ≤ s
  pt : At w p 177
  c0 : w.cell? ⟨p, 0, none⟩ = some (.slice (some ⟨s, 0, none⟩) n n)
  c1 : w.cell? ⟨p, 1, none⟩ = some (.slice none 0 0)
  c2 : w.cell? ⟨p, 2, none⟩ = some (.bool false)
  c3 : w.cell? ⟨p, 3, none⟩ = some (.int .i64 0)
  st : At w s 37
  sec : ∀ i, i < k → ∃ g, At w g 5 ∧ w.cell? ⟨s, i, none⟩ = some (.slice (some ⟨g, 0, none⟩) 128 128) ∧ Bs w (some ⟨g, 0, none⟩) 128 (List.replicate 128 0)
  rest : ∀ i, k ≤ i → i < n → w.cell? ⟨s, i, none⟩ = some (.slice none 0 0)

theorem Half.next {w0 w w3 : World} {p s n k : Nat} (h : Half w0 p s n k w) (hk : k < n) (hg : w.drew.grownBy w3 none) (hz : Bs w3 (some ⟨w.heap.size, 0, none⟩) 128 (List.replicate 128 0)) (hat : At w3 w.heap.size 5) :
    Half w0 p s n (k + 1) (w3.setCell ⟨s, k, none⟩ (.slice (some ⟨w.heap.size, 0, none⟩) 128 128)) := by
  have hb : Below w.heap.size w w3 := (Below.refl _ _).drew.grown hg (Nat.le_refl _) (fun k hk => by cases hk)
  have hpl := h.pt.lt
  have hsl := h.st.lt
  have hb0 := h.bel.trans (hb.mono h.bel.size)
  have hpn : p ≠ s := by have := h.ps; omega
  have hps : ∀ j, (w3.setCell ⟨s, k, none⟩ (.slice (some ⟨w.heap.size, 0, none⟩) 128 128)).cell? ⟨p, j, none⟩ = w.cell? ⟨p, j, none⟩ := fun j => by
    rw [cell_heap (Below.heap_setCell _ _ _ _ hpn), hb.cell (p := ⟨p, j, none⟩) hpl]
  have hss : ∀ j, j ≠ k → (w3.setCell ⟨s, k, none⟩ (.slice (some ⟨w.heap.size, 0, none⟩) 128 128)).cell? ⟨s, j, none⟩ = w.cell? ⟨s, j, none⟩ := fun j hj => by
    have hne : (⟨s, k, none⟩ : Addr) ≠ ⟨s, j, none⟩ := by
      intro e
      cases e
      exact hj rfl
    rw [World.cell?_setCell_other _ _ _ _ hne, hb.cell (p := ⟨s, j, none⟩) hsl]
  have hsk : w3.cell? ⟨s, k, none⟩ = some (.slice none 0 0) := by rw [hb.cell (p := ⟨s, k, none⟩) hsl]; exact h.rest k (Nat.le_refl _) hk
  refine ⟨hb0.setCell (p := ⟨s, k, none⟩) h.sb _, h.ps, h.sb, (h.pt.below hb).heap (Below.heap_setCell _ _ _ _ hpn), by rw [hps]; exact h.c0, by rw [hps]; exact h.c1, by rw [hps]; exact h.c2, by rw [hps]; exact h.c3, (h.st.below hb).set k _, fun i hi => ?_, fun i hi hin => by rw [hss i (by omega)]; exact h.rest i (by omega) hin⟩
  by_cases e : i = k
  · subst e
    have hgn : w.heap.size ≠ s := by omega
    exact ⟨w.heap.size, hat.heap (Below.heap_setCell _ _ _ _ hgn), World.cell?_setCell_same _ _ _ hsk, Bs.heap hz (Below.heap_setCell _ _ _ _ hgn)⟩
  · obtain ⟨g, h1, h2, h3⟩ := h.sec i (by omega)
    have hgn : g ≠ s := h1.ne h.st (by decide)
    exact ⟨g, (h1.below hb).heap (Below.heap_setCell _ _ _ _ hgn), by rw [hss i e]; exact h2, Bs.heap (Is.below h3 hb (Nat.le_refl _)) (Below.heap_setCell _ _ _ _ hgn)⟩
theorem Half.drew {w0 w : World} {p s n k : Nat} (h : Half w0 p s n k w) : Half w0 p s n k w.drew := by
  have hb : Below w.heap.size w w.drew := (Below.refl _ _).drew
  exact ⟨h.bel.drew, h.ps, h.sb, h.pt.below hb, by simpa using h.c0, by simpa using h.c1, by simpa using h.c2, by simpa using h.c3, h.st.below hb, fun i hi => by
    obtain ⟨g, h1, h2, h3⟩ := h.sec i hi
    exact ⟨g, h1.below hb, by simpa using h2, h3.below hb (Nat.le_refl _)⟩, fun i hi hin => by simpa using h.rest i hi hin⟩

set_option maxRecDepth 100000 in
set_option maxHeartbeats 2000000 in
theorem new_any (n : Nat) (w : World) (h1 : 1 ≤ n) (hn : n ≤ 4096) :
    Calls Try.prog 43 #[.int .i64 (n : Int)] w fun e w' => ∃ p s, e = .returned (.tuple #[.pointer (some ⟨p, 0, none⟩), .int .i64 0]) ∧ Disk w.heap.size w' p s (.slice none 0 0) n [] ∧ Below w.heap.size w w' := by
  obtain ⟨w1, hmk, hcs, hst, hg⟩ := rows_n w n hn h1
  have hb1 : Below w.heap.size w w1 := (Below.refl _ _).grown hg (Nat.le_refl _) (fun k hk => by cases hk)
  have h1i : (1 : Int) ≤ (n : Int) := by omega
  have h2i : (n : Int) ≤ 4096 := by omega
  clear hg
  go_enter Try.func43, Try.ntmps43
  go_wp2_with fail
  have hs0 : w.heap.size < w1.heap.size := hst.lt
  have hb2 : Below w.heap.size w (w1.alloc (.cells #[.slice (some ⟨w.heap.size, 0, none⟩) n n, .slice none 0 0, .bool false, .int .i64 0] 177)) := hb1.alloc hb1.size _
  have hb3 : Below w1.heap.size w1 (w1.alloc (.cells #[.slice (some ⟨w.heap.size, 0, none⟩) n n, .slice none 0 0, .bool false, .int .i64 0] 177)) := (Below.refl _ _).alloc (Nat.le_refl _) _
  have hhalf : Half w w1.heap.size w.heap.size n 0 (w1.alloc (.cells #[.slice (some ⟨w.heap.size, 0, none⟩) n n, .slice none 0 0, .bool false, .int .i64 0] 177)) :=
    ⟨hb2, hs0, Nat.le_refl _, ⟨_, heap_alloc_new w1 _⟩, by simp, by simp, by simp, by simp, hst.below hb3, fun i hi => by omega, fun i _ hi => by rw [hb3.cell (p := ⟨w.heap.size, i, none⟩) hs0]; exact hcs i hi⟩
  generalize w1.alloc (.cells #[.slice (some ⟨w.heap.size, 0, none⟩) n n, .slice none 0 0, .bool false, .int .i64 0] 177) = w2 at *
  clear hb1 hb2 hb3 hcs hst hmk hs0
  generalize w1.heap.size = p at *
  go_loopw [21] (fun u21 wr => ∃ k : Nat, k ≤ n ∧ u21 = .int .i64 k ∧ Half w p w.heap.size n k wr) (fun u21 _ => n - (intOf u21).toNat)
  case atStart => exact ⟨0, by omega, rfl, hhalf⟩
  case round =>
    obtain ⟨k, hk, rfl, hh⟩ := hrel
    by_cases hlt : k < n
    · obtain ⟨w3, hmk, hz, hat, hg⟩ := zeros_128 wr.drew
      have hnx := hh.next hlt hg hz hat
      have c0 := hh.drew.c0
      have hsk := hh.rest k (Nat.le_refl _) hlt
      have hb4 : Below wr.heap.size wr w3 := (Below.refl _ _).drew.grown hg (Nat.le_refl _) (fun k hk => by cases hk)
      have hsk3 : w3.cell? ⟨w.heap.size, k, none⟩ = some (.slice none 0 0) := by rw [hb4.cell (p := ⟨w.heap.size, k, none⟩) hh.st.lt]; exact hsk
      have c03 : w3.cell? ⟨p, 0, none⟩ = some (.slice (some ⟨w.heap.size, 0, none⟩) n n) := by rw [hb4.cell (p := ⟨p, 0, none⟩) hh.pt.lt]; exact hh.c0
      have hf3 := (hh.st.below hb4).frozen k
      have hk0 : (0 : Int) ≤ (k : Int) := by omega
      have hk1 : (k : Int) < (n : Int) := by omega
      have hsz : wr.drew.heap.size = wr.heap.size := rfl
      rw [hsz] at hmk
      have HH := Lib.hid hnx
      clear hnx hz hat hg hb4 hh
      go_wp2_with fail
      go_region
      all_goals
        go_wp2_with fail
        exact ⟨⟨k + 1, by omega, by go_num, HH.out⟩, by simp [intOf]; omega⟩
    · have hkn : k = n := by omega
      subst hkn
      have hd : Disk w.heap.size wr p w.heap.size (.slice none 0 0) k [] := ⟨Nat.le_trans hh.sb (Nat.le_of_lt hh.ps), hh.pt, hh.c0, hh.c1, hh.c2, hh.c3, hh.st, hh.sec, ⟨[], World.ownsRow_nil _ _ _ _, fun j x hx => by simp at hx⟩⟩
      have hbel := hh.bel
      clear hh
      go_wp2_with fail
      go_ret2
      exact ⟨p, w.heap.size, rfl, hd, hbel⟩
end Go.Proofs.Ytljbehndnledpaa
