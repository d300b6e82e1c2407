/- The walks of bitmap.New, Set and Bytes. Conditions: those of each theorem. -/
import Derived.Test.YtljbehndnledpaaBitmap
import Derived.Laws.OwnMore
namespace Go.Proofs.Ytljbehndnledpaa
open Go.RowKit

/-- Behind Set: the bit i, too. -/
def SetsBit (m g n : Nat) (T : List UInt8) (i : Int) (w w' : World) : Prop :=
  ∃ T', Bmap w' m g n T' ∧ (∀ j, bitOf T' j = (bitOf T j || decide (i = (j : Int) ∧ j < n))) ∧ w.grownBy w' (some g)

theorem or_bit (x r : Nat) (hx : x < 256) (hr : r < 8) : bits BinOp.or IntKind.u8 (x : Int) ((2 : Int) ^ r % 256) = ((x ||| 2 ^ r : Nat) : Int) := by
  have : r = 0 ∨ r = 1 ∨ r = 2 ∨ r = 3 ∨ r = 4 ∨ r = 5 ∨ r = 6 ∨ r = 7 := by omega
  rcases this with rfl | rfl | rfl | rfl | rfl | rfl | rfl | rfl <;> (rw [u8_or _ _ (by omega) (by omega) (by decide) (by decide), Int.toNat_natCast]; rfl)
theorem set_stored {w : World} {m g n : Nat} {T : List UInt8} (h : Bmap w m g n T) (k : Nat) (hk : k < n) (x : Nat) (hx : x = (T.getD (k / 8) 0).toNat) (v : Int) (hv : v = bits BinOp.or IntKind.u8 (x : Int) ((2 : Int) ^ (k % 8) % 256)) :
    SetsBit m g n T (k : Int) w (w.setCell ⟨g, k / 8, none⟩ (.int .u8 v)).drew := by
  have hkk : k / 8 < T.length := by rw [h.len]; omega
  have hx256 := UInt8.toNat_lt (T.getD (k / 8) 0)
  have hr8 : k % 8 < 8 := Nat.mod_lt _ (by omega)
  have hor : (T.getD (k / 8) 0).toNat ||| 2 ^ (k % 8) < 256 := Nat.or_lt_two_pow (n := 8) hx256 (Nat.lt_of_lt_of_le (Nat.pow_lt_pow_right (by omega) hr8) (by decide))
  have hmg : m ≠ g := by have := h.lt; omega
  rw [or_bit x (k % 8) (by omega) hr8, hx] at hv
  refine ⟨setBit T k, ⟨?_, ?_, by rw [setBit_len]; exact h.len, h.lt⟩, fun j => ?_, ⟨rfl, rfl, rfl, by simp [World.setCell, World.drew], fun b _ hb => ?_⟩⟩
  · show (w.setCell ⟨g, k / 8, none⟩ (.int .u8 v)).heap[m]? = _
    rw [heap_setCell_other _ _ _ _ hmg, setBit_len]
    exact h.head
  · show (w.setCell ⟨g, k / 8, none⟩ (.int .u8 v)).heap[g]? = _
    rw [heap_setCell_same w g (k / 8) _ 5 _ h.row, hv]
    congr 2
    unfold setBit cellsOfB
    rw [List.map_set, List.setIfInBounds_toArray, UInt8.toNat_ofNat', Nat.mod_eq_of_lt hor]
  · rw [bitOf_set T k j hkk]
    congr 1
    rw [Bool.eq_iff_iff]
    simp
    omega
  · show (w.setCell ⟨g, k / 8, none⟩ (.int .u8 v)).heap[b]? = _
    exact heap_setCell_other _ _ _ _ (fun e => hb (by rw [e]))

set_option maxRecDepth 100000 in
set_option maxHeartbeats 4000000 in
theorem bmSet_any (m g n : Nat) (T : List UInt8) (i : Int) (w : World) (h : Bmap w m g n T) (hn : n ≤ 1000000) :
    Calls Try.prog 131 #[.pointer (some ⟨m, 0, none⟩), .int .i64 i] w fun e w' => (∃ b, e = .returned (.bool b)) ∧ SetsBit m g n T i w w' := by
  have hin := bmIn_any m n _ i w h.head
  by_cases hr : 0 ≤ i ∧ i < n
  · obtain ⟨k, rfl⟩ : ∃ k : Nat, i = k := ⟨i.toNat, by omega⟩
    have hkn : k < n := by omega
    have hhas := bmHas_any m g n T k w h hkn hn
    have hd : (decide ((0 : Int) ≤ (k : Int)) && decide ((k : Int) < (n : Int))) = true := by simp; omega
    rw [hd] at hin
    cases hb : bitOf T k with
    | true =>
      rw [hb] at hhas
      have HIN := Lib.hid hin
      have HAS := Lib.hid hhas
      have hfin : SetsBit m g n T k w w := ⟨T, h, fun j => by
        by_cases hj : k = j
        · subst hj; rw [hb]; simp
        · have : ¬ ((k : Int) = (j : Int) ∧ j < n) := by omega
          simp [this], ⟨rfl, rfl, rfl, Nat.le_refl _, fun _ _ _ => rfl⟩⟩
      have HF := Lib.hid hfin
      clear h hin hhas hfin hb hd
      go_enter Try.func131, Try.ntmps131
      go_wp2_with fail
      refine HIN.out.mono ?_
      rintro e w1 ⟨rfl, rfl⟩
      go_wp2_with fail
      refine HAS.out.mono ?_
      rintro e w1 ⟨rfl, rfl⟩
      go_wp2_with fail
      go_ret
      exact ⟨⟨_, rfl⟩, HF.out⟩
    | false =>
      rw [hb] at hhas
      have HIN := Lib.hid hin
      have HAS := Lib.hid hhas
      have c0 : w.cell? ⟨m, 0, none⟩ = some (.slice (some ⟨g, 0, none⟩) T.length T.length) := by rw [cell_of_row w m 0 _ 211 (0, 0) h.head]; rfl
      have hkk : k / 8 < T.length := by rw [h.len]; omega
      have hx : T[k / 8]? = some (T.getD (k / 8) 0) := by simp [List.getD, hkk]
      have hx256 := UInt8.toNat_lt (T.getD (k / 8) 0)
      have ck : w.cell? ⟨g, k / 8, none⟩ = some (.int .u8 ((T.getD (k / 8) 0).toNat : Int)) := by
        rw [cell_of_row w g (k / 8) _ 5 (0, 0) h.row]
        simp only [cellsOfB, List.getElem?_toArray, List.getElem?_map, hx, Option.map_some]
      have fk : w.frozen? ⟨g, k / 8, none⟩ = false := frozen_of_row _ _ _ _ _ h.row
      have a1 := and7 k (by omega)
      have hr8 : k % 8 < 8 := Nat.mod_lt _ (by omega)
      have hkl : ((k / 8 : Nat) : Int) < (T.length : Int) := by omega
      have r0 : (0 : Int) ≤ ((k % 8 : Nat) : Int) := by omega
      have r1 : ((k % 8 : Nat) : Int) ≤ 8 := by omega
      have hmg : m ≠ g := by have := h.lt; omega
      clear hb hd hin hhas
      go_enter Try.func131, Try.ntmps131
      go_wp2_with fail
      refine HIN.out.mono ?_
      rintro e w1 ⟨rfl, rfl⟩
      go_wp2_with fail
      refine HAS.out.mono ?_
      rintro e w1 ⟨rfl, rfl⟩
      go_wp2_with fail
      go_region
      all_goals
        go_wp2_with fail
        go_ret
        refine ⟨⟨_, rfl⟩, ?_⟩
        exact set_stored h k hkn _ rfl _ (by first | rfl | simp [List.getD, hkk])
  · have hd : (decide ((0 : Int) ≤ i) && decide (i < (n : Int))) = false := by
      by_cases h0 : 0 ≤ i
      · have : ¬ i < n := fun h1 => hr ⟨h0, h1⟩
        simp [this]
      · simp [h0]
    rw [hd] at hin
    have HIN := Lib.hid hin
    have hfin : SetsBit m g n T i w w := ⟨T, h, fun j => by
      have : ¬ (i = (j : Int) ∧ j < n) := by omega
      simp [this], ⟨rfl, rfl, rfl, Nat.le_refl _, fun _ _ _ => rfl⟩⟩
    have HF := Lib.hid hfin
    clear h hin hfin hd hr
    go_enter Try.func131, Try.ntmps131
    go_wp2_with fail
    refine HIN.out.mono ?_
    rintro e w1 ⟨rfl, rfl⟩
    go_wp2_with fail
    go_ret
    exact ⟨⟨_, rfl⟩, HF.out⟩

theorem row_whole {w : World} {B g n : Nat} {e : TypeId} {xs : List Value} (h : w.ownsRow B e 1 (.slice (some ⟨g, 0, none⟩) n n) n xs) : w.heap[g]? = some (.cells xs.toArray e (0, 0)) := by
  rcases h.2 with ⟨h', _⟩ | ⟨g', cap', cur, h', hb, hg, hnc, hcm, hcs, htake⟩
  · cases h'
  · cases h'
    rw [hg]
    congr 2
    rw [← htake, List.take_of_length_le (by simp; omega)]

theorem bytes_made (w : World) (n : Nat) (hn : n ≤ 1000000) : ∃ w', (Instr.makeSlice 37 (.int .i64 (n : Int)) (.int .i64 (n : Int))).run Try.prog w = .ok (.slice (some ⟨w.heap.size, 0, none⟩) n n) w' ∧ w'.heap[w.heap.size]? = some (.cells (cellsOfB (List.replicate n 0)).toArray 5 (0, 0)) ∧ w.grownBy w' none := by
  obtain ⟨i0, hi, hz0, hz1, hz2⟩ := info_parts info5
  obtain ⟨w', hr, ho, hg⟩ := run_make_full (P := Try.prog) (w := w) w.heap.size 37 5 i0 (.int .u8 0) 1 Try.underlying37 hi hz0 hz1 .i64 .i64 n (by rw [hz2]; omega) (by unfold maxLen; omega) (Nat.le_refl _)
  have e : (madeCells (Value.int .u8 0).cells (n * 1)).toList = cellsOfB (List.replicate n 0) := by
    show (madeCells #[Value.int .u8 0] (n * 1)).toList = _
    rw [toList_madeCells_one, Nat.mul_one]
    unfold cellsOfB
    rw [List.map_replicate]
    rfl
  rw [e] at ho
  exact ⟨w', hr, row_whole ho, hg⟩

def BmMade (n : Nat) (T : List UInt8) (w : World) (v : Value) (w' : World) : Prop := ∃ m g, v = .pointer (some ⟨m, 0, none⟩) ∧ Bmap w' m g n T ∧ w.heap.size ≤ m ∧ w.heap.size ≤ g ∧ Below w.heap.size w w'

set_option maxRecDepth 100000 in
set_option maxHeartbeats 4000000 in
theorem bmNew_any (n : Nat) (w : World) (hn : n ≤ 4096) :
    Calls Try.prog 130 #[.int .i64 (n : Int)] w fun e w' => ∃ v, e = .returned (.tuple #[v, .int .i64 0]) ∧ BmMade n (List.replicate ((n + 7) / 8) 0) w v w' := by
  obtain ⟨w1, hmk, hrow, hg⟩ := bytes_made w ((n + 7) / 8) (by omega)
  have hi : (((n + 7) / 8 : Nat) : Int) = ((n : Int) + 7) / 8 := by omega
  rw [hi] at hmk
  have hnn : ¬ (n : Int) < 0 := by omega
  have hn2 : ¬ (4096 : Int) < (n : Int) := by omega
  have hb1 : Below w.heap.size w w1 := (Below.refl _ _).grown hg (Nat.le_refl _) (fun k hk => by cases hk)
  have hlt : w.heap.size < w1.heap.size := (Array.getElem?_eq_some_iff.1 hrow).1
  have hL : (List.replicate ((n + 7) / 8) (0 : UInt8)).length = (n + 7) / 8 := by simp
  have hhead : (w1.alloc (.cells #[.slice (some ⟨w.heap.size, 0, none⟩) ((n + 7) / 8) ((n + 7) / 8), .int .i64 (n : Int)] 211)).heap[w1.heap.size]? = some (.cells #[.slice (some ⟨w.heap.size, 0, none⟩) ((n + 7) / 8) ((n + 7) / 8), .int .i64 (n : Int)] 211 (0, 0)) := heap_alloc_new _ _
  have hrow2 : (w1.alloc (.cells #[.slice (some ⟨w.heap.size, 0, none⟩) ((n + 7) / 8) ((n + 7) / 8), .int .i64 (n : Int)] 211)).heap[w.heap.size]? = some (.cells (cellsOfB (List.replicate ((n + 7) / 8) 0)).toArray 5 (0, 0)) := by rw [heap_alloc_old _ _ hlt]; exact hrow
  have hbm : Bmap (w1.alloc (.cells #[.slice (some ⟨w.heap.size, 0, none⟩) ((n + 7) / 8) ((n + 7) / 8), .int .i64 (n : Int)] 211)) w1.heap.size w.heap.size n (List.replicate ((n + 7) / 8) 0) := ⟨by rw [hL]; exact hhead, hrow2, hL, .inr hlt⟩
  have HBM := Lib.hid hbm
  clear hbm hhead hrow2 hrow hg hL hi
  go_enter Try.func130, Try.ntmps130
  go_wp2_with fail
  go_ret2
  exact ⟨_, rfl, w1.heap.size, w.heap.size, rfl, HBM.out, by omega, by omega, hb1.alloc (by omega) _⟩

set_option maxRecDepth 100000 in
set_option maxHeartbeats 4000000 in
theorem bmBytes_any (m g n : Nat) (T : List UInt8) (w : World) (h : Bmap w m g n T) (hn : n ≤ 1000000) :
    Calls Try.prog 79 #[.pointer (some ⟨m, 0, none⟩)] w fun e w' => ∃ v, e = .returned v ∧ w'.ownsRow w.heap.size 5 1 v T.length (cellsOfB T) ∧ Below w.heap.size w w' := by
  have c0 : w.cell? ⟨m, 0, none⟩ = some (.slice (some ⟨g, 0, none⟩) T.length T.length) := by rw [cell_of_row w m 0 _ 211 (0, 0) h.head]; rfl
  have hbs : Bs w (some ⟨g, 0, none⟩) T.length T := by
    refine Is.mk' (by simp) fun i hi => ?_
    rw [cell_of_row w g (0 + i) _ 5 (0, 0) h.row]
    simp [cellsOfB, hi]
  obtain ⟨v', w', hap, hown, hg⟩ := app_src (acc := []) (World.ownsRow_nil w w.heap.size 5 1) T.length hbs (by have := h.len; simp; omega) (Nat.le_refl _)
  have hb : Below w.heap.size w w' := (Below.refl _ _).grown hg (Nat.le_refl _) (fun k hk => by cases hk)
  rw [List.nil_append] at hown
  have HO := Lib.hid hown
  clear h hbs hown hg
  go_enter Try.func79, Try.ntmps79
  go_wp2_with (at_builtin; refine wpList_append_run rfl _ _ _ rfl hap ?_)
  go_ret
  exact ⟨_, rfl, HO.out, hb⟩
end Go.Proofs.Ytljbehndnledpaa
