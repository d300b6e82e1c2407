/- The walk of yesteryearlaw56.alive, and slices.Equal at equal numbers. Conditions: those of each theorem. -/
import Derived.Test.YtljbehndnledpaaBatchSquash
namespace Go.Proofs.Ytljbehndnledpaa
open Go.RowKit

theorem equalInts_any (a1 a2 : Option Addr) (c1 c2 : Nat) (xs : List Int) (w : World) (h1 : Is .i64 w a1 xs.length xs) (h2 : Is .i64 w a2 xs.length xs) (hn : xs.length ≤ 1000000000) :
    Calls Try.prog 87 #[.slice a1 xs.length c1, .slice a2 xs.length c2] w fun e w' => e = .returned (.bool true) ∧ Below w.heap.size w w' := by
  by_cases h0 : xs.length = 0
  · rw [h0]
    refine (Try.slices_Equal_int_empty a1 a2 c1 0 c2 w (by omega)).mono ?_
    rintro e w' ⟨rfl, rfl⟩
    exact ⟨rfl, Below.refl _ _⟩
  · obtain ⟨b1, o1, rfl, hc1⟩ := h1.at (by omega)
    obtain ⟨b2, o2, rfl, hc2⟩ := h2.at (by omega)
    refine (Try.slices_Equal_int b1 o1 xs.length c1 b2 o2 xs.length c2 xs xs w (Nat.le_refl _) (Nat.le_refl _) (by omega) (by omega) (fun j hj => hc1 j (by omega)) (fun j hj => hc2 j (by omega))).mono ?_
    rintro e w' ⟨rfl, q, rfl⟩
    exact ⟨ret_bool (by simp), below_drewN (Below.refl _ _) q⟩

/-- The operations of the example. -/
def aliveO (c : UInt8) : PO := ⟨4, 1, 0, 0, 0, 0, [c], []⟩
theorem bs_one {w : World} {g : Nat} (c : UInt8) {z : Int} (hz : z = (c.toNat : Int)) (h : w.heap[g]? = some (.cells #[.int .u8 z] 5 (0, 0))) : Bs w (some ⟨g, 0, none⟩) 1 [c] :=
  Is.mk' rfl fun i hi => by
    obtain rfl : i = 0 := by omega
    subst hz
    simp [World.cell?, h]
theorem alive_ops (w : World) : Ops (((w.alloc (.cells #[.int .u8 1] 5)).alloc (.cells #[.int .u8 2] 5)).alloc (.cells #[.int .i64 4, .int .i64 1, .int .i64 0, .int .i64 0, .int .i64 0, .int .u64 0, .slice (some ⟨w.heap.size, 0, none⟩) 1 1, .slice none 0 0, .int .i64 4, .int .i64 1, .int .i64 0, .int .i64 0, .int .i64 0, .int .u64 0, .slice (some ⟨w.heap.size + 1, 0, none⟩) 1 1, .slice none 0 0] 80))
    (some ⟨w.heap.size + 1 + 1, 0, none⟩) 2 [aliveO 1, aliveO 2] := by
  have h1 : (((w.alloc (.cells #[.int .u8 1] 5)).alloc (.cells #[.int .u8 2] 5)).alloc (.cells #[.int .i64 4, .int .i64 1, .int .i64 0, .int .i64 0, .int .i64 0, .int .u64 0, .slice (some ⟨w.heap.size, 0, none⟩) 1 1, .slice none 0 0, .int .i64 4, .int .i64 1, .int .i64 0, .int .i64 0, .int .i64 0, .int .u64 0, .slice (some ⟨w.heap.size + 1, 0, none⟩) 1 1, .slice none 0 0] 80)).heap[w.heap.size]? = some (.cells #[.int .u8 1] 5 (0, 0)) := by
    rw [Below.heap_alloc _ _ _ (by simp; omega), Below.heap_alloc _ _ _ (by simp)]
    exact heap_alloc_new w _
  have h2 : (((w.alloc (.cells #[.int .u8 1] 5)).alloc (.cells #[.int .u8 2] 5)).alloc (.cells #[.int .i64 4, .int .i64 1, .int .i64 0, .int .i64 0, .int .i64 0, .int .u64 0, .slice (some ⟨w.heap.size, 0, none⟩) 1 1, .slice none 0 0, .int .i64 4, .int .i64 1, .int .i64 0, .int .i64 0, .int .i64 0, .int .u64 0, .slice (some ⟨w.heap.size + 1, 0, none⟩) 1 1, .slice none 0 0] 80)).heap[w.heap.size + 1]? = some (.cells #[.int .u8 2] 5 (0, 0)) := by
    rw [Below.heap_alloc _ _ _ (by simp)]
    have := heap_alloc_new (w.alloc (.cells #[.int .u8 1] 5)) (.cells #[.int .u8 2] 5)
    simpa using this
  have h3 := heap_alloc_new ((w.alloc (.cells #[.int .u8 1] 5)).alloc (.cells #[.int .u8 2] 5)) (.cells #[.int .i64 4, .int .i64 1, .int .i64 0, .int .i64 0, .int .i64 0, .int .u64 0, .slice (some ⟨w.heap.size, 0, none⟩) 1 1, .slice none 0 0, .int .i64 4, .int .i64 1, .int .i64 0, .int .i64 0, .int .i64 0, .int .u64 0, .slice (some ⟨w.heap.size + 1, 0, none⟩) 1 1, .slice none 0 0] 80)
  rw [show ((w.alloc (.cells #[.int .u8 1] 5)).alloc (.cells #[.int .u8 2] 5)).heap.size = w.heap.size + 1 + 1 by simp] at h3
  generalize ((w.alloc (.cells #[.int .u8 1] 5)).alloc (.cells #[.int .u8 2] 5)).alloc (.cells #[.int .i64 4, .int .i64 1, .int .i64 0, .int .i64 0, .int .i64 0, .int .u64 0, .slice (some ⟨w.heap.size, 0, none⟩) 1 1, .slice none 0 0, .int .i64 4, .int .i64 1, .int .i64 0, .int .i64 0, .int .i64 0, .int .u64 0, .slice (some ⟨w.heap.size + 1, 0, none⟩) 1 1, .slice none 0 0] 80) = W at *
  refine ⟨rfl, fun i o ho => ?_⟩
  have hil := (List.getElem?_eq_some_iff.1 ho).1
  match i, hil with
  | 0, _ =>
    simp at ho
    subst ho
    refine ⟨w.heap.size + 1 + 1, 0, .slice (some ⟨w.heap.size, 0, none⟩) 1 1, .slice none 0 0, rfl, fun j x hx => ?_, _, _, _, _, rfl, rfl, bs_one 1 rfl h1, ⟨rfl, fun i x h => by simp [aliveO] at h⟩⟩
    have hj : j < 8 := (List.getElem?_eq_some_iff.1 hx).1
    match j, hj with
    | 0, _ | 1, _ | 2, _ | 3, _ | 4, _ | 5, _ | 6, _ | 7, _ => simp [opCells, aliveO] at hx; subst hx; simp [World.cell?, h3]
  | 1, _ =>
    simp at ho
    subst ho
    refine ⟨w.heap.size + 1 + 1, 0, .slice (some ⟨w.heap.size + 1, 0, none⟩) 1 1, .slice none 0 0, rfl, fun j x hx => ?_, _, _, _, _, rfl, rfl, bs_one 2 rfl h2, ⟨rfl, fun i x h => by simp [aliveO] at h⟩⟩
    have hj : j < 8 := (List.getElem?_eq_some_iff.1 hx).1
    match j, hj with
    | 0, _ | 1, _ | 2, _ | 3, _ | 4, _ | 5, _ | 6, _ | 7, _ => simp [opCells, aliveO] at hx; subst hx; simp [World.cell?, h3]

set_option maxRecDepth 100000 in
set_option maxHeartbeats 4000000 in
theorem batchAlive_any (w : World) : Calls Try.prog 89 #[] w fun e w' => e = .returned (.bool true) ∧ Below w.heap.size w w' := by
  have hops := alive_ops w
  have hsq := squash_any (some ⟨w.heap.size + 1 + 1, 0, none⟩) 2 2 [aliveO 1, aliveO 2] _ hops (by omega) (fun o ho => by
    simp only [List.mem_cons, List.not_mem_nil, or_false] at ho
    rcases ho with rfl | rfl <;> simp [aliveO])
  have e1 : (aliveO 1).idle [aliveO 2] = true := by kernel_rfl
  have e2 : (aliveO 2).idle [] = false := by decide
  have hk : sqKeep [aliveO 1, aliveO 2] = [aliveO 2] := by
    have h1 : sqKeep [aliveO 1, aliveO 2] = if (aliveO 1).idle [aliveO 2] then sqKeep [aliveO 2] else aliveO 1 :: sqKeep [aliveO 2] := rfl
    have h2 : sqKeep [aliveO 2] = if (aliveO 2).idle [] then [] else [aliveO 2] := rfl
    rw [h1, e1, if_pos rfl, h2, e2, if_neg (by decide)]
  rw [hk] at hsq
  have hbA : Below w.heap.size w (((w.alloc (.cells #[.int .u8 1] 5)).alloc (.cells #[.int .u8 2] 5)).alloc (.cells #[.int .i64 4, .int .i64 1, .int .i64 0, .int .i64 0, .int .i64 0, .int .u64 0, .slice (some ⟨w.heap.size, 0, none⟩) 1 1, .slice none 0 0, .int .i64 4, .int .i64 1, .int .i64 0, .int .i64 0, .int .i64 0, .int .u64 0, .slice (some ⟨w.heap.size + 1, 0, none⟩) 1 1, .slice none 0 0] 80)) := (((Below.refl _ _).alloc (Nat.le_refl _) _).alloc (by simp) _).alloc (by simp; omega) _
  have HSQ := Lib.hid hsq
  clear hops hsq hk
  go_enter Try.func89, Try.ntmps89
  go_wp2_with fail
  refine HSQ.out.mono ?_
  rintro e w2 ⟨v, rfl, ho, hb2⟩
  obtain ⟨a, cap, rfl, hops2, -⟩ := ho.ops
  obtain ⟨b, p, dv, mv, ha, hc, da, dc, ma, mc, rfl, rfl, hbs, -⟩ := hops2.2 0 (aliveO 2) rfl
  subst ha
  have c6 := hc 6 _ rfl
  obtain ⟨b', o', ch, hda, hch, hcell, -⟩ := Bs.cell hbs 0 (by decide)
  subst hda
  have ech : ch = 2 := by simpa [aliveO] using hch.symm
  subst ech
  simp only [Nat.zero_mul, Nat.add_zero] at c6 hcell
  have hb' := hbA.trans (hb2.mono hbA.size)
  clear ho hops2 hc hbs hch HSQ
  go_wp2_with fail
  go_ret
  exact ⟨rfl, hb'⟩
end Go.Proofs.Ytljbehndnledpaa
