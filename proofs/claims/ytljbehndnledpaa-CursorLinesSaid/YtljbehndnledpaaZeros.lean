/- Noughts appended to a slice of bytes of the call's own (gc's append of a make). Conditions: those of each theorem. -/
import Derived.Test.YtljbehndnledpaaRlePack
import Derived.Lib.AppendZerosOnto
namespace Go.Proofs.Ytljbehndnledpaa
open Go.RowKit

theorem run_append_room_zeros {P : Program} (w : World) (t tn ty e : TypeId) (i : TypeInfo) (z : Value) (kq kn : IntKind) (ht : P.underlying t = some (.slice e)) (htn : P.underlying tn = some (.int kn)) (hi : P.info? e = some i) (hz : i.zero = some z)
    (g sLen sCap : Nat) (cur : Array Value) (hg : w.heap[g]? = some (.cells cur e (0, 0))) (k : Nat) (h0 : 0 < k) (hs : i.size = 1) (h1 : z.oneCell' = true) (hzc : z.cells = #[z])
    (hroom : sLen + k ≤ sCap) (h63 : (k : Int) ≤ 9223372036854775807) (h48 : k * i.bytes ≤ 281474976710656) (hfit : sLen + k ≤ cur.size) :
    (Builtin.append_ #[t, tn] ty #[.slice (some ⟨g, 0, none⟩) sLen sCap, .int kq k]).run P w =
      .ok (.slice (some ⟨g, 0, none⟩) (sLen + k) sCap) (w.setRow g (cur.toList.take sLen ++ (Builtin.zeroCells z.cells k).toList ++ cur.toList.drop (sLen + k)).toArray) := by
  have hk : k ≠ 0 := by omega
  have hw : IntKind.i64.wrap (k : Int) = k := by rw [IntKind.wrap_i64]; omega
  have h48i : ¬ (281474976710656 < (k : Int) * (i.bytes : Int)) := by
    rw [← Int.natCast_mul]
    omega
  have hneg : ¬ ((k : Int) < 0) := by omega
  have hlen : (Builtin.zeroCells z.cells k).toList.length = k := by rw [Array.length_toList, size_zeroCells, hzc]; simp
  have hall : ∀ v ∈ (Builtin.zeroCells z.cells k).toList, v.oneCell' = true := by
    intro v hv
    rw [hzc] at hv
    simp [Builtin.zeroCells, Nat.mod_one] at hv
    obtain ⟨_, _, rfl⟩ := hv
    exact h1
  have hst := run_storeCells_at P g sLen e (Builtin.zeroCells z.cells k).toList 0 cur w hg (by rw [hlen]; omega) hall
  simp only [Nat.add_zero, hlen] at hst
  simp [Builtin.append_, run_underlying ht, run_underlying htn, sizeOf, typeInfo, zeroValue, hi, hz, asInt, asIntOf, hw, hneg, hk, hroom, h48i, hs, Addr.add_lit, hst]

theorem zeroCells_u8 (k : Nat) : (Builtin.zeroCells (Value.int .u8 0).cells k).toList = cellsOfB (List.replicate k 0) := by
  apply List.ext_getElem
  · simp [Builtin.zeroCells, cellsOfB, Value.cells]
  · intro j h1 h2
    simp [Builtin.zeroCells, cellsOfB, Value.cells, Nat.mod_one]

theorem app_zeros {w : World} {base : Nat} {v : Value} {acc : List UInt8} (hown : w.ownsRow base 5 1 v acc.length (cellsOfB acc)) (k : Nat) (h0 : 0 < k)
    (hlen : acc.length + k ≤ 100000000000) (hbase : base ≤ w.heap.size) :
    ∃ v' w', (Builtin.append_ #[37, 3] 37 #[v, .int .i64 (k : Int)]).run Try.prog w = .ok v' w' ∧ w'.ownsRow base 5 1 v' (acc ++ List.replicate k 0).length (cellsOfB (acc ++ List.replicate k 0)) ∧ w.grownBy w' v.ownBlock := by
  obtain ⟨i0, hi, hz0, hz1, hz2⟩ := info_parts info5
  have hcl : (cellsOfB acc).length = acc.length := by simp [cellsOfB]
  have hzl : (Builtin.zeroCells (Value.int .u8 0).cells k).size = k := by rw [size_zeroCells]; simp [Value.cells]
  have hlen2 : (acc ++ List.replicate k 0).length = acc.length + k := by simp
  rw [hlen2, cellsOfB_app]
  rcases hown.2 with ⟨rfl, h2⟩ | ⟨g, cap, cur, rfl, hbg, hg, hnc, hcm, hcs, htake⟩
  · have hacc : acc = [] := List.eq_nil_of_length_eq_zero h2
    subst hacc
    have hr := Lib.run_append_nil_zeros (P := Try.prog) w 37 3 37 5 i0 (.int .u8 0) .i64 .i64 Try.underlying37 Try.underlying3 hi hz0 k h0 (by omega) (by omega) (by rw [hz2]; omega)
    have hge := grownCap_ge w k 0 5
    have hcm : grownCap w k 0 5 ≤ maxLen := grownCap_le_maxLen w k 0 5 (by unfold maxLen; omega)
    refine ⟨_, _, hr, ⟨by simp [cellsOfB], .inr ⟨w.heap.size, _, _, by simp, hbase, heap_alloc_new w.drew _, by simpa using hge, hcm, ?_, ?_⟩⟩, ⟨rfl, rfl, rfl, by simp, fun j hj _ => heap_alloc_old w.drew _ hj⟩⟩
    · rw [Array.size_append, hzl, size_zeroCells]; simp [Value.cells]; omega
    · rw [Array.toList_append, zeroCells_u8]
      simp [cellsOfB]
  · have hcz : cur.size = cap := by omega
    by_cases hroom : acc.length + k ≤ cap
    · have hr := run_append_room_zeros (P := Try.prog) w 37 3 37 5 i0 (.int .u8 0) .i64 .i64 Try.underlying37 Try.underlying3 hi hz0 g acc.length cap cur hg k h0 hz1 rfl rfl hroom (by omega) (by rw [hz2]; omega) (by omega)
      refine ⟨_, _, hr, ⟨by simp [cellsOfB], .inr ⟨g, cap, _, rfl, hbg, setRow_heap w g cur _ 5 _ hg, hroom, hcm, ?_, ?_⟩⟩, ⟨rfl, rfl, rfl, by simp, fun j _ hj => setRow_other w g j _ (fun e => hj (by simp [Value.ownBlock, e]))⟩⟩
      · simp only [List.size_toArray, List.length_append, List.length_take, List.length_drop, Array.length_toList, hzl]
        omega
      · rw [Nat.mul_one] at htake
        rw [htake, zeroCells_u8, Nat.mul_one]
        have : acc.length + k = (cellsOfB acc ++ cellsOfB (List.replicate k 0)).length := by simp [cellsOfB]
        rw [this]
        exact List.take_left
    · have holds : (Builtin.firstCells i0.size acc.length (.slice (some ⟨g, 0, none⟩) acc.length cap)).run Try.prog w.drew = .ok (cellsOfB acc).toArray w.drew := by
        rw [hz1]
        exact run_firstCells_some (P := Try.prog) w.drew 1 acc.length ⟨g, 0, none⟩ acc.length cap (cellsOfB acc) (by simp [cellsOfB]) (hown.drew.cells (g := g) rfl)
      have hr := Lib.run_append_grow_zeros (P := Try.prog) w 37 3 37 5 i0 (.int .u8 0) .i64 .i64 Try.underlying37 Try.underlying3 hi hz0 (some ⟨g, 0, none⟩) acc.length cap (cellsOfB acc) holds k h0 (by omega) (by omega) (by omega) (by rw [hz2]; omega) (growslice_fits (by omega) (by rw [hz2]; omega))
      have hge := grownCap_ge w (acc.length + k) cap 5
      have hcm' : grownCap w (acc.length + k) cap 5 ≤ maxLen := grownCap_le_maxLen w (acc.length + k) cap 5 (by unfold maxLen; omega)
      refine ⟨_, _, hr, ⟨by simp [cellsOfB], .inr ⟨w.heap.size, _, _, rfl, hbase, heap_alloc_new w.drew _, hge, hcm', ?_, ?_⟩⟩, ⟨rfl, rfl, rfl, by simp, fun j hj _ => heap_alloc_old w.drew _ hj⟩⟩
      · simp only [Array.size_append, hzl, size_zeroCells, List.size_toArray, hcl]; simp [Value.cells]; omega
      · simp only [Array.toList_append, zeroCells_u8]
        have : (acc.length + k) * 1 = (cellsOfB acc ++ cellsOfB (List.replicate k 0)).length := by simp [cellsOfB]
        rw [this]
        exact List.take_left
end Go.Proofs.Ytljbehndnledpaa
