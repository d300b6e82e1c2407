/- A block of 32 bools: what it reads as, behind a store, an alloc; whole. Plain. -/
import Derived.Test.YtljbehndnledpaaCrc
import Derived.Deep.MidRow
namespace Go.Proofs.Ytljbehndnledpaa
open Go.RowKit

/-- 32 bools, the lowest first. -/
def boolsV (f : Nat → Bool) : List Value := (List.range 32).map fun i => .bool (f i)
/-- The block b holds them, and may be written. -/
def Bools (w : World) (b : Nat) (f : Nat → Bool) : Prop := ∀ j, j < 32 → w.cell? ⟨b, j, none⟩ = some (.bool (f j)) ∧ w.frozen? ⟨b, j, none⟩ = false

theorem boolsV_length (f : Nat → Bool) : (boolsV f).length = 32 := by simp [boolsV]
theorem boolsV_congr {f g : Nat → Bool} (h : ∀ j, j < 32 → f j = g j) : boolsV f = boolsV g := by
  unfold boolsV
  apply List.map_congr_left
  intro i hi
  rw [h i (List.mem_range.1 hi)]
theorem Bools.congr {w : World} {b : Nat} {f g : Nat → Bool} (h : Bools w b f) (e : ∀ j, j < 32 → f j = g j) : Bools w b g := fun j hj => by rw [← e j hj]; exact h j hj
theorem Bools.lt {w : World} {b : Nat} {f : Nat → Bool} (h : Bools w b f) : b < w.heap.size := World.block_lt_of_cell? w _ (h 0 (by omega)).1
theorem Bools.below {w w' : World} {base b : Nat} {f : Nat → Bool} (h : Bools w b f) (hb : Below base w w') (hlt : b < base) : Bools w' b f := fun j hj => by
  have h1 := h j hj
  refine ⟨by rw [hb.cell (p := ⟨b, j, none⟩) hlt]; exact h1.1, ?_⟩
  have := h1.2
  unfold World.frozen? at this ⊢
  simp only at this ⊢
  rw [hb.block b hlt]; exact this
theorem Bools.set {w : World} {b : Nat} {f : Nat → Bool} (h : Bools w b f) (k : Nat) (hk : k < 32) (v : Bool) : Bools (w.setCell ⟨b, k, none⟩ (.bool v)) b (fun i => if i = k then v else f i) := fun j hj => by
  refine ⟨?_, by rw [World.frozen?_setCell]; exact (h j hj).2⟩
  show (w.setCell ⟨b, k, none⟩ (.bool v)).cell? ⟨b, j, none⟩ = some (.bool (if j = k then v else f j))
  by_cases e : j = k
  · subst e; rw [if_pos rfl]; exact World.cell?_setCell_same _ _ _ (h j hj).1
  · have hn : (⟨b, k, none⟩ : Addr) ≠ ⟨b, j, none⟩ := by
      intro e'
      cases e'
      exact e rfl
    rw [if_neg e, World.cell?_setCell_other _ _ _ _ hn]; exact (h j hj).1
theorem Bools.apart {w : World} {b b' k : Nat} {f : Nat → Bool} (h : Bools w b f) (hne : b' ≠ b) (v : Value) : Bools (w.setCell ⟨b', k, none⟩ v) b f := fun j hj => by
  refine ⟨?_, by rw [World.frozen?_setCell]; exact (h j hj).2⟩
  have hn : (⟨b', k, none⟩ : Addr) ≠ ⟨b, j, none⟩ := by
    intro e'
    cases e'
    exact hne rfl
  rw [World.cell?_setCell_other _ _ _ _ hn]; exact (h j hj).1
theorem Bools.row {w : World} {b : Nat} {f : Nat → Bool} (h : Bools w b f) : w.rangeAt b 0 (boolsV f) := fun j v hv => by
  have hj : j < 32 := by have := (List.getElem?_eq_some_iff.1 hv).1; rwa [boolsV_length] at this
  have : v = .bool (f j) := by
    simp [boolsV, hj] at hv
    exact hv.symm
  rw [Nat.zero_add, this]
  exact (h j hj).1
theorem Bools.there {w : World} {b : Nat} {f : Nat → Bool} (h : Bools w b f) : w.there b 0 32 := fun j hj => by
  rw [Nat.zero_add]
  exact ⟨by rw [(h j hj).1]; rfl, (h j hj).2⟩
theorem Bools.new (w : World) (t : TypeId) (f : Nat → Bool) (arr : Array Value) (ha : arr = (boolsV f).toArray) : Bools (w.alloc (.cells arr t)) w.heap.size f := fun j hj => by
  subst ha
  refine ⟨?_, by simp⟩
  rw [cell_of_row _ _ j _ t (0, 0) (heap_alloc_new w _)]
  simp [boolsV, hj]
theorem Bools.alloc {w : World} {b : Nat} {f : Nat → Bool} (h : Bools w b f) (o : Obj) : Bools (w.alloc o) b f := h.below ((Below.refl _ _).alloc (Nat.le_refl _) _) h.lt
theorem Bools.drew {w : World} {b : Nat} {f : Nat → Bool} (h : Bools w b f) : Bools w.drew b f := h.below (Below.refl _ _).drew h.lt
theorem boolsV_one (f : Nat → Bool) : ∀ v ∈ boolsV f, v.oneCell' = true := by
  intro v hv
  simp [boolsV] at hv
  obtain ⟨i, _, rfl⟩ := hv
  rfl
/-- Stored whole. -/
theorem Bools.stored {w : World} {b : Nat} {g : Nat → Bool} (h : Bools w b g) (f : Nat → Bool) : Bools (w.setCells b 0 (boolsV f)) b f := fun j hj => by
  have h1 := World.cell?_setCells_in b (boolsV f) 0 w (fun j hj => by rw [Nat.zero_add, (h j (by rwa [boolsV_length] at hj)).1]; rfl) j (by rw [boolsV_length]; exact hj)
  rw [Nat.zero_add] at h1
  refine ⟨?_, by rw [World.frozen?_setCells]; exact (h j hj).2⟩
  rw [h1]
  simp [boolsV]
theorem Below.setCells' {base : Nat} {w w' : World} (h : Below base w w') {b : Nat} (hb : base ≤ b) : ∀ (vs : List Value) (o : Nat), Below base w (w'.setCells b o vs) := by
  intro vs
  induction vs generalizing w' with
  | nil => intro o; exact h
  | cons v r ih => intro o; exact ih (h.setCell (p := ⟨b, o, none⟩) hb v) (o + 1)

theorem info280 : (Try.prog.info? 280).map (·.size) = some 32 := by kernel_rfl
theorem load280 {w : World} {b : Nat} {f : Nat → Bool} (h : Bools w b f) : (Instr.loadAt 280 (.pointer (some ⟨b, 0, none⟩))).run Try.prog w = .ok (.agg (boolsV f).toArray) w :=
  run_loadAt_mid w b 0 280 _ _ h.row Try.underlying280 rfl (by rw [boolsV_length]; exact info280)
theorem store280 {w : World} {b : Nat} {g : Nat → Bool} (h : Bools w b g) (f : Nat → Bool) : (Instr.storeAt 280 (.pointer (some ⟨b, 0, none⟩)) (.agg (boolsV f).toArray)).run Try.prog w = .ok () (w.setCells b 0 (boolsV f)) :=
  run_storeAt_mid w b 0 280 _ (by simpa [boolsV_length] using h.there) (by simpa [boolsV_length] using info280) (all_oneCell_toArray (boolsV_one f))
theorem loadVar280 {w : World} {b : Nat} {f : Nat → Bool} (h : Bools w b f) : (loadVar 280 ⟨b, 0, none⟩).run Try.prog w = .ok (.agg (boolsV f).toArray) w :=
  run_loadVar_mid w b 0 280 _ _ h.row Try.underlying280 rfl (by rw [boolsV_length]; exact info280)
/-- The operations at a plain region's list. -/
theorem wpl_load280 {ops : Array Oper} {rest : List Oper} {op : Oper} {a : Act} {w : World} {Q : Exit → Act → World → Prop} (hgd : op.guard = none) (x : Operand) (ho : op.op = .load 280 x)
    (b : Nat) (hx : a.eval x = .pointer (some ⟨b, 0, none⟩)) (f : Nat → Bool) (hb : Bools w b f) (h : wpList Try.prog ops Q rest (a.put op.dst (.agg (boolsV f).toArray)) w) : wpList Try.prog ops Q (op :: rest) a w :=
  wpList_load_mid hgd 280 x ho b 0 hx _ _ hb.row Try.underlying280 rfl (by rw [boolsV_length]; exact info280) h
theorem wpl_store280 {ops : Array Oper} {rest : List Oper} {op : Oper} {a : Act} {w : World} {Q : Exit → Act → World → Prop} (hgd : op.guard = none) (x y : Operand) (ho : op.op = .store 280 x y)
    (b : Nat) (hx : a.eval x = .pointer (some ⟨b, 0, none⟩)) (f : Nat → Bool) (hy : a.eval y = .agg (boolsV f).toArray) (g : Nat → Bool) (hb : Bools w b g) (h : wpList Try.prog ops Q rest (a.put op.dst undef) (w.setCells b 0 (boolsV f))) : wpList Try.prog ops Q (op :: rest) a w :=
  wpList_store_mid hgd 280 x y ho b 0 _ hx hy (by simpa [boolsV_length] using hb.there) (by simpa [boolsV_length] using info280) (all_oneCell_toArray (boolsV_one f)) h
theorem boolsV_size (f : Nat → Bool) : (boolsV f).toArray.size = 32 := by simp [boolsV_length]
end Go.Proofs.Ytljbehndnledpaa
