/- A tally as it lies in memory (eight numbers); the walk of scrub.Tally.Sum. Conditions: those of each theorem. -/
import Derived.Test.YtljbehndnledpaaDiskRead
namespace Go.Proofs.Ytljbehndnledpaa
open Go.RowKit

/-- Eight numbers. -/
def tallyV (T : Nat → Nat) : List Value := (List.range 8).map fun j => .int .i64 (T j : Int)
/-- The block b holds them, and may be written. -/
def Tally (w : World) (b : Nat) (T : Nat → Nat) : Prop := ∀ j, j < 8 → w.cell? ⟨b, j, none⟩ = some (.int .i64 (T j : Int)) ∧ w.frozen? ⟨b, j, none⟩ = false

theorem tallyV_length (T : Nat → Nat) : (tallyV T).length = 8 := by simp [tallyV]
theorem Tally.congr {w : World} {b : Nat} {S T : Nat → Nat} (h : Tally w b S) (e : ∀ j, j < 8 → S j = T j) : Tally w b T := fun j hj => by rw [← e j hj]; exact h j hj
theorem Tally.lt {w : World} {b : Nat} {T : Nat → Nat} (h : Tally w b T) : b < w.heap.size := World.block_lt_of_cell? w _ (h 0 (by omega)).1
theorem Tally.below {w w' : World} {base b : Nat} {T : Nat → Nat} (h : Tally w b T) (hb : Below base w w') (hlt : b < base) : Tally w' b T := fun j hj => by
  have h1 := h j hj
  refine ⟨by rw [hb.cell (p := ⟨b, j, none⟩) hlt]; exact h1.1, ?_⟩
  have := h1.2
  unfold World.frozen? at this ⊢
  simp only at this ⊢
  rw [hb.block b hlt]; exact this
theorem Tally.heap {w w' : World} {b : Nat} {T : Nat → Nat} (h : Tally w b T) (e : w'.heap[b]? = w.heap[b]?) : Tally w' b T := fun j hj => by
  refine ⟨by rw [cell_heap e]; exact (h j hj).1, ?_⟩
  have := (h j hj).2
  unfold World.frozen? at this ⊢
  simp only at this ⊢
  rw [e]; exact this
theorem Tally.add {w : World} {b : Nat} {T : Nat → Nat} (h : Tally w b T) (k : Nat) (d : Nat) : Tally (w.setCell ⟨b, k, none⟩ (.int .i64 ((T k + d : Nat) : Int))) b (fun j => T j + if k = j then d else 0) := fun j hj => by
  refine ⟨?_, by rw [World.frozen?_setCell]; exact (h j hj).2⟩
  show (w.setCell ⟨b, k, none⟩ (.int .i64 ((T k + d : Nat) : Int))).cell? ⟨b, j, none⟩ = some (.int .i64 ((T j + if k = j then d else 0 : Nat) : Int))
  by_cases e : k = j
  · subst e; rw [if_pos rfl]; exact World.cell?_setCell_same _ _ _ (h k hj).1
  · have hn : (⟨b, k, none⟩ : Addr) ≠ ⟨b, j, none⟩ := by
      intro e'
      cases e'
      exact e rfl
    rw [if_neg e, World.cell?_setCell_other _ _ _ _ hn]; exact (h j hj).1
theorem Tally.row {w : World} {b : Nat} {T : Nat → Nat} (h : Tally w b T) : w.rangeAt b 0 (tallyV T) := fun j v hv => by
  have hj : j < 8 := by have := (List.getElem?_eq_some_iff.1 hv).1; rwa [tallyV_length] at this
  have : v = .int .i64 (T j : Int) := by
    simp [tallyV, hj] at hv
    exact hv.symm
  rw [Nat.zero_add, this]
  exact (h j hj).1
theorem Tally.there {w : World} {b : Nat} {T : Nat → Nat} (h : Tally w b T) : w.there b 0 8 := fun j hj => by
  rw [Nat.zero_add]
  exact ⟨by rw [(h j hj).1]; rfl, (h j hj).2⟩
theorem Tally.new (w : World) (t : TypeId) (T : Nat → Nat) (arr : Array Value) (ha : arr = (tallyV T).toArray) : Tally (w.alloc (.cells arr t)) w.heap.size T := fun j hj => by
  subst ha
  refine ⟨?_, by simp⟩
  rw [cell_of_row _ _ j _ t (0, 0) (heap_alloc_new w _)]
  simp [tallyV, hj]
theorem tallyV_one (T : Nat → Nat) : ∀ v ∈ tallyV T, v.oneCell' = true := by
  intro v hv
  simp [tallyV] at hv
  obtain ⟨i, _, rfl⟩ := hv
  rfl
theorem Tally.stored {w : World} {b : Nat} {S : Nat → Nat} (h : Tally w b S) (T : Nat → Nat) : Tally (w.setCells b 0 (tallyV T)) b T := fun j hj => by
  have h1 := World.cell?_setCells_in b (tallyV T) 0 w (fun j hj => by rw [Nat.zero_add, (h j (by rwa [tallyV_length] at hj)).1]; rfl) j (by rw [tallyV_length]; exact hj)
  rw [Nat.zero_add] at h1
  refine ⟨?_, by rw [World.frozen?_setCells]; exact (h j hj).2⟩
  rw [h1]
  simp [tallyV]

theorem info71 : (Try.prog.info? 71).map (·.size) = some 8 := by kernel_rfl
theorem isRow71 : ∃ d, Try.prog.underlying 71 = some d ∧ d.isRow = true := ⟨_, Try.underlying71, rfl⟩
theorem wpl_load71 {ops : Array Oper} {rest : List Oper} {op : Oper} {a : Act} {w : World} {Q : Exit → Act → World → Prop} (hgd : op.guard = none) (x : Operand) (ho : op.op = .load 71 x)
    (b : Nat) (hx : a.eval x = .pointer (some ⟨b, 0, none⟩)) (T : Nat → Nat) (hb : Tally w b T) (h : wpList Try.prog ops Q rest (a.put op.dst (.agg (tallyV T).toArray)) w) : wpList Try.prog ops Q (op :: rest) a w :=
  wpList_load_mid hgd 71 x ho b 0 hx _ _ hb.row Try.underlying71 rfl (by rw [tallyV_length]; exact info71) h
theorem wpl_store71 {ops : Array Oper} {rest : List Oper} {op : Oper} {a : Act} {w : World} {Q : Exit → Act → World → Prop} (hgd : op.guard = none) (x y : Operand) (ho : op.op = .store 71 x y)
    (b : Nat) (hx : a.eval x = .pointer (some ⟨b, 0, none⟩)) (T : Nat → Nat) (hy : a.eval y = .agg (tallyV T).toArray) (S : Nat → Nat) (hb : Tally w b S) (h : wpList Try.prog ops Q rest (a.put op.dst undef) (w.setCells b 0 (tallyV T))) : wpList Try.prog ops Q (op :: rest) a w :=
  wpList_store_mid hgd 71 x y ho b 0 _ hx hy (by simpa [tallyV_length] using hb.there) (by simpa [tallyV_length] using info71) (all_oneCell_toArray (tallyV_one T)) h
theorem loadVar71 {w : World} {b : Nat} {T : Nat → Nat} (h : Tally w b T) : (loadVar 71 ⟨b, 0, none⟩).run Try.prog w = .ok (.agg (tallyV T).toArray) w :=
  run_loadVar_mid w b 0 71 _ _ h.row Try.underlying71 rfl (by rw [tallyV_length]; exact info71)
theorem res46 (tmps : Array Value) (b : Nat) (T : Nat → Nat) (W : World) (h2 : tmps[2]? = some (.pointer (some ⟨b, 0, none⟩))) (h : Tally W b T) :
    (results Try.f46 tmps).run Try.prog W = .ok (.agg (tallyV T).toArray) W := by
  have h1 := loadVar71 h
  simp [results, Try.results46, asAddr, h2, h1]

theorem put_eq {x : Value} (y : Value) {K : Act → World → Prop} {a : Act} {d : Option Tmp} {w : World} (e : x = y) (h : K (a.put d y) w) : K (a.put d x) w := by rw [e]; exact h

def sumT (T : Nat → Nat) : Nat → Nat
  | 0 => T 7
  | k + 1 => sumT T k + T k

set_option maxRecDepth 100000 in
set_option maxHeartbeats 1000000 in
theorem sum_any (T : Nat → Nat) (w : World) (hT : ∀ j, T j ≤ 100000) :
    Calls Try.prog 47 #[.agg (tallyV T).toArray] w fun e w' => e = .returned (.int .i64 (sumT T 7 : Nat)) ∧ Below w.heap.size w w' := by
  have e : (tallyV T).toArray = #[.int .i64 (T 0 : Int), .int .i64 (T 1 : Int), .int .i64 (T 2 : Int), .int .i64 (T 3 : Int), .int .i64 (T 4 : Int), .int .i64 (T 5 : Int), .int .i64 (T 6 : Int), .int .i64 (T 7 : Int)] := by simp [tallyV, List.range_succ]
  rw [e]
  clear e
  have hs : ∀ k, k ≤ 7 → sumT T k ≤ 100000 * (k + 1) := by
    intro k
    induction k with
    | zero => intro _; exact hT 7
    | succ k ih => intro h; have := ih (by omega); have := hT k; simp only [sumT]; omega
  go_enter Try.func47, Try.ntmps47
  go_wp2_with fail
  have hb : Below w.heap.size w (w.alloc (.cells #[.int .i64 (T 0 : Int), .int .i64 (T 1 : Int), .int .i64 (T 2 : Int), .int .i64 (T 3 : Int), .int .i64 (T 4 : Int), .int .i64 (T 5 : Int), .int .i64 (T 6 : Int), .int .i64 (T 7 : Int)] 71)) := (Below.refl _ _).alloc (Nat.le_refl _) _
  generalize w.alloc (.cells #[.int .i64 (T 0 : Int), .int .i64 (T 1 : Int), .int .i64 (T 2 : Int), .int .i64 (T 3 : Int), .int .i64 (T 4 : Int), .int .i64 (T 5 : Int), .int .i64 (T 6 : Int), .int .i64 (T 7 : Int)] 71) = w1 at *
  go_loop [3, 10] (fun u3 u10 => ∃ k : Nat, k ≤ 7 ∧ u10 = .int .i64 k ∧ u3 = .int .i64 (sumT T k : Nat)) (fun _ u10 => 7 - (intOf u10).toNat)
  case atStart => exact ⟨0, by omega, rfl, rfl⟩
  case round =>
    obtain ⟨k, hk, rfl, rfl⟩ := hrel
    by_cases h7 : k = 7
    · subst h7
      go_wp2_with fail
      go_ret
      exact ⟨rfl, hb⟩
    · have hsk := hs k hk
      have htk := hT k
      have hnx : sumT T (k + 1) = sumT T k + T k := rfl
      have hw : IntKind.i64.wrap ((sumT T k : Int) + (T k : Int)) = (sumT T k : Int) + (T k : Int) := IntWalk.i64_in _ (by omega)
      generalize sumT T k = sm at *
      have HN := Lib.hid hnx
      clear hnx hs
      have hcase : k = 0 ∨ k = 1 ∨ k = 2 ∨ k = 3 ∨ k = 4 ∨ k = 5 ∨ k = 6 := by omega
      rcases hcase with rfl | rfl | rfl | rfl | rfl | rfl | rfl
      · go_wp2_with fail
        refine put_eq (.int .i64 (T 0 : Int)) (by kernel_rfl) ?_
        go_wp2_with fail
        refine ⟨⟨1, by omega, by go_num, by rw [HN.out]; simp⟩, by simp [intOf]⟩
      · go_wp2_with fail
        refine put_eq (.int .i64 (T 1 : Int)) (by kernel_rfl) ?_
        go_wp2_with fail
        refine ⟨⟨2, by omega, by go_num, by rw [HN.out]; simp⟩, by simp [intOf]⟩
      · go_wp2_with fail
        refine put_eq (.int .i64 (T 2 : Int)) (by kernel_rfl) ?_
        go_wp2_with fail
        refine ⟨⟨3, by omega, by go_num, by rw [HN.out]; simp⟩, by simp [intOf]⟩
      · go_wp2_with fail
        refine put_eq (.int .i64 (T 3 : Int)) (by kernel_rfl) ?_
        go_wp2_with fail
        refine ⟨⟨4, by omega, by go_num, by rw [HN.out]; simp⟩, by simp [intOf]⟩
      · go_wp2_with fail
        refine put_eq (.int .i64 (T 4 : Int)) (by kernel_rfl) ?_
        go_wp2_with fail
        refine ⟨⟨5, by omega, by go_num, by rw [HN.out]; simp⟩, by simp [intOf]⟩
      · go_wp2_with fail
        refine put_eq (.int .i64 (T 5 : Int)) (by kernel_rfl) ?_
        go_wp2_with fail
        refine ⟨⟨6, by omega, by go_num, by rw [HN.out]; simp⟩, by simp [intOf]⟩
      · go_wp2_with fail
        refine put_eq (.int .i64 (T 6 : Int)) (by kernel_rfl) ?_
        go_wp2_with fail
        refine ⟨⟨7, by omega, by go_num, by rw [HN.out]; simp⟩, by simp [intOf]⟩
end Go.Proofs.Ytljbehndnledpaa
