/- The walk of disk.Disk.Read at a sector that there is. Conditions: those of the theorem. -/
import Derived.Test.YtljbehndnledpaaBackward
namespace Go.Proofs.Ytljbehndnledpaa
open Go.RowKit Go.Shelf
attribute [local go_sem] Oper.semAt_some

theorem own_at {w : World} {base n g cap : Nat} {l : List UInt8} (h : w.ownsRow base 5 1 (.slice (some ⟨g, 0, none⟩) n cap) n (cellsOfB l)) : At w g 5 := by
  rcases h.2 with ⟨h, _⟩ | ⟨g', cap', cur, he, _, hh, _⟩
  · cases h
  · cases he
    exact ⟨cur, hh⟩
theorem own_bs2 {w : World} {base n g cap : Nat} {l : List UInt8} (h : w.ownsRow base 5 1 (.slice (some ⟨g, 0, none⟩) n cap) n (cellsOfB l)) : Bs w (some ⟨g, 0, none⟩) n l := by
  obtain ⟨a, c, he, hb, _⟩ := own_bs h
  cases he
  exact hb
theorem own_cap {w : World} {base n g cap : Nat} {l : List UInt8} (h : w.ownsRow base 5 1 (.slice (some ⟨g, 0, none⟩) n cap) n (cellsOfB l)) : n ≤ cap := by
  obtain ⟨a, c, he, _, hc⟩ := own_sl h
  cases he
  exact hc

/-- What is read of a sector, where sector j has been written as the j-th one. -/
def dataAt (late : List (Nat × List UInt8)) (i : Nat) : List UInt8 := match late[i]? with | some x => x.2 | none => List.replicate 128 0

theorem Late.fn {base : Nat} {w : World} {lv : Value} {late : List (Nat × List UInt8)} (h : Late base w lv late) (h0 : 0 < w.heap.size) :
    ∃ (a : Option Addr) (cap L : Nat) (G C : Nat → Nat), lv = .slice a late.length cap ∧ L < w.heap.size ∧ (0 < late.length → a = some ⟨L, 0, none⟩) ∧
      ∀ j, j < late.length → w.cell? ⟨L, j * 2, none⟩ = some (.int .i64 ((late.getD j (0, [])).1 : Int)) ∧ w.cell? ⟨L, j * 2 + 1, none⟩ = some (.slice (some ⟨G j, 0, none⟩) 128 (C j)) ∧ 128 ≤ C j ∧ Bs w (some ⟨G j, 0, none⟩) 128 (late.getD j (0, [])).2 := by
  obtain ⟨cs, ho, he⟩ := h
  have hex : ∀ j, ∃ gc : Nat × Nat, j < late.length → 128 ≤ gc.2 ∧ cs[2 * j]? = some (.int .i64 ((late.getD j (0, [])).1 : Int)) ∧ cs[2 * j + 1]? = some (.slice (some ⟨gc.1, 0, none⟩) 128 gc.2) ∧ Bs w (some ⟨gc.1, 0, none⟩) 128 (late.getD j (0, [])).2 := by
    intro j
    by_cases hj : j < late.length
    · obtain ⟨g, c, _, h2, h3, h4, h5⟩ := he j _ (List.getElem?_eq_getElem hj)
      have e : late.getD j (0, []) = late[j] := by simp [List.getD, hj]
      exact ⟨(g, c), fun _ => ⟨h2, by rw [e]; exact h3, h4, by rw [e]; exact h5⟩⟩
    · exact ⟨(0, 0), fun h => absurd h hj⟩
  obtain ⟨f, hf⟩ := Classical.axiomOfChoice hex
  rcases ho.2 with ⟨rfl, hz⟩ | ⟨g, cap, cur, rfl, hbg, hg, hnc, hcm, hcs, htake⟩
  · exact ⟨none, 0, 0, fun j => (f j).1, fun j => (f j).2, by rw [hz], h0, fun h => by omega, fun j hj => by omega⟩
  · refine ⟨_, cap, g, fun j => (f j).1, fun j => (f j).2, rfl, (Array.getElem?_eq_some_iff.1 hg).1, fun _ => rfl, fun j hj => ?_⟩
    obtain ⟨h1, h2, h3, h4⟩ := hf j hj
    have hcell : ∀ k, k < late.length * 2 → w.cell? ⟨g, k, none⟩ = cs[k]? := fun k hk => by
      rw [cell_of_row w g k cur 179 (0, 0) hg, ← htake, List.getElem?_take_of_lt hk, Array.getElem?_toList]
    refine ⟨?_, ?_, h1, h4⟩
    · rw [hcell _ (by omega), Nat.mul_comm, h2]
    · rw [hcell _ (by omega), Nat.mul_comm j 2, h3]

theorem below_keepsFrom {B : Nat} {W W' : World} (h : Below W.heap.size W W') : KeepsFrom B W W' := ⟨h.size, fun k o _ hk _ => by rw [h.block k (Array.getElem?_eq_some_iff.1 hk).1]; exact hk⟩
theorem at_kept {W W' : World} {row : Option Nat} {g : Nat} {t : TypeId} (h : At W g t) (hg : W.grownBy W' row) (hr : ∀ r, row = some r → ∃ o : Obj, W.heap[r]? = some o ∧ o.isCells = false) : W'.heap[g]? = W.heap[g]? := by
  refine hg.block g h.lt ?_
  intro e
  obtain ⟨o, ho, hc⟩ := hr g e.symm
  obtain ⟨arr, h⟩ := h
  rw [h] at ho
  cases ho
  cases hc
theorem res112 (tmps : Array Value) (b c : Nat) (v e : Value) (W : World) (h4 : tmps[4]? = some (.pointer (some ⟨b, 0, none⟩))) (h5 : tmps[5]? = some (.pointer (some ⟨c, 0, none⟩))) (q4 : W.cell? ⟨b, 0, none⟩ = some v) (q5 : W.cell? ⟨c, 0, none⟩ = some e) :
    (results Try.f112 tmps).run Try.prog W = .ok (.tuple #[v, e]) W := by
  simp [results, Try.results112, go_sem, h4, h5, q4, q5]

theorem boxed_set {W : World} {B : Nat} {t : TypeId} {v : Value} (h : Boxed W B t v) (u : Value) : Boxed (W.setCell ⟨B, 0, none⟩ u) B t u := heap_setCell_same W B 0 #[v] t u h
theorem boxed_apart {W : World} {B B' : Nat} {t : TypeId} {v : Value} (h : Boxed W B t v) (hne : B ≠ B') (u : Value) : Boxed (W.setCell ⟨B', 0, none⟩ u) B t v := (Below.heap_setCell _ _ _ _ hne).trans h
theorem boxed_at {W : World} {B : Nat} {t : TypeId} {v : Value} (h : Boxed W B t v) : At W B t := ⟨_, h⟩

/-- The two results are laid: a slice of bytes, no error. -/
theorem two_laid {w W2 : World} {g c : Nat} {data : List UInt8} {x y : Value} (q2 : Boxed W2 (w.heap.size + 1) 37 x) (q3 : Boxed W2 (w.heap.size + 1 + 1) 41 y) (hat : At W2 g 5) (hbs : Bs W2 (some ⟨g, 0, none⟩) 128 data) (hb : Below w.heap.size w W2) :
    Boxed ((W2.setCell ⟨w.heap.size + 1, 0, none⟩ (.slice (some ⟨g, 0, none⟩) 128 c)).setCell ⟨w.heap.size + 1 + 1, 0, none⟩ (.int .i64 0)) (w.heap.size + 1) 37 (.slice (some ⟨g, 0, none⟩) 128 c) ∧
    Boxed ((W2.setCell ⟨w.heap.size + 1, 0, none⟩ (.slice (some ⟨g, 0, none⟩) 128 c)).setCell ⟨w.heap.size + 1 + 1, 0, none⟩ (.int .i64 0)) (w.heap.size + 1 + 1) 41 (.int .i64 0) ∧
    At ((W2.setCell ⟨w.heap.size + 1, 0, none⟩ (.slice (some ⟨g, 0, none⟩) 128 c)).setCell ⟨w.heap.size + 1 + 1, 0, none⟩ (.int .i64 0)) g 5 ∧
    Bs ((W2.setCell ⟨w.heap.size + 1, 0, none⟩ (.slice (some ⟨g, 0, none⟩) 128 c)).setCell ⟨w.heap.size + 1 + 1, 0, none⟩ (.int .i64 0)) (some ⟨g, 0, none⟩) 128 data ∧
    Below w.heap.size w ((W2.setCell ⟨w.heap.size + 1, 0, none⟩ (.slice (some ⟨g, 0, none⟩) 128 c)).setCell ⟨w.heap.size + 1 + 1, 0, none⟩ (.int .i64 0)) := by
  have n1 : g ≠ w.heap.size + 1 := hat.ne (boxed_at q2) (by decide)
  have n2 : g ≠ w.heap.size + 1 + 1 := hat.ne (boxed_at q3) (by decide)
  have e1 : (W2.setCell ⟨w.heap.size + 1, 0, none⟩ (.slice (some ⟨g, 0, none⟩) 128 c)).heap[g]? = W2.heap[g]? := Below.heap_setCell _ _ _ _ n1
  have e2 : ((W2.setCell ⟨w.heap.size + 1, 0, none⟩ (.slice (some ⟨g, 0, none⟩) 128 c)).setCell ⟨w.heap.size + 1 + 1, 0, none⟩ (.int .i64 0)).heap[g]? = W2.heap[g]? := (Below.heap_setCell _ _ _ _ n2).trans e1
  exact ⟨boxed_apart (boxed_set q2 _) (by omega) _, boxed_set (boxed_apart q3 (by omega) _) _, hat.heap e2, Bs.heap hbs e2, (hb.setCell (p := ⟨w.heap.size + 1, 0, none⟩) (by simp) _).setCell (p := ⟨w.heap.size + 1 + 1, 0, none⟩) (by simp; omega) _⟩

/-- Between two rounds: nothing has come that was looked for. -/
def ReadI (W0 : World) (i : Nat) {N : Nat} (pre : List {j : Nat // j < N}) (W : World) : Prop :=
  (∀ x ∈ pre, x.1 ≠ i) ∧ Below W0.heap.size W0 W
/-- A round has left: what was looked for has come. -/
def ReadIx (w : World) (i : Nat) (data : List UInt8) {N : Nat} (c : Code) (_pre : List {j : Nat // j < N}) (W : World) : Prop :=
  (((c = .ret ∧ i < N) ∧ Boxed W (w.heap.size + 1 + 1) 41 (.int .i64 0)) ∧ Below w.heap.size w W) ∧ ∃ g cc, 128 ≤ cc ∧ Boxed W (w.heap.size + 1) 37 (.slice (some ⟨g, 0, none⟩) 128 cc) ∧ At W g 5 ∧ Bs W (some ⟨g, 0, none⟩) 128 data

theorem readI_own (W0 : World) (i N : Nat) : OwnFrom W0.heap.size (ReadI W0 i (N := N)) :=
  OwnFrom.and (ownFrom_pure _ _) (ownFrom_below (Nat.le_refl _) (Nat.le_refl _))
theorem readIx_own (w : World) (i N B : Nat) (data : List UInt8) (hB : w.heap.size ≤ B) (c : Code) : OwnFrom B (ReadIx w i data (N := N) c) := by
  refine OwnFrom.and (OwnFrom.and (OwnFrom.and (ownFrom_pure _ _) (Own.from (boxed_own _ _ _) _)) (ownFrom_below (Nat.le_refl _) hB)) ?_
  intro s W W' row ⟨g, cc, h1, h2, h3, h4⟩ hg hr
  have hr' : ∀ r, row = some r → ∃ o : Obj, W.heap[r]? = some o ∧ o.isCells = false := fun r e => (hr r e).2
  have e := at_kept h3 hg hr'
  exact ⟨g, cc, h1, boxed_own (w.heap.size + 1) 37 (fun (_ : Unit) => Value.slice (some ⟨g, 0, none⟩) 128 cc) () W W' row h2 hg hr', h3.heap e, Bs.heap h4 e⟩

theorem read_ends {w W : World} {D g cc : Nat} {data : List UInt8} {tmps : Array Value} (h4 : tmps[4]? = some (.pointer (some ⟨w.heap.size + 1, 0, none⟩))) (h5 : tmps[5]? = some (.pointer (some ⟨w.heap.size + 1 + 1, 0, none⟩)))
    (hcc : 128 ≤ cc) (b2 : Boxed W (w.heap.size + 1) 37 (.slice (some ⟨g, 0, none⟩) 128 cc)) (b3 : Boxed W (w.heap.size + 1 + 1) 41 (.int .i64 0)) (hat : At W g 5) (hbs : Bs W (some ⟨g, 0, none⟩) 128 data) (hB : Below w.heap.size w W) (hD : w.heap.size ≤ D) (hK : W.heap[D]? = some (.deferred (some []))) :
    bodyPostM Fence.wide 6 Try.prog Try.f112 (fun e w' => (∃ g c, e = .returned (.tuple #[.slice (some ⟨g, 0, none⟩) 128 c, .int .i64 0]) ∧ 128 ≤ c ∧ Bs w' (some ⟨g, 0, none⟩) 128 data) ∧ Below w.heap.size w w') Exit.ret { tmps := tmps, defers := [{ target := .collected D, args := #[] }] } W := by
  have hr : ∀ r, some D = some r → ∃ o : Obj, W.heap[r]? = some o ∧ o.isCells = false := fun r e => by cases e; exact ⟨_, hK, rfl⟩
  have k2 := at_kept (boxed_at b2) (grownBy_putObj' W D (.deferred none)) hr
  have k3 := at_kept (boxed_at b3) (grownBy_putObj' W D (.deferred none)) hr
  have kg := at_kept hat (grownBy_putObj' W D (.deferred none)) hr
  have c2 : (W.putObj D (.deferred none)).cell? ⟨w.heap.size + 1, 0, none⟩ = some (.slice (some ⟨g, 0, none⟩) 128 cc) := by rw [cell_heap k2]; exact b2.cell
  have c3 : (W.putObj D (.deferred none)).cell? ⟨w.heap.size + 1 + 1, 0, none⟩ = some (.int .i64 0) := by rw [cell_heap k3]; exact b3.cell
  refine ⟨by simp, .inl ⟨_, _, rfl, run_takeDeferred hK, ?_⟩⟩
  exact ⟨_, res112 _ _ _ _ _ _ h4 h5 c2 c3, ⟨g, cc, rfl, hcc, Bs.heap hbs kg⟩, hB.trans (belowK_b (w := w) (Nat.le_refl _) W D _ _ hD hK rfl rfl)⟩

set_option maxRecDepth 100000 in
set_option maxHeartbeats 4000000 in
theorem diskRead_any (base : Nat) (w : World) (p s : Nat) (lv : Value) (n : Nat) (late : List (Nat × List UInt8)) (i : Nat) (hd : Disk base w p s lv n late) (hidx : ∀ (j : Nat) (x : Nat × List UInt8), late[j]? = some x → x.1 = j) (hi : i < n) (hl : late.length ≤ 100000) :
    Calls Try.prog 112 #[.pointer (some ⟨p, 0, none⟩), .int .i64 (i : Int)] w fun e w' => (∃ g c, e = .returned (.tuple #[.slice (some ⟨g, 0, none⟩) 128 c, .int .i64 0]) ∧ 128 ≤ c ∧ Bs w' (some ⟨g, 0, none⟩) 128 (dataAt late i)) ∧ Below w.heap.size w w' := by
  have c0 := hd.c0
  have c1 := hd.c1
  have hpl := hd.pt.lt
  have hi0 : (0 : Int) ≤ (i : Int) := by omega
  have hi1 : (i : Int) < (n : Int) := by omega
  have HD := Lib.hid hd
  clear hd
  refine (callsIn_wide (n := 6)).1 ?_
  refine callsIn_of_wp_marks Try.func112 rfl trivial ?_ rfl
  simp only [Try.ntmps112, List.size_toArray, List.length_cons, List.length_nil, Nat.reduceAdd, Nat.reduceSub, Array.replicate_succ, Array.replicate_zero, List.push_toArray, List.append_toArray, List.nil_append, List.cons_append]
  refine wpIn_wide.2 ?_
  go_wp2_with fail
  have bA : Boxed (((w.alloc (.cells #[.int .i64 (i : Int)] 3)).alloc (.cells #[.slice none 0 0] 37)).alloc (.cells #[.int .i64 0] 41)) w.heap.size 3 (.int .i64 (i : Int)) := ((Boxed.new w 3 _).alloc _).alloc _
  have bS : Boxed (((w.alloc (.cells #[.int .i64 (i : Int)] 3)).alloc (.cells #[.slice none 0 0] 37)).alloc (.cells #[.int .i64 0] 41)) (w.heap.size + 1) 37 (.slice none 0 0) := by
    have := (Boxed.new (w.alloc (.cells #[.int .i64 (i : Int)] 3)) 37 (.slice none 0 0)).alloc (.cells #[.int .i64 0] 41)
    simpa using this
  have bE : Boxed (((w.alloc (.cells #[.int .i64 (i : Int)] 3)).alloc (.cells #[.slice none 0 0] 37)).alloc (.cells #[.int .i64 0] 41)) (w.heap.size + 1 + 1) 41 (.int .i64 0) := by
    have := Boxed.new ((w.alloc (.cells #[.int .i64 (i : Int)] 3)).alloc (.cells #[.slice none 0 0] 37)) 41 (.int .i64 0)
    simpa using this
  have hb3 : Below w.heap.size w (((w.alloc (.cells #[.int .i64 (i : Int)] 3)).alloc (.cells #[.slice none 0 0] 37)).alloc (.cells #[.int .i64 0] 41)) := (((Below.refl _ w).alloc (Nat.le_refl _) _).alloc (by simp) _).alloc (by simp; omega) _
  have hsz : (((w.alloc (.cells #[.int .i64 (i : Int)] 3)).alloc (.cells #[.slice none 0 0] 37)).alloc (.cells #[.int .i64 0] 41)).heap.size = w.heap.size + 3 := by simp
  generalize ((w.alloc (.cells #[.int .i64 (i : Int)] 3)).alloc (.cells #[.slice none 0 0] 37)).alloc (.cells #[.int .i64 0] 41) = w3 at *
  have d0 : w3.cell? ⟨p, 0, none⟩ = some (.slice (some ⟨s, 0, none⟩) n n) := by rw [hb3.cell hpl]; exact c0
  have d1 : w3.cell? ⟨p, 1, none⟩ = some lv := by rw [hb3.cell hpl]; exact c1
  have cA := bA.cell
  go_quiet (fail)
  rename_i nq _
  have hb4 := below_drewN hb3 nq
  have hbd := below_drewN (Below.refl w3.heap.size w3) nq
  have bA4 : Boxed (w3.drewN nq) w.heap.size 3 (.int .i64 (i : Int)) := (hbd.block _ bA.lt).trans bA
  have bS4 : Boxed (w3.drewN nq) (w.heap.size + 1) 37 (.slice none 0 0) := (hbd.block _ bS.lt).trans bS
  have bE4 : Boxed (w3.drewN nq) (w.heap.size + 1 + 1) 41 (.int .i64 0) := (hbd.block _ bE.lt).trans bE
  have d0 : (w3.drewN nq).cell? ⟨p, 0, none⟩ = some (.slice (some ⟨s, 0, none⟩) n n) := by rw [hb4.cell hpl]; exact c0
  have d1 : (w3.drewN nq).cell? ⟨p, 1, none⟩ = some lv := by rw [hb4.cell hpl]; exact c1
  have hsz4 : w.heap.size + 3 ≤ (w3.drewN nq).heap.size := by have := hbd.size; omega
  generalize w3.drewN nq = w4 at *
  obtain ⟨a, cap, L, G, C, rfl, hL, ha, hent⟩ := HD.out.row.fn (by omega)
  clear bA bS bE hb3 hsz hbd cA c0 c1
  go_wp2_with fail
  refine (backward_any a late.length cap w4).mono ?_
  rintro e w5 ⟨rfl, rfl⟩
  go_wp2_with fail
  have bA5 := bA4.alloc (.cells #[.slice a late.length cap] 175)
  have bS5 := bS4.alloc (.cells #[.slice a late.length cap] 175)
  have bE5 := bE4.alloc (.cells #[.slice a late.length cap] 175)
  have bB5 := (Boxed.new w4 175 (.slice a late.length cap)).cell
  have hb5 := hb4.alloc hb4.size (.cells #[.slice a late.length cap] 175)
  have hsz5 : (w4.alloc (.cells #[.slice a late.length cap] 175)).heap.size = w4.heap.size + 1 := by simp
  generalize w4.alloc (.cells #[.slice a late.length cap] 175) = W0 at *
  generalize w4.heap.size = B at *
  have hidj : ∀ j, j < late.length → (late.getD j (0, [])).1 = j := fun j hj => hidx j _ (by simp [List.getD, hj])
  have hdj : ∀ j, j < late.length → (late.getD j (0, [])).2 = dataAt late j := fun j hj => by simp [dataAt, List.getD, hj]
  have hent' : ∀ j, j < late.length → 128 ≤ C j ∧ Bs w (some ⟨G j, 0, none⟩) 128 (dataAt late j) := fun j hj => by
    have := hent j hj
    rw [hdj j hj] at this
    exact this.2.2
  have hent5 : ∀ j, j < late.length → W0.cell? ⟨L, j * 2, none⟩ = some (.int .i64 (j : Int)) ∧ W0.cell? ⟨L, j * 2 + 1, none⟩ = some (.slice (some ⟨G j, 0, none⟩) 128 (C j)) := fun j hj => ⟨by rw [hb5.cell hL, (hent j hj).1, hidj j hj], by rw [hb5.cell hL]; exact (hent j hj).2.1⟩
  have HENT := Lib.hid hent'
  have HNONE : Hid (late.length ≤ i → dataAt late i = List.replicate 128 0) := Lib.hid (fun h => by simp [dataAt, List.getElem?_eq_none h])
  clear bA4 bS4 bE4 d0 d1 hb4 hent hidj hdj hent' hidx
  refine wpIn_wide.1 (wpIn_rangeFunc_ownH (n := 6) rfl (by omega) (gf := 189) (lb := #[.pointer (some ⟨B, 0, none⟩)]) rfl trivial (enters_of Try.func189 (by kernel_rfl) rfl)
    (back_stops Fence.wide (6 - 1) trivial rfl (by omega) B L late.length cap a (fun j => (j : Int)) (fun j => .slice (some ⟨G j, 0, none⟩) 128 (C j)) (by omega) ha W0 (by omega) (by omega) bB5 hent5) belowK_t (belowK_b (Nat.le_refl _)) (Below.refl _ _) (fun _ => rfl)
    (ReadI W0 i) (ReadIx w i (dataAt late i)) (readI_own W0 i _) (readIx_own w i _ _ _ (by omega)) ⟨by simp, Below.refl _ _⟩
    (fun x a' W => ∃ Bx, W0.heap.size ≤ Bx ∧ W.heap[Bx]? = some (.cells #[.int .i64 (x.1 : Int), .slice (some ⟨G x.1, 0, none⟩) 128 (C x.1)] 179 (0, 0)) ∧ a' = { tmps := #[.pointer (some ⟨p, 0, none⟩), .int .i64 (i : Int), undef, .pointer (some ⟨w.heap.size, 0, none⟩), .pointer (some ⟨w.heap.size + 1, 0, none⟩), .pointer (some ⟨w.heap.size + 1 + 1, 0, none⟩), undef, .pointer (some ⟨Bx, 0, none⟩), .int .i64 (i : Int), .bool (decide ((i : Int) < 0)), .bool (decide ((i : Int) < 0)), .int .i64 (i : Int), .pointer (some ⟨p, 0, none⟩), .pointer (some ⟨p, 0, none⟩), .pointer (some ⟨p, 0, none⟩), .slice (some ⟨s, 0, none⟩) n n, .int .i64 (n : Int), .bool false, .bool (decide ((i : Int) < 0)), .pointer (some ⟨p, 0, none⟩), .pointer (some ⟨p, 0, none⟩), .pointer (some ⟨p, 1, none⟩), .slice a late.length cap, .func (.func 189) #[] #[.pointer (some ⟨B, 0, none⟩)], .int .i64 (x.1 : Int), .agg #[.int .i64 (x.1 : Int), .slice (some ⟨G x.1, 0, none⟩) 128 (C x.1)], undef, undef, undef, undef, undef, undef, undef, undef, undef, undef, undef, undef, undef, undef, undef], defers := [] })
    (fun x a' _ X Y row hs hg hr => by
      obtain ⟨Bx, e1, e2, e3⟩ := hs
      exact ⟨Bx, e1, (at_kept (t := 179) ⟨_, e2⟩ hg (fun r e => (hr r e).2)).trans e2, e3⟩)
    ?assign ?body ?done ?stop)
  case assign =>
    rintro l pre x W K ⟨hp, hB1⟩ hK
    gi_wp2
    exact hK _ _ ((KeepsOthers.alloc _ _).from _) ((Below.refl _ W).alloc hB1.size _) ⟨hp, hB1.alloc hB1.size _⟩ ⟨W.heap.size, hB1.size, heap_alloc_new W _, rfl⟩
  case body =>
    rintro l pre x a' W hlW ⟨r, hr⟩ ⟨hp, hB1⟩ ⟨Bx, hBx, bX, rfl⟩ hlt
    have b1 : Boxed W w.heap.size 3 (.int .i64 (i : Int)) := (hB1.block _ bA5.lt).trans bA5
    have b2 : Boxed W (w.heap.size + 1) 37 (.slice none 0 0) := (hB1.block _ bS5.lt).trans bS5
    have b3 : Boxed W (w.heap.size + 1 + 1) 41 (.int .i64 0) := (hB1.block _ bE5.lt).trans bE5
    have cA := b1.cell
    have cx0 : W.cell? ⟨Bx, 0, none⟩ = some (.int .i64 (x.1 : Int)) := by simp [World.cell?, bX]
    have cx1 : W.cell? ⟨Bx, 1, none⟩ = some (.slice (some ⟨G x.1, 0, none⟩) 128 (C x.1)) := by simp [World.cell?, bX]
    obtain ⟨x, hxN⟩ := x
    simp only at cx0 cx1 bX ⊢
    by_cases hxi : x = i
    · subst hxi
      have hbW : Below w.heap.size w W := hb5.trans (hB1.mono hb5.size)
      have hbs : Bs W (some ⟨G x, 0, none⟩) 128 (dataAt late x) := (HENT.out x hxN).2.below hbW (Nat.le_refl _)
      have hcl := clone_any (G x) 0 128 (C x) (dataAt late x) W hbs (by omega)
      rw [hbs.length] at hcl
      have HCL := Lib.hid hcl
      have HBW := Lib.hid hbW
      clear hcl hbs hbW
      gi_wp2_with (refine ⟨trivial, ?_⟩; gi_at_call 108; refine (CallsIn.inRound l (callsIn_wide.2 HCL.out)).mono ?_; rintro e W2 ⟨v, rfl, ho2, hb2⟩; obtain ⟨g, c, rfl⟩ := own_some ho2 (by omega); have q2 : Boxed W2 (w.heap.size + 1) 37 (.slice none 0 0) := (hb2.block _ b2.lt).trans b2; have q3 : Boxed W2 (w.heap.size + 1 + 1) 41 (.int .i64 0) := (hb2.block _ b3.lt).trans b3; have c2 := q2.cell; have f2 := q2.frozen; have c3 := q3.cell; have f3 := q3.frozen; have hat : At W2 g 5 := (own_at ho2); have hbg : Bs W2 (some ⟨g, 0, none⟩) 128 (dataAt late x) := own_bs2 ho2; have hcc := own_cap ho2)
      obtain ⟨r2, r3, r4, r5, r6⟩ := two_laid (c := c) q2 q3 hat hbg (HBW.out.trans (hb2.mono HBW.out.size))
      exact ⟨(below_keepsFrom hb2).trans (((KeepsOthers.setCell _ _ _).from _).trans ((KeepsOthers.setCell _ _ _).from _)), ⟨⟨⟨rfl, hxN⟩, r3⟩, r6⟩, g, c, hcc, r2, r4, r5⟩
    · have hne : ((x : Int) == (i : Int)) = false := by rw [beq_eq_false_iff_ne]; omega
      gi_wp2
      exact ⟨KeepsFrom.refl _ _, Below.refl _ _, fun y hy => (List.mem_append.1 hy).elim (hp y) (fun e => by simp at e; subst e; exact hxi), hB1⟩
  case done =>
    rintro D ys W hD hall ⟨hp, hB1⟩ hK
    have hNi : late.length ≤ i := by
      by_cases h : i < late.length
      · exact absurd rfl (hp ⟨i, h⟩ (hall ⟨i, h⟩))
      · omega
    have b1 : Boxed W w.heap.size 3 (.int .i64 (i : Int)) := (hB1.block _ bA5.lt).trans bA5
    have b2 : Boxed W (w.heap.size + 1) 37 (.slice none 0 0) := (hB1.block _ bS5.lt).trans bS5
    have b3 : Boxed W (w.heap.size + 1 + 1) 41 (.int .i64 0) := (hB1.block _ bE5.lt).trans bE5
    have hbW : Below w.heap.size w W := hb5.trans (hB1.mono hb5.size)
    have hDW := HD.out.below hbW
    obtain ⟨g0, _, hs0, hz0⟩ := hDW.sec i hi
    have p0 := hDW.c0
    have cA := b1.cell
    have hbs : Bs W.drew (some ⟨g0, 0, none⟩) 128 (List.replicate 128 0) := hz0.below (Below.refl _ _).drew (Nat.le_refl _)
    have hcl := clone_any g0 0 128 128 (List.replicate 128 0) W.drew hbs (by omega)
    rw [List.length_replicate] at hcl
    have HCL := Lib.hid hcl
    have HBW := Lib.hid hbW
    clear hcl hbs hbW hDW hz0
    go_wp2_with fail
    refine wp_region_noPanic ?_
    go_region_with (go_at_call 108; refine HCL.out.mono ?_; rintro e W2 ⟨v, rfl, ho2, hb2⟩; obtain ⟨g, c, rfl⟩ := own_some ho2 (by omega); have hb2' : Below W.heap.size W W2 := (Below.refl _ _).drew.trans hb2; have q2 : Boxed W2 (w.heap.size + 1) 37 (.slice none 0 0) := (hb2'.block _ b2.lt).trans b2; have q3 : Boxed W2 (w.heap.size + 1 + 1) 41 (.int .i64 0) := (hb2'.block _ b3.lt).trans b3; have c2 := q2.cell; have f2 := q2.frozen; have c3 := q3.cell; have f3 := q3.frozen; have hat : At W2 g 5 := (own_at ho2); have hbg : Bs W2 (some ⟨g, 0, none⟩) 128 (List.replicate 128 0) := own_bs2 ho2; have hcc := own_cap ho2)
    all_goals
      refine NoPanic.normal ?_
      go_wp2_with fail
      obtain ⟨r2, r3, r4, r5, r6⟩ := two_laid (c := c) q2 q3 hat hbg (HBW.out.trans (hb2'.mono HBW.out.size))
      have hK2 : W2.heap[D]? = some (.deferred (some [])) := by rw [hb2'.block D (Array.getElem?_eq_some_iff.1 hK).1]; exact hK
      have hK3 := (KeepsOthers.setCell (W2.setCell ⟨w.heap.size + 1, 0, none⟩ (.slice (some ⟨g, 0, none⟩) 128 c)) ⟨w.heap.size + 1 + 1, 0, none⟩ (.int .i64 0)).same D _ ((KeepsOthers.setCell W2 ⟨w.heap.size + 1, 0, none⟩ (.slice (some ⟨g, 0, none⟩) 128 c)).same D _ hK2 rfl) rfl
      rw [← HNONE.out hNi] at r5
      exact read_ends rfl rfl hcc r2 r3 r4 r5 r6 (Nat.le_trans hb5.size hD) hK3
  case stop =>
    rintro D c pre W hD _ ⟨⟨⟨⟨rfl, hiN⟩, b3⟩, hB1⟩, g, cc, hcc, b2, hat, hbs⟩ hK
    gi_wp2
    exact read_ends rfl rfl hcc b2 b3 hat hbs hB1 (Nat.le_trans hb5.size hD) hK
end Go.Proofs.Ytljbehndnledpaa
