/- The walk of heat.Map.Cool. Conditions: those of each theorem. -/
import Derived.Test.YtljbehndnledpaaHeatSum
namespace Go.Proofs.Ytljbehndnledpaa
open Go.RowKit Go.Maps Go.ChangeMaps Go.MapKept

theorem leftLen_map {es es' : Array MapEntry} {f : MapEntry → MapEntry} (h : es'.toList = es.toList.map f) (hf : ∀ x, (f x).born = x.born) (seen : Array Nat) : (leftOf es' seen).toList.length = (leftOf es seen).toList.length := by
  rw [leftOf_list, leftOf_list, h, List.filter_map, List.length_map]
  congr 1
  refine List.filter_congr (fun x _ => ?_)
  simp only [Function.comp_apply, hf]
theorem leftLen_filter {es es' : Array MapEntry} {q : MapEntry → Bool} (h : es'.toList = es.toList.filter q) (seen : Array Nat) : (leftOf es' seen).toList.length ≤ (leftOf es seen).toList.length := by
  rw [leftOf_list, leftOf_list, h]
  exact (List.filter_sublist.filter _).length_le

set_option maxRecDepth 100000 in
set_option maxHeartbeats 4000000 in
theorem cool_nil {w : World} {pm : Nat} {L : List Hs} (h : HeatW w pm none L) :
    Calls Try.prog 62 #[.pointer (some ⟨pm, 0, none⟩)] w fun e w' => e = .returned (.tuple #[]) ∧ Below w.heap.size w w' := by
  obtain ⟨c0, f0⟩ := h.reads
  have hnx : ∀ ty, (Instr.next (.pointer (some ⟨w.heap.size, 0, none⟩)) false ty).run Try.prog (w.alloc (.mapIter none 0 #[] 0)) = _ := fun ty => run_next_nilMap w ty 0 0 #[]
  have hb : Below w.heap.size w (w.alloc (.mapIter none 0 #[] 0)) := (Below.refl _ _).alloc (Nat.le_refl _) _
  clear h
  go_enter Try.func62, Try.ntmps62
  go_wp2_with (first | (at_range; refine wpList_range_nil rfl _ rfl rfl ?_) | go_in)
  go_frame
  refine wp_loop_rounds 1 ?_
  rw [rounds_succ]
  go_wp2
  go_end0
  exact ⟨rfl, hb⟩

set_option maxRecDepth 100000 in
set_option maxHeartbeats 4000000 in
theorem cool_some {w : World} {pm b : Nat} {L : List Hs} (h : HeatW w pm (some b) L) (h0 : ∀ p ∈ L, 0 ≤ p.2 ∧ p.2 ≤ 1000000000000) :
    Calls Try.prog 62 #[.pointer (some ⟨pm, 0, none⟩)] w fun e w' => e = .returned (.tuple #[]) ∧ HeatW w' pm (some b) (coolS L) ∧ w.grownBy w' (some b) := by
  obtain ⟨es0, clock, hm⟩ := h.map
  have hn0 := hm.st.2.1
  have hk0 := hm.rd.spots
  have hnn : ∀ e ∈ es0.toList, 0 ≤ intOf e.val ∧ intOf e.val ≤ 1000000000000 := fun e he => by
    obtain ⟨p, hp, -, h2⟩ := hm.rd.mem he
    rw [h2]
    exact h0 p hp
  have hcell := h.cell
  obtain ⟨c0, f0⟩ := h.reads
  have hb : w.grownBy (w.alloc (.mapIter (some b) clock #[] clock)) (some b) := World.grownBy_alloc w _ _
  have hrd := hm.rd.cool
  have hlen := hm.len
  have hblt := hm.lt
  have hplt := h.pm_lt
  clear h
  go_enter Try.func62, Try.ntmps62
  go_wp2_with (first | (at_range; refine wpList_range_heat rfl _ rfl rfl hm ?_; intro hR0) | go_in)
  go_frame
  go_loopw [2, 3] (fun _ _ wr => ∃ (seen : Array Nat) (es : Array MapEntry), Rng wr b w.heap.size es seen ∧ es.toList = es0.toList.filterMap (coolE seen) ∧ w.grownBy wr (some b))
    (fun _ _ wr => wr.rangeLeft b w.heap.size)
  case atStart => exact ⟨#[], es0, hR0, (coolE_start _).symm, hb⟩
  case round =>
    obtain ⟨seen, es, hR, hes, hB⟩ := hrel
    have hk : SpotKeys es.toList := fun x hx => by
      rw [hes] at hx
      obtain ⟨y, hy, hc⟩ := List.mem_filterMap.1 hx
      obtain ⟨s, c, h1, h2, h3⟩ := hk0 y hy
      unfold coolE at hc
      split at hc
      · unfold halfE at hc
        split at hc
        · cases hc
        · cases hc; exact ⟨s, _, h1, h2, rfl⟩
      · cases hc; exact ⟨s, c, h1, h2, h3⟩
    go_wp2_with (first
      | (at_next; refine wpList_next_heat rfl _ rfl rfl hR hk ?_ ?_)
      | go_in)
    · intro hl0
      go_wp2
      go_end0
      refine ⟨rfl, ⟨?_, ?_⟩, hB⟩
      · rw [hB.block pm hplt (by intro e; cases e; rw [hm.obj] at hcell; cases hcell)]; exact hcell
      · obtain ⟨ck, since, q0, hb1, -, -, -, -, hst⟩ := hR.ex
        have he := coolE_end hes (by rw [hl0])
        exact ⟨es, ck, hb1, hst, by rw [he]; exact hrd, Nat.le_trans (List.length_filterMap_le _ _) hlen⟩
    · intro e x y c w1 he hin hkey hval hR1 hg1 hs1 hen
      have he := Array.mem_toList_iff.2 he
      obtain ⟨hem, hes2⟩ := mem_left he
      have hel := (coolE_left hes he).1
      obtain ⟨hc0, hc1⟩ : 0 ≤ c ∧ c ≤ 1000000000000 := by have := hnn e hel; rw [hval] at this; exact this
      have hne : pm ≠ b := by intro e; cases e; rw [hm.obj] at hcell; cases hcell
      have hW1 : w.grownBy (w1.alloc (.cells #[.int .i64 x, .int .i64 y] 99)) (some b) := (hB.andThen hg1 (fun j hj => by cases hj; exact Or.inl (Nat.le_refl _))).andThen (World.grownBy_alloc w1 _ none) (by simp)
      have hlt1 := hR1.lt
      have hR2 : Rng (w1.alloc (.cells #[.int .i64 x, .int .i64 y] 99)).drew b w.heap.size es (seen.push e.born) := hR1.heap (Go.heap_alloc_old _ _ _ hlt1.1) (Go.heap_alloc_old _ _ _ hlt1.2)
      obtain ⟨w3, es3, hrun, hR3, hes3, hg3, hs3⟩ := hR2.halve hk hem hin hkey (c / 2)
      have p0 : (w1.alloc (.cells #[.int .i64 x, .int .i64 y] 99)).cell? ⟨pm, 0, none⟩ = some (.map (some b)) := by
        have := hW1.block pm hplt (fun e => hne (Option.some.inj e))
        simp only [World.cell?, this, hcell]
        rfl
      have q0 : (w1.alloc (.cells #[.int .i64 x, .int .i64 y] 99)).cell? ⟨wr.heap.size, 0, none⟩ = some (.int .i64 x) := by rw [← hs1]; exact cell_laid w1 _ _ 0
      have q1 : (w1.alloc (.cells #[.int .i64 x, .int .i64 y] 99)).cell? ⟨wr.heap.size, 1, none⟩ = some (.int .i64 y) := by rw [← hs1]; exact cell_laid w1 _ _ 1
      have hq : c.tdiv 2 = c / 2 := by rw [Int.tdiv_eq_ediv_of_nonneg hc0]
      have hq1 : IntKind.i64.wrap (c / 2) = c / 2 := IntWalk.i64_in _ (by omega)
      have hk3 : SpotKeys es3.toList := fun z hz => by
        rw [hes3] at hz
        obtain ⟨z', hz', rfl⟩ := List.mem_map.1 hz
        split
        · exact ⟨(x, y), c / 2, rfl, hin, rfl⟩
        · exact hk z' hz'
      have hem3 : ({ e with key := hsV (x, y), val := .int .i64 (c / 2) } : MapEntry) ∈ es3.toList := by
        rw [hes3]
        exact List.mem_map.2 ⟨e, hem, by rw [if_pos rfl]⟩
      have hW3 : w.grownBy w3 (some b) := hW1.andThen (⟨hg3.os, hg3.tape, hg3.output, hg3.size, hg3.block⟩ : (w1.alloc (.cells #[.int .i64 x, .int .i64 y] 99)).grownBy w3 (some b)) (fun j hj => by cases hj; exact Or.inr rfl)
      obtain ⟨w4, es4, hrun4, hR4, hes4, hg4, hs4⟩ := (show Rng w3.drew b w.heap.size es3 (seen.push e.born) from hR3.heap rfl rfl).strike hk3 hem3 hin rfl
      have hW4 : w.grownBy w4 (some b) := hW3.andThen (⟨hg4.os, hg4.tape, hg4.output, hg4.size, hg4.block⟩ : w3.grownBy w4 (some b)) (fun j hj => by cases hj; exact Or.inr rfl)
      have p3 : w3.cell? ⟨pm, 0, none⟩ = some (.map (some b)) := by
        have := hW3.block pm hplt (fun e => hne (Option.some.inj e))
        simp only [World.cell?, this, hcell]
        rfl
      have hqb : wr.heap.size ≠ b := by omega
      have hb3 : w3.heap[wr.heap.size]? = (w1.alloc (.cells #[.int .i64 x, .int .i64 y] 99)).heap[wr.heap.size]? := hg3.block _ (by simp; omega) (fun e => hqb (Option.some.inj e))
      have r0 : w3.cell? ⟨wr.heap.size, 0, none⟩ = some (.int .i64 x) := by rw [← q0]; simp only [World.cell?, hb3]
      have r1 : w3.cell? ⟨wr.heap.size, 1, none⟩ = some (.int .i64 y) := by rw [← q1]; simp only [World.cell?, hb3]
      have hm1 : intOf e.val = c := by rw [hval]; rfl
      have HE := Lib.hid hes3
      have HE4 := Lib.hid hes4
      have HW3 := Lib.hid hW3
      have HW4 := Lib.hid hW4
      clear hes3 hes4 hW3 hW4 hb3 hg3 hg4
      by_cases hlt2 : c < 2
      · go_wp2
        go_region
        go_wp2
        go_region
        go_wp2
        go_roundw
        case rel => exact ⟨_, es4, hR4, by rw [HE4.out, HE.out]; exact cool_drop hn0 hes hel hes2 (by omega), HW4.out⟩
        case measure =>
          have m1 := leftLen_filter HE4.out (seen.push e.born)
          have m2 := leftLen_map HE.out (fun z => by split <;> rfl) (seen.push e.born)
          have m3 := (left_perm hR.stamped.1 he).length_eq
          simp only [List.length_cons] at m3
          rw [hR4.left_eq, hR.left_eq]
          omega
      · go_wp2
        go_region
        go_wp2
        go_roundw
        case rel => exact ⟨_, es3, hR3, by rw [HE.out, ← hm1]; exact cool_keep hn0 hes hel hes2 hkey (by omega), HW3.out⟩
        case measure =>
          have m2 := leftLen_map HE.out (fun z => by split <;> rfl) (seen.push e.born)
          have m3 := (left_perm hR.stamped.1 he).length_eq
          simp only [List.length_cons] at m3
          rw [hR3.left_eq, hR.left_eq]
          omega
end Go.Proofs.Ytljbehndnledpaa
