/- The walk of batch.Squash. Conditions: those of each theorem. -/
import Derived.Test.YtljbehndnledpaaBatchReverse
namespace Go.Proofs.Ytljbehndnledpaa
open Go.RowKit Go.Shelf
attribute [local go_sem] Oper.semAt_some

/-- One round. -/
def sqStep (st : List PO × List (Int × Int)) (o : PO) : List PO × List (Int × Int) :=
  if o.plain56 then (if idleTo o st.2 o.spots.length then st.1 else st.1 ++ [o], o.spots.reverse ++ st.2) else (st.1 ++ [o], [])
theorem sqFold_rev : ∀ l : List PO, l.reverse.foldl sqStep ([], []) = ((sqKeep l).reverse, sqS l)
  | [] => rfl
  | o :: t => by
    rw [List.reverse_cons, List.foldl_append, sqFold_rev t, List.foldl_cons, List.foldl_nil]
    have e1 : sqKeep (o :: t) = if o.idle t then sqKeep t else o :: sqKeep t := rfl
    have e2 : sqS (o :: t) = if o.plain56 then o.spots.reverse ++ sqS t else [] := rfl
    rw [e1, e2]
    unfold sqStep
    cases hp : o.plain56 with
    | false =>
      have : o.idle t = false := by unfold PO.idle; rw [hp]; rfl
      rw [this, if_neg (by decide), if_neg (by decide), if_neg (by decide), List.reverse_cons]
    | true =>
      rw [idle_spots o t hp, if_pos rfl, if_pos rfl]
      cases idleTo o (sqS t) o.spots.length with
      | true => rfl
      | false => simp only [Bool.false_eq_true, if_false, List.reverse_cons]
theorem sqStep_len (st : List PO × List (Int × Int)) (o : PO) : (sqStep st o).1.length ≤ st.1.length + 1 ∧ (sqStep st o).2.length ≤ st.2.length + 32 := by
  unfold sqStep
  cases hp : o.plain56 with
  | false => simp
  | true =>
    have := blocks_len hp
    have e : o.spots.length = o.blocks.length := by simp [PO.spots]
    rw [if_pos rfl]
    constructor
    · simp only
      split <;> simp
    · simp only [List.length_append, List.length_reverse]; omega
theorem sqFold_len (l : List PO) : ∀ st : List PO × List (Int × Int), (l.foldl sqStep st).1.length ≤ st.1.length + l.length ∧ (l.foldl sqStep st).2.length ≤ st.2.length + l.length * 32 := by
  induction l with
  | nil => intro st; simp
  | cons o l ih =>
    intro st
    have h1 := ih (sqStep st o)
    have h2 := sqStep_len st o
    simp only [List.foldl_cons, List.length_cons]
    omega
/-- What is held behind some rounds. -/
def sqAt {N : Nat} (E : Nat → PO) (pre : List {j : Nat // j < N}) : List PO × List (Int × Int) := (pre.map fun x => E x.1).foldl sqStep ([], [])
theorem sqAt_snoc {N : Nat} (E : Nat → PO) (pre : List {j : Nat // j < N}) (x : {j : Nat // j < N}) : sqAt E (pre ++ [x]) = sqStep (sqAt E pre) (E x.1) := by simp [sqAt]
theorem sqAt_len {N : Nat} (E : Nat → PO) (pre : List {j : Nat // j < N}) : (sqAt E pre).1.length ≤ pre.length ∧ (sqAt E pre).2.length ≤ pre.length * 32 := by
  have := sqFold_len (pre.map fun x => E x.1) ([], [])
  simpa [sqAt] using this
theorem sqAt_all (l : List PO) (ys : List {j : Nat // j < l.length}) (h : ys.map (·.1) = (List.range l.length).reverse) : sqAt (fun j => l.getD j PO.zero) ys = ((sqKeep l).reverse, sqS l) := by
  rw [← sqFold_rev]
  unfold sqAt
  congr 1
  have e : (ys.map fun x => l.getD x.1 PO.zero) = (ys.map (·.1)).map fun j => l.getD j PO.zero := by rw [List.map_map]; rfl
  rw [e, h, List.map_reverse]
  congr 1
  apply List.ext_getElem
  · simp
  · intro i h1 h2
    simp [List.getD, h2]

theorem Ops.rowed2 {w : World} {a : Option Addr} {n : Nat} {l : List PO} (h : Ops w a n l) : ∃ (E : Nat → PO) (DA MA : Nat → Option Addr) (DC MC : Nat → Nat), E = (fun j => l.getD j PO.zero) ∧
    (∀ j, j < n → Bs w (DA j) (E j).d.length (E j).d ∧ Is .i64 w (MA j) (E j).m.length (E j).m) ∧ OpRow w a n E (fun j => .slice (DA j) (E j).d.length (DC j)) (fun j => .slice (MA j) (E j).m.length (MC j)) := by
  obtain ⟨D, M, hval, hrow⟩ := h.rowed
  have hex : ∀ j, ∃ q : (Option Addr × Option Addr) × Nat × Nat, j < n → D j = .slice q.1.1 (l.getD j PO.zero).d.length q.2.1 ∧ M j = .slice q.1.2 (l.getD j PO.zero).m.length q.2.2 ∧ Bs w q.1.1 (l.getD j PO.zero).d.length (l.getD j PO.zero).d ∧ Is .i64 w q.1.2 (l.getD j PO.zero).m.length (l.getD j PO.zero).m := by
    intro j
    by_cases hj : j < n
    · obtain ⟨da, dc, ma, mc, h1, h2, h3, h4⟩ := hval j hj
      exact ⟨((da, ma), dc, mc), fun _ => ⟨h1, h2, h3, h4⟩⟩
    · exact ⟨((none, none), 0, 0), fun h => absurd h hj⟩
  obtain ⟨f, hf⟩ := Classical.axiomOfChoice hex
  refine ⟨fun j => l.getD j PO.zero, fun j => (f j).1.1, fun j => (f j).1.2, fun j => (f j).2.1, fun j => (f j).2.2, rfl, fun j hj => (hf j hj).2.2, fun j hj => ?_⟩
  obtain ⟨b, p, ha, hc⟩ := hrow j hj
  refine ⟨b, p, ha, fun i x hx => hc i x ?_⟩
  rw [(hf j hj).1, (hf j hj).2.1]
  exact hx

set_option maxRecDepth 100000 in
set_option maxHeartbeats 8000000 in
theorem squash_any (a : Option Addr) (n c : Nat) (l : List PO) (w : World) (h : Ops w a n l) (hn : n ≤ 1000) (hfine : ∀ o ∈ l, o.m.length ≤ 1000000000) :
    Calls Try.prog 86 #[.slice a n c] w fun e w' => ∃ v, e = .returned v ∧ OwnOps w' w.heap.size v (sqKeep l) ∧ Below w.heap.size w w' := by
  obtain ⟨E, DA, MA, DC, MC, hE, hval, hrow⟩ := h.rowed2
  have hl := h.1
  subst hl
  have hlow : 0 < l.length → ∀ x, a = some x → x.block < w.heap.size := fun h0 x hx => hrow.lt h0 x hx
  have hEm : ∀ j, j < l.length → (E j).m.length ≤ 1000000000 := fun j hj => by
    rw [hE]
    refine hfine _ ?_
    simp [List.getD, hj]
  have HV := Lib.hid hval
  have HM := Lib.hid hEm
  have HR := Lib.hid hrow
  have HE := Lib.hid hE
  clear h hval hrow hfine hE hEm
  have hmm := @run_makeMap Try.prog
  refine (callsIn_wide (n := 6)).1 ?_
  refine callsIn_of_wp_marks Try.func86 rfl trivial ?_ rfl
  simp only [Try.ntmps86, List.size_toArray, List.length_cons, List.length_nil, Nat.reduceAdd, Nat.reduceSub, Array.replicate_succ, Array.replicate_zero, List.push_toArray, List.append_toArray, List.nil_append, List.cons_append]
  refine wpIn_wide.2 ?_
  go_wp2_with fail
  refine (backwardOps_any _ _ _ _).mono ?_
  rintro e w5 ⟨rfl, rfl⟩
  go_wp2_with fail
  have q1 : Boxed ((((w.alloc (.cells #[.slice none 0 0] 87)).alloc (.map #[] 0)).alloc (.cells #[.map (some (w.heap.size + 1))] 215)).alloc (.cells #[.slice a l.length c] 87)) w.heap.size 87 (.slice none 0 0) := (((Boxed.new w 87 _).alloc _).alloc _).alloc _
  have q2 : Spots ((((w.alloc (.cells #[.slice none 0 0] 87)).alloc (.map #[] 0)).alloc (.cells #[.map (some (w.heap.size + 1))] 215)).alloc (.cells #[.slice a l.length c] 87)) (w.heap.size + 1) [] := by
    have := ((Spots.made (w.alloc (.cells #[.slice none 0 0] 87))).kept (World.grownBy_alloc _ (.cells #[.map (some (w.heap.size + 1))] 215) none) (by simp)).kept (World.grownBy_alloc _ (.cells #[.slice a l.length c] 87) none) (by simp)
    simpa using this
  have q3 : Boxed ((((w.alloc (.cells #[.slice none 0 0] 87)).alloc (.map #[] 0)).alloc (.cells #[.map (some (w.heap.size + 1))] 215)).alloc (.cells #[.slice a l.length c] 87)) (w.heap.size + 1 + 1) 215 (.map (some (w.heap.size + 1))) := by
    have := (Boxed.new ((w.alloc (.cells #[.slice none 0 0] 87)).alloc (.map #[] 0)) 215 (.map (some (w.heap.size + 1)))).alloc (.cells #[.slice a l.length c] 87)
    simpa using this
  have q4 : Boxed ((((w.alloc (.cells #[.slice none 0 0] 87)).alloc (.map #[] 0)).alloc (.cells #[.map (some (w.heap.size + 1))] 215)).alloc (.cells #[.slice a l.length c] 87)) (w.heap.size + 1 + 1 + 1) 87 (.slice a l.length c) := by
    have := Boxed.new (((w.alloc (.cells #[.slice none 0 0] 87)).alloc (.map #[] 0)).alloc (.cells #[.map (some (w.heap.size + 1))] 215)) 87 (.slice a l.length c)
    simpa using this
  have hb4 : Below w.heap.size w ((((w.alloc (.cells #[.slice none 0 0] 87)).alloc (.map #[] 0)).alloc (.cells #[.map (some (w.heap.size + 1))] 215)).alloc (.cells #[.slice a l.length c] 87)) := ((((Below.refl _ w).alloc (Nat.le_refl _) _).alloc (by simp) _).alloc (by simp; omega) _).alloc (by simp; omega) _
  have hsz : ((((w.alloc (.cells #[.slice none 0 0] 87)).alloc (.map #[] 0)).alloc (.cells #[.map (some (w.heap.size + 1))] 215)).alloc (.cells #[.slice a l.length c] 87)).heap.size = w.heap.size + 4 := by simp
  generalize (((w.alloc (.cells #[.slice none 0 0] 87)).alloc (.map #[] 0)).alloc (.cells #[.map (some (w.heap.size + 1))] 215)).alloc (.cells #[.slice a l.length c] 87) = W0 at *
  have hq4 := q4.cell
  have SQ0 : Sq w.heap.size w (.slice a l.length c) [] [] W0 := ⟨_, q1, OwnOps.nil _ _, q2, q3, q4, hb4, by omega⟩
  clear q1 q2 q3 q4 hmm
  refine wpIn_wide.1 (wpIn_rangeFunc_ownH (n := 6) rfl (by omega) (gf := 183) (lb := #[.pointer (some ⟨w.heap.size + 1 + 1 + 1, 0, none⟩)]) rfl trivial (enters_of Try.func183 (by kernel_rfl) rfl)
    (backOps_stops (6 - 1) (by omega) (w.heap.size + 1 + 1 + 1) l.length c a E (fun j => .slice (DA j) (E j).d.length (DC j)) (fun j => .slice (MA j) (E j).m.length (MC j)) (by omega) W0 w.heap.size (by omega) (by omega) hq4 (HR.out.under hb4 hlow) hlow) KpA.trans (KpA.book (by omega)) (Below.refl _ _) (fun _ => rfl)
    (fun pre W => Sq w.heap.size w (.slice a l.length c) (sqAt E pre).1 (sqAt E pre).2 W) (fun _ _ _ => False)
    (Sq.own (fun pre => (sqAt E pre).1) (fun pre => (sqAt E pre).2) (by omega)) (fun _ _ _ _ _ hs _ _ => hs) SQ0
    (fun x a' W => ∃ Bx, W.heap[Bx]? = some (.cells #[.int .i64 (E x.1).k, .int .i64 (E x.1).v, .int .i64 (E x.1).i, .int .i64 (E x.1).b, .int .i64 (E x.1).n, .int .u64 (E x.1).pt, .slice (DA x.1) (E x.1).d.length (DC x.1), .slice (MA x.1) (E x.1).m.length (MC x.1)] 80 (0, 0)) ∧
      a' = { tmps := #[.slice a l.length c, undef, .slice none 0 0, .pointer (some ⟨w.heap.size, 0, none⟩), .pointer (some ⟨w.heap.size + 1 + 1, 0, none⟩), undef, .pointer (some ⟨Bx, 0, none⟩), undef, undef, undef, .map (some (w.heap.size + 1)), .slice a l.length c, .func (.func 183) #[] #[.pointer (some ⟨w.heap.size + 1 + 1 + 1, 0, none⟩)], .int .i64 (x.1 : Int), opAt E (fun j => .slice (DA j) (E j).d.length (DC j)) (fun j => .slice (MA j) (E j).m.length (MC j)) x.1,
        undef, undef, undef, undef, undef, undef, undef, undef, undef, undef, undef, undef, undef, undef, undef, undef, undef, undef, undef, undef, undef, undef, undef, undef, undef, undef, undef, undef, undef, undef, undef, undef, undef, undef], defers := [] })
    (fun x a' _ X Y row hs hg hr => by
      obtain ⟨Bx, e2, e3⟩ := hs
      refine ⟨Bx, (hg.block Bx (Array.getElem?_eq_some_iff.1 e2).1 fun e => ?_).trans e2, e3⟩
      obtain ⟨-, ob, ho, hc⟩ := hr Bx e.symm
      rw [ho] at e2
      cases e2
      cases hc)
    ?assign ?body ?done ?stop)
  case assign =>
    rintro lo pre x W K hI hK
    have hs9 : w.heap.size ≤ W.heap.size := by obtain ⟨_, _, _, _, _, _, _, h7⟩ := hI; exact h7
    dsimp only [opAt] at hK ⊢
    gi_wp2
    have hal : Below W.heap.size W (W.alloc (.cells #[.int .i64 (E x.1).k, .int .i64 (E x.1).v, .int .i64 (E x.1).i, .int .i64 (E x.1).b, .int .i64 (E x.1).n, .int .u64 (E x.1).pt, .slice (DA x.1) (E x.1).d.length (DC x.1), .slice (MA x.1) (E x.1).m.length (MC x.1)] 80)) := (Below.refl _ _).alloc (Nat.le_refl _) _
    exact hK _ _ ((KeepsOthers.alloc _ _).from _) (Kq.below (base := 0) hal hs9).2 (hI.below hal) ⟨W.heap.size, heap_alloc_new W _, rfl⟩
  case body =>
    rintro lo pre x a' W hlW ⟨r, hr⟩ hI ⟨Bx, bX, rfl⟩ hlt
    have hbase : w.heap.size + 1 < W0.heap.size := by omega
    clear hsz
    obtain ⟨x, hxN⟩ := x
    have hv := HV.out x hxN
    have hml := HM.out x hxN
    have hsn := sqAt_snoc E pre ⟨x, hxN⟩
    have hln := sqAt_len E pre
    dsimp only [opAt] at bX hsn hv hml ⊢
    generalize E x = o at bX hsn hv hml ⊢
    generalize DA x = da at bX hv ⊢
    generalize DC x = dc at bX hv ⊢
    generalize MA x = ma at bX hv ⊢
    generalize MC x = mc at bX hv ⊢
    obtain ⟨st', hst'⟩ : ∃ st', sqAt E (pre ++ [⟨x, hxN⟩]) = st' := ⟨_, rfl⟩
    rw [hst'] at hsn
    have HSTP := Lib.hid hst'
    clear hst'
    generalize sqAt E pre = st at hsn hI hln ⊢
    obtain ⟨q7, hBW⟩ : w.heap.size ≤ W.heap.size ∧ Below w.heap.size w W := by obtain ⟨_, _, _, _, _, _, h6, h7⟩ := hI; exact ⟨h7, h6⟩
    have hC : Cells8 W Bx o.k o.v o.i o.b o.n o.pt (.slice da o.d.length dc) (.slice ma o.m.length mc) := by
      unfold Cells8
      refine ⟨?_, ?_, ?_, ?_, ?_, ?_, ?_, ?_⟩ <;> simp [World.cell?, bX]
    have hBx : Bx < W.heap.size := (Array.getElem?_eq_some_iff.1 bX).1
    have HP := Lib.hid (batchPlain_any o.k o.v o.i o.b o.n o.pt da ma o.d.length dc o.m.length mc o.m W (Is.below hv.2 hBW (Nat.le_refl _)) hml)
    have HVV := Lib.hid hv
    have HI := Lib.hid hI
    have HC := Lib.hid hC
    obtain ⟨c0, c1, c2, c3, c4, c5, c6, c7⟩ := hC
    clear hI hv bX
    cases hq : plainO o.k o.v o.i o.b o.n o.d.length o.m with
    | false =>
      rw [hq] at HP
      have hst : st' = (st.1 ++ [o], []) := by rw [hsn]; unfold sqStep; rw [if_neg (by show ¬ plainO _ _ _ _ _ _ _ = true; rw [hq]; decide)]
      clear hsn
      subst hst
      gi_wp2
      refine ⟨trivial, (CallsIn.inRound lo (callsIn_wide.2 HP.out)).mono ?_⟩
      rintro e W2 ⟨rfl, hb2⟩
      have hI2 := HI.out.below hb2
      have hC2 := HC.out.below hb2 hBx
      have m2 := hI2.mapcell
      obtain ⟨W3, hclr, hS3, hg3⟩ := hI2.spots.cleared 0
      have hC3 := hC2.turn hg3 hI2.spots.obj
      have hI3 := hI2.turn hg3 hS3
      obtain ⟨v, a', c', w4, hbx3, hap, hbx4, hSq, hKq⟩ := hI3.push (base := W0.heap.size) o (.inr ⟨w, Nat.le_refl _, hI3.low.2, da, dc, ma, mc, rfl, rfl, HVV.out.1, HVV.out.2⟩) (by omega)
      have hK2 : Kq W0.heap.size w.heap.size (.slice a l.length c) W (w4.setCell ⟨w.heap.size, 0, none⟩ (.slice a' (st.1.length + 1) c')) := (Kq.below hb2 q7).trans ((Kq.turn hg3 hI2.low.1 (by omega)).trans hKq)
      have HSQ := Lib.hid hSq
      have HKQ := Lib.hid hK2
      have k3 := hbx3.cell
      have k4 := hbx4.cell
      have k5 := hbx4.frozen
      obtain ⟨d0, d1, d2, d3, d4, d5, d6, d7⟩ := hC3
      clear hI2 hC2 hS3 hg3 hI3 hSq hKq hK2 hbx3 hbx4 c0 c1 c2 c3 c4 c5 c6 c7 HI HC HP
      gi_wp2_with (first | (gi_at_builtin; refine wpListIn_clear_run rfl _ _ rfl hclr ?_) | (gi_at_builtin; refine wpListIn_append_run rfl _ _ _ rfl hap ?_))
      exact ⟨HKQ.out.1, HKQ.out.2, by show Sq _ _ _ (sqAt E _).1 (sqAt E _).2 _; rw [HSTP.out]; exact HSQ.out⟩
    | true =>
      rw [hq] at HP
      have hp56 : o.plain56 = true := hq
      have hst : st' = (if idleTo o st.2 o.spots.length then st.1 else st.1 ++ [o], o.spots.reverse ++ st.2) := by rw [hsn]; unfold sqStep; rw [if_pos hp56]
      have hbl := blocks_len hp56
      have hsl : o.spots.length = o.blocks.length := by simp [PO.spots]
      have hin := spots_in hp56
      have HST := Lib.hid hst
      have HIN := Lib.hid hin
      have HP56 := Lib.hid hp56
      clear hsn hst hin hp56 hq
      gi_wp2
      refine ⟨trivial, (CallsIn.inRound lo (callsIn_wide.2 HP.out)).mono ?_⟩
      rintro e W2 ⟨rfl, hb2⟩
      have hC2 := HC.out.below hb2 hBx
      obtain ⟨d0, d1, d2, d3, d4, d5, d6, d7⟩ := hC2
      clear c0 c1 c2 c3 c4 c5 c6 c7 HP
      gi_wp2
      refine ⟨trivial, (CallsIn.inRound lo (callsIn_wide.2 (spots_any o da ma o.d.length dc o.m.length mc W2 HP56.out))).mono ?_⟩
      rintro e W3 ⟨v3, rfl, ho3, hb3⟩
      obtain ⟨sa, sc, rfl, hru, -⟩ := ho3.runs
      have hI3 := (HI.out.below hb2).below hb3
      have hC3 := (HC.out.below hb2 hBx).below hb3 (by have := hb2.size; omega)
      have hK3 : Kq W0.heap.size w.heap.size (.slice a l.length c) W W3 := (Kq.below hb2 q7).trans (Kq.below hb3 (by have := hb2.size; omega))
      have hmap := hI3.spots.obj
      have HI3 := Lib.hid hI3
      have HC3 := Lib.hid hC3
      have HK3 := Lib.hid hK3
      have HRU := Lib.hid hru
      have HMAP := Lib.hid hmap
      clear hI3 hC3 hK3 hru hmap ho3 HI HC d0 d1 d2 d3 d4 d5 d6 d7
      gi_wp2
      gi_loopw [7, 26] (fun u7 u26 wr => ∃ j : Nat, j ≤ o.spots.length ∧ u26 = .int .i64 j ∧ u7 = .bool (idleTo o st.2 j) ∧ Spots wr (w.heap.size + 1) ((o.spots.take j).reverse ++ st.2) ∧ W3.grownBy wr (some (w.heap.size + 1))) (fun _ u26 _ => o.spots.length - (intOf u26).toNat)
      case atStart => exact ⟨0, by omega, rfl, rfl, HI3.out.spots, World.grownBy.refl _ _⟩
      case round =>
        obtain ⟨j, hj, rfl, rfl, hS, hg⟩ := hrel
        by_cases hltj : j < o.spots.length
        · obtain ⟨s, hs⟩ : ∃ s, o.spots[j]? = some s := ⟨_, List.getElem?_eq_getElem hltj⟩
          have hins := HIN.out s (List.mem_of_getElem? hs)
          obtain ⟨bs, ps, rfl, k0, k1⟩ := (HRU.out.turn hg HMAP.out).2 j s hs
          have m3 := (World.grownBy_alloc wr (.cells #[.int .i64 s.1, .int .i64 s.2] 222) none).cell (cell_turn hg HMAP.out HI3.out.mapcell) (by simp)
          have hS4 := hS.kept (World.grownBy_alloc wr (.cells #[.int .i64 s.1, .int .i64 s.2] 222) none) (by simp)
          have hlook := hS4.look s hins
          have hap := spots_apart o st.2 j s hs
          have hnx := idleTo_next o st.2 j s hs
          have htn := take_next o st.2 j s hs
          obtain ⟨w5, hput, hS5, hg5⟩ := hS4.put s hins (by simp only [List.length_append, List.length_reverse, List.length_take]; omega)
          rw [← htn] at hS5
          have hgo : W3.grownBy w5 (some (w.heap.size + 1)) := (hg.trans (World.grownBy_alloc wr (.cells #[.int .i64 s.1, .int .i64 s.2] 222) _)).trans hg5
          have HS5 := Lib.hid hS5
          have HGO := Lib.hid hgo
          have HNX := Lib.hid hnx
          have hj0 : (0 : Int) ≤ (j : Int) := by omega
          have hj1 : (j : Int) < (o.spots.length : Int) := by omega
          clear hS hg hS4 hnx htn hS5 hgo hg5 hs hins
          obtain ⟨s1, s2⟩ := s
          cases hid : idleTo o st.2 j with
          | false =>
            rw [hid] at HNX
            clear hlook hap
            gi_wp2_with (gi_at_mapUpdate; refine wpListIn_mapUpdate_run rfl _ _ _ _ rfl hput ?_)
            go_roundw
            case rel => exact ⟨j + 1, by omega, by go_num, by rw [HNX.out]; rfl, HS5.out, HGO.out⟩
            case measure => simp [intOf]; omega
          | true =>
            rw [hid] at HNX
            by_cases hmem : (s1, s2) ∈ st.2
            · rw [if_pos (hap.2 hmem)] at hlook
              gi_wp2_with (gi_at_mapUpdate; refine wpListIn_mapUpdate_run rfl _ _ _ _ rfl hput ?_)
              go_roundw
              case rel => exact ⟨j + 1, by omega, by go_num, by rw [HNX.out]; simp [hmem], HS5.out, HGO.out⟩
              case measure => simp [intOf]; omega
            · rw [if_neg (fun h => hmem (hap.1 h))] at hlook
              gi_wp2_with (gi_at_mapUpdate; refine wpListIn_mapUpdate_run rfl _ _ _ _ rfl hput ?_)
              go_roundw
              case rel => exact ⟨j + 1, by omega, by go_num, by rw [HNX.out]; simp [hmem], HS5.out, HGO.out⟩
              case measure => simp [intOf]; omega
        · obtain rfl : j = o.spots.length := by omega
          rw [List.take_length] at hS
          have hI4 := HI3.out.turn hg hS
          have hC4 := HC3.out.turn hg HMAP.out
          have hK4 := HK3.out.trans (Kq.turn hg HI3.out.low.1 (by omega))
          have HI4 := Lib.hid hI4
          have HK4 := Lib.hid hK4
          obtain ⟨d0, d1, d2, d3, d4, d5, d6, d7⟩ := hC4
          clear hI4 hK4 hS hg HI3 HC3 HK3
          cases hid : idleTo o st.2 o.spots.length with
          | true =>
            rw [hid] at HST
            have hst := HST.out
            rw [if_pos rfl] at hst
            subst hst
            gi_wp2
            exact ⟨HK4.out.1, HK4.out.2, by show Sq _ _ _ (sqAt E _).1 (sqAt E _).2 _; rw [HSTP.out]; exact HI4.out⟩
          | false =>
            rw [hid] at HST
            have hst := HST.out
            rw [if_neg (by decide)] at hst
            subst hst
            obtain ⟨v, a', c', w4, hbx3, hap, hbx4, hSq, hKq⟩ := HI4.out.push (base := W0.heap.size) o (.inr ⟨w, Nat.le_refl _, HI4.out.low.2, da, dc, ma, mc, rfl, rfl, HVV.out.1, HVV.out.2⟩) (by omega)
            have HSQ := Lib.hid hSq
            have HKQ := Lib.hid (HK4.out.trans hKq)
            have k3 := hbx3.cell
            have k4 := hbx4.cell
            have k5 := hbx4.frozen
            clear hSq hKq hbx3 hbx4 HI4 HK4
            gi_wp2_with (gi_at_builtin; refine wpListIn_append_run rfl _ _ _ rfl hap ?_)
            exact ⟨HKQ.out.1, HKQ.out.2, by show Sq _ _ _ (sqAt E _).1 (sqAt E _).2 _; rw [HSTP.out]; exact HSQ.out⟩
  case done =>
    rintro D' ys W hD hys hI hK
    have hall := sqAt_all l ys hys
    rw [← HE.out] at hall
    rw [hall] at hI
    obtain ⟨v, h1, h2, h3, h4, h5, h6, h7⟩ := hI
    have hkl := sqKeep_len l
    have hre := reverseOps_any v w.heap.size (sqKeep l).reverse W h2 (by rw [List.length_reverse]; omega) h7
    rw [List.reverse_reverse] at hre
    have hc := h1.cell
    have hne : some w.heap.size ≠ v.ownBlock := by obtain ⟨ps, q1, q2, q3⟩ := h2; exact h1.not_row (by decide) q2
    have hge : ∀ k, v.ownBlock = some k → w.heap.size ≤ k ∧ ∃ arr, W.heap[k]? = some (.cells arr 80 (0, 0)) := by
      intro k e
      obtain ⟨ps, q1, q2, q3⟩ := h2
      rcases q2.2 with ⟨rfl, _⟩ | ⟨g, cap, cur, rfl, hb, hh, _⟩
      · cases e
      · simp only [Value.ownBlock, Option.some.injEq] at e
        subst e
        exact ⟨hb, _, hh⟩
    have HRE := Lib.hid hre
    clear hre h2 h3 h4 h5
    go_wp2_with fail
    refine HRE.out.mono ?_
    rintro e W2 ⟨rfl, ho2, hg2⟩
    have hc2 := hg2.cell hc hne
    have hb2 : Below w.heap.size w W2 := h6.grown hg2 h7 (fun k e => (hge k e).1)
    have hK2 : W2.heap[D']? = some (.deferred (some [])) := by
      rw [hg2.block D' (Array.getElem?_eq_some_iff.1 hK).1 (fun e => by
        obtain ⟨-, arr, hh⟩ := hge D' e.symm
        rw [hK] at hh
        cases hh)]
      exact hK
    have HO2 := Lib.hid ho2
    have hsz2 := hg2.size
    clear ho2 hg2 HRE
    go_wp2_with fail
    refine ⟨by simp, .inl ⟨_, _, rfl, run_takeDeferred hK2, ?_⟩⟩
    refine ⟨_, results_tmp rfl _ _ _, v, rfl, HO2.out.turned (grownBy_putObj' W2 D' _) (Nat.le_trans h7 ?_) (fun r e => ?_), hb2.trans (belowK_b (w := w) (Nat.le_refl _) W2 D' _ _ (by omega) hK2 rfl rfl)⟩
    · exact hsz2
    · cases e
      refine ⟨by omega, fun arr t p hh => ?_⟩
      rw [hK2] at hh
      cases hh
  case stop =>
    rintro D' c' pre W _ _ h _
    exact h.elim
end Go.Proofs.Ytljbehndnledpaa
