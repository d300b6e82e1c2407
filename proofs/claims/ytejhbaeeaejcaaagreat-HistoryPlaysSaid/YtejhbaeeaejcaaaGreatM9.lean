/- The walk of walk.leaves as an iterator. Conditions: those of each theorem. -/
import Derived.Test.YtejhbaeeaejcaaaGreatM4
import Derived.Test.YtejhbaeeaejcaaaGreatM8
import Derived.Shelf.Abstract
import Derived.Shelf.RegionOpen
import Derived.OwnWalkIn
import Derived.TacticsInMore
import Derived.LoopNIn
import Derived.LoopIn
namespace Go.Proofs.YtejhbaeeaejcaaaGreat
open Go Go.RowKit Go.Shelf
attribute [local go_sem] Oper.semAt_some

/-- A leaf that may be handed to a body. -/
def LeafX (w : World) (S : Nat → Prop) := {x : Nat × Tr 0 // NodeW w S x.1 x.2 ∧ 0 < lenT x.2 ∧ lenT x.2 ≤ 6}
def leafX {w : World} {S : Nat → Prop} {p : Nat} {lt : Tr 0} (h1 : NodeW w S p lt) (h2 : 0 < lenT lt) (h3 : lenT lt ≤ 6) : LeafX w S := ⟨(p, lt), h1, h2, h3⟩
/-- Between two steps of an iterator: what its caller speaks of, and what it has kept itself. -/
structure Iter {α : Type} (J : List α → (Nat → Prop) → World → Prop) (X : Nat → Prop) (w W0 : World) (D0 : Nat → Prop) (pre : List α) (D : Nat → Prop) (W : World) : Prop where
  j : J pre D W
  lt : ∀ j, D j → j < W.heap.size
  grew : Grew D0 W0 D W
  outs : Outs D0 W0 W
  keep : Kept X w W
section
variable {α : Type} {J : List α → (Nat → Prop) → World → Prop} {X : Nat → Prop} {w W0 W : World} {D0 D : Nat → Prop} {pre : List α}
theorem Iter.step (hJ : Local J) (h : Iter J X w W0 D0 pre D W) (hXlt : ∀ j, X j → j < W0.heap.size) {W' : World} {row : Option Nat} (hg : W.grownBy W' row) (hr : ∀ r, row = some r → W0.heap.size ≤ r ∧ ¬ D r) : Iter J X w W0 D0 pre D W' := by
  have hk : Kept D W W' := ⟨hg.os, hg.tape, hg.output, hg.size, fun j hj => hg.block j (h.lt j hj) (fun e => (hr j e.symm).2 hj)⟩
  refine ⟨hJ _ _ _ _ h.j hk, fun j hj => Nat.lt_of_lt_of_le (h.lt j hj) hg.size, ⟨h.grew.new, fun j hj => Nat.lt_of_lt_of_le (h.lt j hj) hg.size⟩, h.outs.trans (Outs.of_grown (D := fun j => W0.heap.size ≤ j) hg (fun r e => .inl (hr r e).1)) (fun j hj => .inr hj), h.keep.trans ⟨hg.os, hg.tape, hg.output, hg.size, fun j hj => hg.block j (Nat.lt_of_lt_of_le (hXlt j hj) h.outs.size) (fun e => ?_)⟩⟩
  have := (hr j e.symm).1
  have := hXlt j hj
  omega
theorem Iter.below (hJ : Local J) (h : Iter J X w W0 D0 pre D W) (hXlt : ∀ j, X j → j < W0.heap.size) {W' : World} (hb : Below W.heap.size W W') : Iter J X w W0 D0 pre D W' :=
  h.step hJ hXlt (row := none) ⟨hb.os, hb.tape, hb.output, hb.size, fun j hj _ => hb.block j hj⟩ (fun r e => by cases e)
theorem Iter.yielded (h : Iter J X w W0 D0 pre D W) (hXlt : ∀ j, X j → j < W0.heap.size) (hDX : ∀ j, D0 j → ¬ X j) {W' : World} {x : α} {D' : Nat → Prop} (hg : Grew D W D' W') (ho : Outs D W W') (hj : J (pre ++ [x]) D' W') : Iter J X w W0 D0 (pre ++ [x]) D' W' := by
  refine ⟨hj, hg.lt, h.grew.trans hg h.outs.size, h.outs.trans ho h.grew.new, h.keep.trans (ho.kept (fun j hj => Nat.lt_of_lt_of_le (hXlt j hj) h.outs.size) (fun j hj hd => (h.grew.new j hd).elim (fun h2 => hDX j h2 hj) (fun h2 => by have := hXlt j hj; omega)))⟩
end

set_option maxRecDepth 100000 in
set_option maxHeartbeats 4000000 in
theorem root_any {w : World} {pt n : Nat} {r : Option Nat} (h : TreeAt w pt r n) :
    Calls Tryz.prog 108 #[ptrV pt] w fun e w' => e = .returned (.pointer (r.map fun p => ⟨p, 0, none⟩)) ∧ w' = w := by
  have h0 : w.cell? ⟨pt, 0, none⟩ = some (.pointer (r.map fun p => ⟨p, 0, none⟩)) := cell_of_row w pt 0 _ _ _ h
  generalize r.map (fun p => (⟨p, 0, none⟩ : Addr)) = rr at *
  unfold ptrV
  go_enter Tryz.func108, Tryz.ntmps108
  go_wp2_with fail
  go_ret
  exact ⟨rfl, rfl⟩

theorem least_of (p : Nat → Prop) : ∀ m, p m → ∃ k, p k ∧ ∀ j, p j → k ≤ j := by
  intro m
  induction m using Nat.strongRecOn with
  | _ m ih =>
    intro hm
    by_cases h : ∃ j, j < m ∧ p j
    · obtain ⟨j, hj, hpj⟩ := h
      exact ih j hj hpj
    · exact ⟨m, hm, fun j hj => by
        rcases Nat.lt_or_ge j m with h2 | h2
        · exact absurd ⟨j, h2, hj⟩ h
        · exact h2⟩
open Classical in
/-- The least number that has a property (0: there is none). -/
noncomputable def minOf (p : Nat → Prop) : Nat := if h : ∃ k, p k ∧ ∀ j, p j → k ≤ j then Classical.choose h else 0
theorem minOf_spec {p : Nat → Prop} (h : ∃ m, p m) : p (minOf p) ∧ ∀ j, p j → minOf p ≤ j := by
  obtain ⟨m, hm⟩ := h
  have h2 := least_of p m hm
  unfold minOf
  rw [dif_pos h2]
  exact Classical.choose_spec h2

/-- Between two leaves: so many are to come. -/
def AtLeaf {w : World} {S : Nat → Prop} (J : List (LeafX w S) → (Nat → Prop) → World → Prop) (X : Nat → Prop) (W0 : World) (D0 : Nat → Prop) (d q : Nat) (LL : List (Tr 0)) (u5 : Value) (wr : World) (m : Nat) : Prop :=
  ∃ (pre : List (LeafX w S)) (D : Nat → Prop), Iter J X w W0 D0 pre D wr ∧ ¬ D q ∧ q < wr.heap.size ∧
    ((∃ (p : Nat) (lt : Tr 0) (stk : List (Nat × Nat)) (L : List (Tr 0)), u5 = .pointer (some ⟨p, 0, none⟩) ∧ NodeW w S p lt ∧ 0 < lenT lt ∧ lenT lt ≤ 6 ∧ StackWV wr q stk ∧ PendW w S d stk L ∧ LL = pre.map (·.1.2) ++ lt :: L ∧ m = L.length + 1) ∨
      (u5 = .pointer none ∧ LL = pre.map (·.1.2) ∧ m = 0))
/-- On the way from one leaf to the next. -/
def AtNode {w : World} {S : Nat → Prop} (J : List (LeafX w S) → (Nat → Prop) → World → Prop) (X : Nat → Prop) (W0 : World) (D0 : Nat → Prop) (d q : Nat) (LL : List (Tr 0)) (pre : List (LeafX w S)) (D : Nat → Prop) (u5 : Value) (wr : World) (e : Nat) : Prop :=
  Iter J X w W0 D0 pre D wr ∧ q < wr.heap.size ∧
    ((∃ (p : Nat) (c : Tr e) (stk : List (Nat × Nat)) (L : List (Tr 0)), u5 = .pointer (some ⟨p, 0, none⟩) ∧ NodeW w S p c ∧ 0 < lenT c ∧ lenT c ≤ 6 ∧ KidsT c ∧ StackWV wr q stk ∧ PendW w S d stk L ∧ stk.length + e ≤ d ∧ LL = pre.map (·.1.2) ++ (leavesT c ++ L)) ∨
      (u5 = .pointer none ∧ e = 0 ∧ LL = pre.map (·.1.2)))

theorem NodeW.kidAt {S : Nat → Prop} {w wr : World} {m p i : Nat} {u : Tr (m + 1)} {c : Tr m} (h : NodeW w S p u) (hc : (kidsT u)[i]? = some c) (hs : Same S w wr) :
    ∃ cb co cc qc, wr.cell? ⟨p, 3, none⟩ = some (.slice (some ⟨cb, co, none⟩) (lenT u) cc) ∧ wr.cell? ⟨cb, co + i, none⟩ = some (.pointer (some ⟨qc, 0, none⟩)) ∧ NodeW w S qc c ∧ S p ∧ S cb := by
  obtain ⟨ka, kc, ca, cc, ps, hbx, -, hsl, hpl, hk⟩ := h
  have hi := (List.getElem?_eq_some_iff.1 hc).1
  obtain ⟨x, hx⟩ : ∃ x, ps[i]? = some x := ⟨_, List.getElem?_eq_getElem (by rw [hpl]; exact hi)⟩
  obtain ⟨b, o, rfl, hcell⟩ := hsl.2 i (ptrV x) (by rw [List.getElem?_map, hx]; rfl)
  exact ⟨b, o, cc, x, (cell_same hs hbx.self _).trans hbx.reads.2.2.2.1, (cell_same hs (hbx.kids b o rfl) _).trans hcell, hk i x c hx hc, hbx.self, hbx.kids b o rfl⟩
/-- Steps are taken off the stack till one has a child left. -/
def PopS {w : World} {S : Nat → Prop} (J : List (LeafX w S) → (Nat → Prop) → World → Prop) (X : Nat → Prop) (W0 : World) (D0 : Nat → Prop) (d q : Nat) (pre : List (LeafX w S)) (D : Nat → Prop) (L : List (Tr 0)) (u5 u7 u8 : Value) (wz : World) : Prop :=
  u5 = .pointer none ∧ ∃ (xb : Nat) (op : Option Addr) (iv : Int), u7 = .pointer (some ⟨xb, 0, none⟩) ∧ Iter J X w W0 D0 pre D wz ∧ q < wz.heap.size ∧ wz.heap[xb]? = some (.cells #[.pointer op, .int .i64 iv] 181 (0, 0)) ∧ ¬ D xb ∧ q < xb ∧
    ((u8 = .bool false ∧ L = [] ∧ StackWV wz q []) ∨ (∃ (stk : List (Nat × Nat)) (p i : Nat), u8 = .bool true ∧ op = some ⟨p, 0, none⟩ ∧ iv = i ∧ StackWV wz q stk ∧ PendW w S d (stk ++ [(p, i)]) L))

set_option maxRecDepth 100000 in
set_option maxHeartbeats 8000000 in
theorem leaves_seq {S : Nat → Prop} {w : World} {pt d p0 nn bt bk : Nat} {t : Tr d} (n : Nat) (hn : 1 ≤ n) (hat : TreeAt w pt (some p0) nn) (ht : NodeW w S p0 t) (hR : RootT t) (hrise : Rise (flatT t)) (hd : d ≤ 15) (hS : ∀ j, S j → j < w.heap.size) (k : Nat)
    (hbt : w.heap[bt]? = some (.cells #[ptrV pt] 47 (0, 0))) (hbk : w.heap[bk]? = some (.cells #[.int .u16 (kVol k : Int), .int .u32 (kBlk k : Int), .int .u64 (kSeq k : Int)] 27 (0, 0))) :
    SeqSep Fence.wide n Tryz.prog 106 #[ptrV bt, ptrV bk] (fun x : LeafX w S => #[ptrV x.1.1]) (fun ys => ys.map (·.1.2) = leavesFrom t k) (fun pre => ∃ r, leavesFrom t k = pre.map (·.1.2) ++ r) (fun j => S j ∨ j = bt ∨ j = bk ∨ j = pt) (leavesFrom t k).length w := by
  intro l J Jx D0 W hX hJ hJx hD0 hDX hY h0
  have hbtl := (Array.getElem?_eq_some_iff.1 hbt).1
  have hbkl := (Array.getElem?_eq_some_iff.1 hbk).1
  have hptl : pt < w.heap.size := (Array.getElem?_eq_some_iff.1 hat).1
  have hXlt : ∀ j, (S j ∨ j = bt ∨ j = bk ∨ j = pt) → j < W.heap.size := fun j hj => by
    have := hX.size
    rcases hj with h | rfl | rfl | rfl
    · have := hS j h; omega
    · omega
    · omega
    · omega
  have hI0 : Iter J (fun j => S j ∨ j = bt ∨ j = bk ∨ j = pt) w W D0 [] D0 W := ⟨h0, hD0, ⟨fun j hj => .inl hj, hD0⟩, Outs.refl _ _, hX⟩
  have HI0 := Lib.hid hI0
  have HX := Lib.hid hX
  have HY := Lib.hid hY
  have HN := Lib.hid (stackNew_anyV W)
  have HBT := Lib.hid hbt
  have HBK := Lib.hid hbk
  have HAT := Lib.hid hat
  have HT := Lib.hid ht
  have HR := Lib.hid hR
  have HRISE := Lib.hid hrise
  unfold ptrV at HN ⊢
  clear hI0 hX hY h0 hbt hbk hat ht hR hrise
  refine callsIn_of_wp Tryz.func106 rfl trivial ?_ rfl
  refine wpIn_wide.2 ?_
  simp only [Tryz.ntmps106, List.size_toArray, List.length_cons, List.length_nil, Nat.reduceAdd, Nat.reduceSub, Array.replicate_succ, Array.replicate_zero, List.push_toArray, List.append_toArray, List.nil_append, List.cons_append]
  go_wp2_with fail
  refine HN.out.mono ?_
  rintro r w2 ⟨rfl, hst, hb2⟩
  have hI2 := HI0.out.below hJ hXlt hb2
  have hbt2 : w2.cell? ⟨bt, 0, none⟩ = some (.pointer (some ⟨pt, 0, none⟩)) := cell_of_row w2 bt 0 _ _ _ ((hI2.keep.block bt (.inr (.inl rfl))).trans HBT.out)
  have HRT := Lib.hid (root_any (show TreeAt w2 pt (some p0) nn from (hI2.keep.block pt (.inr (.inr (.inr rfl)))).trans HAT.out))
  have HI2 := Lib.hid hI2
  have HST := Lib.hid hst
  have hs2 := hb2.size
  have hql := hst.lt
  unfold ptrV at HRT
  clear hI2 hst hb2
  go_wp2_with fail
  refine HRT.out.mono ?_
  rintro r w3 ⟨rfl, rfl⟩
  simp only [Option.map_some]
  have HD := Lib.hid hd
  generalize hq : W.heap.size = q at *
  have HXLT := Lib.hid (show ∀ j, (S j ∨ j = bt ∨ j = bk ∨ j = pt) → j < W.heap.size by rw [hq]; exact hXlt)
  go_wp2_with fail
  go_loopw [5] (fun u5 wr => ∃ (e p : Nat) (t' : Tr e) (stk : List (Nat × Nat)) (L : List (Tr 0)), u5 = .pointer (some ⟨p, 0, none⟩) ∧ NodeW w S p t' ∧ 0 < lenT t' ∧ lenT t' ≤ 6 ∧ KidsT t' ∧ Rise (flatT t') ∧ StackWV wr q stk ∧ PendW w S d stk L ∧ stk.length + e ≤ d ∧ leavesFrom t k = leavesFrom t' k ++ L ∧ Iter J (fun j => S j ∨ j = bt ∨ j = bk ∨ j = pt) w W D0 [] D0 wr) (fun u5 wr => d - ((wr.cell? ⟨q, 32, none⟩).map fun v => (intOf v).toNat).getD 0)
  case atStart => exact ⟨d, p0, t, [], [], rfl, HT.out, HR.out.lo, HR.out.hi, HR.out.kids, HRISE.out, HST.out, .nil, by simp, by simp, HI2.out⟩
  case round =>
    obtain ⟨e, p, t', stk, L, rfl, hN, hl0, hl6, hK, hr, hst, hpend, hle, hleaf, hI⟩ := hrel
    have hNr := hN.same (w' := wr) (fun j hj => hI.keep.block j (.inl hj))
    have hSr : ∀ j, S j → j < wr.heap.size := fun j hj => Nat.lt_of_lt_of_le (hS j hj) hI.keep.size
    obtain ⟨ka, kc, va, vn, vc, ca, cn, cc, hbx, -⟩ := hNr.box
    have y0 := hbx.reads.1
    have hql := hst.lt
    have hqn : W.heap.size ≤ q := by omega
    cases e with
    | zero =>
      have y0' : wr.cell? ⟨p, 0, none⟩ = some (.bool true) := y0
      have HNN := Lib.hid hN
      have HI := Lib.hid hI
      have HSTR := Lib.hid hst
      have HPE := Lib.hid hpend
      have HLF := Lib.hid hleaf
      have HG := Lib.hid (And.intro hl0 hl6)
      clear hN hI hst hpend hleaf hl0 hl6 hr hK hNr hSr hbx y0 HI2 HRT HN HST
      go_wp2_with fail
      have hat0 : AtLeaf J (fun j => S j ∨ j = bt ∨ j = bk ∨ j = pt) W D0 d q (leavesFrom t k) (.pointer (some ⟨p, 0, none⟩)) wr (L.length + 1) :=
        ⟨[], D0, HI.out, fun h => by have := hD0 _ h; omega, hql, .inl ⟨p, t', stk, L, rfl, HNN.out, HG.out.1, HG.out.2, HSTR.out, HPE.out, by rw [HLF.out]; rfl, rfl⟩⟩
      have HAT0 := Lib.hid hat0
      clear hat0 y0' HNN HI HSTR HPE HLF HG
      refine (wpIn_wide (n := n)).1 ?_
      gi_loopw [5, 7, 8] (fun u5 u7 u8 wr => ∃ m, AtLeaf J (fun j => S j ∨ j = bt ∨ j = bk ∨ j = pt) W D0 d q (leavesFrom t k) u5 wr m) (fun u5 u7 u8 wr => minOf (AtLeaf J (fun j => S j ∨ j = bt ∨ j = bk ∨ j = pt) W D0 d q (leavesFrom t k) u5 wr))
      case atStart => exact ⟨_, HAT0.out⟩
      case round =>
        obtain ⟨hmin, -⟩ := minOf_spec hrel
        obtain ⟨pre, D, hI, hnq, hqr, (⟨p5, lt5, stk5, L5, rfl, hN, hl0, hl6, hst, hpe, hLL, hm⟩ | ⟨rfl, hLL, hm⟩)⟩ := hmin
        · have hlen : pre.length < (leavesFrom t k).length := by rw [hLL, List.length_append, List.length_map]; simp
          obtain ⟨fn, tmps, assign, body, hy, hRd⟩ := HY.out pre (leafX hN hl0 hl6) D wr hI.j hI.lt hI.keep hlen ⟨L5, by rw [hLL, List.map_append, List.append_assoc]; rfl⟩
          dsimp only [leafX] at hy
          have hDX2 : ∀ j, D j → ¬ (S j ∨ j = bt ∨ j = bk ∨ j = pt) := fun j hj hx => (hI.grew.new j hj).elim (fun h => hDX j h hx) (fun h => by have := HXLT.out j hx; omega)
          have HI := Lib.hid hI
          have HST := Lib.hid hst
          have HPE := Lib.hid hpe
          have HLL := Lib.hid hLL
          have HM := Lib.hid hm
          have HNN := Lib.hid (And.intro hN (And.intro hl0 hl6))
          unfold ptrV at hy
          clear hI hst hpe hLL hm hrel hlen
          gi_wp2
          refine hRd.mono ?_
          rintro e W3 ⟨D', hg3, ho3, (⟨rfl, hj3⟩ | ⟨rfl, hj3⟩)⟩
          · have hIy := HI.out.yielded HXLT.out hDX hg3 ho3 hj3
            have hnq3 : ¬ D' q := fun h => (hg3.new q h).elim hnq (fun h => by omega)
            have hq3 : q < W3.heap.size := Nat.lt_of_lt_of_le hqr ho3.size
            have hst3 := HST.out.heap (ho3.block q hqr hnq)
            have hLL3 : leavesFrom t k = (pre ++ [leafX hN hl0 hl6]).map (·.1.2) ++ L5 := by rw [HLL.out, List.map_append, List.append_assoc]; rfl
            generalize pre ++ [leafX hN hl0 hl6] = pre3 at *
            have HIY := Lib.hid hIy
            have HLL3 := Lib.hid hLL3
            have HPO := Lib.hid (popV_any hst3)
            unfold ptrV at HPO
            clear hIy hst3 hLL3 hg3 ho3 hj3 hy hRd
            gi_wp2_with (refine ⟨trivial, ?_⟩; gi_at_call 110; refine (callsIn_wide.2 HPO.out).mono ?_; rintro e w4 ⟨op, iv, rfl, hg4, hpop⟩)
            have hI4 := HIY.out.step hJ HXLT.out hg4 (fun r hr => by cases hr; exact ⟨hqn, hnq3⟩)
            have hs4 := hg4.size
            have hI5 := hI4.below hJ HXLT.out ((Below.refl _ w4).alloc (Nat.le_refl _) (.cells #[.pointer op, .int .i64 iv] 181))
            have hx5 := heap_alloc_new w4 (.cells #[.pointer op, .int .i64 iv] 181)
            have hxD : ¬ D' w4.heap.size := fun h => by have := hI4.lt _ h; omega
            have hsz5 := World.alloc_size w4 (.cells #[.pointer op, .int .i64 iv] 181)
            have hrel3 : PopS J (fun j => S j ∨ j = bt ∨ j = bk ∨ j = pt) W D0 d q pre3 D' L5 (.pointer none) (.pointer (some ⟨w4.heap.size, 0, none⟩)) (.bool (!decide (stk5 = []))) (w4.alloc (.cells #[.pointer op, .int .i64 iv] 181)) := by
              refine ⟨rfl, w4.heap.size, op, iv, rfl, hI5, by omega, hx5, hxD, by omega, ?_⟩
              rcases hpop with ⟨h1, h2⟩ | ⟨l', p', i', h1, h2, h3, h4⟩
              · refine .inl ⟨by rw [h1]; rfl, (h1 ▸ HPE.out).empty, h2.heap (Below.heap_alloc _ _ _ (by omega))⟩
              · exact .inr ⟨l', p', i', by rw [h1, decide_eq_false (by simp)]; rfl, h2, h3, h4.heap (Below.heap_alloc _ _ _ (by omega)), by rw [← h1]; exact HPE.out⟩
            have HR3 := Lib.hid hrel3
            clear hI4 hI5 hx5 hxD hsz5 hrel3 hg4 hpop HPO
            refine wpIn_wide.2 ?_
            generalize w4.alloc (.cells #[.pointer op, .int .i64 iv] 181) = w5 at *
            generalize w4.heap.size = xb0 at *
            generalize Value.bool (!decide (stk5 = [])) = okv at *
            go_loopw [5, 7, 8] (fun u5 u7 u8 wz => PopS J (fun j => S j ∨ j = bt ∨ j = bk ∨ j = pt) W D0 d q pre3 D' L5 u5 u7 u8 wz) (fun u5 u7 u8 wz => ((wz.cell? ⟨q, 32, none⟩).map fun v => (intOf v).toNat).getD 0 + (match u8 with | .bool true => 1 | _ => 0))
            case atStart => exact HR3.out
            case round =>
              rename_i wr0 wzz
              obtain ⟨rfl, xb, op, iv, rfl, hI, hqr3, hx, hxD, hqx, (⟨rfl, hL0, hstn⟩ | ⟨stk, pp, ii, rfl, rfl, rfl, hst, hpe⟩)⟩ := hrel
              · have hat9 : AtLeaf J (fun j => S j ∨ j = bt ∨ j = bk ∨ j = pt) W D0 d q (leavesFrom t k) (.pointer none) wr 0 :=
                  ⟨pre3, D', hI, hnq3, hqr3, .inr ⟨rfl, by rw [HLL3.out, hL0, List.append_nil], rfl⟩⟩
                have HA9 := Lib.hid hat9
                clear hI hx hL0 hstn hat9
                go_wp2_with fail
                refine wpIn_wide.2 ?_
                go_wp2_with fail
                refine wp_loop_rounds 1 ?_
                rw [rounds_succ]
                go_wp2_with fail
                go_roundw
                case rel => exact ⟨0, HA9.out⟩
                case measure =>
                  have h1 := (minOf_spec ⟨0, HA9.out⟩).2 0 HA9.out
                  have h2 := HM.out
                  show minOf (AtLeaf J (fun j => S j ∨ j = bt ∨ j = bk ∨ j = pt) W D0 d q (leavesFrom t k) (.pointer none) wr) < _
                  rw [show minOf (AtLeaf J (fun j => S j ∨ j = bt ∨ j = bk ∨ j = pt) W D0 d q (leavesFrom t k) (.pointer none) wr) = 0 by omega]
                  exact Nat.lt_of_lt_of_eq (Nat.succ_pos L5.length) h2.symm
              · have hm32 := hst.reads.1
                obtain ⟨m, u, L', hpe', hNu, hKu, hu6, hiu, hsu, hL5⟩ := hpe.last rfl
                have hSw : Same S w wr := fun j hj => hI.keep.block j (.inl hj)
                have HLEN := Lib.hid (len_any (w := wr.drew) (NodeW.same (S := S) (w := wr) (w' := wr.drew) (fun _ _ => rfl) (hNu.same hSw)))
                have x0 : wr.cell? ⟨xb, 0, none⟩ = some (.pointer (some ⟨pp, 0, none⟩)) := cell_of_row wr xb 0 _ _ _ hx
                have x1 : wr.cell? ⟨xb, 1, none⟩ = some (.int .i64 (ii : Int)) := cell_of_row wr xb 1 _ _ _ hx
                have hS0 : wr.drew.cell? ⟨xb, 0, none⟩ = some (.pointer (some ⟨pp, 0, none⟩)) ∧ wr.drew.cell? ⟨xb, 1, none⟩ = some (.int .i64 (ii : Int)) := ⟨x0, x1⟩
                have hxl : xb < wr.heap.size := (Array.getElem?_eq_some_iff.1 hx).1
                have hw9 : IntKind.i64.wrap ((ii : Int) + 1) = ((ii + 1 : Nat) : Int) := by rw [IntWalk.i64_in _ (by omega)]; omega
                have hstl : stk.length < 16 := by have := HD.out; omega
                have HIR := Lib.hid hI
                have HSTR := Lib.hid hst
                have hxq : xb ≠ q := by omega
                unfold ptrV at HLEN
                by_cases hiu2 : ii < lenT u
                · obtain ⟨c, hc⟩ : ∃ c, (kidsT u)[ii]? = some c := ⟨_, List.getElem?_eq_getElem hiu2⟩
                  have hF := FullT.kid hKu (List.mem_of_getElem? hc)
                  obtain ⟨cb, co, cc, qc, yk, yc, hNc, hSp, hScb⟩ := hNu.kidAt hc hSw
                  have hPn : PendW w S d (stk ++ [(pp, ii + 1)]) (((kidsT u).drop (ii + 1)).flatMap leavesT ++ L') := .snoc hpe' hNu hKu hu6 hiu2 hsu
                  have hLc : leavesFrom t k = pre3.map (·.1.2) ++ (leavesT c ++ (((kidsT u).drop (ii + 1)).flatMap leavesT ++ L')) := by rw [HLL3.out, hL5, drop_step u ii c hc, List.append_assoc]
                  have HPU := Lib.hid (stackPush_anyV (w := wr.drew) (hst.heap rfl) hstl pp (ii + 1))
                  have hpl : pp < wr.heap.size := World.block_lt_of_cell? _ _ yk
                  have hcl : cb < wr.heap.size := World.block_lt_of_cell? _ _ yc
                  have hpq : pp ≠ q := fun h => by have := hS pp hSp; have := HX.out.size; omega
                  have hcq : cb ≠ q := fun h => by have := hS cb hScb; have := HX.out.size; omega
                  have hi1 : (ii : Int) < (lenT u : Int) := by omega
                  have HPN := Lib.hid hPn
                  have HLC := Lib.hid hLc
                  have HNC := Lib.hid (And.intro hNc (And.intro hF hsu))
                  unfold ptrV at HPU
                  clear hpe hpe' hNu hKu hu6 hiu hsu hL5 hSw hc hF hNc hPn hLc hI hx hst hSp hScb
                  generalize lenT u = lu at *
                  go_wp2_with fail
                  go_region_held_law (fun W' => W'.cell? ⟨xb, 0, none⟩ = some (.pointer (some ⟨pp, 0, none⟩)) ∧ W'.cell? ⟨xb, 1, none⟩ = some (.int .i64 (ii : Int)))
                    (first | exact hS0)
                    (first | (go_at_call 82; refine HLEN.out.mono ?_; rintro r w7 ⟨rfl, rfl⟩))
                  all_goals
                    obtain ⟨g0, g1⟩ := hS0
                    go_wp2_with fail
                    refine HPU.out.mono ?_
                    rintro r w8 ⟨rfl, hst8, hg8⟩
                    have hg8' : wr.grownBy w8 (some q) := ⟨hg8.os, hg8.tape, hg8.output, hg8.size, fun j hj hne => hg8.block j hj hne⟩
                    have k0 : w8.cell? ⟨xb, 0, none⟩ = some (.pointer (some ⟨pp, 0, none⟩)) := by
                      rw [← x0]; simp only [World.cell?]; rw [hg8'.block xb hxl (fun h => hxq (Option.some.inj h))]
                    have k1 : w8.cell? ⟨xb, 1, none⟩ = some (.int .i64 (ii : Int)) := by
                      rw [← x1]; simp only [World.cell?]; rw [hg8'.block xb hxl (fun h => hxq (Option.some.inj h))]
                    have k2 : w8.cell? ⟨pp, 3, none⟩ = some (.slice (some ⟨cb, co, none⟩) lu cc) := by
                      rw [← yk]; simp only [World.cell?]; rw [hg8'.block pp hpl (fun h => hpq (Option.some.inj h))]
                    have k3 : w8.cell? ⟨cb, co + ii, none⟩ = some (.pointer (some ⟨qc, 0, none⟩)) := by
                      rw [← yc]; simp only [World.cell?]; rw [hg8'.block cb hcl (fun h => hcq (Option.some.inj h))]
                    have hI8 := HIR.out.step hJ HXLT.out hg8' (fun r hr => by cases hr; exact ⟨hqn, hnq3⟩)
                    have hI9 := hI8.step hJ HXLT.out (W' := w8.drew) (row := none) ⟨rfl, rfl, rfl, Nat.le_refl _, fun _ _ _ => rfl⟩ (fun r hr => by cases hr)
                    have hat4 : AtNode J (fun j => S j ∨ j = bt ∨ j = bk ∨ j = pt) W D0 d q (leavesFrom t k) pre3 D' (.pointer (some ⟨qc, 0, none⟩)) w8.drew m :=
                      ⟨hI9, Nat.lt_of_lt_of_le hqr3 hg8'.size, .inl ⟨qc, c, stk ++ [(pp, ii + 1)], _, rfl, HNC.out.1, by have := HNC.out.2.1.lo; omega, HNC.out.2.1.hi, HNC.out.2.1.kids, hst8.heap rfl, HPN.out, by have := HNC.out.2.2; simp; omega, HLC.out⟩⟩
                    have HA4 := Lib.hid hat4
                    clear hI8 hI9 hat4 hst8 hg8 hg8' HPU HLEN
                    go_wp2_with fail
                    go_region
                    all_goals
                      go_wp2_with fail
                      refine wpIn_wide.2 ?_
                      go_wp2_with fail
                      go_loopw [5] (fun u5 wz => ∃ e, AtNode J (fun j => S j ∨ j = bt ∨ j = bk ∨ j = pt) W D0 d q (leavesFrom t k) pre3 D' u5 wz e) (fun u5 wz => d - ((wz.cell? ⟨q, 32, none⟩).map fun v => (intOf v).toNat).getD 0)
                      case atStart => exact ⟨m, HA4.out⟩
                      case round =>
                        obtain ⟨e, hIz, hqz, (⟨pz, cz, stkz, Lz, rfl, hNz, hz0, hz6, hKz, hstz, hpez, hlez, hLLz⟩ | ⟨rfl, rfl, hLLz⟩)⟩ := hrel
                        · have hSz : Same S w wr := fun j hj => hIz.keep.block j (.inl hj)
                          obtain ⟨kaz, kcz, vaz, vnz, vcz, caz, cnz, ccz, hbxz, -⟩ := (hNz.same hSz).box
                          have yf := hbxz.reads.1
                          cases e with
                          | zero =>
                            have yf' : wr.cell? ⟨pz, 0, none⟩ = some (.bool true) := yf
                            have hatL : AtLeaf J (fun j => S j ∨ j = bt ∨ j = bk ∨ j = pt) W D0 d q (leavesFrom t k) (.pointer (some ⟨pz, 0, none⟩)) wr (Lz.length + 1) :=
                              ⟨pre3, D', hIz, hnq3, hqz, .inl ⟨pz, cz, stkz, Lz, rfl, hNz, hz0, hz6, hstz, hpez, hLLz, rfl⟩⟩
                            have hcnt : L5.length = Lz.length + 1 := by
                              have h := List.append_cancel_left (HLL3.out.symm.trans hLLz)
                              rw [h]; rfl
                            have HATL := Lib.hid hatL
                            have HCNT := Lib.hid hcnt
                            clear hIz hNz hz0 hz6 hKz hstz hpez hlez hLLz hSz hbxz yf hatL hcnt
                            go_wp2_with fail
                            go_roundw
                            case rel => exact ⟨_, HATL.out⟩
                            case measure =>
                              have h1 := (minOf_spec ⟨_, HATL.out⟩).2 _ HATL.out
                              have h2 := HM.out
                              have h3 := HCNT.out
                              exact Nat.lt_of_lt_of_eq (Nat.lt_of_le_of_lt h1 (show Lz.length + 1 < L5.length + 1 by omega)) h2.symm
                          | succ e =>
                            have yf' : wr.cell? ⟨pz, 0, none⟩ = some (.bool false) := yf
                            obtain ⟨c6, hc6⟩ : ∃ c, (kidsT cz)[0]? = some c := ⟨_, List.getElem?_eq_getElem (show 0 < (kidsT cz).length from hz0)⟩
                            have hF6 := FullT.kid hKz (List.mem_of_getElem? hc6)
                            obtain ⟨cb6, co6, cc6, qc6, yk6, yc6, hNc6, hSp6, hScb6⟩ := hNz.kidAt hc6 hSz
                            simp only [Nat.add_zero] at yc6
                            have hPn6 : PendW w S d (stkz ++ [(pz, 1)]) (((kidsT cz).drop 1).flatMap leavesT ++ Lz) := .snoc hpez hNz hKz hz6 hz0 hlez
                            have hLc6 : leavesFrom t k = pre3.map (·.1.2) ++ (leavesT c6 ++ (((kidsT cz).drop 1).flatMap leavesT ++ Lz)) := by rw [hLLz, leaves_zero cz c6 hc6, List.append_assoc]
                            have hst6 : stkz.length < 16 := by have := HD.out; omega
                            have HPU6 := Lib.hid (stackPush_anyV hstz hst6 pz 1)
                            have hm6 := hstz.reads.1
                            have hpl6 : pz < wr.heap.size := World.block_lt_of_cell? _ _ yk6
                            have hcl6 : cb6 < wr.heap.size := World.block_lt_of_cell? _ _ yc6
                            have hpq6 : pz ≠ q := fun h => by have := hS pz hSp6; have := HX.out.size; omega
                            have hcq6 : cb6 ≠ q := fun h => by have := hS cb6 hScb6; have := HX.out.size; omega
                            have hi6 : (0 : Int) < (lenT cz : Int) := by omega
                            have hi7 : 0 < lenT cz := hz0
                            have HPN6 := Lib.hid hPn6
                            have HLC6 := Lib.hid hLc6
                            have HNC6 := Lib.hid (And.intro hNc6 (And.intro hF6 hlez))
                            have HIZ := Lib.hid hIz
                            unfold ptrV at HPU6
                            clear hIz hNz hz0 hz6 hKz hstz hpez hLLz hSz hbxz yf hc6 hF6 hNc6 hPn6 hLc6 hSp6 hScb6
                            generalize lenT cz = lz at *
                            go_wp2_with fail
                            refine HPU6.out.mono ?_
                            rintro r w10 ⟨rfl, hst10, hg10⟩
                            have k2 : w10.cell? ⟨pz, 3, none⟩ = some (.slice (some ⟨cb6, co6, none⟩) lz cc6) := by
                              rw [← yk6]; simp only [World.cell?]; rw [hg10.block pz hpl6 (fun h => hpq6 (Option.some.inj h))]
                            have k3 : w10.cell? ⟨cb6, co6, none⟩ = some (.pointer (some ⟨qc6, 0, none⟩)) := by
                              rw [← yc6]; simp only [World.cell?]; rw [hg10.block cb6 hcl6 (fun h => hcq6 (Option.some.inj h))]
                            have hI10 := HIZ.out.step hJ HXLT.out hg10 (fun r hr => by cases hr; exact ⟨hqn, hnq3⟩)
                            have hm10 := hst10.reads.1
                            simp only [List.length_append, List.length_singleton] at hm10
                            have hat6 : AtNode J (fun j => S j ∨ j = bt ∨ j = bk ∨ j = pt) W D0 d q (leavesFrom t k) pre3 D' (.pointer (some ⟨qc6, 0, none⟩)) w10 e :=
                              ⟨hI10, Nat.lt_of_lt_of_le hqz hg10.size, .inl ⟨qc6, c6, stkz ++ [(pz, 1)], _, rfl, HNC6.out.1, by have := HNC6.out.2.1.lo; omega, HNC6.out.2.1.hi, HNC6.out.2.1.kids, hst10, HPN6.out, by have := HNC6.out.2.2; simp; omega, HLC6.out⟩⟩
                            have HA6 := Lib.hid hat6
                            clear hI10 hst10 hg10 hat6 HPU6
                            go_wp2_with fail
                            go_roundw
                            case rel => exact ⟨e, HA6.out⟩
                            case measure => rw [hm10, hm6]; simp [intOf]; omega
                        · have hatL : AtLeaf J (fun j => S j ∨ j = bt ∨ j = bk ∨ j = pt) W D0 d q (leavesFrom t k) (.pointer none) wr 0 := ⟨pre3, D', hIz, hnq3, hqz, .inr ⟨rfl, hLLz, rfl⟩⟩
                          have HATL := Lib.hid hatL
                          clear hIz hLLz hatL
                          go_wp2_with fail
                          go_roundw
                          case rel => exact ⟨_, HATL.out⟩
                          case measure =>
                            have h1 := (minOf_spec ⟨_, HATL.out⟩).2 _ HATL.out
                            have h2 := HM.out
                            exact Nat.lt_of_lt_of_eq (Nat.lt_of_le_of_lt h1 (Nat.succ_pos L5.length)) h2.symm
                · have hii : ii = lenT u := by omega
                  have hL6 : L5 = L' := by rw [hL5, hii, show lenT u = (kidsT u).length from rfl, List.drop_length]; rfl
                  have HPE5 := Lib.hid (show PendW w S d stk L5 by rw [hL6]; exact hpe')
                  have HPO3 := Lib.hid (popV_any (w := wr.drew) (hst.heap rfl))
                  have hi1 : ¬ (ii : Int) < (lenT u : Int) := by omega
                  have HX3 := Lib.hid hx
                  unfold ptrV at HPO3
                  clear hpe hpe' hNu hKu hu6 hiu hsu hL5 hSw hI hx hst hii hL6 hiu2
                  generalize lenT u = lu at *
                  go_wp2_with fail
                  go_region_held_law (fun W' => W'.cell? ⟨xb, 0, none⟩ = some (.pointer (some ⟨pp, 0, none⟩)) ∧ W'.cell? ⟨xb, 1, none⟩ = some (.int .i64 (ii : Int)))
                    (first | exact hS0)
                    (first | (go_at_call 82; refine HLEN.out.mono ?_; rintro r w7 ⟨rfl, rfl⟩))
                  all_goals
                    go_wp2_with fail
                    refine HPO3.out.mono ?_
                    rintro r w8 ⟨op8, iv8, rfl, hg8, hpop8⟩
                    have hg8' : wr.grownBy w8 (some q) := ⟨hg8.os, hg8.tape, hg8.output, hg8.size, fun j hj hne => hg8.block j hj hne⟩
                    have hx8 : w8.heap[xb]? = some (.cells #[.pointer (some ⟨pp, 0, none⟩), .int .i64 (ii : Int)] 181 (0, 0)) := (hg8'.block xb hxl (fun h => hxq (Option.some.inj h))).trans HX3.out
                    have k80 := cell_of_row w8 _ 0 _ _ _ hx8
                    have k81 := cell_of_row w8 _ 1 _ _ _ hx8
                    simp at k80 k81
                    have k8f : ∀ i, w8.frozen? ⟨xb, i, none⟩ = false := fun i => by simp [World.frozen?, hx8]
                    have hT := turn_two w8 xb (.pointer op8) (.int .i64 iv8)
                    have hx9 := heap_two hx8 (.pointer op8) (.int .i64 iv8)
                    have k90 := cell_of_row _ _ 0 _ _ _ hx9
                    have k91 := cell_of_row _ _ 1 _ _ _ hx9
                    simp at k90 k91
                    have hI8 := (HIR.out.step hJ HXLT.out hg8' (fun r hr => by cases hr; exact ⟨hqn, hnq3⟩)).step hJ HXLT.out hT.grown (fun r hr => by cases hr; exact ⟨by omega, hxD⟩)
                    have hsz9 : ((w8.setCell ⟨xb, 0, none⟩ (.pointer op8)).setCell ⟨xb, 1, none⟩ (.int .i64 iv8)).heap.size = w8.heap.size := hT.size
                    have hs8 := hg8'.size
                    have hI9 := hI8.below hJ HXLT.out ((Below.refl _ _).alloc (Nat.le_refl _) (.cells #[.pointer op8, .int .i64 iv8] 181))
                    have hnew := heap_alloc_new ((w8.setCell ⟨xb, 0, none⟩ (.pointer op8)).setCell ⟨xb, 1, none⟩ (.int .i64 iv8)) (.cells #[.pointer op8, .int .i64 iv8] 181)
                    rw [hsz9] at hnew
                    have hsz10 := World.alloc_size ((w8.setCell ⟨xb, 0, none⟩ (.pointer op8)).setCell ⟨xb, 1, none⟩ (.int .i64 iv8)) (.cells #[.pointer op8, .int .i64 iv8] 181)
                    have hst9 : ∀ {l'' : List (Nat × Nat)}, StackWV w8 q l'' → StackWV (((w8.setCell ⟨xb, 0, none⟩ (.pointer op8)).setCell ⟨xb, 1, none⟩ (.int .i64 iv8)).alloc (.cells #[.pointer op8, .int .i64 iv8] 181)) q l'' := fun h => (h.heap (hT.block q hxq.symm)).heap (Below.heap_alloc _ _ _ (by omega))
                    have hpop9 : PopS J (fun j => S j ∨ j = bt ∨ j = bk ∨ j = pt) W D0 d q pre3 D' L5 (.pointer none) (.pointer (some ⟨w8.heap.size, 0, none⟩)) (.bool (!decide (stk = []))) (((w8.setCell ⟨xb, 0, none⟩ (.pointer op8)).setCell ⟨xb, 1, none⟩ (.int .i64 iv8)).alloc (.cells #[.pointer op8, .int .i64 iv8] 181)) := by
                      refine ⟨rfl, w8.heap.size, op8, iv8, rfl, hI9, by omega, hnew, fun h => by have := hI8.lt _ h; omega, by omega, ?_⟩
                      rcases hpop8 with ⟨h1, h2⟩ | ⟨l', p', i', h1, h2, h3, h4⟩
                      · exact .inl ⟨by rw [h1]; rfl, (h1 ▸ HPE5.out).empty, hst9 h2⟩
                      · exact .inr ⟨l', p', i', by rw [h1, decide_eq_false (by simp)]; rfl, h2, h3, hst9 h4, by rw [← h1]; exact HPE5.out⟩
                    have hmeas : ∃ c : Nat, (((w8.setCell ⟨xb, 0, none⟩ (.pointer op8)).setCell ⟨xb, 1, none⟩ (.int .i64 iv8)).alloc (.cells #[.pointer op8, .int .i64 iv8] 181)).cell? ⟨q, 32, none⟩ = some (.int .i64 (c : Int)) ∧ ((stk = [] ∧ c = 0) ∨ (stk ≠ [] ∧ c + 1 = stk.length)) := by
                      rcases hpop8 with ⟨h1, h2⟩ | ⟨l', p', i', h1, h2, h3, h4⟩
                      · exact ⟨0, (hst9 h2).reads.1, .inl ⟨h1, rfl⟩⟩
                      · exact ⟨l'.length, (hst9 h4).reads.1, .inr ⟨by rw [h1]; simp, by rw [h1]; simp⟩⟩
                    have HP9 := Lib.hid hpop9
                    have HM9 := Lib.hid hmeas
                    clear hpop9 hmeas hI8 hI9 hnew hsz10 hst9 hpop8 hg8 hg8' hx8 hx9 hT HPO3 HLEN hS0
                    go_wp2_with fail
                    go_roundw
                    case rel => exact HP9.out
                    case measure =>
                      obtain ⟨cn, h1, h2⟩ := HM9.out
                      rw [hm32, h1]
                      rcases h2 with ⟨h3, h4⟩ | ⟨h3, h4⟩
                      · rw [h3, h4]; simp [intOf]
                      · rw [decide_eq_false h3]; simp [intOf]; omega
          · have hgr := HI.out.grew.trans hg3 HI.out.outs.size
            have hou := HI.out.outs.trans ho3 HI.out.grew.new
            have HF := Lib.hid (And.intro hgr (And.intro hou hj3))
            clear hgr hou hj3 hg3 ho3 hy hRd
            gi_wp2
            go_end0
            exact ⟨⟨_, rfl⟩, D', HF.out.1, HF.out.2.1, .inr ⟨_, ⟨L5, by rw [HLL.out, List.map_append, List.append_assoc]; rfl⟩, HF.out.2.2⟩⟩
        · have HF := Lib.hid (And.intro hI.grew (And.intro hI.outs (And.intro hLL hI.j)))
          clear hI hLL hm hrel
          gi_wp2
          refine ⟨(fun f h => by cases h), ?_⟩
          gi_wp2
          go_end0
          exact ⟨⟨_, rfl⟩, D, HF.out.1, HF.out.2.1, .inl ⟨pre, HF.out.2.2.1.symm, HF.out.2.2.2⟩⟩
    | succ e =>
      have y0' : wr.cell? ⟨p, 0, none⟩ = some (.bool false) := y0
      obtain ⟨cb, co, cc, qs, yk, -, hrow, hkw, -, -, -⟩ := hNr.inner hl0
      obtain ⟨c, hc⟩ := kid_some hl0 k
      have hcm := List.mem_of_getElem? hc
      have hF := FullT.kid hK hcm
      have hci := (List.getElem?_eq_some_iff.1 hc).1
      obtain ⟨qc, hqc⟩ : ∃ x, qs[kidAt (keysT t') k]? = some x := ⟨_, List.getElem?_eq_getElem (by rw [hkw.1]; exact hci)⟩
      obtain ⟨b', o', he', hcell⟩ := hrow.ptr _ qc hqc
      cases he'
      unfold ptrV at hcell
      have hkey := (hI.keep.block bk (.inr (.inr (.inl rfl)))).trans HBK.out
      obtain ⟨z0, z1, z2⟩ : wr.cell? ⟨bk, 0, none⟩ = some (.int .u16 (kVol k : Int)) ∧ wr.cell? ⟨bk, 1, none⟩ = some (.int .u32 (kBlk k : Int)) ∧ wr.cell? ⟨bk, 2, none⟩ = some (.int .u64 (kSeq k : Int)) := ⟨cell_of_row wr bk 0 _ _ _ hkey, cell_of_row wr bk 1 _ _ _ hkey, cell_of_row wr bk 2 _ _ _ hkey⟩
      have HKA := Lib.hid (kid_any hNr hSr (by omega) (keys_rise hK hr) k)
      have hNc : NodeW w S qc c := by
        obtain ⟨ka2, kc2, ca2, cc2, ps2, hbx2, -, hsl2, hpl2, hk2⟩ := hN
        have hbr := (hbx2.same (w' := wr) (fun j hj => hI.keep.block j (.inl hj))).reads.2.2.2.1
        rw [yk] at hbr
        simp only [Option.some.injEq, Value.slice.injEq] at hbr
        obtain ⟨rfl, -, -⟩ := hbr
        have hx : ∃ x, ps2[kidAt (keysT t') k]? = some x := ⟨_, List.getElem?_eq_getElem (by rw [hpl2]; exact hci)⟩
        obtain ⟨x, hx⟩ := hx
        have hsl3 := hsl2.same (S := S) (fun b o e => hbx2.kids b o e) (w' := wr) (fun j hj => hI.keep.block j (.inl hj))
        obtain ⟨b3, o3, he3, hc3⟩ := hsl3.2 (kidAt (keysT t') k) (ptrV x) (by rw [List.getElem?_map, hx]; rfl)
        cases he3
        rw [hcell] at hc3
        unfold ptrV at hc3
        simp only [Option.some.injEq, Value.pointer.injEq, Addr.mk.injEq, and_true] at hc3
        subst hc3
        exact hk2 _ _ _ hx hc
      have hlf : leavesFrom t' k = leavesFrom c k ++ ((kidsT t').drop (kidAt (keysT t') k + 1)).flatMap leavesT := by rw [leavesFrom, hc]; rfl
      have hsz : stk.length < 16 := by have := HD.out; omega
      have hpn : PendW w S d (stk ++ [(p, kidAt (keysT t') k + 1)]) (((kidsT t').drop (kidAt (keysT t') k + 1)).flatMap leavesT ++ L) := .snoc hpend hN hK hl6 hci hle
      have hw9 : IntKind.i64.wrap (((kidAt (keysT t') k : Nat) : Int) + 1) = ((kidAt (keysT t') k + 1 : Nat) : Int) := by
        have : (kidsT t').length ≤ 6 := hl6
        rw [IntWalk.i64_in _ (by omega)]; omega
      have hi1 : ((kidAt (keysT t') k : Nat) : Int) < ((lenT t' : Nat) : Int) := by have : lenT t' = (kidsT t').length := rfl; omega
      have hm32 := hst.reads.1
      have hyS : ∀ W2, Below wr.heap.size wr W2 ∨ wr.grownBy W2 (some q) → True := fun _ _ => trivial
      have hpl : p < wr.heap.size := hSr p hbx.self
      have hcbl : cb < wr.heap.size := World.block_lt_of_cell? _ _ hcell
      have hpq : p ≠ q := fun h => by have := hS p hbx.self; have := HX.out.size; omega
      have hcq : cb ≠ q := fun h => by
        obtain ⟨ka2, kc2, ca2, cc2, ps2, hbx2, -⟩ := hNr
        have hbr := hbx2.reads.2.2.2.1
        rw [yk] at hbr
        simp only [Option.some.injEq, Value.slice.injEq] at hbr
        obtain ⟨rfl, -, -⟩ := hbr
        have := hS cb (hbx2.kids cb co rfl)
        have := HX.out.size
        omega
      have HNC := Lib.hid (And.intro hNc (And.intro hF (And.intro (kid_rise hr hcm) hpn)))
      have HLF := Lib.hid (hleaf.trans (by rw [hlf]))
      have HI := Lib.hid hI
      have HST3 := Lib.hid hst
      unfold keyV ptrV at HKA
      clear hN hI hst hpend hleaf hl0 hl6 hr hK hNr hbx y0 HI2 HRT HN HST hkw hrow hkey hNc hlf hpn hc hcm hF hci hqc hyS
      generalize kidAt (keysT t') k = ki at *
      generalize lenT t' = lt' at *
      go_wp2_with fail
      refine HKA.out.mono ?_
      rintro r w4 ⟨rfl, hb4⟩
      have hI4 := HI.out.below hJ HXLT.out hb4
      have HPU := Lib.hid (stackPush_anyV (HST3.out.heap (hb4.block q hql)) hsz p (ki + 1))
      unfold ptrV at HPU
      have HI4 := Lib.hid hI4
      clear hI4
      go_wp2_with fail
      refine HPU.out.mono ?_
      rintro r w5 ⟨rfl, hst5, hg5⟩
      have hI5 := HI4.out.step hJ HXLT.out hg5 (fun r hr => by cases hr; exact ⟨hqn, fun h => by have := hD0 _ h; omega⟩)
      have yk5 : w5.cell? ⟨p, 3, none⟩ = some (.slice (some ⟨cb, co, none⟩) lt' cc) := by
        rw [← yk]
        simp only [World.cell?]
        rw [hg5.block p (by have := hb4.size; omega) (fun h => hpq (Option.some.inj h)), hb4.block p hpl]
      have hc5 : w5.cell? ⟨cb, co + ki, none⟩ = some (.pointer (some ⟨qc, 0, none⟩)) := by
        rw [← hcell]
        simp only [World.cell?]
        rw [hg5.block cb (by have := hb4.size; omega) (fun h => hcq (Option.some.inj h)), hb4.block cb hcbl]
      have hm5 := hst5.reads.1
      simp only [List.length_append, List.length_singleton] at hm5
      have HST5 := Lib.hid hst5
      have HI5 := Lib.hid hI5
      clear hst5 hI5 hg5 hb4
      go_wp2_with fail
      go_roundw
      case rel =>
        obtain ⟨q1, q2, q3, q4⟩ := HNC.out
        exact ⟨e, qc, c, stk ++ [(p, ki + 1)], _, rfl, q1, by have := q2.lo; omega, q2.hi, q2.kids, q3, HST5.out, q4, by simp; omega, by rw [HLF.out, List.append_assoc], HI5.out⟩
      case measure => rw [hm5, hm32]; simp [intOf]; omega
end Go.Proofs.YtejhbaeeaejcaaaGreat
