/- The walk of walk.Range as an iterator. Conditions: those of each theorem. -/
import Derived.Test.YtejhbaeeaejcaaaGreatM9
import Derived.Test.YtejhbaeeaejcaaaGreatM8
namespace Go.Proofs.YtejhbaeeaejcaaaGreat
open Go Go.RowKit Go.Shelf
attribute [local go_sem] Oper.semAt_some

set_option maxRecDepth 100000 in
set_option maxHeartbeats 4000000 in
theorem less_any (x y : Nat) (w : World) :
    Calls Tryz.prog 87 #[keyV x, keyV y] w fun e w' => e = .returned (.bool (decide (x < y))) ∧ Below w.heap.size w w' := by
  have hx0 := heap_alloc_new w (.cells #[.int .u16 (kVol x : Int), .int .u32 (kBlk x : Int), .int .u64 (kSeq x : Int)] 27)
  have hsz0 := World.alloc_size w (.cells #[.int .u16 (kVol x : Int), .int .u32 (kBlk x : Int), .int .u64 (kSeq x : Int)] 27)
  have hx1 : ((w.alloc (.cells #[.int .u16 (kVol x : Int), .int .u32 (kBlk x : Int), .int .u64 (kSeq x : Int)] 27)).alloc (.cells #[.int .u16 (kVol y : Int), .int .u32 (kBlk y : Int), .int .u64 (kSeq y : Int)] 27)).heap[w.heap.size]? = _ := (Below.heap_alloc _ _ _ (by omega)).trans hx0
  have hy1 := heap_alloc_new (w.alloc (.cells #[.int .u16 (kVol x : Int), .int .u32 (kBlk x : Int), .int .u64 (kSeq x : Int)] 27)) (.cells #[.int .u16 (kVol y : Int), .int .u32 (kBlk y : Int), .int .u64 (kSeq y : Int)] 27)
  rw [hsz0] at hy1
  have hb : Below w.heap.size w ((w.alloc (.cells #[.int .u16 (kVol x : Int), .int .u32 (kBlk x : Int), .int .u64 (kSeq x : Int)] 27)).alloc (.cells #[.int .u16 (kVol y : Int), .int .u32 (kBlk y : Int), .int .u64 (kSeq y : Int)] 27)) := ((Below.refl _ _).alloc (Nat.le_refl _) _).alloc (by omega) _
  have z0 := cell_of_row _ _ 0 _ _ _ hx1
  have z1 := cell_of_row _ _ 1 _ _ _ hx1
  have z2 := cell_of_row _ _ 2 _ _ _ hx1
  have z3 := cell_of_row _ _ 0 _ _ _ hy1
  have z4 := cell_of_row _ _ 1 _ _ _ hy1
  have z5 := cell_of_row _ _ 2 _ _ _ hy1
  simp at z0 z1 z2 z3 z4 z5
  have HKC := Lib.hid (fun W => keyCompare_any x y W)
  have hlt := cmpN_lt x y
  have hdec : decide (cmpN x y < 0) = decide (x < y) := by rw [decide_eq_decide]; exact hlt
  have HDEC := Lib.hid hdec
  have HB := Lib.hid hb
  unfold keyV at HKC ⊢
  clear hx0 hx1 hy1 hsz0 hlt hdec hb
  generalize cmpN x y = c at *
  go_enter Tryz.func87, Tryz.ntmps87
  go_wp2_with fail
  refine (HKC.out _).mono ?_
  rintro e w2 ⟨rfl, hb2⟩
  go_wp2_with fail
  go_ret
  refine ⟨ret_bool HDEC.out, HB.out.trans (hb2.mono HB.out.size)⟩

set_option maxRecDepth 100000 in
set_option maxHeartbeats 4000000 in
theorem leavesCall_any (pt k : Nat) (w : World) :
    Calls Tryz.prog 85 #[ptrV pt, keyV k] w fun e w' => e = .returned (.func (.func 106) #[] #[.pointer (some ⟨w.heap.size, 0, none⟩), .pointer (some ⟨w.heap.size + 1, 0, none⟩)]) ∧ w' = (w.alloc (.cells #[ptrV pt] 47)).alloc (.cells #[.int .u16 (kVol k : Int), .int .u32 (kBlk k : Int), .int .u64 (kSeq k : Int)] 27) := by
  unfold ptrV keyV
  go_enter Tryz.func85, Tryz.ntmps85
  go_wp2_with fail
  go_ret
  exact ⟨by simp, rfl⟩
set_option maxRecDepth 100000 in
set_option maxHeartbeats 4000000 in
theorem rangeCall_any (pt k1 k2 : Nat) (w : World) :
    Calls Tryz.prog 59 #[ptrV pt, keyV k1, keyV k2] w fun e w' => e = .returned (.func (.func 84) #[] #[.pointer (some ⟨w.heap.size, 0, none⟩), .pointer (some ⟨w.heap.size + 1, 0, none⟩), .pointer (some ⟨w.heap.size + 1 + 1, 0, none⟩)]) ∧ w' = ((w.alloc (.cells #[ptrV pt] 47)).alloc (.cells #[.int .u16 (kVol k1 : Int), .int .u32 (kBlk k1 : Int), .int .u64 (kSeq k1 : Int)] 27)).alloc (.cells #[.int .u16 (kVol k2 : Int), .int .u32 (kBlk k2 : Int), .int .u64 (kSeq k2 : Int)] 27) := by
  unfold ptrV keyV
  go_enter Tryz.func59, Tryz.ntmps59
  go_wp2_with fail
  go_ret
  exact ⟨by simp, rfl⟩

/-- What lies between two keys. -/
def rangeL (l : List En) (a b : Nat) : List En := l.filter fun x => decide (a ≤ x.1) && decide (x.1 ≤ b)
theorem rangeL_app (l m : List En) (a b : Nat) : rangeL (l ++ m) a b = rangeL l a b ++ rangeL m a b := List.filter_append ..
theorem rangeL_low {l : List En} {a b : Nat} (h : ∀ x ∈ l, x.1 < a) : rangeL l a b = [] := List.filter_eq_nil_iff.2 fun x hx => by have := h x hx; simp; omega
theorem rangeL_le {l : List En} {a b : Nat} (h : ∀ x ∈ l, x.1 ≤ b) : rangeL l a b = l.filter fun x => decide (a ≤ x.1) := List.filter_congr fun x hx => by have := h x hx; simp [this]
theorem rangeL_high {e : En} {l : List En} {a b : Nat} (hr : Rise (e :: l)) (h : b < e.1) : rangeL (e :: l) a b = [] := List.filter_eq_nil_iff.2 fun x hx => by
  have : b < x.1 := by
    rcases List.mem_cons.1 hx with rfl | hx
    · exact h
    · have := (List.pairwise_cons.1 hr).1 x hx; omega
  simp; omega

theorem range_at {M P rest : List En} {e : En} {k1 k2 : Nat} (hM : M = P ++ e :: rest) (hP : ∀ x ∈ P, x.1 ≤ k2) :
    (k2 < e.1 → Rise M → rangeL M k1 k2 = P.filter (fun x => decide (k1 ≤ x.1))) ∧ (k1 ≤ e.1 → e.1 ≤ k2 → (P.filter (fun x => decide (k1 ≤ x.1))).length < (rangeL M k1 k2).length) := by
  refine ⟨fun h hr => ?_, fun h1 h2 => ?_⟩
  · rw [hM] at hr ⊢
    rw [rangeL_app, rangeL_le hP, rangeL_high hr.right h, List.append_nil]
  · rw [hM, rangeL_app, rangeL_le hP, List.length_append]
    have : rangeL (e :: rest) k1 k2 = e :: rangeL rest k1 k2 := by
      unfold rangeL
      rw [List.filter_cons, if_pos (by simp; omega)]
    rw [this]; simp
theorem roundIn_wide {m m' : Nat} {P : Program} {l l2 : Nat} {f : FuncId} {tmps : Array Value} {assign body : Code} {w : World} {R : Ending → World → Prop} (h : RoundIn Fence.wide m P l f tmps assign body w R) : RoundIn (Fence.wide.inRound l2) m' P l f tmps assign body w R :=
  ⟨h.1, fun c cs _ => h.2 c cs (room_wide _)⟩

/-- The boxes of a range: what it hands on to, the tree, the two keys. -/
structure BoxesR (l by' bt bf bo pt k1 k2 : Nat) (W : World) : Prop where
  y : W.heap[by']? = some (.cells #[.func (.yield l) #[] #[]] 147 (0, 0))
  t : W.heap[bt]? = some (.cells #[ptrV pt] 47 (0, 0))
  f : W.heap[bf]? = some (.cells #[.int .u16 (kVol k1 : Int), .int .u32 (kBlk k1 : Int), .int .u64 (kSeq k1 : Int)] 27 (0, 0))
  o : W.heap[bo]? = some (.cells #[.int .u16 (kVol k2 : Int), .int .u32 (kBlk k2 : Int), .int .u64 (kSeq k2 : Int)] 27 (0, 0))
def isBoxR (by' bt bf bo j : Nat) : Prop := j = by' ∨ j = bt ∨ j = bf ∨ j = bo
theorem BoxesR.same {l by' bt bf bo pt k1 k2 : Nat} {W W' : World} (h : BoxesR l by' bt bf bo pt k1 k2 W) (hs : ∀ j, isBoxR by' bt bf bo j → W'.heap[j]? = W.heap[j]?) : BoxesR l by' bt bf bo pt k1 k2 W' :=
  ⟨(hs _ (.inl rfl)).trans h.y, (hs _ (.inr (.inl rfl))).trans h.t, (hs _ (.inr (.inr (.inl rfl)))).trans h.f, (hs _ (.inr (.inr (.inr rfl)))).trans h.o⟩
theorem BoxesR.eq {l by' bt bf bo pt k1 k2 : Nat} {W W' : World} (h : BoxesR l by' bt bf bo pt k1 k2 W) (h' : BoxesR l by' bt bf bo pt k1 k2 W') : ∀ j, isBoxR by' bt bf bo j → W'.heap[j]? = W.heap[j]? := fun j hj => by
  rcases hj with rfl | rfl | rfl | rfl
  · exact h'.y.trans h.y.symm
  · exact h'.t.trans h.t.symm
  · exact h'.f.trans h.f.symm
  · exact h'.o.trans h.o.symm
/-- Between two leaves of a range: what has been handed on, and the boxes. -/
def RangeI {w : World} {S : Nat → Prop} (J : List En → (Nat → Prop) → World → Prop) (W0 : World) (D0 : Nat → Prop) (l by' bt bf bo pt k1 k2 : Nat) (pre : List (LeafX w S)) (D : Nat → Prop) (W : World) : Prop :=
  ∃ (preO : List En) (Do : Nat → Prop), (∀ j, D j ↔ Do j ∨ isBoxR by' bt bf bo j) ∧ (∀ j, isBoxR by' bt bf bo j → ¬ Do j) ∧ J preO Do W ∧ Grew D0 W0 Do W ∧ preO = ((pre.map (·.1.2)).flatMap rowT).filter (fun x => decide (k1 ≤ x.1)) ∧ (∀ x ∈ (pre.map (·.1.2)).flatMap rowT, x.1 ≤ k2) ∧ BoxesR l by' bt bf bo pt k1 k2 W
/-- A range that is left. -/
def RangeX (J Jx : List En → (Nat → Prop) → World → Prop) (W0 : World) (D0 : Nat → Prop) (R : List En) (l by' bt bf bo pt k1 k2 : Nat) (D : Nat → Prop) (W : World) : Prop :=
  ∃ (preO : List En) (Do : Nat → Prop), (∀ j, D j ↔ Do j ∨ isBoxR by' bt bf bo j) ∧ ((J preO Do W ∧ preO = R) ∨ Jx preO Do W) ∧ Grew D0 W0 Do W ∧ BoxesR l by' bt bf bo pt k1 k2 W
/-- Between two entries of a leaf. -/
def RowR (J : List En → (Nat → Prop) → World → Prop) (W0 : World) (D0 : Nat → Prop) (l by' bt bf bo pt k1 k2 : Nat) (preO row : List En) (D : Nat → Prop) (Wr : World) (av : Option Addr) (i : Nat) (W : World) : Prop :=
  ∃ Do : Nat → Prop, J (preO ++ (row.take i).filter (fun x => decide (k1 ≤ x.1))) Do W ∧ Grew D0 W0 Do W ∧ Grew D Wr (fun j => Do j ∨ isBoxR by' bt bf bo j) W ∧ (∀ j, isBoxR by' bt bf bo j → ¬ Do j) ∧ Outs D Wr W ∧ BoxesR l by' bt bf bo pt k1 k2 W ∧ (∀ y ∈ row.take i, y.1 ≤ k2) ∧
    RowE encN 4 W av row.length row ∧ (∀ b o, av = some ⟨b, o, none⟩ → ¬ Do b ∧ Wr.heap.size ≤ b ∧ b < W.heap.size)
theorem RowR.below {J : List En → (Nat → Prop) → World → Prop} (hJ : Local J) {W0 : World} {D0 : Nat → Prop} {l by' bt bf bo pt k1 k2 : Nat} {preO row : List En} {D : Nat → Prop} {Wr : World} {av : Option Addr} {i : Nat} {W W' : World} (h : RowR J W0 D0 l by' bt bf bo pt k1 k2 preO row D Wr av i W) (hb : Below W.heap.size W W') : RowR J W0 D0 l by' bt bf bo pt k1 k2 preO row D Wr av i W' := by
  obtain ⟨Do, hj, hg, hgd, hnb, ho, hbx, hle, hrow, hav⟩ := h
  have hk := Kept.of_below (D := fun j => Do j ∨ isBoxR by' bt bf bo j) hb hgd.lt
  refine ⟨Do, hJ _ _ _ _ hj (hk.less (fun j hj => .inl hj)), ⟨hg.new, fun j hj => Nat.lt_of_lt_of_le (hg.lt j hj) hb.size⟩, ⟨hgd.new, fun j hj => Nat.lt_of_lt_of_le (hgd.lt j hj) hb.size⟩, hnb, ho.trans (Outs.of_below (D := fun _ => False) hb) (fun j hj => hj.elim), hbx.same (fun j hj => hk.block j (.inr hj)), hle, hrow.below hb (Nat.le_refl _), fun b o e => ⟨(hav b o e).1, (hav b o e).2.1, Nat.lt_of_lt_of_le (hav b o e).2.2 hb.size⟩⟩
theorem rangeI_local {w : World} {S : Nat → Prop} {J : List En → (Nat → Prop) → World → Prop} (hJ : Local J) (W0 : World) (D0 : Nat → Prop) (l by' bt bf bo pt k1 k2 : Nat) : Local (RangeI (w := w) (S := S) J W0 D0 l by' bt bf bo pt k1 k2) := fun pre D A B h hk => by
  obtain ⟨preO, Do, hD, hnb, hj, hg, h1, h2, h3⟩ := h
  exact ⟨preO, Do, hD, hnb, hJ _ _ _ _ hj (hk.less (fun j hj => (hD j).2 (.inl hj))), ⟨hg.new, fun j hj => Nat.lt_of_lt_of_le (hg.lt j hj) hk.size⟩, h1, h2, h3.same (fun j hj => hk.block j ((hD j).2 (.inr hj)))⟩
theorem rangeX_local {β : Type} {J Jx : List En → (Nat → Prop) → World → Prop} (hJ : Local J) (hJx : Local Jx) (W0 : World) (D0 : Nat → Prop) (R : List En) (l by' bt bf bo pt k1 k2 : Nat) (pp : Prop) : Local (fun (_ : β) D W => pp ∧ RangeX J Jx W0 D0 R l by' bt bf bo pt k1 k2 D W) := fun pre D A B h hk => by
  obtain ⟨hc, preO, Do, hD, hj, hg, h3⟩ := h
  have hk2 : Kept Do A B := hk.less (fun j hj => (hD j).2 (.inl hj))
  exact ⟨hc, preO, Do, hD, hj.elim (fun h => .inl ⟨hJ _ _ _ _ h.1 hk2, h.2⟩) (fun h => .inr (hJx _ _ _ _ h hk2)), ⟨hg.new, fun j hj => Nat.lt_of_lt_of_le (hg.lt j hj) hk.size⟩, h3.same (fun j hj => hk.block j ((hD j).2 (.inr hj)))⟩

set_option maxRecDepth 100000 in
set_option maxHeartbeats 8000000 in
theorem range_of {S : Nat → Prop} {w : World} {pt nn bt bf bo : Nat} {root : Option Nat} (n : Nat) (hn : 3 ≤ n) (hat : TreeAt w pt root nn) (hS : ∀ j, S j → j < w.heap.size) (k1 k2 : Nat)
    (hbt : w.heap[bt]? = some (.cells #[ptrV pt] 47 (0, 0))) (hbf : w.heap[bf]? = some (.cells #[.int .u16 (kVol k1 : Int), .int .u32 (kBlk k1 : Int), .int .u64 (kSeq k1 : Int)] 27 (0, 0))) (hbo : w.heap[bo]? = some (.cells #[.int .u16 (kVol k2 : Int), .int .u32 (kBlk k2 : Int), .int .u64 (kSeq k2 : Int)] 27 (0, 0)))
    (hbx : ∀ j, (j = bt ∨ j = bf ∨ j = bo) → ¬ S j ∧ j ≠ pt) (LL : List (Tr 0)) (fl aa : List En) (haa : fl = aa ++ LL.flatMap rowT) (haalt : ∀ x ∈ aa, x.1 < k1) (hriseM : Rise (LL.flatMap rowT))
    (hseqL : ∀ (w2 : World) (bt2 bk2 : Nat), Kept (fun j => S j ∨ j = pt) w w2 → w2.heap[bt2]? = some (.cells #[ptrV pt] 47 (0, 0)) → w2.heap[bk2]? = some (.cells #[.int .u16 (kVol k1 : Int), .int .u32 (kBlk k1 : Int), .int .u64 (kSeq k1 : Int)] 27 (0, 0)) →
      SeqSep Fence.wide (n - 1) Tryz.prog 106 #[ptrV bt2, ptrV bk2] (fun x : LeafX w2 S => #[ptrV x.1.1]) (fun ys => ys.map (·.1.2) = LL) (fun pre => ∃ r, LL = pre.map (·.1.2) ++ r) (fun j => S j ∨ j = bt2 ∨ j = bk2 ∨ j = pt) LL.length w2) :
    SeqSep Fence.wide n Tryz.prog 84 #[ptrV bt, ptrV bf, ptrV bo] (fun x : En => #[entV x]) (fun ys => ys = rangeL fl k1 k2) (fun _ => True) (fun j => S j ∨ j = bt ∨ j = bf ∨ j = bo ∨ j = pt) (rangeL fl k1 k2).length w := by
  intro l J Jx D0 W hX hJ hJx hD0 hDX hY h0
  have hbtl := (Array.getElem?_eq_some_iff.1 hbt).1
  have hbfl := (Array.getElem?_eq_some_iff.1 hbf).1
  have hbol := (Array.getElem?_eq_some_iff.1 hbo).1
  have hptl : pt < w.heap.size := (Array.getElem?_eq_some_iff.1 hat).1
  have hXs := hX.size
  have hb1 : Below W.heap.size W (W.alloc (.cells #[.func (.yield l) #[] #[]] 147)) := (Below.refl _ _).alloc (Nat.le_refl _) _
  have hsz1 := World.alloc_size W (.cells #[.func (.yield l) #[] #[]] 147)
  have hby := heap_alloc_new W (.cells #[.func (.yield l) #[] #[]] 147)
  have hbt1 := (hb1.block bt (by omega)).trans ((hX.block bt (.inr (.inl rfl))).trans hbt)
  have hbf1 := (hb1.block bf (by omega)).trans ((hX.block bf (.inr (.inr (.inl rfl)))).trans hbf)
  have hbo1 := (hb1.block bo (by omega)).trans ((hX.block bo (.inr (.inr (.inr (.inl rfl))))).trans hbo)
  have c0 := cell_of_row _ _ 0 _ _ _ hbt1
  have c1 := cell_of_row _ _ 0 _ _ _ hbf1
  have c2 := cell_of_row _ _ 1 _ _ _ hbf1
  have c3 := cell_of_row _ _ 2 _ _ _ hbf1
  unfold ptrV at c0
  simp at c0 c1 c2 c3
  have HLC := Lib.hid (leavesCall_any pt k1 (W.alloc (.cells #[.func (.yield l) #[] #[]] 147)))
  have hbx1 : BoxesR l W.heap.size bt bf bo pt k1 k2 (W.alloc (.cells #[.func (.yield l) #[] #[]] 147)) := ⟨hby, hbt1, hbf1, hbo1⟩
  have HX := Lib.hid hX
  have HY := Lib.hid hY
  have HAT := Lib.hid hat
  have H0 := Lib.hid h0
  have HB1 := Lib.hid hb1
  have HBX1 := Lib.hid hbx1
  unfold ptrV keyV at HLC
  unfold ptrV
  clear hX hY hbt hbf hbo hat h0 hby hbt1 hbf1 hbo1 hb1 hbx1
  refine callsIn_of_wp_marks Tryz.func84 rfl trivial ?_ rfl
  refine wpIn_wide.2 ?_
  simp only [Tryz.ntmps84, List.size_toArray, List.length_cons, List.length_nil, Nat.reduceAdd, Nat.reduceSub, Array.replicate_succ, Array.replicate_zero, List.push_toArray, List.append_toArray, List.nil_append, List.cons_append]
  go_wp2_with fail
  refine HLC.out.mono ?_
  rintro r w2 ⟨rfl, rfl⟩
  have hsz2 := World.alloc_size (W.alloc (.cells #[.func (.yield l) #[] #[]] 147)) (.cells #[.pointer (some ⟨pt, 0, none⟩)] 47)
  have hsz3 := World.alloc_size ((W.alloc (.cells #[.func (.yield l) #[] #[]] 147)).alloc (.cells #[.pointer (some ⟨pt, 0, none⟩)] 47)) (.cells #[.int .u16 (kVol k1 : Int), .int .u32 (kBlk k1 : Int), .int .u64 (kSeq k1 : Int)] 27)
  have hbA : Below W.heap.size W (((W.alloc (.cells #[.func (.yield l) #[] #[]] 147)).alloc (.cells #[.pointer (some ⟨pt, 0, none⟩)] 47)).alloc (.cells #[.int .u16 (kVol k1 : Int), .int .u32 (kBlk k1 : Int), .int .u64 (kSeq k1 : Int)] 27)) := (HB1.out.alloc (by omega) _).alloc (by omega) _
  have hbt2 : (((W.alloc (.cells #[.func (.yield l) #[] #[]] 147)).alloc (.cells #[.pointer (some ⟨pt, 0, none⟩)] 47)).alloc (.cells #[.int .u16 (kVol k1 : Int), .int .u32 (kBlk k1 : Int), .int .u64 (kSeq k1 : Int)] 27)).heap[W.heap.size + 1]? = some (.cells #[ptrV pt] 47 (0, 0)) := by
    rw [Below.heap_alloc _ _ _ (by omega)]
    have := heap_alloc_new (W.alloc (.cells #[.func (.yield l) #[] #[]] 147)) (.cells #[.pointer (some ⟨pt, 0, none⟩)] 47)
    rw [hsz1] at this
    exact this
  have hbk2 : (((W.alloc (.cells #[.func (.yield l) #[] #[]] 147)).alloc (.cells #[.pointer (some ⟨pt, 0, none⟩)] 47)).alloc (.cells #[.int .u16 (kVol k1 : Int), .int .u32 (kBlk k1 : Int), .int .u64 (kSeq k1 : Int)] 27)).heap[W.heap.size + 1 + 1]? = some (.cells #[.int .u16 (kVol k1 : Int), .int .u32 (kBlk k1 : Int), .int .u64 (kSeq k1 : Int)] 27 (0, 0)) := by
    have := heap_alloc_new ((W.alloc (.cells #[.func (.yield l) #[] #[]] 147)).alloc (.cells #[.pointer (some ⟨pt, 0, none⟩)] 47)) (.cells #[.int .u16 (kVol k1 : Int), .int .u32 (kBlk k1 : Int), .int .u64 (kSeq k1 : Int)] 27)
    rw [hsz2, hsz1] at this
    exact this
  have hbxA : BoxesR l W.heap.size bt bf bo pt k1 k2 (((W.alloc (.cells #[.func (.yield l) #[] #[]] 147)).alloc (.cells #[.pointer (some ⟨pt, 0, none⟩)] 47)).alloc (.cells #[.int .u16 (kVol k1 : Int), .int .u32 (kBlk k1 : Int), .int .u64 (kSeq k1 : Int)] 27)) := HBX1.out.same (fun j hj => by
    have : j < W.heap.size + 1 := by rcases hj with h | h | h | h <;> omega
    rw [Below.heap_alloc _ _ _ (by omega), Below.heap_alloc _ _ _ (by omega)])
  have hszA : (((W.alloc (.cells #[.func (.yield l) #[] #[]] 147)).alloc (.cells #[.pointer (some ⟨pt, 0, none⟩)] 47)).alloc (.cells #[.int .u16 (kVol k1 : Int), .int .u32 (kBlk k1 : Int), .int .u64 (kSeq k1 : Int)] 27)).heap.size = W.heap.size + 1 + 1 + 1 := by omega
  have HBT2 := Lib.hid hbt2
  have HBK2 := Lib.hid hbk2
  have HBXA := Lib.hid hbxA
  have HBA := Lib.hid hbA
  clear hbt2 hbk2 hbxA hbA c0 c1 c2 c3 HLC hsz2 hsz3
  go_wp2_with fail
  generalize ((W.alloc (.cells #[.func (.yield l) #[] #[]] 147)).alloc (.cells #[.pointer (some ⟨pt, 0, none⟩)] 47)).alloc (.cells #[.int .u16 (kVol k1 : Int), .int .u32 (kBlk k1 : Int), .int .u64 (kSeq k1 : Int)] 27) = w2 at *
  have hSX : Kept (fun j => S j ∨ j = bt ∨ j = bf ∨ j = bo ∨ j = pt) w w2 := HX.out.trans (Kept.of_below HBA.out (fun j hj => by
    rcases hj with h | h | h | h | h
    · have := hS j h; omega
    · omega
    · omega
    · omega
    · omega))
  have hS2 : ∀ j, S j → j < w2.heap.size := fun j hj => by have := hS j hj; omega
  have hD2lt : ∀ j, (D0 j ∨ isBoxR W.heap.size bt bf bo j) → j < w2.heap.size := fun j hj => by
    rcases hj with h | h | h | h | h
    · have := hD0 j h; omega
    · omega
    · omega
    · omega
    · omega
  have hnb0 : ∀ j, isBoxR W.heap.size bt bf bo j → ¬ D0 j := fun j hj h => by
    rcases hj with rfl | rfl | rfl | rfl
    · have := hD0 _ h; omega
    · exact hDX _ h (.inr (.inl rfl))
    · exact hDX _ h (.inr (.inr (.inl rfl)))
    · exact hDX _ h (.inr (.inr (.inr (.inl rfl))))
  have hRM : rangeL fl k1 k2 = rangeL (LL.flatMap rowT) k1 k2 := by rw [haa, rangeL_app, rangeL_low haalt, List.nil_append]
  have hOUT : ∀ (D : Nat → Prop) (Wr : World) (Dd : Nat), w2.heap.size ≤ Dd → Outs (fun j => D0 j ∨ isBoxR W.heap.size bt bf bo j) w2 Wr → BoxesR l W.heap.size bt bf bo pt k1 k2 Wr → Outs D0 W (Wr.putObj Dd (.deferred none)) := fun D Wr Dd hDd ho hb9 => by
    have h1 : Outs D0 W Wr := ⟨ho.os.trans HBA.out.os, ho.tape.trans HBA.out.tape, ho.output.trans HBA.out.output, Nat.le_trans HBA.out.size ho.size, fun j hj hn => by
      by_cases hjb : isBoxR W.heap.size bt bf bo j
      · exact (HBXA.out.eq hb9 j hjb).trans (HBA.out.block j hj)
      · exact (ho.block j (by omega) (fun h => h.elim hn hjb)).trans (HBA.out.block j hj)⟩
    exact h1.trans (outs_putObj (fun j => j = Dd) Wr Dd _ rfl) (fun j hj => .inr (by omega))
  refine (wpIn_wide (n := n)).1 (wpIn_rangeFunc_sep (n := n) (F := Fence.wide) rfl (by omega) (gf := 106) (lb := #[.pointer (some ⟨W.heap.size + 1, 0, none⟩), .pointer (some ⟨W.heap.size + 1 + 1, 0, none⟩)]) rfl trivial (enters_of Tryz.func106 (by kernel_rfl) rfl)
    (hseqL w2 (W.heap.size + 1) (W.heap.size + 1 + 1) (hSX.less (fun j hj => hj.elim .inl (fun h => .inr (.inr (.inr (.inr h)))))) HBT2.out HBK2.out) (Kept.refl _ _) (fun j hj => by
      rcases hj with h | h | h | h
      · exact hS2 j h
      · omega
      · omega
      · omega) (fun _ => rfl)
    (RangeI J W D0 l W.heap.size bt bf bo pt k1 k2) (fun c _ D W' => c = .ret ∧ RangeX J Jx W D0 (rangeL (fl) k1 k2) l W.heap.size bt bf bo pt k1 k2 D W')
    (fun pre x a' D W' => RangeI J W D0 l W.heap.size bt bf bo pt k1 k2 pre D W' ∧ a' = { tmps := #[.func (.yield l) #[] #[], .pointer (some ⟨bt, 0, none⟩), .pointer (some ⟨bf, 0, none⟩), .pointer (some ⟨bo, 0, none⟩), .pointer (some ⟨W.heap.size, 0, none⟩), .pointer (some ⟨x.1.1, 0, none⟩), undef, undef, .pointer (some ⟨pt, 0, none⟩), .agg #[.int .u16 (kVol k1 : Int), .int .u32 (kBlk k1 : Int), .int .u64 (kSeq k1 : Int)], .func (.func 106) #[] #[.pointer (some ⟨W.heap.size + 1, 0, none⟩), .pointer (some ⟨W.heap.size + 1 + 1, 0, none⟩)], .pointer (some ⟨x.1.1, 0, none⟩), undef, undef, undef, undef, undef, undef, undef, undef, undef, undef, undef, undef, undef, undef, undef, undef, undef, undef, undef, undef, undef, undef, undef], defers := [] })
    (rangeI_local hJ W D0 _ _ _ _ _ _ _ _) (fun c => rangeX_local hJ hJx W D0 _ _ _ _ _ _ _ _ _ _) (fun pre x a' _ D A B h hk => ⟨rangeI_local hJ W D0 _ _ _ _ _ _ _ _ pre D A B h.1 hk, h.2⟩)
    (fun j => D0 j ∨ isBoxR W.heap.size bt bf bo j) hD2lt (fun j hj hx => ?dx) ⟨[], D0, fun j => Iff.rfl, hnb0, hJ _ _ _ _ H0.out (Kept.of_below HBA.out hD0), ⟨fun j hj => .inl hj, fun j hj => hD2lt j (.inl hj)⟩, rfl, fun x hx => by simp at hx, HBXA.out⟩
    ?assign ?body ?done ?stop)
  case dx =>
    rcases hj with h | h
    · rcases hx with h2 | h2 | h2 | h2
      · exact hDX j h (.inl h2)
      · have := hD0 j h; omega
      · have := hD0 j h; omega
      · exact hDX j h (.inr (.inr (.inr (.inr h2))))
    · have hjS : ¬ S j ∧ j ≠ pt ∧ j < W.heap.size + 1 := by
        rcases h with h | h | h | h
        · subst h
          exact ⟨fun h2 => by have := hS _ h2; omega, by omega, by omega⟩
        · obtain ⟨q1, q2⟩ := hbx j (.inl h); exact ⟨q1, q2, by omega⟩
        · obtain ⟨q1, q2⟩ := hbx j (.inr (.inl h)); exact ⟨q1, q2, by omega⟩
        · obtain ⟨q1, q2⟩ := hbx j (.inr (.inr h)); exact ⟨q1, q2, by omega⟩
      rcases hx with h2 | h2 | h2 | h2
      · exact hjS.1 h2
      · omega
      · omega
      · exact hjS.2.1 h2
  case assign =>
    intro l2 pre x D Wr K hI hlt _ hK
    gi_wp2
    exact hK _ D Wr (Grew.refl hlt (Nat.le_refl _)) (Outs.refl _ _) ⟨hI, rfl⟩
  case body =>
    rintro l2 pre x a' D Wr hl2 ⟨r0, hr0⟩ hnl hDlt hDX2 hkX ⟨hRI, rfl⟩ hlen ⟨rr, hpref⟩
    obtain ⟨preO, Do, hDi, hnb, hj, hgo, hpo, hle, hbx9⟩ := hRI
    have hN : NodeW Wr S x.1.1 x.1.2 := x.2.1.same (fun j hj => hkX.block j (.inl hj))
    have hSr : ∀ j, S j → j < Wr.heap.size := fun j hj => Nat.lt_of_lt_of_le (hS2 j hj) hkX.size
    have hx6 : lenT x.1.2 ≤ 6 := x.2.2.2
    have HE := Lib.hid (entries_any hN hSr (by omega))
    have hrl : (rowT x.1.2).length ≤ 6 := hx6
    have hMr : (LL).flatMap rowT = (pre.map (·.1.2)).flatMap rowT ++ (rowT x.1.2 ++ rr.flatMap rowT) := by rw [hpref]; simp
    have HRI := Lib.hid (And.intro hDi (And.intro hnb (And.intro hj (And.intro hgo (And.intro hpo (And.intro hle hbx9))))))
    have HMR := Lib.hid hMr
    have HKX := Lib.hid hkX
    have HDX2 := Lib.hid hDX2
    unfold ptrV at HE
    clear hDi hnb hj hgo hpo hle hbx9 hN hMr hpref hlen hx6
    gi_wp2
    refine ⟨trivial, fun _ => by omega, (CallsIn.inRound l2 (callsIn_wide.2 HE.out)).mono ?_⟩
    rintro e w3 ⟨v, rfl, hv, hb3⟩
    obtain ⟨av, cv, rfl, hrow, -, hav0⟩ := hv.row encN_len
    have hR0 : RowR J W D0 l W.heap.size bt bf bo pt k1 k2 preO (rowT x.1.2) D Wr av 0 w3 := by
      obtain ⟨hDi, hnb, hj, hgo, hpo, hle, hbx9⟩ := HRI.out
      have hk := Kept.of_below (D := D) hb3 hDlt
      refine ⟨Do, by rw [List.take_zero, List.filter_nil, List.append_nil]; exact hJ _ _ _ _ hj (hk.less (fun j hj => (hDi j).2 (.inl hj))), ⟨hgo.new, fun j hj => Nat.lt_of_lt_of_le (hgo.lt j hj) hb3.size⟩, ⟨fun j hj => .inl ((hDi j).2 hj), fun j hj => Nat.lt_of_lt_of_le (hDlt j ((hDi j).2 hj)) hb3.size⟩, hnb, Outs.of_below hb3, hbx9.same (fun j hj => hk.block j ((hDi j).2 (.inr hj))), by simp, hrow, fun b o e => ?_⟩
      obtain ⟨q1, q2⟩ := hav0 b o e
      refine ⟨fun h => by have := hDlt b ((hDi b).2 (.inl h)); omega, q1, ?_⟩
      subst e; subst q2
      exact (hv.lt b rfl).2
    have HR0 := Lib.hid hR0
    clear hR0 hrow hav0 hv hb3 HE
    generalize hrw : rowT x.1.2 = row at *
    gi_wp2
    gi_loopw [15] (fun u15 wz => ∃ i : Nat, i ≤ row.length ∧ u15 = .int .i64 i ∧ RowR J W D0 l W.heap.size bt bf bo pt k1 k2 preO row D Wr av i wz) (fun u15 _ => row.length - (intOf u15).toNat)
    case atStart => exact ⟨0, by omega, rfl, HR0.out⟩
    case round =>
      obtain ⟨i, hi, rfl, hRR⟩ := hrel
      by_cases hlt : i < row.length
      · have hlt1 : (i : Int) < (row.length : Int) := by omega
        obtain ⟨e, he⟩ : ∃ e, row[i]? = some e := ⟨_, List.getElem?_eq_getElem hlt⟩
        have hb4 : Below wr.heap.size wr (wr.alloc (.cells #[.int .u16 (kVol e.1 : Int), .int .u32 (kBlk e.1 : Int), .int .u64 (kSeq e.1 : Int), .int .u32 (e.2 : Int)] 60)) := (Below.refl _ _).alloc (Nat.le_refl _) _
        have hRR4 := hRR.below hJ hb4
        have hxb := heap_alloc_new wr (.cells #[.int .u16 (kVol e.1 : Int), .int .u32 (kBlk e.1 : Int), .int .u64 (kSeq e.1 : Int), .int .u32 (e.2 : Int)] 60)
        have hsz4 := World.alloc_size wr (.cells #[.int .u16 (kVol e.1 : Int), .int .u32 (kBlk e.1 : Int), .int .u64 (kSeq e.1 : Int), .int .u32 (e.2 : Int)] 60)
        obtain ⟨Do1, -, -, -, -, -, -, -, hrow1, -⟩ := hRR
        obtain ⟨b5, o5, rfl, hc5⟩ := hrow1.2 i e he
        obtain ⟨y0, y1, y2, y3⟩ : wr.cell? ⟨b5, o5 + i * 4, none⟩ = some (.int .u16 (kVol e.1 : Int)) ∧ wr.cell? ⟨b5, o5 + i * 4 + 1, none⟩ = some (.int .u32 (kBlk e.1 : Int)) ∧ wr.cell? ⟨b5, o5 + i * 4 + 2, none⟩ = some (.int .u64 (kSeq e.1 : Int)) ∧ wr.cell? ⟨b5, o5 + i * 4 + 3, none⟩ = some (.int .u32 (e.2 : Int)) := ⟨by simpa using hc5 0 _ rfl, hc5 1 _ rfl, hc5 2 _ rfl, hc5 3 _ rfl⟩
        have hE4 : ∀ W', Below (wr.alloc (.cells #[.int .u16 (kVol e.1 : Int), .int .u32 (kBlk e.1 : Int), .int .u64 (kSeq e.1 : Int), .int .u32 (e.2 : Int)] 60)).heap.size (wr.alloc (.cells #[.int .u16 (kVol e.1 : Int), .int .u32 (kBlk e.1 : Int), .int .u64 (kSeq e.1 : Int), .int .u32 (e.2 : Int)] 60)) W' → W'.cell? ⟨wr.heap.size, 0, none⟩ = some (.int .u16 (kVol e.1 : Int)) ∧ W'.cell? ⟨wr.heap.size, 1, none⟩ = some (.int .u32 (kBlk e.1 : Int)) ∧ W'.cell? ⟨wr.heap.size, 2, none⟩ = some (.int .u64 (kSeq e.1 : Int)) ∧ W'.cell? ⟨wr.heap.size, 3, none⟩ = some (.int .u32 (e.2 : Int)) := fun W' hW => by
          have h := (hW.block wr.heap.size (by omega)).trans hxb
          exact ⟨cell_of_row W' _ 0 _ _ _ h, cell_of_row W' _ 1 _ _ _ h, cell_of_row W' _ 2 _ _ _ h, cell_of_row W' _ 3 _ _ _ h⟩
        obtain ⟨v0, v1, v2, v3⟩ := hE4 _ (Below.refl _ _)
        have hbox4 : BoxesR l W.heap.size bt bf bo pt k1 k2 (wr.alloc (.cells #[.int .u16 (kVol e.1 : Int), .int .u32 (kBlk e.1 : Int), .int .u64 (kSeq e.1 : Int), .int .u32 (e.2 : Int)] 60)) := by obtain ⟨_, -, -, -, -, -, h, -, -, -⟩ := hRR4; exact h
        have q0 := cell_of_row _ _ 0 _ _ _ hbox4.o
        have q1 := cell_of_row _ _ 1 _ _ _ hbox4.o
        have q2 := cell_of_row _ _ 2 _ _ _ hbox4.o
        simp at q0 q1 q2
        have hMe : (LL).flatMap rowT = ((pre.map (·.1.2)).flatMap rowT ++ row.take i) ++ e :: (row.drop (i + 1) ++ rr.flatMap rowT) := by
          rw [HMR.out, List.append_assoc]
          congr 1
          conv => lhs; rw [← List.take_append_drop i row]
          obtain ⟨hil, hel⟩ := List.getElem?_eq_some_iff.1 he
          rw [List.drop_eq_getElem_cons hil, hel, List.append_assoc]
          rfl
        have HME := Lib.hid hMe
        have HR4 := Lib.hid hRR4
        have HE4 := Lib.hid hE4
        have HL1 := Lib.hid (less_any k2 e.1 (wr.alloc (.cells #[.int .u16 (kVol e.1 : Int), .int .u32 (kBlk e.1 : Int), .int .u64 (kSeq e.1 : Int), .int .u32 (e.2 : Int)] 60)))
        have HEI := Lib.hid he
        unfold keyV at HL1
        clear hrow1 hc5 hxb hRR4 hE4 hbox4 hMe hb4 he
        gi_wp2
        refine ⟨trivial, fun _ => by omega, (CallsIn.inRound l2 (callsIn_wide.2 HL1.out)).mono ?_⟩
        rintro r w5 ⟨rfl, hb5⟩
        generalize hw4 : wr.alloc (.cells #[.int .u16 (kVol e.1 : Int), .int .u32 (kBlk e.1 : Int), .int .u64 (kSeq e.1 : Int), .int .u32 (e.2 : Int)] 60) = w4 at *
        clear hw4
        have hRR5 := HR4.out.below hJ hb5
        obtain ⟨Do5, hj5, hg5, hgd5, hnb5, ho5, hbx5, hle5, hrow5, hav5⟩ := hRR5
        have hpf : preO ++ (row.take i).filter (fun x => decide (k1 ≤ x.1)) = ((pre.map (·.1.2)).flatMap rowT ++ row.take i).filter (fun x => decide (k1 ≤ x.1)) := by
          obtain ⟨-, -, -, -, hpo, -, -⟩ := HRI.out
          rw [List.filter_append, hpo]
        have hPle : ∀ y ∈ (pre.map (·.1.2)).flatMap rowT ++ row.take i, y.1 ≤ k2 := fun y hy => by
          obtain ⟨-, -, -, -, -, hle, -⟩ := HRI.out
          rcases List.mem_append.1 hy with h | h
          · exact hle y h
          · exact hle5 y h
        have hrat := range_at (k1 := k1) HME.out hPle
        by_cases hk : k2 < e.1
        · have hR9 : preO ++ (row.take i).filter (fun x => decide (k1 ≤ x.1)) = rangeL (fl) k1 k2 := by rw [hRM, hrat.1 hk hriseM, hpf]
          have HF := Lib.hid (And.intro hj5 (And.intro hg5 (And.intro hgd5 (And.intro ho5 (And.intro hbx5 hR9)))))
          rw [decide_eq_true hk]
          clear hj5 hg5 hgd5 hnb5 ho5 hbx5 hle5 hrow5 hav5 hpf hPle hrat hR9 q0 q1 q2 y0 y1 y2 y3 v0 v1 v2 v3
          gi_wp2
          exact ⟨_, HF.out.2.2.1, HF.out.2.2.2.1, rfl, _, Do5, fun j => Iff.rfl, .inl ⟨HF.out.1, HF.out.2.2.2.2.2⟩, HF.out.2.1, HF.out.2.2.2.2.1⟩
        · have hek : e.1 ≤ k2 := by omega
          obtain ⟨v50, v51, v52, v53⟩ := HE4.out w5 hb5
          have q50 := cell_of_row _ _ 0 _ _ _ hbx5.f
          have q51 := cell_of_row _ _ 1 _ _ _ hbx5.f
          have q52 := cell_of_row _ _ 2 _ _ _ hbx5.f
          simp at q50 q51 q52
          have HL2 := Lib.hid (less_any e.1 k1 w5)
          have hRR5 : RowR J W D0 l W.heap.size bt bf bo pt k1 k2 preO row D Wr (some ⟨b5, o5, none⟩) i w5 := ⟨Do5, hj5, hg5, hgd5, hnb5, ho5, hbx5, hle5, hrow5, hav5⟩
          have HR5 := Lib.hid hRR5
          have HRAT := Lib.hid hrat
          have HPF := Lib.hid hpf
          unfold keyV at HL2
          rw [decide_eq_false hk]
          clear hj5 hg5 hgd5 hnb5 ho5 hbx5 hle5 hrow5 hav5 hrat hpf hPle hRR5 q0 q1 q2 y0 y1 y2 y3 v0 v1 v2 v3
          gi_wp2
          refine ⟨trivial, fun _ => by omega, (CallsIn.inRound l2 (callsIn_wide.2 HL2.out)).mono ?_⟩
          rintro r w6 ⟨rfl, hb6⟩
          obtain ⟨Do6, hj6, hg6, hgd6, hnb6, ho6, hbx6, hle6, hrow6, hav6⟩ := HR5.out.below hJ hb6
          have hts : row.take (i + 1) = row.take i ++ [e] := by rw [List.take_add_one, HEI.out]; rfl
          have hle7 : ∀ y ∈ row.take (i + 1), y.1 ≤ k2 := fun y hy => by
            rw [hts] at hy
            rcases List.mem_append.1 hy with h | h
            · exact hle6 y h
            · obtain rfl := List.mem_singleton.1 h; exact hek
          by_cases hk1 : e.1 < k1
          · have hft : (row.take (i + 1)).filter (fun x => decide (k1 ≤ x.1)) = (row.take i).filter (fun x => decide (k1 ≤ x.1)) := by
              rw [hts, List.filter_append, List.filter_cons, if_neg (by simp; omega)]; simp
            have hRR7 : RowR J W D0 l W.heap.size bt bf bo pt k1 k2 preO row D Wr (some ⟨b5, o5, none⟩) (i + 1) w6 := ⟨Do6, by rw [hft]; exact hj6, hg6, hgd6, hnb6, ho6, hbx6, hle7, hrow6, hav6⟩
            have HR7 := Lib.hid hRR7
            rw [decide_eq_true hk1]
            clear hj6 hg6 hgd6 hnb6 ho6 hbx6 hle6 hrow6 hav6 hts hle7 hft hRR7 q50 q51 q52 v50 v51 v52 v53
            gi_wp2
            refine ⟨(fun f h => by cases h), ?_⟩
            gi_wp2
            go_roundw
            case rel => exact ⟨i + 1, by omega, by go_num, HR7.out⟩
            case measure => simp [intOf]; omega
          · have hft : preO ++ (row.take (i + 1)).filter (fun x => decide (k1 ≤ x.1)) = (preO ++ (row.take i).filter (fun x => decide (k1 ≤ x.1))) ++ [e] := by
              rw [hts, List.filter_append, List.filter_cons, if_pos (by simp; omega), List.append_assoc]; rfl
            have hlen6 : (preO ++ (row.take i).filter (fun x => decide (k1 ≤ x.1))).length < (rangeL (fl) k1 k2).length := by rw [HPF.out, hRM]; exact HRAT.out.2 (by omega) hek
            have hSp6 : ∀ j, (S j ∨ j = pt) → w6.heap[j]? = w.heap[j]? := fun j hj => by
              have e1 : w6.heap[j]? = Wr.heap[j]? := ho6.block j (by
                rcases hj with h | h
                · exact hSr j h
                · have := HKX.out.size; omega) (fun h => HDX2.out j h (hj.elim .inl (fun h => .inr (.inr (.inr h)))))
              have e2 : Wr.heap[j]? = w2.heap[j]? := HKX.out.block j (hj.elim .inl (fun h => .inr (.inr (.inr h))))
              have e3 : w2.heap[j]? = w.heap[j]? := hSX.block j (hj.elim .inl (fun h => .inr (.inr (.inr (.inr h)))))
              exact e1.trans (e2.trans e3)
            have hKp : Kept (fun j => S j ∨ j = bt ∨ j = bf ∨ j = bo ∨ j = pt) w w6 := ⟨ho6.os.trans (HKX.out.os.trans hSX.os), ho6.tape.trans (HKX.out.tape.trans hSX.tape), ho6.output.trans (HKX.out.output.trans hSX.output), Nat.le_trans hSX.size (Nat.le_trans HKX.out.size ho6.size), fun j hj => by
              rcases hj with h | h | h | h | h
              · exact hSp6 j (.inl h)
              · exact (HBXA.out.eq hbx6 j (.inr (.inl h))).trans (hSX.block j (.inr (.inl h)))
              · exact (HBXA.out.eq hbx6 j (.inr (.inr (.inl h)))).trans (hSX.block j (.inr (.inr (.inl h))))
              · exact (HBXA.out.eq hbx6 j (.inr (.inr (.inr h)))).trans (hSX.block j (.inr (.inr (.inr (.inl h)))))
              · exact hSp6 j (.inr h)⟩
            obtain ⟨fn, tmps, assign, body, hy, hRd⟩ := HY.out _ e Do6 w6 hj6 hg6.lt hKp hlen6 trivial
            have qy := cell_of_row _ _ 0 _ _ _ hbx6.y
            simp at qy
            obtain ⟨v60, v61, v62, v63⟩ := HE4.out w6 (hb5.trans (hb6.mono hb5.size))
            have H6 := Lib.hid (And.intro hg6 (And.intro hgd6 (And.intro hnb6 (And.intro ho6 (And.intro hbx6 (And.intro hrow6 hav6))))))
            have HFT := Lib.hid hft
            have HLE7 := Lib.hid hle7
            unfold entV at hy
            rw [decide_eq_false hk1]
            clear hj6 hg6 hgd6 hnb6 ho6 hbx6 hle6 hrow6 hav6 hts hle7 hft q50 q51 q52 v50 v51 v52 v53 hlen6 hSp6 hKp
            gi_wp2
            refine ⟨fun _ => by omega, (roundIn_wide hRd).mono ?_⟩
            rintro r w7 ⟨D7, hg7, ho7, (⟨rfl, hj7⟩ | ⟨rfl, hj7⟩)⟩
            · obtain ⟨hg6, hgd6, hnb6, ho6, hbx6, hrow6, hav6⟩ := H6.out
              have hR7 : RowR J W D0 l W.heap.size bt bf bo pt k1 k2 preO row D Wr (some ⟨b5, o5, none⟩) (i + 1) w7 := by
                have hbl : ∀ j, isBoxR W.heap.size bt bf bo j → j < w6.heap.size := fun j hj => hgd6.lt j (.inr hj)
                have hws : W.heap.size ≤ w6.heap.size := by have := HKX.out.size; have := ho6.size; omega
                refine ⟨D7, by rw [HFT.out]; exact hj7, hg6.trans hg7 hws, ⟨fun j hj => ?_, fun j hj => hj.elim (hg7.lt j) (fun h => Nat.lt_of_lt_of_le (hbl j h) ho7.size)⟩, fun j hj h => (hg7.new j h).elim (hnb6 j hj) (fun h2 => by have := hbl j hj; omega), ho6.trans ho7 (fun j hj => hgd6.new j (.inl hj)), hbx6.same (fun j hj => ho7.block j (hbl j hj) (hnb6 j hj)), HLE7.out, ?_, fun b o e' => ?_⟩
                · rcases hj with h | h
                  · exact (hg7.new j h).elim (fun h2 => hgd6.new j (.inl h2)) (fun h2 => .inr (Nat.le_trans ho6.size h2))
                  · exact hgd6.new j (.inr h)
                · obtain ⟨a1, a2, a3⟩ := hav6 b5 o5 rfl
                  exact hrow6.block (ho7.block b5 a3 a1)
                · obtain ⟨a1, a2, a3⟩ := hav6 b o e'
                  exact ⟨fun h => (hg7.new b h).elim a1 (fun h2 => by omega), a2, Nat.lt_of_lt_of_le a3 ho7.size⟩
              have HR7 := Lib.hid hR7
              clear hR7 hg7 ho7 hj7 hg6 hgd6 hnb6 ho6 hbx6 hrow6 hav6 hy hRd
              gi_wp2
              go_roundw
              case rel => exact ⟨i + 1, by omega, by go_num, HR7.out⟩
              case measure => simp [intOf]; omega
            · obtain ⟨hg6, hgd6, hnb6, ho6, hbx6, hrow6, hav6⟩ := H6.out
              have hbl : ∀ j, isBoxR W.heap.size bt bf bo j → j < w6.heap.size := fun j hj => hgd6.lt j (.inr hj)
              have hws : W.heap.size ≤ w6.heap.size := by have := HKX.out.size; have := ho6.size; omega
              have hF1 : Grew D Wr (fun j => D7 j ∨ isBoxR W.heap.size bt bf bo j) w7 := ⟨fun j hj => by
                rcases hj with h | h
                · exact (hg7.new j h).elim (fun h2 => hgd6.new j (.inl h2)) (fun h2 => .inr (Nat.le_trans ho6.size h2))
                · exact hgd6.new j (.inr h), fun j hj => hj.elim (hg7.lt j) (fun h => Nat.lt_of_lt_of_le (hbl j h) ho7.size)⟩
              have hF2 : Outs D Wr w7 := ho6.trans ho7 (fun j hj => hgd6.new j (.inl hj))
              have hF3 : BoxesR l W.heap.size bt bf bo pt k1 k2 w7 := hbx6.same (fun j hj => ho7.block j (hbl j hj) (hnb6 j hj))
              have HF := Lib.hid (And.intro hF1 (And.intro hF2 (And.intro hF3 (And.intro hj7 (hg6.trans hg7 hws)))))
              clear hF1 hF2 hF3 hg7 ho7 hj7 hg6 hgd6 hnb6 ho6 hbx6 hrow6 hav6 hy hRd hbl
              gi_wp2
              exact ⟨_, HF.out.1, HF.out.2.1, rfl, _, D7, fun j => Iff.rfl, .inr HF.out.2.2.2.1, HF.out.2.2.2.2, HF.out.2.2.1⟩
      · obtain rfl : i = row.length := by omega
        obtain ⟨Do9, hj9, hg9, hgd9, hnb9, ho9, hbx9, hle9, -, -⟩ := hRR
        rw [List.take_length] at hj9 hle9
        obtain ⟨-, -, -, -, hpo, hle0, -⟩ := HRI.out
        have hflat : ((pre ++ [x]).map (·.1.2)).flatMap rowT = (pre.map (·.1.2)).flatMap rowT ++ row := by
          rw [List.map_append, List.flatMap_append]; simp [hrw]
        have hRI : RangeI J W D0 l W.heap.size bt bf bo pt k1 k2 (pre ++ [x]) (fun j => Do9 j ∨ isBoxR W.heap.size bt bf bo j) wr :=
          ⟨_, Do9, fun j => Iff.rfl, hnb9, hj9, hg9, by rw [hflat, List.filter_append, hpo], fun y hy => by
            rw [hflat] at hy
            exact (List.mem_append.1 hy).elim (hle0 y) (hle9 y), hbx9⟩
        have HF := Lib.hid (And.intro hgd9 (And.intro ho9 hRI))
        clear hj9 hg9 hgd9 hnb9 ho9 hbx9 hle9 hpo hle0 hflat hRI
        gi_wp2
        exact ⟨_, HF.out.1, HF.out.2.1, HF.out.2.2⟩
  case done =>
    intro Dd xs D Wr hDd hSxs hI hg ho hnD hK
    obtain ⟨preO, Do, hDi, hnb, hj, hgo, hpo, hle, hbx9⟩ := hI
    have hpR : preO = rangeL (fl) k1 k2 := by rw [hRM, ← hSxs, rangeL_le hle, hpo]
    have hFin := hOUT D Wr Dd hDd ho hbx9
    have hkp : Kept Do Wr (Wr.putObj Dd (.deferred none)) := kept_putObj Wr Dd _ (fun h => hnD ((hDi _).2 (.inl h))) hgo.lt
    have HF := Lib.hid (And.intro (⟨hgo.new, fun j h => Nat.lt_of_lt_of_le (hgo.lt j h) hkp.size⟩ : Grew D0 W Do (Wr.putObj Dd (.deferred none))) (And.intro hFin (And.intro hpR (hJ _ _ _ _ hj hkp))))
    clear hj hgo hpo hle hbx9 hFin hkp hpR hDi hnb
    go_wp2_with fail
    refine ⟨by simp, .inl ⟨_, _, rfl, run_takeDeferred hK, ?_⟩⟩
    refine ⟨_, results_none rfl _ _ _, ⟨_, rfl⟩, Do, HF.out.1, HF.out.2.1, .inl ⟨preO, HF.out.2.2.1, HF.out.2.2.2⟩⟩
  case stop =>
    rintro Dd c pre D Wr hDd hSp ⟨rfl, preO, Do, hDi, hjj, hgo, hbx9⟩ hg ho hnD hK
    have hFin := hOUT D Wr Dd hDd ho hbx9
    have hkp : Kept Do Wr (Wr.putObj Dd (.deferred none)) := kept_putObj Wr Dd _ (fun h => hnD ((hDi _).2 (.inl h))) hgo.lt
    have hj2 : (∃ xs, xs = rangeL (fl) k1 k2 ∧ J xs Do (Wr.putObj Dd (.deferred none))) ∨ (∃ pre : List En, True ∧ Jx pre Do (Wr.putObj Dd (.deferred none))) := by
      rcases hjj with ⟨h1, h2⟩ | h1
      · exact .inl ⟨_, h2, hJ _ _ _ _ h1 hkp⟩
      · exact .inr ⟨_, trivial, hJx _ _ _ _ h1 hkp⟩
    have HF := Lib.hid (And.intro (⟨hgo.new, fun j h => Nat.lt_of_lt_of_le (hgo.lt j h) hkp.size⟩ : Grew D0 W Do (Wr.putObj Dd (.deferred none))) (And.intro hFin hj2))
    clear hjj hgo hbx9 hFin hkp hj2 hDi
    refine wpIn_wide.2 ?_
    go_wp2_with fail
    refine ⟨by simp, .inl ⟨_, _, rfl, run_takeDeferred hK, ?_⟩⟩
    exact ⟨_, results_none rfl _ _ _, ⟨_, rfl⟩, Do, HF.out.1, HF.out.2.1, HF.out.2.2⟩

theorem range_seq {S : Nat → Prop} {w : World} {pt d p0 nn bt bf bo : Nat} {t : Tr d} (n : Nat) (hn : 3 ≤ n) (hat : TreeAt w pt (some p0) nn) (ht : NodeW w S p0 t) (hR : RootT t) (hrise : Rise (flatT t)) (hd : d ≤ 15) (hS : ∀ j, S j → j < w.heap.size) (k1 k2 : Nat)
    (hbt : w.heap[bt]? = some (.cells #[ptrV pt] 47 (0, 0))) (hbf : w.heap[bf]? = some (.cells #[.int .u16 (kVol k1 : Int), .int .u32 (kBlk k1 : Int), .int .u64 (kSeq k1 : Int)] 27 (0, 0))) (hbo : w.heap[bo]? = some (.cells #[.int .u16 (kVol k2 : Int), .int .u32 (kBlk k2 : Int), .int .u64 (kSeq k2 : Int)] 27 (0, 0)))
    (hbx : ∀ j, (j = bt ∨ j = bf ∨ j = bo) → ¬ S j ∧ j ≠ pt) :
    SeqSep Fence.wide n Tryz.prog 84 #[ptrV bt, ptrV bf, ptrV bo] (fun x : En => #[entV x]) (fun ys => ys = rangeL (flatT t) k1 k2) (fun _ => True) (fun j => S j ∨ j = bt ∨ j = bf ∨ j = bo ∨ j = pt) (rangeL (flatT t) k1 k2).length w := by
  obtain ⟨aa, haa, haalt⟩ := leavesFrom_flat hR.lo hR.kids hrise k1
  have hriseM : Rise ((leavesFrom t k1).flatMap rowT) := by have := hrise; rw [haa] at this; exact this.right
  exact range_of n hn hat hS k1 k2 hbt hbf hbo hbx (leavesFrom t k1) (flatT t) aa haa haalt hriseM (fun w2 bt2 bk2 hk h1 h2 =>
    leaves_seq (n - 1) (by omega) ((hk.block pt (.inr rfl)).trans hat) (ht.same (fun j hj => hk.block j (.inl hj))) hR hrise hd (fun j hj => Nat.lt_of_lt_of_le (hS j hj) hk.size) k1 h1 h2)

set_option maxRecDepth 100000 in
set_option maxHeartbeats 8000000 in
theorem leaves_nil {S : Nat → Prop} {w : World} {pt nn bt bk : Nat} (n : Nat) (hat : TreeAt w pt none nn) (hS : ∀ j, S j → j < w.heap.size) (k : Nat)
    (hbt : w.heap[bt]? = some (.cells #[ptrV pt] 47 (0, 0))) (hbk : w.heap[bk]? = some (.cells #[.int .u16 (kVol k : Int), .int .u32 (kBlk k : Int), .int .u64 (kSeq k : Int)] 27 (0, 0))) :
    SeqSep Fence.wide n Tryz.prog 106 #[ptrV bt, ptrV bk] (fun x : LeafX w S => #[ptrV x.1.1]) (fun ys => ys.map (·.1.2) = []) (fun pre => ∃ r, ([] : List (Tr 0)) = pre.map (·.1.2) ++ r) (fun j => S j ∨ j = bt ∨ j = bk ∨ j = pt) ([] : List (Tr 0)).length w := by
  intro l J Jx D0 W hX hJ hJx hD0 hDX hY h0
  have hbtl := (Array.getElem?_eq_some_iff.1 hbt).1
  have hptl : pt < w.heap.size := (Array.getElem?_eq_some_iff.1 hat).1
  have hXs := hX.size
  have HN := Lib.hid (stackNew_anyV W)
  have HX := Lib.hid hX
  have HBT := Lib.hid hbt
  have HAT := Lib.hid hat
  have H0 := Lib.hid h0
  unfold ptrV at HN ⊢
  clear hX hY h0 hbt hbk hat
  refine callsIn_of_wp Tryz.func106 rfl trivial ?_ rfl
  refine wpIn_wide.2 ?_
  simp only [Tryz.ntmps106, List.size_toArray, List.length_cons, List.length_nil, Nat.reduceAdd, Nat.reduceSub, Array.replicate_succ, Array.replicate_zero, List.push_toArray, List.append_toArray, List.nil_append, List.cons_append]
  go_wp2_with fail
  refine HN.out.mono ?_
  rintro r w2 ⟨rfl, -, hb2⟩
  have hbt2 : w2.cell? ⟨bt, 0, none⟩ = some (.pointer (some ⟨pt, 0, none⟩)) := cell_of_row w2 bt 0 _ _ _ ((hb2.block bt (by omega)).trans ((HX.out.block bt (.inr (.inl rfl))).trans HBT.out))
  have HRT := Lib.hid (root_any (show TreeAt w2 pt none nn from (hb2.block pt (by omega)).trans ((HX.out.block pt (.inr (.inr (.inr rfl)))).trans HAT.out)))
  have HB2 := Lib.hid hb2
  unfold ptrV at HRT
  clear hb2
  go_wp2_with fail
  refine HRT.out.mono ?_
  rintro r w3 ⟨rfl, rfl⟩
  simp only [Option.map_none]
  go_wp2_with fail
  refine wp_loop_rounds 1 ?_
  rw [rounds_succ]
  go_wp2_with fail
  refine wp_loop_rounds 1 ?_
  rw [rounds_succ]
  go_wp2_with fail
  go_end0
  exact ⟨⟨_, rfl⟩, D0, ⟨fun j hj => .inl hj, fun j hj => Nat.lt_of_lt_of_le (hD0 j hj) HB2.out.size⟩, Outs.of_below HB2.out, .inl ⟨[], rfl, hJ _ _ _ _ H0.out (Kept.of_below HB2.out hD0)⟩⟩
theorem range_nil {S : Nat → Prop} {w : World} {pt nn bt bf bo : Nat} (n : Nat) (hn : 3 ≤ n) (hat : TreeAt w pt none nn) (hS : ∀ j, S j → j < w.heap.size) (k1 k2 : Nat)
    (hbt : w.heap[bt]? = some (.cells #[ptrV pt] 47 (0, 0))) (hbf : w.heap[bf]? = some (.cells #[.int .u16 (kVol k1 : Int), .int .u32 (kBlk k1 : Int), .int .u64 (kSeq k1 : Int)] 27 (0, 0))) (hbo : w.heap[bo]? = some (.cells #[.int .u16 (kVol k2 : Int), .int .u32 (kBlk k2 : Int), .int .u64 (kSeq k2 : Int)] 27 (0, 0)))
    (hbx : ∀ j, (j = bt ∨ j = bf ∨ j = bo) → ¬ S j ∧ j ≠ pt) :
    SeqSep Fence.wide n Tryz.prog 84 #[ptrV bt, ptrV bf, ptrV bo] (fun x : En => #[entV x]) (fun ys => ys = rangeL [] k1 k2) (fun _ => True) (fun j => S j ∨ j = bt ∨ j = bf ∨ j = bo ∨ j = pt) (rangeL [] k1 k2).length w :=
  range_of n hn hat hS k1 k2 hbt hbf hbo hbx [] [] [] rfl (fun x hx => by simp at hx) List.Pairwise.nil (fun w2 bt2 bk2 hk h1 h2 =>
    leaves_nil (n - 1) ((hk.block pt (.inr rfl)).trans hat) (fun j hj => Nat.lt_of_lt_of_le (hS j hj) hk.size) k1 h1 h2)
end Go.Proofs.YtejhbaeeaejcaaaGreat
/- The walks of walk.list, All and Volume. Conditions: those of each theorem. -/
namespace Go.Proofs.YtejhbaeeaejcaaaGreat
open Go Go.RowKit Go.Shelf
attribute [local go_sem] Oper.semAt_some

theorem wpListIn_append_run {F : Fence} {nF : Nat} {P : Program} {w : World} {ops : Array Oper} {rest : List Oper} {o : Oper} {a : Act} {Q : Exit → Act → World → Prop} (hgd : o.guard = none) (x y : Operand) (t : TypeId)
    (ho : o.op = .call { callee := .builtin .append, args := #[x, y], argTypes := #[t, t] }) {v' : Value} {w' : World}
    (hrun : (Builtin.append_ #[t, t] o.type #[a.eval x, a.eval y]).run P w = .ok v' w') (h : wpListIn F nF P ops Q rest (a.put o.dst v') w') : wpListIn F nF P ops Q (o :: rest) a w := by
  refine wpListIn_plain hgd fun K hK => ?_
  unfold Oper.wpIn
  refine ⟨by simp [Oper.about, ho, resolve, Target.leads, Sem.run_pure], ?_⟩
  rw [Oper.semAt_plain F _ _ (by rw [ho]; intro c hc'; cases hc')]
  simp [execOp, ho, resolve, invoke, builtin, hrun, Result.andThen]
  exact hK _ _ h
theorem OwnE.heap {α : Type} {enc : α → List Value} {k : Nat} {e : TypeId} {w w' : World} {B : Nat} {v : Value} {l : List α} (h : OwnE enc k e w B v l) (hs : ∀ g, v.ownBlock = some g → w'.heap[g]? = w.heap[g]?) : OwnE enc k e w' B v l := by
  refine ⟨h.1, ?_⟩
  rcases h.2 with h2 | ⟨g, cap, cur, hv, hg, hh, r⟩
  · exact .inl h2
  · exact .inr ⟨g, cap, cur, hv, hg, (hs g (by rw [hv]; rfl)).trans hh, r⟩

theorem OwnE.pushAt {w : World} {B : Nat} {v : Value} {l : List En} (h : OwnE encN 4 60 w B v l) (e : En) (hl : l.length ≤ 100000000) (hB : B ≤ w.heap.size) :
    ∃ v' w', (Builtin.append_ #[36, 36] 36 #[v, .slice (some ⟨w.heap.size, 0, none⟩) 1 1]).run Tryz.prog (w.alloc (.cells (encN e).toArray 60)) = .ok v' w' ∧ OwnE encN 4 60 w' B v' (l ++ [e]) ∧ w.grownBy w' v.ownBlock ∧ (v'.ownBlock = v.ownBlock ∨ ∃ g, v'.ownBlock = some g ∧ w.heap.size ≤ g) := by
  obtain ⟨i0, hi, hz0, hz1, hz2⟩ := info_cut infoEn
  obtain ⟨v', w', hr, ho, hg, -, hat⟩ := run_append_own_at (P := Tryz.prog) (w.alloc (.cells (encN e).toArray 60)) B 36 36 60 i0 _ 4 24 Tryz.underlying36 hi hz0 hz1 hz2 rfl (by decide) v l.length _ (h.alloc _) ⟨w.heap.size, 0, none⟩ 1 1 (cellsE encN [e]) rfl (RowE.cells encN_len (by decide) (RowE.one w e)) (fun u hu => by
    obtain ⟨x, -, hx⟩ := List.mem_flatMap.1 hu
    exact encN_one x u hx) (by unfold maxLen; omega) (by omega) (by rw [World.alloc_size]; omega)
  refine ⟨v', w', hr, ?_, ⟨hg.os, hg.tape, hg.output, Nat.le_trans (by simp) hg.size, fun j hj hne => ?_⟩, ?_⟩
  · unfold OwnE
    rw [cellsE_app, List.length_append]
    exact ho
  · rw [hg.block j (by rw [World.alloc_size]; omega) hne, Below.heap_alloc _ _ _ hj]
  · rcases hat with h | h
    · exact .inl h
    · exact .inr ⟨_, h, by rw [World.alloc_size]; omega⟩
/-- What has been listed. -/
def ListI (ob : Nat) (xs : List En) (D : Nat → Prop) (W : World) : Prop :=
  ∃ v, (∀ j, D j ↔ j = ob ∨ v.ownBlock = some j) ∧ W.heap[ob]? = some (.cells #[v] 36 (0, 0)) ∧ OwnE encN 4 60 W (ob + 1) v xs
theorem listI_local (ob : Nat) : Local (ListI ob) := fun xs D A B h hk => by
  obtain ⟨v, hD, h1, h2⟩ := h
  exact ⟨v, hD, (hk.block ob ((hD ob).2 (.inl rfl))).trans h1, h2.heap (fun g hg => hk.block g ((hD g).2 (.inr hg)))⟩
def ListI1 (ob : Nat) (xs : List En) (x : En) (mk : Nat → Act) (a' : Act) (D : Nat → Prop) (W : World) : Prop :=
  ∃ v eb, (∀ j, D j ↔ j = ob ∨ v.ownBlock = some j ∨ j = eb) ∧ W.heap[ob]? = some (.cells #[v] 36 (0, 0)) ∧ OwnE encN 4 60 W (ob + 1) v xs ∧ W.heap[eb]? = some (.cells #[.int .u16 (kVol x.1 : Int), .int .u32 (kBlk x.1 : Int), .int .u64 (kSeq x.1 : Int), .int .u32 (x.2 : Int)] 60 (0, 0)) ∧ ob < eb ∧ v.ownBlock ≠ some eb ∧ a' = mk eb
theorem listI1_local (ob : Nat) (xs : List En) (x : En) (mk : Nat → Act) (a' : Act) : Local (fun (_ : Unit) => ListI1 ob xs x mk a') := fun _ D A B h hk => by
  obtain ⟨v, eb, hD, h1, h2, h3, h4⟩ := h
  exact ⟨v, eb, hD, (hk.block ob ((hD ob).2 (.inl rfl))).trans h1, h2.heap (fun g hg => hk.block g ((hD g).2 (.inr (.inl hg)))), (hk.block eb ((hD eb).2 (.inr (.inr rfl)))).trans h3, h4⟩

set_option maxRecDepth 100000 in
set_option maxHeartbeats 8000000 in
theorem list_of {w : World} {lb : Array Value} {X : Nat → Prop} {R : List En} (hXlt : ∀ j, X j → j < w.heap.size) (hRl : R.length ≤ 100000)
    (hseq : SeqSep Fence.wide 5 Tryz.prog 84 lb (fun x : En => #[entV x]) (fun ys => ys = R) (fun _ => True) X R.length w) :
    Calls Tryz.prog 58 #[.func (.func 84) #[] lb] w fun e w' => ∃ v, e = .returned v ∧ OwnE encN 4 60 w' w.heap.size v R ∧ Below w.heap.size w w' := by
  have hb1 : Below w.heap.size w (w.alloc (.cells #[.slice none 0 0] 36)) := (Below.refl _ _).alloc (Nat.le_refl _) _
  have hob := heap_alloc_new w (.cells #[.slice none 0 0] 36)
  have hsz1 := World.alloc_size w (.cells #[.slice none 0 0] 36)
  have HSEQ := Lib.hid hseq
  clear hseq
  refine (callsIn_wide (n := 6)).1 ?_
  refine callsIn_of_wp_marks Tryz.func58 rfl trivial ?_ rfl
  refine wpIn_wide.2 ?_
  simp only [Tryz.ntmps58, List.size_toArray, List.length_cons, List.length_nil, Nat.reduceAdd, Nat.reduceSub, Array.replicate_succ, Array.replicate_zero, List.push_toArray, List.append_toArray, List.nil_append, List.cons_append]
  have HOB := Lib.hid hob
  have HB1 := Lib.hid hb1
  clear hob hb1
  go_wp2_with fail
  generalize w.alloc (.cells #[.slice none 0 0] 36) = w1 at *
  refine (wpIn_wide (n := 6)).1 (wpIn_rangeFunc_sep (n := 6) (F := Fence.wide) rfl (by omega) (gf := 84) (lb := lb) rfl trivial (enters_of Tryz.func84 (by kernel_rfl) rfl)
    HSEQ.out (Kept.of_below HB1.out hXlt) (fun j hj => by have := hXlt j hj; omega) (fun _ => rfl)
    (ListI w.heap.size) (fun _ _ _ _ => False)
    (fun pre x => ListI1 w.heap.size pre x (fun eb => { tmps := #[.func (.func 84) #[] lb, undef, .slice none 0 0, .pointer (some ⟨w.heap.size, 0, none⟩), .pointer (some ⟨eb, 0, none⟩), .func (.func 84) #[] lb, entV x, undef, undef, undef, undef, undef], defers := [] }))
    (listI_local _) (fun c s D A B h hk => h) (fun pre x a' => listI1_local _ _ _ _ _)
    (fun j => j = w.heap.size) (fun j hj => by omega) (fun j hj hx => by have := hXlt j hx; omega) ⟨.slice none 0 0, fun j => ⟨.inl, fun h => h.elim id (fun h => by cases h)⟩, HOB.out, World.ownsRow_nil _ _ _ _⟩
    ?assign ?body ?done ?stop)
  case assign =>
    intro l2 pre x D Wr K hI hlt _ hK
    obtain ⟨v, hD, h1, h2⟩ := hI
    have hob1 : w.heap.size < Wr.heap.size := (Array.getElem?_eq_some_iff.1 h1).1
    unfold entV
    gi_wp2
    refine hK _ (fun j => D j ∨ j = Wr.heap.size) _ ⟨fun j hj => hj.elim .inl (fun h => .inr (by omega)), fun j hj => ?_⟩ (Outs.of_below ((Below.refl _ _).alloc (Nat.le_refl _) _)) ⟨v, Wr.heap.size, fun j => ?_, (Below.heap_alloc _ _ _ hob1).trans h1, h2.alloc _, heap_alloc_new Wr _, hob1, fun h => by have := (h2.lt _ h).2; omega, ?_⟩
    · rw [World.alloc_size]
      exact hj.elim (fun h => by have := hlt j h; omega) (fun h => by omega)
    · show (D j ∨ j = Wr.heap.size) ↔ _
      rw [hD]
      constructor
      · rintro ((h | h) | h)
        · exact .inl h
        · exact .inr (.inl h)
        · exact .inr (.inr h)
      · rintro (h | h | h)
        · exact .inl (.inl h)
        · exact .inl (.inr h)
        · exact .inr h
    · rfl
  case body =>
    rintro l2 pre x a' D Wr hl2 ⟨r0, hr0⟩ hnl hDlt hDX2 hkX ⟨v, eb, hD, h1, h2, h3, hobe, hve, rfl⟩ hlen -
    have q0 := cell_of_row _ _ 0 _ _ _ h1
    have z0 := cell_of_row _ _ 0 _ _ _ h3
    have z1 := cell_of_row _ _ 1 _ _ _ h3
    have z2 := cell_of_row _ _ 2 _ _ _ h3
    have z3 := cell_of_row _ _ 3 _ _ _ h3
    simp at q0 z0 z1 z2 z3
    have hob1 : w.heap.size < Wr.heap.size := (Array.getElem?_eq_some_iff.1 h1).1
    obtain ⟨v', w', hap, ho', hg', hat⟩ := h2.pushAt x (by omega) (by omega)
    unfold encN at hap
    have hkl := h2.lt
    have hob9 : w'.heap[w.heap.size]? = some (.cells #[v] 36 (0, 0)) := (hg'.block _ hob1 (fun h => by have := (hkl _ h.symm).1; omega)).trans h1
    have q9 := cell_of_row _ _ 0 _ _ _ hob9
    simp at q9
    have f9 : ∀ i, w'.frozen? ⟨w.heap.size, i, none⟩ = false := fun i => by simp [World.frozen?, hob9]
    obtain ⟨a0, n0, c0, rfl⟩ := h2.form
    obtain ⟨a1, n1, c1, rfl⟩ := ho'.form
    have hs9 := heap_setCell_same w' w.heap.size 0 _ _ (.slice a1 n1 c1) hob9
    have hT9 : Turn w.heap.size w' (w'.setCell ⟨w.heap.size, 0, none⟩ (.slice a1 n1 c1)) := ⟨rfl, rfl, rfl, by simp, fun j hj => by rw [heap_setCell_other _ _ j _ hj]⟩
    have hlt' := ho'.lt
    have hF : sepPost (ListI w.heap.size) (fun _ _ _ _ => False) (pre ++ [x]) D Wr .normal { tmps := #[], defers := [] } (w'.setCell ⟨w.heap.size, 0, none⟩ (.slice a1 n1 c1)) := by
      refine ⟨fun j => j = w.heap.size ∨ (Value.slice a1 n1 c1).ownBlock = some j, ⟨fun j hj => ?_, fun j hj => ?_⟩, ⟨hg'.os, hg'.tape, hg'.output, by rw [hT9.size]; exact hg'.size, fun j hj hn => ?_⟩, _, fun j => Iff.rfl, hs9, ho'.heap (fun g hgo => hT9.block g (fun e => by have := (hlt' g hgo).1; omega))⟩
      · rcases hj with h | h
        · exact .inl ((hD j).2 (.inl h))
        · rcases hat with h5 | ⟨g, h5, h6⟩
          · exact .inl ((hD j).2 (.inr (.inl (h5.symm.trans h))))
          · rw [h] at h5
            cases h5
            exact .inr h6
      · rw [hT9.size]
        rcases hj with h | h
        · have := hg'.size; omega
        · exact (hlt' j h).2
      · rw [hT9.block j (fun e => hn ((hD j).2 (.inl e))), hg'.block j hj (fun e => hn ((hD j).2 (.inr (.inl e.symm))))]
    have HF := Lib.hid hF
    unfold entV
    clear hF hs9 hT9 hlt' hat hkl ho' hg' h1 h2 h3
    gi_wp2_with (gi_at_builtin; refine wpListIn_append_run rfl _ _ _ rfl hap ?_)
    exact HF.out
  case done =>
    rintro Dd xs D Wr hDd rfl ⟨v, hD, h1, h2⟩ hg ho hnD hK
    have q0 := cell_of_row _ _ 0 _ _ _ h1
    simp at q0
    obtain ⟨a0, n0, c0, rfl⟩ := h2.form
    have hbw : Below w.heap.size w Wr := ⟨ho.os.trans HB1.out.os, ho.tape.trans HB1.out.tape, ho.output.trans HB1.out.output, Nat.le_trans HB1.out.size ho.size, fun j hj => (ho.block j (by omega) (by omega)).trans (HB1.out.block j hj)⟩
    have hgp := grownBy_putObj' Wr Dd (.deferred none)
    have hown : OwnE encN 4 60 (Wr.putObj Dd (.deferred none)) w.heap.size (.slice a0 n0 c0) xs := (h2.base (by omega)).heap (fun g hg9 => hgp.block g (h2.lt g hg9).2 (fun e => by cases e; exact hnD ((hD _).2 (.inr hg9))))
    have hbw2 := hbw.grown hgp (by have := hbw.size; omega) (fun j hj => by cases hj; omega)
    have HF := Lib.hid (And.intro hown hbw2)
    clear hown hbw2 hgp hbw h1 h2 hg ho
    go_wp2_with fail
    refine ⟨by simp, .inl ⟨_, _, rfl, run_takeDeferred hK, ?_⟩⟩
    exact ⟨_, results_tmp (t := 2) rfl _ _ _, .slice a0 n0 c0, rfl, HF.out.1, HF.out.2⟩
  case stop =>
    rintro Dd c pre D Wr hDd hSp hIx
    exact hIx.elim
end Go.Proofs.YtejhbaeeaejcaaaGreat
/- The walks of walk.All and Volume at a tree in memory. Conditions: those of each theorem. -/
namespace Go.Proofs.YtejhbaeeaejcaaaGreat
open Go Go.RowKit Go.Shelf

/-- The greatest key. -/
def kMax : Nat := 5192296858534827628530496329220095
theorem kMax_v : keyV kMax = .agg #[.int .u16 65535, .int .u32 4294967295, .int .u64 18446744073709551615] := by
  unfold keyV kMax
  rw [show kVol 5192296858534827628530496329220095 = 65535 by unfold kVol; omega, show kBlk 5192296858534827628530496329220095 = 4294967295 by unfold kBlk; omega, show kSeq 5192296858534827628530496329220095 = 18446744073709551615 by unfold kSeq; omega]
  rfl
theorem key0_v : keyV 0 = .agg #[.int .u16 0, .int .u32 0, .int .u64 0] := by
  unfold keyV
  rw [show kVol 0 = 0 by unfold kVol; omega, show kBlk 0 = 0 by unfold kBlk; omega, show kSeq 0 = 0 by unfold kSeq; omega]
  rfl
theorem end_results (tmps : Array Value) (B : Nat) (v0 v1 v2 : Value) (W : World) (h : tmps[0]? = some (.pointer (some ⟨B, 0, none⟩))) (q0 : W.cell? ⟨B, 0, none⟩ = some v0) (q1 : W.cell? ⟨B, 1, none⟩ = some v1) (q2 : W.cell? ⟨B, 2, none⟩ = some v2) :
    (results Tryz.f60 tmps).run Tryz.prog W = .ok (.agg #[v0, v1, v2]) W := by
  simp [results, Tryz.results60, go_sem, h, q0, q1, q2]
set_option maxRecDepth 100000 in
set_option maxHeartbeats 4000000 in
theorem end_any (w : World) : Calls Tryz.prog 60 #[] w fun e w' => e = .returned (keyV kMax) ∧ Below w.heap.size w w' := by
  rw [kMax_v]
  have hx := heap_alloc_new w (.cells #[.int .u16 65535, .int .u32 4294967295, .int .u64 18446744073709551615] 27)
  have HX := Lib.hid hx
  clear hx
  go_enter Tryz.func60, Tryz.ntmps60
  go_wp2_with fail
  refine bodyPost_ret (end_results _ w.heap.size _ _ _ _ rfl (cell_of_row _ _ 0 _ _ _ HX.out) (cell_of_row _ _ 1 _ _ _ HX.out) (cell_of_row _ _ 2 _ _ _ HX.out)) rfl ?_
  exact ⟨rfl, (Below.refl _ _).alloc (Nat.le_refl _) _⟩

/-- The three boxes of a range, and what it hands on. -/
theorem range_tree {S : Nat → Prop} {w : World} {pt : Nat} {l : List En} (h : TreeW w S pt l) (hl : l.length ≤ 2000) (k1 k2 : Nat) :
    SeqSep Fence.wide 5 Tryz.prog 84 #[.pointer (some ⟨w.heap.size, 0, none⟩), .pointer (some ⟨w.heap.size + 1, 0, none⟩), .pointer (some ⟨w.heap.size + 1 + 1, 0, none⟩)] (fun x : En => #[entV x]) (fun ys => ys = rangeL l k1 k2) (fun _ => True)
      (fun j => S j ∨ j = w.heap.size ∨ j = w.heap.size + 1 ∨ j = w.heap.size + 1 + 1 ∨ j = pt) (rangeL l k1 k2).length (((w.alloc (.cells #[ptrV pt] 47)).alloc (.cells #[.int .u16 (kVol k1 : Int), .int .u32 (kBlk k1 : Int), .int .u64 (kSeq k1 : Int)] 27)).alloc (.cells #[.int .u16 (kVol k2 : Int), .int .u32 (kBlk k2 : Int), .int .u64 (kSeq k2 : Int)] 27)) := by
  have s1 := World.alloc_size w (.cells #[ptrV pt] 47)
  have s2 := World.alloc_size (w.alloc (.cells #[ptrV pt] 47)) (.cells #[.int .u16 (kVol k1 : Int), .int .u32 (kBlk k1 : Int), .int .u64 (kSeq k1 : Int)] 27)
  have s3 := World.alloc_size ((w.alloc (.cells #[ptrV pt] 47)).alloc (.cells #[.int .u16 (kVol k1 : Int), .int .u32 (kBlk k1 : Int), .int .u64 (kSeq k1 : Int)] 27)) (.cells #[.int .u16 (kVol k2 : Int), .int .u32 (kBlk k2 : Int), .int .u64 (kSeq k2 : Int)] 27)
  have hb : Below w.heap.size w (((w.alloc (.cells #[ptrV pt] 47)).alloc (.cells #[.int .u16 (kVol k1 : Int), .int .u32 (kBlk k1 : Int), .int .u64 (kSeq k1 : Int)] 27)).alloc (.cells #[.int .u16 (kVol k2 : Int), .int .u32 (kBlk k2 : Int), .int .u64 (kSeq k2 : Int)] 27)) := (((Below.refl _ _).alloc (Nat.le_refl _) _).alloc (by omega) _).alloc (by omega) _
  have h1 : (((w.alloc (.cells #[ptrV pt] 47)).alloc (.cells #[.int .u16 (kVol k1 : Int), .int .u32 (kBlk k1 : Int), .int .u64 (kSeq k1 : Int)] 27)).alloc (.cells #[.int .u16 (kVol k2 : Int), .int .u32 (kBlk k2 : Int), .int .u64 (kSeq k2 : Int)] 27)).heap[w.heap.size]? = some (.cells #[ptrV pt] 47 (0, 0)) := by
    rw [Below.heap_alloc _ _ _ (by omega), Below.heap_alloc _ _ _ (by omega)]; exact heap_alloc_new w _
  have h2 : (((w.alloc (.cells #[ptrV pt] 47)).alloc (.cells #[.int .u16 (kVol k1 : Int), .int .u32 (kBlk k1 : Int), .int .u64 (kSeq k1 : Int)] 27)).alloc (.cells #[.int .u16 (kVol k2 : Int), .int .u32 (kBlk k2 : Int), .int .u64 (kSeq k2 : Int)] 27)).heap[w.heap.size + 1]? = some (.cells #[.int .u16 (kVol k1 : Int), .int .u32 (kBlk k1 : Int), .int .u64 (kSeq k1 : Int)] 27 (0, 0)) := by
    rw [Below.heap_alloc _ _ _ (by omega)]
    have := heap_alloc_new (w.alloc (.cells #[ptrV pt] 47)) (.cells #[.int .u16 (kVol k1 : Int), .int .u32 (kBlk k1 : Int), .int .u64 (kSeq k1 : Int)] 27)
    rw [s1] at this; exact this
  have h3 : (((w.alloc (.cells #[ptrV pt] 47)).alloc (.cells #[.int .u16 (kVol k1 : Int), .int .u32 (kBlk k1 : Int), .int .u64 (kSeq k1 : Int)] 27)).alloc (.cells #[.int .u16 (kVol k2 : Int), .int .u32 (kBlk k2 : Int), .int .u64 (kSeq k2 : Int)] 27)).heap[w.heap.size + 1 + 1]? = some (.cells #[.int .u16 (kVol k2 : Int), .int .u32 (kBlk k2 : Int), .int .u64 (kSeq k2 : Int)] 27 (0, 0)) := by
    have := heap_alloc_new ((w.alloc (.cells #[ptrV pt] 47)).alloc (.cells #[.int .u16 (kVol k1 : Int), .int .u32 (kBlk k1 : Int), .int .u64 (kSeq k1 : Int)] 27)) (.cells #[.int .u16 (kVol k2 : Int), .int .u32 (kBlk k2 : Int), .int .u64 (kSeq k2 : Int)] 27)
    rw [s2, s1] at this; exact this
  have hptl := h.ptlt
  have h2' := h.same (Same.of_below hb h.lt) (hb.block pt hptl) hb.size
  have hbx : ∀ j, (j = w.heap.size ∨ j = w.heap.size + 1 ∨ j = w.heap.size + 1 + 1) → ¬ S j ∧ j ≠ pt := fun j hj => ⟨fun hs => by have := h.lt j hs; omega, by omega⟩
  rcases h2'.has with ⟨rfl, hat⟩ | ⟨d, p, t, hat, hN, hR, rfl⟩
  · exact range_nil 5 (by omega) hat h2'.lt k1 k2 h1 h2 h3 hbx
  · exact range_seq 5 (by omega) hat hN hR h2'.rise (by have := hR.depth hl; omega) h2'.lt k1 k2 h1 h2 h3 hbx
theorem rangeL_len (l : List En) (a b : Nat) : (rangeL l a b).length ≤ l.length := List.length_filter_le _ _
/-- The list of a range. -/
theorem list_range {S : Nat → Prop} {w : World} {pt : Nat} {l : List En} (h : TreeW w S pt l) (hl : l.length ≤ 2000) (k1 k2 : Nat) :
    Calls Tryz.prog 58 #[.func (.func 84) #[] #[.pointer (some ⟨w.heap.size, 0, none⟩), .pointer (some ⟨w.heap.size + 1, 0, none⟩), .pointer (some ⟨w.heap.size + 1 + 1, 0, none⟩)]] (((w.alloc (.cells #[ptrV pt] 47)).alloc (.cells #[.int .u16 (kVol k1 : Int), .int .u32 (kBlk k1 : Int), .int .u64 (kSeq k1 : Int)] 27)).alloc (.cells #[.int .u16 (kVol k2 : Int), .int .u32 (kBlk k2 : Int), .int .u64 (kSeq k2 : Int)] 27))
      fun e w' => ∃ v, e = .returned v ∧ OwnE encN 4 60 w' w.heap.size v (rangeL l k1 k2) ∧ Below w.heap.size w w' := by
  have s1 := World.alloc_size w (.cells #[ptrV pt] 47)
  have s2 := World.alloc_size (w.alloc (.cells #[ptrV pt] 47)) (.cells #[.int .u16 (kVol k1 : Int), .int .u32 (kBlk k1 : Int), .int .u64 (kSeq k1 : Int)] 27)
  have s3 := World.alloc_size ((w.alloc (.cells #[ptrV pt] 47)).alloc (.cells #[.int .u16 (kVol k1 : Int), .int .u32 (kBlk k1 : Int), .int .u64 (kSeq k1 : Int)] 27)) (.cells #[.int .u16 (kVol k2 : Int), .int .u32 (kBlk k2 : Int), .int .u64 (kSeq k2 : Int)] 27)
  have hb : Below w.heap.size w (((w.alloc (.cells #[ptrV pt] 47)).alloc (.cells #[.int .u16 (kVol k1 : Int), .int .u32 (kBlk k1 : Int), .int .u64 (kSeq k1 : Int)] 27)).alloc (.cells #[.int .u16 (kVol k2 : Int), .int .u32 (kBlk k2 : Int), .int .u64 (kSeq k2 : Int)] 27)) := (((Below.refl _ _).alloc (Nat.le_refl _) _).alloc (by omega) _).alloc (by omega) _
  have hptl := h.ptlt
  refine (list_of (fun j hj => ?_) (by have := rangeL_len l k1 k2; omega) (range_tree h hl k1 k2)).mono ?_
  · rcases hj with hs | rfl | rfl | rfl | rfl
    · have := h.lt j hs; omega
    · omega
    · omega
    · omega
    · omega
  · rintro e w' ⟨v, rfl, ho, hb2⟩
    exact ⟨v, rfl, ho.base (by omega), hb.trans (hb2.mono (by omega))⟩

set_option maxRecDepth 100000 in
set_option maxHeartbeats 4000000 in
theorem all_any {S : Nat → Prop} {w : World} {pt : Nat} {l : List En} (h : TreeW w S pt l) (hl : l.length ≤ 2000) (hk : ∀ x ∈ l, x.1 ≤ kMax) :
    Calls Tryz.prog 36 #[ptrV pt] w fun e w' => ∃ v, e = .returned v ∧ OwnE encN 4 60 w' w.heap.size v l ∧ Below w.heap.size w w' := by
  have hR : rangeL l 0 kMax = l := List.filter_eq_self.2 fun x hx => by have := hk x hx; simp [this]
  have HE := Lib.hid (end_any w)
  have HH := Lib.hid h
  have HRR := Lib.hid hR
  have HC := Lib.hid (fun W => rangeCall_any pt 0 kMax W)
  have hk0 := key0_v
  rw [hk0] at HC
  have hkm := kMax_v
  rw [hkm] at HC HE
  unfold ptrV at HC ⊢
  clear h hR hk0 hkm
  go_enter Tryz.func36, Tryz.ntmps36
  go_wp2_with fail
  refine HE.out.mono ?_
  rintro e w2 ⟨rfl, hb2⟩
  have hT2 := HH.out.same (Same.of_below hb2 HH.out.lt) (hb2.block pt HH.out.ptlt) hb2.size
  have HL := Lib.hid (list_range hT2 hl 0 kMax)
  have HB2 := Lib.hid hb2
  unfold ptrV at HL
  clear hT2 hb2
  go_wp2_with fail
  refine (HC.out w2).mono ?_
  rintro e w3 ⟨rfl, rfl⟩
  go_wp2_with fail
  refine HL.out.mono ?_
  rintro e w4 ⟨v, rfl, ho, hb4⟩
  rw [HRR.out] at ho
  have HF := Lib.hid (And.intro (ho.base HB2.out.size) (HB2.out.trans (hb4.mono HB2.out.size)))
  clear ho hb4
  go_wp2_with fail
  go_ret
  exact ⟨v, rfl, HF.out.1, HF.out.2⟩

/-- The versions of a volume. -/
def volL (l : List En) (v : Nat) : List En := l.filter fun x => decide (kVol x.1 = v)
theorem rangeL_vol (l : List En) (v : Nat) : rangeL l (v * 79228162514264337593543950336) (v * 79228162514264337593543950336 + 79228162514264337593543950335) = volL l v := by
  unfold rangeL volL
  refine List.filter_congr fun x _ => ?_
  rw [← Bool.decide_and, decide_eq_decide]
  unfold kVol
  omega
set_option maxRecDepth 100000 in
set_option maxHeartbeats 4000000 in
theorem volume_of {S : Nat → Prop} {w : World} {pt : Nat} {l : List En} (h : TreeW w S pt l) (hl : l.length ≤ 2000) (v k1 k2 : Nat)
    (h1 : keyV k1 = .agg #[.int .u16 (v : Int), .int .u32 0, .int .u64 0]) (h2 : keyV k2 = .agg #[.int .u16 (v : Int), .int .u32 4294967295, .int .u64 18446744073709551615]) :
    Calls Tryz.prog 44 #[ptrV pt, .int .u16 (v : Int)] w fun e w' => ∃ r, e = .returned r ∧ OwnE encN 4 60 w' w.heap.size r (rangeL l k1 k2) ∧ Below w.heap.size w w' := by
  have HC := Lib.hid (rangeCall_any pt k1 k2 w)
  have HL := Lib.hid (list_range h hl k1 k2)
  rw [h1, h2] at HC
  unfold ptrV at HC HL ⊢
  clear h h1 h2
  go_enter Tryz.func44, Tryz.ntmps44
  go_wp2_with fail
  refine HC.out.mono ?_
  rintro e w3 ⟨rfl, rfl⟩
  go_wp2_with fail
  refine HL.out.mono ?_
  rintro e w4 ⟨r, rfl, ho, hb4⟩
  have HF := Lib.hid (And.intro ho hb4)
  clear ho hb4
  go_wp2_with fail
  go_ret
  exact ⟨r, rfl, HF.out.1, HF.out.2⟩
theorem volume_any {S : Nat → Prop} {w : World} {pt : Nat} {l : List En} (h : TreeW w S pt l) (hl : l.length ≤ 2000) (v : Nat) (hv : v < 65536) :
    Calls Tryz.prog 44 #[ptrV pt, .int .u16 (v : Int)] w fun e w' => ∃ r, e = .returned r ∧ OwnE encN 4 60 w' w.heap.size r (volL l v) ∧ Below w.heap.size w w' := by
  rw [← rangeL_vol l v]
  refine volume_of h hl v _ _ ?_ ?_
  · unfold keyV
    rw [show kVol (v * 79228162514264337593543950336) = v by unfold kVol; omega, show kBlk (v * 79228162514264337593543950336) = 0 by unfold kBlk; omega, show kSeq (v * 79228162514264337593543950336) = 0 by unfold kSeq; omega]
    rfl
  · unfold keyV
    rw [show kVol (v * 79228162514264337593543950336 + 79228162514264337593543950335) = v by unfold kVol; omega, show kBlk (v * 79228162514264337593543950336 + 79228162514264337593543950335) = 4294967295 by unfold kBlk; omega, show kSeq (v * 79228162514264337593543950336 + 79228162514264337593543950335) = 18446744073709551615 by unfold kSeq; omega]
    rfl
end Go.Proofs.YtejhbaeeaejcaaaGreat
/- What tree.Tree's Delete leaves of a tree, in plain Lean. Conditions: those of each theorem. -/
namespace Go.Proofs.YtejhbaeeaejcaaaGreat
open Go.RowKit

theorem UpT.full {w : World} {S : Nat → Prop} {k d : Nat} {t : Tr d} (hR : RootT t) (hr : Rise (flatT t)) {l : List (Nat × Nat)} {m : Nat} {s : Tr m} (h : UpT w S k t l m s) (hl : l ≠ []) : FullT s := by
  cases h with
  | top => exact absurd rfl hl
  | step h1 h2 h3 =>
    obtain ⟨-, -, g3, -, -⟩ := h1.good hR.lo hR.hi hR.kids hr
    exact FullT.kid g3 (List.mem_of_getElem? h3)
theorem UpT.two {w : World} {S : Nat → Prop} {k d : Nat} {t : Tr d} (hR : RootT t) (hr : Rise (flatT t)) {l : List (Nat × Nat)} {m : Nat} {u : Tr (m + 1)} (h : UpT w S k t l (m + 1) u) : 2 ≤ lenT u := by
  by_cases hl : l = []
  · have he := h.end hl
    obtain ⟨rfl, h2⟩ := Sigma.mk.inj he
    obtain rfl := eq_of_heq h2
    rcases hR.two with h3 | h3
    · omega
    · exact h3
  · have := (h.full hR hr hl).lo
    omega
theorem delE_none {l : List En} (hr : Rise l) {k : Nat} (h : k ∉ l.map (·.1)) : delE l k = l := ((row_place hr (k, 0)).2 h).2.2
/-- A round of the way up: the children, with one changed. -/
theorem del_round {m : Nat} {u : Tr (m + 1)} {s : Tr m} {i k : Nat} (hK : KidsT u) (h6 : lenT u ≤ 6) (h2 : 2 ≤ lenT u) (hs : (kidsT u)[i]? = some s) (hF : FullT s) (hr : Rise (flatT s)) (hg : (getE (flatT s) k).isSome = true) :
    ∃ a, delT s k = [a] ∧ (∀ c ∈ (kidsT u).take i ++ ([a] ++ (kidsT u).drop (i + 1)), 2 ≤ lenT c ∧ lenT c ≤ 6 ∧ KidsT c) ∧ ((kidsT u).take i ++ ([a] ++ (kidsT u).drop (i + 1))).length = lenT u ∧
      (∀ c ∈ joinedT ((kidsT u).take i ++ ([a] ++ (kidsT u).drop (i + 1))) i, 0 < lenT c) ∧ 0 < (joinedT ((kidsT u).take i ++ ([a] ++ (kidsT u).drop (i + 1))) i).length ∧ (joinedT ((kidsT u).take i ++ ([a] ++ (kidsT u).drop (i + 1))) i).length ≤ 6 := by
  have hlo := hF.lo
  obtain ⟨a, ea, l1, l2, l3, -⟩ := del_full (by omega) hF.hi hF.kids hr k hg
  have hhi := hF.hi
  have hlt : i < (kidsT u).length := (List.getElem?_eq_some_iff.1 hs).1
  have hu : lenT u = (kidsT u).length := rfl
  have hli : ((kidsT u).take i).length = i := by rw [List.length_take]; omega
  have hlen : ((kidsT u).take i ++ ([a] ++ (kidsT u).drop (i + 1))).length = lenT u := by
    rw [List.length_append, List.length_append, hli, List.length_drop]; simp; omega
  have hgi : ((kidsT u).take i ++ ([a] ++ (kidsT u).drop (i + 1)))[i]? = some a := by
    rw [List.getElem?_append_right (by omega), hli, Nat.sub_self]; rfl
  have hoth : ∀ j c, j ≠ i → ((kidsT u).take i ++ ([a] ++ (kidsT u).drop (i + 1)))[j]? = some c → FullT c := fun j c hj hc => by
    rcases Nat.lt_or_ge j i with h | h
    · rw [List.getElem?_append_left (by omega)] at hc
      exact FullT.kid hK (List.mem_of_mem_take (List.mem_of_getElem? hc))
    · rw [List.getElem?_append_right (by omega), hli] at hc
      obtain ⟨q, hq⟩ : ∃ q, j - i = q + 1 := ⟨j - i - 1, by omega⟩
      rw [hq] at hc
      exact FullT.kid hK (List.mem_of_mem_drop (List.mem_of_getElem? (show ((kidsT u).drop (i + 1))[q]? = some c from hc)))
  obtain ⟨j1, -, j3, j4⟩ := joined_full _ i a hgi (by rw [hlen]; exact h2) (by omega) (by omega) l3 hoth
  rw [hlen] at j3 j4
  refine ⟨a, ea, fun c hc => ?_, hlen, fun c hc => by have := (j1 c hc).lo; omega, by omega, by omega⟩
  obtain ⟨j, hj⟩ := List.getElem?_of_mem hc
  by_cases hji : j = i
  · subst hji
    rw [hgi] at hj
    cases hj
    exact ⟨by omega, by omega, l3⟩
  · have hF2 := hoth j c hji hj
    exact ⟨by have := hF2.lo; omega, hF2.hi, hF2.kids⟩
theorem root_del0 {t : Tr 0} (h : RootT t) (hr : Rise (flatT t)) {k : Nat} (hg : (getE (flatT t) k).isSome = true) : (delT t k = [] ∧ delE (flatT t) k = []) ∨ ∃ a, delT t k = [a] ∧ RootT a ∧ flatT a = delE (flatT t) k := by
  have hl := delE_len (k := k) hr
  rw [if_pos hg] at hl
  have h0 : 0 < (rowT t).length := h.lo
  have h6 : (rowT t).length ≤ 6 := h.hi
  have e0 : flatT t = rowT t := rfl
  rw [e0] at hl ⊢
  by_cases h1 : (delE (rowT t) k).length = 0
  · have h2 := List.eq_nil_of_length_eq_zero h1
    refine .inl ⟨?_, h2⟩
    rw [delT, h2]; rfl
  · refine .inr ⟨leafT (delE (rowT t) k), by rw [delT, parts_one leafT (by omega) (by omega)], ⟨by show 0 < (delE (rowT t) k).length; omega, by show (delE (rowT t) k).length ≤ 6; omega, trivial, .inl rfl⟩, rfl⟩
theorem root_delS {d : Nat} {t : Tr (d + 1)} (h : RootT t) (hr : Rise (flatT t)) {k : Nat} (hg : (getE (flatT t) k).isSome = true) : ∃ a, delT t k = [a] ∧ flatT a = delE (flatT t) k ∧ lenT a ≤ 6 ∧ KidsT a ∧ (2 ≤ lenT a ∨ ∃ c, kidsT a = [c] ∧ FullT c) := by
  have h2 : 2 ≤ lenT t := by
    rcases h.two with h3 | h3
    · omega
    · exact h3
  obtain ⟨a, ea, l1, l2, l3, l4⟩ := del_full h2 h.hi h.kids hr k hg
  have := h.hi
  refine ⟨a, ea, l4, by omega, l3, ?_⟩
  by_cases h3 : 2 ≤ lenT a
  · exact .inl h3
  · right
    have h4 : (kidsT a).length = 1 := by
      have : lenT a = (kidsT a).length := rfl
      omega
    obtain ⟨c, hc⟩ := List.length_eq_one_iff.1 h4
    exact ⟨c, hc, FullT.kid l3 (by rw [hc]; simp)⟩
end Go.Proofs.YtejhbaeeaejcaaaGreat
