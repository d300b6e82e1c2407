/- slices.Chunk over operations and batch.Split: the walks. Conditions: those of each theorem. -/
import Derived.Stop.RegionWithIn
import Derived.Test.YtljbehndnledpaaBatchHeld
namespace Go.Proofs.Ytljbehndnledpaa
open Go.RowKit Go.Shelf
attribute [local go_sem] Oper.semAt_some

/-- What a round keeps: what lay below, and two boxes. -/
def KpC (n₀ B1 : Nat) (v1 : Value) (B2 : Nat) (v2 : Value) (W W' : World) : Prop := Below n₀ W W' ∧ (W.cell? ⟨B1, 0, none⟩ = some v1 → W'.cell? ⟨B1, 0, none⟩ = some v1) ∧ (W.cell? ⟨B2, 0, none⟩ = some v2 → W'.cell? ⟨B2, 0, none⟩ = some v2)
theorem KpC.trans {n₀ B1 B2 : Nat} {v1 v2 : Value} {X Y Z : World} (h : KpC n₀ B1 v1 B2 v2 X Y) (k : KpC n₀ B1 v1 B2 v2 Y Z) : KpC n₀ B1 v1 B2 v2 X Z := ⟨h.1.trans k.1, fun c => k.2.1 (h.2.1 c), fun c => k.2.2 (h.2.2 c)⟩
theorem KpC.book {w : World} {n₀ B1 B2 : Nat} {v1 v2 : Value} (hn : n₀ ≤ w.heap.size) (W : World) (l : Nat) (o o' : Obj) (hl : w.heap.size ≤ l) (hlo : W.heap[l]? = some o) (hc : o.isCells = false) (hk : o.isWalk = false) : KpC n₀ B1 v1 B2 v2 W (W.putObj l o') :=
  ⟨(KpA.book (B := B1) (v := v1) hn W l o o' hl hlo hc hk).1, (KpA.book hn W l o o' hl hlo hc hk).2, (KpA.book hn W l o o' hl hlo hc hk).2⟩
/-- The part that comes at a place. -/
def chunkAt (b p s N r : Nat) : Value := .slice (some ⟨b, p + r * s * 8, none⟩) (min s (N - r * s)) (min s (N - r * s))

set_option maxRecDepth 100000 in
set_option maxHeartbeats 4000000 in
theorem chunk1_in (k : Nat) (hk : 3 ≤ k) (a : Option Addr) (l B1 B2 n₀ b p s N cap : Nat) (ha : 0 < N → a = some ⟨b, p, none⟩) (hs0 : 1 ≤ s) (hs1 : s ≤ 9223372036854775807) (hN : N ≤ 1000000) (hcap : N ≤ cap) (J Jx : List {r : Nat // r * s < N} → World → Prop)
    (hY : ∀ pre x W, J pre W → pre.length < N → YieldAt Fence.wide (k - 1) Try.prog l #[chunkAt b p s N x.1] W fun e W' =>
      (e = .returned (.bool true) ∧ J (pre ++ [x]) W' ∧ KpC n₀ B1 (.slice a N cap) B2 (.int .i64 (s : Int)) W W') ∨ (e = .returned (.bool false) ∧ Jx (pre ++ [x]) W'))
    (W : World) (hJ : AbidesFrom W.heap.size J) (hB1 : W.cell? ⟨B1, 0, none⟩ = some (.slice a N cap)) (hB2 : W.cell? ⟨B2, 0, none⟩ = some (.int .i64 (s : Int))) (h0 : J [] W) :
    CallsIn Fence.wide k Try.prog 182 #[.func (.yield l) #[] #[], .pointer (some ⟨B1, 0, none⟩), .pointer (some ⟨B2, 0, none⟩)] W fun e W' => (∃ v, e = .returned v) ∧
      ((∃ ys : List {r : Nat // r * s < N}, (∃ r, ys.map (·.1) = List.range r ∧ N ≤ r * s) ∧ J ys W') ∨ (∃ pre, True ∧ Jx pre W')) := by
  refine callsIn_of_wp Try.func182 rfl trivial ?_ rfl
  simp only [Try.ntmps182, List.size_toArray, List.length_cons, List.length_nil, Nat.reduceAdd, Nat.reduceSub, Array.replicate_succ, Array.replicate_zero, List.push_toArray, List.append_toArray, List.nil_append, List.cons_append]
  gi_wp2
  gi_loopw [4] (fun u4 wr => ∃ (r i : Nat) (pre : List {r : Nat // r * s < N}), i = r * s ∧ u4 = .int .i64 i ∧ pre.map (·.1) = List.range r ∧ J pre wr ∧ KpC n₀ B1 (.slice a N cap) B2 (.int .i64 (s : Int)) W wr)
    (fun u4 _ => N - (intOf u4).toNat)
  case atStart => exact ⟨0, 0, [], by omega, rfl, rfl, h0, Below.refl _ _, fun c => c, fun c => c⟩
  case round =>
    obtain ⟨r, i, pre, hi, rfl, hpre, hJs, hbw⟩ := hrel
    have hB1' := hbw.2.1 hB1
    have hB2' := hbw.2.2 hB2
    by_cases hlt : i < N
    · obtain rfl := ha (by omega)
      clear ha
      have hj0 : (0 : Int) ≤ (i : Int) := by omega
      have hj1 : (i : Int) < (N : Int) := by omega
      have hj2 : (i : Int) ≤ (N : Int) := by omega
      have hrN : r * s < N := by omega
      have hrl : pre.length = r := by
        have := congrArg List.length hpre
        simpa using this
      have hrle : r ≤ r * s := Nat.le_mul_of_pos_right _ hs0
      obtain ⟨x, hx⟩ : ∃ x : {r : Nat // r * s < N}, x.1 = r := ⟨⟨r, hrN⟩, rfl⟩
      have hpre' : (pre ++ [x]).map (·.1) = List.range (r + 1) := by
        rw [List.range_succ, ← hpre, List.map_append, ← hx]
        rfl
      have hbig : i + s ≤ 9223372036854775807 := by
        by_cases hr0 : r = 0
        · subst hr0; omega
        · have : s ≤ r * s := Nat.le_mul_of_pos_left _ (by omega)
          omega
      have hi1 : (r + 1) * s = i + s := by rw [Nat.succ_mul]; omega
      have hJd : J pre wr.drew := hJ _ _ _ none hJs ⟨rfl, rfl, rfl, Nat.le_refl _, fun _ _ _ => rfl⟩ (fun r e => by cases e)
      have hY1 := hY pre x wr.drew hJd (by omega)
      unfold chunkAt at hY1
      rw [hx, ← hi] at hY1
      have HI1 := Lib.hid hi1
      have HP := Lib.hid hpre'
      have s1 : IntKind.i64.wrap ((i : Int) + (s : Int)) = (i : Int) + (s : Int) := IntWalk.i64_in _ (by omega)
      clear hi hi1 hpre hpre' hJd hJs hrN hrl hrle hx
      obtain ⟨m, hm⟩ : ∃ m, min s (N - i) = m := ⟨_, rfl⟩
      rw [hm] at hY1
      have hmn : min (s : Int) ((N - i : Nat) : Int) = (m : Int) := by omega
      have htn : ((i : Int) + (m : Int)).toNat - i = m := by omega
      have hm1 : (m : Int) ≤ (s : Int) := by omega
      have hm2 : (i : Int) + (m : Int) ≤ (cap : Int) := by omega
      have hm3 : (0 : Int) ≤ (m : Int) := by omega
      have s2 : IntKind.i64.wrap ((i : Int) + (m : Int)) = (i : Int) + (m : Int) := IntWalk.i64_in _ (by omega)
      obtain ⟨fn, tmps, assign, body, hy, hR⟩ := hY1
      clear hm
      gi_wp2
      gi_region
      all_goals
        gi_wp2
        refine ⟨fun _ => by omega, hR.mono ?_⟩
        rintro e W3 (⟨rfl, hJ3, hk3⟩ | ⟨rfl, hJx3⟩)
        · have hB2'' := hk3.2.2 hB2'
          gi_wp2
          go_roundw
          case rel => exact ⟨r + 1, i + s, pre ++ [x], HI1.out.symm, by go_num, HP.out, hJ3, hbw.trans (KpC.trans ⟨(Below.refl _ _).drew, fun c => c, fun c => c⟩ hk3)⟩
          case measure => simp [intOf]; omega
        · gi_wp2
          refine bodyPost_ret (results_none rfl _ _ _) rfl ?_
          exact ⟨⟨_, rfl⟩, .inr ⟨_, trivial, hJx3⟩⟩
    · gi_wp2
      go_end0
      exact ⟨⟨_, rfl⟩, .inl ⟨pre, ⟨r, hpre, by omega⟩, hJs⟩⟩

theorem chunk_stops (k : Nat) (hk : 3 ≤ k) (a : Option Addr) (B1 B2 b p s N cap : Nat) (ha : 0 < N → a = some ⟨b, p, none⟩) (hs0 : 1 ≤ s) (hs1 : s ≤ 9223372036854775807) (hN : N ≤ 1000000) (hcap : N ≤ cap) (w : World) (n₀ : Nat) (hb1 : B1 < w.heap.size) (hb2 : B2 < w.heap.size)
    (hB1 : w.cell? ⟨B1, 0, none⟩ = some (.slice a N cap)) (hB2 : w.cell? ⟨B2, 0, none⟩ = some (.int .i64 (s : Int))) :
    SeqStopsK Fence.wide k Try.prog 182 #[.pointer (some ⟨B1, 0, none⟩), .pointer (some ⟨B2, 0, none⟩)] (fun x : {r : Nat // r * s < N} => #[chunkAt b p s N x.1]) (KpC n₀ B1 (.slice a N cap) B2 (.int .i64 (s : Int))) (fun ys => ∃ r, ys.map (·.1) = List.range r ∧ N ≤ r * s) (fun _ => True) N w := fun l J Jx W hW hJ _ hY h0 =>
  chunk1_in k hk a l B1 B2 n₀ b p s N cap ha hs0 hs1 hN hcap J Jx hY W hJ ((hW.cell (p := ⟨B1, 0, none⟩) hb1).trans hB1) ((hW.cell (p := ⟨B2, 0, none⟩) hb2).trans hB2) h0

set_option maxHeartbeats 1000000 in
theorem chunkOps_any (a : Option Addr) (len cap s : Nat) (w : World) (hs : 1 ≤ s) :
    Calls Try.prog 137 #[.slice a len cap, .int .i64 (s : Int)] w fun e w' => e = .returned (.func (.func 182) #[] #[.pointer (some ⟨w.heap.size, 0, none⟩), .pointer (some ⟨w.heap.size + 1, 0, none⟩)]) ∧ w' = (w.alloc (.cells #[.slice a len cap] 87)).alloc (.cells #[.int .i64 (s : Int)] 3) := by
  have h1 : ¬ ((s : Int) < 1) := by omega
  go_enter Try.func137, Try.ntmps137
  go_wp2_with fail
  go_ret
  exact ⟨rfl, rfl⟩
end Go.Proofs.Ytljbehndnledpaa
namespace Go.Proofs.Ytljbehndnledpaa
open Go.RowKit Go.Shelf
attribute [local go_sem] Oper.semAt_some

theorem OpRows.lower {w : World} {B C D : Nat} {v : Value} {L : List (List PO)} (h : OpRows w D B v L) (hC : C ≤ D) : OpRows w C B v L := by
  obtain ⟨vs, h1, h2⟩ := h
  exact ⟨vs, owns_lower h1 hC, h2⟩
/-- The rows that have come. -/
def rowsAt {s N : Nat} (l : List PO) (pre : List {r : Nat // r * s < N}) : List (List PO) := pre.map fun x => (l.drop (x.1 * s)).take s
theorem rowsAt_snoc {s N : Nat} (l : List PO) (pre : List {r : Nat // r * s < N}) (x : {r : Nat // r * s < N}) : rowsAt l (pre ++ [x]) = rowsAt l pre ++ [(l.drop (x.1 * s)).take s] := by simp [rowsAt]
theorem rowsAt_all {s N : Nat} (l : List PO) (ys : List {r : Nat // r * s < N}) (r : Nat) (h : ys.map (·.1) = List.range r) : rowsAt l ys = rowsTo s l r := by
  unfold rowsAt rowsTo
  rw [← h, List.map_map]
  rfl

/-- Rows, and what is gone through. -/
def Sp (s : Nat) (w : World) (u : Value) (m : Nat) (L : List (List PO)) (W : World) : Prop :=
  ∃ v, Boxed W s 135 v ∧ OpRows W (s + 3) s v L ∧ Boxed W (s + 1) 87 u ∧ Boxed W (s + 1 + 1) 3 (.int .i64 (m : Int)) ∧ Below s w W ∧ s + 3 ≤ W.heap.size
theorem Sp.below {s m : Nat} {w W W' : World} {u : Value} {L : List (List PO)} (h : Sp s w u m L W) (hb : Below W.heap.size W W') : Sp s w u m L W' := by
  obtain ⟨v, h1, h2, h3, h4, h5, h6⟩ := h
  exact ⟨v, (hb.block _ h1.lt).trans h1, h2.stays hb (Nat.le_refl _) (by omega), (hb.block _ h3.lt).trans h3, (hb.block _ h4.lt).trans h4, h5.trans (hb.mono (by omega)), Nat.le_trans h6 hb.size⟩
theorem Sp.own {s m : Nat} {w : World} {u : Value} {α : Type} (f : α → List (List PO)) {base : Nat} (hb : s + 3 ≤ base) : OwnFrom base (fun x => Sp s w u m (f x)) := by
  intro x W W' row ⟨v, h1, h2, h3, h4, h5, h6⟩ hg hr
  have hne : ∀ B, B < base → some B ≠ row := fun B hB e => by have := (hr B e.symm).1; omega
  refine ⟨v, h1.kept hg (hne _ (by omega)), h2.turned hg (by omega) (fun r e => ⟨by have := (hr r e).1; omega, fun arr t p hh => ?_⟩), h3.kept hg (hne _ (by omega)), h4.kept hg (hne _ (by omega)), h5.grown hg (by omega) (fun k e => by have := (hr k e).1; omega), Nat.le_trans h6 hg.size⟩
  obtain ⟨_, o, ho, hc⟩ := hr r e
  rw [ho] at hh
  cases hh
  cases hc
/-- What a round keeps. -/
def Kc (base s : Nat) (u : Value) (m : Nat) (W W' : World) : Prop := KeepsFrom base W W' ∧ KpC s (s + 1) u (s + 1 + 1) (.int .i64 (m : Int)) W W'
theorem Kc.trans {base s m : Nat} {u : Value} {X Y Z : World} (h : Kc base s u m X Y) (k : Kc base s u m Y Z) : Kc base s u m X Z := ⟨h.1.trans k.1, h.2.trans k.2⟩
theorem Kc.below {base s m : Nat} {u : Value} {W W' : World} (h : Below W.heap.size W W') (hs : s ≤ W.heap.size) : Kc base s u m W W' :=
  ⟨⟨h.size, fun k o _ hk _ => by rw [h.block k (Array.getElem?_eq_some_iff.1 hk).1]; exact hk⟩, h.mono hs, fun c => by
    have hlt := World.block_lt_of_cell? _ _ c
    rw [h.cell (p := ⟨s + 1, 0, none⟩) hlt]; exact c, fun c => by
    have hlt := World.block_lt_of_cell? _ _ c
    rw [h.cell (p := ⟨s + 1 + 1, 0, none⟩) hlt]; exact c⟩
/-- One row more. -/
theorem Sp.push {base s m : Nat} {w W : World} {u x : Value} {L : List (List PO)} {q : List PO} (h : Sp s w u m L W) (hx : OwnOps W s x q) (hl : L.length ≤ 1000000) :
    ∃ v a' c' w1, Boxed W s 135 v ∧ (Builtin.append_ #[135, 135] 135 #[v, .slice (some ⟨W.heap.size, 0, none⟩) 1 1]).run Try.prog (W.alloc (.cells #[x] 87)) = .ok (.slice a' (L.length + 1) c') w1 ∧
      Boxed w1 s 135 v ∧ Sp s w u m (L ++ [q]) (w1.setCell ⟨s, 0, none⟩ (.slice a' (L.length + 1) c')) ∧ Kc base s u m W (w1.setCell ⟨s, 0, none⟩ (.slice a' (L.length + 1) c')) := by
  obtain ⟨v, h1, h2, h3, h4, h5, h6⟩ := h
  obtain ⟨v', w1, hr, ho, hg⟩ := h2.push hx hl (by omega) h6
  obtain ⟨a', c', e', -, -⟩ := ho.at
  rw [show (L ++ [q]).length = L.length + 1 by simp] at e'
  subst e'
  obtain ⟨vs, q2, q3⟩ := h2
  have hn1 : some s ≠ v.ownBlock := h1.not_row (by decide) q2
  have hn3 : some (s + 1 + 1) ≠ v.ownBlock := h4.not_row (by decide) q2
  have hbase3 : ∀ k, v.ownBlock = some k → s + 3 ≤ k := by
    intro k e
    rcases q2.2 with ⟨rfl, _⟩ | ⟨g, cap, cur, rfl, hb, hh, _⟩
    · cases e
    · simp only [Value.ownBlock, Option.some.injEq] at e
      omega
  have hn2 : some (s + 1) ≠ v.ownBlock := fun e => by have := hbase3 _ e.symm; omega
  have hbase : ∀ k, v.ownBlock = some k → s ≤ k := fun k e => by have := hbase3 k e; omega
  have b1 := h1.kept hg hn1
  have g2 : w1.grownBy (w1.setCell ⟨s, 0, none⟩ (.slice a' (L.length + 1) c')) (some s) := grownBy_setCell' w1 s _
  have hs1 : s + 3 ≤ w1.heap.size := Nat.le_trans h6 hg.size
  have e135 : ∀ r, some s = some r → s ≤ r ∧ ∀ arr t p, w1.heap[r]? = some (.cells arr t p) → t ≠ 5 ∧ t ≠ 3 ∧ t ≠ 80 ∧ t ≠ 87 := fun r e => by
    cases e
    refine ⟨Nat.le_refl _, fun arr t p hh => ?_⟩
    have hb : w1.heap[s]? = _ := b1
    rw [hb] at hh
    cases hh
    decide
  have hB1 : Below s W w1 := (Below.refl s W).grown hg (by omega) hbase
  have hB2 : Below s w1 (w1.setCell ⟨s, 0, none⟩ (.slice a' (L.length + 1) c')) := (Below.refl s w1).setCell (p := ⟨s, 0, none⟩) (Nat.le_refl _) _
  refine ⟨v, a', c', w1, h1, hr, b1, ⟨_, b1.set _, ho.turned g2 (by omega) e135, (h3.kept hg hn2).other (by omega) _, (h4.kept hg hn3).other (by omega) _, h5.trans (hB1.trans hB2), by simpa using hs1⟩,
    Kc.trans (Y := w1) ⟨⟨hg.size, fun k ob hk hh hc => ?_⟩, hB1, fun c => hg.cell c hn2, fun c => hg.cell c hn3⟩ ⟨(KeepsOthers.setCell _ _ _).from _, hB2, fun c => g2.cell c (fun e => by have := Option.some.inj e; simp only at this; omega), fun c => g2.cell c (fun e => by have := Option.some.inj e; simp only at this; omega)⟩⟩
  refine (hg.block k (Array.getElem?_eq_some_iff.1 hh).1 fun e => ?_).trans hh
  rcases q2.2 with ⟨rfl, _⟩ | ⟨g, cap, cur, rfl, _, hhg, _⟩
  · cases e
  · simp only [Value.ownBlock, Option.some.injEq] at e
    rw [e, hhg] at hh
    cases hh
    cases hc

theorem step_append_runIn {F : Fence} {nF : Nat} {P : Program} {w : World} {ops : Array Oper} {o : Oper} {a : Act} {K : Act → World → Prop} {Q : Exit → Act → World → Prop} {E : Prop} (hw : Region.wanted o (yielded ops a.tmps) = true) (s x : Operand) (t : TypeId)
    (ho : o.op = .call { callee := .builtin .append, args := #[s, x], argTypes := #[t, t] }) {v' : Value} {w' : World}
    (hrun : (Builtin.append_ #[t, t] o.type #[a.eval s, a.eval x]).run P w = .ok v' w') (h : K (a.put o.dst v') w') : if Region.wanted o (yielded ops a.tmps) = true then Oper.wpIn F nF P o a w K Q else E := by
  rw [if_pos hw]
  unfold Oper.wpIn
  refine ⟨by simp [Oper.about, ho, resolve, Target.leads, Sem.run_pure], ?_⟩
  rw [Oper.semAt_plain F _ _ (by rw [ho]; intro c hc'; cases hc')]
  simp [execOp, ho, resolve, invoke, builtin, hrun, Result.andThen]
  exact h

/-- At most so many, but one at least. -/
def mostOf (most : Int) : Nat := (max most 1).toNat

set_option maxRecDepth 100000 in
set_option maxHeartbeats 8000000 in
theorem splitOps_any (a : Option Addr) (n c : Nat) (l : List PO) (most : Int) (w : World) (h : Ops w a n l) (hn : n ≤ 1000) (hc : n ≤ c) (hm : most ≤ 9223372036854775807) :
    Calls Try.prog 85 #[.slice a n c, .int .i64 most] w fun e w' => ∃ v r, e = .returned v ∧ OpRows w' w.heap.size w.heap.size v (rowsTo (mostOf most) l r) ∧ n ≤ r * mostOf most ∧ (∀ j, j < r → j * mostOf most < n) ∧ Below w.heap.size w w' := by
  obtain ⟨s, hs⟩ : ∃ s, mostOf most = s := ⟨_, rfl⟩
  have hmx : max most 1 = (s : Int) := by unfold mostOf at hs; omega
  have hs0 : 1 ≤ s := by unfold mostOf at hs; omega
  have hs1 : s ≤ 9223372036854775807 := by unfold mostOf at hs; omega
  rw [hs]
  clear hs
  have hl := h.1
  subst hl
  obtain ⟨b, p, ha⟩ : ∃ b p, 0 < l.length → a = some ⟨b, p, none⟩ := by
    by_cases h0 : 0 < l.length
    · obtain ⟨b, p, dv, mv, ha, -⟩ := h.2 0 _ (List.getElem?_eq_getElem h0)
      exact ⟨b, p, fun _ => ha⟩
    · exact ⟨0, 0, fun h => absurd h h0⟩
  have H := Lib.hid h
  clear h
  have hco := chunkOps_any a l.length c s (w.alloc (.cells #[.slice none 0 0] 135)) hs0
  have HCO := Lib.hid hco
  clear hco
  refine (callsIn_wide (n := 6)).1 ?_
  refine callsIn_of_wp_marks Try.func85 rfl trivial ?_ rfl
  simp only [Try.ntmps85, List.size_toArray, List.length_cons, List.length_nil, Nat.reduceAdd, Nat.reduceSub, Array.replicate_succ, Array.replicate_zero, List.push_toArray, List.append_toArray, List.nil_append, List.cons_append]
  refine wpIn_wide.2 ?_
  go_wp2_with fail
  refine HCO.out.mono ?_
  clear HCO
  rintro e w5 ⟨rfl, rfl⟩
  go_wp2_with fail
  have q1 : Boxed (((w.alloc (.cells #[.slice none 0 0] 135)).alloc (.cells #[.slice a l.length c] 87)).alloc (.cells #[.int .i64 (s : Int)] 3)) w.heap.size 135 (.slice none 0 0) := ((Boxed.new w 135 _).alloc _).alloc _
  have q2 : Boxed (((w.alloc (.cells #[.slice none 0 0] 135)).alloc (.cells #[.slice a l.length c] 87)).alloc (.cells #[.int .i64 (s : Int)] 3)) (w.heap.size + 1) 87 (.slice a l.length c) := by
    have := (Boxed.new (w.alloc (.cells #[.slice none 0 0] 135)) 87 (.slice a l.length c)).alloc (.cells #[.int .i64 (s : Int)] 3)
    simpa using this
  have q3 : Boxed (((w.alloc (.cells #[.slice none 0 0] 135)).alloc (.cells #[.slice a l.length c] 87)).alloc (.cells #[.int .i64 (s : Int)] 3)) (w.heap.size + 1 + 1) 3 (.int .i64 (s : Int)) := by
    have := Boxed.new ((w.alloc (.cells #[.slice none 0 0] 135)).alloc (.cells #[.slice a l.length c] 87)) 3 (.int .i64 (s : Int))
    simpa using this
  have hb4 : Below w.heap.size w (((w.alloc (.cells #[.slice none 0 0] 135)).alloc (.cells #[.slice a l.length c] 87)).alloc (.cells #[.int .i64 (s : Int)] 3)) := (((Below.refl _ w).alloc (Nat.le_refl _) _).alloc (by simp) _).alloc (by simp; omega) _
  have hsz : (((w.alloc (.cells #[.slice none 0 0] 135)).alloc (.cells #[.slice a l.length c] 87)).alloc (.cells #[.int .i64 (s : Int)] 3)).heap.size = w.heap.size + 3 := by simp
  generalize ((w.alloc (.cells #[.slice none 0 0] 135)).alloc (.cells #[.slice a l.length c] 87)).alloc (.cells #[.int .i64 (s : Int)] 3) = W0 at *
  have hq2 := q2.cell
  have hq3 := q3.cell
  have SP0 : Sp w.heap.size w (.slice a l.length c) s [] W0 := ⟨_, q1, OpRows.nil _ _ _, q2, q3, hb4, by omega⟩
  clear q1 q2 q3
  refine wpIn_wide.1 (wpIn_rangeFunc_ownG (n := 6) rfl (by omega) (gf := 182) (lb := #[.pointer (some ⟨w.heap.size + 1, 0, none⟩), .pointer (some ⟨w.heap.size + 1 + 1, 0, none⟩)]) rfl trivial (enters_of Try.func182 (by kernel_rfl) rfl)
    (chunk_stops (6 - 1) (by omega) a (w.heap.size + 1) (w.heap.size + 1 + 1) b p s l.length c ha hs0 hs1 (by omega) hc W0 w.heap.size (by omega) (by omega) hq2 hq3) KpC.trans (KpC.book (by omega)) (Below.refl _ _) (fun _ => rfl)
    (fun pre W => Sp w.heap.size w (.slice a l.length c) s (rowsAt l pre) W) (fun _ _ _ => False)
    (Sp.own (fun pre => rowsAt l pre) (by omega)) (fun _ _ _ _ _ hs _ _ => hs) SP0
    (fun x => { tmps := #[.slice a l.length c, .int .i64 most, undef, undef, .slice none 0 0, .pointer (some ⟨w.heap.size, 0, none⟩), chunkAt b p s l.length x.1, .slice a l.length c, .int .i64 most, .int .i64 (s : Int), .func (.func 182) #[] #[.pointer (some ⟨w.heap.size + 1, 0, none⟩), .pointer (some ⟨w.heap.size + 1 + 1, 0, none⟩)], chunkAt b p s l.length x.1, undef, undef, undef, undef, undef, undef], defers := [] }) ?assign ?body ?done ?stop)
  case assign =>
    intro lo x W K hK
    gi_wp2
    exact hK
  case body =>
    rintro lo pre x W hI hlt
    have hsn := rowsAt_snoc l pre x
    obtain ⟨x, hxN⟩ := x
    have hrl : (rowsAt l pre).length ≤ 1000 := by simp [rowsAt]; omega
    obtain rfl := ha (by omega)
    have hlow : w.heap.size + 3 ≤ W.heap.size ∧ Below w.heap.size w W := by obtain ⟨_, _, _, _, _, h5, h6⟩ := hI; exact ⟨h6, h5⟩
    have hfar : OpsFar W w.heap.size (some ⟨b, p + x * s * 8, none⟩) (min s (l.length - x * s)) ((l.drop (x * s)).take (min s (l.length - x * s))) :=
      ((H.out.far (Nat.le_refl _)).stays hlow.2 (Nat.le_refl _) (Nat.le_refl _)).part (x * s) _ (by omega)
    have htk : (l.drop (x * s)).take (min s (l.length - x * s)) = (l.drop (x * s)).take s := by
      by_cases hle : s ≤ l.length - x * s
      · rw [Nat.min_eq_left hle]
      · rw [Nat.min_eq_right (by omega), List.take_of_length_le (by simp), List.take_of_length_le (by simp; omega)]
    rw [htk] at hfar
    have hId := hI.below (Below.refl _ _).drew
    have hcl := cloneOps_any b (p + x * s * 8) (min s (l.length - x * s)) (min s (l.length - x * s)) _ w.heap.size W.drew (hfar.stays (Below.refl _ _).drew (Nat.le_refl _) (by omega)) (by omega) (by show _ ≤ W.heap.size; omega)
    unfold chunkAt
    generalize (l.drop (x * s)).take s = q at *
    obtain ⟨L', hL'⟩ : ∃ L', rowsAt l (pre ++ [⟨x, hxN⟩]) = L' := ⟨_, rfl⟩
    rw [hL'] at hsn
    have HL' := Lib.hid hL'
    clear hL'
    generalize rowsAt l pre = L at *
    generalize p + x * s * 8 = o at *
    generalize min s (l.length - x * s) = mm at *
    have HCL := Lib.hid hcl
    have HI := Lib.hid hId
    have hk0 : Kc W0.heap.size w.heap.size (.slice (some ⟨b, p, none⟩) l.length c) s W W.drew := Kc.below (Below.refl _ _).drew (by omega)
    obtain ⟨v0, h1, -⟩ := id hI
    have k1 := h1.cell
    clear hcl hId hfar hI
    gi_wp2
    refine wpIn_region_any (by kernel_rfl) ?_
    change wpAnyIn _ _ _ _ _ _ _ _ _ (World.drew _)
    refine wpAnyIn_ready (rs := [0, 1]) (by kernel_rfl) (by simp) ?_
    refine AllReadyIn.cons rfl (fun K hK => ?_) (AllReadyIn.cons rfl (fun K hK => ?_) AllReadyIn.nil)
    · go_simp
      refine hK _ _ ?_; clear hK K
      refine wpAnyIn_ready (rs := [1]) (by kernel_rfl) (by simp) ?_
      refine AllReadyIn.cons rfl (fun K hK => ?_) AllReadyIn.nil
      go_simp
      refine hK _ _ ?_; clear hK K
      refine wpAnyIn_ready (rs := [2]) (by kernel_rfl) (by simp) ?_
      refine AllReadyIn.cons rfl (fun K hK => ?_) AllReadyIn.nil
      go_simp
      gi_wp2_with (refine ⟨trivial, ?_⟩; gi_at_call 138; refine (CallsIn.inRound lo (callsIn_wide.2 HCL.out)).mono ?_; rintro e W2 ⟨v2, rfl, ho2, hb2⟩; obtain ⟨a2, c2, rfl, -, -⟩ := ho2.ops; have k2 : W2.cell? ⟨w.heap.size, 0, none⟩ = some v0 := Boxed.cell ((hb2.block _ (by show w.heap.size < W.heap.size; omega)).trans h1); have k5 := (World.grownBy_alloc W2 (.cells #[.slice a2 q.length c2] 87) none).cell k2 (by simp))
      refine wpAnyIn_ready (rs := [3]) (by kernel_rfl) (by simp) ?_
      refine AllReadyIn.cons rfl (fun K hK => ?_) AllReadyIn.nil
      go_simp
      refine hK _ _ ?_; clear hK K
      obtain ⟨v, a', c', w1, hbx, hap, hbx1, hSp, hKc⟩ := (HI.out.below hb2).push (base := W0.heap.size) ho2 (by omega)
      obtain rfl : v = v0 := Option.some.inj (hbx.cell.symm.trans k2)
      have k3 := hbx1.cell
      have k4 := hbx1.frozen
      have HKC := Lib.hid ((hk0.trans (Kc.below hb2 (by show _ ≤ W.heap.size; omega))).trans hKc)
      have HSP := Lib.hid hSp
      refine wpAnyIn_ready (rs := [4]) (by kernel_rfl) (by simp) ?_
      refine AllReadyIn.cons rfl (fun K hK => ?_) AllReadyIn.nil
      refine step_append_runIn (by kernel_rfl) _ _ _ rfl hap ?_
      refine hK _ _ ?_; clear hK K hap hSp hKc hbx hbx1
      refine wpAnyIn_ready (rs := [5]) (by kernel_rfl) (by simp) ?_
      refine AllReadyIn.cons rfl (fun K hK => ?_) AllReadyIn.nil
      go_simp
      refine hK _ _ ?_; clear hK K
      refine wpAnyIn_done (by kernel_rfl) ?_ _
      gi_wp2
      exact ⟨HKC.out.1, HKC.out.2, by show Sp _ _ _ _ (rowsAt l _) _; rw [HL'.out, hsn]; exact HSP.out⟩
    · go_simp
      refine hK _ _ ?_; clear hK K
      refine wpAnyIn_ready (rs := [0, 2]) (by kernel_rfl) (by simp) ?_
      refine AllReadyIn.cons rfl (fun K hK => ?_) (AllReadyIn.cons rfl (fun K hK => ?_) AllReadyIn.nil)
      · go_simp
        refine hK _ _ ?_; clear hK K
        refine wpAnyIn_ready (rs := [2]) (by kernel_rfl) (by simp) ?_
        refine AllReadyIn.cons rfl (fun K hK => ?_) AllReadyIn.nil
        go_simp
        gi_wp2_with (refine ⟨trivial, ?_⟩; gi_at_call 138; refine (CallsIn.inRound lo (callsIn_wide.2 HCL.out)).mono ?_; rintro e W2 ⟨v2, rfl, ho2, hb2⟩; obtain ⟨a2, c2, rfl, -, -⟩ := ho2.ops; have k2 : W2.cell? ⟨w.heap.size, 0, none⟩ = some v0 := Boxed.cell ((hb2.block _ (by show w.heap.size < W.heap.size; omega)).trans h1); have k5 := (World.grownBy_alloc W2 (.cells #[.slice a2 q.length c2] 87) none).cell k2 (by simp))
        refine wpAnyIn_ready (rs := [3]) (by kernel_rfl) (by simp) ?_
        refine AllReadyIn.cons rfl (fun K hK => ?_) AllReadyIn.nil
        go_simp
        refine hK _ _ ?_; clear hK K
        obtain ⟨v, a', c', w1, hbx, hap, hbx1, hSp, hKc⟩ := (HI.out.below hb2).push (base := W0.heap.size) ho2 (by omega)
        obtain rfl : v = v0 := Option.some.inj (hbx.cell.symm.trans k2)
        have k3 := hbx1.cell
        have k4 := hbx1.frozen
        have HKC := Lib.hid ((hk0.trans (Kc.below hb2 (by show _ ≤ W.heap.size; omega))).trans hKc)
        have HSP := Lib.hid hSp
        refine wpAnyIn_ready (rs := [4]) (by kernel_rfl) (by simp) ?_
        refine AllReadyIn.cons rfl (fun K hK => ?_) AllReadyIn.nil
        refine step_append_runIn (by kernel_rfl) _ _ _ rfl hap ?_
        refine hK _ _ ?_; clear hK K hap hSp hKc hbx hbx1
        refine wpAnyIn_ready (rs := [5]) (by kernel_rfl) (by simp) ?_
        refine AllReadyIn.cons rfl (fun K hK => ?_) AllReadyIn.nil
        go_simp
        refine hK _ _ ?_; clear hK K
        refine wpAnyIn_done (by kernel_rfl) ?_ _
        gi_wp2
        exact ⟨HKC.out.1, HKC.out.2, by show Sp _ _ _ _ (rowsAt l _) _; rw [HL'.out, hsn]; exact HSP.out⟩
      · go_simp
        gi_wp2_with (refine ⟨trivial, ?_⟩; gi_at_call 138; refine (CallsIn.inRound lo (callsIn_wide.2 HCL.out)).mono ?_; rintro e W2 ⟨v2, rfl, ho2, hb2⟩; obtain ⟨a2, c2, rfl, -, -⟩ := ho2.ops; have k2 : W2.cell? ⟨w.heap.size, 0, none⟩ = some v0 := Boxed.cell ((hb2.block _ (by show w.heap.size < W.heap.size; omega)).trans h1); have k5 := (World.grownBy_alloc W2 (.cells #[.slice a2 q.length c2] 87) none).cell k2 (by simp))
        refine wpAnyIn_ready (rs := [0, 3]) (by kernel_rfl) (by simp) ?_
        refine AllReadyIn.cons rfl (fun K hK => ?_) (AllReadyIn.cons rfl (fun K hK => ?_) AllReadyIn.nil)
        · go_simp
          refine hK _ _ ?_; clear hK K
          refine wpAnyIn_ready (rs := [3]) (by kernel_rfl) (by simp) ?_
          refine AllReadyIn.cons rfl (fun K hK => ?_) AllReadyIn.nil
          go_simp
          refine hK _ _ ?_; clear hK K
          obtain ⟨v, a', c', w1, hbx, hap, hbx1, hSp, hKc⟩ := (HI.out.below hb2).push (base := W0.heap.size) ho2 (by omega)
          obtain rfl : v = v0 := Option.some.inj (hbx.cell.symm.trans k2)
          have k3 := hbx1.cell
          have k4 := hbx1.frozen
          have HKC := Lib.hid ((hk0.trans (Kc.below hb2 (by show _ ≤ W.heap.size; omega))).trans hKc)
          have HSP := Lib.hid hSp
          refine wpAnyIn_ready (rs := [4]) (by kernel_rfl) (by simp) ?_
          refine AllReadyIn.cons rfl (fun K hK => ?_) AllReadyIn.nil
          refine step_append_runIn (by kernel_rfl) _ _ _ rfl hap ?_
          refine hK _ _ ?_; clear hK K hap hSp hKc hbx hbx1
          refine wpAnyIn_ready (rs := [5]) (by kernel_rfl) (by simp) ?_
          refine AllReadyIn.cons rfl (fun K hK => ?_) AllReadyIn.nil
          go_simp
          refine hK _ _ ?_; clear hK K
          refine wpAnyIn_done (by kernel_rfl) ?_ _
          gi_wp2
          exact ⟨HKC.out.1, HKC.out.2, by show Sp _ _ _ _ (rowsAt l _) _; rw [HL'.out, hsn]; exact HSP.out⟩
        · go_simp
          refine hK _ _ ?_; clear hK K
          refine wpAnyIn_ready (rs := [0]) (by kernel_rfl) (by simp) ?_
          refine AllReadyIn.cons rfl (fun K hK => ?_) AllReadyIn.nil
          go_simp
          refine hK _ _ ?_; clear hK K
          obtain ⟨v, a', c', w1, hbx, hap, hbx1, hSp, hKc⟩ := (HI.out.below hb2).push (base := W0.heap.size) ho2 (by omega)
          obtain rfl : v = v0 := Option.some.inj (hbx.cell.symm.trans k2)
          have k3 := hbx1.cell
          have k4 := hbx1.frozen
          have HKC := Lib.hid ((hk0.trans (Kc.below hb2 (by show _ ≤ W.heap.size; omega))).trans hKc)
          have HSP := Lib.hid hSp
          refine wpAnyIn_ready (rs := [4]) (by kernel_rfl) (by simp) ?_
          refine AllReadyIn.cons rfl (fun K hK => ?_) AllReadyIn.nil
          refine step_append_runIn (by kernel_rfl) _ _ _ rfl hap ?_
          refine hK _ _ ?_; clear hK K hap hSp hKc hbx hbx1
          refine wpAnyIn_ready (rs := [5]) (by kernel_rfl) (by simp) ?_
          refine AllReadyIn.cons rfl (fun K hK => ?_) AllReadyIn.nil
          go_simp
          refine hK _ _ ?_; clear hK K
          refine wpAnyIn_done (by kernel_rfl) ?_ _
          gi_wp2
          exact ⟨HKC.out.1, HKC.out.2, by show Sp _ _ _ _ (rowsAt l _) _; rw [HL'.out, hsn]; exact HSP.out⟩
  case done =>
    rintro D' ys W hD ⟨r, hys, hr⟩ hI hK
    have hall := rowsAt_all l ys r hys
    have hlt : ∀ j, j < r → j * s < l.length := fun j hj => by
      have : j ∈ ys.map (·.1) := by rw [hys]; exact List.mem_range.2 hj
      obtain ⟨y, -, rfl⟩ := List.mem_map.1 this
      exact y.2
    rw [hall] at hI
    obtain ⟨v, h1, h2, h3, h4, h5, h6⟩ := hI
    have hc := h1.cell
    have HO2 := Lib.hid h2
    have HR := Lib.hid hr
    clear h2 h3 h4 hr
    go_wp2_with fail
    refine ⟨by simp, .inl ⟨_, _, rfl, run_takeDeferred hK, ?_⟩⟩
    refine ⟨_, results_tmp rfl _ _ _, v, r, rfl, OpRows.lower (HO2.out.turned (grownBy_putObj' W D' _) (by omega) (fun q e => ?_)) (by omega), HR.out, hlt, h5.trans (belowK_b (w := w) (Nat.le_refl _) W D' _ _ (by omega) hK rfl rfl)⟩
    cases e
    refine ⟨by omega, fun arr t p hh => ?_⟩
    rw [hK] at hh
    cases hh
  case stop =>
    rintro D' c' pre W _ _ h _
    exact h.elim
end Go.Proofs.Ytljbehndnledpaa
