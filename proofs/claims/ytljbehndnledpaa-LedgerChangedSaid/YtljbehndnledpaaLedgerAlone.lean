/- The walk of ledger.alone. Conditions: those of each theorem. -/
import Derived.Test.YtljbehndnledpaaLedgerAll
namespace Go.Proofs.Ytljbehndnledpaa
open Go.RowKit Go.Shelf
attribute [local go_sem] Oper.semAt_some

theorem info3q : (Try.prog.info? 3).map (fun i => (i.zero, i.size, i.bytes)) = some (some (.int .i64 0), 1, 8) := by kernel_rfl
/-- Of places those of which f says no, and one more. -/
def onesA {n : Nat} (f : Nat → Bool) (pre : List {j : Nat // j < n}) : List Int := (pre.filter fun x => !f x.1).map fun x => (x.1 : Int) + 1
theorem onesA_hit {n : Nat} {f : Nat → Bool} (pre : List {j : Nat // j < n}) {x : {j : Nat // j < n}} (h : f x.1 = false) : onesA f (pre ++ [x]) = onesA f pre ++ [(x.1 : Int) + 1] := by simp [onesA, h]
theorem onesA_miss {n : Nat} {f : Nat → Bool} (pre : List {j : Nat // j < n}) {x : {j : Nat // j < n}} (h : f x.1 = true) : onesA f (pre ++ [x]) = onesA f pre := by simp [onesA, h]
theorem onesA_all {n : Nat} (f g : Nat → Bool) (ys : List {j : Nat // j < n}) (h : ys.map (·.1) = (List.range n).filter g) : onesA f ys = onesF (fun j => g j && !f j) n := by
  have e : onesA f ys = ((ys.map (·.1)).filter fun j => !f j).map fun j => ((j : Nat) : Int) + 1 := by
    unfold onesA
    rw [List.filter_map, List.map_map]
    rfl
  rw [e, h, List.filter_filter]
  unfold onesF
  congr 2
  funext j
  exact Bool.and_comm _ _
theorem onesA_len {n : Nat} (f : Nat → Bool) (pre : List {j : Nat // j < n}) : (onesA f pre).length ≤ pre.length := by
  unfold onesA
  rw [List.length_map]
  exact List.length_filter_le _ _

theorem boxed_past {W w1 : World} {n₀ B B2 : Nat} {t2 e : TypeId} {size k : Nat} {u v v' : Value} {xs : List Value} {tmp : Obj} (hv : Boxed W B2 t2 u) (hte : t2 ≠ e) (hrow : W.ownsRow n₀ e size v k xs) (hgrow : (W.alloc tmp).grownBy w1 v.ownBlock) (hne : B2 ≠ B) : Boxed (w1.setCell ⟨B, 0, none⟩ v') B2 t2 u :=
  ((hv.alloc tmp).kept hgrow (hv.not_row hte hrow)).other hne v'

set_option maxRecDepth 100000 in
set_option maxHeartbeats 4000000 in
theorem alone_any (ma ga mb gb n : Nat) (Ta Tb : List UInt8) (w : World) (ha : Bmap w ma ga n Ta) (hb : Bmap w mb gb n Tb) (hn : n ≤ 4096) :
    Calls Try.prog 133 #[.pointer (some ⟨ma, 0, none⟩), .pointer (some ⟨mb, 0, none⟩)] w fun e w' => ∃ v, e = .returned v ∧ w'.ownsRow w.heap.size 3 1 v (onesF (fun j => bitOf Ta j && !bitOf Tb j) n).length ((onesF (fun j => bitOf Ta j && !bitOf Tb j) n).map (.int .i64)) ∧ Below w.heap.size w w' := by
  obtain ⟨i0, hi, hz0, hz1, hz2⟩ := info_parts info3q
  have hma := (Array.getElem?_eq_some_iff.1 ha.head).1
  have hga := (Array.getElem?_eq_some_iff.1 ha.row).1
  have hmb := (Array.getElem?_eq_some_iff.1 hb.head).1
  have hgb := (Array.getElem?_eq_some_iff.1 hb.row).1
  have HA := Lib.hid ha
  have HB := Lib.hid hb
  clear ha hb
  refine (callsIn_wide (n := 6)).1 ?_
  refine callsIn_of_wp_marks Try.func133 rfl trivial ?_ rfl
  simp only [Try.ntmps133, List.size_toArray, List.length_cons, List.length_nil, Nat.reduceAdd, Nat.reduceSub, Array.replicate_succ, Array.replicate_zero, List.push_toArray, List.append_toArray, List.nil_append, List.cons_append]
  refine wpIn_wide.2 ?_
  go_wp2_with fail
  refine (all_any _ _).mono ?_
  rintro e w5 ⟨rfl, rfl⟩
  go_wp2_with fail
  have bP : Boxed (((w.alloc (.cells #[.pointer (some ⟨mb, 0, none⟩)] 116)).alloc (.cells #[.slice none 0 0] 78)).alloc (.cells #[.pointer (some ⟨ma, 0, none⟩)] 116)) w.heap.size 116 (.pointer (some ⟨mb, 0, none⟩)) := ((Boxed.new w 116 _).alloc _).alloc _
  have bO : Boxed (((w.alloc (.cells #[.pointer (some ⟨mb, 0, none⟩)] 116)).alloc (.cells #[.slice none 0 0] 78)).alloc (.cells #[.pointer (some ⟨ma, 0, none⟩)] 116)) (w.heap.size + 1) 78 (.slice none 0 0) := by
    have := (Boxed.new (w.alloc (.cells #[.pointer (some ⟨mb, 0, none⟩)] 116)) 78 (.slice none 0 0)).alloc (.cells #[.pointer (some ⟨ma, 0, none⟩)] 116)
    simpa using this
  have bN : Boxed (((w.alloc (.cells #[.pointer (some ⟨mb, 0, none⟩)] 116)).alloc (.cells #[.slice none 0 0] 78)).alloc (.cells #[.pointer (some ⟨ma, 0, none⟩)] 116)) (w.heap.size + 1 + 1) 116 (.pointer (some ⟨ma, 0, none⟩)) := by
    have := Boxed.new ((w.alloc (.cells #[.pointer (some ⟨mb, 0, none⟩)] 116)).alloc (.cells #[.slice none 0 0] 78)) 116 (.pointer (some ⟨ma, 0, none⟩))
    simpa using this
  have hb3 : Below w.heap.size w (((w.alloc (.cells #[.pointer (some ⟨mb, 0, none⟩)] 116)).alloc (.cells #[.slice none 0 0] 78)).alloc (.cells #[.pointer (some ⟨ma, 0, none⟩)] 116)) := (((Below.refl _ w).alloc (Nat.le_refl _) _).alloc (by simp) _).alloc (by simp; omega) _
  have hsz : (((w.alloc (.cells #[.pointer (some ⟨mb, 0, none⟩)] 116)).alloc (.cells #[.slice none 0 0] 78)).alloc (.cells #[.pointer (some ⟨ma, 0, none⟩)] 116)).heap.size = w.heap.size + 3 := by simp
  generalize ((w.alloc (.cells #[.pointer (some ⟨mb, 0, none⟩)] 116)).alloc (.cells #[.slice none 0 0] 78)).alloc (.cells #[.pointer (some ⟨ma, 0, none⟩)] 116) = W0 at *
  have HBA := HA.out.under hb3 hma hga
  refine wpIn_wide.1 (wpIn_rangeFunc_ownG (n := 6) rfl (by omega) (gf := 209) (lb := #[.pointer (some ⟨w.heap.size + 1 + 1, 0, none⟩)]) rfl trivial (enters_of Try.func209 (by kernel_rfl) rfl)
    (all_stops (6 - 1) (by omega) (w.heap.size + 1 + 1) ma ga n Ta (by omega) W0 w.heap.size (by omega) (by omega) hma hga bN.cell HBA) KpA.trans (KpA.book (by omega)) (Below.refl _ _) (fun _ => rfl)
    (fun pre W => (∃ v, Boxed W (w.heap.size + 1) 78 v ∧ W.ownsRow w.heap.size 3 1 v (onesA (bitOf Tb) pre).length ((onesA (bitOf Tb) pre).map (Value.int .i64)) ∧ True) ∧ (Boxed W (w.heap.size + 1 + 1) 116 (.pointer (some ⟨ma, 0, none⟩)) ∧ Boxed W w.heap.size 116 (.pointer (some ⟨mb, 0, none⟩)) ∧ Below w.heap.size w W))
    (fun _ _ _ => False)
    (OwnFrom.and (Own.from (holdsRow_own w.heap.size (w.heap.size + 1) 78 3 1 (fun pre => (onesA (bitOf Tb) pre).length) (fun pre => (onesA (bitOf Tb) pre).map (Value.int .i64)) (fun _ _ => True)) _) (OwnFrom.and (Own.from (boxed_own _ _ (fun _ => Value.pointer (some ⟨ma, 0, none⟩))) _) (OwnFrom.and (Own.from (boxed_own _ _ (fun _ => Value.pointer (some ⟨mb, 0, none⟩))) _) (ownFrom_below (Nat.le_refl _) (by omega)))))
    (fun _ _ _ _ _ hs _ _ => hs)
    ⟨⟨_, bO, World.ownsRow_nil _ _ _ _, trivial⟩, bN, bP, hb3⟩
    (fun x => { tmps := #[.pointer (some ⟨ma, 0, none⟩), .pointer (some ⟨mb, 0, none⟩), undef, .pointer (some ⟨w.heap.size, 0, none⟩), .slice none 0 0, .pointer (some ⟨w.heap.size + 1, 0, none⟩), .int .i64 (x.1 : Int), .pointer (some ⟨ma, 0, none⟩), .func (.func 209) #[] #[.pointer (some ⟨w.heap.size + 1 + 1, 0, none⟩)], .int .i64 (x.1 : Int), undef, undef, undef, undef, undef, undef, undef, undef, undef, undef], defers := [] }) ?assign ?body ?done ?stop)
  case assign =>
    intro l x W K hK
    gi_wp2
    exact hK
  case body =>
    rintro l pre x W ⟨⟨v, hv, hrow, -⟩, hbn, hbp, hB⟩ hlt
    have hc := hv.cell
    have hcp := hbp.cell
    have hpl := onesA_len (bitOf Tb) pre
    have hhas := bmHas_any mb gb n Tb x.1 W (HB.out.under hB hmb hgb) x.2 (by omega)
    obtain ⟨x, hxn⟩ := x
    simp only at hhas ⊢
    cases hbx : bitOf Tb x with
    | true =>
      rw [hbx] at hhas
      have HAS := Lib.hid hhas
      clear hhas
      have hE := onesA_miss pre (x := ⟨x, hxn⟩) hbx
      have HE := Lib.hid hE
      clear hE hbx
      gi_wp2_with (refine ⟨trivial, ?_⟩; gi_at_call 135; refine (CallsIn.inRound l (callsIn_wide.2 HAS.out)).mono ?_; rintro e W2 ⟨rfl, rfl⟩)
      exact ⟨KeepsFrom.refl _ _, ⟨Below.refl _ _, fun c => c⟩, ⟨v, hv, by rw [HE.out]; exact hrow, trivial⟩, hbn, hbp, hB⟩
    | false =>
      rw [hbx] at hhas
      have HAS := Lib.hid hhas
      clear hhas
      have hE := onesA_hit pre (x := ⟨x, hxn⟩) hbx
      have HE := Lib.hid hE
      clear hE hbx
      have hk1 : (onesA (bitOf Tb) pre).length + 1 ≤ maxLen := by unfold maxLen; omega
      have hk2 : ((onesA (bitOf Tb) pre).length + 1) * 8 ≤ 140737488355328 := by omega
      have s6 : IntKind.i64.wrap ((x : Int) + 1) = (x : Int) + 1 := IntWalk.i64_in _ (by omega)
      gi_wp2_with (first | (refine ⟨trivial, ?_⟩; gi_at_call 135; refine (CallsIn.inRound l (callsIn_wide.2 HAS.out)).mono ?_; rintro e W2 ⟨rfl, rfl⟩) | (gi_at_builtin; refine wpListIn_append_own _ rfl _ _ 78 rfl w.heap.size 3 i0 (.int .i64 0) 1 8 Try.underlying78 hi hz0 hz1 hz2 rfl (by decide) _ _ _ rfl (hrow.alloc _) ⟨W.heap.size, 0, none⟩ 1 1 [.int .i64 ((x : Int) + 1)] rfl rfl (cell_one_new _ _ _) (by simp [Value.oneCell']) hk1 hk2 (by have := hB.size; simp; omega) ?_; intro v' w1 hown' hgrow _; obtain ⟨g', cap', rfl⟩ := ownsRow_succ hown'; obtain ⟨hv1, hv2, hr2, hk3, hb2⟩ := hv.appended (by decide) hrow hB.size (by omega) hown' hgrow; have hc1 := hv1.cell; have hf1 := hv1.frozen))
      have q1 := boxed_past (v' := .slice (some ⟨g', 0, none⟩) ((onesA (bitOf Tb) pre).length + 1) cap') (B := w.heap.size + 1) hbn (by decide) hrow hgrow (by omega)
      have q2 := boxed_past (v' := .slice (some ⟨g', 0, none⟩) ((onesA (bitOf Tb) pre).length + 1) cap') (B := w.heap.size + 1) hbp (by decide) hrow hgrow (by omega)
      exact ⟨hk3.from _, ⟨hb2, fun _ => q1.cell⟩, ⟨_, hv2, by rw [HE.out]; simpa using hr2, trivial⟩, q1, q2, hB.trans hb2⟩
  case done =>
    rintro D ys W hD hys ⟨⟨v, hv, hrow, -⟩, hbn, hbp, hB⟩ hK
    have hc := hv.cell
    go_wp2_with fail
    refine ⟨by simp, .inl ⟨_, _, rfl, run_takeDeferred hK, ?_⟩⟩
    rw [onesA_all _ _ _ hys] at hrow
    exact ⟨_, results_tmp rfl _ _ _, v, rfl, ownsRow_putObj hrow _ hK rfl, hB.trans (belowK_b (w := w) (Nat.le_refl _) W D _ _ (by omega) hK rfl rfl)⟩
  case stop =>
    rintro D c pre W _ _ h _
    exact h.elim
end Go.Proofs.Ytljbehndnledpaa
