/- The walk of script.set: an operation in memory takes what a word says. Conditions: those of each theorem. Printed by wip/mkset.py. -/
import Derived.Test.YtljbehndnledpaaScriptSmall
import Derived.Test.YtljbehndnledpaaOpWords
namespace Go.Proofs.Ytljbehndnledpaa
open Go.RowKit

/-- An operation in memory, in a block of its own; what it points to lies behind it. -/
def Opc (w : World) (A : Nat) (o : PO) : Prop :=
  ∃ dv mv, w.heap[A]? = some (.cells #[.int .i64 o.k, .int .i64 o.v, .int .i64 o.i, .int .i64 o.b, .int .i64 o.n, .int .u64 o.pt, dv, mv] 80 (0, 0)) ∧
    w.ownsRow (A + 1) 5 1 dv o.d.length (cellsOfB o.d) ∧ w.ownsRow (A + 1) 3 1 mv o.m.length (o.m.map (.int .i64))

theorem owns_setCell {w : World} {base A : Nat} {e : TypeId} {size n : Nat} {v : Value} {xs : List Value} (h : w.ownsRow base e size v n xs) (hA : A < base) (j : Nat) (x : Value) : (w.setCell ⟨A, j, none⟩ x).ownsRow base e size v n xs := by
  refine ⟨h.1, ?_⟩
  rcases h.2 with h2 | ⟨g, cap, cur, hv, hg, hh, r⟩
  · exact .inl h2
  · exact .inr ⟨g, cap, cur, hv, hg, by rw [heap_setCell_other _ _ _ _ (by show g ≠ A; omega)]; exact hh, r⟩

theorem below_set {A : Nat} {w w1 : World} (h : Below A w w1) (j : Nat) (x : Value) : Below A w (w1.setCell ⟨A, j, none⟩ x) := h.setCell (p := ⟨A, j, none⟩) (Nat.le_refl A) x

/-- Two rows of unlike elements lie apart. -/
theorem owns_apart {w : World} {b1 b2 : Nat} {e1 e2 : TypeId} {s1 s2 n1 n2 : Nat} {v1 v2 : Value} {x1 x2 : List Value} (h1 : w.ownsRow b1 e1 s1 v1 n1 x1) (h2 : w.ownsRow b2 e2 s2 v2 n2 x2) (he : e1 ≠ e2) : v1.ownBlock = none ∨ v1.ownBlock ≠ v2.ownBlock := by
  rcases h1.2 with ⟨rfl, -⟩ | ⟨g, cap, cur, rfl, hg, hh, r⟩
  · exact .inl rfl
  · right
    intro e
    rcases h2.2 with ⟨rfl, -⟩ | ⟨g', cap', cur', rfl, hg', hh', r'⟩
    · cases e
    · simp only [Value.ownBlock, Option.some.injEq] at e
      subst e
      rw [hh] at hh'
      simp only [Option.some.injEq, Obj.cells.injEq] at hh'
      exact he hh'.2.1

def SetEnds (A : Nat) (o : PO) (c : UInt8) (s : List UInt8) (w : World) (e : Ending) (w' : World) : Prop :=
  Below A w w' ∧ ((o.set c s = none ∧ e = .returned (.bool false)) ∨ ∃ q, o.set c s = some q ∧ e = .returned (.bool true) ∧ Opc w' A q)

theorem row_cells {w : World} {A : Nat} {cs : Array Value} {t : TypeId} (h : w.heap[A]? = some (.cells cs t (0, 0))) : ∀ j x, cs[j]? = some x → w.cell? ⟨A, j, none⟩ = some x ∧ w.frozen? ⟨A, j, none⟩ = false := by
  intro j x hx
  exact ⟨by rw [cell_of_row w A j cs t (0, 0) h]; exact hx, frozen_of_row w A j cs t h⟩

set_option maxRecDepth 100000 in
set_option maxHeartbeats 2000000 in
theorem set_v_any (A : Nat) (o : PO) (s : ByteArray) (w : World) (hs : s.size ≤ 1000000) (ho : Opc w A o) :
    Calls Try.prog 120 #[.pointer (some ⟨A, 0, none⟩), .int .u8 118, .string s] w (SetEnds A o 118 s.data.toList w) := by
  obtain ⟨dv, mv, hA, hd, hm⟩ := ho
  obtain ⟨c0, f0⟩ := row_cells hA 1 _ rfl
  have hq := small_any s w (by unfold maxLen; omega)
  have hset : o.set 118 s.data.toList = if smallL s.data.toList < 0 then none else some { o with v := smallL s.data.toList } := rfl
  obtain ⟨r, hr⟩ : ∃ r, r = o.set 118 s.data.toList := ⟨_, rfl⟩
  unfold SetEnds
  rw [← hr] at hset ⊢
  have hA2 := fun x : Int => heap_setCell_same w A 1 _ 80 (.int .i64 x) hA
  have HA := Lib.hid hA2
  have HD := Lib.hid hd
  have HM := Lib.hid hm
  have HQ := Lib.hid hq
  generalize smallL s.data.toList = z at *
  have HS := Lib.hid hset
  clear hset hr hq hA hd hm hA2
  by_cases hz : z < 0
  all_goals
    go_enter Try.func120, Try.ntmps120
    go_wp2_with fail
    refine HQ.out.mono ?_
    rintro e w1 ⟨rfl, rfl⟩
    go_wp2_with fail
    go_ret
    refine ⟨below_set (Below.refl _ _) _ _, ?_⟩
  · exact .inl ⟨by rw [HS.out, if_pos (by omega)], by simp; omega⟩
  · exact .inr ⟨{ o with v := z }, by rw [HS.out, if_neg (by omega)], by simp <;> omega, dv, mv, HA.out z, owns_setCell HD.out (by omega) _ _, owns_setCell HM.out (by omega) _ _⟩

set_option maxRecDepth 100000 in
set_option maxHeartbeats 2000000 in
theorem set_i_any (A : Nat) (o : PO) (s : ByteArray) (w : World) (hs : s.size ≤ 1000000) (ho : Opc w A o) :
    Calls Try.prog 120 #[.pointer (some ⟨A, 0, none⟩), .int .u8 105, .string s] w (SetEnds A o 105 s.data.toList w) := by
  obtain ⟨dv, mv, hA, hd, hm⟩ := ho
  obtain ⟨c0, f0⟩ := row_cells hA 2 _ rfl
  have hq := small_any s w (by unfold maxLen; omega)
  have hset : o.set 105 s.data.toList = if smallL s.data.toList < 0 then none else some { o with i := smallL s.data.toList } := rfl
  obtain ⟨r, hr⟩ : ∃ r, r = o.set 105 s.data.toList := ⟨_, rfl⟩
  unfold SetEnds
  rw [← hr] at hset ⊢
  have hA2 := fun x : Int => heap_setCell_same w A 2 _ 80 (.int .i64 x) hA
  have HA := Lib.hid hA2
  have HD := Lib.hid hd
  have HM := Lib.hid hm
  have HQ := Lib.hid hq
  generalize smallL s.data.toList = z at *
  have HS := Lib.hid hset
  clear hset hr hq hA hd hm hA2
  by_cases hz : z < 0
  all_goals
    go_enter Try.func120, Try.ntmps120
    go_wp2_with fail
    refine HQ.out.mono ?_
    rintro e w1 ⟨rfl, rfl⟩
    go_wp2_with fail
    go_ret
    refine ⟨below_set (Below.refl _ _) _ _, ?_⟩
  · exact .inl ⟨by rw [HS.out, if_pos (by omega)], by simp; omega⟩
  · exact .inr ⟨{ o with i := z }, by rw [HS.out, if_neg (by omega)], by simp <;> omega, dv, mv, HA.out z, owns_setCell HD.out (by omega) _ _, owns_setCell HM.out (by omega) _ _⟩

set_option maxRecDepth 100000 in
set_option maxHeartbeats 2000000 in
theorem set_b_any (A : Nat) (o : PO) (s : ByteArray) (w : World) (hs : s.size ≤ 1000000) (ho : Opc w A o) :
    Calls Try.prog 120 #[.pointer (some ⟨A, 0, none⟩), .int .u8 98, .string s] w (SetEnds A o 98 s.data.toList w) := by
  obtain ⟨dv, mv, hA, hd, hm⟩ := ho
  obtain ⟨c0, f0⟩ := row_cells hA 3 _ rfl
  have hq := small_any s w (by unfold maxLen; omega)
  have hset : o.set 98 s.data.toList = if smallL s.data.toList < 0 then none else some { o with b := smallL s.data.toList } := rfl
  obtain ⟨r, hr⟩ : ∃ r, r = o.set 98 s.data.toList := ⟨_, rfl⟩
  unfold SetEnds
  rw [← hr] at hset ⊢
  have hA2 := fun x : Int => heap_setCell_same w A 3 _ 80 (.int .i64 x) hA
  have HA := Lib.hid hA2
  have HD := Lib.hid hd
  have HM := Lib.hid hm
  have HQ := Lib.hid hq
  generalize smallL s.data.toList = z at *
  have HS := Lib.hid hset
  clear hset hr hq hA hd hm hA2
  by_cases hz : z < 0
  all_goals
    go_enter Try.func120, Try.ntmps120
    go_wp2_with fail
    refine HQ.out.mono ?_
    rintro e w1 ⟨rfl, rfl⟩
    go_wp2_with fail
    go_ret
    refine ⟨below_set (Below.refl _ _) _ _, ?_⟩
  · exact .inl ⟨by rw [HS.out, if_pos (by omega)], by simp; omega⟩
  · exact .inr ⟨{ o with b := z }, by rw [HS.out, if_neg (by omega)], by simp <;> omega, dv, mv, HA.out z, owns_setCell HD.out (by omega) _ _, owns_setCell HM.out (by omega) _ _⟩

set_option maxRecDepth 100000 in
set_option maxHeartbeats 2000000 in
theorem set_n_any (A : Nat) (o : PO) (s : ByteArray) (w : World) (hs : s.size ≤ 1000000) (ho : Opc w A o) :
    Calls Try.prog 120 #[.pointer (some ⟨A, 0, none⟩), .int .u8 110, .string s] w (SetEnds A o 110 s.data.toList w) := by
  obtain ⟨dv, mv, hA, hd, hm⟩ := ho
  obtain ⟨c0, f0⟩ := row_cells hA 4 _ rfl
  have hq := small_any s w (by unfold maxLen; omega)
  have hset : o.set 110 s.data.toList = if smallL s.data.toList < 0 then none else some { o with n := smallL s.data.toList } := rfl
  obtain ⟨r, hr⟩ : ∃ r, r = o.set 110 s.data.toList := ⟨_, rfl⟩
  unfold SetEnds
  rw [← hr] at hset ⊢
  have hA2 := fun x : Int => heap_setCell_same w A 4 _ 80 (.int .i64 x) hA
  have HA := Lib.hid hA2
  have HD := Lib.hid hd
  have HM := Lib.hid hm
  have HQ := Lib.hid hq
  generalize smallL s.data.toList = z at *
  have HS := Lib.hid hset
  clear hset hr hq hA hd hm hA2
  by_cases hz : z < 0
  all_goals
    go_enter Try.func120, Try.ntmps120
    go_wp2_with fail
    refine HQ.out.mono ?_
    rintro e w1 ⟨rfl, rfl⟩
    go_wp2_with fail
    go_ret
    refine ⟨below_set (Below.refl _ _) _ _, ?_⟩
  · exact .inl ⟨by rw [HS.out, if_pos (by omega)], by simp; omega⟩
  · exact .inr ⟨{ o with n := z }, by rw [HS.out, if_neg (by omega)], by simp <;> omega, dv, mv, HA.out z, owns_setCell HD.out (by omega) _ _, owns_setCell HM.out (by omega) _ _⟩

set_option maxRecDepth 100000 in
set_option maxHeartbeats 2000000 in
theorem set_p_any (A : Nat) (o : PO) (s : ByteArray) (w : World) (hs : s.size ≤ 1000000) (ho : Opc w A o) :
    Calls Try.prog 120 #[.pointer (some ⟨A, 0, none⟩), .int .u8 112, .string s] w (SetEnds A o 112 s.data.toList w) := by
  obtain ⟨dv, mv, hA, hd, hm⟩ := ho
  obtain ⟨c0, f0⟩ := row_cells hA 5 _ rfl
  have hq := small_any s w (by unfold maxLen; omega)
  have hq2 := read_any s w (by unfold maxLen; omega)
  have hset : o.set 112 s.data.toList = if (rd s.data.toList).2 = 0 then some { o with pt := ((rd s.data.toList).1 : Int) } else none := rfl
  obtain ⟨r, hr⟩ : ∃ r, r = o.set 112 s.data.toList := ⟨_, rfl⟩
  unfold SetEnds
  rw [← hr] at hset ⊢
  have hA2 := fun x : Int => heap_setCell_same w A 5 _ 80 (.int .u64 x) hA
  have HA := Lib.hid hA2
  have HD := Lib.hid hd
  have HM := Lib.hid hm
  have HQ := Lib.hid hq
  have HQ2 := Lib.hid hq2
  generalize smallL s.data.toList = z at *
  obtain ⟨n, er, h1, -, -, -⟩ := rd_cases s.data.toList
  generalize rd s.data.toList = x at *
  subst h1
  have HS := Lib.hid hset
  clear hset hr hq hq2 hA hd hm hA2
  by_cases hz : er = 0
  · have hz1 : ((er : Int) == 0) = true := by rw [beq_iff_eq]; omega
    go_enter Try.func120, Try.ntmps120
    go_wp2_with fail
    refine HQ.out.mono ?_
    rintro e w1 ⟨rfl, rfl⟩
    go_wp2_with fail
    refine HQ2.out.mono ?_
    rintro e w1 ⟨rfl, rfl⟩
    go_wp2_with fail
    go_ret
    refine ⟨below_set (Below.refl _ _) _ _, ?_⟩
    exact .inr ⟨{ o with pt := (n : Int) }, by rw [HS.out, if_pos hz], rfl, dv, mv, HA.out n, owns_setCell HD.out (by omega) _ _, owns_setCell HM.out (by omega) _ _⟩
  · have hz1 : ((er : Int) == 0) = false := by rw [beq_eq_false_iff_ne]; omega
    go_enter Try.func120, Try.ntmps120
    go_wp2_with fail
    refine HQ.out.mono ?_
    rintro e w1 ⟨rfl, rfl⟩
    go_wp2_with fail
    refine HQ2.out.mono ?_
    rintro e w1 ⟨rfl, rfl⟩
    go_wp2_with fail
    go_ret
    refine ⟨below_set (Below.refl _ _) _ _, ?_⟩
    exact .inl ⟨by rw [HS.out, if_neg hz], rfl⟩

theorem heap_below {w w' : World} {B A : Nat} {x : Obj} (h : w.heap[A]? = some x) (hb : Below B w w') (hB : w.heap.size ≤ B) : w'.heap[A]? = some x := by
  rw [hb.block A (by have := (Array.getElem?_eq_some_iff.1 h).1; omega)]; exact h

set_option maxRecDepth 100000 in
set_option maxHeartbeats 2000000 in
theorem set_d_any (A : Nat) (o : PO) (s : ByteArray) (w : World) (hs : s.size ≤ 1000000) (ho : Opc w A o) :
    Calls Try.prog 120 #[.pointer (some ⟨A, 0, none⟩), .int .u8 100, .string s] w (SetEnds A o 100 s.data.toList w) := by
  obtain ⟨dv, mv, hA, hd, hm⟩ := ho
  have hlt : A < w.heap.size := (Array.getElem?_eq_some_iff.1 hA).1
  have hq := small_any s w (by unfold maxLen; omega)
  have hq2 := unhex_any s w (by omega)
  have hset : o.set 100 s.data.toList = match unhex s.data.toList with | none => none | some d => some { o with d := d } := rfl
  obtain ⟨r, hr⟩ : ∃ r, r = o.set 100 s.data.toList := ⟨_, rfl⟩
  unfold SetEnds
  rw [← hr] at hset ⊢
  have HA := Lib.hid hA
  have HD := Lib.hid hd
  have HM := Lib.hid hm
  have HQ := Lib.hid hq
  have HQ2 := Lib.hid hq2
  generalize smallL s.data.toList = z at *
  have HS := Lib.hid hset
  clear hset hr hq hq2 hA hd hm
  go_enter Try.func120, Try.ntmps120
  go_wp2_with fail
  refine HQ.out.mono ?_
  rintro e w1 ⟨rfl, rfl⟩
  go_wp2_with fail
  refine HQ2.out.mono ?_
  rintro e w1 ⟨hb1, ⟨hu, rfl⟩ | ⟨b, v, hu, rfl, hown⟩⟩
  all_goals
    have hA1 := heap_below HA.out hb1 (Nat.le_refl _)
    obtain ⟨c0, f0⟩ := row_cells hA1 6 _ rfl
    have hA2 := fun x => heap_setCell_same w1 A 6 _ 80 x hA1
    have HA1 := Lib.hid hA1
    have HA2 := Lib.hid hA2
    have HU := Lib.hid hu
    clear hA1 hA2 hu
  · go_wp2_with fail
    go_ret
    exact ⟨below_set (hb1.mono (by omega)) _ _, .inl ⟨by rw [HS.out, HU.out], rfl⟩⟩
  · obtain ⟨sa, sc, rfl, -, -⟩ := own_sl hown
    have HO := Lib.hid hown
    clear hown
    go_wp2_with fail
    go_ret
    exact ⟨below_set (hb1.mono (by omega)) _ _, .inr ⟨{ o with d := b }, by rw [HS.out, HU.out], rfl, _, mv, HA2.out _, owns_setCell (ownsRow_base HO.out (by omega)) (by omega) _ _, owns_setCell (ownsRow_below HM.out hb1 (Nat.le_refl _)) (by omega) _ _⟩⟩

theorem info3 : (Try.prog.info? 3).map (fun i => (i.zero, i.size, i.bytes)) = some (some (.int .i64 0), 1, 8) := by kernel_rfl

set_option maxRecDepth 100000 in
set_option maxHeartbeats 2000000 in
theorem set_m_any (A : Nat) (o : PO) (s : ByteArray) (w : World) (hs : s.size ≤ 1000000) (ho : Opc w A o) (hml : o.m.length ≤ 1000000) :
    Calls Try.prog 120 #[.pointer (some ⟨A, 0, none⟩), .int .u8 109, .string s] w (SetEnds A o 109 s.data.toList w) := by
  obtain ⟨i0, hi, hz0, hz1, hz2⟩ := info_parts info3
  obtain ⟨dv, mv, hA, hd, hm⟩ := ho
  have hlt : A < w.heap.size := (Array.getElem?_eq_some_iff.1 hA).1
  obtain ⟨c0, f0⟩ := row_cells hA 7 _ rfl
  have hq := small_any s w (by unfold maxLen; omega)
  have hset : o.set 109 s.data.toList = if smallL s.data.toList < 0 then none else some { o with m := o.m ++ [smallL s.data.toList] } := rfl
  obtain ⟨r, hr⟩ : ∃ r, r = o.set 109 s.data.toList := ⟨_, rfl⟩
  unfold SetEnds
  rw [← hr] at hset ⊢
  generalize smallL s.data.toList = z at *
  obtain ⟨v', w', hap, hown', hgr, _⟩ := app_new (P := Try.prog) Try.underlying78 hi hz0 hz1 hz2 rfl (by decide) hm 1 [.int .i64 z] rfl (by simp [Value.oneCell']) (by unfold maxLen; omega) (by omega) (by omega)
  obtain ⟨sa, sc, rfl, -, -⟩ := own_sl hown'
  have hg2 : w'.heap[A]? = w.heap[A]? := hgr.block A hlt (fun e => by have := (hm.lt A e.symm).1; omega)
  have hbw : Below A w w' := (Below.refl A w).grown hgr (by omega) (fun k hk => by have := (hm.lt k hk).1; omega)
  have hd' : w'.ownsRow (A + 1) 5 1 dv o.d.length (cellsOfB o.d) := hd.kept hgr (owns_apart hd hm (by decide))
  rw [hA] at hg2
  obtain ⟨c1, f1⟩ := row_cells hg2 7 _ rfl
  have hA2 := fun x => heap_setCell_same w' A 7 _ 80 x hg2
  have HA := Lib.hid hA2
  have HD := Lib.hid hd'
  have HM := Lib.hid hown'
  have HQ := Lib.hid hq
  have HS := Lib.hid hset
  clear hset hr hq hA hd hm hA2 hd' hown' hg2 hgr
  by_cases hz : z < 0
  all_goals
    go_enter Try.func120, Try.ntmps120
    go_wp2_with fail
    refine HQ.out.mono ?_
    rintro e w1 ⟨rfl, rfl⟩
    go_wp2_with (at_builtin; refine wpList_append_run rfl _ _ _ rfl hap ?_)
    go_ret
    refine ⟨below_set hbw _ _, ?_⟩
  · exact .inl ⟨by rw [HS.out, if_pos (by omega)], by simp; omega⟩
  · exact .inr ⟨{ o with m := o.m ++ [z] }, by rw [HS.out, if_neg (by omega)], by simp <;> omega, dv, _, HA.out _, owns_setCell HD.out (by omega) _ _, by simpa using owns_setCell HM.out (by omega) _ _⟩
end Go.Proofs.Ytljbehndnledpaa
