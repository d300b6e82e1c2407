/- The walk of yesteryearref13.Plain, of an operation that may be. Conditions: those of the theorem. Printed by wip/mkplain.py. -/
import Derived.Test.YtljbehndnledpaaScriptRead
namespace Go.Proofs.Ytljbehndnledpaa
open Go.RowKit

/-- Things appended to a slice of the call's own out of a slice that reads (of one cell each). -/
theorem app_sl {w : World} {base t e : Nat} {i0 : TypeInfo} {z : Value} {bytes : Nat} (ht : Try.prog.underlying t = some (.slice e)) (hi : Try.prog.info? e = some i0) (hz0 : i0.zero = some z) (hz1 : i0.size = 1) (hz2 : i0.bytes = bytes) (hzc : z.cells.size = 1)
    {v : Value} {n : Nat} {xs : List Value} (hown : w.ownsRow base e 1 v n xs) {b o m : Nat} (c : Nat) {ys : List Value} (hs : Sl w (some ⟨b, o, none⟩) m ys) (hone : ∀ u ∈ ys, u.oneCell' = true)
    (hlen : n + m ≤ 1000000000) (hby : (n + m) * bytes ≤ 140737488355328) (hbase : base ≤ w.heap.size) :
    ∃ v' w', (Builtin.append_ #[t, t] t #[v, .slice (some ⟨b, o, none⟩) m c]).run Try.prog w = .ok v' w' ∧ w'.ownsRow base e 1 v' (n + m) (xs ++ ys) ∧ w.grownBy w' v.ownBlock := by
  obtain ⟨v', w', hr, h2, h3, _⟩ := run_append_own (P := Try.prog) w base t t e i0 z 1 bytes ht hi hz0 hz1 hz2 hzc (by decide) v n xs hown ⟨b, o, none⟩ m c ys (by rw [hs.1]; omega) (fun j u hu => by
    obtain ⟨b', o', ha, hc⟩ := hs.2 j u hu
    cases ha
    have hadd : (⟨b, o, none⟩ : Addr).add j = ⟨b, o + j, none⟩ := by unfold Addr.add; split <;> simp_all
    rw [hadd]; exact hc) hone (by unfold maxLen; omega) hby hbase
  exact ⟨v', w', hr, h2, h3⟩

theorem res55 (tmps : Array Value) (R : Nat) (cs : Array Value) (W : World) (h2 : tmps[2]? = some (.pointer (some ⟨R, 0, none⟩))) (h : W.heap[R]? = some (.cells cs 80 (0, 0))) (hs : cs.size = 8) :
    (results Try.f55 tmps).run Try.prog W = .ok (.agg cs) W := by
  have h1 := run_loadVar_row (P := Try.prog) W R 80 80 cs (0, 0) _ h Try.underlying80 rfl (by rw [hs]; exact info80)
  simp [results, Try.results55, asAddr, h2, h1]

/-- What an operation of the call's own comes to. -/
def OpEnds (o : PO) (w : World) (e : Ending) (w' : World) : Prop :=
  ∃ dv mv, e = .returned (opV o dv mv) ∧ w'.ownsRow w.heap.size 5 1 dv o.d.length (cellsOfB o.d) ∧ w'.ownsRow w.heap.size 3 1 mv o.m.length (o.m.map (.int .i64)) ∧ Below w.heap.size w w'

set_option maxRecDepth 100000 in
set_option maxHeartbeats 8000000 in
theorem refPlain_any (k v i b n pt : Int) (d : List UInt8) (m : List Int) (da ma : Option Addr) (dn dc mn mc : Nat) (w : World) (hr : PO.right ⟨k, v, i, b, n, pt, d, m⟩ = true) (hd : Bs w da dn d) (hm : Is .i64 w ma mn m) :
    Calls Try.prog 55 #[.agg #[.int .i64 k, .int .i64 v, .int .i64 i, .int .i64 b, .int .i64 n, .int .u64 pt, .slice da dn dc, .slice ma mn mc]] w (OpEnds (PO.plain ⟨k, v, i, b, n, pt, d, m⟩) w) := by
  obtain ⟨j0, ji, jz0, jz1, jz2⟩ := info_parts info3
  have hm0 : m.length = mn := hm.len
  have hdl : d.length = dn := by have := hd.len; simpa using this
  have hb : Below w.heap.size w (((w.alloc (.cells #[.int .i64 k, .int .i64 v, .int .i64 i, .int .i64 b, .int .i64 n, .int .u64 pt, .slice da dn dc, .slice ma mn mc] 80)).alloc (.cells #[.int .i64 0, .int .i64 0, .int .i64 0, .int .i64 0, .int .i64 0, .int .u64 0, .slice none 0 0, .slice none 0 0] 80)).alloc (.cells #[.int .i64 k, .int .i64 0, .int .i64 0, .int .i64 0, .int .i64 0, .int .u64 0, .slice none 0 0, .slice none 0 0] 80)) := (((Below.refl _ _).alloc (Nat.le_refl _) _).alloc (by simp) _).alloc (by simp; omega) _
  have hc8 : Cells8 (((w.alloc (.cells #[.int .i64 k, .int .i64 v, .int .i64 i, .int .i64 b, .int .i64 n, .int .u64 pt, .slice da dn dc, .slice ma mn mc] 80)).alloc (.cells #[.int .i64 0, .int .i64 0, .int .i64 0, .int .i64 0, .int .i64 0, .int .u64 0, .slice none 0 0, .slice none 0 0] 80)).alloc (.cells #[.int .i64 k, .int .i64 0, .int .i64 0, .int .i64 0, .int .i64 0, .int .u64 0, .slice none 0 0, .slice none 0 0] 80)) w.heap.size k v i b n pt (.slice da dn dc) (.slice ma mn mc) :=
    (Cells8.new w k v i b n pt (.slice da dn dc) (.slice ma mn mc)).below (((Below.refl _ _).alloc (Nat.le_refl _) _).alloc (by simp) _) (by simp)
  have hRz : (((w.alloc (.cells #[.int .i64 k, .int .i64 v, .int .i64 i, .int .i64 b, .int .i64 n, .int .u64 pt, .slice da dn dc, .slice ma mn mc] 80)).alloc (.cells #[.int .i64 0, .int .i64 0, .int .i64 0, .int .i64 0, .int .i64 0, .int .u64 0, .slice none 0 0, .slice none 0 0] 80)).alloc (.cells #[.int .i64 k, .int .i64 0, .int .i64 0, .int .i64 0, .int .i64 0, .int .u64 0, .slice none 0 0, .slice none 0 0] 80)).heap[w.heap.size + 1]? = some (.cells zeroA 80 (0, 0)) := by
    rw [heap_alloc_old _ _ (by simp)]
    have := heap_alloc_new (w.alloc (.cells #[.int .i64 k, .int .i64 v, .int .i64 i, .int .i64 b, .int .i64 n, .int .u64 pt, .slice da dn dc, .slice ma mn mc] 80)) (.cells #[.int .i64 0, .int .i64 0, .int .i64 0, .int .i64 0, .int .i64 0, .int .u64 0, .slice none 0 0, .slice none 0 0] 80)
    rw [show (w.alloc (.cells #[.int .i64 k, .int .i64 v, .int .i64 i, .int .i64 b, .int .i64 n, .int .u64 pt, .slice da dn dc, .slice ma mn mc] 80)).heap.size = w.heap.size + 1 by simp] at this
    exact this
  have hO0 : Opc (((w.alloc (.cells #[.int .i64 k, .int .i64 v, .int .i64 i, .int .i64 b, .int .i64 n, .int .u64 pt, .slice da dn dc, .slice ma mn mc] 80)).alloc (.cells #[.int .i64 0, .int .i64 0, .int .i64 0, .int .i64 0, .int .i64 0, .int .u64 0, .slice none 0 0, .slice none 0 0] 80)).alloc (.cells #[.int .i64 k, .int .i64 0, .int .i64 0, .int .i64 0, .int .i64 0, .int .u64 0, .slice none 0 0, .slice none 0 0] 80)) (w.heap.size + 2) (PO.of k) := by
    have := Opc.of_new ((w.alloc (.cells #[.int .i64 k, .int .i64 v, .int .i64 i, .int .i64 b, .int .i64 n, .int .u64 pt, .slice da dn dc, .slice ma mn mc] 80)).alloc (.cells #[.int .i64 0, .int .i64 0, .int .i64 0, .int .i64 0, .int .i64 0, .int .u64 0, .slice none 0 0, .slice none 0 0] 80)) k
    rw [show ((w.alloc (.cells #[.int .i64 k, .int .i64 v, .int .i64 i, .int .i64 b, .int .i64 n, .int .u64 pt, .slice da dn dc, .slice ma mn mc] 80)).alloc (.cells #[.int .i64 0, .int .i64 0, .int .i64 0, .int .i64 0, .int .i64 0, .int .u64 0, .slice none 0 0, .slice none 0 0] 80)).heap.size = w.heap.size + 2 by simp] at this
    exact this
  have hsz : (((w.alloc (.cells #[.int .i64 k, .int .i64 v, .int .i64 i, .int .i64 b, .int .i64 n, .int .u64 pt, .slice da dn dc, .slice ma mn mc] 80)).alloc (.cells #[.int .i64 0, .int .i64 0, .int .i64 0, .int .i64 0, .int .i64 0, .int .u64 0, .slice none 0 0, .slice none 0 0] 80)).alloc (.cells #[.int .i64 k, .int .i64 0, .int .i64 0, .int .i64 0, .int .i64 0, .int .u64 0, .slice none 0 0, .slice none 0 0] 80)).heap.size = w.heap.size + 3 := by simp
  obtain ⟨hk, hall⟩ := PO.right_all hr
  have hlet := looks_letters k
  have hL3 := (looks_all k).2
  have hlooks := looks_any k
  have hPL : PO.plain ⟨k, v, i, b, n, pt, d, m⟩ = (looksL k).foldl (PO.put ⟨k, v, i, b, n, pt, d, m⟩) (PO.of k) := rfl
  have HPUT := Lib.hid (show ∀ p : PO, PO.put ⟨k, v, i, b, n, pt, d, m⟩ p 118 = { p with v := v } ∧ PO.put ⟨k, v, i, b, n, pt, d, m⟩ p 105 = { p with i := i } ∧ PO.put ⟨k, v, i, b, n, pt, d, m⟩ p 98 = { p with b := b } ∧ PO.put ⟨k, v, i, b, n, pt, d, m⟩ p 110 = { p with n := n } ∧ PO.put ⟨k, v, i, b, n, pt, d, m⟩ p 112 = { p with pt := pt } ∧ PO.put ⟨k, v, i, b, n, pt, d, m⟩ p 100 = { p with d := d } ∧ PO.put ⟨k, v, i, b, n, pt, d, m⟩ p 109 = { p with m := m } from fun p => ⟨rfl, rfl, rfl, rfl, rfl, rfl, rfl⟩)
  obtain ⟨RS, hRS⟩ : ∃ RS, RS = PO.plain ⟨k, v, i, b, n, pt, d, m⟩ := ⟨_, rfl⟩
  rw [← hRS]
  rw [hPL] at hRS
  have HRS := Lib.hid hRS
  unfold OpEnds
  clear hRS hPL
  generalize PO.put ⟨k, v, i, b, n, pt, d, m⟩ = F at *
  have HDL := Lib.hid hdl
  have HML := Lib.hid hm0
  clear hdl hm0
  have HALL := Lib.hid hall
  have HLET := Lib.hid hlet
  have HLK := Lib.hid hlooks
  have HD := Lib.hid hd
  have HM := Lib.hid hm
  have HRz := Lib.hid hRz
  have HO0 := Lib.hid hO0
  have HC8 := Lib.hid hc8
  obtain ⟨c80, -⟩ := hc8
  have HSZ := Lib.hid hsz
  clear hall hlet hlooks hd hm hRz hO0 hr hk hsz
  go_enter Try.func55, Try.ntmps55
  go_wp2_with fail
  generalize ((w.alloc (.cells #[.int .i64 k, .int .i64 v, .int .i64 i, .int .i64 b, .int .i64 n, .int .u64 pt, .slice da dn dc, .slice ma mn mc] 80)).alloc (.cells #[.int .i64 0, .int .i64 0, .int .i64 0, .int .i64 0, .int .i64 0, .int .u64 0, .slice none 0 0, .slice none 0 0] 80)).alloc (.cells #[.int .i64 k, .int .i64 0, .int .i64 0, .int .i64 0, .int .i64 0, .int .u64 0, .slice none 0 0, .slice none 0 0] 80) = w1 at *
  refine (HLK.out _).mono ?_
  rintro e w2 ⟨rfl, hb2⟩
  have hsz1 := HSZ.out
  have hO2 := HO0.out.stays hb2 (Nat.le_refl _)
  clear hsz1
  generalize looksL k = L at *
  have HO2 := Lib.hid hO2
  clear hO2
  go_wp2_with fail
  go_loopw [6] (fun u6 wr => ∃ j : Nat, j ≤ L.length ∧ u6 = .int .i64 j ∧ Opc wr (w.heap.size + 2) ((L.take j).foldl F (PO.of k)) ∧ Below (w.heap.size + 2) w1 wr) (fun u6 _ => L.length - (intOf u6).toNat)
  case atStart => exact ⟨0, by omega, rfl, HO2.out, hb2.mono (by rw [HSZ.out]; omega)⟩
  case round =>
    obtain ⟨j, hj, rfl, hO, hbw⟩ := hrel
    by_cases hlt : j < L.length
    · obtain ⟨c, hc⟩ : ∃ c, L[j]? = some c := ⟨_, List.getElem?_eq_getElem hlt⟩
      have hmem := List.mem_of_getElem? hc
      have hok := HALL.out c hmem
      have hlet := HLET.out c hmem
      obtain ⟨z, hz⟩ : ∃ z : Int, z = (c.toNat : Int) := ⟨_, rfl⟩
      have hcb : ∀ h : j < (⟨L.toArray⟩ : ByteArray).size, (((⟨L.toArray⟩ : ByteArray)[j]'h).toNat : Int) = z := fun h => by rw [byteAt L j c hc, hz]
      have hNX : (L.take (j + 1)).foldl F (PO.of k) = F ((L.take j).foldl F (PO.of k)) c := by
        rw [List.take_add_one, hc, List.foldl_append]; rfl
      have HNX := Lib.hid hNX
      generalize (L.take j).foldl F (PO.of k) = q at *
      obtain ⟨d0, d1, d2, d3, d4, d5, d6, d7⟩ := HC8.out.below hbw (by omega)
      obtain ⟨dv, mv, hA, hdo, hmo⟩ := hO
      have hPlt : w.heap.size + 2 < wr.heap.size := (Array.getElem?_eq_some_iff.1 hA).1
      have hOlt : w.heap.size < wr.heap.size := by omega
      clear hNX hc hmem
      rcases hlet with rfl | rfl | rfl | rfl | rfl | rfl | rfl
      · have hz' : z = 118 := hz
        subst hz'
        clear hz hok
        obtain ⟨e0, f0⟩ := row_cells hA 1 _ rfl
        have hA2 := heap_setCell_same wr (w.heap.size + 2) 1 _ 80 (.int .i64 v) hA
        have HA2 := Lib.hid hA2
        have HDO := Lib.hid hdo
        have HMO := Lib.hid hmo
        clear hA2 hA hdo hmo
        go_wp2_with fail
        exact ⟨⟨j + 1, by omega, by go_num, by rw [HNX.out, (HPUT.out q).1]; exact ⟨dv, mv, HA2.out, owns_setCell (A := w.heap.size + 2) HDO.out (by omega) _ _, owns_setCell (A := w.heap.size + 2) HMO.out (by omega) _ _⟩, below_set hbw _ _⟩, by simp [intOf]; omega⟩
      · have hz' : z = 105 := hz
        subst hz'
        clear hz hok
        obtain ⟨e0, f0⟩ := row_cells hA 2 _ rfl
        have hA2 := heap_setCell_same wr (w.heap.size + 2) 2 _ 80 (.int .i64 i) hA
        have HA2 := Lib.hid hA2
        have HDO := Lib.hid hdo
        have HMO := Lib.hid hmo
        clear hA2 hA hdo hmo
        go_wp2_with fail
        exact ⟨⟨j + 1, by omega, by go_num, by rw [HNX.out, (HPUT.out q).2.1]; exact ⟨dv, mv, HA2.out, owns_setCell (A := w.heap.size + 2) HDO.out (by omega) _ _, owns_setCell (A := w.heap.size + 2) HMO.out (by omega) _ _⟩, below_set hbw _ _⟩, by simp [intOf]; omega⟩
      · have hz' : z = 98 := hz
        subst hz'
        clear hz hok
        obtain ⟨e0, f0⟩ := row_cells hA 3 _ rfl
        have hA2 := heap_setCell_same wr (w.heap.size + 2) 3 _ 80 (.int .i64 b) hA
        have HA2 := Lib.hid hA2
        have HDO := Lib.hid hdo
        have HMO := Lib.hid hmo
        clear hA2 hA hdo hmo
        go_wp2_with fail
        exact ⟨⟨j + 1, by omega, by go_num, by rw [HNX.out, (HPUT.out q).2.2.1]; exact ⟨dv, mv, HA2.out, owns_setCell (A := w.heap.size + 2) HDO.out (by omega) _ _, owns_setCell (A := w.heap.size + 2) HMO.out (by omega) _ _⟩, below_set hbw _ _⟩, by simp [intOf]; omega⟩
      · have hz' : z = 110 := hz
        subst hz'
        clear hz hok
        obtain ⟨e0, f0⟩ := row_cells hA 4 _ rfl
        have hA2 := heap_setCell_same wr (w.heap.size + 2) 4 _ 80 (.int .i64 n) hA
        have HA2 := Lib.hid hA2
        have HDO := Lib.hid hdo
        have HMO := Lib.hid hmo
        clear hA2 hA hdo hmo
        go_wp2_with fail
        exact ⟨⟨j + 1, by omega, by go_num, by rw [HNX.out, (HPUT.out q).2.2.2.1]; exact ⟨dv, mv, HA2.out, owns_setCell (A := w.heap.size + 2) HDO.out (by omega) _ _, owns_setCell (A := w.heap.size + 2) HMO.out (by omega) _ _⟩, below_set hbw _ _⟩, by simp [intOf]; omega⟩
      · have hz' : z = 112 := hz
        subst hz'
        clear hz hok
        obtain ⟨e0, f0⟩ := row_cells hA 5 _ rfl
        have hA2 := heap_setCell_same wr (w.heap.size + 2) 5 _ 80 (.int .u64 pt) hA
        have HA2 := Lib.hid hA2
        have HDO := Lib.hid hdo
        have HMO := Lib.hid hmo
        clear hA2 hA hdo hmo
        go_wp2_with fail
        exact ⟨⟨j + 1, by omega, by go_num, by rw [HNX.out, (HPUT.out q).2.2.2.2.1]; exact ⟨dv, mv, HA2.out, owns_setCell (A := w.heap.size + 2) HDO.out (by omega) _ _, owns_setCell (A := w.heap.size + 2) HMO.out (by omega) _ _⟩, below_set hbw _ _⟩, by simp [intOf]; omega⟩
      · have hz' : z = 100 := hz
        subst hz'
        clear hz
        have hd1 : 1 ≤ dn := by simp [mayO, okData, HDL.out] at hok; omega
        have hdn : dn ≤ 64 := by simp [mayO, okData, HDL.out] at hok; omega
        clear hok
        have hdw : Bs wr da dn d := Is.below HD.out (hb.trans (hbw.mono (by omega))) (Nat.le_refl _)
        obtain ⟨bb, oo, rfl, -⟩ := hdw.at (by omega)
        obtain ⟨v', w', hap, hown', hbl'⟩ := clone_run dc hdw (by omega)
        obtain ⟨sa, sc, rfl, -, -⟩ := own_sl hown'
        have hA' := heap_below hA hbl' (Nat.le_refl _)
        obtain ⟨e0, f0⟩ := row_cells hA' 6 _ rfl
        have hmo' := ownsRow_below hmo hbl' (Nat.le_refl _)
        have hA2 := fun x => heap_setCell_same w' (w.heap.size + 2) 6 _ 80 x hA'
        have HA2 := Lib.hid hA2
        have HDO := Lib.hid (ownsRow_base hown' (show w.heap.size + 2 + 1 ≤ wr.heap.size by omega))
        have HMO := Lib.hid hmo'
        have hbw' := hbw.trans (hbl'.mono (by omega))
        clear hA2 hA hdo hmo hmo' hA' hown' hdw
        go_wp2_with (at_builtin; refine wpList_append_run rfl _ _ _ rfl hap ?_)
        exact ⟨⟨j + 1, by omega, by go_num, by rw [HNX.out, (HPUT.out q).2.2.2.2.2.1]; exact ⟨_, mv, HA2.out _, owns_setCell (A := w.heap.size + 2) HDO.out (by omega) _ _, owns_setCell (A := w.heap.size + 2) HMO.out (by omega) _ _⟩, below_set hbw' _ _⟩, by simp [intOf]; omega⟩
      · have hz' : z = 109 := hz
        subst hz'
        clear hz
        have hm1 : 1 ≤ mn := by simp [mayO, okMem, HML.out] at hok; omega
        have hmn : mn ≤ 8 := by simp [mayO, okMem, HML.out] at hok; omega
        clear hok
        have hmw : Is .i64 wr ma mn m := Is.below HM.out (hb.trans (hbw.mono (by omega))) (Nat.le_refl _)
        obtain ⟨bb, oo, rfl, -⟩ := hmw.at (by omega)
        have hb0 : Below wr.heap.size wr (wr.alloc (.cells #[] 3)) := (Below.refl _ _).alloc (Nat.le_refl _) _
        have hmade : (wr.alloc (.cells #[] 3)).ownsRow wr.heap.size 3 1 (.slice (some ⟨wr.heap.size, 0, none⟩) 0 0) 0 [] := World.ownsRow_made wr #[] 0 (Nat.le_refl _) (Nat.zero_le _) (by simp)
        obtain ⟨v', w', hap, hown', hgr⟩ := app_sl Try.underlying78 ji jz0 jz1 jz2 rfl hmade mc (Sl.below hmw hb0 (Nat.le_refl _)) (by intro u hu; simp at hu; obtain ⟨x, _, rfl⟩ := hu; rfl) (by omega) (by omega) hb0.size
        have hbl' : Below wr.heap.size wr w' := Below.own hb0 hmade hgr (Nat.le_refl _) hb0.size
        rw [Nat.zero_add, List.nil_append] at hown'
        obtain ⟨sa, sc, rfl, -, -⟩ := own_sl hown'
        have hA' := heap_below hA hbl' (Nat.le_refl _)
        obtain ⟨e0, f0⟩ := row_cells hA' 7 _ rfl
        have hdo' := ownsRow_below hdo hbl' (Nat.le_refl _)
        have hA2 := fun x => heap_setCell_same w' (w.heap.size + 2) 7 _ 80 x hA'
        have HA2 := Lib.hid hA2
        have HMO := Lib.hid (ownsRow_base hown' (show w.heap.size + 2 + 1 ≤ wr.heap.size by omega))
        have HDO := Lib.hid hdo'
        have hbw' := hbw.trans (hbl'.mono (by omega))
        clear hA2 hA hdo hmo hdo' hA' hown' hmw hmade
        go_wp2_with (at_builtin; refine wpList_append_run rfl _ _ _ rfl hap ?_)
        exact ⟨⟨j + 1, by omega, by go_num, by rw [HNX.out, (HPUT.out q).2.2.2.2.2.2]; exact ⟨dv, _, HA2.out _, owns_setCell (A := w.heap.size + 2) HDO.out (by omega) _ _, owns_setCell (A := w.heap.size + 2) (by simpa [HML.out] using HMO.out) (by omega) _ _⟩, below_set hbw' _ _⟩, by simp [intOf]; omega⟩
    · obtain rfl : j = L.length := by omega
      rw [List.take_length, ← HRS.out] at hO

      obtain ⟨dv, mv, hA8, hd8, hm8⟩ := hO
      obtain ⟨sa, sc, rfl, hds, -⟩ := own_sl hd8
      obtain ⟨sma, smc, rfl, hms, -⟩ := own_sl hm8
      have hRx : wr.heap[w.heap.size + 1]? = some (.cells zeroA 80 (0, 0)) := by rw [hbw.block _ (by omega)]; exact HRz.out
      have HRx := Lib.hid hRx
      have HA8 := Lib.hid hA8
      have HD8 := Lib.hid hd8
      have HM8 := Lib.hid hm8
      clear hRx hA8 hd8 hm8 hds hms
      go_wp2_with (first
        | ((with_reducible show wpList _ _ _ ({ dst := _, op := Op.load 80 (Operand.tmp 3), type := _, pos := _, after := _, guard := _ } :: _) _ _); refine wpList_load_row rfl 80 _ rfl (w.heap.size + 2) rfl 80 _ (0, 0) _ HA8.out Try.underlying80 rfl info80 ?_)
        | ((with_reducible show wpList _ _ _ ({ dst := _, op := Op.store 80 (Operand.tmp 2) _, type := _, pos := _, after := _, guard := _ } :: _) _ _); refine wpList_store_row rfl 80 _ _ rfl (w.heap.size + 1) _ rfl rfl 80 _ HRx.out info80 rfl (opA_one _ _ _ _ _ _ _ _ _ _ _ _) ?_))
      exact bodyPost_ret (res55 _ (w.heap.size + 1) _ _ rfl (setRow_heap _ _ _ _ _ _ HRx.out) rfl) rfl ⟨_, _, rfl, ownsRow_base (owns_setRow (g := w.heap.size + 1) HD8.out (by omega) _) (show w.heap.size ≤ w.heap.size + 2 + 1 by omega), ownsRow_base (owns_setRow (g := w.heap.size + 1) HM8.out (by omega) _) (show w.heap.size ≤ w.heap.size + 2 + 1 by omega), below_setRow (hb.trans (hbw.mono (by omega))) (by omega) _⟩
end Go.Proofs.Ytljbehndnledpaa
