/- The walk of yesteryearref29.Read. Conditions: those of the theorem. Printed by wip/mkrefread.py. -/
import Derived.Test.YtljbehndnledpaaRefGuess
import Derived.Test.YtljbehndnledpaaScriptAlive
namespace Go.Proofs.Ytljbehndnledpaa
open Go.RowKit

theorem res58 (tmps : Array Value) (R : Nat) (cs : Array Value) (x : Value) (W : World) (h2 : tmps[2]? = some (.pointer (some ⟨R, 0, none⟩))) (h3 : tmps[3]? = some x) (h : W.heap[R]? = some (.cells cs 80 (0, 0))) (hs : cs.size = 8) :
    (results Try.f58 tmps).run Try.prog W = .ok (.tuple #[.agg cs, x]) W := by
  have h1 := run_loadVar_row (P := Try.prog) W R 80 80 cs (0, 0) _ h Try.underlying80 rfl (by rw [hs]; exact info80)
  simp [results, Try.results58, asAddr, h2, h3, h1]
theorem right_len (o : PO) (h : o.right = true) (hp : o.plain = o) : o.d.length ≤ 64 ∧ o.m.length ≤ 8 := by
  obtain ⟨⟨h1, h2⟩, hall⟩ := PO.right_all h
  obtain ⟨k, v, i, b, n, pt, d, m⟩ := o
  simp only at h1 h2 hall ⊢
  have hd : 100 ∈ looksL k ∨ d = [] := by
    by_cases hm : 100 ∈ looksL k
    · exact .inl hm
    · right
      have e : (PO.plain ⟨k, v, i, b, n, pt, d, m⟩).d = [] := by
        rcases kinds k h1 h2 with rfl | rfl | rfl | rfl | rfl | rfl | rfl | rfl | rfl | rfl | rfl | rfl | rfl | rfl | rfl | rfl | rfl | rfl | rfl <;> first | rfl | exact absurd (by decide) hm
      rw [hp] at e
      exact e
  have hmm : 109 ∈ looksL k ∨ m = [] := by
    by_cases hm : 109 ∈ looksL k
    · exact .inl hm
    · right
      have e : (PO.plain ⟨k, v, i, b, n, pt, d, m⟩).m = [] := by
        rcases kinds k h1 h2 with rfl | rfl | rfl | rfl | rfl | rfl | rfl | rfl | rfl | rfl | rfl | rfl | rfl | rfl | rfl | rfl | rfl | rfl | rfl <;> first | rfl | exact absurd (by decide) hm
      rw [hp] at e
      exact e
  constructor
  · rcases hd with h | rfl
    · have := hall 100 h; simp [mayO, okData] at this; omega
    · simp
  · rcases hmm with h | rfl
    · have := hall 109 h; simp [mayO, okMem] at this; omega
    · simp

theorem guess_mlen (r : List (List UInt8)) (o : PO) (c : UInt8) (w : List UInt8) : (o.guess r c w).m.length ≤ o.m.length + r.length := by
  unfold PO.guess
  repeat' split
  all_goals simp
theorem guessAll_mlen (r : List (List UInt8)) : ∀ (cs : List UInt8) (ws : List (List UInt8)) (o : PO), (guessAll r o cs ws).m.length ≤ o.m.length + cs.length * r.length
  | [], ws, o => by cases ws <;> simp [guessAll]
  | c :: cs, [], o => by simp [guessAll]
  | c :: cs, w :: ws, o => by
    have h1 := guessAll_mlen r cs ws (o.guess r c w)
    have h2 := guess_mlen r o c w
    have e : (c :: cs).length * r.length = cs.length * r.length + r.length := by rw [List.length_cons, Nat.add_mul, Nat.one_mul]
    rw [e]
    show (guessAll r (o.guess r c w) cs ws).m.length ≤ _
    omega
theorem guessO_mlen (x : List UInt8) (r : List (List UInt8)) (h : r.length ≤ 100000) : (guessO (x :: r)).m.length ≤ 1000000000 := by
  have h1 := guessAll_mlen r (looksL (kindOf x : Int)) r (PO.of (kindOf x))
  have h2 := (looks_all (kindOf x : Int)).2
  have h3 : (looksL (kindOf x : Int)).length * r.length ≤ 3 * 100000 := Nat.mul_le_mul h2 h
  rw [guessO_cons]
  have h4 : (PO.of (kindOf x)).m.length = 0 := rfl
  omega

set_option maxRecDepth 100000 in
set_option maxHeartbeats 16000000 in
theorem refReadO_any (s : ByteArray) (w : World) (hs : s.size ≤ 100000) :
    Calls Try.prog 58 #[.string s] w (ReadEnds (wordsL s.data.toList) w) := by
  obtain ⟨l, hl⟩ : ∃ l, l = wordsL s.data.toList := ⟨_, rfl⟩
  have hln : l.length ≤ 100001 := by
    have h1 := List.length_filter_le (fun p : List UInt8 => !p.isEmpty) (pieces 32 s.data.toList)
    have h2 := pieces_len 32 s.data.toList
    rw [bytes_len] at h2
    rw [hl]; unfold wordsL; omega
  have hwl : ∀ y ∈ l, y.length ≤ 1000000 := fun y hy => by
    rw [hl] at hy
    have h1 := pieces_each 32 s.data.toList y (List.mem_filter.1 hy).1
    rw [bytes_len] at h1; omega
  have hwa := fun w => refWords_any s w (by omega)
  rw [← hl] at hwa ⊢
  have HW := Lib.hid hwa
  have HWL := Lib.hid hwl
  clear hwa hl hwl
  go_enter Try.func58, Try.ntmps58
  go_wp2_with fail
  refine (HW.out _).mono ?_
  rintro e w1 ⟨v, rfl, hown, hb1⟩
  obtain ⟨a, cap, rfl, hss⟩ := hown.ss
  have hR : w1.heap[w.heap.size]? = some (.cells zeroA 80 (0, 0)) := by
    rw [hb1.block _ (by simp)]; exact heap_alloc_new _ _
  have hRlt : w.heap.size < w1.heap.size := (Array.getElem?_eq_some_iff.1 hR).1
  have hb1 : Below w.heap.size w w1 := ((Below.refl _ _).alloc (Nat.le_refl _) _).trans (hb1.mono (by simp))
  have HR := Lib.hid hR
  clear hown HW hR
  cases l with
  | nil =>
    go_wp2_with (((with_reducible show wpList _ _ _ ({ dst := _, op := Op.store 80 (Operand.tmp 2) _, type := _, pos := _, after := _, guard := _ } :: _) _ _); refine wpList_store_row rfl 80 _ _ rfl w.heap.size zeroA rfl rfl 80 _ HR.out info80 rfl zeroA_one ?_))
    exact bodyPost_ret (res58 _ w.heap.size zeroA _ _ rfl rfl (setRow_heap _ _ _ _ _ _ HR.out) rfl) rfl (ends_none (l := []) rfl (below_setRow hb1 (Nat.le_refl _) _))
  | cons x r =>
    obtain ⟨b, o, rfl, hc⟩ := hss.at (by simp)
    have hrl : r.length ≤ 100000 := by simp at hln; omega
    have hg := refGuess_any b o cap x r w1 hss hrl (fun y hy => HWL.out y (List.mem_cons_of_mem _ hy))
    have hc0 : w1.cell? ⟨b, o, none⟩ = some (.string ⟨x.toArray⟩) := hc 0 _ rfl
    have hlt1 : b < w1.heap.size := World.block_lt_of_cell? _ _ hc0
    have HC := Lib.hid hc
    have HSS := Lib.hid hss
    have HGS := Lib.hid hg
    have hn0 : (((r.length + 1 : Nat) : Int) == 0) = false := by rw [beq_eq_false_iff_ne]; omega
    have hn1 : ((r.length : Int) + 1 == 0) = false := by rw [beq_eq_false_iff_ne]; omega
    have hrefO : readO (x :: r) = if (guessO (x :: r)).right = true ∧ (guessO (x :: r)).words = x :: r then some (guessO (x :: r)) else none := by
      rw [← readO_ref]; rfl
    have hgp := guessO_plain (x :: r)
    have HREF := Lib.hid hrefO
    have HQML := Lib.hid (show (guessO (x :: r)).m.length ≤ 1000000000 from guessO_mlen x r hrl)
    have HGP := Lib.hid hgp
    clear hc hss hg hc0 hrefO hgp
    go_wp2_with fail
    refine HGS.out.mono ?_
    rintro e w2 ⟨dv, mv, rfl, hqd, hqm, hb2⟩
    obtain ⟨pda, pdc, pma, pmc, rfl, rfl, hqds, hqms⟩ := own_op hqd hqm
    generalize guessO (x :: r) = q at *
    rw [show opV q (.slice pda q.d.length pdc) (.slice pma q.m.length pmc) = .agg #[.int .i64 q.k, .int .i64 q.v, .int .i64 q.i, .int .i64 q.b, .int .i64 q.n, .int .u64 q.pt, .slice pda q.d.length pdc, .slice pma q.m.length pmc] from rfl]
    have hb3 : Below w2.heap.size w2 (w2.alloc (.cells #[.int .i64 q.k, .int .i64 q.v, .int .i64 q.i, .int .i64 q.b, .int .i64 q.n, .int .u64 q.pt, .slice pda q.d.length pdc, .slice pma q.m.length pmc] 80)) := (Below.refl _ _).alloc (Nat.le_refl _) _
    have hPA : (w2.alloc (.cells #[.int .i64 q.k, .int .i64 q.v, .int .i64 q.i, .int .i64 q.b, .int .i64 q.n, .int .u64 q.pt, .slice pda q.d.length pdc, .slice pma q.m.length pmc] 80)).heap[w2.heap.size]? = some (.cells #[.int .i64 q.k, .int .i64 q.v, .int .i64 q.i, .int .i64 q.b, .int .i64 q.n, .int .u64 q.pt, .slice pda q.d.length pdc, .slice pma q.m.length pmc] 80 (0, 0)) := heap_alloc_new _ _
    have hB3 : Below w1.heap.size w1 (w2.alloc (.cells #[.int .i64 q.k, .int .i64 q.v, .int .i64 q.i, .int .i64 q.b, .int .i64 q.n, .int .u64 q.pt, .slice pda q.d.length pdc, .slice pma q.m.length pmc] 80)) := hb2.trans (hb3.mono hb2.size)
    have hqd3 := Is.below hqds hb3 (Nat.le_refl _)
    have hqm3 := Is.below hqms hb3 (Nat.le_refl _)
    have ho5 := ownsRow_below hqd hb3 (Nat.le_refl _)
    have ho3 := ownsRow_below hqm hb3 (Nat.le_refl _)
    have hqml := HQML.out
    have hright := fun W (hW : Below (w2.alloc (.cells #[.int .i64 q.k, .int .i64 q.v, .int .i64 q.i, .int .i64 q.b, .int .i64 q.n, .int .u64 q.pt, .slice pda q.d.length pdc, .slice pma q.m.length pmc] 80)).heap.size (w2.alloc (.cells #[.int .i64 q.k, .int .i64 q.v, .int .i64 q.i, .int .i64 q.b, .int .i64 q.n, .int .u64 q.pt, .slice pda q.d.length pdc, .slice pma q.m.length pmc] 80)) W) => refRightO_any q.k q.v q.i q.b q.n q.pt pda pma q.d.length pdc q.m.length pmc q.m W (Is.below hqm3 hW (Nat.le_refl _)) hqml
    have hPs : w1.heap.size ≤ w2.heap.size := hb2.size
    have hRw : (w2.alloc (.cells #[.int .i64 q.k, .int .i64 q.v, .int .i64 q.i, .int .i64 q.b, .int .i64 q.n, .int .u64 q.pt, .slice pda q.d.length pdc, .slice pma q.m.length pmc] 80)).heap[w.heap.size]? = some (.cells zeroA 80 (0, 0)) := by rw [hB3.block _ hRlt]; exact HR.out
    have HRT := Lib.hid hright
    have HQD := Lib.hid hqd3
    have HQM := Lib.hid hqm3
    have HO5 := Lib.hid ho5
    have HO3 := Lib.hid ho3
    have HPA := Lib.hid hPA
    have HRW := Lib.hid hRw
    clear hqd hqm hqds hqms hright hqd3 hqm3 ho5 ho3 hPA hRw
    have hqr : q.right = rightO q.k q.v q.i q.b q.n q.d.length q.m := rfl
    cases hr : q.right with
    | false =>
      have hno : readO (x :: r) = none := by rw [HREF.out, if_neg (by rw [hr]; simp)]
      rw [hr] at hqr
      rw [← hqr] at HRT
      have HN := Lib.hid hno
      clear hno hr hqr
      go_wp2_with (((with_reducible show wpList _ _ _ ({ dst := _, op := Op.load 80 (Operand.tmp 5), type := _, pos := _, after := _, guard := _ } :: _) _ _); refine wpList_load_row rfl 80 _ rfl _ rfl 80 _ (0, 0) _ HPA.out Try.underlying80 rfl info80 ?_))
      generalize w2.alloc (.cells #[.int .i64 q.k, .int .i64 q.v, .int .i64 q.i, .int .i64 q.b, .int .i64 q.n, .int .u64 q.pt, .slice pda q.d.length pdc, .slice pma q.m.length pmc] 80) = w3 at *
      refine (HRT.out _ (Below.refl _ _)).mono ?_
      rintro e w4 ⟨rfl, hb4⟩
      have hRx := heap_below HRW.out hb4 (Nat.le_refl _)
      have HRx := Lib.hid hRx
      clear hRx
      go_wp2_with (((with_reducible show wpList _ _ _ ({ dst := _, op := Op.store 80 (Operand.tmp 2) _, type := _, pos := _, after := _, guard := _ } :: _) _ _); refine wpList_store_row rfl 80 _ _ rfl w.heap.size zeroA rfl rfl 80 _ HRx.out info80 rfl zeroA_one ?_))
      exact bodyPost_ret (res58 _ w.heap.size zeroA _ _ rfl rfl (setRow_heap _ _ _ _ _ _ HRx.out) rfl) rfl (ends_none HN.out (below_setRow (hb1.trans (hB3.trans (hb4.mono hB3.size) |>.mono hb1.size)) (Nat.le_refl _) _))
    | true =>
      obtain ⟨hqp, hp0, hp1⟩ := HGP.out hr
      obtain ⟨hdl, hml⟩ := right_len q hr hqp
      have hwd := fun W hd hm => refWordsO_any q.k q.v q.i q.b q.n q.pt q.d q.m pda pma q.d.length pdc q.m.length pmc W hr hd hm (by omega) (by omega) hp0 hp1
      obtain ⟨hwe, hwc⟩ := words_each q hr hp0 hp1
      have hwd : ∀ W, Bs W pda q.d.length q.d → Is .i64 W pma q.m.length q.m → Calls Try.prog 118 #[.agg #[.int .i64 q.k, .int .i64 q.v, .int .i64 q.i, .int .i64 q.b, .int .i64 q.n, .int .u64 q.pt, .slice pda q.d.length pdc, .slice pma q.m.length pmc]] W fun e w' => ∃ r, e = .returned r ∧ OwnS w' W.heap.size r q.words ∧ Below W.heap.size W w' := hwd
      have hrefI : readO (x :: r) = if q.words = x :: r then some q else none := by
        rw [HREF.out]
        by_cases h : q.words = x :: r
        · rw [if_pos ⟨hr, h⟩, if_pos h]
        · rw [if_neg (fun h2 => h h2.2), if_neg h]
      rw [hr] at hqr
      rw [← hqr] at HRT
      generalize q.words = V at *
      have HREFI := Lib.hid hrefI
      have HWD := Lib.hid hwd
      have HWE := Lib.hid hwe
      clear hrefI hwd hwe hr hqr HREF HGP hqp
      go_wp2_with (((with_reducible show wpList _ _ _ ({ dst := _, op := Op.load 80 (Operand.tmp 5), type := _, pos := _, after := _, guard := _ } :: _) _ _); refine wpList_load_row rfl 80 _ rfl _ rfl 80 _ (0, 0) _ HPA.out Try.underlying80 rfl info80 ?_))
      generalize w2.alloc (.cells #[.int .i64 q.k, .int .i64 q.v, .int .i64 q.i, .int .i64 q.b, .int .i64 q.n, .int .u64 q.pt, .slice pda q.d.length pdc, .slice pma q.m.length pmc] 80) = w3 at *
      generalize w2.heap.size = P at *
      refine (HRT.out _ (Below.refl _ _)).mono ?_
      rintro e w4 ⟨rfl, hb4⟩
      have hPA4 := heap_below HPA.out hb4 (Nat.le_refl _)
      have HPA := Lib.hid hPA4
      have hRx := heap_below HRW.out hb4 (Nat.le_refl _)
      have HRx := Lib.hid hRx
      clear hPA4 hRx
      go_wp2_with (((with_reducible show wpList _ _ _ ({ dst := _, op := Op.load 80 (Operand.tmp 5), type := _, pos := _, after := _, guard := _ } :: _) _ _); refine wpList_load_row rfl 80 _ rfl _ rfl 80 _ (0, 0) _ HPA.out Try.underlying80 rfl info80 ?_))
      refine (HWD.out w4 (Is.below HQD.out hb4 (Nat.le_refl _)) (Is.below HQM.out hb4 (Nat.le_refl _))).mono ?_
      rintro e w5 ⟨vv, rfl, hov, hb5⟩
      obtain ⟨va, vcap, rfl, hvs⟩ := hov.ss
      have hb45 : Below w3.heap.size w3 w5 := hb4.trans (hb5.mono hb4.size)
      have hB5 : Below w1.heap.size w1 w5 := hB3.trans (hb45.mono hB3.size)
      have hRx := heap_below HRx.out hb5 (Nat.le_refl _)
      have hPA5 := heap_below HPA.out hb5 (Nat.le_refl _)
      have HRx := Lib.hid hRx
      have HPA := Lib.hid hPA5
      clear hRx hPA5 hov
      by_cases hvl : V.length = r.length + 1
      · have hm2 : ((V.length : Int) != ((r.length : Int) + 1)) = false := by rw [bne_eq_false_iff_eq]; omega
        obtain ⟨vb, vo, rfl, hvc⟩ := hvs.at (by omega)
        have HVC := Lib.hid hvc
        clear hvc hvs
        go_wp2_with fail
        go_loopw [7] (fun u7 wr => ∃ j : Nat, j ≤ r.length + 1 ∧ u7 = .int .i64 j ∧ Hid (V.take j = (x :: r).take j) ∧ ∃ nq, wr = w5.drewN nq) (fun u7 _ => r.length + 1 - (intOf u7).toNat)
        case atStart => exact ⟨0, by omega, rfl, Lib.hid rfl, 0, rfl⟩
        case round =>
          obtain ⟨j, hj, rfl, HT, nq, rfl⟩ := hrel
          by_cases hlt : j < r.length + 1
          · obtain ⟨y, hy⟩ : ∃ y, V[j]? = some y := ⟨_, List.getElem?_eq_getElem (by omega)⟩
            obtain ⟨y2, hy2⟩ : ∃ y2, (x :: r)[j]? = some y2 := ⟨_, List.getElem?_eq_getElem (by simp; omega)⟩
            have h1 : w5.cell? ⟨vb, vo + j, none⟩ = some (.string ⟨y.toArray⟩) := HVC.out j (sv (mkS y)) (by simp [hy])
            have h2 : w5.cell? ⟨b, o + j, none⟩ = some (.string ⟨y2.toArray⟩) := by
              rw [hB5.cell hlt1]
              exact HC.out j (sv (mkS y2)) (by rw [List.map_map, List.getElem?_map, hy2]; rfl)
            have hj0 : (0 : Int) ≤ (j : Int) := by omega
            have hj1 : (j : Int) < (r.length : Int) + 1 := by omega
            have hj2 : (j : Int) < (V.length : Int) := by omega
            by_cases hyy : y = y2
            · subst hyy
              have hnx : V.take (j + 1) = (x :: r).take (j + 1) := by rw [List.take_add_one, List.take_add_one, hy, hy2, HT.out]
              have HNX := Lib.hid hnx
              clear hnx hy hy2
              go_wp2_with fail
              go_quiet (fail)
              all_goals
                go_wp2_with fail
                exact ⟨⟨j + 1, by omega, by go_num, HNX, _, rfl⟩, by simp [intOf]; omega⟩
            · have hne : (!y == y2) = true := by simp [hyy]
              have hVn : V ≠ x :: r := fun e => hyy (by rw [e] at hy; exact Option.some.inj (hy.symm.trans hy2))
              have hno : readO (x :: r) = none := by rw [HREFI.out, if_neg hVn]
              have HN := Lib.hid hno
              clear hno hVn hyy hy hy2
              go_wp2_with fail
              go_quiet (fail)
              all_goals
                go_wp2_with (((with_reducible show wpList _ _ _ ({ dst := _, op := Op.store 80 (Operand.tmp 2) _, type := _, pos := _, after := _, guard := _ } :: _) _ _); refine wpList_store_row rfl 80 _ _ rfl w.heap.size zeroA rfl rfl 80 _ (by exact HRx.out) info80 rfl zeroA_one ?_))
                exact bodyPost_ret (res58 _ w.heap.size zeroA _ _ rfl rfl (setRow_heap _ _ _ _ _ _ (by exact HRx.out)) rfl) rfl (ends_none HN.out (below_setRow (below_drewN (hb1.trans (hB5.mono hb1.size)) _) (Nat.le_refl _) _))
          · obtain rfl : j = r.length + 1 := by omega
            have hV : V = x :: r := by
              have := HT.out
              rw [List.take_of_length_le (by omega), List.take_of_length_le (by simp)] at this
              exact this
            have hyes : readO (x :: r) = some q := by rw [HREFI.out, if_pos hV]
            have HY := Lib.hid hyes
            clear hyes hV
            go_wp2_with (first | ((with_reducible show wpList _ _ _ ({ dst := _, op := Op.load 80 (Operand.tmp 5), type := _, pos := _, after := _, guard := _ } :: _) _ _); refine wpList_load_row rfl 80 _ rfl P rfl 80 #[.int .i64 q.k, .int .i64 q.v, .int .i64 q.i, .int .i64 q.b, .int .i64 q.n, .int .u64 q.pt, .slice pda q.d.length pdc, .slice pma q.m.length pmc] (0, 0) _ (by exact HPA.out) Try.underlying80 rfl info80 ?_) | ((with_reducible show wpList _ _ _ ({ dst := _, op := Op.store 80 (Operand.tmp 2) _, type := _, pos := _, after := _, guard := _ } :: _) _ _); refine wpList_store_row rfl 80 _ _ rfl w.heap.size #[.int .i64 q.k, .int .i64 q.v, .int .i64 q.i, .int .i64 q.b, .int .i64 q.n, .int .u64 q.pt, .slice pda q.d.length pdc, .slice pma q.m.length pmc] rfl rfl 80 zeroA (by exact HRx.out) info80 rfl (opA_one _ _ _ _ _ _ _ _ _ _ _ _) ?_))
            exact bodyPost_ret (res58 _ w.heap.size _ _ _ rfl rfl (setRow_heap _ _ _ _ _ _ (show (w5.drewN nq).heap[w.heap.size]? = _ from HRx.out)) rfl) rfl ⟨below_setRow (below_drewN (hb1.trans (hB5.mono hb1.size)) _) (Nat.le_refl _) _, .inr ⟨q, _, _, HY.out, rfl, ownsRow_base (owns_setRow (g := w.heap.size) (ownsRow_below HO5.out hb45 (Nat.le_refl _)) (by omega) _) (by omega), ownsRow_base (owns_setRow (g := w.heap.size) (ownsRow_below HO3.out hb45 (Nat.le_refl _)) (by omega) _) (by omega)⟩⟩
      · have hm2 : ((V.length : Int) != ((r.length : Int) + 1)) = true := by rw [bne_iff_ne]; omega
        have hVn : V ≠ x :: r := fun e => hvl (by rw [e]; rfl)
        have hno : readO (x :: r) = none := by rw [HREFI.out, if_neg hVn]
        have HN := Lib.hid hno
        clear hno hVn hvl hvs
        go_wp2_with (((with_reducible show wpList _ _ _ ({ dst := _, op := Op.store 80 (Operand.tmp 2) _, type := _, pos := _, after := _, guard := _ } :: _) _ _); refine wpList_store_row rfl 80 _ _ rfl w.heap.size zeroA rfl rfl 80 _ HRx.out info80 rfl zeroA_one ?_))
        exact bodyPost_ret (res58 _ w.heap.size zeroA _ _ rfl rfl (setRow_heap _ _ _ _ _ _ HRx.out) rfl) rfl (ends_none HN.out (below_setRow (hb1.trans (hB5.mono hb1.size)) (Nat.le_refl _) _))
end Go.Proofs.Ytljbehndnledpaa
