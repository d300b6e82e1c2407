/- The walk of the law ScriptLines: it returns true and writes nothing that was there. Conditions: those of the theorem. Printed by wip/mkscriptlines.py. -/
import Derived.Test.YtljbehndnledpaaScriptAlive
import Derived.Test.YtljbehndnledpaaScriptPlain
namespace Go.Proofs.Ytljbehndnledpaa
open Go.RowKit

theorem sp_length (r : List (List UInt8)) (h : ∀ y ∈ r, y.length ≤ 200) : (sp r).length ≤ 201 * r.length := by
  induction r with
  | nil => simp [sp]
  | cons y r ih =>
    have := ih fun z hz => h z (List.mem_cons_of_mem _ hz)
    have h1 := h y (List.mem_cons_self ..)
    have e : sp (y :: r) = (32 :: y) ++ sp r := rfl
    rw [e, List.length_append, List.length_cons, List.length_cons]; omega
theorem line_size (o : PO) (hp0 : 0 ≤ o.pt) (hp1 : o.pt < 18446744073709551616) : o.line.length ≤ 2000 := by
  cases h : o.right with
  | false => rw [line_none o h]; simp
  | true =>
    obtain ⟨h1, h2⟩ := words_each o h hp0 hp1
    have hl : o.line = wordL o.k ++ sp ((looksL o.k).flatMap o.part) := by unfold PO.line; rw [h]; rfl
    have hw : o.words = wordL o.k :: (looksL o.k).flatMap o.part := rfl
    rw [hw] at h1 h2
    have h3 := sp_length _ fun y hy => h1 y (List.mem_cons_of_mem _ hy)
    have h4 := h1 _ (List.mem_cons_self ..)
    rw [hl, List.length_append]
    rw [List.length_cons] at h2
    omega

theorem put_len (o p : PO) (c : UInt8) (h : p.d.length ≤ o.d.length ∧ p.m.length ≤ o.m.length) : (o.put p c).d.length ≤ o.d.length ∧ (o.put p c).m.length ≤ o.m.length := by
  unfold PO.put
  repeat' split
  all_goals first | exact h | exact ⟨Nat.le_refl _, h.2⟩ | exact ⟨h.1, Nat.le_refl _⟩
theorem fold_len (o : PO) : ∀ (L : List UInt8) (p : PO), (p.d.length ≤ o.d.length ∧ p.m.length ≤ o.m.length) → (L.foldl o.put p).d.length ≤ o.d.length ∧ (L.foldl o.put p).m.length ≤ o.m.length
  | [], _, h => h
  | c :: L, _, h => fold_len o L _ (put_len o _ c h)
theorem PO.plain_len (o : PO) : o.plain.d.length ≤ o.d.length ∧ o.plain.m.length ≤ o.m.length := fold_len o _ _ ⟨Nat.zero_le _, Nat.zero_le _⟩

set_option maxRecDepth 100000 in
set_option maxHeartbeats 16000000 in
theorem scriptLines_law (k v i b n pt : Int) (d : List UInt8) (m : List Int) (da ma : Option Addr) (dn dc mn mc : Nat) (w : World) (hd : Bs w da dn d) (hm : Is .i64 w ma mn m) (hp0 : 0 ≤ pt) (hp1 : pt < 18446744073709551616) :
    Calls Try.prog 11 #[.agg #[.int .i64 k, .int .i64 v, .int .i64 i, .int .i64 b, .int .i64 n, .int .u64 pt, .slice da dn dc, .slice ma mn mc]] w fun e w' => e = .returned (.bool true) ∧ Below w.heap.size w w' := by
  have hb : Below w.heap.size w (w.alloc (.cells #[.int .i64 k, .int .i64 v, .int .i64 i, .int .i64 b, .int .i64 n, .int .u64 pt, .slice da dn dc, .slice ma mn mc] 80)) := (Below.refl _ _).alloc (Nat.le_refl _) _
  have hc8 := Cells8.new w k v i b n pt (.slice da dn dc) (.slice ma mn mc)
  have hA : w.heap.size < (w.alloc (.cells #[.int .i64 k, .int .i64 v, .int .i64 i, .int .i64 b, .int .i64 n, .int .u64 pt, .slice da dn dc, .slice ma mn mc] 80)).heap.size := by simp
  have hgr := great_any k v i b n pt da ma dn dc mn mc
  by_cases hbig : 300 < dn ∨ 100 < mn
  · have hg : (decide (300 < dn) || decide (100 < mn)) = true := by simpa using hbig
    rw [hg] at hgr
    have HG := Lib.hid hgr
    clear hgr hg hbig hc8 hd hm
    go_enter Try.func11, Try.ntmps11
    go_wp2_with fail
    generalize w.alloc (.cells #[.int .i64 k, .int .i64 v, .int .i64 i, .int .i64 b, .int .i64 n, .int .u64 pt, .slice da dn dc, .slice ma mn mc] 80) = w1 at *
    refine (HG.out _).mono ?_
    rintro e w2 ⟨rfl, hb2⟩
    go_wp2_with fail
    go_ret
    exact ⟨rfl, hb.trans (hb2.mono hb.size)⟩
  · have hg : (decide (300 < dn) || decide (100 < mn)) = false := by
      cases hq : (decide (300 < dn) || decide (100 < mn)) with
      | false => rfl
      | true => exact absurd (by simpa using hq) hbig
    rw [hg] at hgr
    have hdn : dn ≤ 1000000000 := by omega
    have hmn : mn ≤ 1000000000 := by omega
    have hline := fun W hd hm => line_any k v i b n pt d m da ma dn dc mn mc W hd hm hdn hmn hp0 hp1
    have href := fun W hd hm => refLine_any k v i b n pt d m da ma dn dc mn mc W hd hm hdn hmn hp0 hp1
    have hpl := fun W hr hd hm => refPlain_any k v i b n pt d m da ma dn dc mn mc W hr hd hm
    obtain ⟨o, ho⟩ : ∃ o : PO, o = ⟨k, v, i, b, n, pt, d, m⟩ := ⟨_, rfl⟩
    rw [← ho] at hline href hpl
    have hsz := line_size o (by rw [ho]; exact hp0) (by rw [ho]; exact hp1)
    have hyes := fun h => readO_line o h (by rw [ho]; exact hp0) (by rw [ho]; exact hp1)
    have hno := line_none o
    have hol : o.d.length ≤ 1000000000 ∧ o.m.length ≤ 1000000000 := by
      have h1 := hm.len
      have h2 : d.length = dn := by have := hd.len; simpa using this
      rw [ho]; simp only; omega
    clear ho
    obtain ⟨T, hT⟩ : ∃ T, T = o.line := ⟨_, rfl⟩
    rw [← hT] at hline href hsz hyes hno
    have hread := fun W => scriptRead_any ⟨T.toArray⟩ W (by show T.length ≤ _; omega)
    have hTd : (⟨T.toArray⟩ : ByteArray).data.toList = T := by simp
    rw [hTd] at hread
    have HG := Lib.hid hgr
    have HL := Lib.hid hline
    have HR := Lib.hid href
    have HP := Lib.hid hpl
    have HRD := Lib.hid hread
    have HD := Lib.hid hd
    have HM := Lib.hid hm
    have HC8 := Lib.hid hc8
    clear hgr hline href hpl hread hd hm hT hTd hg hbig hc8
    cases hr : o.right with
    | false =>
      have hT0 := hno hr
      subst hT0
      clear hyes hno
      have HRR := Lib.hid hr
      clear hr
      go_enter Try.func11, Try.ntmps11
      go_wp2_with fail
      generalize w.alloc (.cells #[.int .i64 k, .int .i64 v, .int .i64 i, .int .i64 b, .int .i64 n, .int .u64 pt, .slice da dn dc, .slice ma mn mc] 80) = w1 at *
      refine (HG.out _).mono ?_
      rintro e w2 ⟨rfl, hb2⟩
      obtain ⟨d0, d1, d2, d3, d4, d5, d6, d7⟩ := HC8.out.below hb2 hA
      go_wp2_with fail
      refine (HL.out _ (Is.below HD.out (hb.trans (hb2.mono hb.size)) (Nat.le_refl _)) (Is.below HM.out (hb.trans (hb2.mono hb.size)) (Nat.le_refl _))).mono ?_
      rintro e w3 ⟨rfl, hb3⟩
      have hb3 := hb2.trans (hb3.mono hb2.size)
      obtain ⟨d0, d1, d2, d3, d4, d5, d6, d7⟩ := HC8.out.below hb3 hA
      rw [show mkS [] = ⟨#[]⟩ from rfl]
      go_wp2_with fail
      refine (HR.out _ (Is.below HD.out (hb.trans (hb3.mono hb.size)) (Nat.le_refl _)) (Is.below HM.out (hb.trans (hb3.mono hb.size)) (Nat.le_refl _))).mono ?_
      rintro e w4 ⟨rfl, hb4⟩
      have hb4 := hb3.trans (hb4.mono hb3.size)
      rw [show mkS [] = ⟨#[]⟩ from rfl]
      go_wp2_with fail
      refine (HRD.out _).mono ?_
      rintro e w5 ⟨hb5, ⟨-, rfl⟩ | ⟨_, _, _, hs, -⟩⟩
      · have hb5 := hb4.trans (hb5.mono hb4.size)
        rw [show opV PO.zero (.slice none 0 0) (.slice none 0 0) = .agg #[.int .i64 0, .int .i64 0, .int .i64 0, .int .i64 0, .int .i64 0, .int .u64 0, .slice none 0 0, .slice none 0 0] from rfl]
        have hsame := fun W => refSame_any 0 0 0 0 0 0 [] [] none none none none 0 0 0 0 0 0 W ⟨by simp, fun i x hx => by simp at hx⟩ ⟨by simp, fun i x hx => by simp at hx⟩ ⟨by simp, fun i x hx => by simp at hx⟩ ⟨by simp, fun i x hx => by simp at hx⟩ (by omega) (by omega)
        have HS := Lib.hid hsame
        clear hsame
        go_wp2_with fail
        refine (HS.out _).mono ?_
        rintro e w6 ⟨rfl, hb6⟩
        go_wp2_with fail
        refine (alive29_any _).mono ?_
        rintro e w7 ⟨rfl, hb7⟩
        go_wp2_with fail
        go_ret
        have hb6 := hb6.trans (hb7.mono hb6.size)
        exact ⟨rfl, hb.trans (hb5.trans (((Below.refl _ _).alloc (Nat.le_refl _) _).trans (hb6.mono (by simp)) |>.mono hb5.size) |>.mono hb.size)⟩
      · cases hs
    | true =>
      obtain ⟨hrd, hTn⟩ := hyes hr
      have HRO := Lib.hid hrd
      have HRR := Lib.hid hr
      have hTe : (T == []) = false := by simp [hTn]
      clear hyes hno hr hrd hTn
      go_enter Try.func11, Try.ntmps11
      go_wp2_with fail
      generalize w.alloc (.cells #[.int .i64 k, .int .i64 v, .int .i64 i, .int .i64 b, .int .i64 n, .int .u64 pt, .slice da dn dc, .slice ma mn mc] 80) = w1 at *
      refine (HG.out _).mono ?_
      rintro e w2 ⟨rfl, hb2⟩
      obtain ⟨d0, d1, d2, d3, d4, d5, d6, d7⟩ := HC8.out.below hb2 hA
      go_wp2_with fail
      refine (HL.out _ (Is.below HD.out (hb.trans (hb2.mono hb.size)) (Nat.le_refl _)) (Is.below HM.out (hb.trans (hb2.mono hb.size)) (Nat.le_refl _))).mono ?_
      rintro e w3 ⟨rfl, hb3⟩
      have hb3 := hb2.trans (hb3.mono hb2.size)
      obtain ⟨d0, d1, d2, d3, d4, d5, d6, d7⟩ := HC8.out.below hb3 hA
      rw [show mkS T = ⟨T.toArray⟩ from rfl]
      go_wp2_with fail
      refine (HR.out _ (Is.below HD.out (hb.trans (hb3.mono hb.size)) (Nat.le_refl _)) (Is.below HM.out (hb.trans (hb3.mono hb.size)) (Nat.le_refl _))).mono ?_
      rintro e w4 ⟨rfl, hb4⟩
      have hb4 := hb3.trans (hb4.mono hb3.size)
      rw [show mkS T = ⟨T.toArray⟩ from rfl]
      clear d0 d1 d2 d3 d4 d5 d6 d7
      go_wp2_with fail
      refine (HRD.out _).mono ?_
      rintro e w5 ⟨hb5, ⟨hs, -⟩ | ⟨q, dv, mv, hs, rfl, hqd, hqm⟩⟩
      · exact absurd (HRO.out.symm.trans hs) (by simp)
      · obtain rfl : o.plain = q := Option.some.inj (HRO.out.symm.trans hs)
        have hb5 := hb4.trans (hb5.mono hb4.size)
        obtain ⟨pda, pdc, pma, pmc, rfl, rfl, hqds, hqms⟩ := own_op hqd hqm
        generalize hq : o.plain = q at *
        rw [show opV q (.slice pda q.d.length pdc) (.slice pma q.m.length pmc) = .agg #[.int .i64 q.k, .int .i64 q.v, .int .i64 q.i, .int .i64 q.b, .int .i64 q.n, .int .u64 q.pt, .slice pda q.d.length pdc, .slice pma q.m.length pmc] from rfl]
        have HQ := Lib.hid hq
        clear hs hqd hqm hq
        have hP0 := Cells8.new w5 q.k q.v q.i q.b q.n q.pt (.slice pda q.d.length pdc) (.slice pma q.m.length pmc)
        have hb6 : Below w5.heap.size w5 (w5.alloc (.cells #[.int .i64 q.k, .int .i64 q.v, .int .i64 q.i, .int .i64 q.b, .int .i64 q.n, .int .u64 q.pt, .slice pda q.d.length pdc, .slice pma q.m.length pmc] 80)) := (Below.refl _ _).alloc (Nat.le_refl _) _
        have hPlt : w5.heap.size < (w5.alloc (.cells #[.int .i64 q.k, .int .i64 q.v, .int .i64 q.i, .int .i64 q.b, .int .i64 q.n, .int .u64 q.pt, .slice pda q.d.length pdc, .slice pma q.m.length pmc] 80)).heap.size := by simp
        have hd6 := Is.below HD.out (hb.trans (hb5.trans (hb6.mono hb5.size) |>.mono hb.size)) (Nat.le_refl _)
        have hm6 := Is.below HM.out (hb.trans (hb5.trans (hb6.mono hb5.size) |>.mono hb.size)) (Nat.le_refl _)
        have hqd6 := Is.below hqds hb6 (Nat.le_refl _)
        have hqm6 := Is.below hqms hb6 (Nat.le_refl _)
        obtain ⟨c0, c1, c2, c3, c4, c5, c6, c7⟩ := hP0
        obtain ⟨d0, d1, d2, d3, d4, d5, d6, d7⟩ := HC8.out.below (hb5.trans (hb6.mono hb5.size)) hA
        have hOlt : w.heap.size < (w5.alloc (.cells #[.int .i64 q.k, .int .i64 q.v, .int .i64 q.i, .int .i64 q.b, .int .i64 q.n, .int .u64 q.pt, .slice pda q.d.length pdc, .slice pma q.m.length pmc] 80)).heap.size := by have := hb5.size; simp at *; omega
        have HP6 : Hid (∀ W, Below (w5.alloc (.cells #[.int .i64 q.k, .int .i64 q.v, .int .i64 q.i, .int .i64 q.b, .int .i64 q.n, .int .u64 q.pt, .slice pda q.d.length pdc, .slice pma q.m.length pmc] 80)).heap.size (w5.alloc (.cells #[.int .i64 q.k, .int .i64 q.v, .int .i64 q.i, .int .i64 q.b, .int .i64 q.n, .int .u64 q.pt, .slice pda q.d.length pdc, .slice pma q.m.length pmc] 80)) W → Calls Try.prog 55 #[.agg #[.int .i64 k, .int .i64 v, .int .i64 i, .int .i64 b, .int .i64 n, .int .u64 pt, .slice da dn dc, .slice ma mn mc]] W fun e W' => ∃ (ra ta : Option Addr) (rc tc : Nat), e = .returned (.agg #[.int .i64 q.k, .int .i64 q.v, .int .i64 q.i, .int .i64 q.b, .int .i64 q.n, .int .u64 q.pt, .slice ra q.d.length rc, .slice ta q.m.length tc]) ∧ Bs W' ra q.d.length q.d ∧ Is .i64 W' ta q.m.length q.m ∧ Below W.heap.size W W') := by
          intro W hW
          refine (HP.out W HRR.out (Is.below hd6 hW (Nat.le_refl _)) (Is.below hm6 hW (Nat.le_refl _))).mono ?_
          rintro e W' ⟨rv, tv, rfl, h1, h2, h3⟩
          obtain ⟨ra, rc, ta, tc, rfl, rfl, h4, h5⟩ := own_op h1 h2
          exact ⟨ra, ta, rc, tc, rfl, h4, h5, h3⟩
        have hql : q.d.length ≤ 1000000000 ∧ q.m.length ≤ 1000000000 := by
          have := o.plain_len; rw [HQ.out] at this; omega
        have HQD := Lib.hid hqd6
        have HQM := Lib.hid hqm6
        have HB6 := Lib.hid (hb5.trans (hb6.mono hb5.size))
        clear hqd6 hqm6 hd6 hm6 hqds hqms hb6
        go_wp2_with fail
        generalize w5.alloc (.cells #[.int .i64 q.k, .int .i64 q.v, .int .i64 q.i, .int .i64 q.b, .int .i64 q.n, .int .u64 q.pt, .slice pda q.d.length pdc, .slice pma q.m.length pmc] 80) = w6 at *
        generalize w5.heap.size = P at *
        (go_region_held3 (fun w' => w'.cell? ⟨w.heap.size, 0, none⟩ = some (.int .i64 k) ∧ w'.cell? ⟨w.heap.size, 1, none⟩ = some (.int .i64 v) ∧ w'.cell? ⟨w.heap.size, 2, none⟩ = some (.int .i64 i) ∧ w'.cell? ⟨w.heap.size, 3, none⟩ = some (.int .i64 b) ∧ w'.cell? ⟨w.heap.size, 4, none⟩ = some (.int .i64 n) ∧ w'.cell? ⟨w.heap.size, 5, none⟩ = some (.int .u64 pt) ∧ w'.cell? ⟨w.heap.size, 6, none⟩ = some (.slice da dn dc) ∧ w'.cell? ⟨w.heap.size, 7, none⟩ = some (.slice ma mn mc) ∧ w'.cell? ⟨P, 0, none⟩ = some (.int .i64 q.k) ∧ w'.cell? ⟨P, 1, none⟩ = some (.int .i64 q.v) ∧ w'.cell? ⟨P, 2, none⟩ = some (.int .i64 q.i) ∧ w'.cell? ⟨P, 3, none⟩ = some (.int .i64 q.b) ∧ w'.cell? ⟨P, 4, none⟩ = some (.int .i64 q.n) ∧ w'.cell? ⟨P, 5, none⟩ = some (.int .u64 q.pt) ∧ w'.cell? ⟨P, 6, none⟩ = some (.slice pda q.d.length pdc) ∧ w'.cell? ⟨P, 7, none⟩ = some (.slice pma q.m.length pmc))
          (first | exact hHeld | exact HS9 | exact HS8 | exact HS7 | go_keep)
          (first
           | (refine step_call (o := ⟨some 36, _, _, _, _, _⟩) (by kernel_rfl) 55 Try.func55 (by kernel_rfl) rfl _ _ rfl #[.agg #[.int .i64 k, .int .i64 v, .int .i64 i, .int .i64 b, .int .i64 n, .int .u64 pt, .slice da dn dc, .slice ma mn mc]] (by simp [Act.eval]) (HP6.out _ ((Below.refl _ _).drew)) ?_
              rintro e w7 ⟨ra, ta, rc, tc, rfl, hrd7, hrm7, hb7⟩
              refine ⟨_, rfl, ?_⟩
              have hb7 : Below w6.heap.size w6 w7 := (Below.refl w6.heap.size w6).drew.trans hb7
              have HRD7 := Lib.hid hrd7
              have HRM7 := Lib.hid hrm7
              clear hrd7 hrm7
              have HS7 : w7.cell? ⟨w.heap.size, 0, none⟩ = some (.int .i64 k) ∧ w7.cell? ⟨w.heap.size, 1, none⟩ = some (.int .i64 v) ∧ w7.cell? ⟨w.heap.size, 2, none⟩ = some (.int .i64 i) ∧ w7.cell? ⟨w.heap.size, 3, none⟩ = some (.int .i64 b) ∧ w7.cell? ⟨w.heap.size, 4, none⟩ = some (.int .i64 n) ∧ w7.cell? ⟨w.heap.size, 5, none⟩ = some (.int .u64 pt) ∧ w7.cell? ⟨w.heap.size, 6, none⟩ = some (.slice da dn dc) ∧ w7.cell? ⟨w.heap.size, 7, none⟩ = some (.slice ma mn mc) ∧ w7.cell? ⟨P, 0, none⟩ = some (.int .i64 q.k) ∧ w7.cell? ⟨P, 1, none⟩ = some (.int .i64 q.v) ∧ w7.cell? ⟨P, 2, none⟩ = some (.int .i64 q.i) ∧ w7.cell? ⟨P, 3, none⟩ = some (.int .i64 q.b) ∧ w7.cell? ⟨P, 4, none⟩ = some (.int .i64 q.n) ∧ w7.cell? ⟨P, 5, none⟩ = some (.int .u64 q.pt) ∧ w7.cell? ⟨P, 6, none⟩ = some (.slice pda q.d.length pdc) ∧ w7.cell? ⟨P, 7, none⟩ = some (.slice pma q.m.length pmc) := by
                refine ⟨?_, ?_, ?_, ?_, ?_, ?_, ?_, ?_, ?_, ?_, ?_, ?_, ?_, ?_, ?_, ?_⟩ <;> (first | rw [hb7.cell hOlt] | rw [hb7.cell hPlt]) <;> assumption)
           | (refine step_call (o := ⟨some 37, _, _, _, _, _⟩) (by kernel_rfl) 53 Try.func53 (by kernel_rfl) rfl _ _ rfl #[.agg #[.int .i64 q.k, .int .i64 q.v, .int .i64 q.i, .int .i64 q.b, .int .i64 q.n, .int .u64 q.pt, .slice pda q.d.length pdc, .slice pma q.m.length pmc], .agg #[.int .i64 q.k, .int .i64 q.v, .int .i64 q.i, .int .i64 q.b, .int .i64 q.n, .int .u64 q.pt, .slice ra q.d.length rc, .slice ta q.m.length tc]] (by simp [Act.eval]) (refSame_any q.k q.v q.i q.b q.n q.pt q.d q.m pda pma ra ta q.d.length pdc q.m.length pmc rc tc w7 (Is.below HQD.out hb7 (Nat.le_refl _)) (Is.below HQM.out hb7 (Nat.le_refl _)) HRD7.out HRM7.out hql.1 hql.2) ?_
              rintro e w8 ⟨rfl, hb8⟩
              refine ⟨_, rfl, ?_⟩
              have hb8 : Below w6.heap.size w6 w8 := hb7.trans (hb8.mono hb7.size)
              have HS8 : w8.cell? ⟨w.heap.size, 0, none⟩ = some (.int .i64 k) ∧ w8.cell? ⟨w.heap.size, 1, none⟩ = some (.int .i64 v) ∧ w8.cell? ⟨w.heap.size, 2, none⟩ = some (.int .i64 i) ∧ w8.cell? ⟨w.heap.size, 3, none⟩ = some (.int .i64 b) ∧ w8.cell? ⟨w.heap.size, 4, none⟩ = some (.int .i64 n) ∧ w8.cell? ⟨w.heap.size, 5, none⟩ = some (.int .u64 pt) ∧ w8.cell? ⟨w.heap.size, 6, none⟩ = some (.slice da dn dc) ∧ w8.cell? ⟨w.heap.size, 7, none⟩ = some (.slice ma mn mc) ∧ w8.cell? ⟨P, 0, none⟩ = some (.int .i64 q.k) ∧ w8.cell? ⟨P, 1, none⟩ = some (.int .i64 q.v) ∧ w8.cell? ⟨P, 2, none⟩ = some (.int .i64 q.i) ∧ w8.cell? ⟨P, 3, none⟩ = some (.int .i64 q.b) ∧ w8.cell? ⟨P, 4, none⟩ = some (.int .i64 q.n) ∧ w8.cell? ⟨P, 5, none⟩ = some (.int .u64 q.pt) ∧ w8.cell? ⟨P, 6, none⟩ = some (.slice pda q.d.length pdc) ∧ w8.cell? ⟨P, 7, none⟩ = some (.slice pma q.m.length pmc) := by
                refine ⟨?_, ?_, ?_, ?_, ?_, ?_, ?_, ?_, ?_, ?_, ?_, ?_, ?_, ?_, ?_, ?_⟩ <;> (first | rw [hb8.cell hOlt] | rw [hb8.cell hPlt]) <;> assumption)
           | (refine step_call (o := ⟨some 40, _, _, _, _, _⟩) (by kernel_rfl) 54 Try.func54 (by kernel_rfl) rfl _ _ rfl #[] (by simp) (alive29_any w8) ?_
              rintro e w9 ⟨rfl, hb9⟩
              refine ⟨_, rfl, ?_⟩
              have hb9 : Below w6.heap.size w6 w9 := hb8.trans (hb9.mono hb8.size)
              have HS9 : w9.cell? ⟨w.heap.size, 0, none⟩ = some (.int .i64 k) ∧ w9.cell? ⟨w.heap.size, 1, none⟩ = some (.int .i64 v) ∧ w9.cell? ⟨w.heap.size, 2, none⟩ = some (.int .i64 i) ∧ w9.cell? ⟨w.heap.size, 3, none⟩ = some (.int .i64 b) ∧ w9.cell? ⟨w.heap.size, 4, none⟩ = some (.int .i64 n) ∧ w9.cell? ⟨w.heap.size, 5, none⟩ = some (.int .u64 pt) ∧ w9.cell? ⟨w.heap.size, 6, none⟩ = some (.slice da dn dc) ∧ w9.cell? ⟨w.heap.size, 7, none⟩ = some (.slice ma mn mc) ∧ w9.cell? ⟨P, 0, none⟩ = some (.int .i64 q.k) ∧ w9.cell? ⟨P, 1, none⟩ = some (.int .i64 q.v) ∧ w9.cell? ⟨P, 2, none⟩ = some (.int .i64 q.i) ∧ w9.cell? ⟨P, 3, none⟩ = some (.int .i64 q.b) ∧ w9.cell? ⟨P, 4, none⟩ = some (.int .i64 q.n) ∧ w9.cell? ⟨P, 5, none⟩ = some (.int .u64 q.pt) ∧ w9.cell? ⟨P, 6, none⟩ = some (.slice pda q.d.length pdc) ∧ w9.cell? ⟨P, 7, none⟩ = some (.slice pma q.m.length pmc) := by
                refine ⟨?_, ?_, ?_, ?_, ?_, ?_, ?_, ?_, ?_, ?_, ?_, ?_, ?_, ?_, ?_, ?_⟩ <;> (first | rw [hb9.cell hOlt] | rw [hb9.cell hPlt]) <;> assumption)))
        all_goals
          go_wp2_with fail
          go_ret
          exact ⟨rfl, hb.trans ((HB6.out.trans (hb9.mono HB6.out.size)).mono hb.size)⟩
end Go.Proofs.Ytljbehndnledpaa
