/- The walk of the law HistoryPrune. Conditions: those of each theorem. -/
import Derived.Test.YtejhbaeeaejcaaaGreatM15
import Derived.Deep.Slices
import Derived.Deep.Fields
import Derived.ChangeSame
import Derived.Lib.SmallJoins
import Derived.ProofKit
namespace Go.Proofs.YtejhbaeeaejcaaaGreat
open Go.RowKit

theorem encO_len (o : Oh) : (encO o).length = 7 := rfl
/-- Calls that came in: a row, each with points that lie there too, and numbers that a machine has. -/
structure OpsW (w : World) (a : Option Addr) (n : Nat) (l : List Oh) : Prop where
  row : RowE encO 7 w a n l
  ok : ∀ o ∈ l, RowE encS 1 w o.pa o.pm o.ps ∧ o.kd ≤ 9223372036854775807 ∧ o.nm ≤ 9223372036854775807 ∧ o.key ≤ 5192296858534827628530496329220095 ∧ o.pm ≤ 9223372036854775807 ∧ o.fl < 18446744073709551616
theorem prune_eq {l : List En} (hr : Rise l) (v : Nat) (ps : List Nat) (fl b s : Nat) (hb : b < 4294967296) (hs : s < 18446744073709551616) (h : fl ≤ s ∨ s ∈ ps) : (∀ u, atL (delAll l (idleL l v ps fl)) u b s = atL l u b s) := fun u => by
  rw [idle_eq hr, delAll_rest hr]
  exact prune_at hr v ps fl u b s hb hs h

set_option maxRecDepth 100000 in
set_option maxHeartbeats 16000000 in
theorem prune38_any {w : World} {a : Option Addr} {n c : Nat} {l : List Oh} (h : OpsW w a n l) (o : Oh) (ho : RowE encS 1 w o.pa o.pm o.ps ∧ o.kd ≤ 9223372036854775807 ∧ o.nm ≤ 9223372036854775807 ∧ o.key ≤ 5192296858534827628530496329220095 ∧ o.pm ≤ 9223372036854775807 ∧ o.fl < 18446744073709551616) (s : Nat) (hs : s < 18446744073709551616) :
    Calls Tryz.prog 3 #[.slice a n c, opV o, .int .u64 (s : Int)] w fun e w' => e = .returned (.bool true) ∧ Below w.heap.size w w' := by
  obtain ⟨hps, hkm, hnm, hkey, hpm, hfl⟩ := ho
  obtain ⟨w1, hw1⟩ : ∃ w1, w1 = w.alloc (.cells #[.int .i64 o.kd, .int .i64 o.nm, .int .u16 (kVol o.key : Int), .int .u32 (kBlk o.key : Int), .int .u64 (kSeq o.key : Int), .slice o.pa o.pm o.pc, .int .u64 (o.fl : Int)] 30) := ⟨_, rfl⟩
  have hX : w1.heap[w.heap.size]? = some (.cells #[.int .i64 o.kd, .int .i64 o.nm, .int .u16 (kVol o.key : Int), .int .u32 (kBlk o.key : Int), .int .u64 (kSeq o.key : Int), .slice o.pa o.pm o.pc, .int .u64 (o.fl : Int)] 30 (0, 0)) := by rw [hw1]; exact heap_alloc_new w _
  have hb1 : Below w.heap.size w w1 := by rw [hw1]; exact (Below.refl _ _).alloc (Nat.le_refl _) _
  have hz1 : w1.heap.size = w.heap.size + 1 := by rw [hw1, World.alloc_size]
  have hcs : ∀ W : World, W.heap[w.heap.size]? = some (.cells #[.int .i64 o.kd, .int .i64 o.nm, .int .u16 (kVol o.key : Int), .int .u32 (kBlk o.key : Int), .int .u64 (kSeq o.key : Int), .slice o.pa o.pm o.pc, .int .u64 (o.fl : Int)] 30 (0, 0)) →
      W.cell? ⟨w.heap.size, 0, none⟩ = some (.int .i64 o.kd) ∧ W.cell? ⟨w.heap.size, 1, none⟩ = some (.int .i64 o.nm) ∧ W.cell? ⟨w.heap.size, 2, none⟩ = some (.int .u16 (kVol o.key : Int)) ∧ W.cell? ⟨w.heap.size, 3, none⟩ = some (.int .u32 (kBlk o.key : Int)) ∧ W.cell? ⟨w.heap.size, 4, none⟩ = some (.int .u64 (kSeq o.key : Int)) ∧ W.cell? ⟨w.heap.size, 5, none⟩ = some (.slice o.pa o.pm o.pc) ∧ W.cell? ⟨w.heap.size, 6, none⟩ = some (.int .u64 (o.fl : Int)) :=
    fun W hW => ⟨cell_of_row W _ 0 _ _ _ hW, cell_of_row W _ 1 _ _ _ hW, cell_of_row W _ 2 _ _ _ hW, cell_of_row W _ 3 _ _ _ hW, cell_of_row W _ 4 _ _ _ hW, cell_of_row W _ 5 _ _ _ hW, cell_of_row W _ 6 _ _ _ hW⟩
  obtain ⟨x0, x1, x2, x3, x4, x5, x6⟩ := hcs w1 hX
  have HCS := Lib.hid hcs
  have HX := Lib.hid (And.intro hX (And.intro hb1 hz1))
  have HF1 := Lib.hid (few38_any (c := c) (h.row.below hb1 (Nat.le_refl _)) fun o ho => (h.ok o ho).2.2.2.2.1)
  have HH := Lib.hid h
  have HO := Lib.hid (And.intro hps (And.intro hkm (And.intro hnm hkey)))
  -- the one call, as a row
  obtain ⟨w2, hw2⟩ : ∃ w2, w2 = w1.alloc (.cells #[.int .i64 o.kd, .int .i64 o.nm, .int .u16 (kVol o.key : Int), .int .u32 (kBlk o.key : Int), .int .u64 (kSeq o.key : Int), .slice o.pa o.pm o.pc, .int .u64 (o.fl : Int)] 30) := ⟨_, rfl⟩
  have hb2 : Below w1.heap.size w1 w2 := by rw [hw2]; exact (Below.refl _ _).alloc (Nat.le_refl _) _
  have hX2 := (hb2.block w.heap.size (by omega)).trans hX
  have HF2 := Lib.hid (few38_any (w := w2) (c := 1) (show RowE encO 7 w2 (some ⟨w1.heap.size, 0, none⟩) 1 [o] by rw [hw2]; exact RowE.new (enc := encO) w1 o _) (fun o' ho' => by simp at ho'; rw [ho']; exact hpm))
  have hf2 : fewB [o] = goodO o := by unfold fewB; simp
  rw [hf2] at HF2
  have hb02 : Below w.heap.size w w2 := hb1.trans (hb2.mono (by omega))
  have HB2 := Lib.hid (And.intro hX2 (And.intro hb02 hb2))
  have HVB := Lib.hid (show kVol o.key < 65536 by unfold kVol; omega)
  unfold opV
  clear h hX hb1 hz1 hcs hps hkm hnm hkey hb2 hX2 hb02 hf2
  go_enter Tryz.func3, Tryz.ntmps3
  go_upto_region 1 with fail
  rw [← hw1]
  have HW1 := Lib.hid hw1
  clear hw1
  obtain ⟨skip, hskip⟩ : ∃ skip : Bool, skip = (!fewB l || (!goodO o || (decide (s < o.fl) && !decide (s ∈ o.ps)))) := ⟨_, rfl⟩
  have HSKIP := Lib.hid hskip
  clear hskip
  go_cut [36] from 15 to 36 (fun u36 wx => u36 = .bool skip ∧ Below w1.heap.size w1 wx)
  case first =>
    cases hfew : fewB l with
    | false =>
      rw [hfew] at HF1 HSKIP
      simp only [Bool.not_false, Bool.true_or] at HSKIP
      clear hfew
      go_wp2_with fail
      refine HF1.out.mono ?_
      rintro e w' ⟨rfl, rfl⟩
      go_wp2_with fail
      go_meet
      case rel => exact ⟨by rw [HSKIP.out], Below.refl _ _⟩
    | true =>
      rw [hfew] at HF1 HSKIP
      simp only [Bool.not_true, Bool.false_or] at HSKIP
      clear hfew
      go_wp2_with fail
      refine HF1.out.mono ?_
      rintro e w' ⟨rfl, rfl⟩
      cases hgood : goodO o with
      | false =>
        rw [hgood] at HF2 HSKIP
        simp only [Bool.not_false, Bool.true_or] at HSKIP
        clear hgood
        go_wp2_with fail
        rw [← hw2]
        refine HF2.out.mono ?_
        rintro e w'' ⟨rfl, rfl⟩
        clear hw2
        go_wp2_with fail
        go_meet
        case rel => exact ⟨by rw [HSKIP.out], HB2.out.2.2⟩
      | true =>
        rw [hgood] at HF2 HSKIP
        simp only [Bool.not_true, Bool.false_or] at HSKIP
        have hpm30 : o.pm ≤ 30 := by
          unfold goodO at hgood
          simp only [Bool.and_eq_true, decide_eq_true_eq] at hgood
          exact hgood.1
        clear hgood
        obtain ⟨x0', x1', x2', x3', x4', x5', x6'⟩ := HCS.out w2 HB2.out.1
        by_cases hsf : s < o.fl
        · have z0 : (s : Int) < (o.fl : Int) := by omega
          have HCT := Lib.hid (contains_u64 (w := w2) (c := o.pc) (HO.out.1.below HB2.out.2.1 (Nat.le_refl _)) (by omega) s)
          simp only [hsf, decide_true, Bool.true_and] at HSKIP
          clear hsf
          go_wp2_with fail
          rw [← hw2]
          refine HF2.out.mono ?_
          rintro e w'' ⟨rfl, rfl⟩
          clear hw2
          go_wp2_with fail
          refine HCT.out.mono ?_
          rintro e w'' ⟨rfl, rfl⟩
          generalize decide (s ∈ o.ps) = bs at *
          go_wp2_with fail
          go_meet
          case rel => exact ⟨by rw [HSKIP.out], HB2.out.2.2⟩
        · have z0 : ¬ ((s : Int) < (o.fl : Int)) := by omega
          simp only [hsf, decide_false, Bool.false_and] at HSKIP
          clear hsf
          go_wp2_with fail
          rw [← hw2]
          refine HF2.out.mono ?_
          rintro e w'' ⟨rfl, rfl⟩
          clear hw2
          go_wp2_with fail
          go_meet
          case rel => exact ⟨by rw [HSKIP.out], HB2.out.2.2⟩
  case rest =>
    obtain ⟨rfl, hbx⟩ := hcut
    have HBX := Lib.hid (And.intro hbx (HX.out.2.1.trans (hbx.mono (by have := HX.out.2.2; omega))))
    clear hbx x0 x1 x2 x3 x4 x5 x6 hw2
    cases hsk : skip with
    | true =>
      clear hsk
      go_wp2_with fail
      go_ret
      exact ⟨rfl, HBX.out.2⟩
    | false =>
      rw [hsk] at HSKIP
      have hcond := HSKIP.out.symm
      simp only [Bool.or_eq_false_iff, Bool.and_eq_false_iff, Bool.not_eq_false', decide_eq_false_iff_not, decide_eq_true_eq] at hcond
      obtain ⟨hfew, hgood, hsp⟩ := hcond
      have hfl' : o.fl ≤ s ∨ s ∈ o.ps := by
        rcases hsp with h | h
        · exact .inl (by omega)
        · exact .inr h
      have hfew' : l.length ≤ 60 ∧ ∀ x ∈ l, goodO x = true := by
        unfold fewB at hfew
        simp only [Bool.and_eq_true, decide_eq_true_eq] at hfew
        exact ⟨hfew.1, fun x hx => List.all_eq_true.1 hfew.2 x hx⟩
      have hgo : o.pm ≤ 30 ∧ kBlk o.key ≤ 1073741824 := by
        unfold goodO at hgood
        simp only [Bool.and_eq_true, decide_eq_true_eq] at hgood
        exact ⟨hgood.1, hgood.2.2.2⟩
      have HFEW := Lib.hid (And.intro hfew' (And.intro hfl' hgo))
      clear hfew hgood hsp hfl' hfew' hgo hsk HSKIP HF1 HF2
      have hlen : l.length = n := HH.out.row.1
      have HN := Lib.hid (new38_any wc)
      have HLEN := Lib.hid hlen
      unfold ptrV at HN
      clear hlen
      go_wp2_with fail
      refine HN.out.mono ?_
      clear HN
      rintro e wN ⟨ph, pt, pa, E, rfl, hW, hE, hbN⟩
      have HS0 := Lib.hid (show LawS wc.heap.size wc ph pt pa 60 (.slice none 0 0) [] wN from ⟨⟨E, upto 60, [], hW, HInv.empty 60 _ (fun x => mem_upto), hE, (fun g hg => by cases hg)⟩, (fun x hx => by cases hx), World.ownsRow_nil _ _ _ _, hbN, hbN.size⟩)
      clear hW hE hbN
      go_wp2_with fail
      go_loopw [9, 10] (fun u9 u10 wr => ∃ (i : Nat) (l' : List En), i ≤ n ∧ u10 = .int .i64 i ∧ LawS wc.heap.size wc ph pt pa 60 u9 l' wr ∧ l'.length ≤ i) (fun _ u10 _ => n - (intOf u10).toNat)
      case atStart => exact ⟨0, [], by omega, rfl, HS0.out, Nat.le_refl _⟩
      case round =>
        obtain ⟨i, l', hi, rfl, hL, hli⟩ := hrel
        have HL := Lib.hid hL
        clear hL
        by_cases hlt : i < n
        · have hi1 : (i : Int) < (n : Int) := by omega
          have hi0 : (0 : Int) ≤ (i : Int) := by omega
          have h60 : n ≤ 60 := by have := HFEW.out.1.1; have := HLEN.out; omega
          obtain ⟨x, hx⟩ : ∃ x, l[i]? = some x := ⟨_, List.getElem?_eq_getElem (by have := HLEN.out; omega)⟩
          have hm := List.mem_of_getElem? hx
          obtain ⟨k1, k2, k3, k4, k5, k6⟩ := HH.out.ok x hm
          have hbw : Below w.heap.size w wr := HBX.out.2.trans (HL.out.below.mono HBX.out.2.size)
          obtain ⟨g, of, rfl, hc⟩ := (HH.out.row.below hbw (Nat.le_refl _)).2 i x hx
          have c0 := hc 0 _ rfl
          have c1 := hc 1 _ rfl
          have c2 := hc 2 _ rfl
          have c3 := hc 3 _ rfl
          have c4 := hc 4 _ rfl
          have c5 := hc 5 _ rfl
          have c6 := hc 6 _ rfl
          simp only [Nat.add_zero] at c0
          have HST := Lib.hid (step38_any HL.out (by omega) (by omega) x (HFEW.out.1.2 x hm) k2 k3 k4 (k1.below hbw (Nat.le_refl _)))
          unfold ptrV opV at HST
          clear hx hm k1 k2 k3 k4 k5 k6 hbw hc
          go_wp2_with fail
          refine HST.out.mono ?_
          clear HST
          rintro e w5 ⟨v', l2, rfl, hL5, hl5⟩
          have HL5 := Lib.hid hL5
          clear hL5
          go_wp2_with fail
          go_roundw
          case rel => exact ⟨i + 1, l2, by omega, by go_num, HL5.out, by omega⟩
          case measure => simp [intOf]; omega
        · obtain rfl : n = i := by omega
          have hll : l'.length ≤ 60 := by have := HFEW.out.1.1; have := HLEN.out; omega
          have hXr := (HL.out.below.block w.heap.size (by have := HBX.out.1.size; have := HX.out.2.2; omega)).trans ((HBX.out.1.block w.heap.size (by have := HX.out.2.2; omega)).trans HX.out.1)
          obtain ⟨x0, x1, x2, x3, x4, x5, x6⟩ := HCS.out wr hXr
          have s1 : IntKind.i64.wrap (kVol o.key : Int) = (kVol o.key : Int) := IntWalk.i64_in _ (by have := HVB.out; omega)
          have s2 : IntKind.i64.wrap (kBlk o.key : Int) = (kBlk o.key : Int) := IntWalk.i64_in _ (by have := HFEW.out.2.2.2; omega)
          have HXR := Lib.hid hXr
          clear hXr hli hi hlt
          go_wp2_with fail
          go_quiet (fail)
          have hwq : Below wr.heap.size wr (wr.drewN nq) := ⟨rfl, rfl, rfl, Nat.le_refl _, fun _ _ => rfl⟩
          have HLq := Lib.hid (HL.out.ro hwq)
          have hXq : (wr.drewN nq).heap[w.heap.size]? = _ := HXR.out
          have HXq := Lib.hid hXq
          clear hwq hXq HXR HL x0 x1 x2 x3 x4 x5 x6
          generalize wr.drewN nq = W at *
          obtain ⟨E2, F2, L2, hH, hI, hE2⟩ := HLq.out.E
          have hrise := hH.rise
          have hAt := at_any hH (by omega) (kVol o.key) (kBlk o.key) s HVB.out (kBlk_lt _) hs
          have HAT := Lib.hid hAt
          have HHI := Lib.hid (And.intro hH (And.intro hI (And.intro hE2 hrise)))
          have hpe := prune_eq hrise (kVol o.key) o.ps o.fl
          have HPE := Lib.hid (fun b (hb : b < 4294967296) => hpe b s hb hs HFEW.out.2.1 (kVol o.key))
          unfold ptrV at HAT
          clear hH hI hE2 hrise hAt hpe
          go_wp2_with fail
          refine HAT.out.mono ?_
          clear HAT
          rintro e w5 ⟨rfl, hb5⟩
          have HSH := Lib.hid (shot_any (HHI.out.1.below hb5) (by omega) (kVol o.key) s 8 HVB.out hs (by omega))
          have HB5 := Lib.hid hb5
          have z8 : ((8 : Nat) : Int) = 8 := rfl
          rw [z8] at HSH
          unfold ptrV at HSH
          clear hb5
          go_wp2_with fail
          refine HSH.out.mono ?_
          clear HSH
          rintro e w6 ⟨r1, rfl, hr1, hb6⟩
          have hb06 : Below W.heap.size W w6 := HB5.out.trans (hb6.mono HB5.out.size)
          have hX6 := (hb06.block _ (Array.getElem?_eq_some_iff.1 HXq.out).1).trans HXq.out
          obtain ⟨x0, x1, x2, x3, x4, x5, x6⟩ := HCS.out w6 hX6
          have hbw6 : Below w.heap.size w w6 := (HBX.out.2.trans (HLq.out.below.mono HBX.out.2.size)).trans (hb06.mono (by have := HLq.out.le; have := HBX.out.2.size; omega))
          have HPR := Lib.hid (prune_any (HHI.out.1.below hb06) HHI.out.2.1 HLq.out.fit (by omega) (by omega) (kVol o.key) HVB.out (c := o.pc) (HO.out.1.below hbw6 (Nat.le_refl _)) (by have := HFEW.out.2.2.1; omega) o.fl)
          have HR1 := Lib.hid (And.intro hr1 (And.intro hb06 hbw6))
          unfold ptrV at HPR
          clear hr1 hb6 hb06 hbw6 hX6
          go_wp2_with fail
          refine HPR.out.mono ?_
          clear HPR x0 x1 x2 x3 x4 x5 x6
          rintro e w7 ⟨rfl, F7, L7, ⟨E7, q1, q2, q3⟩, hI7⟩
          have hl7 : (delAll l' (idleL l' (kVol o.key) o.ps o.fl)).length ≤ 60 := by
            rw [idle_eq HHI.out.2.2.2, delAll_rest HHI.out.2.2.2]
            exact Nat.le_trans (List.length_filter_le _ _) hll
          have hr17 := HR1.out.1.far q3 fun j hj => by have := (HHI.out.2.2.1 j hj).2; have := HB5.out.size; omega
          have hbw7 : Below w.heap.size w w7 := HR1.out.2.2.trans (below_of_outs q3 (fun j hj => by have := (HHI.out.2.2.1 j hj).1; have := HBX.out.2.size; omega) HR1.out.2.2.size)
          have HA7 := Lib.hid (at_any q1 (by omega) (kVol o.key) (kBlk o.key) s HVB.out (kBlk_lt _) hs)
          rw [HPE.out _ (kBlk_lt _)] at HA7
          have HQ7 := Lib.hid (And.intro q1 (And.intro hr17 hbw7))
          unfold ptrV at HA7
          clear q1 q2 q3 hI7 hr17 hbw7
          have zz : ((atL l' (kVol o.key) (kBlk o.key) s : Int) == (atL l' (kVol o.key) (kBlk o.key) s : Int)) = true := by simp
          generalize atL l' (kVol o.key) (kBlk o.key) s = av at *
          go_wp2_with fail
          refine HA7.out.mono ?_
          clear HA7
          rintro e w8 ⟨rfl, hb8⟩
          have hsh8 := shot_any (HQ7.out.1.below hb8) (by omega) (kVol o.key) s 8 HVB.out hs (by omega)
          rw [show (List.range 8).map (fun b => atL (delAll l' (idleL l' (kVol o.key) o.ps o.fl)) (kVol o.key) b s) = (List.range 8).map fun b => atL l' (kVol o.key) b s from List.map_congr_left fun b hb => HPE.out b (by have := List.mem_range.1 hb; omega)] at hsh8
          have HSH := Lib.hid hsh8
          have HB8 := Lib.hid (And.intro hb8 (HQ7.out.2.2.trans (hb8.mono HQ7.out.2.2.size)))
          rw [z8] at HSH
          unfold ptrV at HSH
          clear hb8 hsh8
          go_wp2_with fail
          refine HSH.out.mono ?_
          clear HSH
          rintro e w9 ⟨r2, rfl, hr2, hb9⟩
          obtain ⟨a1, c1, he1, hrow1, -, -⟩ := (HQ7.out.2.1.below (HB8.out.1.trans (hb9.mono HB8.out.1.size)) (Nat.le_refl _)).row encA_len
          obtain ⟨a2, c2, he2, hrow2, -, -⟩ := hr2.row encA_len
          have heq := equalA_any (c := c2) (c' := c1) hrow2 hrow1 (by simp)
          rw [decide_eq_true rfl] at heq
          have HEQ := Lib.hid heq
          have HB9 := Lib.hid (HB8.out.2.trans (hb9.mono HB8.out.2.size))
          subst he1
          subst he2
          clear hr2 hb9 hrow1 hrow2 heq
          go_wp2_with fail
          refine HEQ.out.mono ?_
          clear HEQ
          rintro e w10 ⟨rfl, q, rfl⟩
          have HAL := Lib.hid (alive38_any (w9.drewN q))
          have HB10 := Lib.hid (show Below w.heap.size w (w9.drewN q) from ⟨HB9.out.os, HB9.out.tape, HB9.out.output, HB9.out.size, HB9.out.block⟩)
          go_wp2_with fail
          refine HAL.out.mono ?_
          rintro e w11 ⟨rfl, hb11⟩
          have HF := Lib.hid (HB10.out.trans (hb11.mono HB10.out.size))
          clear hb11
          go_wp2_with fail
          go_ret
          exact ⟨rfl, HF.out⟩
end Go.Proofs.YtejhbaeeaejcaaaGreat
/- Calls that came in, opened. Conditions: those of each theorem. -/
namespace Go.Proofs.YtejhbaeeaejcaaaGreat
open Go.RowKit Go.WideShapes Go.ChangeShapes Go.Joins Go.Deep

theorem rows_of {α : Type} {P : Nat → α → Prop} : ∀ {n : Nat}, (∀ i, i < n → ∃ q, P i q) → ∃ l : List α, l.length = n ∧ ∀ i x, l[i]? = some x → P i x
  | 0, _ => ⟨[], rfl, fun i x h => by simp at h⟩
  | n + 1, h => by
    obtain ⟨l, hl, hx⟩ := rows_of (n := n) (fun i hi => h i (by omega))
    obtain ⟨q, hq⟩ := h n (by omega)
    refine ⟨l ++ [q], by simp [hl], fun i x hi => ?_⟩
    rw [List.getElem?_append] at hi
    split at hi
    · exact hx i x hi
    · have hin : i = n := by
        rcases Nat.lt_or_ge (i - l.length) 1 with h1 | h1
        · omega
        · rw [List.getElem?_eq_none (by simpa using h1)] at hi; cases hi
      subst hin
      rw [hl, Nat.sub_self] at hi
      simp at hi
      subst hi
      exact hq
theorem wf_i64 {x : Int} (h : (Lit.int .i64 x).wf = true) : -9223372036854775808 ≤ x ∧ x ≤ 9223372036854775807 := by
  simp [Lit.wf, IntKind.min, IntKind.max, IntKind.signed, IntKind.bits] at h
  omega
theorem wf_u16 {x : Int} (h : (Lit.int .u16 x).wf = true) : ∃ n : Nat, x = n ∧ n < 65536 := by
  simp [Lit.wf, IntKind.min, IntKind.max, IntKind.signed, IntKind.bits] at h
  exact ⟨x.toNat, by omega, by omega⟩
theorem wf_u32 {x : Int} (h : (Lit.int .u32 x).wf = true) : ∃ n : Nat, x = n ∧ n < 4294967296 := by
  simp [Lit.wf, IntKind.min, IntKind.max, IntKind.signed, IntKind.bits] at h
  exact ⟨x.toNat, by omega, by omega⟩
theorem wf_u64 {x : Int} (h : (Lit.int .u64 x).wf = true) : ∃ n : Nat, x = n ∧ n < 18446744073709551616 := by
  simp [Lit.wf, IntKind.min, IntKind.max, IntKind.signed, IntKind.bits] at h
  exact ⟨x.toNat, by omega, by omega⟩
theorem under30 : ∃ f0 f1 f2 f3 f4 : Field, Tryz.prog.underlying 30 = some (.struct #[f0, f1, f2, f3, f4]) ∧ f0.offset = 0 ∧ f1.offset = 1 ∧ f2.offset = 2 ∧ f3.offset = 5 ∧ f4.offset = 6 ∧ f0.type = 3 ∧ f1.type = 3 ∧ f2.type = 27 ∧ f3.type = 28 ∧ f4.type = 25 := ⟨_, _, _, _, _, Tryz.underlying30, rfl, rfl, rfl, rfl, rfl, rfl, rfl, rfl, rfl, rfl⟩
theorem under27 : ∃ f0 f1 f2 : Field, Tryz.prog.underlying 27 = some (.struct #[f0, f1, f2]) ∧ f0.offset = 0 ∧ f1.offset = 1 ∧ f2.offset = 2 ∧ f0.type = 23 ∧ f1.type = 24 ∧ f2.type = 25 := ⟨_, _, _, Tryz.underlying27, rfl, rfl, rfl, rfl, rfl, rfl⟩
theorem cellsOp : Tryz.prog.cellsOf 30 = 7 := by kernel_rfl
theorem cellsKey : Tryz.prog.cellsOf 27 = 3 := by kernel_rfl
theorem cellsInt : Tryz.prog.cellsOf 3 = 1 := by kernel_rfl
theorem cellsU16 : Tryz.prog.cellsOf 23 = 1 := by kernel_rfl
theorem cellsU32 : Tryz.prog.cellsOf 24 = 1 := by kernel_rfl
theorem cellsU64 : Tryz.prog.cellsOf 25 = 1 := by kernel_rfl
theorem cellsU64s : Tryz.prog.cellsOf 28 = 1 := by kernel_rfl

theorem add_plain (b o n : Nat) : (⟨b, o, none⟩ : Addr).add n = ⟨b, o + n, none⟩ := by unfold Addr.add; split <;> simp_all
/-- Numbers that came in. -/
theorem u64s_of_trod {H : Type} {enc : TypeId × Value → H} {w : World} {fuel : Nat} {cs : List Value} {x : DataW H × List MemPlace} (h : DataW.trod enc Tryz.prog w 0 (fun _ => true) true fuel 28 cs = some x) :
    ∃ a n c ps, cs = [.slice a n c] ∧ RowE encS 1 w a n ps ∧ n ≤ 9223372036854775807 := by
  rcases open_slice Tryz.underlying28 h with ⟨hcs, _⟩ | ⟨a, len, cap, m, k, D, Pl, hcs, _, hl, hm, hmm, _, hx⟩
  · exact ⟨none, 0, 0, [], hcs, RowE.nil encS 1 _ _, by omega⟩
  · simp only [if_true] at hmm
    have hv : ∀ i, i < len → ∃ p : Nat, w.cell? (a.add i) = some (.int .u64 (p : Int)) := fun i hi => by
      obtain ⟨cs', hc, ht'⟩ := hx i (by omega)
      rw [cellsU64, Nat.mul_one] at hc
      obtain ⟨z, e, -, wf⟩ := DataW.trod_int Tryz.underlying25 ht'
      obtain ⟨p, rfl, -⟩ := wf_u64 wf
      obtain ⟨_, hcl, hat⟩ := World.cells?_some hc
      have := hat 0 (by omega)
      rw [Go.Deep.add_add, Nat.add_zero, e] at this
      exact ⟨p, this⟩
    obtain ⟨ps, hpl, hpx⟩ := rows_of hv
    refine ⟨some a, len, cap, ps, hcs, ⟨hpl, fun i p hi => ?_⟩, by unfold maxLen at hm; omega⟩
    have h1 := hpx i p hi
    obtain ⟨b, o, spot⟩ := a
    have hspot : spot = none := by
      have hil := (List.getElem?_eq_some_iff.1 hi).1
      obtain ⟨q, hq⟩ : ∃ q, ps[0]? = some q := ⟨_, List.getElem?_eq_getElem (by omega)⟩
      simpa [Addr.add] using World.cell?_spot (hpx 0 q hq)
    subst hspot
    refine ⟨b, o, rfl, fun j y hy => ?_⟩
    have hj : j = 0 := by
      have := (List.getElem?_eq_some_iff.1 hy).1
      simp [encS] at this
      exact this
    subst hj
    simp [encS] at hy
    subst hy
    rw [add_plain] at h1
    simpa using h1
/-- What a call reads as. -/
def OhOk (w : World) (o : Oh) : Prop := RowE encS 1 w o.pa o.pm o.ps ∧ o.kd ≤ 9223372036854775807 ∧ o.nm ≤ 9223372036854775807 ∧ o.key ≤ 5192296858534827628530496329220095 ∧ o.pm ≤ 9223372036854775807 ∧ o.fl < 18446744073709551616
set_option maxRecDepth 100000 in
theorem op_of_trod {H : Type} {enc : TypeId × Value → H} {w : World} {fuel : Nat} {cs : List Value} {x : DataW H × List MemPlace} (hcl : cs.length = 7) (h : DataW.trod enc Tryz.prog w 0 (fun _ => true) true fuel 30 cs = some x) :
    ∃ o : Oh, cs = encO o ∧ OhOk w o := by
  obtain ⟨f0, f1, f2, f3, f4, hs, o0, o1, o2, o3, o4, t0, t1, t2, t3, t4⟩ := under30
  obtain ⟨g0, g1, g2, hs27, p0, p1, p2, u0, u1, u2⟩ := under27
  obtain ⟨ys, n', hn', hy, hlen, hyl, hfl⟩ := DataW.trod_struct hs h
  have q0 := hfl 0 f0 rfl
  have q1 := hfl 1 f1 rfl
  have q2 := hfl 2 f2 rfl
  have q3 := hfl 3 f3 rfl
  have q4 := hfl 4 f4 rfl
  rw [o0, t0, cellsInt] at q0
  rw [o1, t1, cellsInt] at q1
  rw [o2, t2, cellsKey] at q2
  rw [o3, t3, cellsU64s] at q3
  rw [o4, t4, cellsU64] at q4
  match cs, hcl with
  | [c0, c1, c2, c3, c4, c5, c6], _ =>
    have hy0 : ys[0]? = some (ys[0]'(by rw [hyl]; simp)) := List.getElem?_eq_getElem _
    have hy1 : ys[1]? = some (ys[1]'(by rw [hyl]; simp)) := List.getElem?_eq_getElem _
    have hy2 : ys[2]? = some (ys[2]'(by rw [hyl]; simp)) := List.getElem?_eq_getElem _
    have hy3 : ys[3]? = some (ys[3]'(by rw [hyl]; simp)) := List.getElem?_eq_getElem _
    have hy4 : ys[4]? = some (ys[4]'(by rw [hyl]; simp)) := List.getElem?_eq_getElem _
    rw [hy0] at q0
    rw [hy1] at q1
    rw [hy2] at q2
    rw [hy3] at q3
    rw [hy4] at q4
    simp only [List.drop_zero, List.drop_succ_cons, List.take_succ_cons, List.take_zero] at q0 q1 q2 q3 q4
    obtain ⟨kd, e0, -, wf0⟩ := DataW.trod_int Tryz.underlying3 q0
    obtain ⟨nm, e1, -, wf1⟩ := DataW.trod_int Tryz.underlying3 q1
    obtain ⟨fl, e4, -, wf4⟩ := DataW.trod_int Tryz.underlying25 q4
    obtain ⟨a, n, c, ps, e3, hps, hn⟩ := u64s_of_trod q3
    obtain ⟨zs, n2, hn2, hz, hzl, hzsz, hzf⟩ := DataW.trod_struct hs27 q2
    have r0 := hzf 0 g0 rfl
    have r1 := hzf 1 g1 rfl
    have r2 := hzf 2 g2 rfl
    rw [p0, u0, cellsU16] at r0
    rw [p1, u1, cellsU32] at r1
    rw [p2, u2, cellsU64] at r2
    have hz0 : zs[0]? = some (zs[0]'(by rw [hzsz]; simp)) := List.getElem?_eq_getElem _
    have hz1 : zs[1]? = some (zs[1]'(by rw [hzsz]; simp)) := List.getElem?_eq_getElem _
    have hz2 : zs[2]? = some (zs[2]'(by rw [hzsz]; simp)) := List.getElem?_eq_getElem _
    rw [hz0] at r0
    rw [hz1] at r1
    rw [hz2] at r2
    simp only [List.drop_zero, List.drop_succ_cons, List.take_succ_cons, List.take_zero] at r0 r1 r2
    obtain ⟨kv, d0, -, vf0⟩ := DataW.trod_int Tryz.underlying23 r0
    obtain ⟨kb, d1, -, vf1⟩ := DataW.trod_int Tryz.underlying24 r1
    obtain ⟨ks, d2, -, vf2⟩ := DataW.trod_int Tryz.underlying25 r2
    obtain ⟨kv, rfl, hkv⟩ := wf_u16 vf0
    obtain ⟨kb, rfl, hkb⟩ := wf_u32 vf1
    obtain ⟨ks, rfl, hks⟩ := wf_u64 vf2
    obtain ⟨fl, rfl, hfl4⟩ := wf_u64 wf4
    simp only [List.cons.injEq, and_true] at e0 e1 e3 e4 d0 d1 d2
    subst e0 e1 e3 e4 d0 d1 d2
    refine ⟨⟨kd, nm, keyN kv kb ks, a, n, c, ps, fl⟩, ?_, hps, (wf_i64 wf0).2, (wf_i64 wf1).2, ?_, hn, hfl4⟩
    · unfold encO
      simp only
      rw [keyN_vol hkb hks, keyN_blk hkb hks, keyN_seq hks]
    · show keyN kv kb ks ≤ _
      unfold keyN
      omega
set_option maxRecDepth 100000 in
/-- A slice of calls that came in. -/
theorem ops38_of_trod {H : Type} {enc : TypeId × Value → H} {w : World} {a : Option Addr} {n cap : Nat} {d : DataW H} {p : List MemPlace} (h : DataW.Trod enc Tryz.prog w 0 (fun _ => true) true 22 (.slice a n cap) d p) :
    ∃ l, OpsW w a n l := by
  obtain ⟨fuel, hf⟩ := h
  rcases open_slice Tryz.underlying22 hf with ⟨hcs, _⟩ | ⟨x, len, cap', m, k, D, Pl, hcs, _, hl, hm, hmm, _, hx⟩
  · simp [Value.cells] at hcs
    obtain ⟨rfl, rfl, rfl⟩ := hcs
    exact ⟨[], RowE.nil encO 7 _ _, fun o ho => by cases ho⟩
  · simp [Value.cells] at hcs
    obtain ⟨rfl, rfl, rfl⟩ := hcs
    simp only [if_true] at hmm
    have hv : ∀ i, i < n → ∃ o : Oh, (∀ j y, (encO o)[j]? = some y → w.cell? (x.add (i * 7 + j)) = some y) ∧ OhOk w o := fun i hi => by
      obtain ⟨cs', hc, ht'⟩ := hx i (by omega)
      rw [cellsOp] at hc
      obtain ⟨_, hcl, hat⟩ := World.cells?_some hc
      obtain ⟨o, rfl, hok⟩ := op_of_trod hcl ht'
      refine ⟨o, fun j y hy => ?_, hok⟩
      have := hat j (by have := (List.getElem?_eq_some_iff.1 hy).1; rw [encO_len] at this; exact this)
      rw [Go.Deep.add_add] at this
      rw [this]; exact hy
    obtain ⟨l, hll, hlx⟩ := rows_of hv
    refine ⟨l, ⟨hll, fun i o hi => ?_⟩, fun o ho => ?_⟩
    · obtain ⟨h1, -⟩ := hlx i o hi
      have hil := (List.getElem?_eq_some_iff.1 hi).1
      obtain ⟨z0, hz0⟩ : ∃ z0, l[0]? = some z0 := ⟨_, List.getElem?_eq_getElem (by omega)⟩
      have hc0 := (hlx 0 z0 hz0).1 0 _ rfl
      obtain ⟨b, of, spot⟩ := x
      have hspot : spot = none := by simpa [Addr.add] using World.cell?_spot hc0
      subst hspot
      refine ⟨b, of, rfl, fun j y hy => ?_⟩
      have := h1 j y hy
      rw [add_plain, ← Nat.add_assoc] at this
      exact this
    · obtain ⟨i, hi⟩ := List.getElem?_of_mem ho
      exact (hlx i o hi).2
set_option maxRecDepth 100000 in
theorem op38_of_trod {H : Type} {enc : TypeId × Value → H} {w : World} {base : Nat} {r : Reach} {v : Value} {d : DataW H} {p : List MemPlace} (hv : Value.okWide Tryz.prog w r base 30 v) (h : DataW.Trod enc Tryz.prog w 0 (fun _ => true) true 30 v d p) :
    ∃ o : Oh, v = opV o ∧ OhOk w o := by
  obtain ⟨f0, f1, f2, f3, f4, hs, -⟩ := under30
  obtain ⟨cs, rfl, hcs⟩ := okWide_struct hs hv
  obtain ⟨fuel, hf⟩ := h
  rw [cellsOp] at hcs
  obtain ⟨o, ho, hok⟩ := op_of_trod (cs := (Value.agg cs).cells.toList) (by simpa [Value.cells] using hcs) (by simpa using hf)
  refine ⟨o, ?_, hok⟩
  have : cs.toList = encO o := by simpa [Value.cells] using ho
  unfold opV
  rw [← Array.toList_inj.1 (show cs.toList = (#[.int .i64 o.kd, .int .i64 o.nm, .int .u16 (kVol o.key : Int), .int .u32 (kBlk o.key : Int), .int .u64 (kSeq o.key : Int), .slice o.pa o.pm o.pc, .int .u64 (o.fl : Int)] : Array Value).toList from this)]
end Go.Proofs.YtejhbaeeaejcaaaGreat
