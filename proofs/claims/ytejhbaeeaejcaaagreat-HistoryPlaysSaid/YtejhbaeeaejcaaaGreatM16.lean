/- The walk of the law HistoryPrune. Conditions: those of each theorem. -/
import Derived.Test.YtejhbaeeaejcaaaGreatM15
import Derived.Deep.Slices
import Derived.Deep.Fields
import Derived.ChangeSame
import Derived.Lib.SmallJoins
import Derived.ProofKit
import Derived.Sort.MapsRangeIn
import Derived.Test.YtejhbaeeaejcaaaGreatM9
import Derived.Test.YtejhbaeeaejcaaaGreatM2
import Derived.Test.YtejhbaeeaejcaaaGreatM13
namespace Go.Proofs.YtejhbaeeaejcaaaGreat
open Go.RowKit

theorem encO_len (o : Oh) : (encO o).length = 7 := rfl
/-- Calls that came in: a row, each with points that lie there too, and numbers that a machine has. -/
structure OpsW (w : World) (a : Option Addr) (n : Nat) (l : List Oh) : Prop where
  row : RowE encO 7 w a n l
  ok : ∀ o ∈ l, RowE encS 1 w o.pa o.pm o.ps ∧ o.kd ≤ 9223372036854775807 ∧ o.nm ≤ 9223372036854775807 ∧ o.key ≤ 5192296858534827628530496329220095 ∧ o.pm ≤ 9223372036854775807 ∧ o.fl < 18446744073709551616
theorem prune_eq {l : List En} (hr : Rise l) (v : Nat) (ps : List Nat) (fl b s : Nat) (hb : b < 4294967296) (hs : s < 18446744073709551616) (h : fl ≤ s ∨ s ∈ ps) : (∀ u, atL (delAll l (idleL l v ps fl)) u b s = atL l u b s) := fun u => by
  rw [idle_eq hr, delAll_rest hr]
  exact prune_at hr v ps fl u b s hb hs h

set_option maxRecDepth 100000 in
set_option maxHeartbeats 16000000 in
theorem prune38_any {w : World} {a : Option Addr} {n c : Nat} {l : List Oh} (h : OpsW w a n l) (o : Oh) (ho : RowE encS 1 w o.pa o.pm o.ps ∧ o.kd ≤ 9223372036854775807 ∧ o.nm ≤ 9223372036854775807 ∧ o.key ≤ 5192296858534827628530496329220095 ∧ o.pm ≤ 9223372036854775807 ∧ o.fl < 18446744073709551616) (s : Nat) (hs : s < 18446744073709551616) :
    Calls Tryz.prog 3 #[.slice a n c, opV o, .int .u64 (s : Int)] w fun e w' => e = .returned (.bool true) ∧ Below w.heap.size w w' := by
  obtain ⟨hps, hkm, hnm, hkey, hpm, hfl⟩ := ho
  obtain ⟨w1, hw1⟩ : ∃ w1, w1 = w.alloc (.cells #[.int .i64 o.kd, .int .i64 o.nm, .int .u16 (kVol o.key : Int), .int .u32 (kBlk o.key : Int), .int .u64 (kSeq o.key : Int), .slice o.pa o.pm o.pc, .int .u64 (o.fl : Int)] 30) := ⟨_, rfl⟩
  have hX : w1.heap[w.heap.size]? = some (.cells #[.int .i64 o.kd, .int .i64 o.nm, .int .u16 (kVol o.key : Int), .int .u32 (kBlk o.key : Int), .int .u64 (kSeq o.key : Int), .slice o.pa o.pm o.pc, .int .u64 (o.fl : Int)] 30 (0, 0)) := by rw [hw1]; exact heap_alloc_new w _
  have hb1 : Below w.heap.size w w1 := by rw [hw1]; exact (Below.refl _ _).alloc (Nat.le_refl _) _
  have hz1 : w1.heap.size = w.heap.size + 1 := by rw [hw1, World.alloc_size]
  have hcs : ∀ W : World, W.heap[w.heap.size]? = some (.cells #[.int .i64 o.kd, .int .i64 o.nm, .int .u16 (kVol o.key : Int), .int .u32 (kBlk o.key : Int), .int .u64 (kSeq o.key : Int), .slice o.pa o.pm o.pc, .int .u64 (o.fl : Int)] 30 (0, 0)) →
      W.cell? ⟨w.heap.size, 0, none⟩ = some (.int .i64 o.kd) ∧ W.cell? ⟨w.heap.size, 1, none⟩ = some (.int .i64 o.nm) ∧ W.cell? ⟨w.heap.size, 2, none⟩ = some (.int .u16 (kVol o.key : Int)) ∧ W.cell? ⟨w.heap.size, 3, none⟩ = some (.int .u32 (kBlk o.key : Int)) ∧ W.cell? ⟨w.heap.size, 4, none⟩ = some (.int .u64 (kSeq o.key : Int)) ∧ W.cell? ⟨w.heap.size, 5, none⟩ = some (.slice o.pa o.pm o.pc) ∧ W.cell? ⟨w.heap.size, 6, none⟩ = some (.int .u64 (o.fl : Int)) :=
    fun W hW => ⟨cell_of_row W _ 0 _ _ _ hW, cell_of_row W _ 1 _ _ _ hW, cell_of_row W _ 2 _ _ _ hW, cell_of_row W _ 3 _ _ _ hW, cell_of_row W _ 4 _ _ _ hW, cell_of_row W _ 5 _ _ _ hW, cell_of_row W _ 6 _ _ _ hW⟩
  obtain ⟨x0, x1, x2, x3, x4, x5, x6⟩ := hcs w1 hX
  have HCS := Lib.hid hcs
  have HX := Lib.hid (And.intro hX (And.intro hb1 hz1))
  have HF1 := Lib.hid (few38_any (c := c) (h.row.below hb1 (Nat.le_refl _)) fun o ho => (h.ok o ho).2.2.2.2.1)
  have HH := Lib.hid h
  have HO := Lib.hid (And.intro hps (And.intro hkm (And.intro hnm hkey)))
  -- the one call, as a row
  obtain ⟨w2, hw2⟩ : ∃ w2, w2 = w1.alloc (.cells #[.int .i64 o.kd, .int .i64 o.nm, .int .u16 (kVol o.key : Int), .int .u32 (kBlk o.key : Int), .int .u64 (kSeq o.key : Int), .slice o.pa o.pm o.pc, .int .u64 (o.fl : Int)] 30) := ⟨_, rfl⟩
  have hb2 : Below w1.heap.size w1 w2 := by rw [hw2]; exact (Below.refl _ _).alloc (Nat.le_refl _) _
  have hX2 := (hb2.block w.heap.size (by omega)).trans hX
  have HF2 := Lib.hid (few38_any (w := w2) (c := 1) (show RowE encO 7 w2 (some ⟨w1.heap.size, 0, none⟩) 1 [o] by rw [hw2]; exact RowE.new (enc := encO) w1 o _) (fun o' ho' => by simp at ho'; rw [ho']; exact hpm))
  have hf2 : fewB [o] = goodO o := by unfold fewB; simp
  rw [hf2] at HF2
  have hb02 : Below w.heap.size w w2 := hb1.trans (hb2.mono (by omega))
  have HB2 := Lib.hid (And.intro hX2 (And.intro hb02 hb2))
  have HVB := Lib.hid (show kVol o.key < 65536 by unfold kVol; omega)
  unfold opV
  clear h hX hb1 hz1 hcs hps hkm hnm hkey hb2 hX2 hb02 hf2
  go_enter Tryz.func3, Tryz.ntmps3
  go_upto_region 1 with fail
  rw [← hw1]
  have HW1 := Lib.hid hw1
  clear hw1
  obtain ⟨skip, hskip⟩ : ∃ skip : Bool, skip = (!fewB l || (!goodO o || (decide (s < o.fl) && !decide (s ∈ o.ps)))) := ⟨_, rfl⟩
  have HSKIP := Lib.hid hskip
  clear hskip
  go_cut [36] from 15 to 36 (fun u36 wx => u36 = .bool skip ∧ Below w1.heap.size w1 wx)
  case first =>
    cases hfew : fewB l with
    | false =>
      rw [hfew] at HF1 HSKIP
      simp only [Bool.not_false, Bool.true_or] at HSKIP
      clear hfew
      go_wp2_with fail
      refine HF1.out.mono ?_
      rintro e w' ⟨rfl, rfl⟩
      go_wp2_with fail
      go_meet
      case rel => exact ⟨by rw [HSKIP.out], Below.refl _ _⟩
    | true =>
      rw [hfew] at HF1 HSKIP
      simp only [Bool.not_true, Bool.false_or] at HSKIP
      clear hfew
      go_wp2_with fail
      refine HF1.out.mono ?_
      rintro e w' ⟨rfl, rfl⟩
      cases hgood : goodO o with
      | false =>
        rw [hgood] at HF2 HSKIP
        simp only [Bool.not_false, Bool.true_or] at HSKIP
        clear hgood
        go_wp2_with fail
        rw [← hw2]
        refine HF2.out.mono ?_
        rintro e w'' ⟨rfl, rfl⟩
        clear hw2
        go_wp2_with fail
        go_meet
        case rel => exact ⟨by rw [HSKIP.out], HB2.out.2.2⟩
      | true =>
        rw [hgood] at HF2 HSKIP
        simp only [Bool.not_true, Bool.false_or] at HSKIP
        have hpm30 : o.pm ≤ 30 := by
          unfold goodO at hgood
          simp only [Bool.and_eq_true, decide_eq_true_eq] at hgood
          exact hgood.1
        clear hgood
        obtain ⟨x0', x1', x2', x3', x4', x5', x6'⟩ := HCS.out w2 HB2.out.1
        by_cases hsf : s < o.fl
        · have z0 : (s : Int) < (o.fl : Int) := by omega
          have HCT := Lib.hid (contains_u64 (w := w2) (c := o.pc) (HO.out.1.below HB2.out.2.1 (Nat.le_refl _)) (by omega) s)
          simp only [hsf, decide_true, Bool.true_and] at HSKIP
          clear hsf
          go_wp2_with fail
          rw [← hw2]
          refine HF2.out.mono ?_
          rintro e w'' ⟨rfl, rfl⟩
          clear hw2
          go_wp2_with fail
          refine HCT.out.mono ?_
          rintro e w'' ⟨rfl, rfl⟩
          generalize decide (s ∈ o.ps) = bs at *
          go_wp2_with fail
          go_meet
          case rel => exact ⟨by rw [HSKIP.out], HB2.out.2.2⟩
        · have z0 : ¬ ((s : Int) < (o.fl : Int)) := by omega
          simp only [hsf, decide_false, Bool.false_and] at HSKIP
          clear hsf
          go_wp2_with fail
          rw [← hw2]
          refine HF2.out.mono ?_
          rintro e w'' ⟨rfl, rfl⟩
          clear hw2
          go_wp2_with fail
          go_meet
          case rel => exact ⟨by rw [HSKIP.out], HB2.out.2.2⟩
  case rest =>
    obtain ⟨rfl, hbx⟩ := hcut
    have HBX := Lib.hid (And.intro hbx (HX.out.2.1.trans (hbx.mono (by have := HX.out.2.2; omega))))
    clear hbx x0 x1 x2 x3 x4 x5 x6 hw2
    cases hsk : skip with
    | true =>
      clear hsk
      go_wp2_with fail
      go_ret
      exact ⟨rfl, HBX.out.2⟩
    | false =>
      rw [hsk] at HSKIP
      have hcond := HSKIP.out.symm
      simp only [Bool.or_eq_false_iff, Bool.and_eq_false_iff, Bool.not_eq_false', decide_eq_false_iff_not, decide_eq_true_eq] at hcond
      obtain ⟨hfew, hgood, hsp⟩ := hcond
      have hfl' : o.fl ≤ s ∨ s ∈ o.ps := by
        rcases hsp with h | h
        · exact .inl (by omega)
        · exact .inr h
      have hfew' : l.length ≤ 60 ∧ ∀ x ∈ l, goodO x = true := by
        unfold fewB at hfew
        simp only [Bool.and_eq_true, decide_eq_true_eq] at hfew
        exact ⟨hfew.1, fun x hx => List.all_eq_true.1 hfew.2 x hx⟩
      have hgo : o.pm ≤ 30 ∧ kBlk o.key ≤ 1073741824 := by
        unfold goodO at hgood
        simp only [Bool.and_eq_true, decide_eq_true_eq] at hgood
        exact ⟨hgood.1, hgood.2.2.2⟩
      have HFEW := Lib.hid (And.intro hfew' (And.intro hfl' hgo))
      clear hfew hgood hsp hfl' hfew' hgo hsk HSKIP HF1 HF2
      have hlen : l.length = n := HH.out.row.1
      have HN := Lib.hid (new38_any wc)
      have HLEN := Lib.hid hlen
      unfold ptrV at HN
      clear hlen
      go_wp2_with fail
      refine HN.out.mono ?_
      clear HN
      rintro e wN ⟨ph, pt, pa, E, rfl, hW, hE, hbN⟩
      have HS0 := Lib.hid (show LawS wc.heap.size wc ph pt pa 60 (.slice none 0 0) [] wN from ⟨⟨E, upto 60, [], hW, HInv.empty 60 _ (fun x => mem_upto), hE, (fun g hg => by cases hg)⟩, (fun x hx => by cases hx), World.ownsRow_nil _ _ _ _, hbN, hbN.size⟩)
      clear hW hE hbN
      go_wp2_with fail
      go_loopw [9, 10] (fun u9 u10 wr => ∃ (i : Nat) (l' : List En), i ≤ n ∧ u10 = .int .i64 i ∧ LawS wc.heap.size wc ph pt pa 60 u9 l' wr ∧ l'.length ≤ i) (fun _ u10 _ => n - (intOf u10).toNat)
      case atStart => exact ⟨0, [], by omega, rfl, HS0.out, Nat.le_refl _⟩
      case round =>
        obtain ⟨i, l', hi, rfl, hL, hli⟩ := hrel
        have HL := Lib.hid hL
        clear hL
        by_cases hlt : i < n
        · have hi1 : (i : Int) < (n : Int) := by omega
          have hi0 : (0 : Int) ≤ (i : Int) := by omega
          have h60 : n ≤ 60 := by have := HFEW.out.1.1; have := HLEN.out; omega
          obtain ⟨x, hx⟩ : ∃ x, l[i]? = some x := ⟨_, List.getElem?_eq_getElem (by have := HLEN.out; omega)⟩
          have hm := List.mem_of_getElem? hx
          obtain ⟨k1, k2, k3, k4, k5, k6⟩ := HH.out.ok x hm
          have hbw : Below w.heap.size w wr := HBX.out.2.trans (HL.out.below.mono HBX.out.2.size)
          obtain ⟨g, of, rfl, hc⟩ := (HH.out.row.below hbw (Nat.le_refl _)).2 i x hx
          have c0 := hc 0 _ rfl
          have c1 := hc 1 _ rfl
          have c2 := hc 2 _ rfl
          have c3 := hc 3 _ rfl
          have c4 := hc 4 _ rfl
          have c5 := hc 5 _ rfl
          have c6 := hc 6 _ rfl
          simp only [Nat.add_zero] at c0
          have HST := Lib.hid (step38_any HL.out (by omega) (by omega) x (HFEW.out.1.2 x hm) k2 k3 k4 (k1.below hbw (Nat.le_refl _)))
          unfold ptrV opV at HST
          clear hx hm k1 k2 k3 k4 k5 k6 hbw hc
          go_wp2_with fail
          refine HST.out.mono ?_
          clear HST
          rintro e w5 ⟨v', l2, rfl, hL5, hl5⟩
          have HL5 := Lib.hid hL5
          clear hL5
          go_wp2_with fail
          go_roundw
          case rel => exact ⟨i + 1, l2, by omega, by go_num, HL5.out, by omega⟩
          case measure => simp [intOf]; omega
        · obtain rfl : n = i := by omega
          have hll : l'.length ≤ 60 := by have := HFEW.out.1.1; have := HLEN.out; omega
          have hXr := (HL.out.below.block w.heap.size (by have := HBX.out.1.size; have := HX.out.2.2; omega)).trans ((HBX.out.1.block w.heap.size (by have := HX.out.2.2; omega)).trans HX.out.1)
          obtain ⟨x0, x1, x2, x3, x4, x5, x6⟩ := HCS.out wr hXr
          have s1 : IntKind.i64.wrap (kVol o.key : Int) = (kVol o.key : Int) := IntWalk.i64_in _ (by have := HVB.out; omega)
          have s2 : IntKind.i64.wrap (kBlk o.key : Int) = (kBlk o.key : Int) := IntWalk.i64_in _ (by have := HFEW.out.2.2.2; omega)
          have HXR := Lib.hid hXr
          clear hXr hli hi hlt
          go_wp2_with fail
          go_quiet (fail)
          have hwq : Below wr.heap.size wr (wr.drewN nq) := ⟨rfl, rfl, rfl, Nat.le_refl _, fun _ _ => rfl⟩
          have HLq := Lib.hid (HL.out.ro hwq)
          have hXq : (wr.drewN nq).heap[w.heap.size]? = _ := HXR.out
          have HXq := Lib.hid hXq
          clear hwq hXq HXR HL x0 x1 x2 x3 x4 x5 x6
          generalize wr.drewN nq = W at *
          obtain ⟨E2, F2, L2, hH, hI, hE2⟩ := HLq.out.E
          have hrise := hH.rise
          have hAt := at_any hH (by omega) (kVol o.key) (kBlk o.key) s HVB.out (kBlk_lt _) hs
          have HAT := Lib.hid hAt
          have HHI := Lib.hid (And.intro hH (And.intro hI (And.intro hE2 hrise)))
          have hpe := prune_eq hrise (kVol o.key) o.ps o.fl
          have HPE := Lib.hid (fun b (hb : b < 4294967296) => hpe b s hb hs HFEW.out.2.1 (kVol o.key))
          unfold ptrV at HAT
          clear hH hI hE2 hrise hAt hpe
          go_wp2_with fail
          refine HAT.out.mono ?_
          clear HAT
          rintro e w5 ⟨rfl, hb5⟩
          have HSH := Lib.hid (shot_any (HHI.out.1.below hb5) (by omega) (kVol o.key) s 8 HVB.out hs (by omega))
          have HB5 := Lib.hid hb5
          have z8 : ((8 : Nat) : Int) = 8 := rfl
          rw [z8] at HSH
          unfold ptrV at HSH
          clear hb5
          go_wp2_with fail
          refine HSH.out.mono ?_
          clear HSH
          rintro e w6 ⟨r1, rfl, hr1, hb6⟩
          have hb06 : Below W.heap.size W w6 := HB5.out.trans (hb6.mono HB5.out.size)
          have hX6 := (hb06.block _ (Array.getElem?_eq_some_iff.1 HXq.out).1).trans HXq.out
          obtain ⟨x0, x1, x2, x3, x4, x5, x6⟩ := HCS.out w6 hX6
          have hbw6 : Below w.heap.size w w6 := (HBX.out.2.trans (HLq.out.below.mono HBX.out.2.size)).trans (hb06.mono (by have := HLq.out.le; have := HBX.out.2.size; omega))
          have HPR := Lib.hid (prune_any (HHI.out.1.below hb06) HHI.out.2.1 HLq.out.fit (by omega) (by omega) (kVol o.key) HVB.out (c := o.pc) (HO.out.1.below hbw6 (Nat.le_refl _)) (by have := HFEW.out.2.2.1; omega) o.fl)
          have HR1 := Lib.hid (And.intro hr1 (And.intro hb06 hbw6))
          unfold ptrV at HPR
          clear hr1 hb6 hb06 hbw6 hX6
          go_wp2_with fail
          refine HPR.out.mono ?_
          clear HPR x0 x1 x2 x3 x4 x5 x6
          rintro e w7 ⟨rfl, F7, L7, ⟨E7, q1, q2, q3⟩, hI7⟩
          have hl7 : (delAll l' (idleL l' (kVol o.key) o.ps o.fl)).length ≤ 60 := by
            rw [idle_eq HHI.out.2.2.2, delAll_rest HHI.out.2.2.2]
            exact Nat.le_trans (List.length_filter_le _ _) hll
          have hr17 := HR1.out.1.far q3 fun j hj => by have := (HHI.out.2.2.1 j hj).2; have := HB5.out.size; omega
          have hbw7 : Below w.heap.size w w7 := HR1.out.2.2.trans (below_of_outs q3 (fun j hj => by have := (HHI.out.2.2.1 j hj).1; have := HBX.out.2.size; omega) HR1.out.2.2.size)
          have HA7 := Lib.hid (at_any q1 (by omega) (kVol o.key) (kBlk o.key) s HVB.out (kBlk_lt _) hs)
          rw [HPE.out _ (kBlk_lt _)] at HA7
          have HQ7 := Lib.hid (And.intro q1 (And.intro hr17 hbw7))
          unfold ptrV at HA7
          clear q1 q2 q3 hI7 hr17 hbw7
          have zz : ((atL l' (kVol o.key) (kBlk o.key) s : Int) == (atL l' (kVol o.key) (kBlk o.key) s : Int)) = true := by simp
          generalize atL l' (kVol o.key) (kBlk o.key) s = av at *
          go_wp2_with fail
          refine HA7.out.mono ?_
          clear HA7
          rintro e w8 ⟨rfl, hb8⟩
          have hsh8 := shot_any (HQ7.out.1.below hb8) (by omega) (kVol o.key) s 8 HVB.out hs (by omega)
          rw [show (List.range 8).map (fun b => atL (delAll l' (idleL l' (kVol o.key) o.ps o.fl)) (kVol o.key) b s) = (List.range 8).map fun b => atL l' (kVol o.key) b s from List.map_congr_left fun b hb => HPE.out b (by have := List.mem_range.1 hb; omega)] at hsh8
          have HSH := Lib.hid hsh8
          have HB8 := Lib.hid (And.intro hb8 (HQ7.out.2.2.trans (hb8.mono HQ7.out.2.2.size)))
          rw [z8] at HSH
          unfold ptrV at HSH
          clear hb8 hsh8
          go_wp2_with fail
          refine HSH.out.mono ?_
          clear HSH
          rintro e w9 ⟨r2, rfl, hr2, hb9⟩
          obtain ⟨a1, c1, he1, hrow1, -, -⟩ := (HQ7.out.2.1.below (HB8.out.1.trans (hb9.mono HB8.out.1.size)) (Nat.le_refl _)).row encA_len
          obtain ⟨a2, c2, he2, hrow2, -, -⟩ := hr2.row encA_len
          have heq := equalA_any (c := c2) (c' := c1) hrow2 hrow1 (by simp)
          rw [decide_eq_true rfl] at heq
          have HEQ := Lib.hid heq
          have HB9 := Lib.hid (HB8.out.2.trans (hb9.mono HB8.out.2.size))
          subst he1
          subst he2
          clear hr2 hb9 hrow1 hrow2 heq
          go_wp2_with fail
          refine HEQ.out.mono ?_
          clear HEQ
          rintro e w10 ⟨rfl, q, rfl⟩
          have HAL := Lib.hid (alive38_any (w9.drewN q))
          have HB10 := Lib.hid (show Below w.heap.size w (w9.drewN q) from ⟨HB9.out.os, HB9.out.tape, HB9.out.output, HB9.out.size, HB9.out.block⟩)
          go_wp2_with fail
          refine HAL.out.mono ?_
          rintro e w11 ⟨rfl, hb11⟩
          have HF := Lib.hid (HB10.out.trans (hb11.mono HB10.out.size))
          clear hb11
          go_wp2_with fail
          go_ret
          exact ⟨rfl, HF.out⟩
end Go.Proofs.YtejhbaeeaejcaaaGreat
/- Calls that came in, opened. Conditions: those of each theorem. -/
namespace Go.Proofs.YtejhbaeeaejcaaaGreat
open Go.RowKit Go.WideShapes Go.ChangeShapes Go.Joins Go.Deep

theorem rows_of {α : Type} {P : Nat → α → Prop} : ∀ {n : Nat}, (∀ i, i < n → ∃ q, P i q) → ∃ l : List α, l.length = n ∧ ∀ i x, l[i]? = some x → P i x
  | 0, _ => ⟨[], rfl, fun i x h => by simp at h⟩
  | n + 1, h => by
    obtain ⟨l, hl, hx⟩ := rows_of (n := n) (fun i hi => h i (by omega))
    obtain ⟨q, hq⟩ := h n (by omega)
    refine ⟨l ++ [q], by simp [hl], fun i x hi => ?_⟩
    rw [List.getElem?_append] at hi
    split at hi
    · exact hx i x hi
    · have hin : i = n := by
        rcases Nat.lt_or_ge (i - l.length) 1 with h1 | h1
        · omega
        · rw [List.getElem?_eq_none (by simpa using h1)] at hi; cases hi
      subst hin
      rw [hl, Nat.sub_self] at hi
      simp at hi
      subst hi
      exact hq
theorem wf_i64 {x : Int} (h : (Lit.int .i64 x).wf = true) : -9223372036854775808 ≤ x ∧ x ≤ 9223372036854775807 := by
  simp [Lit.wf, IntKind.min, IntKind.max, IntKind.signed, IntKind.bits] at h
  omega
theorem wf_u16 {x : Int} (h : (Lit.int .u16 x).wf = true) : ∃ n : Nat, x = n ∧ n < 65536 := by
  simp [Lit.wf, IntKind.min, IntKind.max, IntKind.signed, IntKind.bits] at h
  exact ⟨x.toNat, by omega, by omega⟩
theorem wf_u32 {x : Int} (h : (Lit.int .u32 x).wf = true) : ∃ n : Nat, x = n ∧ n < 4294967296 := by
  simp [Lit.wf, IntKind.min, IntKind.max, IntKind.signed, IntKind.bits] at h
  exact ⟨x.toNat, by omega, by omega⟩
theorem wf_u64 {x : Int} (h : (Lit.int .u64 x).wf = true) : ∃ n : Nat, x = n ∧ n < 18446744073709551616 := by
  simp [Lit.wf, IntKind.min, IntKind.max, IntKind.signed, IntKind.bits] at h
  exact ⟨x.toNat, by omega, by omega⟩
theorem under30 : ∃ f0 f1 f2 f3 f4 : Field, Tryz.prog.underlying 30 = some (.struct #[f0, f1, f2, f3, f4]) ∧ f0.offset = 0 ∧ f1.offset = 1 ∧ f2.offset = 2 ∧ f3.offset = 5 ∧ f4.offset = 6 ∧ f0.type = 3 ∧ f1.type = 3 ∧ f2.type = 27 ∧ f3.type = 28 ∧ f4.type = 25 := ⟨_, _, _, _, _, Tryz.underlying30, rfl, rfl, rfl, rfl, rfl, rfl, rfl, rfl, rfl, rfl⟩
theorem under27 : ∃ f0 f1 f2 : Field, Tryz.prog.underlying 27 = some (.struct #[f0, f1, f2]) ∧ f0.offset = 0 ∧ f1.offset = 1 ∧ f2.offset = 2 ∧ f0.type = 23 ∧ f1.type = 24 ∧ f2.type = 25 := ⟨_, _, _, Tryz.underlying27, rfl, rfl, rfl, rfl, rfl, rfl⟩
theorem cellsOp : Tryz.prog.cellsOf 30 = 7 := by kernel_rfl
theorem cellsKey : Tryz.prog.cellsOf 27 = 3 := by kernel_rfl
theorem cellsInt : Tryz.prog.cellsOf 3 = 1 := by kernel_rfl
theorem cellsU16 : Tryz.prog.cellsOf 23 = 1 := by kernel_rfl
theorem cellsU32 : Tryz.prog.cellsOf 24 = 1 := by kernel_rfl
theorem cellsU64 : Tryz.prog.cellsOf 25 = 1 := by kernel_rfl
theorem cellsU64s : Tryz.prog.cellsOf 28 = 1 := by kernel_rfl

theorem add_plain (b o n : Nat) : (⟨b, o, none⟩ : Addr).add n = ⟨b, o + n, none⟩ := by unfold Addr.add; split <;> simp_all
/-- Numbers that came in. -/
theorem u64s_of_trod {H : Type} {enc : TypeId × Value → H} {w : World} {fuel : Nat} {cs : List Value} {x : DataW H × List MemPlace} (h : DataW.trod enc Tryz.prog w 0 (fun _ => true) true fuel 28 cs = some x) :
    ∃ a n c ps, cs = [.slice a n c] ∧ RowE encS 1 w a n ps ∧ n ≤ 9223372036854775807 := by
  rcases open_slice Tryz.underlying28 h with ⟨hcs, _⟩ | ⟨a, len, cap, m, k, D, Pl, hcs, _, hl, hm, hmm, _, hx⟩
  · exact ⟨none, 0, 0, [], hcs, RowE.nil encS 1 _ _, by omega⟩
  · simp only [if_true] at hmm
    have hv : ∀ i, i < len → ∃ p : Nat, w.cell? (a.add i) = some (.int .u64 (p : Int)) := fun i hi => by
      obtain ⟨cs', hc, ht'⟩ := hx i (by omega)
      rw [cellsU64, Nat.mul_one] at hc
      obtain ⟨z, e, -, wf⟩ := DataW.trod_int Tryz.underlying25 ht'
      obtain ⟨p, rfl, -⟩ := wf_u64 wf
      obtain ⟨_, hcl, hat⟩ := World.cells?_some hc
      have := hat 0 (by omega)
      rw [Go.Deep.add_add, Nat.add_zero, e] at this
      exact ⟨p, this⟩
    obtain ⟨ps, hpl, hpx⟩ := rows_of hv
    refine ⟨some a, len, cap, ps, hcs, ⟨hpl, fun i p hi => ?_⟩, by unfold maxLen at hm; omega⟩
    have h1 := hpx i p hi
    obtain ⟨b, o, spot⟩ := a
    have hspot : spot = none := by
      have hil := (List.getElem?_eq_some_iff.1 hi).1
      obtain ⟨q, hq⟩ : ∃ q, ps[0]? = some q := ⟨_, List.getElem?_eq_getElem (by omega)⟩
      simpa [Addr.add] using World.cell?_spot (hpx 0 q hq)
    subst hspot
    refine ⟨b, o, rfl, fun j y hy => ?_⟩
    have hj : j = 0 := by
      have := (List.getElem?_eq_some_iff.1 hy).1
      simp [encS] at this
      exact this
    subst hj
    simp [encS] at hy
    subst hy
    rw [add_plain] at h1
    simpa using h1
/-- What a call reads as. -/
def OhOk (w : World) (o : Oh) : Prop := RowE encS 1 w o.pa o.pm o.ps ∧ o.kd ≤ 9223372036854775807 ∧ o.nm ≤ 9223372036854775807 ∧ o.key ≤ 5192296858534827628530496329220095 ∧ o.pm ≤ 9223372036854775807 ∧ o.fl < 18446744073709551616
set_option maxRecDepth 100000 in
theorem op_of_trod {H : Type} {enc : TypeId × Value → H} {w : World} {fuel : Nat} {cs : List Value} {x : DataW H × List MemPlace} (hcl : cs.length = 7) (h : DataW.trod enc Tryz.prog w 0 (fun _ => true) true fuel 30 cs = some x) :
    ∃ o : Oh, cs = encO o ∧ OhOk w o := by
  obtain ⟨f0, f1, f2, f3, f4, hs, o0, o1, o2, o3, o4, t0, t1, t2, t3, t4⟩ := under30
  obtain ⟨g0, g1, g2, hs27, p0, p1, p2, u0, u1, u2⟩ := under27
  obtain ⟨ys, n', hn', hy, hlen, hyl, hfl⟩ := DataW.trod_struct hs h
  have q0 := hfl 0 f0 rfl
  have q1 := hfl 1 f1 rfl
  have q2 := hfl 2 f2 rfl
  have q3 := hfl 3 f3 rfl
  have q4 := hfl 4 f4 rfl
  rw [o0, t0, cellsInt] at q0
  rw [o1, t1, cellsInt] at q1
  rw [o2, t2, cellsKey] at q2
  rw [o3, t3, cellsU64s] at q3
  rw [o4, t4, cellsU64] at q4
  match cs, hcl with
  | [c0, c1, c2, c3, c4, c5, c6], _ =>
    have hy0 : ys[0]? = some (ys[0]'(by rw [hyl]; simp)) := List.getElem?_eq_getElem _
    have hy1 : ys[1]? = some (ys[1]'(by rw [hyl]; simp)) := List.getElem?_eq_getElem _
    have hy2 : ys[2]? = some (ys[2]'(by rw [hyl]; simp)) := List.getElem?_eq_getElem _
    have hy3 : ys[3]? = some (ys[3]'(by rw [hyl]; simp)) := List.getElem?_eq_getElem _
    have hy4 : ys[4]? = some (ys[4]'(by rw [hyl]; simp)) := List.getElem?_eq_getElem _
    rw [hy0] at q0
    rw [hy1] at q1
    rw [hy2] at q2
    rw [hy3] at q3
    rw [hy4] at q4
    simp only [List.drop_zero, List.drop_succ_cons, List.take_succ_cons, List.take_zero] at q0 q1 q2 q3 q4
    obtain ⟨kd, e0, -, wf0⟩ := DataW.trod_int Tryz.underlying3 q0
    obtain ⟨nm, e1, -, wf1⟩ := DataW.trod_int Tryz.underlying3 q1
    obtain ⟨fl, e4, -, wf4⟩ := DataW.trod_int Tryz.underlying25 q4
    obtain ⟨a, n, c, ps, e3, hps, hn⟩ := u64s_of_trod q3
    obtain ⟨zs, n2, hn2, hz, hzl, hzsz, hzf⟩ := DataW.trod_struct hs27 q2
    have r0 := hzf 0 g0 rfl
    have r1 := hzf 1 g1 rfl
    have r2 := hzf 2 g2 rfl
    rw [p0, u0, cellsU16] at r0
    rw [p1, u1, cellsU32] at r1
    rw [p2, u2, cellsU64] at r2
    have hz0 : zs[0]? = some (zs[0]'(by rw [hzsz]; simp)) := List.getElem?_eq_getElem _
    have hz1 : zs[1]? = some (zs[1]'(by rw [hzsz]; simp)) := List.getElem?_eq_getElem _
    have hz2 : zs[2]? = some (zs[2]'(by rw [hzsz]; simp)) := List.getElem?_eq_getElem _
    rw [hz0] at r0
    rw [hz1] at r1
    rw [hz2] at r2
    simp only [List.drop_zero, List.drop_succ_cons, List.take_succ_cons, List.take_zero] at r0 r1 r2
    obtain ⟨kv, d0, -, vf0⟩ := DataW.trod_int Tryz.underlying23 r0
    obtain ⟨kb, d1, -, vf1⟩ := DataW.trod_int Tryz.underlying24 r1
    obtain ⟨ks, d2, -, vf2⟩ := DataW.trod_int Tryz.underlying25 r2
    obtain ⟨kv, rfl, hkv⟩ := wf_u16 vf0
    obtain ⟨kb, rfl, hkb⟩ := wf_u32 vf1
    obtain ⟨ks, rfl, hks⟩ := wf_u64 vf2
    obtain ⟨fl, rfl, hfl4⟩ := wf_u64 wf4
    simp only [List.cons.injEq, and_true] at e0 e1 e3 e4 d0 d1 d2
    subst e0 e1 e3 e4 d0 d1 d2
    refine ⟨⟨kd, nm, keyN kv kb ks, a, n, c, ps, fl⟩, ?_, hps, (wf_i64 wf0).2, (wf_i64 wf1).2, ?_, hn, hfl4⟩
    · unfold encO
      simp only
      rw [keyN_vol hkb hks, keyN_blk hkb hks, keyN_seq hks]
    · show keyN kv kb ks ≤ _
      unfold keyN
      omega
set_option maxRecDepth 100000 in
/-- A slice of calls that came in. -/
theorem ops38_of_trod {H : Type} {enc : TypeId × Value → H} {w : World} {a : Option Addr} {n cap : Nat} {d : DataW H} {p : List MemPlace} (h : DataW.Trod enc Tryz.prog w 0 (fun _ => true) true 22 (.slice a n cap) d p) :
    ∃ l, OpsW w a n l := by
  obtain ⟨fuel, hf⟩ := h
  rcases open_slice Tryz.underlying22 hf with ⟨hcs, _⟩ | ⟨x, len, cap', m, k, D, Pl, hcs, _, hl, hm, hmm, _, hx⟩
  · simp [Value.cells] at hcs
    obtain ⟨rfl, rfl, rfl⟩ := hcs
    exact ⟨[], RowE.nil encO 7 _ _, fun o ho => by cases ho⟩
  · simp [Value.cells] at hcs
    obtain ⟨rfl, rfl, rfl⟩ := hcs
    simp only [if_true] at hmm
    have hv : ∀ i, i < n → ∃ o : Oh, (∀ j y, (encO o)[j]? = some y → w.cell? (x.add (i * 7 + j)) = some y) ∧ OhOk w o := fun i hi => by
      obtain ⟨cs', hc, ht'⟩ := hx i (by omega)
      rw [cellsOp] at hc
      obtain ⟨_, hcl, hat⟩ := World.cells?_some hc
      obtain ⟨o, rfl, hok⟩ := op_of_trod hcl ht'
      refine ⟨o, fun j y hy => ?_, hok⟩
      have := hat j (by have := (List.getElem?_eq_some_iff.1 hy).1; rw [encO_len] at this; exact this)
      rw [Go.Deep.add_add] at this
      rw [this]; exact hy
    obtain ⟨l, hll, hlx⟩ := rows_of hv
    refine ⟨l, ⟨hll, fun i o hi => ?_⟩, fun o ho => ?_⟩
    · obtain ⟨h1, -⟩ := hlx i o hi
      have hil := (List.getElem?_eq_some_iff.1 hi).1
      obtain ⟨z0, hz0⟩ : ∃ z0, l[0]? = some z0 := ⟨_, List.getElem?_eq_getElem (by omega)⟩
      have hc0 := (hlx 0 z0 hz0).1 0 _ rfl
      obtain ⟨b, of, spot⟩ := x
      have hspot : spot = none := by simpa [Addr.add] using World.cell?_spot hc0
      subst hspot
      refine ⟨b, of, rfl, fun j y hy => ?_⟩
      have := h1 j y hy
      rw [add_plain, ← Nat.add_assoc] at this
      exact this
    · obtain ⟨i, hi⟩ := List.getElem?_of_mem ho
      exact (hlx i o hi).2
set_option maxRecDepth 100000 in
theorem op38_of_trod {H : Type} {enc : TypeId × Value → H} {w : World} {base : Nat} {r : Reach} {v : Value} {d : DataW H} {p : List MemPlace} (hv : Value.okWide Tryz.prog w r base 30 v) (h : DataW.Trod enc Tryz.prog w 0 (fun _ => true) true 30 v d p) :
    ∃ o : Oh, v = opV o ∧ OhOk w o := by
  obtain ⟨f0, f1, f2, f3, f4, hs, -⟩ := under30
  obtain ⟨cs, rfl, hcs⟩ := okWide_struct hs hv
  obtain ⟨fuel, hf⟩ := h
  rw [cellsOp] at hcs
  obtain ⟨o, ho, hok⟩ := op_of_trod (cs := (Value.agg cs).cells.toList) (by simpa [Value.cells] using hcs) (by simpa using hf)
  refine ⟨o, ?_, hok⟩
  have : cs.toList = encO o := by simpa [Value.cells] using ho
  unfold opV
  rw [← Array.toList_inj.1 (show cs.toList = (#[.int .i64 o.kd, .int .i64 o.nm, .int .u16 (kVol o.key : Int), .int .u32 (kBlk o.key : Int), .int .u64 (kSeq o.key : Int), .slice o.pa o.pm o.pc, .int .u64 (o.fl : Int)] : Array Value).toList from this)]
end Go.Proofs.YtejhbaeeaejcaaaGreat
/- The walk of maps.Keys's iterator over a map of numbers to counts, as a range over a function: each number that comes is a key. Conditions: those of each theorem. -/
namespace Go.Proofs.YtejhbaeeaejcaaaGreat
open Go Go.RowKit Go.Shelf Go.Maps Go.ChangeMaps Go.MapKept
attribute [local go_sem] Oper.semAt_some

/-- Block r is an iterator over the map in block b, whose entries are es; the stamps seen. -/
structure RngU (w : World) (b r : Nat) (es : Array MapEntry) (seen : Array Nat) : Prop where
  ex : ∃ clock since c0, w.heap[b]? = some (.map es clock) ∧ w.heap[r]? = some (.mapIter (some b) since seen c0) ∧ (∀ x ∈ es.toList, x.born < since) ∧ since ≤ c0 ∧ since ≤ clock ∧ MapKept.Stamped es clock
theorem RngU.lt {w : World} {b r : Nat} {es : Array MapEntry} {seen : Array Nat} (h : RngU w b r es seen) : b < w.heap.size ∧ r < w.heap.size := by
  obtain ⟨clock, since, c0, h1, h2, _⟩ := h.ex
  exact ⟨(Array.getElem?_eq_some_iff.1 h1).1, (Array.getElem?_eq_some_iff.1 h2).1⟩
theorem RngU.heap {w w' : World} {b r : Nat} {es : Array MapEntry} {seen : Array Nat} (h : RngU w b r es seen) (hb : w'.heap[b]? = w.heap[b]?) (hr : w'.heap[r]? = w.heap[r]?) : RngU w' b r es seen := by
  obtain ⟨clock, since, c0, h1, h2, h3⟩ := h.ex
  exact ⟨clock, since, c0, hb.trans h1, hr.trans h2, h3⟩
theorem leftU_list (es : Array MapEntry) (seen : Array Nat) : (leftOf es seen).toList = es.toList.filter fun e => !seen.contains e.born := by
  unfold leftOf
  rw [← Array.toList_filter]
theorem leftU_nil (es : Array MapEntry) : (leftOf es #[]).toList = es.toList := by
  rw [leftU_list]
  exact List.filter_eq_self.2 (fun x _ => by simp)
/-- One entry less is left. -/
theorem leftU_less {es : Array MapEntry} {seen : Array Nat} {e : MapEntry} (he : e ∈ (leftOf es seen).toList) : (leftOf es (seen.push e.born)).toList.length < (leftOf es seen).toList.length := by
  obtain ⟨h1, h2⟩ := mem_left he
  rw [leftU_list, leftU_list]
  have hsub : ∀ l : List MapEntry, (l.filter fun x => !(seen.push e.born).contains x.born).length ≤ (l.filter fun x => !seen.contains x.born).length := fun l => by
    induction l with
    | nil => simp
    | cons a l ih =>
      rw [List.filter_cons, List.filter_cons]
      by_cases h : seen.contains a.born = true
      · rw [if_neg (by rw [contains_push, h]; simp), if_neg (by rw [h]; simp)]; exact ih
      · rw [if_pos (show (!seen.contains a.born) = true by simpa using h)]
        split
        · simp only [List.length_cons]; omega
        · simp only [List.length_cons]; omega
  generalize es.toList = l at h1
  induction l with
  | nil => cases h1
  | cons a l ih =>
    rw [List.filter_cons, List.filter_cons]
    rcases List.mem_cons.1 h1 with rfl | h1
    · rw [if_neg (by rw [contains_push]; simp), if_pos (by rw [h2]; rfl), List.length_cons]
      have := hsub l
      omega
    · have := ih h1
      by_cases h : seen.contains a.born = true
      · rw [if_neg (by rw [contains_push, h]; simp), if_neg (by rw [h]; simp)]; exact this
      · rw [if_pos (show (!seen.contains a.born) = true by simpa using h)]
        split
        · simp only [List.length_cons]; omega
        · simp only [List.length_cons]; omega

theorem UMap.rangeU {w : World} {b : Nat} {L : List Uc} (h : UMap w b L) : ∃ es clock, (Instr.range 81 (.map (some b))).run Tryz.prog w = .ok (.pointer (some ⟨w.heap.size, 0, none⟩)) (w.alloc (.mapIter (some b) clock #[] clock)) ∧ RngU (w.alloc (.mapIter (some b) clock #[] clock)) b w.heap.size es #[] ∧ ReadsU es.toList L := by
  have hlt := h.lt
  obtain ⟨es, clock, h1, h2, h3⟩ := h
  exact ⟨es, clock, run_range_map w _ _ _ b es clock Tryz.underlying81 h1, ⟨clock, clock, clock, (Below.heap_alloc _ _ _ hlt).trans h1, heap_alloc_new w _, h2.1, Nat.le_refl _, Nat.le_refl _, h2⟩, h3⟩
/-- The step of the range. -/
theorem RngU.next {w : World} {b r : Nat} {es : Array MapEntry} {seen : Array Nat} (h : RngU w b r es seen) (ty : TypeId) :
    ((leftOf es seen).toList = [] ∧ (Instr.next (.pointer (some ⟨r, 0, none⟩)) false ty).run Tryz.prog w = .ok (.tuple #[.bool false]) w) ∨
    ∃ e ∈ (leftOf es seen).toList, ∃ w', (Instr.next (.pointer (some ⟨r, 0, none⟩)) false ty).run Tryz.prog w = .ok (.tuple #[.bool true, e.key, e.val]) w' ∧
      RngU w' b r es (seen.push e.born) ∧ (Instr.entry (.pointer (some ⟨r, 0, none⟩))).run Tryz.prog w' = .ok (.tuple #[e.key, e.val]) w' ∧ w.grownBy w' (some r) ∧ w'.heap.size = w.heap.size := by
  obtain ⟨clock, since, c0, hb, hr, hold, hsc, hsk, hst⟩ := h.ex
  have hne : b ≠ r := by
    intro e
    rw [e, hr] at hb
    cases hb
  rcases run_next_at (P := Tryz.prog) w ty r b since c0 seen es clock hr hb hold hsc with ⟨h0, hrun⟩ | ⟨e, he, w1, hal, hrun⟩
  · exact Or.inl ⟨by rw [Array.eq_empty_of_size_eq_zero h0], hrun⟩
  · obtain ⟨hem, hes⟩ := mem_left he
    have hr1 : w1.heap[r]? = some (.mapIter (some b) since seen c0) := by rcases hal with rfl | rfl <;> exact hr
    have hb1 : w1.heap[b]? = some (.map es clock) := by rcases hal with rfl | rfl <;> exact hb
    have hset := heap_set (o' := .mapIter (some b) since (seen.push e.born) clock) hr1
    have hb' : (setBlock w1 r (.mapIter (some b) since (seen.push e.born) clock)).heap[b]? = some (.map es clock) := (hset.2 b hne).trans hb1
    refine Or.inr ⟨e, he, _, hrun, ⟨clock, since, clock, hb', hset.1, hold, hsk, hsk, hst⟩, run_entry_at _ r b since seen es clock e hset.1 hb' hem hst.2.1, ?_, ?_⟩
    · rcases hal with rfl | rfl <;> exact ⟨rfl, rfl, rfl, by simp [setBlock], fun i _ hi => hset.2 i (fun e1 => hi (by rw [e1]))⟩
    · rcases hal with rfl | rfl <;> simp [setBlock]

def LessU (es : Array MapEntry) (seen : Array Nat) (e : MapEntry) : Prop := (leftOf es (seen.push e.born)).toList.length < (leftOf es seen).toList.length
/-- A key of the map. -/
def IsKey (L : List Uc) (x : Nat) : Prop := ∃ p ∈ L, p.1 = x
section
variable {F : Fence} {n : Nat} {w : World} {ops : Array Oper} {rest : List Oper} {o : Oper} {a : Act} {Q : Exit → Act → World → Prop}
theorem wpListIn_range_u (hg : o.guard = none) (m : Operand) (hop : o.op = Op.range 81 m) {b : Nat} {L : List Uc} (hm : a.eval m = .map (some b)) (h : UMap w b L)
    (hK : ∀ es w', RngU w' b w.heap.size es #[] → ReadsU es.toList L → w.grownBy w' none → wpListIn F n Tryz.prog ops Q rest (a.put o.dst (.pointer (some ⟨w.heap.size, 0, none⟩))) w') : wpListIn F n Tryz.prog ops Q (o :: rest) a w := by
  refine wpListIn_plain hg fun K' hK' => ?_
  unfold Oper.wpIn
  refine ⟨by simp [Oper.about, hop], ?_⟩
  rw [Oper.semAt_plain F _ _ (by rw [hop]; intro c hc'; cases hc')]
  obtain ⟨es, clock, h1, h2, h3⟩ := h.rangeU
  simp [execOp, hop, hm, h1, Result.andThen]
  exact hK' _ _ (hK es _ h2 h3 ⟨rfl, rfl, rfl, by simp, fun j hj _ => Below.heap_alloc _ _ j hj⟩)
theorem wpListIn_range_nilU (hg : o.guard = none) (m : Operand) (hop : o.op = Op.range 81 m) (hm : a.eval m = .map none)
    (hK : wpListIn F n Tryz.prog ops Q rest (a.put o.dst (.pointer (some ⟨w.heap.size, 0, none⟩))) (w.alloc (.mapIter none 0 #[] 0))) : wpListIn F n Tryz.prog ops Q (o :: rest) a w := by
  refine wpListIn_plain hg fun K' hK' => ?_
  unfold Oper.wpIn
  refine ⟨by simp [Oper.about, hop], ?_⟩
  rw [Oper.semAt_plain F _ _ (by rw [hop]; intro c hc'; cases hc')]
  simp [execOp, hop, hm, run_range_nilMap w _ _ _ Tryz.underlying81, Result.andThen]
  exact hK' _ _ hK
theorem wpListIn_next_u (hg : o.guard = none) (it : Operand) (hop : o.op = Op.next it false) {b r : Nat} {es : Array MapEntry} {seen : Array Nat} {L : List Uc} (hit : a.eval it = .pointer (some ⟨r, 0, none⟩)) (h : RngU w b r es seen) (hk : ReadsU es.toList L)
    (hDone : wpListIn F n Tryz.prog ops Q rest (a.put o.dst (.tuple #[.bool false])) w)
    (hMore : ∀ (e : MapEntry) (x c : Nat) (w' : World), LessU es seen e → IsKey L x → RngU w' b r es (seen.push e.born) → w.grownBy w' (some r) →
      (Instr.entry (.pointer (some ⟨r, 0, none⟩))).run Tryz.prog w' = .ok (.tuple #[.int .u32 (x : Int), .int .i64 (c : Int)]) w' → wpListIn F n Tryz.prog ops Q rest (a.put o.dst (.tuple #[.bool true, .int .u32 (x : Int), .int .i64 (c : Int)])) w') :
    wpListIn F n Tryz.prog ops Q (o :: rest) a w := by
  refine wpListIn_plain hg fun K' hK' => ?_
  unfold Oper.wpIn
  refine ⟨by simp [Oper.about, hop], ?_⟩
  rw [Oper.semAt_plain F _ _ (by rw [hop]; intro c hc'; cases hc')]
  rcases h.next o.type with ⟨h0, hrun⟩ | ⟨e, he, w', hrun, hR, hen, hgr, hsz⟩
  · simp [execOp, hop, hit, hrun, Result.andThen]
    exact hK' _ _ hDone
  · obtain ⟨p, hp, h1, h2⟩ := hk.mem (mem_left he).1
    unfold uV at h1
    simp [execOp, hop, hit, hrun, Result.andThen, h1, h2]
    refine hK' _ _ (hMore e p.1 p.2 w' (leftU_less he) ⟨p, hp, rfl⟩ hR hgr ?_)
    rw [hen, h1, h2]
end

def KeyU (L : List Uc) := {x : Nat // IsKey L x}
set_option maxRecDepth 100000 in
set_option maxHeartbeats 8000000 in
theorem keys_seq {w : World} {bm b : Nat} {L : List Uc} (n : Nat) (hn : 1 ≤ n) (hbm : w.heap[bm]? = some (.cells #[.map (some b)] 81 (0, 0))) (hm : UMap w b L) :
    SeqSep Fence.wide n Tryz.prog 90 #[.pointer (some ⟨bm, 0, none⟩)] (fun x : KeyU L => #[.int .u32 (x.1 : Int)]) (fun ys => ys.length ≤ L.length) (fun _ => True) (fun j => j = b ∨ j = bm) L.length w := by
  intro l J Jx D0 W hX hJ hJx hD0 hDX hY h0
  have hbl := hm.lt
  have hbml := (Array.getElem?_eq_some_iff.1 hbm).1
  have hXlt : ∀ j, (j = b ∨ j = bm) → j < W.heap.size := fun j hj => by
    have := hX.size
    rcases hj with rfl | rfl <;> omega
  have hI0 : Iter J (fun j => j = b ∨ j = bm) w W D0 [] D0 W := ⟨h0, hD0, ⟨fun j hj => .inl hj, hD0⟩, Outs.refl _ _, hX⟩
  have hmW : UMap W b L := hm.heap (hX.block b (.inl rfl))
  have c0 : W.cell? ⟨bm, 0, none⟩ = some (.map (some b)) := cell_of_row W bm 0 _ _ _ ((hX.block bm (.inr rfl)).trans hbm)
  have HI0 := Lib.hid hI0
  have HY := Lib.hid hY
  clear hI0 hY h0 hX hm hbm
  refine callsIn_of_wp Tryz.func90 rfl trivial ?_ rfl
  simp only [Tryz.ntmps90, List.size_toArray, List.length_cons, List.length_nil, Nat.reduceAdd, Nat.reduceSub, Array.replicate_succ, Array.replicate_zero, List.push_toArray, List.append_toArray, List.nil_append, List.cons_append]
  gi_wp2_with (first | (gi_at_range; refine wpListIn_range_u rfl _ rfl rfl hmW ?_; intro es w0 hR0 hrd hg0) | gi_in)
  have hlen : es.toList.length = L.length := by have := congrArg List.length hrd.eq; simpa using this
  gi_loopw [3] (fun _ wr => ∃ (seen : Array Nat) (pre : List (KeyU L)) (D : Nat → Prop), RngU wr b W.heap.size es seen ∧ pre.length + (leftOf es seen).toList.length ≤ L.length ∧ ¬ D W.heap.size ∧ Iter J (fun j => j = b ∨ j = bm) w W D0 pre D wr)
    (fun _ wr => wr.rangeLeft b W.heap.size)
  case atStart => exact ⟨#[], [], D0, hR0, by rw [leftU_nil, hlen]; simp, fun h => by have := hD0 _ h; omega, HI0.out.step hJ hXlt hg0 (fun r e => by cases e)⟩
  case round =>
    obtain ⟨seen, pre, D, hR, hcnt, hnD, hI⟩ := hrel
    have HI := Lib.hid hI
    clear hI
    gi_wp2_with (first
      | (gi_at_next; refine wpListIn_next_u rfl _ rfl rfl hR hrd ?_ ?_)
      | gi_in)
    · gi_wp2
      go_end0
      exact ⟨⟨_, rfl⟩, D, HI.out.grew, HI.out.outs, .inl ⟨pre, by omega, HI.out.j⟩⟩
    · intro e x c w1 hless hx hR1 hg1 hen
      unfold LessU at hless
      have hI1 := HI.out.step hJ hXlt hg1 (fun r e => by cases e; exact ⟨Nat.le_refl _, hnD⟩)
      have hls : wr.rangeLeft b W.heap.size = (leftOf es seen).toList.length := by
        obtain ⟨clock, since, c0, h1, h2, _⟩ := hR.ex
        simp only [World.rangeLeft, h1, h2]
        rw [Array.length_toList]
      obtain ⟨fn, tmps, assign, body, hy, hRd⟩ := HY.out pre ⟨x, hx⟩ D w1 hI1.j hI1.lt hI1.keep (by omega) trivial
      dsimp only at hy
      have HI1 := Lib.hid hI1
      clear hI1 HI
      gi_wp2
      refine hRd.mono ?_
      rintro e9 W3 ⟨D', hg3, ho3, (⟨rfl, hj3⟩ | ⟨rfl, hj3⟩)⟩
      · have hI3 := HI1.out.yielded hXlt hDX hg3 ho3 hj3
        have hR3 : RngU W3 b W.heap.size es (seen.push e.born) := hR1.heap (ho3.block b hR1.lt.1 (fun h => (HI1.out.grew.new b h).elim (fun h2 => hDX b h2 (.inl rfl)) (fun h2 => by have := hXlt b (.inl rfl); omega))) (ho3.block _ hR1.lt.2 hnD)
        have hnD3 : ¬ D' W.heap.size := fun h => (hg3.new _ h).elim hnD (fun h2 => by have := hR1.lt.2; omega)
        have hls3 : W3.rangeLeft b W.heap.size = (leftOf es (seen.push e.born)).toList.length := by
          obtain ⟨clock, since, c0, h1, h2, _⟩ := hR3.ex
          simp only [World.rangeLeft, h1, h2]
          rw [Array.length_toList]
        have HI3 := Lib.hid hI3
        clear hI3 hg3 ho3 hj3 hy hRd
        gi_wp2
        go_roundw
        case rel => exact ⟨_, pre ++ [⟨x, hx⟩], D', hR3, by rw [List.length_append]; show pre.length + 1 + _ ≤ _; omega, hnD3, HI3.out⟩
        case measure => rw [hls, hls3]; exact hless
      · have hout : Outs D0 W W3 := HI1.out.outs.trans ho3 HI1.out.grew.new
        have hgr : Grew D0 W D' W3 := HI1.out.grew.trans hg3 HI1.out.outs.size
        have HF := Lib.hid (And.intro hgr (And.intro hout hj3))
        clear hout hgr hg3 ho3 hj3 hy hRd
        gi_wp2
        refine bodyPost_ret (results_none rfl _ _ _) rfl ?_
        exact ⟨⟨_, rfl⟩, D', HF.out.1, HF.out.2.1, .inr ⟨_, trivial, HF.out.2.2⟩⟩

set_option maxRecDepth 100000 in
set_option maxHeartbeats 8000000 in
theorem keys_seq_nil {w : World} {bm : Nat} (n : Nat) (hn : 1 ≤ n) (hbm : w.heap[bm]? = some (.cells #[.map none] 81 (0, 0))) :
    SeqSep Fence.wide n Tryz.prog 90 #[.pointer (some ⟨bm, 0, none⟩)] (fun x : KeyU [] => #[.int .u32 (x.1 : Int)]) (fun ys => ys.length ≤ 0) (fun _ => True) (fun j => j = bm) 0 w := by
  intro l J Jx D0 W hX hJ hJx hD0 hDX hY h0
  have hbml := (Array.getElem?_eq_some_iff.1 hbm).1
  have c0 : W.cell? ⟨bm, 0, none⟩ = some (.map none) := cell_of_row W bm 0 _ _ _ ((hX.block bm rfl).trans hbm)
  have hb1 : Below W.heap.size W (W.alloc (.mapIter none 0 #[] 0)) := (Below.refl _ _).alloc (Nat.le_refl _) _
  have hnx : ∀ ty, (Instr.next (.pointer (some ⟨W.heap.size, 0, none⟩)) false ty).run Tryz.prog (W.alloc (.mapIter none 0 #[] 0)) = _ := fun ty => run_next_nilMap W ty 0 0 #[]
  have hJ1 : J [] D0 (W.alloc (.mapIter none 0 #[] 0)) := hJ _ _ _ _ h0 (Kept.of_below hb1 hD0)
  have HF := Lib.hid (And.intro hJ1 (And.intro (Grew.refl hD0 hb1.size) (Outs.of_below (D := D0) hb1)))
  clear hY h0 hX hbm hJ1 hb1
  refine callsIn_of_wp Tryz.func90 rfl trivial ?_ rfl
  simp only [Tryz.ntmps90, List.size_toArray, List.length_cons, List.length_nil, Nat.reduceAdd, Nat.reduceSub, Array.replicate_succ, Array.replicate_zero, List.push_toArray, List.append_toArray, List.nil_append, List.cons_append]
  gi_wp2_with (first | (gi_at_range; refine wpListIn_range_nilU rfl _ rfl rfl ?_) | gi_in)
  gi_loopw [3] (fun _ wr => wr = W.alloc (.mapIter none 0 #[] 0)) (fun _ _ => 0)
  case atStart => rfl
  case round =>
    subst hrel
    gi_wp2
    go_end0
    exact ⟨⟨_, rfl⟩, D0, HF.out.2.1, HF.out.2.2, .inl ⟨[], by simp, HF.out.1⟩⟩
end Go.Proofs.YtejhbaeeaejcaaaGreat
/- The walks of slices' ordered sort at []uint32: what a row holds is told, not its order (1: Less, insertion, the heap). Conditions: those of each theorem. -/
namespace Go.Proofs.YtejhbaeeaejcaaaGreat
open Go.RowKit

/-- A block whose first cells are numbers. -/
def Rw32 (w : World) (g : Nat) (xs : List Nat) : Prop := ∃ cs : Array Value, w.heap[g]? = some (.cells cs 24 (0, 0)) ∧ ∀ i x : Nat, xs[i]? = some x → cs[i]? = some (.int .u32 (x : Int))
/-- It holds what it held, in some order; nothing else has turned. -/
def St32 (g : Nat) (w0 : World) (xs0 : List Nat) (w : World) : Prop := ∃ xs, xs.Perm xs0 ∧ Rw32 w g xs ∧ w0.grownBy w (some g)
theorem Rw32.st {w : World} {g : Nat} {xs : List Nat} (h : Rw32 w g xs) : St32 g w xs w := ⟨xs, List.Perm.refl _, h, World.grownBy.refl _ _⟩
theorem St32.drew {g : Nat} {w0 w : World} {xs0 : List Nat} (h : St32 g w0 xs0 w) : St32 g w0 xs0 w.drew := by
  obtain ⟨xs, h1, h2, h3⟩ := h
  exact ⟨xs, h1, h2, ⟨h3.os, h3.tape, h3.output, h3.size, h3.block⟩⟩
theorem St32.drewN {g : Nat} {w0 w : World} {xs0 : List Nat} (h : St32 g w0 xs0 w) (q : Nat) : St32 g w0 xs0 (w.drewN q) := by
  induction q with
  | zero => exact h
  | succ q ih => exact ih.drew
theorem St32.glt {g : Nat} {w0 w : World} {xs0 : List Nat} (h : St32 g w0 xs0 w) : g < w.heap.size := by
  obtain ⟨xs, h1, ⟨cs, h2, -⟩, h3⟩ := h
  exact (Array.getElem?_eq_some_iff.1 h2).1
theorem St32.heap {g : Nat} {w0 w w' : World} {xs0 : List Nat} (h : St32 g w0 xs0 w) (hb : Below w.heap.size w w') : St32 g w0 xs0 w' := by
  have hg := h.glt
  obtain ⟨xs, h1, ⟨cs, h2, h4⟩, h3⟩ := h
  exact ⟨xs, h1, ⟨cs, (hb.block g hg).trans h2, h4⟩, ⟨hb.os.trans h3.os, hb.tape.trans h3.tape, hb.output.trans h3.output, Nat.le_trans h3.size hb.size, fun j hj hn => (hb.block j (Nat.lt_of_lt_of_le hj h3.size)).trans (h3.block j hj hn)⟩⟩
theorem St32.trans {g : Nat} {w0 w w' : World} {xs0 xs1 : List Nat} (h : w0.grownBy w (some g)) (hp : xs1.Perm xs0) (h' : St32 g w xs1 w') : St32 g w0 xs0 w' := by
  obtain ⟨xs, h1, h2, h3⟩ := h'
  exact ⟨xs, h1.trans hp, h2, h.trans h3⟩
theorem St32.at {g : Nat} {w0 w : World} {xs0 : List Nat} (h : St32 g w0 xs0 w) (i : Nat) (hi : i < xs0.length) : ∃ x : Nat, w.cell? ⟨g, i, none⟩ = some (.int .u32 (x : Int)) ∧ w.frozen? ⟨g, i, none⟩ = false := by
  obtain ⟨xs, h1, ⟨cs, h2, h4⟩, h3⟩ := h
  have hl := h1.length_eq
  obtain ⟨x, hx⟩ : ∃ x, xs[i]? = some x := ⟨_, List.getElem?_eq_getElem (by omega)⟩
  refine ⟨x, ?_, by simp [World.frozen?, h2]⟩
  have := h4 i x hx
  simp [World.cell?, h2, this]
/-- An exchange. -/
theorem St32.swap {g : Nat} {w0 w : World} {xs0 : List Nat} (h : St32 g w0 xs0 w) (i j : Nat) (hi : i < xs0.length) (hj : j < xs0.length) : ∃ x y : Nat, w.cell? ⟨g, i, none⟩ = some (.int .u32 (x : Int)) ∧ w.cell? ⟨g, j, none⟩ = some (.int .u32 (y : Int)) ∧ w.frozen? ⟨g, i, none⟩ = false ∧ w.frozen? ⟨g, j, none⟩ = false ∧ (w.setCell ⟨g, i, none⟩ (.int .u32 (y : Int))).frozen? ⟨g, j, none⟩ = false ∧ (w.setCell ⟨g, i, none⟩ (.int .u32 (y : Int))).cell? ⟨g, j, none⟩ = some (.int .u32 (y : Int)) ∧ St32 g w0 xs0 ((w.setCell ⟨g, i, none⟩ (.int .u32 (y : Int))).setCell ⟨g, j, none⟩ (.int .u32 (x : Int))) := by
  obtain ⟨xs, h1, ⟨cs, h2, h4⟩, h3⟩ := h
  have hl := h1.length_eq
  obtain ⟨x, hx⟩ : ∃ x, xs[i]? = some x := ⟨_, List.getElem?_eq_getElem (by omega)⟩
  obtain ⟨y, hy⟩ : ∃ y, xs[j]? = some y := ⟨_, List.getElem?_eq_getElem (by omega)⟩
  have cx := h4 i x hx
  have cy := h4 j y hy
  have hil := (Array.getElem?_eq_some_iff.1 cx).1
  have hjl := (Array.getElem?_eq_some_iff.1 cy).1
  have e1 := heap_setCell_same w g i cs 24 (.int .u32 (y : Int)) h2
  have e2 := heap_setCell_same _ g j _ 24 (.int .u32 (x : Int)) e1
  have hc2 : (cs.setIfInBounds i (.int .u32 (y : Int)))[j]? = some (.int .u32 (y : Int)) := by
    rw [Array.getElem?_setIfInBounds]
    split
    · first
        | rfl
        | rw [if_pos hil]
    · exact cy
  refine ⟨x, y, by simp [World.cell?, h2, cx], by simp [World.cell?, h2, cy], by simp [World.frozen?, h2], by simp [World.frozen?, h2], by simp [World.frozen?, e1], by simp [World.cell?, e1, hc2], ((xs.set i y).set j x), ?_, ⟨_, e2, fun m z hz => ?_⟩, h3.trans ((grown_cell w ⟨g, i, none⟩ (.int .u32 (y : Int))).trans (grown_cell (w.setCell ⟨g, i, none⟩ (.int .u32 (y : Int))) ⟨g, j, none⟩ (.int .u32 (x : Int))))⟩
  · obtain ⟨hi1, rfl⟩ := List.getElem?_eq_some_iff.1 hx
    obtain ⟨hj1, rfl⟩ := List.getElem?_eq_some_iff.1 hy
    exact (List.set_set_perm hi1 hj1).trans h1
  · rw [List.getElem?_set, List.getElem?_set] at hz
    rw [Array.getElem?_setIfInBounds, Array.getElem?_setIfInBounds]
    simp only [Array.size_setIfInBounds, List.length_set] at hz ⊢
    by_cases ej : j = m
    · rw [if_pos ej] at hz ⊢
      rw [if_pos (by omega)] at hz
      rw [if_pos (by omega)]
      have := Option.some.inj hz
      rw [this]
    · rw [if_neg ej] at hz ⊢
      by_cases ei : i = m
      · rw [if_pos ei] at hz ⊢
        rw [if_pos (by omega)] at hz
        rw [if_pos (by omega)]
        have := Option.some.inj hz
        rw [this]
      · rw [if_neg ei] at hz ⊢
        exact h4 m z hz

set_option maxRecDepth 100000 in
set_option maxHeartbeats 4000000 in
theorem less_u32 (x y : Nat) (w : World) : Calls Tryz.prog 127 #[.int .u32 (x : Int), .int .u32 (y : Int)] w fun e w' => e = .returned (.bool (decide (x < y))) ∧ w' = w := by
  go_enter Tryz.func127, Tryz.ntmps127
  go_wp2_with (first | (go_at_call 119; refine (isNaN_u32 _ _).mono ?_; rintro e w' ⟨rfl, rfl⟩))
  go_ret
  exact ⟨rfl, rfl⟩

set_option maxRecDepth 100000 in
set_option maxHeartbeats 8000000 in
theorem insertion_u32 {g n c : Nat} {w0 w : World} {xs0 : List Nat} (h : St32 g w0 xs0 w) (hn : xs0.length = n) (hn2 : n ≤ 1000000) (a b : Nat) (hab : a ≤ b) (hb : b ≤ n) :
    Calls Tryz.prog 121 #[.slice (some ⟨g, 0, none⟩) n c, .int .i64 (a : Int), .int .i64 (b : Int)] w fun e w' => e = .returned (.tuple #[]) ∧ St32 g w0 xs0 w' := by
  have H := Lib.hid h
  have HN := Lib.hid hn
  have sa : IntKind.i64.wrap ((a : Int) + 1) = ((a + 1 : Nat) : Int) := by rw [IntWalk.i64_in _ (by omega)]; omega
  clear h hn
  go_enter Tryz.func121, Tryz.ntmps121
  go_wp2_with fail
  go_loopw [6] (fun u6 wr => ∃ i : Nat, a < i ∧ i ≤ b + 1 ∧ u6 = .int .i64 i ∧ St32 g w0 xs0 wr) (fun u6 _ => b + 1 - (intOf u6).toNat)
  case atStart => exact ⟨a + 1, by omega, by omega, by first | rfl | go_num, H.out⟩
  case round =>
    obtain ⟨i, hai, hib, rfl, hS⟩ := hrel
    have HS := Lib.hid hS
    clear hS sa
    by_cases hlt : i < b
    · have hi1 : (i : Int) < (b : Int) := by omega
      have si : IntKind.i64.wrap ((i : Int) + 1) = ((i + 1 : Nat) : Int) := by rw [IntWalk.i64_in _ (by omega)]; omega
      rename World => wo
      go_wp2_with fail
      go_loopw [7] (fun u7 wr => ∃ j : Nat, a ≤ j ∧ j ≤ i ∧ u7 = .int .i64 j ∧ St32 g w0 xs0 wr) (fun u7 _ => (intOf u7).toNat)
      case atStart => exact ⟨i, by omega, by omega, rfl, HS.out⟩
      case round =>
        obtain ⟨j, haj, hji, rfl, hS2⟩ := hrel
        have HS2 := Lib.hid hS2
        by_cases hja : a < j
        · obtain ⟨m, rfl⟩ : ∃ m, j = m + 1 := ⟨j - 1, by omega⟩
          have hlen := HN.out
          obtain ⟨x, hx, -⟩ := hS2.at (m + 1) (by omega)
          obtain ⟨y, hy, -⟩ := hS2.at m (by omega)
          have sm : IntKind.i64.wrap (((m + 1 : Nat) : Int) - 1) = (m : Int) := by rw [IntWalk.i64_in _ (by omega)]; omega
          have b0 : (0 : Int) ≤ (m : Int) := by omega
          have b1 : (m : Int) < (n : Int) := by omega
          have b2 : (0 : Int) ≤ ((m + 1 : Nat) : Int) := by omega
          have b3 : ((m + 1 : Nat) : Int) < (n : Int) := by omega
          have b4 : (a : Int) < ((m + 1 : Nat) : Int) := by omega
          have HM := Lib.hid (And.intro haj (And.intro hji hja))
          clear hS2 hlen haj hji hja
          obtain ⟨m1, hm1⟩ : ∃ m1, m1 = m + 1 := ⟨_, rfl⟩
          rw [← hm1] at hx sm b2 b3 b4
          rw [← hm1]
          have HM1 := Lib.hid hm1
          clear hm1
          go_wp2_with fail
          go_quiet ((go_at_call 127; exact Calls.quiet_of_same (less_u32 _ _ _)))
          have hS3 := HS2.out.drewN nq
          generalize decide (x < y) = bl at *
          obtain ⟨p, q, e0, e1, f0, f1, f2, e2, hS4⟩ := hS3.swap m1 m (by have := HM1.out; have := HN.out; omega) (by have := HN.out; omega)
          have HS4 := Lib.hid (And.intro hS3 hS4)
          clear hS3 hS4 hx hy
          generalize wr.drewN nq = wq at *
          cases bl with
          | true =>
            go_wp2_with fail
            go_region_law fail
            all_goals
              go_wp2_with fail
              go_roundw
              case rel => exact ⟨m, by have := HM.out; have := HM1.out; omega, by have := HM.out; have := HM1.out; omega, rfl, by first | exact HS4.out.2 | exact HS4.out.2.drew | exact HS4.out.2.drewN _⟩
              case measure => have := HM1.out; simp [intOf]; omega
          | false =>
            go_wp2_with fail
            go_roundw
            case rel => exact ⟨i + 1, by omega, by omega, rfl, HS4.out.1⟩
            case measure => simp [intOf]; omega
        · obtain rfl : a = j := by omega
          have b4 : ¬ ((a : Int) < (a : Int)) := by omega
          clear hS2
          go_wp2_with fail
          go_quiet (fail)
          have HS3 := Lib.hid (HS2.out.drewN nq)
          go_wp2_with fail
          go_roundw
          case rel => exact ⟨i + 1, by omega, by omega, rfl, HS3.out⟩
          case measure => simp [intOf]; omega
    · have hi1 : ¬ ((i : Int) < (b : Int)) := by omega
      go_wp2_with fail
      go_end0
      exact ⟨rfl, HS.out⟩
set_option maxRecDepth 100000 in
set_option maxHeartbeats 8000000 in
theorem sift_u32 {g n c : Nat} {w0 w : World} {xs0 : List Nat} (h : St32 g w0 xs0 w) (hn : xs0.length = n) (hn2 : n ≤ 1000000) (lo hi first : Nat) (hfh : first + hi ≤ n) (hlo : lo ≤ n) :
    Calls Tryz.prog 134 #[.slice (some ⟨g, 0, none⟩) n c, .int .i64 (lo : Int), .int .i64 (hi : Int), .int .i64 (first : Int)] w fun e w' => e = .returned (.tuple #[]) ∧ St32 g w0 xs0 w' := by
  have H := Lib.hid h
  have HN := Lib.hid hn
  clear h hn
  go_enter Tryz.func134, Tryz.ntmps134
  go_wp2_with fail
  go_loopw [8] (fun u8 wr => ∃ r : Nat, r ≤ n ∧ u8 = .int .i64 r ∧ St32 g w0 xs0 wr) (fun u8 _ => hi - (intOf u8).toNat)
  case atStart => exact ⟨lo, hlo, rfl, H.out⟩
  case round =>
    obtain ⟨r, hr, rfl, hS⟩ := hrel
    have HS := Lib.hid hS
    clear hS
    have s1 : IntKind.i64.wrap (2 * (r : Int)) = 2 * (r : Int) := IntWalk.i64_in _ (by omega)
    have s2 : IntKind.i64.wrap (2 * (r : Int) + 1) = ((2 * r + 1 : Nat) : Int) := by rw [IntWalk.i64_in _ (by omega)]; omega
    have s4 : IntKind.i64.wrap (((2 * r + 1 : Nat) : Int) + 1) = ((2 * r + 1 + 1 : Nat) : Int) := by rw [IntWalk.i64_in _ (by omega)]; omega
    by_cases hlt : 2 * r + 1 < hi
    · obtain ⟨m, hm⟩ : ∃ m, m = 2 * r + 1 := ⟨_, rfl⟩
      obtain ⟨m1, hm1⟩ : ∃ m1, m1 = m + 1 := ⟨_, rfl⟩
      obtain ⟨p, hp⟩ : ∃ p, p = first + m := ⟨_, rfl⟩
      obtain ⟨p1, hp1⟩ : ∃ p1, p1 = p + 1 := ⟨_, rfl⟩
      obtain ⟨pr, hpr⟩ : ∃ pr, pr = first + r := ⟨_, rfl⟩
      rw [← hm, ← hm1] at s4
      rw [← hm] at s2
      have t1 : IntKind.i64.wrap ((first : Int) + (m : Int)) = (p : Int) := by rw [IntWalk.i64_in _ (by omega)]; omega
      have t2 : IntKind.i64.wrap ((p : Int) + 1) = (p1 : Int) := by rw [IntWalk.i64_in _ (by omega)]; omega
      have t3 : IntKind.i64.wrap ((first : Int) + (r : Int)) = (pr : Int) := by rw [IntWalk.i64_in _ (by omega)]; omega
      have t4 : IntKind.i64.wrap ((first : Int) + (m1 : Int)) = (p1 : Int) := by rw [IntWalk.i64_in _ (by omega)]; omega
      have g1 : ¬ ((hi : Int) ≤ (m : Int)) := by omega
      have HB := Lib.hid (show r < m ∧ m < hi ∧ m1 = m + 1 ∧ p = first + m ∧ p1 = p + 1 ∧ pr = first + r ∧ first + hi ≤ n ∧ xs0.length = n from ⟨by omega, by omega, hm1, hp, hp1, hpr, hfh, HN.out⟩)
      have i0 : (0 : Int) ≤ (p : Int) := by omega
      have i1 : (p : Int) < (n : Int) := by omega
      have i2 : (0 : Int) ≤ (pr : Int) := by omega
      have i3 : (pr : Int) < (n : Int) := by omega
      have i4 : (0 : Int) ≤ (p1 : Int) := by omega
      clear hm hm1 hp hp1 hpr hlt
      go_upto_region 3 with fail
      go_cut [36] from 17 to 75 (fun u36 wx => ∃ bl : Bool, u36 = .bool bl ∧ (bl = true → m1 < hi) ∧ St32 g w0 xs0 wx)
      case first =>
        by_cases h2 : m1 < hi
        · have g3 : ((m1 : Int) < (hi : Int)) := by omega
          have i5 : (p1 : Int) < (n : Int) := by have := HB.out; omega
          obtain ⟨x, hx, -⟩ := HS.out.at p (by have := HB.out; omega)
          obtain ⟨y, hy, -⟩ := HS.out.at p1 (by have := HB.out; omega)
          have H2 := Lib.hid h2
          clear h2
          go_quiet ((go_at_call 127; exact Calls.quiet_of_same (less_u32 _ _ _)))
          have HS3 := Lib.hid (HS.out.drewN nq)
          go_wp2_with fail
          go_meet
          case rel => exact ⟨_, rfl, fun _ => H2.out, HS3.out⟩
        · have g3 : ¬ ((m1 : Int) < (hi : Int)) := by omega
          clear h2
          go_quiet (fail)
          have HS3 := Lib.hid (HS.out.drewN nq)
          go_wp2_with fail
          go_meet
          case rel => exact ⟨false, rfl, (by intro h; cases h), HS3.out⟩
      case rest =>
        obtain ⟨bl, rfl, hbl, hSc⟩ := hcut
        have HSc := Lib.hid hSc
        clear hSc
        cases bl with
        | true =>
          have HL := Lib.hid (hbl rfl)
          have i5 : (p1 : Int) < (n : Int) := by have := HB.out; have := HL.out; omega
          clear hbl
          obtain ⟨x, hx, -⟩ := HSc.out.at pr (by have := HB.out; omega)
          obtain ⟨y, hy, -⟩ := HSc.out.at p1 (by have := HB.out; omega)
          go_wp2_with fail
          go_quiet ((go_at_call 127; exact Calls.quiet_of_same (less_u32 _ _ _)))
          have hS3 := HSc.out.drewN nq
          generalize decide (x < y) = b2 at *
          obtain ⟨z0, z1, e0, e1, f0, f1, f2, e2, hS4⟩ := hS3.swap pr p1 (by have := HB.out; omega) (by have := HB.out; omega)
          have HS4 := Lib.hid (And.intro hS3 hS4)
          clear hS3 hS4 hx hy
          generalize wc.drewN nq = wq at *
          cases b2 with
          | false =>
            go_wp2_with fail
            refine bodyPost_ret (results_none rfl _ _ _) rfl ?_
            exact ⟨rfl, HS4.out.1⟩
          | true =>
            go_wp2_with fail
            go_region_law fail
            all_goals
              go_wp2_with fail
              go_roundw
              case rel => exact ⟨m1, by have := HB.out; omega, rfl, by first | exact HS4.out.2 | exact HS4.out.2.drew | exact HS4.out.2.drewN _⟩
              case measure => have := HB.out; have := HL.out; simp [intOf]; omega
        | false =>
          clear hbl
          obtain ⟨x, hx, -⟩ := HSc.out.at pr (by have := HB.out; omega)
          obtain ⟨y, hy, -⟩ := HSc.out.at p (by have := HB.out; omega)
          go_wp2_with fail
          go_quiet ((go_at_call 127; exact Calls.quiet_of_same (less_u32 _ _ _)))
          have hS3 := HSc.out.drewN nq
          generalize decide (x < y) = b2 at *
          obtain ⟨z0, z1, e0, e1, f0, f1, f2, e2, hS4⟩ := hS3.swap pr p (by have := HB.out; omega) (by have := HB.out; omega)
          have HS4 := Lib.hid (And.intro hS3 hS4)
          clear hS3 hS4 hx hy
          generalize wc.drewN nq = wq at *
          cases b2 with
          | false =>
            go_wp2_with fail
            refine bodyPost_ret (results_none rfl _ _ _) rfl ?_
            exact ⟨rfl, HS4.out.1⟩
          | true =>
            go_wp2_with fail
            go_region_law fail
            all_goals
              go_wp2_with fail
              go_roundw
              case rel => exact ⟨m, by have := HB.out; omega, rfl, by first | exact HS4.out.2 | exact HS4.out.2.drew | exact HS4.out.2.drewN _⟩
              case measure => have := HB.out; have := HB.out; simp [intOf]; omega
    · have g1 : ((hi : Int) ≤ ((2 * r + 1 : Nat) : Int)) := by omega
      clear hlt
      obtain ⟨m, hm⟩ : ∃ m, m = 2 * r + 1 := ⟨_, rfl⟩
      rw [← hm] at s2 g1
      clear hm s4
      go_wp2_with fail
      go_end0
      exact ⟨rfl, HS.out⟩
set_option maxRecDepth 100000 in
set_option maxHeartbeats 8000000 in
theorem heapSort_u32 {g n c : Nat} {w0 w : World} {xs0 : List Nat} (h : St32 g w0 xs0 w) (hn : xs0.length = n) (hn2 : n ≤ 1000000) (a b : Nat) (hab : a < b) (hb : b ≤ n) :
    Calls Tryz.prog 122 #[.slice (some ⟨g, 0, none⟩) n c, .int .i64 (a : Int), .int .i64 (b : Int)] w fun e w' => e = .returned (.tuple #[]) ∧ St32 g w0 xs0 w' := by
  have H := Lib.hid h
  have HN := Lib.hid hn
  obtain ⟨k, rfl⟩ : ∃ k, b = a + k + 1 := ⟨b - a - 1, by omega⟩
  have s0 : IntKind.i64.wrap (((a + k + 1 : Nat) : Int) - (a : Int)) = ((k + 1 : Nat) : Int) := by rw [IntWalk.i64_in _ (by omega)]; omega
  have s1 : IntKind.i64.wrap (((k + 1 : Nat) : Int) - 1) = (k : Int) := by rw [IntWalk.i64_in _ (by omega)]; omega
  have s2 : (k : Int) / 2 = ((k / 2 : Nat) : Int) := by omega
  obtain ⟨hi, hhi⟩ : ∃ hi, hi = k + 1 := ⟨_, rfl⟩
  obtain ⟨b', hb'⟩ : ∃ b', b' = a + k + 1 := ⟨_, rfl⟩
  obtain ⟨k2, hk2⟩ : ∃ k2, k2 = k / 2 := ⟨_, rfl⟩
  rw [← hhi, ← hb'] at s0
  rw [← hhi] at s1
  rw [← hk2] at s2
  have s3 : IntKind.i64.wrap (k2 : Int) = (k2 : Int) := IntWalk.i64_in _ (by omega)
  rw [← hb']
  have HK := Lib.hid (And.intro hhi (And.intro hb' (And.intro hk2 hb)))
  have kb : 0 ≤ (k : Int) := by omega
  clear h hn hhi hb' hk2 hb hab
  go_enter Tryz.func122, Tryz.ntmps122
  go_wp2_with fail
  go_loopw [9] (fun u9 wr => ∃ m : Nat, m ≤ hi ∧ u9 = .int .i64 ((m : Int) - 1) ∧ St32 g w0 xs0 wr) (fun u9 _ => (intOf u9 + 1).toNat)
  case atStart => exact ⟨k2 + 1, by have := HK.out; omega, by congr 1; omega, H.out⟩
  case round =>
    obtain ⟨m, hm, rfl, hS⟩ := hrel
    have HS := Lib.hid hS
    clear hS
    by_cases hm0 : 0 < m
    · obtain ⟨j, rfl⟩ : ∃ j, m = j + 1 := ⟨m - 1, by omega⟩
      have ej : ((j + 1 : Nat) : Int) - 1 = (j : Int) := by omega
      rw [ej]
      have sj : IntKind.i64.wrap ((j : Int) - 1) = (j : Int) - 1 := IntWalk.i64_in _ (by have := HK.out; omega)
      have g0 : (0 : Int) ≤ (j : Int) := by omega
      have HSI := Lib.hid (sift_u32 (c := c) HS.out HN.out hn2 j hi a (by have := HK.out; omega) (by have := HK.out; omega))
      clear ej hm0
      go_wp2_with fail
      refine HSI.out.mono ?_
      rintro e w2 ⟨rfl, hS2⟩
      have HS2 := Lib.hid hS2
      clear hS2
      go_wp2_with fail
      go_roundw
      case rel => exact ⟨j, by omega, rfl, HS2.out⟩
      case measure => simp [intOf]
    · obtain rfl : m = 0 := by omega
      have g0 : ¬ ((0 : Int) ≤ ((0 : Nat) : Int) - 1) := by omega
      have ez : ((0 : Nat) : Int) - 1 = -1 := by omega
      rw [ez]
      clear hm0 ez g0
      go_wp2_with fail
      go_loopw [10] (fun u10 wr => ∃ m : Nat, m ≤ hi ∧ u10 = .int .i64 ((m : Int) - 1) ∧ St32 g w0 xs0 wr) (fun u10 _ => (intOf u10 + 1).toNat)
      case atStart => exact ⟨hi, by omega, by congr 1; have := HK.out; omega, HS.out⟩
      case round =>
        obtain ⟨m, hm, rfl, hS⟩ := hrel
        have HS := Lib.hid hS
        clear hS
        by_cases hm0 : 0 < m
        · obtain ⟨j, rfl⟩ : ∃ j, m = j + 1 := ⟨m - 1, by omega⟩
          have ej : ((j + 1 : Nat) : Int) - 1 = (j : Int) := by omega
          rw [ej]
          have sj : IntKind.i64.wrap ((j : Int) - 1) = (j : Int) - 1 := IntWalk.i64_in _ (by have := HK.out; omega)
          have g0 : (0 : Int) ≤ (j : Int) := by omega
          obtain ⟨p, hp⟩ : ∃ p, p = a + j := ⟨_, rfl⟩
          have t1 : IntKind.i64.wrap ((a : Int) + (j : Int)) = (p : Int) := by rw [IntWalk.i64_in _ (by have := HK.out; omega)]; omega
          have i0 : (0 : Int) ≤ (p : Int) := by omega
          have i1 : (p : Int) < (n : Int) := by have := HK.out; omega
          have i2 : (0 : Int) ≤ (a : Int) := by omega
          have i3 : (a : Int) < (n : Int) := by have := HK.out; omega
          obtain ⟨z0, z1, e0, e1, f0, f1, f2, e2, hS4⟩ := HS.out.swap a p (by have := HK.out; have := HN.out; omega) (by have := HK.out; have := HN.out; omega)
          have HS4 := Lib.hid hS4
          have HJ := Lib.hid (And.intro hm hp)
          clear ej hm0 hS4 hp hm
          go_wp2_with fail
          go_region_law fail
          all_goals
            have hs5 := (by first | exact HS4.out | exact HS4.out.drew | exact HS4.out.drewN _ : St32 g w0 xs0 _)
            go_wp2_with fail
            refine (sift_u32 (c := c) (w0 := w0) (by first | exact HS4.out | exact HS4.out.drew | exact HS4.out.drewN _) HN.out hn2 0 j a (by have := HK.out; have := HJ.out; omega) (by omega)).mono ?_
            rintro e w2 ⟨rfl, hS2⟩
            have HS2 := Lib.hid hS2
            clear hS2
            go_wp2_with fail
            go_roundw
            case rel => exact ⟨j, by have := HJ.out; omega, rfl, HS2.out⟩
            case measure => simp [intOf]
        · obtain rfl : m = 0 := by omega
          have ez : ((0 : Nat) : Int) - 1 = -1 := by omega
          rw [ez]
          clear hm0 ez
          go_wp2_with fail
          go_end0
          exact ⟨rfl, HS.out⟩
end Go.Proofs.YtejhbaeeaejcaaaGreat
