/- The walk of tree.Tree's Set. Conditions: those of each theorem. -/
import Derived.Test.YtejhbaeeaejcaaaGreatM8
import Derived.Deep.CutBlock
namespace Go.Proofs.YtejhbaeeaejcaaaGreat
open Go.RowKit

set_option maxRecDepth 100000 in
set_option maxHeartbeats 8000000 in
theorem set_empty {S : Nat → Prop} {w : World} {pt : Nat} (h : TreeW w S pt []) (hat : TreeAt w pt none 0) (e : En) :
    Calls Tryz.prog 50 #[ptrV pt, entV e] w fun r w' => ∃ v S', r = .returned v ∧ TreeW w' S' pt [e] ∧ Ext S w.heap.size S' w' ∧ w.grownBy w' (some pt) := by
  have hb0 : Below w.heap.size w (w.alloc (.cells #[.int .u16 (kVol e.1 : Int), .int .u32 (kBlk e.1 : Int), .int .u64 (kSeq e.1 : Int), .int .u32 (e.2 : Int)] 60)) := (Below.refl _ _).alloc (Nat.le_refl _) _
  have hx0 : (w.alloc (.cells #[.int .u16 (kVol e.1 : Int), .int .u32 (kBlk e.1 : Int), .int .u64 (kSeq e.1 : Int), .int .u32 (e.2 : Int)] 60)).heap[w.heap.size]? = some (.cells #[.int .u16 (kVol e.1 : Int), .int .u32 (kBlk e.1 : Int), .int .u64 (kSeq e.1 : Int), .int .u32 (e.2 : Int)] 60 (0, 0)) := heap_alloc_new w _
  have hsz0 := World.alloc_size w (.cells #[.int .u16 (kVol e.1 : Int), .int .u32 (kBlk e.1 : Int), .int .u64 (kSeq e.1 : Int), .int .u32 (e.2 : Int)] 60)
  have hptl : pt < w.heap.size := h.ptlt
  have hat0 : TreeAt (w.alloc (.cells #[.int .u16 (kVol e.1 : Int), .int .u32 (kBlk e.1 : Int), .int .u64 (kSeq e.1 : Int), .int .u32 (e.2 : Int)] 60)) pt none 0 := (hb0.block pt hptl).trans hat
  have HW := Lib.hid (way_none hat0 e.1)
  have HX := Lib.hid hx0
  have HAT := Lib.hid hat
  have HH := Lib.hid h
  have z0 := cell_of_row _ _ 0 _ _ _ hx0
  have z1 := cell_of_row _ _ 1 _ _ _ hx0
  have z2 := cell_of_row _ _ 2 _ _ _ hx0
  simp at z0 z1 z2
  unfold keyV at HW
  unfold ptrV at HW ⊢
  unfold entV
  clear h hat hat0
  go_enter Tryz.func50, Tryz.ntmps50
  go_wp2_with fail
  generalize w.alloc (.cells #[.int .u16 (kVol e.1 : Int), .int .u32 (kBlk e.1 : Int), .int .u64 (kSeq e.1 : Int), .int .u32 (e.2 : Int)] 60) = w0 at *
  refine HW.out.mono ?_
  rintro r w1 ⟨q, rfl, -, -, hb1⟩
  have hb01 := hb0.trans (hb1.mono hb0.size)
  have hx1 : w1.heap[w.heap.size]? = some (.cells #[.int .u16 (kVol e.1 : Int), .int .u32 (kBlk e.1 : Int), .int .u64 (kSeq e.1 : Int), .int .u32 (e.2 : Int)] 60 (0, 0)) := (hb1.block _ (by omega)).trans HX.out
  obtain ⟨y0, y1, y2, y3⟩ : w1.cell? ⟨w.heap.size, 0, none⟩ = some (.int .u16 (kVol e.1 : Int)) ∧ w1.cell? ⟨w.heap.size, 1, none⟩ = some (.int .u32 (kBlk e.1 : Int)) ∧ w1.cell? ⟨w.heap.size, 2, none⟩ = some (.int .u64 (kSeq e.1 : Int)) ∧ w1.cell? ⟨w.heap.size, 3, none⟩ = some (.int .u32 (e.2 : Int)) := ⟨cell_of_row w1 _ 0 _ _ _ hx1, cell_of_row w1 _ 1 _ _ _ hx1, cell_of_row w1 _ 2 _ _ _ hx1, cell_of_row w1 _ 3 _ _ _ hx1⟩
  have hb2 := hb01.alloc hb01.size (.cells (encN e).toArray 60)
  have HL := Lib.hid (leaf_any (c := 1) (RowE.one w1 e) (by decide))
  unfold encN at HL hb2
  have HB2 := Lib.hid hb2
  unfold ptrV at HL
  clear hx1 z0 z1 z2 hb0 hb1 hb01 hx0 hb2 hsz0 HW
  go_wp2_with fail
  refine HL.out.mono ?_
  rintro r w2 ⟨p, rfl, hN, hb2⟩
  have hb02 := HB2.out.trans (hb2.mono HB2.out.size)
  have hpt2 : w2.heap[pt]? = some (.cells #[.pointer none, .int .i64 0] 93 (0, 0)) := (hb02.block pt hptl).trans HAT.out
  have hpc0 : w2.cell? ⟨pt, 0, none⟩ = some (.pointer none) := cell_of_row w2 pt 0 _ _ _ hpt2
  have hpc1 : w2.cell? ⟨pt, 1, none⟩ = some (.int .i64 0) := cell_of_row w2 pt 1 _ _ _ hpt2
  have hpf : ∀ i, w2.frozen? ⟨pt, i, none⟩ = false := fun i => by simp [World.frozen?, hpt2]
  have hT := turn_two w2 pt (.pointer (some ⟨p, 0, none⟩)) (.int .i64 1)
  have hat3 := heap_two hpt2 (.pointer (some ⟨p, 0, none⟩)) (.int .i64 1)
  have HF := Lib.hid (And.intro hN (And.intro hb02 (And.intro hT hat3)))
  clear hN hb02 hb2 hT hat3 hpt2 HL y0 y1 y2 y3
  go_wp2_with fail
  go_ret2
  obtain ⟨hN, hb02, hT, hat3⟩ := HF.out
  have hs1 := HB2.out.size
  have hs2 := hb02.size
  generalize (w1.alloc (.cells #[.int .u16 (kVol e.1 : Int), .int .u32 (kBlk e.1 : Int), .int .u64 (kSeq e.1 : Int), .int .u32 (e.2 : Int)] 60)).heap.size = nb at *
  have hN2 := (hN.same (w' := (w2.setCell ⟨pt, 0, none⟩ (.pointer (some ⟨p, 0, none⟩))).setCell ⟨pt, 1, none⟩ (.int .i64 1)) (fun j hj => hT.block j (by omega))).more (S' := fun j => S j ∨ (nb ≤ j ∧ j < w2.heap.size)) (fun j hj => .inr hj)
  refine ⟨_, fun j => S j ∨ (nb ≤ j ∧ j < w2.heap.size), rfl, ⟨?_, ?_, ?_, .inr ⟨0, p, leafT [e], hat3, hN2, ⟨by show 0 < 1; omega, by show 1 ≤ 6; omega, trivial, .inl rfl⟩, rfl⟩⟩, ⟨fun j hj => .inl hj, fun j hj => hj.elim .inl (fun h => .inr (by omega)), ?_⟩, ⟨hT.os.trans hb02.os, hT.tape.trans hb02.tape, hT.output.trans hb02.output, by rw [hT.size]; exact hs2, fun j hj hne => ?_⟩⟩
  · exact List.pairwise_singleton _ _
  · intro j hj
    rw [hT.size]
    exact hj.elim (fun hj => Nat.lt_of_lt_of_le (HH.out.lt j hj) hs2) (fun h => h.2)
  · intro hj
    rcases hj with hj | hj
    · exact HH.out.apart hj
    · omega
  · intro j hj
    rw [hT.size]
    exact hj.elim (fun hj => Nat.lt_of_lt_of_le (HH.out.lt j hj) hs2) (fun h => h.2)
  · rw [hT.block j (fun e => hne (by rw [e]))]
    exact hb02.block j hj

set_option maxRecDepth 100000 in
set_option maxHeartbeats 16000000 in
theorem set_some {S : Nat → Prop} {w : World} {pt d p : Nat} {t : Tr d} (hpS : ¬ S pt) (hat : TreeAt w pt (some p) (flatT t).length) (ht : NodeW w S p t) (hR : RootT t) (hrise : Rise (flatT t)) (hS : ∀ j, S j → j < w.heap.size) (hlen : (flatT t).length ≤ 2000) (e : En) :
    Calls Tryz.prog 50 #[ptrV pt, entV e] w fun r w' => ∃ v S', r = .returned v ∧ TreeW w' S' pt (setE (flatT t) e) ∧ Ext S w.heap.size S' w' ∧ w.grownBy w' (some pt) := by
  have hb0 : Below w.heap.size w (w.alloc (.cells #[.int .u16 (kVol e.1 : Int), .int .u32 (kBlk e.1 : Int), .int .u64 (kSeq e.1 : Int), .int .u32 (e.2 : Int)] 60)) := (Below.refl _ _).alloc (Nat.le_refl _) _
  have hx0 : (w.alloc (.cells #[.int .u16 (kVol e.1 : Int), .int .u32 (kBlk e.1 : Int), .int .u64 (kSeq e.1 : Int), .int .u32 (e.2 : Int)] 60)).heap[w.heap.size]? = some (.cells #[.int .u16 (kVol e.1 : Int), .int .u32 (kBlk e.1 : Int), .int .u64 (kSeq e.1 : Int), .int .u32 (e.2 : Int)] 60 (0, 0)) := heap_alloc_new w _
  have hsz0 := World.alloc_size w (.cells #[.int .u16 (kVol e.1 : Int), .int .u32 (kBlk e.1 : Int), .int .u64 (kSeq e.1 : Int), .int .u32 (e.2 : Int)] 60)
  have hptl : pt < w.heap.size := (Array.getElem?_eq_some_iff.1 hat).1
  have hat0 : TreeAt (w.alloc (.cells #[.int .u16 (kVol e.1 : Int), .int .u32 (kBlk e.1 : Int), .int .u64 (kSeq e.1 : Int), .int .u32 (e.2 : Int)] 60)) pt (some p) (flatT t).length := (hb0.block pt hptl).trans hat
  have HW := Lib.hid (way_some hat0 (ht.same (Same.of_below hb0 hS)) (fun j hj => by rw [hsz0]; have := hS j hj; omega) hR.lo hR.hi hR.kids hrise (by have := hR.depth hlen; omega) e.1)
  have HX := Lib.hid hx0
  have HAT := Lib.hid hat
  have HR := Lib.hid hR
  have HRISE := Lib.hid hrise
  have z0 := cell_of_row _ _ 0 _ _ _ hx0
  have z1 := cell_of_row _ _ 1 _ _ _ hx0
  have z2 := cell_of_row _ _ 2 _ _ _ hx0
  simp at z0 z1 z2
  unfold keyV at HW
  unfold ptrV at HW ⊢
  unfold entV
  clear ht hat hat0 hR hrise
  go_enter Tryz.func50, Tryz.ntmps50
  go_wp2_with fail
  generalize w.alloc (.cells #[.int .u16 (kVol e.1 : Int), .int .u32 (kBlk e.1 : Int), .int .u64 (kSeq e.1 : Int), .int .u32 (e.2 : Int)] 60) = w0 at *
  refine HW.out.mono ?_
  rintro r w1 ⟨q, path, pl, lt, rfl, hst, hq0, hway, hb1⟩
  have hb01 := hb0.trans (hb1.mono hb0.size)
  have hx1 : w1.heap[w.heap.size]? = some (.cells #[.int .u16 (kVol e.1 : Int), .int .u32 (kBlk e.1 : Int), .int .u64 (kSeq e.1 : Int), .int .u32 (e.2 : Int)] 60 (0, 0)) := (hb1.block _ (by omega)).trans HX.out
  obtain ⟨y0, y1, y2, y3⟩ : w1.cell? ⟨w.heap.size, 0, none⟩ = some (.int .u16 (kVol e.1 : Int)) ∧ w1.cell? ⟨w.heap.size, 1, none⟩ = some (.int .u32 (kBlk e.1 : Int)) ∧ w1.cell? ⟨w.heap.size, 2, none⟩ = some (.int .u64 (kSeq e.1 : Int)) ∧ w1.cell? ⟨w.heap.size, 3, none⟩ = some (.int .u32 (e.2 : Int)) := ⟨cell_of_row w1 _ 0 _ _ _ hx1, cell_of_row w1 _ 1 _ _ _ hx1, cell_of_row w1 _ 2 _ _ _ hx1, cell_of_row w1 _ 3 _ _ _ hx1⟩
  have hS1 : ∀ j, S j → j < w1.heap.size := fun j hj => Nat.lt_of_lt_of_le (hS j hj) hb01.size
  obtain ⟨hup, hNl⟩ := WayT.up (UpT.top (w := w1) (S := S) (k := e.1) (t := t)) hway
  rw [List.nil_append] at hup
  obtain ⟨hl1, hl2, hl3, hl4, hl5⟩ := hup.good HR.out.lo HR.out.hi HR.out.kids HRISE.out
  have hget := hup.get HR.out.lo HR.out.hi HR.out.kids HRISE.out
  rw [show getE (flatT lt) e.1 = getE (rowT lt) e.1 from rfl] at hget
  have hhad : (getE (flatT t) e.1).isSome = decide (e.1 ∈ keysT lt) := by rw [hget]; exact get_mem _ _
  have hnn := setE_len (flatT t) e HRISE.out
  rw [hhad] at hnn
  have HWI := Lib.hid (with_any hNl hS1 (by omega) (show Rise (rowT lt) from hl4) e)
  have hrl : (rowT lt).length ≤ 6 := hl2
  have hsl : (setE (rowT lt) e).length ≤ 7 := by
    have := setE_len (rowT lt) e hl4
    split at this <;> omega
  have HUP := Lib.hid hup
  have HST := Lib.hid hst
  have HB01 := Lib.hid hb01
  have HNN := Lib.hid hnn
  have hs01 := hb01.size
  have hqn : w.heap.size ≤ q := by omega
  have hql := hst.lt
  unfold entV at HWI
  unfold ptrV at HWI
  clear z0 z1 z2 hx0 hx1 hb0 hb1 hb01 hway hNl hup hst hl1 hl2 hl3 hl4 hl5 hget hhad hnn hsz0 HW hq0
  generalize hmd : decide (e.1 ∈ keysT lt) = md at *
  have HMD := Lib.hid hmd
  clear hmd
  go_wp2_with fail
  refine HWI.out.mono ?_
  rintro r w2 ⟨v2, x2, rfl, hv2, hb2⟩
  have hb02 := HB01.out.trans (hb2.mono hs01)
  have hpt2 : w2.heap[pt]? = some (.cells #[.pointer (some ⟨p, 0, none⟩), .int .i64 ((flatT t).length : Int)] 93 (0, 0)) := (hb02.block pt hptl).trans HAT.out
  have hpc0 : w2.cell? ⟨pt, 0, none⟩ = some (.pointer (some ⟨p, 0, none⟩)) := cell_of_row w2 pt 0 _ _ _ hpt2
  have hpc1 : w2.cell? ⟨pt, 1, none⟩ = some (.int .i64 ((flatT t).length : Int)) := cell_of_row w2 pt 1 _ _ _ hpt2
  have hpf : ∀ i, w2.frozen? ⟨pt, i, none⟩ = false := fun i => by simp [World.frozen?, hpt2]
  have HPT := Lib.hid hpt2
  have HB02 := Lib.hid hb02
  have HV2 := Lib.hid hv2
  have HB2 := Lib.hid hb2
  have hxn : IntKind.i64.wrap (((flatT t).length : Int) + 1) = ((flatT t).length : Int) + 1 := IntWalk.i64_in _ (by omega)
  clear hpt2 hb02 hv2 hb2 HWI y0 y1 y2 y3
  go_upto_if 40 with fail
  go_cut [10] from 41 to 47 (fun u10 wx => u10 = .bool md ∧ wx.heap[pt]? = some (.cells #[.pointer (some ⟨p, 0, none⟩), .int .i64 ((setE (flatT t) e).length : Int)] 93 (0, 0)) ∧ Turn pt w2 wx)
  case first =>
    cases md with
    | true =>
      have hn : (setE (flatT t) e).length = (flatT t).length := HNN.out
      have HN := Lib.hid hn
      clear hn
      go_wp2_with fail
      go_meet
      case rel => exact ⟨rfl, by rw [HN.out]; exact HPT.out, Turn.refl _ _⟩
    | false =>
      have hn : (setE (flatT t) e).length = (flatT t).length + 1 := HNN.out
      have h1 := heap_setCell_same w2 pt 1 _ _ (.int .i64 (((flatT t).length : Int) + 1)) HPT.out
      have hT : Turn pt w2 (w2.setCell ⟨pt, 1, none⟩ (.int .i64 (((flatT t).length : Int) + 1))) := ⟨rfl, rfl, rfl, by simp, fun j hj => by rw [heap_setCell_other _ _ j _ hj]⟩
      have HN := Lib.hid hn
      have H1 := Lib.hid h1
      have HT := Lib.hid hT
      clear hn h1 hT
      go_wp2_with fail
      go_meet
      case rel => exact ⟨rfl, by rw [HN.out]; exact H1.out, HT.out⟩
  case rest =>
    obtain ⟨rfl, hpt3, hT3⟩ := hcut
    have hs2 := HB2.out.size
    have hb03 : ∀ j, j < w.heap.size → j ≠ pt → wc.heap[j]? = w.heap[j]? := fun j hj hne => (hT3.block j hne).trans (HB02.out.block j hj)
    have hpv : v2.ownBlock ≠ some pt := fun h => by have := (HV2.out.lt pt h).1; omega
    have hv3 := HV2.out.kept hT3.grown (.inr hpv)
    obtain ⟨va, vc, rfl, hvr, hvc, -⟩ := hv3.row encN_len
    have HL := Lib.hid (leaves_any (c := vc) hvr hvc (by omega))
    have hS12 : Same S w1 wc := fun j hj => (hT3.block j (fun h => hpS (h ▸ hj))).trans (HB2.out.block j (Nat.lt_of_lt_of_le (hS j hj) hs01))
    have HUP3 := Lib.hid (HUP.out.same hS12)
    have hst3 : StackW wc q path := HST.out.heap ((hT3.block q (by omega)).trans (HB2.out.block q hql))
    have HST3 := Lib.hid hst3
    have hsz3 : w.heap.size ≤ wc.heap.size := by rw [hT3.size]; omega
    have HPT3 := Lib.hid hpt3
    have HB03 := Lib.hid hb03
    have HT3 := Lib.hid hT3
    have hq3 : q < wc.heap.size := by rw [hT3.size]; omega
    clear hpt3 hT3 hb03 hpv hv3 hvr hvc hS12 hst3
    generalize (setE (rowT lt) e).length = nr at *
    go_wp2_with fail
    refine HL.out.mono ?_
    rintro r w4 ⟨v4, ps, rfl, ho4, hk4, hb4⟩
    have hs4 := hb4.size
    have HPO := Lib.hid (pop_any (HST3.out.heap (hb4.block q hq3)))
    have HO4 := Lib.hid ho4
    have HK4 := Lib.hid hk4
    have HB4 := Lib.hid hb4
    unfold ptrV at HPO
    clear ho4 hk4 hb4
    go_wp2_with fail
    refine HPO.out.mono ?_
    rintro r w5 ⟨op, iv, rfl, hg5, hpop⟩
    have hs5 := hg5.size
    have hlaid : SetS wc S w.heap.size e.1 t (fun {m} (s : Tr m) => setT s e) q w5.heap.size v4 (.bool (!decide (path = []))) path (w5.alloc (.cells #[.pointer op, .int .i64 iv] 129)) := by
      refine SetS.laid (W := w4) HUP3.out (HO4.out.base hsz3) (S := fun j => S j ∨ (wc.heap.size ≤ j ∧ j < w4.heap.size)) (HK4.out.more (fun j hj => .inr hj)) ?_ ?_ ?_ ?_ (heap_alloc_new w5 _) ?_ (HB4.out.mono hsz3) hqn (by omega) (by omega) hs5
      · exact ⟨fun _ h => .inl h, fun j hj => hj.elim .inl (fun h => .inr (by omega)), fun j hj => hj.elim (fun h => by have := hS j h; omega) (fun h => h.2)⟩
      · rintro (h | h)
        · have := hS q h; omega
        · omega
      · intro h
        have := (HO4.out.lt q h).1
        omega
      · exact ⟨hg5.os, hg5.tape, hg5.output, by rw [World.alloc_size]; omega, fun j hj hne => by rw [Below.heap_alloc _ _ _ (by omega)]; exact hg5.block j hj hne⟩
      · rcases hpop with ⟨h, -⟩ | ⟨l', p', i', h1, h2, h3, h4⟩
        · exact .inl h
        · exact .inr ⟨l', p', i', h1, h2, h3, h4.heap (Below.heap_alloc _ _ _ h4.lt)⟩
    have HSS := Lib.hid hlaid
    clear hlaid hpop hg5 HPO
    go_wp2_with fail
    generalize w5.alloc (.cells #[.pointer op, .int .i64 iv] 129) = w6 at *
    generalize w5.heap.size = xb0 at *
    go_loopw [11, 12, 13] (fun u11 u12 u13 wr => ∃ (xb : Nat) (pre : List (Nat × Nat)), u12 = .pointer (some ⟨xb, 0, none⟩) ∧ SetS wc S w.heap.size e.1 t (fun {m} (s : Tr m) => setT s e) q xb u11 u13 pre wr) (fun u11 u12 u13 wr => ((wr.cell? ⟨q, 32, none⟩).map fun v => (intOf v).toNat).getD 0 + (match u13 with | .bool true => 1 | _ => 0))
    case atStart => exact ⟨xb0, path, rfl, HSS.out⟩
    case round =>
      obtain ⟨xb, pre, rfl, hss⟩ := hrel
      obtain ⟨m, s, ps5, S5, hup5, ho5, hk5, he5, hqS5⟩ := hss.at'
      obtain ⟨op5, iv5, hx5, hpre⟩ := hss.cell
      have hok := hss.ok
      have hbr := hss.below
      rcases hpre with rfl | ⟨l, p5, i5, rfl, rfl, rfl, hst5⟩
      · obtain rfl : u13 = .bool false := hok
        have hend := hup5.end rfl
        obtain ⟨rfl, hts⟩ := Sigma.mk.inj hend
        obtain rfl := eq_of_heq hts
        have hptr : wr.heap[pt]? = some (.cells #[.pointer (some ⟨p, 0, none⟩), .int .i64 ((setE (flatT s) e).length : Int)] 93 (0, 0)) := (hbr.block pt hptl).trans HPT3.out
        have hptr0 : wr.cell? ⟨pt, 0, none⟩ = some (.pointer (some ⟨p, 0, none⟩)) := cell_of_row wr pt 0 _ _ _ hptr
        have hptf : ∀ i, wr.frozen? ⟨pt, i, none⟩ = false := fun i => by simp [World.frozen?, hptr]
        have hrise2 : Rise (setE (flatT s) e) := setE_rise HRISE.out
        have hpS5 : ¬ S5 pt := fun h => (he5.new pt h).elim hpS (fun h2 => by omega)
        have hwr : w.heap.size ≤ wr.heap.size := Nat.le_trans hsz3 hbr.size
        have hkeep : ∀ j, j < w.heap.size → j ≠ pt → wr.heap[j]? = w.heap[j]? := fun j hj hne => (hbr.block j hj).trans (HB03.out j hj hne)
        have hos : wr.os = w.os ∧ wr.tape = w.tape ∧ wr.output = w.output := ⟨hbr.os.trans (HT3.out.os.trans HB02.out.os), hbr.tape.trans (HT3.out.tape.trans HB02.out.tape), hbr.output.trans (HT3.out.output.trans HB02.out.output)⟩
        have hpl := hk5.1
        rcases root_set HR.out HRISE.out e with ⟨a, hra, hrR, hrf⟩ | ⟨a, b, hra, hrR, hrf, hla, hlb⟩
        · rw [hra] at hk5 hpl
          have hp1 : ps5.length = 1 := hpl
          obtain ⟨pa, rfl⟩ := List.length_eq_one_iff.1 hp1
          obtain ⟨g5, cap5, rfl, hbg5, hgs5, hle5, hR5⟩ := ho5.someE (by show 0 < 1; omega)
          have hca : wr.cell? ⟨g5, 0, none⟩ = some (.pointer (some ⟨pa, 0, none⟩)) := by
            obtain ⟨b', o', he, hc⟩ := (hR5.row encP_len).ptr 0 pa rfl
            cases he
            exact hc
          have hNa := hk5.2 0 pa a rfl rfl
          have h1 := heap_setCell_same wr pt 0 _ _ (.pointer (some ⟨pa, 0, none⟩)) hptr
          have hT : Turn pt wr (wr.setCell ⟨pt, 0, none⟩ (.pointer (some ⟨pa, 0, none⟩))) := ⟨rfl, rfl, rfl, by simp, fun j hj => by rw [heap_setCell_other _ _ j _ hj]⟩
          have hN2 := hNa.same (w' := wr.setCell ⟨pt, 0, none⟩ (.pointer (some ⟨pa, 0, none⟩))) (fun j hj => hT.block j (fun h => hpS5 (h ▸ hj)))
          have hF : TreeW (wr.setCell ⟨pt, 0, none⟩ (.pointer (some ⟨pa, 0, none⟩))) S5 pt (setE (flatT s) e) := ⟨hrise2, fun j hj => by rw [hT.size]; exact he5.lt j hj, hpS5, .inr ⟨_, pa, a, h1, hN2, hrR, hrf⟩⟩
          have hG : w.grownBy (wr.setCell ⟨pt, 0, none⟩ (.pointer (some ⟨pa, 0, none⟩))) (some pt) := ⟨hT.os.trans hos.1, hT.tape.trans hos.2.1, hT.output.trans hos.2.2, by rw [hT.size]; exact hwr, fun j hj hne => (hT.block j (fun h => hne (by rw [h]))).trans (hkeep j hj (fun h => hne (by rw [h])))⟩
          have HF := Lib.hid (And.intro hF (And.intro (he5.later (w2 := wr.setCell ⟨pt, 0, none⟩ (.pointer (some ⟨pa, 0, none⟩))) (by rw [hT.size]; exact Nat.le_refl _)) hG))
          clear hF hG hN2 hT h1 hNa hR5 hk5 ho5 he5 hptr hra hrf hrR hrise2 hend hts hup5 hss hx5 hbr hos hkeep hp1 hpl
          go_wp2_with fail
          go_ret2
          exact ⟨_, S5, rfl, HF.out.1, HF.out.2.1, HF.out.2.2⟩
        · rw [hra] at hk5 hpl
          have hp1 : ps5.length = 2 := hpl
          obtain ⟨pa, pb, rfl⟩ : ∃ pa pb, ps5 = [pa, pb] := by
            match ps5, hp1 with
            | [x, y], _ => exact ⟨x, y, rfl⟩
          obtain ⟨g5, cap5, rfl, hbg5, hgs5, hle5, hR5⟩ := ho5.someE (by show 0 < 2; omega)
          have hca : wr.cell? ⟨g5, 0, none⟩ = some (.pointer (some ⟨pa, 0, none⟩)) := by
            obtain ⟨b', o', he, hc⟩ := (hR5.row encP_len).ptr 0 pa rfl
            cases he
            exact hc
          have h1 := heap_setCell_same wr pt 0 _ _ (.pointer (some ⟨pa, 0, none⟩)) hptr
          have hT : Turn pt wr (wr.setCell ⟨pt, 0, none⟩ (.pointer (some ⟨pa, 0, none⟩))) := ⟨rfl, rfl, rfl, by simp, fun j hj => by rw [heap_setCell_other _ _ j _ hj]⟩
          have hk6 := hk5.same (w' := wr.setCell ⟨pt, 0, none⟩ (.pointer (some ⟨pa, 0, none⟩))) (fun j hj => hT.block j (fun h => hpS5 (h ▸ hj)))
          have hgp : g5 ≠ pt := by omega
          have HI := Lib.hid (inner_any (c := cap5) ((hR5.heap (hT.block g5 hgp)).row encP_len) (show 2 ≤ 1000 by omega) rfl hk6.2 (fun k' hk' => by
            rcases List.mem_cons.1 hk' with rfl | hk'
            · exact hla
            · obtain rfl := List.mem_singleton.1 hk'
              exact hlb) (fun j hj => by rw [hT.size]; exact he5.lt j hj))
          have HT4 := Lib.hid hT
          have H1 := Lib.hid h1
          have HE5 := Lib.hid he5
          have HRF := Lib.hid (And.intro hrR hrf)
          have HOS := Lib.hid hos
          have HKP := Lib.hid hkeep
          have HR2 := Lib.hid hrise2
          unfold ptrV at HI
          clear h1 hT hk6 hR5 hk5 ho5 he5 hptr hra hrf hrR hrise2 hend hts hup5 hss hx5 hbr hos hkeep hp1 hpl
          go_wp2_with fail
          refine HI.out.mono ?_
          rintro r w7 ⟨p7, rfl, hN7, hb7⟩
          have hsz7 : wr.heap.size ≤ w7.heap.size := by have := hb7.size; rw [HT4.out.size] at this; exact this
          have hpl7 : pt < wr.heap.size := by omega
          have hpt7 : w7.heap[pt]? = some (.cells #[.pointer (some ⟨pa, 0, none⟩), .int .i64 ((setE (flatT s) e).length : Int)] 93 (0, 0)) := (hb7.block pt (by rw [HT4.out.size]; exact hpl7)).trans H1.out
          have hc7 : w7.cell? ⟨pt, 0, none⟩ = some (.pointer (some ⟨pa, 0, none⟩)) := cell_of_row w7 pt 0 _ _ _ hpt7
          have hf7 : ∀ i, w7.frozen? ⟨pt, i, none⟩ = false := fun i => by simp [World.frozen?, hpt7]
          have h8 := heap_setCell_same w7 pt 0 _ _ (.pointer (some ⟨p7, 0, none⟩)) hpt7
          have hT8 : Turn pt w7 (w7.setCell ⟨pt, 0, none⟩ (.pointer (some ⟨p7, 0, none⟩))) := ⟨rfl, rfl, rfl, by simp, fun j hj => by rw [heap_setCell_other _ _ j _ hj]⟩
          have hnp : ¬ (S5 pt ∨ ((wr.setCell ⟨pt, 0, none⟩ (.pointer (some ⟨pa, 0, none⟩))).heap.size ≤ pt ∧ pt < w7.heap.size)) := fun h => h.elim hpS5 (fun h => by have := HT4.out.size; omega)
          have hlt7 : ∀ j, (S5 j ∨ ((wr.setCell ⟨pt, 0, none⟩ (.pointer (some ⟨pa, 0, none⟩))).heap.size ≤ j ∧ j < w7.heap.size)) → j < (w7.setCell ⟨pt, 0, none⟩ (.pointer (some ⟨p7, 0, none⟩))).heap.size := fun j hj => by
            rw [hT8.size]
            exact hj.elim (fun h => by have := HE5.out.lt j h; omega) (fun h => h.2)
          have hN8 := hN7.same (w' := w7.setCell ⟨pt, 0, none⟩ (.pointer (some ⟨p7, 0, none⟩))) (S := fun j => S5 j ∨ ((wr.setCell ⟨pt, 0, none⟩ (.pointer (some ⟨pa, 0, none⟩))).heap.size ≤ j ∧ j < w7.heap.size)) (fun j hj => hT8.block j (fun h => by rw [h] at hj; exact hnp hj))
          have hF : TreeW (w7.setCell ⟨pt, 0, none⟩ (.pointer (some ⟨p7, 0, none⟩))) (fun j => S5 j ∨ ((wr.setCell ⟨pt, 0, none⟩ (.pointer (some ⟨pa, 0, none⟩))).heap.size ≤ j ∧ j < w7.heap.size)) pt (setE (flatT s) e) := ⟨HR2.out, hlt7, hnp, .inr ⟨_, p7, _, h8, hN8, HRF.out.1, HRF.out.2⟩⟩
          have hE : Ext S w.heap.size (fun j => S5 j ∨ ((wr.setCell ⟨pt, 0, none⟩ (.pointer (some ⟨pa, 0, none⟩))).heap.size ≤ j ∧ j < w7.heap.size)) (w7.setCell ⟨pt, 0, none⟩ (.pointer (some ⟨p7, 0, none⟩))) := ⟨fun j h => .inl (HE5.out.sub j h), fun j hj => hj.elim (HE5.out.new j) (fun h => .inr (by have := HT4.out.size; omega)), hlt7⟩
          have hG : w.grownBy (w7.setCell ⟨pt, 0, none⟩ (.pointer (some ⟨p7, 0, none⟩))) (some pt) := ⟨hT8.os.trans (hb7.os.trans (HT4.out.os.trans HOS.out.1)), hT8.tape.trans (hb7.tape.trans (HT4.out.tape.trans HOS.out.2.1)), hT8.output.trans (hb7.output.trans (HT4.out.output.trans HOS.out.2.2)), by rw [hT8.size]; omega, fun j hj hne => by
            have hjp : j ≠ pt := fun h => hne (by rw [h])
            rw [hT8.block j hjp, hb7.block j (by rw [HT4.out.size]; omega), HT4.out.block j hjp]
            exact HKP.out j hj hjp⟩
          have HF := Lib.hid (And.intro hF (And.intro hE hG))
          clear hF hE hG hN8 hN7 hb7 hpt7 h8 hT8 hnp hlt7
          go_wp2_with fail
          go_ret2
          exact ⟨_, _, rfl, HF.out.1, HF.out.2.1, HF.out.2.2⟩
      · obtain rfl : u13 = .bool true := by rw [hok, decide_eq_false (by simp)]; rfl
        have hql5 := hss.ql
        obtain ⟨u, hu, hNu, hi5, hks⟩ := hup5.last rfl
        obtain ⟨gu1, gu2, gu3, gu4, -⟩ := hu.good HR.out.lo HR.out.hi HR.out.kids HRISE.out
        obtain ⟨gs1, gs2, gs3, gs4, -⟩ := hup5.good HR.out.lo HR.out.hi HR.out.kids HRISE.out
        have hone := set_full gs1 gs2 gs3 gs4 e
        have hsetu := setT_up e (show (kidsT u)[kidAt (keysT u) e.1]? = some s by rw [← hi5]; exact hks)
        rw [← hi5] at hsetu
        have hSr : ∀ j, S j → j < wr.heap.size := fun j hj => Nat.lt_of_lt_of_le (hS j hj) (Nat.le_trans hsz3 hbr.size)
        have hNr := hNu.same (Same.of_below hbr hS)
        obtain ⟨cb, co, cc, qs, yk, -, hrow, hkw, hSp5, -, -⟩ := hNr.inner gu1
        have hqs : qs.length = lenT u := hrow.1
        have hil : i5 < lenT u := (List.getElem?_eq_some_iff.1 hks).1
        have hpl : ps5.length = (setT s e).length := hk5.1
        have hone1 := hone.len
        obtain ⟨g5, cap5, rfl, hbg5, hgs5, hle5, hR5⟩ := ho5.someE (by omega)
        obtain ⟨cur5, hc5, hcz5, -⟩ := hR5.ex
        have hkall : ∀ k' ∈ (kidsT u).take i5 ++ (setT s e ++ (kidsT u).drop (i5 + 1)), 0 < lenT k' := fun k' hk' => by
          rcases List.mem_append.1 hk' with h | h
          · have := (FullT.kid gu3 (List.mem_of_mem_take h)).lo; omega
          · rcases List.mem_append.1 h with h | h
            · rcases hone with ⟨a, h1, h2, -⟩ | ⟨a, b, h1, h2, h3⟩
              · rw [h1] at h; obtain rfl := List.mem_singleton.1 h; omega
              · rw [h1] at h
                rcases List.mem_cons.1 h with rfl | h
                · have := h2.lo; omega
                · obtain rfl := List.mem_singleton.1 h; have := h3.lo; omega
            · have := (FullT.kid gu3 (List.mem_of_mem_drop h)).lo; omega
        have HC := Lib.hid (cloneP_any (c := cc) (w := wr.drew) hrow (by omega))
        obtain ⟨x50, x51⟩ : wr.cell? ⟨xb, 0, none⟩ = some (.pointer (some ⟨p5, 0, none⟩)) ∧ wr.cell? ⟨xb, 1, none⟩ = some (.int .i64 (i5 : Int)) := ⟨cell_of_row wr xb 0 _ _ _ hx5, cell_of_row wr xb 1 _ _ _ hx5⟩
        have hxl : xb < wr.heap.size := (Array.getElem?_eq_some_iff.1 hx5).1
        have hp5l : p5 < wr.heap.size := hSr p5 hSp5
        have hS0 : wr.drew.cell? ⟨xb, 0, none⟩ = some (.pointer (some ⟨p5, 0, none⟩)) ∧ wr.drew.cell? ⟨xb, 1, none⟩ = some (.int .i64 (i5 : Int)) ∧ wr.drew.cell? ⟨p5, 3, none⟩ = some (.slice (some ⟨cb, co, none⟩) (lenT u) cc) := ⟨x50, x51, yk⟩
        have hS5 : ∀ W, Below wr.heap.size wr W → W.cell? ⟨xb, 0, none⟩ = some (.pointer (some ⟨p5, 0, none⟩)) ∧ W.cell? ⟨xb, 1, none⟩ = some (.int .i64 (i5 : Int)) ∧ W.cell? ⟨p5, 3, none⟩ = some (.slice (some ⟨cb, co, none⟩) (lenT u) cc) := fun W hW => ⟨(hW.cell (p := ⟨xb, 0, none⟩) hxl).trans x50, (hW.cell (p := ⟨xb, 1, none⟩) hxl).trans x51, (hW.cell (p := ⟨p5, 3, none⟩) hp5l).trans yk⟩
        have HS5 := Lib.hid hS5
        have HKW := Lib.hid hkw
        have HK5 := Lib.hid hk5
        have HE5 := Lib.hid he5
        have HU := Lib.hid hu
        have HSU := Lib.hid hsetu
        have HKA := Lib.hid hkall
        have HBR := Lib.hid hbr
        have HST5 := Lib.hid hst5
        have HR5 := Lib.hid hR5
        have HC5 := Lib.hid hc5
        have hm32 := hst5.reads.1
        have hi1 : IntKind.i64.wrap ((i5 : Int) + 1) = ((i5 + 1 : Nat) : Int) := by rw [IntWalk.i64_in _ (by omega)]; omega
        have hb1 : qs.length ≤ 20 := by omega
        have hb2 : i5 + 1 ≤ qs.length := by omega
        have hb3 : 0 < ps5.length := by omega
        have hb4 : ps5.length ≤ 2 := by omega
        have hb5 : cur5.size ≠ 0 := by rw [hcz5]; omega
        have hb6 : w.heap.size ≤ wr.heap.size := Nat.le_trans hsz3 hbr.size
        clear hup5 ho5 hk5 he5 hx5 hu hNu hks hone hsetu hNr hrow hkw hqs hil hpl hone1 hR5 hc5 hcz5 hkall hS5 hi5 hbr hst5 gu1 gu2 gu3 gu4 gs1 gs2 gs3 gs4 yk x50 x51 hle5 hss
        generalize lenT u = lu at *
        clear hok
        go_wp2_with fail
        go_region_held_law (fun W' => W'.cell? ⟨xb, 0, none⟩ = some (.pointer (some ⟨p5, 0, none⟩)) ∧ W'.cell? ⟨xb, 1, none⟩ = some (.int .i64 (i5 : Int)) ∧ W'.cell? ⟨p5, 3, none⟩ = some (.slice (some ⟨cb, co, none⟩) lu cc))
          (first | exact hS0 | exact HS5.out _ (by first | with_reducible exact hbe | with_reducible exact hbd | with_reducible exact hbc))
          (first
            | (go_at_call 72
               refine HC.out.mono ?_
               rintro r wq ⟨vq, rfl, hvq, hbq⟩
               have hbc : Below wr.heap.size wr wq := ⟨hbq.os, hbq.tape, hbq.output, hbq.size, hbq.block⟩
               have hrq : wr.heap.size ≤ wq.heap.size := hbc.size
               have HRP := Lib.hid (replace_any (c2 := cap5) hvq i5 (i5 + 1) (by omega) (by omega) (by omega) ((HR5.out.heap (hbc.block g5 hgs5)).row encP_len) (by omega) (by omega) (by omega) ((hbc.block g5 hgs5).trans HC5.out) hb5 (fun h => by have := (hvq.lt _ h).1; have h2 : wr.drew.heap.size = wr.heap.size := rfl; omega) (by show wr.heap.size ≤ _; omega))
               have HVQ := Lib.hid hvq.lt
               have HBC := Lib.hid hbc
               clear hvq hbq)
            | (go_at_call 71
               refine HRP.out.mono ?_
               rintro r wp ⟨vp, rfl, hvp, hgp⟩
               have hbd : Below wr.heap.size wr wp := HBC.out.grown hgp HBC.out.size (fun j hj => (HVQ.out j hj).1)
               have hlp : (qs.take i5 ++ (ps5 ++ qs.drop (i5 + 1))).length ≤ 100 ∧ 0 < (qs.take i5 ++ (ps5 ++ qs.drop (i5 + 1))).length := by
                 rw [List.length_append, List.length_append, List.length_take, List.length_drop]; omega
               obtain ⟨gp, capp, rfl, hbgp, hgsp, hlep, hRp⟩ := hvp.someE hlp.2
               have hk1 : KidsW wp S5 (qs.take i5 ++ (ps5 ++ qs.drop (i5 + 1))) ((kidsT u).take i5 ++ (setT s e ++ (kidsT u).drop (i5 + 1))) := by
                 have hsm : Same S5 wr wp := fun j hj => hbd.block j (HE5.out.lt j hj)
                 have hk0 := (HKW.out.more HE5.out.sub).same hsm
                 exact (hk0.take i5).app ((HK5.out.same hsm).app (hk0.drop (i5 + 1)))
               have HI := Lib.hid (inners_any (c := capp) (hRp.row encP_len) hlep (by omega) hlp.2 hk1 HKA.out (fun j hj => Nat.lt_of_lt_of_le (HE5.out.lt j hj) hbd.size))
               have HBD := Lib.hid hbd
               generalize (qs.take i5 ++ (ps5 ++ qs.drop (i5 + 1))).length = lp at *
               clear hvp hgp hlp hlep hRp hk1)
            | (go_at_call 70
               refine HI.out.mono ?_
               rintro r wo ⟨vo, po, rfl, hvo, hko, hbo⟩
               have hbe : Below wr.heap.size wr wo := HBD.out.trans (hbo.mono HBD.out.size)))
        all_goals
          obtain ⟨k0, k1, -⟩ := HS5.out wo hbe
          have hop := hbo.size
          have hdp := HBD.out.size
          have hqo : q < wo.heap.size := by omega
          have hsx := World.alloc_size wo (.cells #[.pointer (some ⟨p5, 0, none⟩), .int .i64 (i5 : Int)] 129)
          have HPO := Lib.hid (pop_any ((HST5.out.heap (hbe.block q hql5)).heap (Below.heap_alloc wo (.cells #[.pointer (some ⟨p5, 0, none⟩), .int .i64 (i5 : Int)] 129) q hqo)))
          have hx7 : (wo.alloc (.cells #[.pointer (some ⟨p5, 0, none⟩), .int .i64 (i5 : Int)] 129)).heap[wo.heap.size]? = some (.cells #[.pointer (some ⟨p5, 0, none⟩), .int .i64 (i5 : Int)] 129 (0, 0)) := heap_alloc_new wo _
          have HX7 := Lib.hid hx7
          have HBE := Lib.hid hbe
          have HVO := Lib.hid hvo
          have HKO := Lib.hid hko
          have HBO := Lib.hid hbo
          have HSX := Lib.hid hsx
          unfold ptrV at HPO
          clear hx7 hbe hvo hko hbo hsx hbc hbd HC HRP HI
          go_wp2_with fail
          refine HPO.out.mono ?_
          rintro r w6 ⟨op6, iv6, rfl, hg6, hpop6⟩
          have hg6' : wo.grownBy w6 (some q) := ⟨hg6.os, hg6.tape, hg6.output, by have := hg6.size; have := HSX.out; omega, fun j hj hne => (hg6.block j (by have := HSX.out; omega) hne).trans (Below.heap_alloc _ _ _ hj)⟩
          have hx8 : w6.heap[wo.heap.size]? = some (.cells #[.pointer (some ⟨p5, 0, none⟩), .int .i64 (i5 : Int)] 129 (0, 0)) := (hg6.block _ (by have := HSX.out; omega) (fun h => by have := Option.some.inj h; omega)).trans HX7.out
          have k60 := cell_of_row w6 _ 0 _ _ _ hx8
          have k61 := cell_of_row w6 _ 1 _ _ _ hx8
          simp at k60 k61
          have k6f : ∀ i, w6.frozen? ⟨wo.heap.size, i, none⟩ = false := fun i => by simp [World.frozen?, hx8]
          have hT := turn_two w6 wo.heap.size (.pointer op6) (.int .i64 iv6)
          have hx9 := heap_two hx8 (.pointer op6) (.int .i64 iv6)
          have hS6 : ¬ (S5 q ∨ (wp.heap.size ≤ q ∧ q < wo.heap.size)) := fun h => h.elim hqS5 (fun h => by omega)
          have hmeas : (l = [] ∧ StackW ((w6.setCell ⟨wo.heap.size, 0, none⟩ (.pointer op6)).setCell ⟨wo.heap.size, 1, none⟩ (.int .i64 iv6)) q []) ∨ ∃ l' : List (Nat × Nat), l ≠ [] ∧ l.length = l'.length + 1 ∧ StackW ((w6.setCell ⟨wo.heap.size, 0, none⟩ (.pointer op6)).setCell ⟨wo.heap.size, 1, none⟩ (.int .i64 iv6)) q l' := by
            rcases hpop6 with ⟨h1, h2⟩ | ⟨l', p', i', h1, h2, h3, h4⟩
            · exact .inl ⟨h1, h2.heap (hT.block q (by omega))⟩
            · exact .inr ⟨l', by rw [h1]; simp, by rw [h1]; simp, h4.heap (hT.block q (by omega))⟩
          have hlaid : SetS wc S w.heap.size e.1 t (fun {m} (s : Tr m) => setT s e) q wo.heap.size vo (.bool (!decide (l = []))) l ((w6.setCell ⟨wo.heap.size, 0, none⟩ (.pointer op6)).setCell ⟨wo.heap.size, 1, none⟩ (.int .i64 iv6)) := by
            refine SetS.laid (W := wo) HU.out (HVO.out.base (by omega)) (S := fun j => S5 j ∨ (wp.heap.size ≤ j ∧ j < wo.heap.size)) (by rw [HSU.out]; exact HKO.out) ?_ hS6 ?_ ?_ hx9 ?_ (HBR.out.trans (HBE.out.mono hb6)) hqn (by omega) hqo (Nat.le_refl _)
            · exact ⟨fun j h => .inl (HE5.out.sub j h), fun j hj => hj.elim (HE5.out.new j) (fun h => .inr (by omega)), fun j hj => hj.elim (fun h => by have := HE5.out.lt j h; omega) (fun h => h.2)⟩
            · intro h
              have := (HVO.out.lt q h).1
              omega
            · exact ⟨hT.os.trans hg6'.os, hT.tape.trans hg6'.tape, hT.output.trans hg6'.output, by rw [hT.size]; exact hg6'.size, fun j hj hne => (hT.block j (by omega)).trans (hg6'.block j hj hne)⟩
            · rcases hpop6 with ⟨h, -⟩ | ⟨l', p', i', h1, h2, h3, h4⟩
              · exact .inl h
              · exact .inr ⟨l', p', i', h1, h2, h3, h4.heap (hT.block q (by omega))⟩
          have HLD := Lib.hid hlaid
          have HME := Lib.hid hmeas
          clear hlaid hmeas hpop6 hg6 hg6' hx8 hx9 hT HPO hS6
          go_wp2_with fail
          go_roundw
          case rel => exact ⟨wo.heap.size, l, rfl, HLD.out⟩
          case measure =>
            rw [hm32]
            rcases HME.out with ⟨h1, h2⟩ | ⟨l', h1, h2, h3⟩
            · rw [h2.reads.1, h1]; simp [intOf]
            · rw [h3.reads.1, decide_eq_false h1, h2]; simp [intOf]

theorem set_any {S : Nat → Prop} {w : World} {pt : Nat} {l : List En} (h : TreeW w S pt l) (hl : l.length ≤ 2000) (e : En) :
    Calls Tryz.prog 50 #[ptrV pt, entV e] w fun r w' => ∃ v S', r = .returned v ∧ TreeW w' S' pt (setE l e) ∧ Ext S w.heap.size S' w' ∧ w.grownBy w' (some pt) := by
  rcases h.has with ⟨rfl, h2⟩ | ⟨d, p, t, h1, h2, h3, rfl⟩
  · exact set_empty h h2 e
  · exact set_some h.apart h1 h2 h3 h.rise h.lt hl e
end Go.Proofs.YtejhbaeeaejcaaaGreat
