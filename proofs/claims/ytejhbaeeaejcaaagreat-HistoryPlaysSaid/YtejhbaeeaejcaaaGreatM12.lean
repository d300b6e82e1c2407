/- The walk of tree.Tree's Delete. Conditions: those of each theorem. -/
import Derived.Test.YtejhbaeeaejcaaaGreatM10
import Derived.Test.YtejhbaeeaejcaaaGreatM11
import Derived.Test.YtejhbaeeaejcaaaGreatM2
import Derived.Test.YtejhbaeeaejcaaaGreatM5
namespace Go.Proofs.YtejhbaeeaejcaaaGreat
open Go.RowKit

set_option maxRecDepth 100000 in
set_option maxHeartbeats 8000000 in
theorem del_empty {S : Nat → Prop} {w : World} {pt : Nat} (h : TreeW w S pt []) (hat : TreeAt w pt none 0) (k : Nat) :
    Calls Tryz.prog 56 #[ptrV pt, keyV k] w fun r w' => ∃ v S', r = .returned v ∧ TreeW w' S' pt [] ∧ Ext S w.heap.size S' w' ∧ w.grownBy w' (some pt) := by
  have hb0 : Below w.heap.size w (w.alloc (.cells #[.int .u16 (kVol k : Int), .int .u32 (kBlk k : Int), .int .u64 (kSeq k : Int)] 27)) := (Below.refl _ _).alloc (Nat.le_refl _) _
  have hx0 : (w.alloc (.cells #[.int .u16 (kVol k : Int), .int .u32 (kBlk k : Int), .int .u64 (kSeq k : Int)] 27)).heap[w.heap.size]? = some (.cells #[.int .u16 (kVol k : Int), .int .u32 (kBlk k : Int), .int .u64 (kSeq k : Int)] 27 (0, 0)) := heap_alloc_new w _
  have hptl : pt < w.heap.size := h.ptlt
  have hat0 : TreeAt (w.alloc (.cells #[.int .u16 (kVol k : Int), .int .u32 (kBlk k : Int), .int .u64 (kSeq k : Int)] 27)) pt none 0 := (hb0.block pt hptl).trans hat
  have HW := Lib.hid (way_none hat0 k)
  have HH := Lib.hid h
  have z0 := cell_of_row _ _ 0 _ _ _ hx0
  have z1 := cell_of_row _ _ 1 _ _ _ hx0
  have z2 := cell_of_row _ _ 2 _ _ _ hx0
  simp at z0 z1 z2
  unfold keyV at HW ⊢
  unfold ptrV at HW ⊢
  clear h hat hat0 hx0
  go_enter Tryz.func56, Tryz.ntmps56
  go_wp2_with fail
  generalize w.alloc (.cells #[.int .u16 (kVol k : Int), .int .u32 (kBlk k : Int), .int .u64 (kSeq k : Int)] 27) = w0 at *
  refine HW.out.mono ?_
  rintro r w1 ⟨q, rfl, -, -, hb1⟩
  have HB := Lib.hid (hb0.trans (hb1.mono hb0.size))
  clear z0 z1 z2 hb0 hb1 HW
  go_wp2_with fail
  go_ret2
  have hb := HB.out
  exact ⟨_, S, rfl, HH.out.same (Same.of_below hb HH.out.lt) (hb.block pt hptl) hb.size, (Ext.refl HH.out.lt).later hb.size, ⟨hb.os, hb.tape, hb.output, hb.size, fun j hj _ => hb.block j hj⟩⟩

set_option maxRecDepth 100000 in
set_option maxHeartbeats 16000000 in
theorem del_some {S : Nat → Prop} {w : World} {pt d p : Nat} {t : Tr d} (hpS : ¬ S pt) (hat : TreeAt w pt (some p) (flatT t).length) (ht : NodeW w S p t) (hR : RootT t) (hrise : Rise (flatT t)) (hS : ∀ j, S j → j < w.heap.size) (hlen : (flatT t).length ≤ 2000) (k : Nat) :
    Calls Tryz.prog 56 #[ptrV pt, keyV k] w fun r w' => ∃ v S', r = .returned v ∧ TreeW w' S' pt (delE (flatT t) k) ∧ Ext S w.heap.size S' w' ∧ w.grownBy w' (some pt) := by
  have hb0 : Below w.heap.size w (w.alloc (.cells #[.int .u16 (kVol k : Int), .int .u32 (kBlk k : Int), .int .u64 (kSeq k : Int)] 27)) := (Below.refl _ _).alloc (Nat.le_refl _) _
  have hx0 : (w.alloc (.cells #[.int .u16 (kVol k : Int), .int .u32 (kBlk k : Int), .int .u64 (kSeq k : Int)] 27)).heap[w.heap.size]? = some (.cells #[.int .u16 (kVol k : Int), .int .u32 (kBlk k : Int), .int .u64 (kSeq k : Int)] 27 (0, 0)) := heap_alloc_new w _
  have hsz0 := World.alloc_size w (.cells #[.int .u16 (kVol k : Int), .int .u32 (kBlk k : Int), .int .u64 (kSeq k : Int)] 27)
  have hptl : pt < w.heap.size := (Array.getElem?_eq_some_iff.1 hat).1
  have hat0 : TreeAt (w.alloc (.cells #[.int .u16 (kVol k : Int), .int .u32 (kBlk k : Int), .int .u64 (kSeq k : Int)] 27)) pt (some p) (flatT t).length := (hb0.block pt hptl).trans hat
  have HW := Lib.hid (way_some hat0 (ht.same (Same.of_below hb0 hS)) (fun j hj => by rw [hsz0]; have := hS j hj; omega) hR.lo hR.hi hR.kids hrise (by have := hR.depth hlen; omega) k)
  have HX := Lib.hid hx0
  have HAT := Lib.hid hat
  have HT := Lib.hid ht
  have HR := Lib.hid hR
  have HRISE := Lib.hid hrise
  have z0 := cell_of_row _ _ 0 _ _ _ hx0
  have z1 := cell_of_row _ _ 1 _ _ _ hx0
  have z2 := cell_of_row _ _ 2 _ _ _ hx0
  simp at z0 z1 z2
  unfold keyV at HW ⊢
  unfold ptrV at HW ⊢
  clear ht hat hat0 hR hrise
  go_enter Tryz.func56, Tryz.ntmps56
  go_wp2_with fail
  generalize w.alloc (.cells #[.int .u16 (kVol k : Int), .int .u32 (kBlk k : Int), .int .u64 (kSeq k : Int)] 27) = w0 at *
  refine HW.out.mono ?_
  rintro r w1 ⟨q, path, pl, lt, rfl, hst, hq0, hway, hb1⟩
  have hb01 := hb0.trans (hb1.mono hb0.size)
  have hx1 : w1.heap[w.heap.size]? = some (.cells #[.int .u16 (kVol k : Int), .int .u32 (kBlk k : Int), .int .u64 (kSeq k : Int)] 27 (0, 0)) := (hb1.block _ (by omega)).trans HX.out
  obtain ⟨y0, y1, y2⟩ : w1.cell? ⟨w.heap.size, 0, none⟩ = some (.int .u16 (kVol k : Int)) ∧ w1.cell? ⟨w.heap.size, 1, none⟩ = some (.int .u32 (kBlk k : Int)) ∧ w1.cell? ⟨w.heap.size, 2, none⟩ = some (.int .u64 (kSeq k : Int)) := ⟨cell_of_row w1 _ 0 _ _ _ hx1, cell_of_row w1 _ 1 _ _ _ hx1, cell_of_row w1 _ 2 _ _ _ hx1⟩
  have hS1 : ∀ j, S j → j < w1.heap.size := fun j hj => Nat.lt_of_lt_of_le (hS j hj) hb01.size
  obtain ⟨hup, hNl⟩ := WayT.up (UpT.top (w := w1) (S := S) (k := k) (t := t)) hway
  rw [List.nil_append] at hup
  obtain ⟨hl1, hl2, hl3, hl4, hl5⟩ := hup.good HR.out.lo HR.out.hi HR.out.kids HRISE.out
  have hget := hup.get HR.out.lo HR.out.hi HR.out.kids HRISE.out
  have hgt : getE (flatT lt) k = getE (rowT lt) k := rfl
  have hhad : (getE (flatT t) k).isSome = decide (k ∈ keysT lt) := by rw [hget, hgt]; exact get_mem _ _
  have hnn := delE_len (l := flatT t) (k := k) HRISE.out
  rw [hhad] at hnn
  have HWI := Lib.hid (without_any hNl hS1 (by omega) (show Rise (rowT lt) from hl4) k)
  have hrl : (rowT lt).length ≤ 6 := hl2
  have hsl : (delE (rowT lt) k).length ≤ 6 := Nat.le_trans (delE_sub _ _).length_le hrl
  have HUP := Lib.hid hup
  have HST := Lib.hid hst
  have HB01 := Lib.hid hb01
  have HNN := Lib.hid hnn
  have HHAD := Lib.hid hhad
  have hs01 := hb01.size
  have hqn : w.heap.size ≤ q := by omega
  have hql := hst.lt
  unfold keyV at HWI
  unfold ptrV at HWI
  clear z0 z1 z2 hx0 hx1 hb0 hb1 hb01 hway hNl hup hst hl1 hl2 hl3 hl4 hl5 hget hgt hhad hnn hsz0 HW hq0 hrl
  by_cases hm : k ∈ keysT lt
  · have hmd : decide (k ∈ keysT lt) = true := decide_eq_true hm
    have hg : (getE (flatT t) k).isSome = true := HHAD.out.trans hmd
    have hnn : (delE (flatT t) k).length + 1 = (flatT t).length := by have := HNN.out; rw [hmd, if_pos rfl] at this; exact this
    rw [hmd] at HWI
    have HG := Lib.hid hg
    clear hm hmd hg HNN HHAD
    go_wp2_with fail
    refine HWI.out.mono ?_
    rintro r w2 ⟨v2, x2, rfl, hv2, hb2⟩
    have hb02 := HB01.out.trans (hb2.mono hs01)
    have hpt2 : w2.heap[pt]? = some (.cells #[.pointer (some ⟨p, 0, none⟩), .int .i64 ((flatT t).length : Int)] 93 (0, 0)) := (hb02.block pt hptl).trans HAT.out
    have hpc0 : w2.cell? ⟨pt, 0, none⟩ = some (.pointer (some ⟨p, 0, none⟩)) := cell_of_row w2 pt 0 _ _ _ hpt2
    have hpc1 : w2.cell? ⟨pt, 1, none⟩ = some (.int .i64 ((flatT t).length : Int)) := cell_of_row w2 pt 1 _ _ _ hpt2
    have hpf : ∀ i, w2.frozen? ⟨pt, i, none⟩ = false := fun i => by simp [World.frozen?, hpt2]
    have hxn : IntKind.i64.wrap (((flatT t).length : Int) - 1) = ((delE (flatT t) k).length : Int) := by rw [IntWalk.i64_in _ (by omega)]; omega
    have hpt3 := heap_setCell_same w2 pt 1 _ _ (.int .i64 ((delE (flatT t) k).length : Int)) hpt2
    have hT3 : Turn pt w2 (w2.setCell ⟨pt, 1, none⟩ (.int .i64 ((delE (flatT t) k).length : Int))) := ⟨rfl, rfl, rfl, by simp, fun j hj => by rw [heap_setCell_other _ _ j _ hj]⟩
    have hs2 := hb2.size
    generalize hwc : w2.setCell ⟨pt, 1, none⟩ (.int .i64 ((delE (flatT t) k).length : Int)) = wc at *
    have HWC := Lib.hid hwc
    have hb03 : ∀ j, j < w.heap.size → j ≠ pt → wc.heap[j]? = w.heap[j]? := fun j hj hne => (hT3.block j hne).trans (hb02.block j hj)
    have hpv : v2.ownBlock ≠ some pt := fun h => by have := (hv2.lt pt h).1; omega
    have hv3 := hv2.kept hT3.grown (.inr hpv)
    obtain ⟨va, vc, rfl, hvr, hvc, -⟩ := hv3.row encN_len
    have HL := Lib.hid (leaves_any (c := vc) hvr hvc (by omega))
    have hS12 : Same S w1 wc := fun j hj => (hT3.block j (fun h => hpS (h ▸ hj))).trans (hb2.block j (Nat.lt_of_lt_of_le (hS j hj) hs01))
    have HUP3 := Lib.hid (HUP.out.same hS12)
    have hst3 : StackW wc q path := HST.out.heap ((hT3.block q (by omega)).trans (hb2.block q hql))
    have HST3 := Lib.hid hst3
    have hsz3 : w.heap.size ≤ wc.heap.size := by rw [hT3.size]; omega
    have HPT3 := Lib.hid hpt3
    have HB03 := Lib.hid hb03
    have HT3 := Lib.hid hT3
    have HB02 := Lib.hid hb02
    have hq3 : q < wc.heap.size := by rw [hT3.size]; omega
    clear hpt3 hT3 hb03 hpv hv3 hvr hvc hS12 hst3 hpt2 hb02 hv2 hb2 HWI y0 y1 y2
    generalize (delE (rowT lt) k).length = nr at *
    go_wp2_with fail
    refine HL.out.mono ?_
    rintro r w4 ⟨v4, ps, rfl, ho4, hk4, hb4⟩
    have hs4 := hb4.size
    have HPO := Lib.hid (pop_any (HST3.out.heap (hb4.block q hq3)))
    have HO4 := Lib.hid ho4
    have HK4 := Lib.hid hk4
    have HB4 := Lib.hid hb4
    unfold ptrV at HPO
    clear ho4 hk4 hb4
    go_wp2_with fail
    refine HPO.out.mono ?_
    rintro r w5 ⟨op, iv, rfl, hg5, hpop⟩
    have hs5 := hg5.size
    have hlaid : SetS wc S w.heap.size k t (fun {m} (s : Tr m) => delT s k) q w5.heap.size v4 (.bool (!decide (path = []))) path (w5.alloc (.cells #[.pointer op, .int .i64 iv] 129)) := by
      refine SetS.laid (W := w4) HUP3.out (HO4.out.base hsz3) (S := fun j => S j ∨ (wc.heap.size ≤ j ∧ j < w4.heap.size)) (HK4.out.more (fun j hj => .inr hj)) ?_ ?_ ?_ ?_ (heap_alloc_new w5 _) ?_ (HB4.out.mono hsz3) hqn (by omega) (by omega) hs5
      · exact ⟨fun _ h => .inl h, fun j hj => hj.elim .inl (fun h => .inr (by omega)), fun j hj => hj.elim (fun h => by have := hS j h; omega) (fun h => h.2)⟩
      · rintro (h | h)
        · have := hS q h; omega
        · omega
      · intro h
        have := (HO4.out.lt q h).1
        omega
      · exact ⟨hg5.os, hg5.tape, hg5.output, by rw [World.alloc_size]; omega, fun j hj hne => by rw [Below.heap_alloc _ _ _ (by omega)]; exact hg5.block j hj hne⟩
      · rcases hpop with ⟨h, -⟩ | ⟨l', p', i', h1, h2, h3, h4⟩
        · exact .inl h
        · exact .inr ⟨l', p', i', h1, h2, h3, h4.heap (Below.heap_alloc _ _ _ h4.lt)⟩
    have HSS := Lib.hid hlaid
    clear hlaid hpop hg5 HPO
    go_wp2_with fail
    generalize w5.alloc (.cells #[.pointer op, .int .i64 iv] 129) = w6 at *
    generalize w5.heap.size = xb0 at *
    go_loopw [11, 12, 13] (fun u11 u12 u13 wr => ∃ (xb : Nat) (pre : List (Nat × Nat)), u12 = .pointer (some ⟨xb, 0, none⟩) ∧ SetS wc S w.heap.size k t (fun {m} (s : Tr m) => delT s k) q xb u11 u13 pre wr) (fun u11 u12 u13 wr => ((wr.cell? ⟨q, 32, none⟩).map fun v => (intOf v).toNat).getD 0 + (match u13 with | .bool true => 1 | _ => 0))
    case atStart => exact ⟨xb0, path, rfl, HSS.out⟩
    case round =>
      obtain ⟨xb, pre, rfl, hss⟩ := hrel
      obtain ⟨m, s, ps5, S5, hup5, ho5, hk5, he5, hqS5⟩ := hss.at'
      obtain ⟨op5, iv5, hx5, hpre⟩ := hss.cell
      have hok := hss.ok
      have hbr := hss.below
      rcases hpre with rfl | ⟨l, p5, i5, rfl, rfl, rfl, hst5⟩
      · obtain rfl : u13 = .bool false := hok
        have hend := hup5.end rfl
        obtain ⟨rfl, hts⟩ := Sigma.mk.inj hend
        obtain rfl := eq_of_heq hts
        have hptr : wr.heap[pt]? = some (.cells #[.pointer (some ⟨p, 0, none⟩), .int .i64 ((delE (flatT s) k).length : Int)] 93 (0, 0)) := (hbr.block pt hptl).trans HPT3.out
        have hptr0 : wr.cell? ⟨pt, 0, none⟩ = some (.pointer (some ⟨p, 0, none⟩)) := cell_of_row wr pt 0 _ _ _ hptr
        have hptf : ∀ i, wr.frozen? ⟨pt, i, none⟩ = false := fun i => by simp [World.frozen?, hptr]
        have hrise2 : Rise (delE (flatT s) k) := delE_rise HRISE.out
        have hpS5 : ¬ S5 pt := fun h => (he5.new pt h).elim hpS (fun h2 => by omega)
        have hwr : w.heap.size ≤ wr.heap.size := Nat.le_trans hsz3 hbr.size
        have hkeep : ∀ j, j < w.heap.size → j ≠ pt → wr.heap[j]? = w.heap[j]? := fun j hj hne => (hbr.block j hj).trans (HB03.out j hj hne)
        have hos : wr.os = w.os ∧ wr.tape = w.tape ∧ wr.output = w.output := ⟨hbr.os.trans (HT3.out.os.trans HB02.out.os), hbr.tape.trans (HT3.out.tape.trans HB02.out.tape), hbr.output.trans (HT3.out.output.trans HB02.out.output)⟩
        have hpl := hk5.1
        -- what the root's block holds at the end decides
        have hfin : ∀ (W : World) (x : Option Nat), Turn pt wr W → TreeAt W pt x (delE (flatT s) k).length → (delE (flatT s) k = [] ∧ x = none ∨ ∃ (d' pa : Nat) (a : Tr d'), x = some pa ∧ NodeW wr S5 pa a ∧ RootT a ∧ flatT a = delE (flatT s) k) → TreeW W S5 pt (delE (flatT s) k) ∧ Ext S w.heap.size S5 W ∧ w.grownBy W (some pt) := fun W x hT hTA hx => by
          refine ⟨⟨hrise2, fun j hj => by rw [hT.size]; exact he5.lt j hj, hpS5, ?_⟩, he5.later (by rw [hT.size]; exact Nat.le_refl _), ⟨hT.os.trans hos.1, hT.tape.trans hos.2.1, hT.output.trans hos.2.2, by rw [hT.size]; exact hwr, fun j hj hne => (hT.block j (fun h => hne (by rw [h]))).trans (hkeep j hj (fun h => hne (by rw [h])))⟩⟩
          rcases hx with ⟨h1, rfl⟩ | ⟨d', pa, a, rfl, h2, h3, h4⟩
          · rw [h1] at hTA; exact .inl ⟨h1, hTA⟩
          · exact .inr ⟨d', pa, a, hTA, h2.same (fun j hj => hT.block j (fun h => by rw [h] at hj; exact hpS5 hj)), h3, h4⟩
        have HFIN := Lib.hid hfin
        have hTx : ∀ x : Value, Turn pt wr (wr.setCell ⟨pt, 0, none⟩ x) := fun x => ⟨rfl, rfl, rfl, by simp, fun j hj => by rw [heap_setCell_other _ _ j _ hj]⟩
        have HTX := Lib.hid hTx
        have hcell : ∀ x : Value, (wr.setCell ⟨pt, 0, none⟩ x).heap[pt]? = some (.cells #[x, .int .i64 ((delE (flatT s) k).length : Int)] 93 (0, 0)) := fun x => heap_setCell_same wr pt 0 _ _ x hptr
        have HCELL := Lib.hid hcell
        have htz : ∀ (W : World) (x : Value), Turn pt wr W → Turn pt wr (W.setCell ⟨pt, 0, none⟩ x) := fun W x h => h.trans ⟨rfl, rfl, rfl, by simp, fun j hj => by rw [heap_setCell_other _ _ j _ hj]⟩
        have HTZ := Lib.hid htz
        have hfar : ∀ (W : World) (b o : Nat), Turn pt wr W → b ≠ pt → W.cell? ⟨b, o, none⟩ = wr.cell? ⟨b, o, none⟩ := fun W b o h hb => by simp only [World.cell?]; rw [h.block b hb]
        have HFAR := Lib.hid hfar
        have hcz : ∀ (W : World) (x y n : Value), W.heap[pt]? = some (.cells #[y, n] 93 (0, 0)) → (W.setCell ⟨pt, 0, none⟩ x).heap[pt]? = some (.cells #[x, n] 93 (0, 0)) := fun W x y n h => heap_setCell_same W pt 0 _ _ x h
        have HCZ := Lib.hid hcz
        clear htz hfar hcz
        clear hfin hTx hcell hrise2 hkeep hos hend hts hup5 hss hx5 hbr he5
        cases m with
        | zero =>
          rcases root_del0 HR.out HRISE.out HG.out with ⟨hra, hd0⟩ | ⟨a, hra, hrR, hrf⟩
          · rw [hra] at hpl
            obtain rfl : ps5 = [] := List.eq_nil_of_length_eq_zero hpl
            obtain ⟨a5, c5, rfl, -, -, -⟩ := ho5.row encP_len
            have HD0 := Lib.hid hd0
            clear ho5 hk5 hra hd0 hpl hptr
            go_wp2_with fail
            have hc1 : (wr.setCell ⟨pt, 0, none⟩ (.pointer none)).cell? ⟨pt, 0, none⟩ = some (.pointer none) := cell_of_row _ pt 0 _ _ _ (HCELL.out (.pointer none))
            refine wp_loop_rounds 1 ?_
            rw [rounds_succ]
            go_wp2_with fail
            go_ret2
            exact ⟨_, S5, rfl, HFIN.out _ none (HTX.out _) (HCELL.out _) (.inl ⟨HD0.out, rfl⟩)⟩
          · rw [hra] at hk5 hpl
            obtain ⟨pa, rfl⟩ := List.length_eq_one_iff.1 (show ps5.length = 1 from hpl)
            obtain ⟨g5, cap5, rfl, hbg5, hgs5, hle5, hR5⟩ := ho5.someE (by show 0 < 1; omega)
            have hca : wr.cell? ⟨g5, 0, none⟩ = some (.pointer (some ⟨pa, 0, none⟩)) := by
              obtain ⟨b', o', he, hc⟩ := (hR5.row encP_len).ptr 0 pa rfl
              cases he
              exact hc
            have hNa := hk5.2 0 pa a rfl rfl
            obtain ⟨ka, kc, va', vn', vc', ca', cn', cc', hbx, -⟩ := hNa.box
            have hpaS : S5 pa := hbx.self
            have hpap : pa ≠ pt := fun h => hpS5 (h ▸ hpaS)
            have hfl : ((wr.setCell ⟨pt, 0, none⟩ (.pointer none)).setCell ⟨pt, 0, none⟩ (.pointer (some ⟨pa, 0, none⟩))).cell? ⟨pa, 0, none⟩ = some (.bool true) := (HFAR.out _ pa 0 (HTZ.out (wr.setCell ⟨pt, 0, none⟩ (.pointer none)) (.pointer (some ⟨pa, 0, none⟩)) (HTX.out _)) hpap).trans hbx.reads.1
            have hc1 : ((wr.setCell ⟨pt, 0, none⟩ (.pointer none)).setCell ⟨pt, 0, none⟩ (.pointer (some ⟨pa, 0, none⟩))).cell? ⟨pt, 0, none⟩ = some (.pointer (some ⟨pa, 0, none⟩)) := cell_of_row _ pt 0 _ _ _ (HCZ.out (wr.setCell ⟨pt, 0, none⟩ (.pointer none)) (.pointer (some ⟨pa, 0, none⟩)) _ _ (HCELL.out _))
            have HNA := Lib.hid (And.intro hNa (And.intro hrR hrf))
            have hg5p : g5 ≠ pt := by omega
            have hca2 : (wr.setCell ⟨pt, 0, none⟩ (.pointer none)).cell? ⟨g5, 0, none⟩ = some (.pointer (some ⟨pa, 0, none⟩)) := (cell_set_far wr _ _ _ hg5p).trans hca
            clear ho5 hk5 hra hpl hptr hR5 hNa hrR hrf hbx
            go_wp2_with fail
            refine wp_loop_rounds 1 ?_
            rw [rounds_succ]
            go_wp2_with fail
            go_ret2
            exact ⟨_, S5, rfl, HFIN.out _ (some pa) (HTZ.out (wr.setCell ⟨pt, 0, none⟩ (.pointer none)) (.pointer (some ⟨pa, 0, none⟩)) (HTX.out _)) (HCZ.out (wr.setCell ⟨pt, 0, none⟩ (.pointer none)) (.pointer (some ⟨pa, 0, none⟩)) _ _ (HCELL.out _)) (.inr ⟨0, pa, a, rfl, HNA.out.1, HNA.out.2.1, HNA.out.2.2⟩)⟩
        | succ m =>
          obtain ⟨a, hra, hrf, ha6, haK, hcase⟩ := root_delS HR.out HRISE.out HG.out
          rw [hra] at hk5 hpl
          obtain ⟨pa, rfl⟩ := List.length_eq_one_iff.1 (show ps5.length = 1 from hpl)
          obtain ⟨g5, cap5, rfl, hbg5, hgs5, hle5, hR5⟩ := ho5.someE (by show 0 < 1; omega)
          have hca : wr.cell? ⟨g5, 0, none⟩ = some (.pointer (some ⟨pa, 0, none⟩)) := by
            obtain ⟨b', o', he, hc⟩ := (hR5.row encP_len).ptr 0 pa rfl
            cases he
            exact hc
          have hNa := hk5.2 0 pa a rfl rfl
          obtain ⟨ka, kc, va', vn', vc', ca', cn', cc', hbx, -⟩ := hNa.box
          have hpaS : S5 pa := hbx.self
          have hpap : pa ≠ pt := fun h => hpS5 (h ▸ hpaS)
          have hfl : ((wr.setCell ⟨pt, 0, none⟩ (.pointer none)).setCell ⟨pt, 0, none⟩ (.pointer (some ⟨pa, 0, none⟩))).cell? ⟨pa, 0, none⟩ = some (.bool false) := (HFAR.out _ pa 0 (HTZ.out (wr.setCell ⟨pt, 0, none⟩ (.pointer none)) (.pointer (some ⟨pa, 0, none⟩)) (HTX.out _)) hpap).trans hbx.reads.1
          have hc1 : ((wr.setCell ⟨pt, 0, none⟩ (.pointer none)).setCell ⟨pt, 0, none⟩ (.pointer (some ⟨pa, 0, none⟩))).cell? ⟨pt, 0, none⟩ = some (.pointer (some ⟨pa, 0, none⟩)) := cell_of_row _ pt 0 _ _ _ (HCZ.out (wr.setCell ⟨pt, 0, none⟩ (.pointer none)) (.pointer (some ⟨pa, 0, none⟩)) _ _ (HCELL.out _))
          have hg5p : g5 ≠ pt := by omega
          have hca2 : (wr.setCell ⟨pt, 0, none⟩ (.pointer none)).cell? ⟨g5, 0, none⟩ = some (.pointer (some ⟨pa, 0, none⟩)) := (cell_set_far wr _ _ _ hg5p).trans hca
          have hsm : ∀ W, Turn pt wr W → Same S5 wr W := fun W hW j hj => hW.block j (fun h => by rw [h] at hj; exact hpS5 hj)
          have HLA := Lib.hid (len_any (hNa.same (hsm ((wr.setCell ⟨pt, 0, none⟩ (.pointer none)).setCell ⟨pt, 0, none⟩ (.pointer (some ⟨pa, 0, none⟩))) (HTZ.out (wr.setCell ⟨pt, 0, none⟩ (.pointer none)) (.pointer (some ⟨pa, 0, none⟩)) (HTX.out _)))))
          unfold ptrV at HLA
          rcases hcase with h2 | ⟨c, hac, hcF⟩
          · have hl1 : ¬ ((lenT a : Int) = 1) := by omega
            have HNA := Lib.hid (And.intro hNa (And.intro (show RootT a from ⟨by omega, ha6, haK, .inr h2⟩) hrf))
            clear ho5 hk5 hra hpl hptr hR5 hNa hrf hbx ha6 haK h2 hsm
            generalize lenT a = la at *
            go_wp2_with fail
            refine wp_loop_rounds 1 ?_
            rw [rounds_succ]
            go_wp2_with fail
            refine HLA.out.mono ?_
            rintro r w9 ⟨rfl, rfl⟩
            go_wp2_with fail
            go_ret2
            exact ⟨_, S5, rfl, HFIN.out _ (some pa) (HTZ.out (wr.setCell ⟨pt, 0, none⟩ (.pointer none)) (.pointer (some ⟨pa, 0, none⟩)) (HTX.out _)) (HCZ.out (wr.setCell ⟨pt, 0, none⟩ (.pointer none)) (.pointer (some ⟨pa, 0, none⟩)) _ _ (HCELL.out _)) (.inr ⟨m + 1, pa, a, rfl, HNA.out.1, HNA.out.2.1, HNA.out.2.2⟩)⟩
          · have hla : lenT a = 1 := by show (kidsT a).length = 1; rw [hac]; rfl
            obtain ⟨cb, co, cc, qs, yk, -, hrow, hkw, -, hScb, -⟩ := hNa.inner (by omega)
            rw [hac] at hkw
            rw [hla] at yk hrow HLA
            obtain ⟨pc, rfl⟩ := List.length_eq_one_iff.1 (show qs.length = 1 from hkw.1)
            obtain ⟨b', o', he', hc'⟩ := hrow.ptr 0 pc rfl
            cases he'
            unfold ptrV at hc'
            have hNc := hkw.2 0 pc c rfl rfl
            obtain ⟨kaC, kcC, vaC, vnC, vcC, caC, cnC, ccC, hbxC, -⟩ := hNc.box
            have hpcS : S5 pc := hbxC.self
            have hpcp : pc ≠ pt := fun h => hpS5 (h ▸ hpcS)
            have hcbp : cb ≠ pt := fun h => hpS5 (h ▸ hScb)
            have hy1 : ((wr.setCell ⟨pt, 0, none⟩ (.pointer none)).setCell ⟨pt, 0, none⟩ (.pointer (some ⟨pa, 0, none⟩))).cell? ⟨pa, 3, none⟩ = some (.slice (some ⟨cb, co, none⟩) 1 cc) := (HFAR.out _ pa 3 (HTZ.out (wr.setCell ⟨pt, 0, none⟩ (.pointer none)) (.pointer (some ⟨pa, 0, none⟩)) (HTX.out _)) hpap).trans yk
            have hy2 : ((wr.setCell ⟨pt, 0, none⟩ (.pointer none)).setCell ⟨pt, 0, none⟩ (.pointer (some ⟨pa, 0, none⟩))).cell? ⟨cb, co, none⟩ = some (.pointer (some ⟨pc, 0, none⟩)) := (HFAR.out _ cb co (HTZ.out (wr.setCell ⟨pt, 0, none⟩ (.pointer none)) (.pointer (some ⟨pa, 0, none⟩)) (HTX.out _)) hcbp).trans hc'
            have hfl2 : (((wr.setCell ⟨pt, 0, none⟩ (.pointer none)).setCell ⟨pt, 0, none⟩ (.pointer (some ⟨pa, 0, none⟩))).setCell ⟨pt, 0, none⟩ (.pointer (some ⟨pc, 0, none⟩))).cell? ⟨pc, 0, none⟩ = some (.bool (m == 0)) := (HFAR.out _ pc 0 (HTZ.out ((wr.setCell ⟨pt, 0, none⟩ (.pointer none)).setCell ⟨pt, 0, none⟩ (.pointer (some ⟨pa, 0, none⟩))) (.pointer (some ⟨pc, 0, none⟩)) (HTZ.out (wr.setCell ⟨pt, 0, none⟩ (.pointer none)) (.pointer (some ⟨pa, 0, none⟩)) (HTX.out _))) hpcp).trans hbxC.reads.1
            have hc2 : (((wr.setCell ⟨pt, 0, none⟩ (.pointer none)).setCell ⟨pt, 0, none⟩ (.pointer (some ⟨pa, 0, none⟩))).setCell ⟨pt, 0, none⟩ (.pointer (some ⟨pc, 0, none⟩))).cell? ⟨pt, 0, none⟩ = some (.pointer (some ⟨pc, 0, none⟩)) := cell_of_row _ pt 0 _ _ _ (HCZ.out ((wr.setCell ⟨pt, 0, none⟩ (.pointer none)).setCell ⟨pt, 0, none⟩ (.pointer (some ⟨pa, 0, none⟩))) (.pointer (some ⟨pc, 0, none⟩)) _ _ (HCZ.out (wr.setCell ⟨pt, 0, none⟩ (.pointer none)) (.pointer (some ⟨pa, 0, none⟩)) _ _ (HCELL.out _)))
            have HLC := Lib.hid (len_any (hNc.same (hsm (((wr.setCell ⟨pt, 0, none⟩ (.pointer none)).setCell ⟨pt, 0, none⟩ (.pointer (some ⟨pa, 0, none⟩))).setCell ⟨pt, 0, none⟩ (.pointer (some ⟨pc, 0, none⟩))) (HTZ.out ((wr.setCell ⟨pt, 0, none⟩ (.pointer none)).setCell ⟨pt, 0, none⟩ (.pointer (some ⟨pa, 0, none⟩))) (.pointer (some ⟨pc, 0, none⟩)) (HTZ.out (wr.setCell ⟨pt, 0, none⟩ (.pointer none)) (.pointer (some ⟨pa, 0, none⟩)) (HTX.out _))))))
            unfold ptrV at HLC
            have hlc3 := hcF.lo
            have hl1 : ¬ ((lenT c : Int) = 1) := by omega
            have hfc : flatT a = flatT c := by show (kidsT a).flatMap flatT = _; rw [hac]; simp
            rw [hfc] at hrf
            have HNC := Lib.hid (And.intro hNc (And.intro (show RootT c from ⟨by omega, hcF.hi, hcF.kids, .inr (by omega)⟩) hrf))
            have hptf2 : ∀ i, ((wr.setCell ⟨pt, 0, none⟩ (.pointer none)).setCell ⟨pt, 0, none⟩ (.pointer (some ⟨pa, 0, none⟩))).frozen? ⟨pt, i, none⟩ = false := fun i => by
              have h := (HCZ.out (wr.setCell ⟨pt, 0, none⟩ (.pointer none)) (.pointer (some ⟨pa, 0, none⟩)) _ _ (HCELL.out _))
              simp [World.frozen?, h]
            clear ho5 hk5 hra hpl hptr hR5 hNa hrf hbx ha6 haK hsm hla hac hrow hkw hNc hbxC hcF hfc hlc3 hpaS hpcS
            generalize lenT c = lc at *
            go_wp2_with fail
            refine wp_loop_rounds 2 ?_
            rw [rounds_succ]
            go_wp2_with fail
            refine HLA.out.mono ?_
            rintro r w9 ⟨rfl, rfl⟩
            go_wp2_with fail
            cases m with
            | zero =>
              have hfl3 : (((wr.setCell ⟨pt, 0, none⟩ (.pointer none)).setCell ⟨pt, 0, none⟩ (.pointer (some ⟨pa, 0, none⟩))).setCell ⟨pt, 0, none⟩ (.pointer (some ⟨pc, 0, none⟩))).cell? ⟨pc, 0, none⟩ = some (.bool true) := hfl2
              clear hfl2
              rw [rounds_succ]
              go_wp2_with fail
              go_ret2
              exact ⟨_, S5, rfl, HFIN.out _ (some pc) (HTZ.out ((wr.setCell ⟨pt, 0, none⟩ (.pointer none)).setCell ⟨pt, 0, none⟩ (.pointer (some ⟨pa, 0, none⟩))) (.pointer (some ⟨pc, 0, none⟩)) (HTZ.out (wr.setCell ⟨pt, 0, none⟩ (.pointer none)) (.pointer (some ⟨pa, 0, none⟩)) (HTX.out _))) (HCZ.out ((wr.setCell ⟨pt, 0, none⟩ (.pointer none)).setCell ⟨pt, 0, none⟩ (.pointer (some ⟨pa, 0, none⟩))) (.pointer (some ⟨pc, 0, none⟩)) _ _ (HCZ.out (wr.setCell ⟨pt, 0, none⟩ (.pointer none)) (.pointer (some ⟨pa, 0, none⟩)) _ _ (HCELL.out _))) (.inr ⟨0, pc, c, rfl, HNC.out.1, HNC.out.2.1, HNC.out.2.2⟩)⟩
            | succ m =>
              have hfl3 : (((wr.setCell ⟨pt, 0, none⟩ (.pointer none)).setCell ⟨pt, 0, none⟩ (.pointer (some ⟨pa, 0, none⟩))).setCell ⟨pt, 0, none⟩ (.pointer (some ⟨pc, 0, none⟩))).cell? ⟨pc, 0, none⟩ = some (.bool false) := hfl2
              clear hfl2
              rw [rounds_succ]
              go_wp2_with fail
              refine HLC.out.mono ?_
              rintro r w9 ⟨rfl, rfl⟩
              go_wp2_with fail
              go_ret2
              exact ⟨_, S5, rfl, HFIN.out _ (some pc) (HTZ.out ((wr.setCell ⟨pt, 0, none⟩ (.pointer none)).setCell ⟨pt, 0, none⟩ (.pointer (some ⟨pa, 0, none⟩))) (.pointer (some ⟨pc, 0, none⟩)) (HTZ.out (wr.setCell ⟨pt, 0, none⟩ (.pointer none)) (.pointer (some ⟨pa, 0, none⟩)) (HTX.out _))) (HCZ.out ((wr.setCell ⟨pt, 0, none⟩ (.pointer none)).setCell ⟨pt, 0, none⟩ (.pointer (some ⟨pa, 0, none⟩))) (.pointer (some ⟨pc, 0, none⟩)) _ _ (HCZ.out (wr.setCell ⟨pt, 0, none⟩ (.pointer none)) (.pointer (some ⟨pa, 0, none⟩)) _ _ (HCELL.out _))) (.inr ⟨m + 1, pc, c, rfl, HNC.out.1, HNC.out.2.1, HNC.out.2.2⟩)⟩
      · obtain rfl : u13 = .bool true := by rw [hok, decide_eq_false (by simp)]; rfl
        have hql5 := hss.ql
        obtain ⟨u, hu, hNu, hi5, hks⟩ := hup5.last rfl
        obtain ⟨gu1, gu2, gu3, gu4, -⟩ := hu.good HR.out.lo HR.out.hi HR.out.kids HRISE.out
        have hFs := hup5.full HR.out HRISE.out (by simp)
        obtain ⟨-, -, -, gs4, -⟩ := hup5.good HR.out.lo HR.out.hi HR.out.kids HRISE.out
        have hgs : (getE (flatT s) k).isSome = true := by rw [← hup5.get HR.out.lo HR.out.hi HR.out.kids HRISE.out]; exact HG.out
        have hsetu := delT_up k (show (kidsT u)[kidAt (keysT u) k]? = some s by rw [← hi5]; exact hks)
        rw [← hi5] at hsetu
        obtain ⟨a, hda, hA, hAl, hJ0, hJl, hJ6⟩ := del_round gu3 gu2 (hu.two HR.out HRISE.out) hks hFs gs4 hgs
        rw [hda] at hsetu
        rw [hda] at hk5
        have hSr : ∀ j, S j → j < wr.heap.size := fun j hj => Nat.lt_of_lt_of_le (hS j hj) (Nat.le_trans hsz3 hbr.size)
        have hNr := hNu.same (Same.of_below hbr hS)
        obtain ⟨cb, co, cc, qs, yk, -, hrow, hkw, hSp5, -, -⟩ := hNr.inner gu1
        have hqs : qs.length = lenT u := hrow.1
        have hil : i5 < lenT u := (List.getElem?_eq_some_iff.1 hks).1
        have hpl : ps5.length = 1 := hk5.1
        obtain ⟨g5, cap5, rfl, hbg5, hgs5, hle5, hR5⟩ := ho5.someE (by omega)
        obtain ⟨cur5, hc5, hcz5, -⟩ := hR5.ex
        have HC := Lib.hid (cloneP_any (c := cc) (w := wr.drew) hrow (by omega))
        obtain ⟨x50, x51⟩ : wr.cell? ⟨xb, 0, none⟩ = some (.pointer (some ⟨p5, 0, none⟩)) ∧ wr.cell? ⟨xb, 1, none⟩ = some (.int .i64 (i5 : Int)) := ⟨cell_of_row wr xb 0 _ _ _ hx5, cell_of_row wr xb 1 _ _ _ hx5⟩
        have hxl : xb < wr.heap.size := (Array.getElem?_eq_some_iff.1 hx5).1
        have hp5l : p5 < wr.heap.size := hSr p5 hSp5
        have hS0 : wr.drew.cell? ⟨xb, 0, none⟩ = some (.pointer (some ⟨p5, 0, none⟩)) ∧ wr.drew.cell? ⟨xb, 1, none⟩ = some (.int .i64 (i5 : Int)) ∧ wr.drew.cell? ⟨p5, 3, none⟩ = some (.slice (some ⟨cb, co, none⟩) (lenT u) cc) := ⟨x50, x51, yk⟩
        have hS5 : ∀ W, Below wr.heap.size wr W → W.cell? ⟨xb, 0, none⟩ = some (.pointer (some ⟨p5, 0, none⟩)) ∧ W.cell? ⟨xb, 1, none⟩ = some (.int .i64 (i5 : Int)) ∧ W.cell? ⟨p5, 3, none⟩ = some (.slice (some ⟨cb, co, none⟩) (lenT u) cc) := fun W hW => ⟨(hW.cell (p := ⟨xb, 0, none⟩) hxl).trans x50, (hW.cell (p := ⟨xb, 1, none⟩) hxl).trans x51, (hW.cell (p := ⟨p5, 3, none⟩) hp5l).trans yk⟩
        have HS5 := Lib.hid hS5
        have HKW := Lib.hid hkw
        have HK5 := Lib.hid hk5
        have HE5 := Lib.hid he5
        have HU := Lib.hid hu
        have HSU := Lib.hid hsetu
        have HA := Lib.hid hA
        have HAL := Lib.hid hAl
        have HJ0 := Lib.hid hJ0
        have HJL := Lib.hid hJl
        have HJ6 := Lib.hid hJ6
        have hlu6 : lenT u ≤ 6 := gu2
        have HBR := Lib.hid hbr
        have HST5 := Lib.hid hst5
        have HR5 := Lib.hid hR5
        have HC5 := Lib.hid hc5
        have hm32 := hst5.reads.1
        have hi1 : IntKind.i64.wrap ((i5 : Int) + 1) = ((i5 + 1 : Nat) : Int) := by rw [IntWalk.i64_in _ (by omega)]; omega
        have hb1 : qs.length ≤ 20 := by omega
        have hb2 : i5 + 1 ≤ qs.length := by omega
        have hb3 : 0 < ps5.length := by omega
        have hb4 : ps5.length ≤ 1 := by omega
        have hb5 : cur5.size ≠ 0 := by rw [hcz5]; omega
        have hb6 : w.heap.size ≤ wr.heap.size := Nat.le_trans hsz3 hbr.size
        clear hup5 ho5 hk5 he5 hx5 hu hNu hks hsetu hNr hrow hkw hqs hpl hR5 hc5 hcz5 hS5 hi5 hbr hst5 gu1 gu2 gu3 gu4 gs4 yk hFs hgs hda hA hAl hJ0 hJl hJ6 x50 x51 hle5 hss
        generalize lenT u = lu at *
        clear hok
        go_wp2_with fail
        go_region_held_law (fun W' => W'.cell? ⟨xb, 0, none⟩ = some (.pointer (some ⟨p5, 0, none⟩)) ∧ W'.cell? ⟨xb, 1, none⟩ = some (.int .i64 (i5 : Int)) ∧ W'.cell? ⟨p5, 3, none⟩ = some (.slice (some ⟨cb, co, none⟩) lu cc))
          (first | exact hS0 | exact HS5.out _ (by first | with_reducible exact hbe | with_reducible exact hbd | with_reducible exact hbc))
          (first
            | (go_at_call 72
               refine HC.out.mono ?_
               rintro r wq ⟨vq, rfl, hvq, hbq⟩
               have hbc : Below wr.heap.size wr wq := ⟨hbq.os, hbq.tape, hbq.output, hbq.size, hbq.block⟩
               have hrq : wr.heap.size ≤ wq.heap.size := hbc.size
               have HRP := Lib.hid (replace_any (c2 := cap5) hvq i5 (i5 + 1) (by omega) (by omega) (by omega) ((HR5.out.heap (hbc.block g5 hgs5)).row encP_len) (by omega) (by omega) (by omega) ((hbc.block g5 hgs5).trans HC5.out) hb5 (fun h => by have := (hvq.lt _ h).1; have h2 : wr.drew.heap.size = wr.heap.size := rfl; omega) (by show wr.heap.size ≤ _; omega))
               have HVQ := Lib.hid hvq.lt
               have HBC := Lib.hid hbc
               clear hvq hbq)
            | (go_at_call 71
               refine HRP.out.mono ?_
               rintro r wp ⟨vp, rfl, hvp, hgp⟩
               have hbd : Below wr.heap.size wr wp := HBC.out.grown hgp HBC.out.size (fun j hj => (HVQ.out j hj).1)
               have hlp : (qs.take i5 ++ (ps5 ++ qs.drop (i5 + 1))).length ≤ 100 ∧ 0 < (qs.take i5 ++ (ps5 ++ qs.drop (i5 + 1))).length := by
                 rw [List.length_append, List.length_append, List.length_take, List.length_drop]; omega
               obtain ⟨gp, capp, rfl, hbgp, hgsp, hlep, hRp⟩ := hvp.someE hlp.2
               have hk1 : KidsW wp S5 (qs.take i5 ++ (ps5 ++ qs.drop (i5 + 1))) ((kidsT u).take i5 ++ ([a] ++ (kidsT u).drop (i5 + 1))) := by
                 have hsm : Same S5 wr wp := fun j hj => hbd.block j (HE5.out.lt j hj)
                 have hk0 := (HKW.out.more HE5.out.sub).same hsm
                 exact (hk0.take i5).app ((HK5.out.same hsm).app (hk0.drop (i5 + 1)))
               have HJN := Lib.hid (joined_any hvp hk1 i5 (by rw [HAL.out]; exact hil) (by rw [HAL.out]; omega) (fun gg hgg hSg => by have := HE5.out.lt gg hSg; have := (hvp.lt gg hgg).1; have h2 : wr.drew.heap.size = wr.heap.size := rfl; omega) (fun j hj => Nat.lt_of_lt_of_le (HE5.out.lt j hj) hbd.size) hbd.size HA.out)
               have HBD := Lib.hid hbd
               have HVPL := Lib.hid hvp.lt
               have hkx := HS5.out wp hbd
               generalize (qs.take i5 ++ (ps5 ++ qs.drop (i5 + 1))).length = lp at *
               clear hvp hgp hlp hlep hRp hk1))
        all_goals
          obtain ⟨kx0, kx1, -⟩ := hkx
          go_wp2_with fail
          refine HJN.out.mono ?_
          rintro r wj ⟨vj, pj, S6, rfl, hvj, hkj, hgj, hej⟩
          have hbj : Below wr.heap.size wr wj := HBD.out.grown hgj HBD.out.size (fun j hj => (HVPL.out j hj).1)
          have hpjl : 0 < pj.length := by rw [hkj.1]; exact HJL.out
          have hpj6 : pj.length ≤ 6 := by rw [hkj.1]; exact HJ6.out
          obtain ⟨gj, capj, rfl, hbgj, hgsj, hlej, hRj⟩ := hvj.someE hpjl
          have HI := Lib.hid (inners_any (c := capj) (hRj.row encP_len) hlej (by omega) hpjl hkj HJ0.out hej.lt)
          have HBJ := Lib.hid hbj
          have HEJ := Lib.hid (HE5.out.trans hej (by have := HBD.out.size; omega))
          have hqS6 : ¬ S6 q := fun h => (hej.new q h).elim hqS5 (fun h2 => by have := HBD.out.size; omega)
          clear hvj hkj hgj hej hbj hlej hRj hpjl hpj6
          generalize pj.length = lj at *
          go_wp2_with fail
          refine HI.out.mono ?_
          rintro r wo ⟨vo, po, rfl, hvo, hko, hbo⟩
          have hbe : Below wr.heap.size wr wo := HBJ.out.trans (hbo.mono HBJ.out.size)
          obtain ⟨k0, k1, -⟩ := HS5.out wo hbe
          have hop := hbo.size
          have hdp := HBJ.out.size
          have hqo : q < wo.heap.size := by omega
          have hsx := World.alloc_size wo (.cells #[.pointer (some ⟨p5, 0, none⟩), .int .i64 (i5 : Int)] 129)
          have HPO := Lib.hid (pop_any ((HST5.out.heap (hbe.block q hql5)).heap (Below.heap_alloc wo (.cells #[.pointer (some ⟨p5, 0, none⟩), .int .i64 (i5 : Int)] 129) q hqo)))
          have hx7 : (wo.alloc (.cells #[.pointer (some ⟨p5, 0, none⟩), .int .i64 (i5 : Int)] 129)).heap[wo.heap.size]? = some (.cells #[.pointer (some ⟨p5, 0, none⟩), .int .i64 (i5 : Int)] 129 (0, 0)) := heap_alloc_new wo _
          have HX7 := Lib.hid hx7
          have HBE := Lib.hid hbe
          have HVO := Lib.hid hvo
          have HKO := Lib.hid hko
          have HBO := Lib.hid hbo
          have HSX := Lib.hid hsx
          unfold ptrV at HPO
          clear hx7 hbe hvo hko hbo hsx hbc hbd HC HRP HI HJN kx0 kx1
          go_wp2_with fail
          refine HPO.out.mono ?_
          rintro r w6 ⟨op6, iv6, rfl, hg6, hpop6⟩
          have hg6' : wo.grownBy w6 (some q) := ⟨hg6.os, hg6.tape, hg6.output, by have := hg6.size; have := HSX.out; omega, fun j hj hne => (hg6.block j (by have := HSX.out; omega) hne).trans (Below.heap_alloc _ _ _ hj)⟩
          have hx8 : w6.heap[wo.heap.size]? = some (.cells #[.pointer (some ⟨p5, 0, none⟩), .int .i64 (i5 : Int)] 129 (0, 0)) := (hg6.block _ (by have := HSX.out; omega) (fun h => by have := Option.some.inj h; omega)).trans HX7.out
          have k60 := cell_of_row w6 _ 0 _ _ _ hx8
          have k61 := cell_of_row w6 _ 1 _ _ _ hx8
          simp at k60 k61
          have k6f : ∀ i, w6.frozen? ⟨wo.heap.size, i, none⟩ = false := fun i => by simp [World.frozen?, hx8]
          have hT := turn_two w6 wo.heap.size (.pointer op6) (.int .i64 iv6)
          have hx9 := heap_two hx8 (.pointer op6) (.int .i64 iv6)
          have hS6 : ¬ (S6 q ∨ (wj.heap.size ≤ q ∧ q < wo.heap.size)) := fun h => h.elim hqS6 (fun h => by omega)
          have hmeas : (l = [] ∧ StackW ((w6.setCell ⟨wo.heap.size, 0, none⟩ (.pointer op6)).setCell ⟨wo.heap.size, 1, none⟩ (.int .i64 iv6)) q []) ∨ ∃ l' : List (Nat × Nat), l ≠ [] ∧ l.length = l'.length + 1 ∧ StackW ((w6.setCell ⟨wo.heap.size, 0, none⟩ (.pointer op6)).setCell ⟨wo.heap.size, 1, none⟩ (.int .i64 iv6)) q l' := by
            rcases hpop6 with ⟨h1, h2⟩ | ⟨l', p', i', h1, h2, h3, h4⟩
            · exact .inl ⟨h1, h2.heap (hT.block q (by omega))⟩
            · exact .inr ⟨l', by rw [h1]; simp, by rw [h1]; simp, h4.heap (hT.block q (by omega))⟩
          have hlaid : SetS wc S w.heap.size k t (fun {m} (s : Tr m) => delT s k) q wo.heap.size vo (.bool (!decide (l = []))) l ((w6.setCell ⟨wo.heap.size, 0, none⟩ (.pointer op6)).setCell ⟨wo.heap.size, 1, none⟩ (.int .i64 iv6)) := by
            refine SetS.laid (W := wo) HU.out (HVO.out.base (by omega)) (S := fun j => S6 j ∨ (wj.heap.size ≤ j ∧ j < wo.heap.size)) (by rw [HSU.out]; exact HKO.out) ?_ hS6 ?_ ?_ hx9 ?_ (HBR.out.trans (HBE.out.mono hb6)) hqn (by omega) hqo (Nat.le_refl _)
            · exact ⟨fun j h => .inl (HEJ.out.sub j h), fun j hj => hj.elim (HEJ.out.new j) (fun h => .inr (by omega)), fun j hj => hj.elim (fun h => by have := HEJ.out.lt j h; omega) (fun h => h.2)⟩
            · intro h
              have := (HVO.out.lt q h).1
              omega
            · exact ⟨hT.os.trans hg6'.os, hT.tape.trans hg6'.tape, hT.output.trans hg6'.output, by rw [hT.size]; exact hg6'.size, fun j hj hne => (hT.block j (by omega)).trans (hg6'.block j hj hne)⟩
            · rcases hpop6 with ⟨h, -⟩ | ⟨l', p', i', h1, h2, h3, h4⟩
              · exact .inl h
              · exact .inr ⟨l', p', i', h1, h2, h3, h4.heap (hT.block q (by omega))⟩
          have HLD := Lib.hid hlaid
          have HME := Lib.hid hmeas
          clear hlaid hmeas hpop6 hg6 hg6' hx8 hx9 hT HPO hS6
          go_wp2_with fail
          go_roundw
          case rel => exact ⟨wo.heap.size, l, rfl, HLD.out⟩
          case measure =>
            rw [hm32]
            rcases HME.out with ⟨h1, h2⟩ | ⟨l', h1, h2, h3⟩
            · rw [h2.reads.1, h1]; simp [intOf]
            · rw [h3.reads.1, decide_eq_false h1, h2]; simp [intOf]
  · have hmd : decide (k ∈ keysT lt) = false := decide_eq_false hm
    have hd : delE (flatT t) k = flatT t := delE_none HRISE.out (by
      have := HHAD.out.trans hmd
      rw [get_mem] at this
      exact of_decide_eq_false this)
    rw [hmd] at HWI
    have HD := Lib.hid hd
    clear hm hmd hd HNN HHAD
    go_wp2_with fail
    refine HWI.out.mono ?_
    rintro r w2 ⟨v2, x2, rfl, hv2, hb2⟩
    have HB := Lib.hid (HB01.out.trans (hb2.mono hs01))
    clear hv2 hb2
    go_wp2_with fail
    go_ret2
    have hb := HB.out
    refine ⟨_, S, rfl, ?_, (Ext.refl hS).later hb.size, ⟨hb.os, hb.tape, hb.output, hb.size, fun j hj _ => hb.block j hj⟩⟩
    rw [HD.out]
    exact ⟨HRISE.out, fun j hj => Nat.lt_of_lt_of_le (hS j hj) hb.size, hpS, .inr ⟨d, p, t, (hb.block pt hptl).trans HAT.out, HT.out.same (Same.of_below hb hS), HR.out, rfl⟩⟩

theorem del_any {S : Nat → Prop} {w : World} {pt : Nat} {l : List En} (h : TreeW w S pt l) (hl : l.length ≤ 2000) (k : Nat) :
    Calls Tryz.prog 56 #[ptrV pt, keyV k] w fun r w' => ∃ v S', r = .returned v ∧ TreeW w' S' pt (delE l k) ∧ Ext S w.heap.size S' w' ∧ w.grownBy w' (some pt) := by
  rcases h.has with ⟨rfl, h2⟩ | ⟨d, p, t, h1, h2, h3, rfl⟩
  · exact del_empty h h2 k
  · exact del_some h.apart h1 h2 h3 h.rise h.lt hl k
end Go.Proofs.YtejhbaeeaejcaaaGreat
/- The walks of history.New, Put, Share, cut at a history in memory. Conditions: those of each theorem. -/
namespace Go.Proofs.YtejhbaeeaejcaaaGreat
open Go.RowKit

/-- A history in memory: its versions, what is free, how often each other block is held; E: its blocks of memory. -/
structure HistW (w : World) (ph pt pa : Nat) (l : List En) (F : List Nat) (L : List Uc) (n : Nat) (E : Nat → Prop) : Prop where
  has : ∃ (S D : Nat → Prop), w.heap[ph]? = some (.cells #[ptrV pt, ptrV pa] 50 (0, 0)) ∧ TreeW w S pt l ∧ AllocW w pa F L n D ∧ (∀ j, E j ↔ j = ph ∨ j = pt ∨ S j ∨ D j) ∧ ¬ S ph ∧ ¬ D ph ∧ ph ≠ pt ∧ ¬ D pt ∧ ∀ j, S j → ¬ D j
theorem HistW.kept {w w' : World} {ph pt pa : Nat} {l : List En} {F : List Nat} {L : List Uc} {n : Nat} {E : Nat → Prop} (h : HistW w ph pt pa l F L n E) (hk : Kept E w w') : HistW w' ph pt pa l F L n E := by
  obtain ⟨S, D, h1, h2, h3, h4, h5⟩ := h.has
  exact ⟨S, D, (hk.block _ ((h4 _).2 (.inl rfl))).trans h1, h2.same (fun j hj => hk.block _ ((h4 _).2 (.inr (.inr (.inl hj))))) (hk.block _ ((h4 _).2 (.inr (.inl rfl)))) hk.size, h3.kept (hk.less fun j hj => (h4 j).2 (.inr (.inr (.inr hj)))), h4, h5⟩
theorem HistW.lt {w : World} {ph pt pa : Nat} {l : List En} {F : List Nat} {L : List Uc} {n : Nat} {E : Nat → Prop} (h : HistW w ph pt pa l F L n E) : ∀ j, E j → j < w.heap.size := by
  obtain ⟨S, D, h1, h2, h3, h4, h5⟩ := h.has
  intro j hj
  rcases (h4 j).1 hj with rfl | rfl | hj | hj
  · exact (Array.getElem?_eq_some_iff.1 h1).1
  · exact h2.ptlt
  · exact h2.lt j hj
  · exact h3.lt j hj
theorem HistW.below {w w' : World} {ph pt pa : Nat} {l : List En} {F : List Nat} {L : List Uc} {n : Nat} {E : Nat → Prop} (h : HistW w ph pt pa l F L n E) (hb : Below w.heap.size w w') : HistW w' ph pt pa l F L n E := h.kept (Kept.of_below hb h.lt)
theorem HistW.rise {w : World} {ph pt pa : Nat} {l : List En} {F : List Nat} {L : List Uc} {n : Nat} {E : Nat → Prop} (h : HistW w ph pt pa l F L n E) : Rise l := by
  obtain ⟨S, D, h1, h2, h3, h4, h5⟩ := h.has
  exact h2.rise
theorem HistW.reads {w : World} {ph pt pa : Nat} {l : List En} {F : List Nat} {L : List Uc} {n : Nat} {E : Nat → Prop} (h : HistW w ph pt pa l F L n E) : w.cell? ⟨ph, 0, none⟩ = some (ptrV pt) ∧ w.cell? ⟨ph, 1, none⟩ = some (ptrV pa) := by
  obtain ⟨S, D, h1, -⟩ := h.has
  exact ⟨cell_of_row w ph 0 _ _ _ h1, cell_of_row w ph 1 _ _ _ h1⟩
theorem HistW.hlt {w : World} {ph pt pa : Nat} {l : List En} {F : List Nat} {L : List Uc} {n : Nat} {E : Nat → Prop} (h : HistW w ph pt pa l F L n E) : ph < w.heap.size := by
  obtain ⟨S, D, h1, -⟩ := h.has
  exact (Array.getElem?_eq_some_iff.1 h1).1
/-- What a call leaves of it. -/
def HT (ph pt pa n : Nat) (E : Nat → Prop) (w : World) (l : List En) (F : List Nat) (L : List Uc) (w' : World) : Prop := ∃ E', HistW w' ph pt pa l F L n E' ∧ Grew E w E' w' ∧ Outs E w w'
theorem HT.pre {ph pt pa n : Nat} {E : Nat → Prop} {w w1 w' : World} {l : List En} {F : List Nat} {L : List Uc} (h : HT ph pt pa n E w1 l F L w') (hb : Below w.heap.size w w1) (hE : ∀ j, E j → j < w.heap.size) : HT ph pt pa n E w l F L w' := by
  obtain ⟨E', h1, h2, h3⟩ := h
  exact ⟨E', h1, (Grew.refl hE hb.size).trans h2 hb.size, (Outs.of_below hb).trans h3 fun j hj => .inl hj⟩
theorem HT.trans {ph pt pa n : Nat} {E E1 : Nat → Prop} {w w1 w' : World} {l : List En} {F : List Nat} {L : List Uc} (hg : Grew E w E1 w1) (ho : Outs E w w1) (h : HT ph pt pa n E1 w1 l F L w') : HT ph pt pa n E w l F L w' := by
  obtain ⟨E', h1, h2, h3⟩ := h
  exact ⟨E', h1, hg.trans h2 ho.size, ho.trans h3 hg.new⟩
theorem HT.post {ph pt pa n : Nat} {E : Nat → Prop} {w w1 w' : World} {l : List En} {F : List Nat} {L : List Uc} (h : HT ph pt pa n E w l F L w1) (hb : Below w1.heap.size w1 w') : HT ph pt pa n E w l F L w' := by
  obtain ⟨E', h1, h2, h3⟩ := h
  exact ⟨E', h1.below hb, ⟨h2.new, fun j hj => Nat.lt_of_lt_of_le (h2.lt j hj) hb.size⟩, h3.trans (Outs.of_below (D := E) hb) fun j hj => .inl hj⟩
theorem HT.refl {ph pt pa n : Nat} {E : Nat → Prop} {w : World} {l : List En} {F : List Nat} {L : List Uc} (h : HistW w ph pt pa l F L n E) : HT ph pt pa n E w l F L w := ⟨E, h, Grew.refl h.lt (Nat.le_refl _), Outs.refl _ _⟩
/-- Behind a change of the tree; behind one of the alloc. -/
theorem HistW.treed {w w' : World} {ph pt pa : Nat} {l l' : List En} {F : List Nat} {L : List Uc} {n : Nat} {E S S' D : Nat → Prop}
    (h1 : w.heap[ph]? = some (.cells #[ptrV pt, ptrV pa] 50 (0, 0))) (h2 : TreeW w S pt l) (h3 : AllocW w pa F L n D) (h4 : ∀ j, E j ↔ j = ph ∨ j = pt ∨ S j ∨ D j) (h5 : ¬ S ph ∧ ¬ D ph ∧ ph ≠ pt ∧ ¬ D pt ∧ ∀ j, S j → ¬ D j)
    (hT : TreeW w' S' pt l') (hx : Ext S w.heap.size S' w') (hg : w.grownBy w' (some pt)) : HT ph pt pa n E w l' F L w' := by
  obtain ⟨k1, k2, k3, k4, k5⟩ := h5
  have hphl := (Array.getElem?_eq_some_iff.1 h1).1
  have hD := h3.lt
  have hkeep : ∀ j, j < w.heap.size → j ≠ pt → w'.heap[j]? = w.heap[j]? := fun j hj hne => hg.block j hj (fun e => hne (Option.some.inj e))
  have hDpt : ∀ j, D j → j ≠ pt := fun j hj e => k4 (e ▸ hj)
  refine ⟨fun j => j = ph ∨ j = pt ∨ S' j ∨ D j, ⟨S', D, (hkeep ph hphl k3).trans h1, hT, h3.kept ⟨hg.os, hg.tape, hg.output, hg.size, fun j hj => hkeep j (hD j hj) (hDpt j hj)⟩, fun j => Iff.rfl, fun e => ?_, k2, k3, k4, fun j hj e => ?_⟩, ⟨fun j hj => ?_, fun j hj => ?_⟩, ⟨hg.os, hg.tape, hg.output, hg.size, fun j hj hn => hkeep j hj (fun e => hn ((h4 j).2 (.inr (.inl e))))⟩⟩
  · rcases hx.new _ e with h | h
    · exact k1 h
    · omega
  · rcases hx.new _ hj with h | h
    · exact k5 j h e
    · have := hD j e; omega
  · rcases hj with rfl | rfl | hj | hj
    · exact .inl ((h4 _).2 (.inl rfl))
    · exact .inl ((h4 _).2 (.inr (.inl rfl)))
    · rcases hx.new _ hj with h | h
      · exact .inl ((h4 _).2 (.inr (.inr (.inl h))))
      · exact .inr h
    · exact .inl ((h4 _).2 (.inr (.inr (.inr hj))))
  · rcases hj with rfl | rfl | hj | hj
    · exact Nat.lt_of_lt_of_le hphl hg.size
    · exact hT.ptlt
    · exact hT.lt j hj
    · exact Nat.lt_of_lt_of_le (hD j hj) hg.size
theorem HistW.alloced {w w' : World} {ph pt pa : Nat} {l : List En} {F F' : List Nat} {L L' : List Uc} {n : Nat} {E S D D' : Nat → Prop}
    (h1 : w.heap[ph]? = some (.cells #[ptrV pt, ptrV pa] 50 (0, 0))) (h2 : TreeW w S pt l) (h3 : AllocW w pa F L n D) (h4 : ∀ j, E j ↔ j = ph ∨ j = pt ∨ S j ∨ D j) (h5 : ¬ S ph ∧ ¬ D ph ∧ ph ≠ pt ∧ ¬ D pt ∧ ∀ j, S j → ¬ D j)
    (hA : AllocW w' pa F' L' n D') (hg : Grew D w D' w') (ho : Outs D w w') : HT ph pt pa n E w l F' L' w' := by
  obtain ⟨k1, k2, k3, k4, k5⟩ := h5
  have hphl := (Array.getElem?_eq_some_iff.1 h1).1
  have hptl := h2.ptlt
  have hS := h2.lt
  have hold : ∀ j, j < w.heap.size → D' j → D j := fun j hj hd => by
    rcases hg.new j hd with h | h
    · exact h
    · omega
  refine ⟨fun j => j = ph ∨ j = pt ∨ S j ∨ D' j, ⟨S, D', (ho.block ph hphl k2).trans h1, h2.same (fun j hj => ho.block j (hS j hj) (k5 j hj)) (ho.block pt hptl k4) ho.size, hA, fun j => Iff.rfl, k1, fun e => k2 (hold _ hphl e), k3, fun e => k4 (hold _ hptl e), fun j hj e => k5 j hj (hold j (hS j hj) e)⟩, ⟨fun j hj => ?_, fun j hj => ?_⟩, ho.more fun j hj => (h4 j).2 (.inr (.inr (.inr hj)))⟩
  · rcases hj with rfl | rfl | hj | hj
    · exact .inl ((h4 _).2 (.inl rfl))
    · exact .inl ((h4 _).2 (.inr (.inl rfl)))
    · exact .inl ((h4 _).2 (.inr (.inr (.inl hj))))
    · rcases hg.new _ hj with h | h
      · exact .inl ((h4 _).2 (.inr (.inr (.inr h))))
      · exact .inr h
  · rcases hj with rfl | rfl | hj | hj
    · exact Nat.lt_of_lt_of_le hphl ho.size
    · exact Nat.lt_of_lt_of_le hptl ho.size
    · exact Nat.lt_of_lt_of_le (hS j hj) ho.size
    · exact hA.lt j hj

set_option maxRecDepth 100000 in
set_option maxHeartbeats 4000000 in
theorem historyNew_any {w : World} {pa : Nat} {F : List Nat} {L : List Uc} {n : Nat} {D : Nat → Prop} (h : AllocW w pa F L n D) :
    Calls Tryz.prog 20 #[ptrV pa] w fun e w' => ∃ ph pt E, e = .returned (ptrV ph) ∧ HistW w' ph pt pa [] F L n E ∧ (∀ j, E j → D j ∨ w.heap.size ≤ j) ∧ Below w.heap.size w w' := by
  have HH := Lib.hid h
  unfold ptrV
  clear h
  go_enter Tryz.func20, Tryz.ntmps20
  go_wp2_with fail
  go_ret
  have hs1 : (w.alloc (.cells #[.pointer none, .int .i64 0] 93)).heap.size = w.heap.size + 1 := by simp
  have hx := heap_alloc_new (w.alloc (.cells #[.pointer none, .int .i64 0] 93)) (.cells #[.pointer (some ⟨w.heap.size, 0, none⟩), .pointer (some ⟨pa, 0, none⟩)] 50)
  rw [hs1] at hx
  have hb : Below w.heap.size w ((w.alloc (.cells #[.pointer none, .int .i64 0] 93)).alloc (.cells #[.pointer (some ⟨w.heap.size, 0, none⟩), .pointer (some ⟨pa, 0, none⟩)] 50)) := ((Below.refl _ _).alloc (Nat.le_refl _) _).alloc (by omega) _
  have hlt := HH.out.lt
  refine ⟨w.heap.size + 1, w.heap.size, fun j => j = w.heap.size + 1 ∨ j = w.heap.size ∨ False ∨ D j, rfl, ⟨fun _ => False, D, hx, ⟨List.Pairwise.nil, fun j hj => hj.elim, id, .inl ⟨rfl, ?_⟩⟩, HH.out.kept (Kept.of_below hb hlt), fun j => Iff.rfl, id, fun e => ?_, by omega, fun e => ?_, fun j hj => hj.elim⟩, fun j hj => ?_, hb⟩
  · unfold TreeAt
    rw [Below.heap_alloc _ _ _ (by omega)]
    exact heap_alloc_new w _
  · have := hlt _ e; omega
  · have := hlt _ e; omega
  · rcases hj with rfl | rfl | hj | hj
    · exact .inr (by omega)
    · exact .inr (by omega)
    · exact hj.elim
    · exact .inl hj

set_option maxRecDepth 100000 in
set_option maxHeartbeats 4000000 in
theorem put_any {w : World} {ph pt pa : Nat} {l : List En} {F : List Nat} {L : List Uc} {n : Nat} {E : Nat → Prop} (h : HistW w ph pt pa l F L n E) (hl : l.length ≤ 2000) (k a : Nat) :
    Calls Tryz.prog 28 #[ptrV ph, keyV k, .int .u32 (a : Int)] w fun e w' => e = .returned (.tuple #[]) ∧ HT ph pt pa n E w (setE l (k, a)) F L w' := by
  have hb0 : Below w.heap.size w (w.alloc (.cells #[.int .u16 (kVol k : Int), .int .u32 (kBlk k : Int), .int .u64 (kSeq k : Int)] 27)) := (Below.refl _ _).alloc (Nat.le_refl _) _
  have x0 : (w.alloc (.cells #[.int .u16 (kVol k : Int), .int .u32 (kBlk k : Int), .int .u64 (kSeq k : Int)] 27)).cell? ⟨w.heap.size, 0, none⟩ = some (.int .u16 (kVol k : Int)) := by simp
  have x1 : (w.alloc (.cells #[.int .u16 (kVol k : Int), .int .u32 (kBlk k : Int), .int .u64 (kSeq k : Int)] 27)).cell? ⟨w.heap.size, 1, none⟩ = some (.int .u32 (kBlk k : Int)) := by simp
  have x2 : (w.alloc (.cells #[.int .u16 (kVol k : Int), .int .u32 (kBlk k : Int), .int .u64 (kSeq k : Int)] 27)).cell? ⟨w.heap.size, 2, none⟩ = some (.int .u64 (kSeq k : Int)) := by simp
  have hE := h.lt
  have h' := h.below hb0
  obtain ⟨x3, -⟩ := h'.reads
  have h'' := h'.below (w' := (w.alloc (.cells #[.int .u16 (kVol k : Int), .int .u32 (kBlk k : Int), .int .u64 (kSeq k : Int)] 27)).drew) (Below.drewB (Below.refl _ _))
  obtain ⟨S, D, h1, h2, h3, h4, h5⟩ := h''.has
  have HS := Lib.hid (set_any h2 hl (k, a))
  have hptB : pt < w.heap.size := hE pt ((h4 pt).2 (.inr (.inl rfl)))
  have hKeep : ∀ w5 : World, (w.alloc (.cells #[.int .u16 (kVol k : Int), .int .u32 (kBlk k : Int), .int .u64 (kSeq k : Int)] 27)).drew.grownBy w5 (some pt) → w5.cell? ⟨w.heap.size, 0, none⟩ = some (.int .u16 (kVol k : Int)) ∧ w5.cell? ⟨w.heap.size, 1, none⟩ = some (.int .u32 (kBlk k : Int)) ∧ w5.cell? ⟨w.heap.size, 2, none⟩ = some (.int .u64 (kSeq k : Int)) ∧ w5.cell? ⟨ph, 0, none⟩ = some (ptrV pt) := fun w5 hg => by
    have e1 := hg.block w.heap.size (by show w.heap.size < (w.alloc _).heap.size; rw [World.alloc_size]; omega) (fun e => by have := Option.some.inj e; omega)
    have e2 := hg.block ph (Array.getElem?_eq_some_iff.1 h1).1 (fun e => h5.2.2.1 (Option.some.inj e))
    exact ⟨(World.cell?_of_block e1).trans x0, (World.cell?_of_block e1).trans x1, (World.cell?_of_block e1).trans x2, (World.cell?_of_block e2).trans x3⟩
  have HKEEP := Lib.hid hKeep
  have HFIN := Lib.hid (fun (w' : World) S' (hT : TreeW w' S' pt (setE l (k, a))) hx hg => HT.pre (HT.pre (HistW.treed h1 h2 h3 h4 h5 hT hx hg) (Below.drewB (Below.refl _ _)) h'.lt) hb0 hE)
  unfold ptrV keyV at *
  unfold entV at HS
  clear h h' h'' h1 h2 h3 h4 h5 hE hb0 hptB hKeep
  go_enter Tryz.func28, Tryz.ntmps28
  go_wp2_with fail
  generalize hw0 : (w.alloc (.cells #[.int .u16 (kVol k : Int), .int .u32 (kBlk k : Int), .int .u64 (kSeq k : Int)] 27)) = w0 at *
  generalize hB : w.heap.size = B at *
  clear hw0 hB
  have hS : w0.drew.cell? ⟨B, 0, none⟩ = some (.int .u16 (kVol k : Int)) ∧ w0.drew.cell? ⟨B, 1, none⟩ = some (.int .u32 (kBlk k : Int)) ∧ w0.drew.cell? ⟨B, 2, none⟩ = some (.int .u64 (kSeq k : Int)) ∧ w0.drew.cell? ⟨ph, 0, none⟩ = some (.pointer (some ⟨pt, 0, none⟩)) := ⟨x0, x1, x2, x3⟩
  go_region_held (fun W' => W'.cell? ⟨B, 0, none⟩ = some (.int .u16 (kVol k : Int)) ∧ W'.cell? ⟨B, 1, none⟩ = some (.int .u32 (kBlk k : Int)) ∧ W'.cell? ⟨B, 2, none⟩ = some (.int .u64 (kSeq k : Int)) ∧ W'.cell? ⟨ph, 0, none⟩ = some (.pointer (some ⟨pt, 0, none⟩))) (first | exact hS6 | exact hS)
    (first | (go_at_call 50; refine HS.out.mono ?_; rintro e w5 ⟨v, S', rfl, hT, hx, hg⟩; have hS6 := HKEEP.out w5 hg; have HR := Lib.hid (HFIN.out w5 S' hT hx hg); clear hT hx hg))
  all_goals
    go_wp2_with fail
    go_end0
    exact ⟨rfl, HR.out⟩

set_option maxRecDepth 100000 in
set_option maxHeartbeats 4000000 in
theorem share_hole {w : World} {ph pt pa : Nat} {l : List En} {F : List Nat} {L : List Uc} {n : Nat} {E : Nat → Prop} (h : HistW w ph pt pa l F L n E) (hl : l.length ≤ 2000) (k : Nat) :
    Calls Tryz.prog 29 #[ptrV ph, keyV k, .int .u32 0] w fun e w' => e = .returned (.tuple #[]) ∧ HT ph pt pa n E w (setE l (k, 0)) F L w' := by
  have hb0 : Below w.heap.size w (w.alloc (.cells #[.int .u16 (kVol k : Int), .int .u32 (kBlk k : Int), .int .u64 (kSeq k : Int)] 27)) := (Below.refl _ _).alloc (Nat.le_refl _) _
  have HP := Lib.hid (put_any (h.below hb0) hl k 0)
  have HFIN := Lib.hid (fun (w' : World) (hr : HT ph pt pa n E (w.alloc (.cells #[.int .u16 (kVol k : Int), .int .u32 (kBlk k : Int), .int .u64 (kSeq k : Int)] 27)) (setE l (k, 0)) F L w') => HT.pre hr hb0 h.lt)
  unfold ptrV keyV at *
  clear h hb0
  go_enter Tryz.func29, Tryz.ntmps29
  go_wp2_with fail
  refine HP.out.mono ?_
  rintro e w5 ⟨rfl, hr⟩
  have HR := Lib.hid (HFIN.out w5 hr)
  clear hr
  go_wp2_with fail
  go_end0
  exact ⟨rfl, HR.out⟩

set_option maxRecDepth 100000 in
set_option maxHeartbeats 4000000 in
theorem share_block {w : World} {ph pt pa : Nat} {l : List En} {F : List Nat} {L : List Uc} {n : Nat} {E : Nat → Prop} (h : HistW w ph pt pa l F L n E) (hl : l.length ≤ 2000) (k a : Nat) (ha0 : 0 < a) (ha : a < 4294967296) (hc0 : 0 < cntU L a) (hc : cntU L a < 1000000) :
    Calls Tryz.prog 29 #[ptrV ph, keyV k, .int .u32 (a : Int)] w fun e w' => e = .returned (.tuple #[]) ∧ HT ph pt pa n E w (setE l (k, a)) F (setU L a (cntU L a + 1)) w' := by
  have hb0 : Below w.heap.size w (w.alloc (.cells #[.int .u16 (kVol k : Int), .int .u32 (kBlk k : Int), .int .u64 (kSeq k : Int)] 27)) := (Below.refl _ _).alloc (Nat.le_refl _) _
  have hE := h.lt
  have h' := h.below hb0
  obtain ⟨-, x3⟩ := h'.reads
  obtain ⟨S, D, h1, h2, h3, h4, h5⟩ := h'.has
  have hDB : ∀ j, D j → j < w.heap.size := fun j hj => hE j ((h4 j).2 (.inr (.inr (.inr hj))))
  have HH := Lib.hid (allocHold_any h3 a ha0 ha hc0 hc)
  have hX := heap_alloc_new w (.cells #[.int .u16 (kVol k : Int), .int .u32 (kBlk k : Int), .int .u64 (kSeq k : Int)] 27)
  have HK := Lib.hid (fun (w' : World) D' (hA : AllocW w' pa F (setU L a (cntU L a + 1)) n D') hg ho => And.intro (HistW.alloced h1 h2 h3 h4 h5 hA hg ho) (show w'.heap[w.heap.size]? = _ from (ho.block w.heap.size (by rw [World.alloc_size]; omega) (fun e => by have := hDB _ e; omega)).trans hX))
  have HPRE := Lib.hid (fun (w' : World) (hr : HT ph pt pa n E (w.alloc (.cells #[.int .u16 (kVol k : Int), .int .u32 (kBlk k : Int), .int .u64 (kSeq k : Int)] 27)) (setE l (k, a)) F (setU L a (cntU L a + 1)) w') => HT.pre hr hb0 hE)
  have z0 : ((a : Int) == 0) = false := by rw [beq_eq_false_iff_ne]; omega
  have z1 : ((a : Int) != 0) = true := by rw [bne_iff_ne]; omega
  unfold ptrV keyV at *
  clear h h' h1 h2 h3 h4 h5 hE hb0 hDB hX hc0 hc
  generalize cntU L a + 1 = c at *
  go_enter Tryz.func29, Tryz.ntmps29
  go_wp2_with fail
  refine HH.out.mono ?_
  clear HH
  rintro e w5 ⟨D', rfl, hA, hg, ho⟩
  obtain ⟨⟨E1, q1, q2, q3⟩, hbx⟩ := HK.out w5 D' hA hg ho
  have HP := Lib.hid (put_any q1 hl k a)
  have HFIN := Lib.hid (fun (w' : World) (hr : HT ph pt pa n E1 w5 (setE l (k, a)) F (setU L a c) w') => HPRE.out w' (HT.trans q2 q3 hr))
  have y0 := cell_of_row w5 w.heap.size 0 _ _ _ hbx
  have y1 := cell_of_row w5 w.heap.size 1 _ _ _ hbx
  have y2 := cell_of_row w5 w.heap.size 2 _ _ _ hbx
  unfold ptrV keyV at HP
  clear HK HPRE q1 q2 q3 hbx hA hg ho x3
  go_wp2_with fail
  refine HP.out.mono ?_
  rintro e w6 ⟨rfl, hr⟩
  have HR := Lib.hid (HFIN.out w6 hr)
  clear hr
  go_wp2_with fail
  go_end0
  exact ⟨rfl, HR.out⟩
end Go.Proofs.YtejhbaeeaejcaaaGreat
/- The walks of history.cut, Drop, Prune's loop at a history in memory. Conditions: those of each theorem. -/
namespace Go.Proofs.YtejhbaeeaejcaaaGreat
open Go.RowKit

theorem nodup_le : ∀ (n : Nat) (F : List Nat), F.Nodup → (∀ x ∈ F, 0 < x ∧ x ≤ n) → F.length ≤ n
  | 0, F, _, h => by
    cases F with
    | nil => simp
    | cons x F => have := h x List.mem_cons_self; omega
  | n + 1, F, hn, h => by
    have := nodup_le n (F.erase (n + 1)) (hn.erase _) fun x hx => by
      have hx' := hn.mem_erase_iff.1 hx
      have := h x hx'.2
      omega
    by_cases hm : n + 1 ∈ F
    · rw [List.length_erase_of_mem hm] at this; omega
    · rw [List.erase_of_not_mem hm] at this; omega
theorem HInv.flen {n : Nat} {l : List En} {F : List Nat} {L : List Uc} (h : HInv n l F L) (hF : F.Nodup) : F.length ≤ n := nodup_le n F hF fun x hx => (h.all x).2 (.inl hx)
/-- What a call leaves, and that blocks are counted as they must be. -/
def HO (ph pt pa n : Nat) (E : Nat → Prop) (w : World) (l : List En) (w' : World) : Prop := ∃ F L, HT ph pt pa n E w l F L w' ∧ HInv n l F L
theorem HO.pre {ph pt pa n : Nat} {E : Nat → Prop} {w w1 w' : World} {l : List En} (h : HO ph pt pa n E w1 l w') (hb : Below w.heap.size w w1) (hE : ∀ j, E j → j < w.heap.size) : HO ph pt pa n E w l w' := by
  obtain ⟨F, L, h1, h2⟩ := h
  exact ⟨F, L, h1.pre hb hE, h2⟩
theorem HO.post {ph pt pa n : Nat} {E : Nat → Prop} {w w1 w' : World} {l : List En} (h : HO ph pt pa n E w l w1) (hb : Below w1.heap.size w1 w') : HO ph pt pa n E w l w' := by
  obtain ⟨F, L, h1, h2⟩ := h
  exact ⟨F, L, h1.post hb, h2⟩
theorem HO.trans {ph pt pa n : Nat} {E E1 : Nat → Prop} {w w1 w' : World} {l : List En} (hg : Grew E w E1 w1) (ho : Outs E w w1) (h : HO ph pt pa n E1 w1 l w') : HO ph pt pa n E w l w' := by
  obtain ⟨F, L, h1, h2⟩ := h
  exact ⟨F, L, HT.trans hg ho h1, h2⟩

theorem allocDrop_inv {w : World} {pa : Nat} {F : List Nat} {L : List Uc} {n : Nat} {D : Nat → Prop} (h : AllocW w pa F L n D) {l : List En} (hI : HInv n l F L) (hr : Rise l) (hf : Fit l) (hl : l.length ≤ 2000) (hn : n ≤ 4096) {x : En} (hx : x ∈ l) (h0 : 0 < x.2) :
    Calls Tryz.prog 57 #[ptrV pa, .int .u32 (x.2 : Int)] w fun e w' => ∃ (D' : Nat → Prop) (F' : List Nat) (L' : List Uc), e = .returned (.int .i64 0) ∧ AllocW w' pa F' L' n D' ∧ Grew D w D' w' ∧ Outs D w w' ∧ HInv n (delE l x.1) F' L' := by
  have hc := hI.cnt x.2 h0
  have hp := cntA_pos hx
  have hle := cntA_le l x.2
  have hb := (hf x hx).2
  have hfl := hI.flen h.fnodup
  by_cases h1 : cntU L x.2 = 1
  · have hbF : x.2 ∉ F := fun e => by have := hI.dis _ e; omega
    refine (allocDrop_last h x.2 h0 hb h1 hbF (by omega)).mono ?_
    rintro e w' ⟨D', rfl, q1, q2, q3⟩
    exact ⟨D', _, _, rfl, q1, q2, q3, hI.cutLast hr hx h1 fun y => cntU_del _ _ h.nodup⟩
  · obtain ⟨c, hcc⟩ : ∃ c, cntU L x.2 = c + 2 := ⟨cntU L x.2 - 2, by omega⟩
    refine (allocDrop_more h x.2 c hb hcc (by omega)).mono ?_
    rintro e w' ⟨D', rfl, q1, q2, q3⟩
    exact ⟨D', _, _, rfl, q1, q2, q3, hI.cutMore hr hx hcc fun y => cntU_set _ _ _ _⟩

set_option maxRecDepth 100000 in
set_option maxHeartbeats 4000000 in
theorem cut_any {w : World} {ph pt pa : Nat} {l : List En} {F : List Nat} {L : List Uc} {n : Nat} {E : Nat → Prop} (h : HistW w ph pt pa l F L n E) (hI : HInv n l F L) (hf : Fit l) (hl : l.length ≤ 2000) (hn : n ≤ 4096) (x : En) (hx : x ∈ l) :
    Calls Tryz.prog 33 #[ptrV ph, entV x] w fun e w' => e = .returned (.tuple #[]) ∧ HO ph pt pa n E w (delE l x.1) w' := by
  obtain ⟨w1, hw1⟩ : ∃ w1, w1 = w.alloc (.cells #[.int .u16 (kVol x.1 : Int), .int .u32 (kBlk x.1 : Int), .int .u64 (kSeq x.1 : Int), .int .u32 (x.2 : Int)] 60) := ⟨_, rfl⟩
  have hb0 : Below w.heap.size w w1 := by rw [hw1]; exact (Below.refl _ _).alloc (Nat.le_refl _) _
  have hX : w1.heap[w.heap.size]? = some (.cells #[.int .u16 (kVol x.1 : Int), .int .u32 (kBlk x.1 : Int), .int .u64 (kSeq x.1 : Int), .int .u32 (x.2 : Int)] 60 (0, 0)) := by rw [hw1]; exact heap_alloc_new w _
  have hsz : w1.heap.size = w.heap.size + 1 := by rw [hw1]; simp
  have hE := h.lt
  have h' := h.below hb0
  have hE1 := h'.lt
  have hrise := h.rise
  obtain ⟨r0, r1⟩ := h'.reads
  have hb1 : Below w1.heap.size w1 w1.drew := Below.drewB (Below.refl _ _)
  have h'' := h'.below hb1
  obtain ⟨S, D, h1, h2, h3, h4, h5⟩ := h''.has
  have HD := Lib.hid (del_any h2 hl x.1)
  obtain ⟨y0, y1, y2, y3⟩ : w1.cell? ⟨w.heap.size, 0, none⟩ = some (.int .u16 (kVol x.1 : Int)) ∧ w1.cell? ⟨w.heap.size, 1, none⟩ = some (.int .u32 (kBlk x.1 : Int)) ∧ w1.cell? ⟨w.heap.size, 2, none⟩ = some (.int .u64 (kSeq x.1 : Int)) ∧ w1.cell? ⟨w.heap.size, 3, none⟩ = some (.int .u32 (x.2 : Int)) := ⟨cell_of_row w1 _ 0 _ _ _ hX, cell_of_row w1 _ 1 _ _ _ hX, cell_of_row w1 _ 2 _ _ _ hX, cell_of_row w1 _ 3 _ _ _ hX⟩
  -- what the first call leaves
  have HK := Lib.hid (fun (w5 : World) S' (hT : TreeW w5 S' pt (delE l x.1)) hx' hg => show ∃ E1, (HistW w5 ph pt pa (delE l x.1) F L n E1 ∧ HT ph pt pa n E w (delE l x.1) F L w5 ∧ Grew E w1.drew E1 w5 ∧ Outs E w1.drew w5 ∧ ¬ E1 w.heap.size ∧ w.heap.size < w5.heap.size) ∧ w5.cell? ⟨w.heap.size, 0, none⟩ = some (.int .u16 (kVol x.1 : Int)) ∧ w5.cell? ⟨w.heap.size, 1, none⟩ = some (.int .u32 (kBlk x.1 : Int)) ∧ w5.cell? ⟨w.heap.size, 2, none⟩ = some (.int .u64 (kSeq x.1 : Int)) ∧ w5.cell? ⟨w.heap.size, 3, none⟩ = some (.int .u32 (x.2 : Int)) ∧ w5.cell? ⟨ph, 0, none⟩ = some (ptrV pt) ∧ w5.cell? ⟨ph, 1, none⟩ = some (ptrV pa) by
    obtain ⟨E1, q1, q2, q3⟩ := HistW.treed (E := E) h1 h2 h3 h4 h5 hT hx' hg
    have e1 : w5.heap[w.heap.size]? = _ := (q3.block w.heap.size (by show w.heap.size < w1.heap.size; omega) (fun e => by have := hE _ e; omega)).trans hX
    have rr := q1.reads
    refine ⟨E1, ⟨q1, HT.pre (HT.pre ⟨E1, q1, q2, q3⟩ hb1 hE1) hb0 hE, q2, q3, fun e => ?_, (Array.getElem?_eq_some_iff.1 e1).1⟩, cell_of_row w5 _ 0 _ _ _ e1, cell_of_row w5 _ 1 _ _ _ e1, cell_of_row w5 _ 2 _ _ _ e1, cell_of_row w5 _ 3 _ _ _ e1, rr.1, rr.2⟩
    rcases q2.new _ e with h | h
    · have := hE _ h; omega
    · have : w1.heap.size ≤ w.heap.size := h
      omega)
  have hpre : ∀ w', HO ph pt pa n E w1.drew (delE l x.1) w' → HO ph pt pa n E w (delE l x.1) w' := fun w' hh => (hh.pre hb1 hE1).pre hb0 hE
  have HPRE := Lib.hid hpre
  have HI := Lib.hid (And.intro hI (And.intro hrise (And.intro hf (And.intro hl (And.intro hn hx)))))
  unfold ptrV entV
  unfold ptrV keyV at HD
  unfold ptrV at r0 r1
  clear h h' h'' h1 h2 h3 h4 h5 hE hE1 hb0 hb1 hpre hX hsz hI hrise hf
  have hl0 : l.length ≤ 2000 := hl
  by_cases h0 : x.2 = 0
  · have z1 : ((x.2 : Int) != 0) = false := by rw [h0]; rfl
    have HZ := Lib.hid h0
    clear h0 hl hn hx
    go_enter Tryz.func33, Tryz.ntmps33
    go_wp2_with fail
    rw [← hw1]
    clear hw1
    generalize w.heap.size = B at *
    have hS : w1.drew.cell? ⟨B, 0, none⟩ = some (.int .u16 (kVol x.1 : Int)) ∧ w1.drew.cell? ⟨B, 1, none⟩ = some (.int .u32 (kBlk x.1 : Int)) ∧ w1.drew.cell? ⟨B, 2, none⟩ = some (.int .u64 (kSeq x.1 : Int)) ∧ w1.drew.cell? ⟨ph, 0, none⟩ = some (.pointer (some ⟨pt, 0, none⟩)) := ⟨y0, y1, y2, r0⟩
    go_region_held (fun W' => W'.cell? ⟨B, 0, none⟩ = some (.int .u16 (kVol x.1 : Int)) ∧ W'.cell? ⟨B, 1, none⟩ = some (.int .u32 (kBlk x.1 : Int)) ∧ W'.cell? ⟨B, 2, none⟩ = some (.int .u64 (kSeq x.1 : Int)) ∧ W'.cell? ⟨ph, 0, none⟩ = some (.pointer (some ⟨pt, 0, none⟩))) (first | exact hS6 | exact hS)
      (first | (go_at_call 56; refine HD.out.mono ?_; rintro e w5 ⟨v, S', rfl, hT, hx, hg⟩; obtain ⟨E1, HRa, s0, s1, s2, c3, s4, c4⟩ := HK.out w5 S' hT hx hg; have HR := Lib.hid HRa; clear HRa; unfold ptrV at s4 c4; have hS6 := And.intro s0 (And.intro s1 (And.intro s2 s4)); clear hT hx hg s0 s1 s2 s4))
    all_goals
      go_wp2_with fail
      go_end0
      refine ⟨rfl, F, L, HR.out.2.1, ?_⟩
      obtain ⟨hI, hrise, hf, hl, hn, hx⟩ := HI.out
      exact hI.cutHole hrise hx HZ.out
  · have z1 : ((x.2 : Int) != 0) = true := by rw [bne_iff_ne]; omega
    have HZ := Lib.hid (Nat.pos_of_ne_zero h0)
    clear h0 hl hn hx
    go_enter Tryz.func33, Tryz.ntmps33
    go_wp2_with fail
    rw [← hw1]
    clear hw1
    generalize w.heap.size = B at *
    have hS : w1.drew.cell? ⟨B, 0, none⟩ = some (.int .u16 (kVol x.1 : Int)) ∧ w1.drew.cell? ⟨B, 1, none⟩ = some (.int .u32 (kBlk x.1 : Int)) ∧ w1.drew.cell? ⟨B, 2, none⟩ = some (.int .u64 (kSeq x.1 : Int)) ∧ w1.drew.cell? ⟨ph, 0, none⟩ = some (.pointer (some ⟨pt, 0, none⟩)) := ⟨y0, y1, y2, r0⟩
    go_region_held (fun W' => W'.cell? ⟨B, 0, none⟩ = some (.int .u16 (kVol x.1 : Int)) ∧ W'.cell? ⟨B, 1, none⟩ = some (.int .u32 (kBlk x.1 : Int)) ∧ W'.cell? ⟨B, 2, none⟩ = some (.int .u64 (kSeq x.1 : Int)) ∧ W'.cell? ⟨ph, 0, none⟩ = some (.pointer (some ⟨pt, 0, none⟩))) (first | exact hS6 | exact hS)
      (first | (go_at_call 56; refine HD.out.mono ?_; rintro e w5 ⟨v, S', rfl, hT, hx, hg⟩; obtain ⟨E1, HRa, s0, s1, s2, c3, s4, c4⟩ := HK.out w5 S' hT hx hg; have HR := Lib.hid HRa; clear HRa; unfold ptrV at s4 c4; have hS6 := And.intro s0 (And.intro s1 (And.intro s2 s4)); clear hT hx hg s0 s1 s2 s4))
    all_goals
      obtain ⟨q1, q4, q2, q3, n1, hB5⟩ := HR.out
      have hb5 : Below w5.heap.size w5 w5.drew := Below.drewB (Below.refl _ _)
      obtain ⟨S5, D5, h1, h2, h3, h4, h5⟩ := (q1.below hb5).has
      obtain ⟨hI, hrise, hf, hl, hn, hx⟩ := HI.out
      have HDR := Lib.hid (allocDrop_inv h3 hI hrise hf hl hn hx HZ.out)
      have HFIN := Lib.hid (fun (w6 : World) D' F' L' (hA : AllocW w6 pa F' L' n D') hg ho (hI' : HInv n (delE l x.1) F' L') => HPRE.out w6 (HO.trans q2 q3 (HO.pre ⟨F', L', HistW.alloced h1 h2 h3 h4 h5 hA hg ho, hI'⟩ hb5 q1.lt)))
      have HKP := Lib.hid (fun (w6 : World) (ho : Outs D5 w5.drew w6) => show w6.cell? ⟨B, 3, none⟩ = some (.int .u32 (x.2 : Int)) ∧ w6.cell? ⟨ph, 1, none⟩ = some (.pointer (some ⟨pa, 0, none⟩)) from ⟨(World.cell?_of_block (ho.block B hB5 fun e => n1 ((h4 B).2 (.inr (.inr (.inr e)))))).trans c3, (World.cell?_of_block (ho.block ph (Array.getElem?_eq_some_iff.1 h1).1 h5.2.1)).trans c4⟩)
      unfold ptrV at HDR
      clear n1 hB5 h1 h2 h3 h4 h5 hI hrise hf hl hn hx q1 q4 q2 q3 hb5 HK HPRE hS6 hS y0 y1 y2 y3 r0 r1
      go_wp2_with fail
      have hSb : w5.drew.cell? ⟨B, 3, none⟩ = some (.int .u32 (x.2 : Int)) ∧ w5.drew.cell? ⟨ph, 1, none⟩ = some (.pointer (some ⟨pa, 0, none⟩)) := ⟨c3, c4⟩
      go_region_held (fun W' => W'.cell? ⟨B, 3, none⟩ = some (.int .u32 (x.2 : Int)) ∧ W'.cell? ⟨ph, 1, none⟩ = some (.pointer (some ⟨pa, 0, none⟩))) (first | exact hS7 | exact hSb)
        (first | (go_at_call 57; refine HDR.out.mono ?_; rintro e w6 ⟨D', F', L', rfl, hA, hg, ho, hI'⟩; have hS7 := HKP.out w6 ho; have HR6 := Lib.hid (HFIN.out w6 D' F' L' hA hg ho hI'); clear hA hg ho hI'))
      all_goals
        go_wp2_with fail
        go_end0
        exact ⟨rfl, HR6.out⟩
end Go.Proofs.YtejhbaeeaejcaaaGreat
