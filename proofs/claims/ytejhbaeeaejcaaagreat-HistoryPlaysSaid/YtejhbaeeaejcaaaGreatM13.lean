/- The walks of history.Drop, Live, and the loop of Prune at a history in memory. Conditions: those of each theorem. -/
import Derived.Test.YtejhbaeeaejcaaaGreatM12
import Derived.Deep.CutRange
namespace Go.Proofs.YtejhbaeeaejcaaaGreat
open Go.RowKit

theorem delAll_has {l es : List En} (hr : Rise l) (hs : ∀ e ∈ es, e ∈ l) (hn : es.Nodup) {i : Nat} {e : En} (he : es[i]? = some e) : e ∈ delAll l (es.take i) ∧ Rise (delAll l (es.take i)) ∧ (∀ x ∈ delAll l (es.take i), x ∈ l) ∧ (delAll l (es.take i)).length ≤ l.length ∧ delAll l (es.take (i + 1)) = delE (delAll l (es.take i)) e.1 := by
  have hn' : (es.take i).Nodup := hn.sublist (List.take_sublist _ _)
  have hf := delAll_filter hr (fun x hx => hs x (List.mem_of_mem_take hx)) hn'
  have hi := (List.getElem?_eq_some_iff.1 he).1
  refine ⟨?_, ?_, ?_, ?_, ?_⟩
  · rw [hf]
    refine List.mem_filter.2 ⟨hs e (List.mem_of_getElem? he), ?_⟩
    simp only [decide_not, Bool.not_eq_true', decide_eq_false_iff_not]
    intro hm
    obtain ⟨j, hj⟩ := List.getElem?_of_mem hm
    have hji : j < i := by
      have := (List.getElem?_eq_some_iff.1 hj).1
      rw [List.length_take] at this
      omega
    rw [List.getElem?_take_of_lt hji] at hj
    have := (List.getElem?_inj (List.getElem?_eq_some_iff.1 hj).1 hn).1 (hj.trans he.symm)
    omega
  · rw [hf]; exact hr.sublist List.filter_sublist
  · rw [hf]; exact fun x hx => (List.mem_filter.1 hx).1
  · rw [hf]; exact List.length_filter_le _ _
  · rw [List.take_add_one, he]
    exact delAll_snoc _ _ _
theorem delAll_len {l es : List En} (hr : Rise l) (hs : ∀ e ∈ es, e ∈ l) (hn : es.Nodup) : delAll l es = l.filter fun x => decide (x ∉ es) := delAll_filter hr hs hn

/-- One round of a loop that cuts. -/
theorem cut_step {w1 wr : World} {ph pt pa n : Nat} {E : Nat → Prop} {l es : List En} {i : Nat} {x : En} (h : HO ph pt pa n E w1 (delAll l (es.take i)) wr) (hr : Rise l) (hs : ∀ e ∈ es, e ∈ l) (hnd : es.Nodup) (hf : Fit l) (hl : l.length ≤ 2000) (hn : n ≤ 4096) (he : es[i]? = some x) :
    Calls Tryz.prog 33 #[ptrV ph, entV x] (wr.alloc (.cells #[.int .u16 (kVol x.1 : Int), .int .u32 (kBlk x.1 : Int), .int .u64 (kSeq x.1 : Int), .int .u32 (x.2 : Int)] 60)) fun e w' => e = .returned (.tuple #[]) ∧ HO ph pt pa n E w1 (delAll l (es.take (i + 1))) w' := by
  obtain ⟨q1, q2, q3, q4, q5⟩ := delAll_has hr hs hnd he
  obtain ⟨F, L, h1, hI⟩ := h.post (w' := wr.alloc (.cells #[.int .u16 (kVol x.1 : Int), .int .u32 (kBlk x.1 : Int), .int .u64 (kSeq x.1 : Int), .int .u32 (x.2 : Int)] 60)) ((Below.refl _ _).alloc (Nat.le_refl _) _)
  obtain ⟨E', k1, k2, k3⟩ := h1
  refine (cut_any k1 hI (fun y hy => hf y (q3 y hy)) (by omega) hn x q1).mono ?_
  rintro e w' ⟨rfl, hO⟩
  rw [q5]
  exact ⟨rfl, HO.trans k2 k3 hO⟩
/-- A row of entries that a call laid stays as it is while a history turns. -/
theorem OwnE.far {α : Type} {enc : α → List Value} {k : Nat} {t : TypeId} {w1 w2 : World} {E : Nat → Prop} {B : Nat} {v : Value} {l : List α} (h : OwnE enc k t w1 B v l) (ho : Outs E w1 w2) (hE : ∀ j, E j → j < B) : OwnE enc k t w2 B v l :=
  OwnE.heap h fun g hg => by
    have hgl := h.lt g hg
    exact ho.block g hgl.2 fun e => by have := hE g e; omega

set_option maxRecDepth 100000 in
set_option maxHeartbeats 4000000 in
theorem drop_any {w : World} {ph pt pa : Nat} {l : List En} {F : List Nat} {L : List Uc} {n : Nat} {E : Nat → Prop} (h : HistW w ph pt pa l F L n E) (hI : HInv n l F L) (hf : Fit l) (hl : l.length ≤ 2000) (hn : n ≤ 4096) (v : Nat) (hv : v < 65536) :
    Calls Tryz.prog 23 #[ptrV ph, .int .i64 (v : Int)] w fun e w' => e = .returned (.int .i64 ((volL l v).length : Int)) ∧ HO ph pt pa n E w (delAll l (volL l v)) w' := by
  have hrise := h.rise
  obtain ⟨r0, -⟩ := h.reads
  have hE := h.lt
  obtain ⟨S, D, h1, h2, h3, h4, h5⟩ := h.has
  have HV := Lib.hid (volume_any h2 hl v hv)
  have s1 : IntKind.u16.wrap (v : Int) = (v : Int) := by simp [IntKind.wrap, IntKind.signed, IntKind.bits]; omega
  have HH := Lib.hid (And.intro h (And.intro hI (And.intro hE hrise)))
  have hlen : (volL l v).length ≤ 2000 := Nat.le_trans (List.length_filter_le _ _) hl
  have hsub : ∀ e ∈ volL l v, e ∈ l := fun e he => (List.mem_filter.1 he).1
  have hnd : (volL l v).Nodup := (rise_nodup hrise).sublist List.filter_sublist
  have HN := Lib.hid (And.intro hsub hnd)
  unfold ptrV at *
  clear h h1 h2 h3 h4 h5 hI hE hrise hsub hnd
  generalize hes : volL l v = es at *
  have HES := Lib.hid hes
  clear hes
  go_enter Tryz.func23, Tryz.ntmps23
  go_wp2_with fail
  refine HV.out.mono ?_
  clear HV r0
  rintro e w1 ⟨r, rfl, hr, hb1⟩
  have HB := Lib.hid hb1
  have HR := Lib.hid hr
  obtain ⟨a, cap, hra, hrow, hcap, -⟩ := hr.row encN_len
  have HA := Lib.hid hra
  clear hb1 hr hrow hcap
  rw [hra]
  clear hra
  go_wp2_with fail
  obtain ⟨hh, hI, hE, hrise⟩ := HH.out
  go_loopw [17] (fun u17 wr => ∃ i : Nat, i ≤ es.length ∧ u17 = .int .i64 i ∧ HO ph pt pa n E w1 (delAll l (es.take i)) wr) (fun u17 _ => es.length - (intOf u17).toNat)
  case atStart => exact ⟨0, by omega, rfl, F, L, HT.refl (hh.below HB.out), hI⟩
  case round =>
    obtain ⟨i, hi, rfl, hO⟩ := hrel
    by_cases hlt : i < es.length
    · have hi1 : (i : Int) < (es.length : Int) := by omega
      obtain ⟨x, hx⟩ : ∃ x, es[i]? = some x := ⟨_, List.getElem?_eq_getElem hlt⟩
      have hO' := hO
      obtain ⟨F', L', ⟨E', k1, k2, k3⟩, hI'⟩ := hO'
      obtain ⟨a', cap', hra', hrow', -⟩ := (HR.out.far k3 hE).row encN_len
      obtain ⟨g, o, hag, hcells⟩ := hrow'.2 i x hx
      have hae := HA.out.symm.trans hra'
      simp only [Value.slice.injEq, true_and] at hae
      obtain ⟨rfl, rfl⟩ := hae
      subst hag
      have c0 := hcells 0 _ rfl
      have c1 := hcells 1 _ rfl
      have c2 := hcells 2 _ rfl
      have c3 := hcells 3 _ rfl
      simp only [Nat.add_zero] at c0
      have HC := Lib.hid (cut_step hO hrise HN.out.1 HN.out.2 hf hl hn hx)
      unfold ptrV entV at HC
      clear hO k1 k2 k3 hI' hrow' hcells hra' hx
      generalize es.length = m at *
      go_wp2_with fail
      refine HC.out.mono ?_
      rintro e w5 ⟨rfl, hO⟩
      have HOO := Lib.hid hO
      clear hO
      go_wp2_with fail
      go_roundw
      case rel => exact ⟨i + 1, by omega, by go_num, HOO.out⟩
      case measure => simp [intOf]; omega
    · obtain rfl : i = es.length := by omega
      rw [List.take_of_length_le (Nat.le_refl _)] at hO
      have HOO := Lib.hid (hO.pre HB.out hE)
      clear hO
      go_wp2_with fail
      go_ret
      exact ⟨rfl, HOO.out⟩

/-- How many aren't holes. -/
def liveN (l : List En) : Nat := (l.filter fun x => decide (x.2 ≠ 0)).length
theorem liveN_snoc (l : List En) (x : En) : liveN (l ++ [x]) = liveN l + if x.2 = 0 then 0 else 1 := by
  unfold liveN
  rw [List.filter_append]
  by_cases h : x.2 = 0
  · simp [h]
  · simp [h]
set_option maxRecDepth 100000 in
set_option maxHeartbeats 4000000 in
theorem live_any {w : World} {ph pt pa : Nat} {l : List En} {F : List Nat} {L : List Uc} {n : Nat} {E : Nat → Prop} (h : HistW w ph pt pa l F L n E) (hl : l.length ≤ 2000) (v : Nat) (hv : v < 65536) :
    Calls Tryz.prog 34 #[ptrV ph, .int .i64 (v : Int)] w fun e w' => e = .returned (.tuple #[.int .i64 ((volL l v).length : Int), .int .i64 (liveN (volL l v) : Int)]) ∧ Below w.heap.size w w' := by
  obtain ⟨r0, -⟩ := h.reads
  obtain ⟨S, D, h1, h2, h3, h4, h5⟩ := h.has
  have HV := Lib.hid (volume_any h2 hl v hv)
  have s1 : IntKind.u16.wrap (v : Int) = (v : Int) := by simp [IntKind.wrap, IntKind.signed, IntKind.bits]; omega
  have hlen : (volL l v).length ≤ 2000 := Nat.le_trans (List.length_filter_le _ _) hl
  unfold ptrV at *
  clear h h1 h2 h3 h4 h5
  generalize volL l v = es at *
  go_enter Tryz.func34, Tryz.ntmps34
  go_wp2_with fail
  refine HV.out.mono ?_
  clear HV r0
  rintro e w1 ⟨r, rfl, hr, hb1⟩
  have HB := Lib.hid hb1
  have HR := Lib.hid hr
  obtain ⟨a, cap, hra, hrow, hcap, -⟩ := hr.row encN_len
  have HA := Lib.hid hra
  clear hb1 hr hrow hcap
  rw [hra]
  clear hra
  go_wp2_with fail
  go_loopw [7, 19] (fun u7 u19 wr => ∃ i : Nat, i ≤ es.length ∧ u19 = .int .i64 i ∧ u7 = .int .i64 (liveN (es.take i) : Nat) ∧ Below w1.heap.size w1 wr) (fun _ u19 _ => es.length - (intOf u19).toNat)
  case atStart => exact ⟨0, by omega, rfl, rfl, Below.refl _ _⟩
  case round =>
    obtain ⟨i, hi, rfl, rfl, hb⟩ := hrel
    by_cases hlt : i < es.length
    · have hi1 : (i : Int) < (es.length : Int) := by omega
      obtain ⟨x, hx⟩ : ∃ x, es[i]? = some x := ⟨_, List.getElem?_eq_getElem hlt⟩
      obtain ⟨a', cap', hra', hrow', -⟩ := (HR.out.heap (w' := wr) fun g hg => hb.block g (HR.out.lt g hg).2).row encN_len
      obtain ⟨g, o, hag, hcells⟩ := hrow'.2 i x hx
      have hae := HA.out.symm.trans hra'
      simp only [Value.slice.injEq, true_and] at hae
      obtain ⟨rfl, rfl⟩ := hae
      subst hag
      have c0 := hcells 0 _ rfl
      have c1 := hcells 1 _ rfl
      have c2 := hcells 2 _ rfl
      have c3 := hcells 3 _ rfl
      simp only [Nat.add_zero] at c0
      have hsn : liveN (es.take (i + 1)) = liveN (es.take i) + if x.2 = 0 then 0 else 1 := by rw [List.take_add_one, hx]; exact liveN_snoc _ _
      have HSN := Lib.hid hsn
      have hle : liveN (es.take i) ≤ 2000 := Nat.le_trans (List.length_filter_le _ _) (by rw [List.length_take]; omega)
      have hb2 : Below w1.heap.size w1 (wr.alloc (.cells #[.int .u16 (kVol x.1 : Int), .int .u32 (kBlk x.1 : Int), .int .u64 (kSeq x.1 : Int), .int .u32 (x.2 : Int)] 60)) := hb.alloc hb.size _
      clear hrow' hcells hra' hx hsn
      generalize es.length = m at *
      by_cases h0 : x.2 = 0
      · have z1 : ((x.2 : Int) != 0) = false := by rw [h0]; rfl
        have HZ := Lib.hid h0
        clear h0
        generalize liveN (es.take i) = c at *
        go_wp2_with fail
        go_roundw
        case rel => exact ⟨i + 1, by omega, by go_num, by rw [HSN.out, if_pos HZ.out]; rfl, hb2⟩
        case measure => simp [intOf]; omega
      · have z1 : ((x.2 : Int) != 0) = true := by rw [bne_iff_ne]; omega
        have HZ := Lib.hid h0
        clear h0
        generalize liveN (es.take i) = c at *
        go_wp2_with fail
        go_roundw
        case rel => exact ⟨i + 1, by omega, by go_num, by rw [HSN.out, if_neg HZ.out]; go_num, hb2⟩
        case measure => simp [intOf]; omega
    · obtain rfl : i = es.length := by omega
      rw [List.take_of_length_le (Nat.le_refl _)]
      have HBB := Lib.hid (HB.out.trans (hb.mono HB.out.size))
      clear hb
      go_wp2_with fail
      go_ret2
      exact ⟨rfl, HBB.out⟩
end Go.Proofs.YtejhbaeeaejcaaaGreat
/- The walks of history.At and Shot at a history in memory. Conditions: those of each theorem. -/
namespace Go.Proofs.YtejhbaeeaejcaaaGreat
open Go.RowKit

theorem floor_any {S : Nat → Prop} {w : World} {pt : Nat} {l : List En} (h : TreeW w S pt l) (hl : l.length ≤ 2000) (k : Nat) :
    Calls Tryz.prog 31 #[ptrV pt, keyV k] w fun r w' => r = .returned (floorR (floorE l k)) ∧ Below w.heap.size w w' := by
  rcases h.has with ⟨rfl, h2⟩ | ⟨d, p, t, h1, h2, hR, rfl⟩
  · exact floor_none h2 k
  · exact floor_some h1 h2 h.lt hR.lo hR.hi hR.kids h.rise (by have := hR.depth hl; omega) k

set_option maxRecDepth 100000 in
set_option maxHeartbeats 4000000 in
theorem at_any {w : World} {ph pt pa : Nat} {l : List En} {F : List Nat} {L : List Uc} {n : Nat} {E : Nat → Prop} (h : HistW w ph pt pa l F L n E) (hl : l.length ≤ 2000) (v b s : Nat) (hv : v < 65536) (hb : b < 4294967296) (hs : s < 18446744073709551616) :
    Calls Tryz.prog 9 #[ptrV ph, .int .i64 (v : Int), .int .i64 (b : Int), .int .u64 (s : Int)] w fun e w' => e = .returned (.int .u32 (atL l v b s : Int)) ∧ Below w.heap.size w w' := by
  obtain ⟨w1, hw1⟩ : ∃ w1, w1 = w.alloc (.cells #[.int .u16 (v : Int), .int .u32 (b : Int), .int .u64 (s : Int)] 27) := ⟨_, rfl⟩
  have hb0 : Below w.heap.size w w1 := by rw [hw1]; exact (Below.refl _ _).alloc (Nat.le_refl _) _
  have hX : w1.heap[w.heap.size]? = some (.cells #[.int .u16 (v : Int), .int .u32 (b : Int), .int .u64 (s : Int)] 27 (0, 0)) := by rw [hw1]; exact heap_alloc_new w _
  have hphl := h.hlt
  have h' := h.below hb0
  obtain ⟨r0, -⟩ := h'.reads
  have hat : (atL l v b s : Int) = match floorE l (keyN v b s) with
    | some e => if kVol e.1 = v ∧ kBlk e.1 = b then (e.2 : Int) else 0
    | none => 0 := by
    unfold atL
    cases floorE l (keyN v b s) with
    | none => rfl
    | some e => by_cases h : kVol e.1 = v ∧ kBlk e.1 = b <;> simp [h]
  have HF := Lib.hid (fun (W : World) (hW : Below w1.heap.size w1 W) => by
    obtain ⟨S, D, h1, h2, h3, h4, h5⟩ := (h'.below hW).has
    exact floor_any h2 hl (keyN v b s))
  have HAT := Lib.hid hat
  have e0 := keyN_v (v := v) hb hs
  have HSm := Lib.hid (fun (e : En) (W : World) => same_any e.1 (keyN v b s) W)
  have HV := Lib.hid (And.intro (keyN_vol (v := v) hb hs) (keyN_blk (v := v) hb hs))
  rw [e0] at HF HSm
  obtain ⟨y0, y1, y2⟩ : w1.cell? ⟨w.heap.size, 0, none⟩ = some (.int .u16 (v : Int)) ∧ w1.cell? ⟨w.heap.size, 1, none⟩ = some (.int .u32 (b : Int)) ∧ w1.cell? ⟨w.heap.size, 2, none⟩ = some (.int .u64 (s : Int)) := ⟨cell_of_row w1 _ 0 _ _ _ hX, cell_of_row w1 _ 1 _ _ _ hX, cell_of_row w1 _ 2 _ _ _ hX⟩
  have s1 : IntKind.u16.wrap (v : Int) = (v : Int) := by simp [IntKind.wrap, IntKind.signed, IntKind.bits]; omega
  have s2 : IntKind.u32.wrap (b : Int) = (b : Int) := by simp [IntKind.wrap, IntKind.signed, IntKind.bits]; omega
  have hsz : w1.heap.size = w.heap.size + 1 := by rw [hw1]; simp
  have HZ := Lib.hid hsz
  unfold ptrV at *
  clear h h' hat e0 hX hsz hv hb hs
  go_enter Tryz.func9, Tryz.ntmps9
  go_wp2_with fail
  rw [← hw1]
  clear hw1
  have HB0 := Lib.hid hb0
  clear hb0
  generalize hBw : w.heap.size = B at *
  have HBW := Lib.hid hBw
  clear hBw
  have hS : w1.drew.cell? ⟨B, 0, none⟩ = some (.int .u16 (v : Int)) ∧ w1.drew.cell? ⟨B, 1, none⟩ = some (.int .u32 (b : Int)) ∧ w1.drew.cell? ⟨B, 2, none⟩ = some (.int .u64 (s : Int)) ∧ w1.drew.cell? ⟨ph, 0, none⟩ = some (.pointer (some ⟨pt, 0, none⟩)) := ⟨y0, y1, y2, r0⟩
  have HS5 := Lib.hid (fun (w5 : World) (h5 : Below w1.drew.heap.size w1.drew w5) => show w5.cell? ⟨B, 0, none⟩ = some (.int .u16 (v : Int)) ∧ w5.cell? ⟨B, 1, none⟩ = some (.int .u32 (b : Int)) ∧ w5.cell? ⟨B, 2, none⟩ = some (.int .u64 (s : Int)) ∧ w5.cell? ⟨ph, 0, none⟩ = some (.pointer (some ⟨pt, 0, none⟩)) from
    ⟨(h5.cell (World.block_lt_of_cell? _ _ y0)).trans y0, (h5.cell (World.block_lt_of_cell? _ _ y1)).trans y1, (h5.cell (World.block_lt_of_cell? _ _ y2)).trans y2, (h5.cell (World.block_lt_of_cell? _ _ r0)).trans r0⟩)
  obtain ⟨wA, hwA⟩ : ∃ wA, wA = w1.alloc (.cells #[.int .u16 0, .int .u32 0, .int .u64 0, .int .u32 0] 60) := ⟨_, rfl⟩
  have hA := heap_alloc_new w1 (.cells #[.int .u16 0, .int .u32 0, .int .u64 0, .int .u32 0] 60)
  have hbA : Below w1.heap.size w1 wA := by rw [hwA]; exact (Below.refl _ _).alloc (Nat.le_refl _) _
  rw [← hwA] at hA
  have hzA : wA.heap.size = w1.heap.size + 1 := by rw [hwA]; simp
  have HS6 := Lib.hid (fun (w5 : World) (h5 : Below wA.drew.heap.size wA.drew w5) => show (w5.cell? ⟨B, 0, none⟩ = some (.int .u16 (v : Int)) ∧ w5.cell? ⟨B, 1, none⟩ = some (.int .u32 (b : Int)) ∧ w5.cell? ⟨B, 2, none⟩ = some (.int .u64 (s : Int)) ∧ w5.cell? ⟨ph, 0, none⟩ = some (.pointer (some ⟨pt, 0, none⟩))) ∧ w5.heap[w1.heap.size]? = some (.cells #[.int .u16 0, .int .u32 0, .int .u64 0, .int .u32 0] 60 (0, 0)) ∧ Below w1.heap.size w1 w5 from by
    have h5' : Below w1.heap.size w1 w5 := hbA.trans ((show Below wA.heap.size wA w5 from ⟨h5.os, h5.tape, h5.output, h5.size, h5.block⟩).mono (by omega))
    exact ⟨⟨(h5'.cell (World.block_lt_of_cell? _ _ y0)).trans y0, (h5'.cell (World.block_lt_of_cell? _ _ y1)).trans y1, (h5'.cell (World.block_lt_of_cell? _ _ y2)).trans y2, (h5'.cell (World.block_lt_of_cell? _ _ r0)).trans r0⟩, (h5.block w1.heap.size (by show w1.heap.size < wA.heap.size; omega)).trans hA, h5'⟩)
  have hphB : ph < w1.heap.size := World.block_lt_of_cell? _ _ r0
  have hBB : B < w1.heap.size := World.block_lt_of_cell? _ _ y0
  have HS7 := Lib.hid (fun (w5 : World) (v0 v1 v2 v3 : Value) (h5 : w5.cell? ⟨B, 0, none⟩ = some (.int .u16 (v : Int)) ∧ w5.cell? ⟨B, 1, none⟩ = some (.int .u32 (b : Int)) ∧ w5.cell? ⟨B, 2, none⟩ = some (.int .u64 (s : Int)) ∧ w5.cell? ⟨ph, 0, none⟩ = some (.pointer (some ⟨pt, 0, none⟩))) => show ((((w5.setCell ⟨w1.heap.size, 0, none⟩ v0).setCell ⟨w1.heap.size, 1, none⟩ v1).setCell ⟨w1.heap.size, 2, none⟩ v2).setCell ⟨w1.heap.size, 3, none⟩ v3).cell? ⟨B, 0, none⟩ = some (.int .u16 (v : Int)) ∧ ((((w5.setCell ⟨w1.heap.size, 0, none⟩ v0).setCell ⟨w1.heap.size, 1, none⟩ v1).setCell ⟨w1.heap.size, 2, none⟩ v2).setCell ⟨w1.heap.size, 3, none⟩ v3).cell? ⟨B, 1, none⟩ = some (.int .u32 (b : Int)) ∧ ((((w5.setCell ⟨w1.heap.size, 0, none⟩ v0).setCell ⟨w1.heap.size, 1, none⟩ v1).setCell ⟨w1.heap.size, 2, none⟩ v2).setCell ⟨w1.heap.size, 3, none⟩ v3).cell? ⟨B, 2, none⟩ = some (.int .u64 (s : Int)) ∧ ((((w5.setCell ⟨w1.heap.size, 0, none⟩ v0).setCell ⟨w1.heap.size, 1, none⟩ v1).setCell ⟨w1.heap.size, 2, none⟩ v2).setCell ⟨w1.heap.size, 3, none⟩ v3).cell? ⟨ph, 0, none⟩ = some (.pointer (some ⟨pt, 0, none⟩)) by
    have e : ∀ j, j ≠ w1.heap.size → ((((w5.setCell ⟨w1.heap.size, 0, none⟩ v0).setCell ⟨w1.heap.size, 1, none⟩ v1).setCell ⟨w1.heap.size, 2, none⟩ v2).setCell ⟨w1.heap.size, 3, none⟩ v3).heap[j]? = w5.heap[j]? := fun j hj => by
      rw [heap_setCell_other _ _ _ _ hj, heap_setCell_other _ _ _ _ hj, heap_setCell_other _ _ _ _ hj, heap_setCell_other _ _ _ _ hj]
    have e1 := e B (by omega)
    have e2 := e ph (by omega)
    exact ⟨(World.cell?_of_block e1).trans h5.1, (World.cell?_of_block e1).trans h5.2.1, (World.cell?_of_block e1).trans h5.2.2.1, (World.cell?_of_block e2).trans h5.2.2.2⟩)
  clear hphB hBB
  have HFa := Lib.hid (HF.out w1.drew (Below.drewB (Below.refl _ _)))
  have HFb := Lib.hid (HF.out wA.drew (Below.drewB hbA))
  clear HF hA hzA hbA
  cases hfl : floorE l (keyN v b s) with
  | none =>
    rw [hfl] at HFa HFb HAT
    unfold floorR at HFa HFb
    simp only at HFa HFb HAT
    clear hfl
    rw [hwA] at HFb HS6
    go_region_held (fun W' => W'.cell? ⟨B, 0, none⟩ = some (.int .u16 (v : Int)) ∧ W'.cell? ⟨B, 1, none⟩ = some (.int .u32 (b : Int)) ∧ W'.cell? ⟨B, 2, none⟩ = some (.int .u64 (s : Int)) ∧ W'.cell? ⟨ph, 0, none⟩ = some (.pointer (some ⟨pt, 0, none⟩))) (first | with_reducible exact hS6 | with_reducible exact hS | with_reducible exact HS7.out _ _ _ _ _ hS6 | go_keep)
      (first | (go_at_call 31; ((with_reducible refine HFa.out.mono ?_); rintro e w5 ⟨rfl, hb5⟩; have hS6 := HS5.out w5 hb5)) | (go_at_call 31; ((with_reducible refine HFb.out.mono ?_); rintro e w5 ⟨rfl, hb5⟩; obtain ⟨hS6, hE5, hb6⟩ := HS6.out w5 hb5; obtain ⟨t0, t1, t2, t3, tf⟩ := four hE5; have f0 := tf 0; have f1 := tf 1; have f2 := tf 2; have f3 := tf 3; clear tf)))
    all_goals
      have HBF : Hid (∀ w6, Below w1.heap.size w1 w6 → Below B w w6) := Lib.hid fun w6 h6 => HB0.out.trans (h6.mono (by have := HZ.out; omega))
      first
        | (have HG := Lib.hid (below_set4 hb6 (Nat.le_refl _) (.int .u16 0) (.int .u32 0) (.int .u64 0) (.int .u32 0))
           clear HS5 HS6 HS7 HSm HFa HFb hb6 hb5
           go_wp2_with fail
           go_ret
           exact ⟨by rw [HAT.out]; rfl, by rw [HBW.out]; exact HBF.out _ HG.out⟩)
        | (have HG := Lib.hid ((show Below w1.heap.size w1 w5 from ⟨hb5.os, hb5.tape, hb5.output, hb5.size, hb5.block⟩).alloc hb5.size (.cells #[.int .u16 0, .int .u32 0, .int .u64 0, .int .u32 0] 60))
           clear HS5 HS6 HS7 HSm HFa HFb hb5
           go_wp2_with fail
           go_ret
           exact ⟨by rw [HAT.out]; rfl, by rw [HBW.out]; exact HBF.out _ HG.out⟩)
  | some x =>
    rw [hfl] at HFa HFb HAT
    unfold floorR entV at HFa HFb
    simp only at HFa HFb HAT
    clear hfl
    rw [hwA] at HFb HS6
    go_region_held (fun W' => W'.cell? ⟨B, 0, none⟩ = some (.int .u16 (v : Int)) ∧ W'.cell? ⟨B, 1, none⟩ = some (.int .u32 (b : Int)) ∧ W'.cell? ⟨B, 2, none⟩ = some (.int .u64 (s : Int)) ∧ W'.cell? ⟨ph, 0, none⟩ = some (.pointer (some ⟨pt, 0, none⟩))) (first | with_reducible exact hS6 | with_reducible exact hS | with_reducible exact HS7.out _ _ _ _ _ hS6 | go_keep)
      (first | (go_at_call 31; ((with_reducible refine HFa.out.mono ?_); rintro e w5 ⟨rfl, hb5⟩; have hS6 := HS5.out w5 hb5)) | (go_at_call 31; ((with_reducible refine HFb.out.mono ?_); rintro e w5 ⟨rfl, hb5⟩; obtain ⟨hS6, hE5, hb6⟩ := HS6.out w5 hb5; obtain ⟨t0, t1, t2, t3, tf⟩ := four hE5; have f0 := tf 0; have f1 := tf 1; have f2 := tf 2; have f3 := tf 3; clear tf)))
    all_goals
      first
        | (have hx6 := heap_alloc_new w5 (.cells #[.int .u16 (kVol x.1 : Int), .int .u32 (kBlk x.1 : Int), .int .u64 (kSeq x.1 : Int), .int .u32 (x.2 : Int)] 60)
           have hb56 : Below w1.heap.size w1 (w5.alloc (.cells #[.int .u16 (kVol x.1 : Int), .int .u32 (kBlk x.1 : Int), .int .u64 (kSeq x.1 : Int), .int .u32 (x.2 : Int)] 60)) := (show Below w1.heap.size w1 w5 from ⟨hb5.os, hb5.tape, hb5.output, hb5.size, hb5.block⟩).alloc hb5.size _
           have u0 := cell_past hS6.1 (.cells #[.int .u16 (kVol x.1 : Int), .int .u32 (kBlk x.1 : Int), .int .u64 (kSeq x.1 : Int), .int .u32 (x.2 : Int)] 60)
           have u1 := cell_past hS6.2.1 (.cells #[.int .u16 (kVol x.1 : Int), .int .u32 (kBlk x.1 : Int), .int .u64 (kSeq x.1 : Int), .int .u32 (x.2 : Int)] 60)
           have u2 := cell_past hS6.2.2.1 (.cells #[.int .u16 (kVol x.1 : Int), .int .u32 (kBlk x.1 : Int), .int .u64 (kSeq x.1 : Int), .int .u32 (x.2 : Int)] 60)
           generalize (w5.alloc (.cells #[.int .u16 (kVol x.1 : Int), .int .u32 (kBlk x.1 : Int), .int .u64 (kSeq x.1 : Int), .int .u32 (x.2 : Int)] 60)) = w6 at *
           generalize w5.heap.size = xb at *)
        | (have hx6 := set4 hE5 (.int .u16 (kVol x.1 : Int)) (.int .u32 (kBlk x.1 : Int)) (.int .u64 (kSeq x.1 : Int)) (.int .u32 (x.2 : Int))
           obtain ⟨u0, u1, u2, -⟩ := HS7.out w5 (.int .u16 (kVol x.1 : Int)) (.int .u32 (kBlk x.1 : Int)) (.int .u64 (kSeq x.1 : Int)) (.int .u32 (x.2 : Int)) hS6
           have hb56 := below_set4 hb6 (Nat.le_refl _) (.int .u16 (kVol x.1 : Int)) (.int .u32 (kBlk x.1 : Int)) (.int .u64 (kSeq x.1 : Int)) (.int .u32 (x.2 : Int))
           generalize ((((w5.setCell ⟨w1.heap.size, 0, none⟩ (.int .u16 (kVol x.1 : Int))).setCell ⟨w1.heap.size, 1, none⟩ (.int .u32 (kBlk x.1 : Int))).setCell ⟨w1.heap.size, 2, none⟩ (.int .u64 (kSeq x.1 : Int))).setCell ⟨w1.heap.size, 3, none⟩ (.int .u32 (x.2 : Int))) = w6 at *
           clear t0 t1 t2 t3 f0 f1 f2 f3 hE5 hb6
           generalize hxb : w1.heap.size = xb at *
           rw [← hxb] at hb56 HZ
           clear hxb)
    all_goals
      obtain ⟨p0, p1, p2, p3⟩ : w6.cell? ⟨xb, 0, none⟩ = some (.int .u16 (kVol x.1 : Int)) ∧ w6.cell? ⟨xb, 1, none⟩ = some (.int .u32 (kBlk x.1 : Int)) ∧ w6.cell? ⟨xb, 2, none⟩ = some (.int .u64 (kSeq x.1 : Int)) ∧ w6.cell? ⟨xb, 3, none⟩ = some (.int .u32 (x.2 : Int)) := ⟨cell_of_row w6 xb 0 _ _ _ hx6, cell_of_row w6 xb 1 _ _ _ hx6, cell_of_row w6 xb 2 _ _ _ hx6, cell_of_row w6 xb 3 _ _ _ hx6⟩
      have HSx := Lib.hid (HSm.out x w6)
      have HB6 := Lib.hid hb56
      have HX6 := Lib.hid hx6
      rw [HV.out.1, HV.out.2] at HSx
      unfold keyV at HSx
      clear hb5 hS6 hS hx6 hb56 y0 y1 y2 r0 HS5 HS6 HS7 HSm HFa HFb
      by_cases hc : kVol x.1 = v ∧ kBlk x.1 = b
      · have hcb : (kVol x.1 == v && kBlk x.1 == b) = true := by rw [hc.1, hc.2]; simp
        rw [hcb] at HSx
        have HC := Lib.hid hc
        clear hc hcb
        go_wp2_with fail
        refine HSx.out.mono ?_
        rintro e w7 ⟨rfl, hb7⟩
        have p7 := (hb7.cell (World.block_lt_of_cell? _ _ p3)).trans p3
        have HB7 := Lib.hid hb7
        clear hb7 p0 p1 p2 p3 u0 u1 u2
        go_wp2_with fail
        go_ret
        refine ⟨by rw [HAT.out, if_pos HC.out]; rfl, by rw [HBW.out]; exact HB0.out.trans ((HB6.out.trans (HB7.out.mono HB6.out.size)).mono (by have := HZ.out; omega))⟩
      · have hcb : (kVol x.1 == v && kBlk x.1 == b) = false := by
          rw [Bool.and_eq_false_iff]
          by_cases h1 : kVol x.1 = v
          · exact .inr (by rw [beq_eq_false_iff_ne]; exact fun h2 => hc ⟨h1, h2⟩)
          · exact .inl (by rw [beq_eq_false_iff_ne]; exact h1)
        rw [hcb] at HSx
        have HC := Lib.hid hc
        clear hc hcb
        go_wp2_with fail
        refine HSx.out.mono ?_
        rintro e w7 ⟨rfl, hb7⟩
        have HB7 := Lib.hid hb7
        clear hb7 p0 p1 p2 p3 u0 u1 u2
        go_wp2_with fail
        go_ret
        refine ⟨by rw [HAT.out, if_neg HC.out]; rfl, by rw [HBW.out]; exact HB0.out.trans ((HB6.out.trans (HB7.out.mono HB6.out.size)).mono (by have := HZ.out; omega))⟩
end Go.Proofs.YtejhbaeeaejcaaaGreat
/- The walks of points.Needed and the document's Needed, of Shot. Conditions: those of each theorem. -/
namespace Go.Proofs.YtejhbaeeaejcaaaGreat
open Go.RowKit

def encS (n : Nat) : List Value := [.int .u64 (n : Int)]
theorem encS_len (e : Nat) : (encS e).length = 1 := rfl
theorem encS_one (e : Nat) : ∀ u ∈ encS e, u.oneCell' = true := fun u hu => by
  simp [encS] at hu
  subst hu; rfl
/-- Is a version still seen? -/
def neededB (ps : List Nat) (fl from' nxt : Nat) : Bool := decide (nxt = 0) || decide (fl < nxt) || ps.any fun p => decide (from' ≤ p) && decide (p < nxt)

set_option maxRecDepth 100000 in
set_option maxHeartbeats 4000000 in
theorem needed_any {w : World} {a : Option Addr} {n c : Nat} {ps : List Nat} (hp : RowE encS 1 w a n ps) (hn : n ≤ 1000000) (fl from' nxt : Nat) :
    Calls Tryz.prog 47 #[.slice a n c, .int .u64 (fl : Int), .int .u64 (from' : Int), .int .u64 (nxt : Int)] w fun e w' => e = .returned (.bool (neededB ps fl from' nxt)) ∧ w' = w := by
  have hpl := hp.1
  by_cases h0 : nxt = 0
  · have z0 : ((nxt : Int) == 0) = true := by rw [h0]; rfl
    have HF : Hid (neededB ps fl from' nxt = true) := Lib.hid (by unfold neededB; simp [h0])
    clear h0 hp hpl
    go_enter Tryz.func47, Tryz.ntmps47
    go_wp2_with fail
    go_ret
    exact ⟨by rw [HF.out]; rfl, rfl⟩
  · have z0 : ((nxt : Int) == 0) = false := by rw [beq_eq_false_iff_ne]; omega
    by_cases h1 : fl < nxt
    · have z1 : (fl : Int) < (nxt : Int) := by omega
      have HF : Hid (neededB ps fl from' nxt = true) := Lib.hid (by unfold neededB; simp [h1])
      clear h0 h1 hp hpl
      go_enter Tryz.func47, Tryz.ntmps47
      go_wp2_with fail
      go_ret
      exact ⟨by rw [HF.out]; rfl, rfl⟩
    · have z1 : ¬ ((fl : Int) < (nxt : Int)) := by omega
      have HN : Hid (neededB ps fl from' nxt = ps.any fun p => decide (from' ≤ p) && decide (p < nxt)) := Lib.hid (by unfold neededB; simp [h0, h1])
      have HP := Lib.hid hp
      have HL := Lib.hid hpl
      clear h0 h1 hp hpl
      go_enter Tryz.func47, Tryz.ntmps47
      go_wp2_with fail
      go_loop [20] (fun u => ∃ i : Nat, i ≤ n ∧ u = .int .i64 i ∧ (ps.take i).any (fun p => decide (from' ≤ p) && decide (p < nxt)) = false) (fun u => n - (intOf u).toNat)
      case atStart => exact ⟨0, by omega, rfl, rfl⟩
      case round =>
        obtain ⟨i, hi, rfl, hR⟩ := hrel
        have HR := Lib.hid hR
        clear hR
        by_cases hlt : i < n
        · have hi1 : (i : Int) < (n : Int) := by omega
          obtain ⟨x, hx⟩ : ∃ x, ps[i]? = some x := ⟨_, List.getElem?_eq_getElem (by have := HL.out; omega)⟩
          obtain ⟨b, o, rfl, hc⟩ := HP.out.2 i x hx
          have c0 := hc 0 _ rfl
          simp only [Nat.mul_one, Nat.add_zero] at c0
          have HX := Lib.hid hx
          have hgo : (decide (from' ≤ x) && decide (x < nxt)) = false → (ps.take (i + 1)).any (fun p => decide (from' ≤ p) && decide (p < nxt)) = false := fun hf => by
            rw [List.take_add_one, HX.out, List.any_append, HR.out]
            simp only [Option.toList_some, List.any_cons, List.any_nil, Bool.or_false, Bool.false_or]
            exact hf
          have HG := Lib.hid hgo
          clear hx hc hgo
          by_cases g1 : from' ≤ x
          · have y1 : (from' : Int) ≤ (x : Int) := by omega
            by_cases g2 : x < nxt
            · have y2 : (x : Int) < (nxt : Int) := by omega
              have HF : Hid (neededB ps fl from' nxt = true) := Lib.hid (by rw [HN.out, List.any_eq_true]; exact ⟨x, List.mem_of_getElem? HX.out, by simp [g1, g2]⟩)
              clear g1 g2
              go_wp2_with fail
              go_ret
              exact ⟨by rw [HF.out]; rfl, rfl⟩
            · have y2 : ¬ ((x : Int) < (nxt : Int)) := by omega
              have HF := Lib.hid (HG.out (by simp [g2]))
              clear g1 g2
              go_wp2_with fail
              go_round
              case rel => exact ⟨i + 1, by omega, by go_num, HF.out⟩
              case measure => simp [intOf]; omega
          · have y1 : ¬ ((from' : Int) ≤ (x : Int)) := by omega
            have HF := Lib.hid (HG.out (by simp [g1]))
            clear g1
            go_wp2_with fail
            go_round
            case rel => exact ⟨i + 1, by omega, by go_num, HF.out⟩
            case measure => simp [intOf]; omega
        · obtain rfl : n = i := by omega
          have HF : Hid (neededB ps fl from' nxt = false) := Lib.hid (by
            have h1 := HR.out
            rw [List.take_of_length_le (by have := HL.out; omega)] at h1
            rw [HN.out]; exact h1)
          go_wp2_with fail
          go_ret
          exact ⟨by rw [HF.out]; rfl, rfl⟩

set_option maxRecDepth 100000 in
set_option maxHeartbeats 4000000 in
theorem needed_ref {w : World} {a : Option Addr} {n c : Nat} {ps : List Nat} (hp : RowE encS 1 w a n ps) (hn : n ≤ 1000000) (fl from' nxt : Nat) :
    Calls Tryz.prog 45 #[.slice a n c, .int .u64 (fl : Int), .int .u64 (from' : Int), .int .u64 (nxt : Int)] w fun e w' => e = .returned (.bool (neededB ps fl from' nxt)) ∧ w' = w := by
  have hpl := hp.1
  by_cases h0 : nxt = 0
  · have z0 : ((nxt : Int) == 0) = true := by rw [h0]; rfl
    have HF : Hid (neededB ps fl from' nxt = true) := Lib.hid (by unfold neededB; simp [h0])
    clear h0 hp hpl
    go_enter Tryz.func45, Tryz.ntmps45
    go_wp2_with fail
    go_ret
    exact ⟨by rw [HF.out]; rfl, rfl⟩
  · have z0 : ((nxt : Int) == 0) = false := by rw [beq_eq_false_iff_ne]; omega
    by_cases h1 : fl < nxt
    · have z1 : (fl : Int) < (nxt : Int) := by omega
      have HF : Hid (neededB ps fl from' nxt = true) := Lib.hid (by unfold neededB; simp [h1])
      clear h0 h1 hp hpl
      go_enter Tryz.func45, Tryz.ntmps45
      go_wp2_with fail
      go_ret
      exact ⟨by rw [HF.out]; rfl, rfl⟩
    · have z1 : ¬ ((fl : Int) < (nxt : Int)) := by omega
      have HN : Hid (neededB ps fl from' nxt = ps.any fun p => decide (from' ≤ p) && decide (p < nxt)) := Lib.hid (by unfold neededB; simp [h0, h1])
      have HP := Lib.hid hp
      have HL := Lib.hid hpl
      clear h0 h1 hp hpl
      go_enter Tryz.func45, Tryz.ntmps45
      go_wp2_with fail
      go_loop [9] (fun u => ∃ i : Nat, i ≤ n ∧ u = .int .i64 i ∧ (ps.take i).any (fun p => decide (from' ≤ p) && decide (p < nxt)) = false) (fun u => n - (intOf u).toNat)
      case atStart => exact ⟨0, by omega, rfl, rfl⟩
      case round =>
        obtain ⟨i, hi, rfl, hR⟩ := hrel
        have HR := Lib.hid hR
        clear hR
        by_cases hlt : i < n
        · have hi1 : (i : Int) < (n : Int) := by omega
          obtain ⟨x, hx⟩ : ∃ x, ps[i]? = some x := ⟨_, List.getElem?_eq_getElem (by have := HL.out; omega)⟩
          obtain ⟨b, o, rfl, hc⟩ := HP.out.2 i x hx
          have c0 := hc 0 _ rfl
          simp only [Nat.mul_one, Nat.add_zero] at c0
          have HX := Lib.hid hx
          have hgo : (decide (from' ≤ x) && decide (x < nxt)) = false → (ps.take (i + 1)).any (fun p => decide (from' ≤ p) && decide (p < nxt)) = false := fun hf => by
            rw [List.take_add_one, HX.out, List.any_append, HR.out]
            simp only [Option.toList_some, List.any_cons, List.any_nil, Bool.or_false, Bool.false_or]
            exact hf
          have HG := Lib.hid hgo
          clear hx hc hgo
          by_cases g1 : from' ≤ x
          · have y1 : (from' : Int) ≤ (x : Int) := by omega
            by_cases g2 : x < nxt
            · have y2 : (x : Int) < (nxt : Int) := by omega
              have HF : Hid (neededB ps fl from' nxt = true) := Lib.hid (by rw [HN.out, List.any_eq_true]; exact ⟨x, List.mem_of_getElem? HX.out, by simp [g1, g2]⟩)
              clear g1 g2
              go_wp2_with fail
              go_ret
              exact ⟨by rw [HF.out]; rfl, rfl⟩
            · have y2 : ¬ ((x : Int) < (nxt : Int)) := by omega
              have HF := Lib.hid (HG.out (by simp [g2]))
              clear g1 g2
              go_wp2_with fail
              go_round
              case rel => exact ⟨i + 1, by omega, by go_num, HF.out⟩
              case measure => simp [intOf]; omega
          · have y1 : ¬ ((from' : Int) ≤ (x : Int)) := by omega
            have HF := Lib.hid (HG.out (by simp [g1]))
            clear g1
            go_wp2_with fail
            go_round
            case rel => exact ⟨i + 1, by omega, by go_num, HF.out⟩
            case measure => simp [intOf]; omega
        · obtain rfl : n = i := by omega
          have HF : Hid (neededB ps fl from' nxt = false) := Lib.hid (by
            have h1 := HR.out
            rw [List.take_of_length_le (by have := HL.out; omega)] at h1
            rw [HN.out]; exact h1)
          go_wp2_with fail
          go_ret
          exact ⟨by rw [HF.out]; rfl, rfl⟩

theorem OwnA.pushAt {w : World} {B : Nat} {v : Value} {l : List Nat} (h : OwnE encA 1 24 w B v l) (x : Nat) (hl : l.length ≤ 100000000) (hB : B ≤ w.heap.size) :
    ∃ v' w', (Builtin.append_ #[40, 40] 40 #[v, .slice (some ⟨w.heap.size, 0, none⟩) 1 1]).run Tryz.prog (w.alloc (.cells #[.int .u32 (x : Int)] 24)) = .ok v' w' ∧ OwnE encA 1 24 w' B v' (l ++ [x]) ∧ w.grownBy w' v.ownBlock := by
  obtain ⟨i0, hi, hz0, hz1, hz2⟩ := info_cut infoU32
  obtain ⟨v', w', hr, ho, hg, -, hat⟩ := run_append_own_at (P := Tryz.prog) (w.alloc (.cells #[.int .u32 (x : Int)] 24)) B 40 40 24 i0 _ 1 4 Tryz.underlying40 hi hz0 hz1 hz2 rfl (by decide) v l.length _ (h.alloc _) ⟨w.heap.size, 0, none⟩ 1 1 (cellsE encA [x]) rfl (RowE.cells encA_len (by decide) (RowE.new (enc := encA) w x 24)) (fun u hu => by
    obtain ⟨y, -, hy⟩ := List.mem_flatMap.1 hu
    exact encA_one y u hy) (by unfold maxLen; omega) (by omega) (by rw [World.alloc_size]; omega)
  refine ⟨v', w', hr, ?_, grown_of_alloc hg⟩
  unfold OwnE
  rw [cellsE_app, List.length_append]
  exact ho
set_option maxRecDepth 100000 in
set_option maxHeartbeats 4000000 in
theorem shot_any {w : World} {ph pt pa : Nat} {l : List En} {F : List Nat} {L : List Uc} {n : Nat} {E : Nat → Prop} (h : HistW w ph pt pa l F L n E) (hl : l.length ≤ 2000) (v s m : Nat) (hv : v < 65536) (hs : s < 18446744073709551616) (hm : m ≤ 100000) :
    Calls Tryz.prog 10 #[ptrV ph, .int .i64 (v : Int), .int .u64 (s : Int), .int .i64 (m : Int)] w fun e w' => ∃ r, e = .returned r ∧ OwnE encA 1 24 w' w.heap.size r ((List.range m).map fun b => atL l v b s) ∧ Below w.heap.size w w' := by
  have HH := Lib.hid h
  unfold ptrV
  clear h
  go_enter Tryz.func10, Tryz.ntmps10
  go_wp2_with fail
  go_loopw [9, 12] (fun u9 u12 wr => ∃ i : Nat, i ≤ m ∧ u12 = .int .i64 i ∧ OwnE encA 1 24 wr w.heap.size u9 ((List.range i).map fun b => atL l v b s) ∧ Below w.heap.size w wr) (fun _ u12 _ => m - (intOf u12).toNat)
  case atStart => exact ⟨0, by omega, rfl, World.ownsRow_nil _ _ _ _, Below.refl _ _⟩
  case round =>
    obtain ⟨i, hi, rfl, ho, hb⟩ := hrel
    by_cases hlt : i < m
    · have hi1 : (i : Int) < (m : Int) := by omega
      have HA := Lib.hid (at_any (HH.out.below hb) hl v i s hv (by omega) hs)
      have HO := Lib.hid ho
      have HB := Lib.hid hb
      unfold ptrV at HA
      clear ho hb
      go_wp2_with fail
      refine HA.out.mono ?_
      rintro e w5 ⟨rfl, hb5⟩
      have ho5 := HO.out.below (C := wr.heap.size) hb5 (Nat.le_refl _)
      have hb05 := HB.out.trans (hb5.mono HB.out.size)
      obtain ⟨v', w6, hr, ho6, hg⟩ := OwnA.pushAt ho5 (atL l v i s) (by simp; omega) hb05.size
      have hb6 := Below.own hb05 ho5 hg (Nat.le_refl _) hb05.size
      have HF := Lib.hid (And.intro ho6 hb6)
      clear ho5 hb05 ho6 hb6 hg hb5
      generalize hat : atL l v i s = x at *
      have HAT := Lib.hid hat
      clear hat
      go_wp2_with (at_builtin; refine wpList_append_run rfl _ _ _ rfl hr ?_)
      go_roundw
      case rel =>
        refine ⟨i + 1, by omega, by go_num, ?_, HF.out.2⟩
        rw [List.range_succ, List.map_append]
        show OwnE encA 1 24 w6 w.heap.size v' (_ ++ [atL l v i s])
        rw [HAT.out]
        exact HF.out.1
      case measure => simp [intOf]; omega
    · obtain rfl : m = i := by omega
      have HF := Lib.hid (And.intro ho hb)
      clear ho hb
      go_wp2_with fail
      go_ret
      exact ⟨_, rfl, HF.out.1, HF.out.2⟩
end Go.Proofs.YtejhbaeeaejcaaaGreat
/- The walks of history.Idle and Prune at a history in memory. Conditions: those of each theorem. -/
namespace Go.Proofs.YtejhbaeeaejcaaaGreat
open Go.RowKit

/-- The number of the next version of a block behind the one at a place; 0: there is none. -/
def nextV (all : List En) (i : Nat) : Nat :=
  match all[i]?, all[i + 1]? with
  | some e, some f => if kVol e.1 = kVol f.1 ∧ kBlk e.1 = kBlk f.1 then kSeq f.1 else 0
  | _, _ => 0
/-- Those of the first ones that aren't seen any more. -/
def idleTo (all : List En) (ps : List Nat) (fl : Nat) (i : Nat) : List En :=
  (List.range i).flatMap fun j => match all[j]? with
    | some e => if neededB ps fl (kSeq e.1) (nextV all j) then [] else [e]
    | none => []
def idleL (l : List En) (v : Nat) (ps : List Nat) (fl : Nat) : List En := idleTo (volL l v) ps fl (volL l v).length
theorem idleTo_succ (all : List En) (ps : List Nat) (fl i : Nat) {e : En} (he : all[i]? = some e) : idleTo all ps fl (i + 1) = idleTo all ps fl i ++ if neededB ps fl (kSeq e.1) (nextV all i) then [] else [e] := by
  unfold idleTo
  rw [List.range_succ, List.flatMap_append]
  simp only [List.flatMap_cons, List.flatMap_nil, List.append_nil, he]
theorem idleTo_sub (all : List En) (ps : List Nat) (fl : Nat) : ∀ i, (idleTo all ps fl i).Sublist (all.take i)
  | 0 => by simp [idleTo]
  | i + 1 => by
    cases he : all[i]? with
    | none =>
      have : idleTo all ps fl (i + 1) = idleTo all ps fl i := by
        unfold idleTo
        rw [List.range_succ, List.flatMap_append]
        simp only [List.flatMap_cons, List.flatMap_nil, List.append_nil, he]
      rw [this, List.take_add_one, he]
      simpa using idleTo_sub all ps fl i
    | some e =>
      rw [idleTo_succ all ps fl i he, List.take_add_one, he]
      refine (idleTo_sub all ps fl i).append ?_
      split <;> simp
theorem idleL_sub (l : List En) (v : Nat) (ps : List Nat) (fl : Nat) : (idleL l v ps fl).Sublist l := by
  refine ((idleTo_sub _ ps fl _).trans ?_).trans (List.filter_sublist (p := fun x => decide (kVol x.1 = v)) (l := l))
  exact List.take_sublist _ _

set_option maxRecDepth 100000 in
set_option maxHeartbeats 4000000 in
theorem idle_any {w : World} {ph pt pa : Nat} {l : List En} {F : List Nat} {L : List Uc} {n : Nat} {E : Nat → Prop} (h : HistW w ph pt pa l F L n E) (hl : l.length ≤ 2000) (v : Nat) (hv : v < 65536) {a : Option Addr} {m c : Nat} {ps : List Nat} (hp : RowE encS 1 w a m ps) (hm : m ≤ 1000000) (fl : Nat) :
    Calls Tryz.prog 26 #[ptrV ph, .int .i64 (v : Int), .slice a m c, .int .u64 (fl : Int)] w fun e w' => ∃ r, e = .returned r ∧ OwnE encN 4 60 w' w.heap.size r (idleL l v ps fl) ∧ Below w.heap.size w w' := by
  obtain ⟨r0, -⟩ := h.reads
  obtain ⟨S, D, h1, h2, h3, h4, h5⟩ := h.has
  have HV := Lib.hid (volume_any h2 hl v hv)
  have s1 : IntKind.u16.wrap (v : Int) = (v : Int) := by simp [IntKind.wrap, IntKind.signed, IntKind.bits]; omega
  have hlen : (volL l v).length ≤ 2000 := Nat.le_trans (List.length_filter_le _ _) hl
  have HP := Lib.hid hp
  unfold idleL
  unfold ptrV at *
  clear h h1 h2 h3 h4 h5 hp
  generalize volL l v = es at *
  go_enter Tryz.func26, Tryz.ntmps26
  go_wp2_with fail
  refine HV.out.mono ?_
  clear HV r0
  rintro e w1 ⟨r, rfl, hr, hb1⟩
  have HB := Lib.hid hb1
  have HR := Lib.hid hr
  obtain ⟨a1, cap, hra, hrow, hcap, -⟩ := hr.row encN_len
  have HA := Lib.hid hra
  have HC := Lib.hid hcap
  clear hb1 hr hrow hcap
  rw [hra]
  clear hra
  go_wp2_with fail
  go_loopw [9, 23] (fun u9 u23 wr => ∃ i : Nat, i ≤ es.length ∧ u23 = .int .i64 i ∧ OwnE encN 4 60 wr w1.heap.size u9 (idleTo es ps fl i) ∧ Below w1.heap.size w1 wr) (fun _ u23 _ => es.length - (intOf u23).toNat)
  case atStart => exact ⟨0, by omega, rfl, World.ownsRow_nil _ _ _ _, Below.refl _ _⟩
  case round =>
    obtain ⟨i, hi, rfl, ho, hb⟩ := hrel
    have HO := Lib.hid ho
    have HBr := Lib.hid hb
    clear ho hb
    by_cases hlt : i < es.length
    · have hi1 : (i : Int) < (es.length : Int) := by omega
      obtain ⟨x, hx⟩ : ∃ x, es[i]? = some x := ⟨_, List.getElem?_eq_getElem hlt⟩
      obtain ⟨a', cap', hra', hrow', hcap', hnew'⟩ := (HR.out.heap (w' := wr) fun g hg => HBr.out.block g (HR.out.lt g hg).2).row encN_len
      have HROW := Lib.hid hrow'
      obtain ⟨g, o, hag, hcells⟩ := hrow'.2 i x hx
      have hae := HA.out.symm.trans hra'
      simp only [Value.slice.injEq, true_and] at hae
      obtain ⟨rfl, rfl⟩ := hae
      subst hag
      have c0 := hcells 0 _ rfl
      have c1 := hcells 1 _ rfl
      have c2 := hcells 2 _ rfl
      have c3 := hcells 3 _ rfl
      simp only [Nat.add_zero] at c0
      obtain ⟨w2, hw2⟩ : ∃ w2, w2 = wr.alloc (.cells #[.int .u16 (kVol x.1 : Int), .int .u32 (kBlk x.1 : Int), .int .u64 (kSeq x.1 : Int), .int .u32 (x.2 : Int)] 60) := ⟨_, rfl⟩
      have hX : w2.heap[wr.heap.size]? = some (.cells #[.int .u16 (kVol x.1 : Int), .int .u32 (kBlk x.1 : Int), .int .u64 (kSeq x.1 : Int), .int .u32 (x.2 : Int)] 60 (0, 0)) := by rw [hw2]; exact heap_alloc_new wr _
      have hb2 : Below wr.heap.size wr w2 := by rw [hw2]; exact (Below.refl _ _).alloc (Nat.le_refl _) _
      have hz2 : w2.heap.size = wr.heap.size + 1 := by rw [hw2]; simp
      have HX := Lib.hid hX
      have HB2 := Lib.hid hb2
      have HZ2 := Lib.hid hz2
      have HHX := Lib.hid hx
      have sI : IntKind.i64.wrap ((i : Int) + 1) = ((i + 1 : Nat) : Int) := by rw [IntWalk.i64_in _ (by omega)]; omega
      clear hX hb2 hz2 hrow' hcells hra' hcap' hnew' hx
      obtain ⟨bb, hbb⟩ : ∃ bb : Bool, bb = decide (i + 1 < es.length ∧ ∀ y, es[i + 1]? = some y → kVol x.1 = kVol y.1 ∧ kBlk x.1 = kBlk y.1) := ⟨_, rfl⟩
      have HBBB := Lib.hid hbb
      clear hbb
      go_upto_region 7 with fail
      rw [← hw2]
      clear hw2
      go_cut [43] from 28 to 63 (fun u43 wx => u43 = .bool bb ∧ Below w2.heap.size w2 wx)
      case first =>
        by_cases hlast : i + 1 < es.length
        · obtain ⟨y, hy⟩ : ∃ y, es[i + 1]? = some y := ⟨_, List.getElem?_eq_getElem hlast⟩
          obtain ⟨g', o', hag', hcells'⟩ := HROW.out.2 (i + 1) y hy
          cases hag'
          have d0 := (HB2.out.cell (World.block_lt_of_cell? _ _ (hcells' 0 _ rfl))).trans (hcells' 0 _ rfl)
          have d1 := (HB2.out.cell (World.block_lt_of_cell? _ _ (hcells' 1 _ rfl))).trans (hcells' 1 _ rfl)
          have d2 := (HB2.out.cell (World.block_lt_of_cell? _ _ (hcells' 2 _ rfl))).trans (hcells' 2 _ rfl)
          simp only [Nat.add_zero] at d0
          obtain ⟨y0, y1, y2⟩ : w2.cell? ⟨wr.heap.size, 0, none⟩ = some (.int .u16 (kVol x.1 : Int)) ∧ w2.cell? ⟨wr.heap.size, 1, none⟩ = some (.int .u32 (kBlk x.1 : Int)) ∧ w2.cell? ⟨wr.heap.size, 2, none⟩ = some (.int .u64 (kSeq x.1 : Int)) := ⟨cell_of_row w2 _ 0 _ _ _ HX.out, cell_of_row w2 _ 1 _ _ _ HX.out, cell_of_row w2 _ 2 _ _ _ HX.out⟩
          have HSm := Lib.hid (same_any x.1 y.1 w2.drew)
          have hval : (kVol x.1 == kVol y.1 && kBlk x.1 == kBlk y.1) = bb := by
            rw [HBBB.out, Bool.eq_iff_iff]
            simp only [Bool.and_eq_true, beq_iff_eq, decide_eq_true_eq, hy, Option.some.injEq]
            constructor
            · rintro h
              exact ⟨hlast, fun z hz => by rw [← hz]; exact h⟩
            · rintro ⟨-, h⟩
              exact h y rfl
          rw [hval] at HSm
          have hSS : ∀ W, Below w2.drew.heap.size w2.drew W → W.cell? ⟨wr.heap.size, 0, none⟩ = some (.int .u16 (kVol x.1 : Int)) ∧ W.cell? ⟨wr.heap.size, 1, none⟩ = some (.int .u32 (kBlk x.1 : Int)) ∧ W.cell? ⟨wr.heap.size, 2, none⟩ = some (.int .u64 (kSeq x.1 : Int)) ∧ W.cell? ⟨g, o + (i + 1) * 4, none⟩ = some (.int .u16 (kVol y.1 : Int)) ∧ W.cell? ⟨g, o + (i + 1) * 4 + 1, none⟩ = some (.int .u32 (kBlk y.1 : Int)) ∧ W.cell? ⟨g, o + (i + 1) * 4 + 2, none⟩ = some (.int .u64 (kSeq y.1 : Int)) := fun W h5 =>
            ⟨(h5.cell (World.block_lt_of_cell? _ _ y0)).trans y0, (h5.cell (World.block_lt_of_cell? _ _ y1)).trans y1, (h5.cell (World.block_lt_of_cell? _ _ y2)).trans y2, (h5.cell (World.block_lt_of_cell? _ _ d0)).trans d0, (h5.cell (World.block_lt_of_cell? _ _ d1)).trans d1, (h5.cell (World.block_lt_of_cell? _ _ d2)).trans d2⟩
          have HSS := Lib.hid hSS
          have hS := hSS w2.drew (Below.refl _ _)
          have g1 : (((i + 1 : Nat) : Int) < (es.length : Int)) := by omega
          have g0 : (0 : Int) ≤ ((i + 1 : Nat) : Int) := by omega
          unfold keyV at HSm
          clear hval hSS y0 y1 y2 d0 d1 d2 hcells' hy hlast c0 c1 c2 c3 HR HROW
          generalize i + 1 = i1 at *
          generalize es.length = m' at *
          go_region_held (fun W => W.cell? ⟨wr.heap.size, 0, none⟩ = some (.int .u16 (kVol x.1 : Int)) ∧ W.cell? ⟨wr.heap.size, 1, none⟩ = some (.int .u32 (kBlk x.1 : Int)) ∧ W.cell? ⟨wr.heap.size, 2, none⟩ = some (.int .u64 (kSeq x.1 : Int)) ∧ W.cell? ⟨g, o + i1 * 4, none⟩ = some (.int .u16 (kVol y.1 : Int)) ∧ W.cell? ⟨g, o + i1 * 4 + 1, none⟩ = some (.int .u32 (kBlk y.1 : Int)) ∧ W.cell? ⟨g, o + i1 * 4 + 2, none⟩ = some (.int .u64 (kSeq y.1 : Int))) (first | with_reducible exact hS6 | with_reducible exact hS)
            (first | (go_at_call 32; refine HSm.out.mono ?_; rintro e w5 ⟨rfl, hb5⟩; have hS6 := HSS.out w5 hb5))
          all_goals
            go_wp2_with fail
            go_meet
            case rel => exact ⟨rfl, ⟨hb5.os, hb5.tape, hb5.output, hb5.size, hb5.block⟩⟩
        · have g1 : ¬ (((i + 1 : Nat) : Int) < (es.length : Int)) := by omega
          have hval : bb = false := by
            rw [HBBB.out]
            exact decide_eq_false fun h => hlast h.1
          have HVAL := Lib.hid hval
          clear hval hlast c0 c1 c2 c3 HR HROW
          generalize i + 1 = i1 at *
          generalize es.length = m' at *
          go_quiet (fail)
          go_wp2_with fail
          go_meet
          case rel => exact ⟨by rw [HVAL.out], ⟨rfl, rfl, rfl, Nat.le_refl _, fun _ _ => rfl⟩⟩
      case rest =>
        obtain ⟨rfl, hbx⟩ := hcut
        have HBX := Lib.hid (HB2.out.trans (hbx.mono HB2.out.size))
        have HBx2 := Lib.hid hbx
        clear hbx c0 c1 c2 c3
        go_upto_if 43 with fail
        go_cut [13] from 44 to 63 (fun u13 wx => u13 = .int .u64 (nextV es i : Nat) ∧ wx = wc)
        case first =>
          cases bb with
          | true =>
            obtain ⟨hlast, hsame⟩ := of_decide_eq_true HBBB.out.symm
            obtain ⟨y, hy⟩ : ∃ y, es[i + 1]? = some y := ⟨_, List.getElem?_eq_getElem hlast⟩
            obtain ⟨g', o', hag', hcells'⟩ := HROW.out.2 (i + 1) y hy
            cases hag'
            have d2 := (HBX.out.cell (World.block_lt_of_cell? _ _ (hcells' 2 _ rfl))).trans (hcells' 2 _ rfl)
            have hnv : nextV es i = kSeq y.1 := by
              unfold nextV
              rw [HHX.out, hy]
              exact if_pos (hsame y hy)
            have HNV := Lib.hid hnv
            have g1 : (((i + 1 : Nat) : Int) < (es.length : Int)) := by omega
            have g0 : (0 : Int) ≤ ((i + 1 : Nat) : Int) := by omega
            clear hnv hcells' hy hlast hsame HR HROW HBBB
            generalize i + 1 = i1 at *
            generalize es.length = m' at *
            go_wp2_with fail
            go_meet
            case rel => exact ⟨by rw [HNV.out], rfl⟩
          | false =>
            have hnv : nextV es i = 0 := by
              unfold nextV
              rw [HHX.out]
              cases hy : es[i + 1]? with
              | none => rfl
              | some y =>
                have := of_decide_eq_false HBBB.out.symm
                refine if_neg fun h => this ⟨(List.getElem?_eq_some_iff.1 hy).1, fun z hz => ?_⟩
                rw [hy] at hz
                cases hz
                exact h
            have HNV := Lib.hid hnv
            clear hnv
            go_wp2_with fail
            go_meet
            case rel => exact ⟨by rw [HNV.out]; rfl, rfl⟩
        case rest =>
          obtain ⟨rfl, rfl⟩ := hcut
          have hxc := (HBx2.out.block wr.heap.size (by have := HZ2.out; omega)).trans HX.out
          obtain ⟨y0, y1, y2, y3⟩ : wc.cell? ⟨wr.heap.size, 0, none⟩ = some (.int .u16 (kVol x.1 : Int)) ∧ wc.cell? ⟨wr.heap.size, 1, none⟩ = some (.int .u32 (kBlk x.1 : Int)) ∧ wc.cell? ⟨wr.heap.size, 2, none⟩ = some (.int .u64 (kSeq x.1 : Int)) ∧ wc.cell? ⟨wr.heap.size, 3, none⟩ = some (.int .u32 (x.2 : Int)) := ⟨cell_of_row wc _ 0 _ _ _ hxc, cell_of_row wc _ 1 _ _ _ hxc, cell_of_row wc _ 2 _ _ _ hxc, cell_of_row wc _ 3 _ _ _ hxc⟩
          have hb1c : Below w1.heap.size w1 wc := HBr.out.trans (HBX.out.mono HBr.out.size)
          have hpc : RowE encS 1 wc a m ps := (HP.out.below HB.out (Nat.le_refl _)).below hb1c (Nat.le_refl _)
          have HND := Lib.hid (needed_any hpc (c := c) hm fl (kSeq x.1) (nextV es i))
          have hsu := idleTo_succ es ps fl i HHX.out
          have hoc := HO.out.below (C := wr.heap.size) HBX.out (Nat.le_refl _)
          have hlI : (idleTo es ps fl i).length ≤ 2000 := by
            have := (idleTo_sub es ps fl i).length_le
            rw [List.length_take] at this
            omega
          obtain ⟨v', w6, hr6, ho6, hg6⟩ := hoc.push x (by omega) hb1c.size
          have hb6 := Below.own hb1c hoc hg6 (Nat.le_refl _) hb1c.size
          have hr6' : (Builtin.append_ #[36, 36] 36 #[u9, .slice (some ⟨wc.heap.size, 0, none⟩) 1 1]).run Tryz.prog (wc.alloc (.cells #[.int .u16 (kVol x.1 : Int), .int .u32 (kBlk x.1 : Int), .int .u64 (kSeq x.1 : Int), .int .u32 (x.2 : Int)] 60)) = .ok v' w6 := hr6
          clear hr6 hxc hpc hlI
          cases hnd : neededB ps fl (kSeq x.1) (nextV es i) with
          | true =>
            rw [hnd] at HND hsu
            have HSU := Lib.hid (And.intro hsu (And.intro hoc hb1c))
            clear hsu hoc hb1c ho6 hg6 hb6 hr6' hnd
            go_wp2_with fail
            refine HND.out.mono ?_
            rintro e w5 ⟨rfl, rfl⟩
            go_wp2_with fail
            go_roundw
            case rel =>
              refine ⟨i + 1, by omega, by go_num, ?_, HSU.out.2.2⟩
              rw [HSU.out.1]
              simpa using HSU.out.2.1
            case measure => simp [intOf]; omega
          | false =>
            rw [hnd] at HND hsu
            have HSU := Lib.hid (And.intro hsu (And.intro ho6 hb6))
            clear hsu hoc hb1c ho6 hg6 hb6 hnd
            go_wp2_with fail
            refine HND.out.mono ?_
            rintro e w5 ⟨rfl, rfl⟩
            go_wp2_with (at_builtin; refine wpList_append_run rfl _ _ _ rfl hr6' ?_)
            go_roundw
            case rel =>
              refine ⟨i + 1, by omega, by go_num, ?_, HSU.out.2.2⟩
              rw [HSU.out.1]
              exact HSU.out.2.1
            case measure => simp [intOf]; omega
    · obtain rfl : i = es.length := by omega
      have HF := Lib.hid (And.intro (OwnE.base HO.out HB.out.size) (HB.out.trans (HBr.out.mono HB.out.size)))
      go_wp2_with fail
      go_ret
      exact ⟨_, rfl, HF.out.1, HF.out.2⟩

set_option maxRecDepth 100000 in
set_option maxHeartbeats 4000000 in
theorem prune_any {w : World} {ph pt pa : Nat} {l : List En} {F : List Nat} {L : List Uc} {n : Nat} {E : Nat → Prop} (h : HistW w ph pt pa l F L n E) (hI : HInv n l F L) (hf : Fit l) (hl : l.length ≤ 2000) (hn : n ≤ 4096) (v : Nat) (hv : v < 65536) {a : Option Addr} {m c : Nat} {ps : List Nat} (hp : RowE encS 1 w a m ps) (hm : m ≤ 1000000) (fl : Nat) :
    Calls Tryz.prog 11 #[ptrV ph, .int .i64 (v : Int), .slice a m c, .int .u64 (fl : Int)] w fun e w' => e = .returned (.int .i64 ((idleL l v ps fl).length : Int)) ∧ HO ph pt pa n E w (delAll l (idleL l v ps fl)) w' := by
  have hrise := h.rise
  have hE := h.lt
  have HV := Lib.hid (idle_any h hl v hv (c := c) hp hm fl)
  have HH := Lib.hid (And.intro h (And.intro hI (And.intro hE hrise)))
  have hlen : (idleL l v ps fl).length ≤ 2000 := Nat.le_trans (idleL_sub l v ps fl).length_le hl
  have hsub : ∀ e ∈ idleL l v ps fl, e ∈ l := fun e he => (idleL_sub l v ps fl).subset he
  have hnd : (idleL l v ps fl).Nodup := (rise_nodup hrise).sublist (idleL_sub l v ps fl)
  have HN := Lib.hid (And.intro hsub hnd)
  unfold ptrV at *
  clear h hI hE hrise hsub hnd hp
  generalize hes : idleL l v ps fl = es at *
  have HES := Lib.hid hes
  clear hes
  go_enter Tryz.func11, Tryz.ntmps11
  go_wp2_with fail
  refine HV.out.mono ?_
  clear HV
  rintro e w1 ⟨r, rfl, hr, hb1⟩
  have HB := Lib.hid hb1
  have HR := Lib.hid hr
  obtain ⟨a1, cap, hra, hrow, hcap, -⟩ := hr.row encN_len
  have HA := Lib.hid hra
  clear hb1 hr hrow hcap
  rw [hra]
  clear hra
  go_wp2_with fail
  obtain ⟨hh, hI, hE, hrise⟩ := HH.out
  go_loopw [19] (fun u19 wr => ∃ i : Nat, i ≤ es.length ∧ u19 = .int .i64 i ∧ HO ph pt pa n E w1 (delAll l (es.take i)) wr) (fun u19 _ => es.length - (intOf u19).toNat)
  case atStart => exact ⟨0, by omega, rfl, F, L, HT.refl (hh.below HB.out), hI⟩
  case round =>
    obtain ⟨i, hi, rfl, hO⟩ := hrel
    by_cases hlt : i < es.length
    · have hi1 : (i : Int) < (es.length : Int) := by omega
      obtain ⟨x, hx⟩ : ∃ x, es[i]? = some x := ⟨_, List.getElem?_eq_getElem hlt⟩
      have hO' := hO
      obtain ⟨F', L', ⟨E', k1, k2, k3⟩, hI'⟩ := hO'
      obtain ⟨a', cap', hra', hrow', -⟩ := (HR.out.far k3 hE).row encN_len
      obtain ⟨g, o, hag, hcells⟩ := hrow'.2 i x hx
      have hae := HA.out.symm.trans hra'
      simp only [Value.slice.injEq, true_and] at hae
      obtain ⟨rfl, rfl⟩ := hae
      subst hag
      have c0 := hcells 0 _ rfl
      have c1 := hcells 1 _ rfl
      have c2 := hcells 2 _ rfl
      have c3 := hcells 3 _ rfl
      simp only [Nat.add_zero] at c0
      have HC := Lib.hid (cut_step hO hrise HN.out.1 HN.out.2 hf hl hn hx)
      unfold ptrV entV at HC
      clear hO k1 k2 k3 hI' hrow' hcells hra' hx
      generalize es.length = m at *
      go_wp2_with fail
      refine HC.out.mono ?_
      rintro e w5 ⟨rfl, hO⟩
      have HOO := Lib.hid hO
      clear hO
      go_wp2_with fail
      go_roundw
      case rel => exact ⟨i + 1, by omega, by go_num, HOO.out⟩
      case measure => simp [intOf]; omega
    · obtain rfl : i = es.length := by omega
      rw [List.take_of_length_le (Nat.le_refl _)] at hO
      have HOO := Lib.hid (hO.pre HB.out hE)
      clear hO
      go_wp2_with fail
      go_ret
      exact ⟨rfl, HOO.out⟩
end Go.Proofs.YtejhbaeeaejcaaaGreat
/- Keys and entries compared; slices.Equal at entries and at blocks, slices.Contains at numbers. Conditions: those of each theorem. -/
namespace Go.Proofs.YtejhbaeeaejcaaaGreat
open Go.RowKit

theorem partK0 (x y z : Int) (w : World) : (part 23 #[.int .u16 x, .int .u32 y, .int .u64 z] 0).run Tryz.prog w = .ok (.int .u16 x) w := by kernel_rfl
theorem partK1 (x y z : Int) (w : World) : (part 24 #[.int .u16 x, .int .u32 y, .int .u64 z] 1).run Tryz.prog w = .ok (.int .u32 y) w := by kernel_rfl
theorem partK2 (x y z : Int) (w : World) : (part 25 #[.int .u16 x, .int .u32 y, .int .u64 z] 2).run Tryz.prog w = .ok (.int .u64 z) w := by kernel_rfl
theorem heldK : Tryz.prog.stoodInHeld 27 = false := by kernel_rfl
theorem fieldsK : (Tryz.prog.fieldsOf 27).toList.map (fun f => (f.name != "_", f.type, f.offset)) = [(true, 23, 0), (true, 24, 1), (true, 25, 2)] := by kernel_rfl
theorem undK : Tryz.prog.underlying 27 = some (.struct (Tryz.prog.fieldsOf 27)) := by kernel_rfl
theorem eqFieldsK (P : Program) (t1 t2 t3 : TypeId) (d : Nat) (xs ys : Array Value) (fs : List Field) (w : World) (x y z u v s : Int) (hf : fs.map (fun f => (f.name != "_", f.type, f.offset)) = [(true, t1, 0), (true, t2, 1), (true, t3, 2)])
    (h1 : P.underlying t1 = some (.int .u16)) (h2 : P.underlying t2 = some (.int .u32)) (h3 : P.underlying t3 = some (.int .u64))
    (a0 : (part t1 xs 0).run P w = .ok (.int .u16 x) w) (a1 : (part t2 xs 1).run P w = .ok (.int .u32 y) w) (a2 : (part t3 xs 2).run P w = .ok (.int .u64 z) w) (b0 : (part t1 ys 0).run P w = .ok (.int .u16 u) w) (b1 : (part t2 ys 1).run P w = .ok (.int .u32 v) w) (b2 : (part t3 ys 2).run P w = .ok (.int .u64 s) w) :
    (Op.eqFields (d + 1) xs ys fs).run P w = .ok (x == u && (y == v && z == s)) w := by
  obtain ⟨f, g, h, rfl⟩ : ∃ f g h, fs = [f, g, h] := by
    have hl := congrArg List.length hf
    rw [List.length_map] at hl
    rcases fs with _ | ⟨f, _ | ⟨g, _ | ⟨h, _ | ⟨q, r⟩⟩⟩⟩
    · simp at hl
    · simp at hl
    · simp at hl
    · exact ⟨f, g, h, rfl⟩
    · simp at hl
  · simp only [List.map_cons, List.map_nil, List.cons.injEq, Prod.mk.injEq, bne_iff_ne, ne_eq, and_true] at hf
    obtain ⟨⟨n0, t0, o0⟩, ⟨n1, t1, o1⟩, n2, t2, o2⟩ := hf
    have r0 := run_equalIn_int (P := P) w d _ .u16 .u16 x u h1
    have r1 := run_equalIn_int (P := P) w d _ .u32 .u32 y v h2
    have r2 := run_equalIn_int (P := P) w d _ .u64 .u64 z s h3
    simp only [Op.eqFields, Sem.run_bind, t0, t1, t2, o0, o1, o2, a0, a1, a2, b0, b1, b2, r0, r1, r2, Result.andThen_ok, n0, n1, n2, Sem.run_ite, ne_eq, not_false_eq_true, if_true, Sem.run_pure]
    by_cases h0 : x = u
    · by_cases h1 : y = v
      · by_cases h2 : z = s <;> simp [h0, h1, h2]
      · simp [h0, h1]
    · simp [h0]
theorem eqK (d : Nat) (x y z u v s : Int) (w : World) : (Op.equalIn (d + 2) 27 (.agg #[.int .u16 x, .int .u32 y, .int .u64 z]) (.agg #[.int .u16 u, .int .u32 v, .int .u64 s])).run Tryz.prog w = .ok (x == u && (y == v && z == s)) w := by
  rw [run_equalIn_struct w (d + 1) _ _ _ undK heldK]
  exact eqFieldsK Tryz.prog _ _ _ d _ _ _ w x y z u v s fieldsK Tryz.underlying23 Tryz.underlying24 Tryz.underlying25 (partK0 x y z w) (partK1 x y z w) (partK2 x y z w) (partK0 u v s w) (partK1 u v s w) (partK2 u v s w)
theorem key_eq_iff (a b : Nat) : ((kVol a : Int) == (kVol b : Int) && ((kBlk a : Int) == (kBlk b : Int) && (kSeq a : Int) == (kSeq b : Int))) = decide (a = b) := by
  rw [Bool.eq_iff_iff]
  simp only [Bool.and_eq_true, beq_iff_eq, decide_eq_true_eq]
  constructor
  · rintro ⟨h1, h2, h3⟩
    rw [← keyN_of a, ← keyN_of b]
    rw [show kVol a = kVol b by omega, show kBlk a = kBlk b by omega, show kSeq a = kSeq b by omega]
  · rintro rfl
    exact ⟨rfl, rfl, rfl⟩
theorem neqKey (a b : Nat) (w : World) : (binOp .neq 27 (.agg #[.int .u16 (kVol a : Int), .int .u32 (kBlk a : Int), .int .u64 (kSeq a : Int)]) (.agg #[.int .u16 (kVol b : Int), .int .u32 (kBlk b : Int), .int .u64 (kSeq b : Int)])).run Tryz.prog w = .ok (.bool (!decide (a = b))) w := by
  rw [run_neq_struct, eqK 9998, key_eq_iff]
  rfl
theorem partE0 (x y z n : Int) (w : World) : (part 27 #[.int .u16 x, .int .u32 y, .int .u64 z, .int .u32 n] 0).run Tryz.prog w = .ok (.agg #[.int .u16 x, .int .u32 y, .int .u64 z]) w := by kernel_rfl
theorem partE3 (x y z n : Int) (w : World) : (part 24 #[.int .u16 x, .int .u32 y, .int .u64 z, .int .u32 n] 3).run Tryz.prog w = .ok (.int .u32 n) w := by kernel_rfl
theorem heldE : Tryz.prog.stoodInHeld 60 = false := by kernel_rfl
theorem fieldsE : (Tryz.prog.fieldsOf 60).toList.map (fun f => (f.name != "_", f.type, f.offset)) = [(true, 27, 0), (true, 24, 3)] := by kernel_rfl
theorem undE : Tryz.prog.underlying 60 = some (.struct (Tryz.prog.fieldsOf 60)) := by kernel_rfl
theorem eqFieldsE (P : Program) (tk t2 : TypeId) (d : Nat) (xs ys : Array Value) (fs : List Field) (w : World) (s u : Value) (y v : Int) (r : Bool) (hf : fs.map (fun f => (f.name != "_", f.type, f.offset)) = [(true, tk, 0), (true, t2, 3)]) (h2 : P.underlying t2 = some (.int .u32))
    (a0 : (part tk xs 0).run P w = .ok s w) (a1 : (part t2 xs 3).run P w = .ok (.int .u32 y) w) (b0 : (part tk ys 0).run P w = .ok u w) (b1 : (part t2 ys 3).run P w = .ok (.int .u32 v) w) (hr : (Op.equalIn (d + 1) tk s u).run P w = .ok r w) :
    (Op.eqFields (d + 1) xs ys fs).run P w = .ok (r && y == v) w := by
  obtain ⟨f, g, rfl⟩ : ∃ f g, fs = [f, g] := by
    have hl := congrArg List.length hf
    rw [List.length_map] at hl
    rcases fs with _ | ⟨f, _ | ⟨g, _ | ⟨q, r⟩⟩⟩
    · simp at hl
    · simp at hl
    · exact ⟨f, g, rfl⟩
    · simp at hl
  · simp only [List.map_cons, List.map_nil, List.cons.injEq, Prod.mk.injEq, bne_iff_ne, ne_eq, and_true] at hf
    obtain ⟨⟨n0, t0, o0⟩, n1, t1, o1⟩ := hf
    have r1 := run_equalIn_int (P := P) w d _ .u32 .u32 y v h2
    simp only [Op.eqFields, Sem.run_bind, t0, t1, o0, o1, a0, a1, b0, b1, hr, r1, Result.andThen_ok, n0, n1, Sem.run_ite, ne_eq, not_false_eq_true, if_true, Sem.run_pure]
    cases r
    · simp
    · by_cases h1 : y = v <;> simp [h1]
theorem neqEn (a b : En) (w : World) : (binOp .neq 60 (.agg #[.int .u16 (kVol a.1 : Int), .int .u32 (kBlk a.1 : Int), .int .u64 (kSeq a.1 : Int), .int .u32 (a.2 : Int)]) (.agg #[.int .u16 (kVol b.1 : Int), .int .u32 (kBlk b.1 : Int), .int .u64 (kSeq b.1 : Int), .int .u32 (b.2 : Int)])).run Tryz.prog w = .ok (.bool (!decide (a = b))) w := by
  have hr := eqK 9997 (kVol a.1) (kBlk a.1) (kSeq a.1) (kVol b.1) (kBlk b.1) (kSeq b.1) w
  rw [key_eq_iff] at hr
  rw [run_neq_struct, run_equalIn_struct w 9999 _ _ _ undE heldE, eqFieldsE Tryz.prog _ _ 9998 _ _ _ w _ _ _ _ _ fieldsE Tryz.underlying24 (partE0 _ _ _ _ w) (partE3 _ _ _ _ w) (partE0 _ _ _ _ w) (partE3 _ _ _ _ w) hr]
  have e : (decide (a.1 = b.1) && ((a.2 : Int) == (b.2 : Int))) = decide (a = b) := by
    rw [Bool.eq_iff_iff]
    simp only [Bool.and_eq_true, beq_iff_eq, decide_eq_true_eq]
    constructor
    · rintro ⟨h1, h2⟩
      exact Prod.ext h1 (by omega)
    · rintro rfl
      exact ⟨rfl, rfl⟩
  rw [e]
  rfl
theorem neqU (x y : Nat) (w : World) : (binOp .neq 24 (.int .u32 (x : Int)) (.int .u32 (y : Int))).run Tryz.prog w = .ok (.bool (!decide (x = y))) w := by
  have : ((x : Int) != (y : Int)) = !decide (x = y) := by
    rw [Bool.eq_iff_iff]
    simp only [bne_iff_ne, ne_eq, Bool.not_eq_true', decide_eq_false_iff_not]
    omega
  simp [go_sem, this]
theorem take_eq_ext {α : Type} {l l' : List α} {i : Nat} {x y : α} (h : l.take i = l'.take i) (hx : l[i]? = some x) (hy : l'[i]? = some y) : l.take (i + 1) = l'.take (i + 1) ↔ x = y := by
  rw [List.take_add_one, List.take_add_one, h, hx, hy]
  simp

set_option maxRecDepth 100000 in
set_option maxHeartbeats 4000000 in
theorem equalE_any {w : World} {a a' : Option Addr} {n n' c c' : Nat} {l l' : List En} (h : RowE encN 4 w a n l) (h' : RowE encN 4 w a' n' l') (hn : n ≤ 1000000) :
    Calls Tryz.prog 25 #[.slice a n c, .slice a' n' c'] w fun e w' => e = .returned (.bool (decide (l = l'))) ∧ ∃ q, w' = w.drewN q := by
  have hl := h.1
  have hl' := h'.1
  by_cases hnn : n = n'
  · subst hnn
    have z0 : ((n : Int) != (n : Int)) = false := by simp
    have H := Lib.hid h
    have H' := Lib.hid h'
    have HL := Lib.hid (And.intro hl hl')
    clear h h' hl hl'
    go_enter Tryz.func25, Tryz.ntmps25
    go_wp2_with fail
    go_loopw [13] (fun u wr => ∃ (i q : Nat), i ≤ n ∧ u = .int .i64 i ∧ l.take i = l'.take i ∧ wr = w.drewN q) (fun u _ => n - (intOf u).toNat)
    case atStart => exact ⟨0, 0, by omega, rfl, rfl, rfl⟩
    case round =>
      obtain ⟨i, q, hi, rfl, hR, rfl⟩ := hrel
      have HR := Lib.hid hR
      clear hR
      by_cases hlt : i < n
      · have hi1 : (i : Int) < (n : Int) := by omega
        have hi0 : (0 : Int) ≤ (i : Int) := by omega
        obtain ⟨x, hx⟩ : ∃ x, l[i]? = some x := ⟨_, List.getElem?_eq_getElem (by have := HL.out.1; omega)⟩
        obtain ⟨y, hy⟩ : ∃ y, l'[i]? = some y := ⟨_, List.getElem?_eq_getElem (by have := HL.out.2; omega)⟩
        obtain ⟨b, o, rfl, hc⟩ := H.out.2 i x hx
        obtain ⟨b', o', rfl, hd⟩ := H'.out.2 i y hy
        have c0 := hc 0 _ rfl
        have c1 := hc 1 _ rfl
        have c2 := hc 2 _ rfl
        have c3 := hc 3 _ rfl
        have d0 := hd 0 _ rfl
        have d1 := hd 1 _ rfl
        have d2 := hd 2 _ rfl
        have d3 := hd 3 _ rfl
        simp only [Nat.add_zero] at c0 d0
        have hq := neqEn x y
        have HE := Lib.hid (take_eq_ext HR.out hx hy)
        have HXY := Lib.hid (And.intro hx hy)
        clear hx hy hc hd
        by_cases hxy : x = y
        · rw [decide_eq_true hxy] at hq
          have HF := Lib.hid (HE.out.2 hxy)
          clear hxy
          go_wp2_with fail
          go_quiet (fail)
          go_wp2_with fail
          go_roundw
          case rel => exact ⟨i + 1, _, by omega, by go_num, HF.out, rfl⟩
          case measure => simp [intOf]; omega
        · rw [decide_eq_false hxy] at hq
          have HF : Hid (decide (l = l') = false) := Lib.hid (decide_eq_false fun e => by
            have h1 := HXY.out.1
            have h2 := HXY.out.2
            rw [e, h2] at h1
            exact hxy (Option.some.inj h1).symm)
          clear hxy
          go_wp2_with fail
          go_quiet (fail)
          go_wp2_with fail
          go_ret
          exact ⟨by rw [HF.out]; rfl, q + nq, World.drewN_drewN w q nq⟩
      · obtain rfl : n = i := by omega
        have HF : Hid (decide (l = l') = true) := Lib.hid (decide_eq_true (by
          have := HR.out
          rwa [List.take_of_length_le (by have := HL.out.1; omega), List.take_of_length_le (by have := HL.out.2; omega)] at this))
        go_wp2_with fail
        go_ret
        exact ⟨by rw [HF.out]; rfl, _, rfl⟩
  · have z0 : ((n : Int) != (n' : Int)) = true := by rw [bne_iff_ne]; omega
    have HF : Hid (decide (l = l') = false) := Lib.hid (decide_eq_false fun e => by rw [e] at hl; omega)
    clear h h' hl hl' hnn
    go_enter Tryz.func25, Tryz.ntmps25
    go_wp2_with fail
    go_ret
    exact ⟨by rw [HF.out]; rfl, 0, rfl⟩

set_option maxRecDepth 100000 in
set_option maxHeartbeats 4000000 in
theorem equalA_any {w : World} {a a' : Option Addr} {n n' c c' : Nat} {l l' : List Nat} (h : RowE encA 1 w a n l) (h' : RowE encA 1 w a' n' l') (hn : n ≤ 1000000) :
    Calls Tryz.prog 12 #[.slice a n c, .slice a' n' c'] w fun e w' => e = .returned (.bool (decide (l = l'))) ∧ ∃ q, w' = w.drewN q := by
  have hl := h.1
  have hl' := h'.1
  by_cases hnn : n = n'
  · subst hnn
    have z0 : ((n : Int) != (n : Int)) = false := by simp
    have H := Lib.hid h
    have H' := Lib.hid h'
    have HL := Lib.hid (And.intro hl hl')
    clear h h' hl hl'
    go_enter Tryz.func12, Tryz.ntmps12
    go_wp2_with fail
    go_loopw [13] (fun u wr => ∃ (i q : Nat), i ≤ n ∧ u = .int .i64 i ∧ l.take i = l'.take i ∧ wr = w.drewN q) (fun u _ => n - (intOf u).toNat)
    case atStart => exact ⟨0, 0, by omega, rfl, rfl, rfl⟩
    case round =>
      obtain ⟨i, q, hi, rfl, hR, rfl⟩ := hrel
      have HR := Lib.hid hR
      clear hR
      by_cases hlt : i < n
      · have hi1 : (i : Int) < (n : Int) := by omega
        have hi0 : (0 : Int) ≤ (i : Int) := by omega
        obtain ⟨x, hx⟩ : ∃ x, l[i]? = some x := ⟨_, List.getElem?_eq_getElem (by have := HL.out.1; omega)⟩
        obtain ⟨y, hy⟩ : ∃ y, l'[i]? = some y := ⟨_, List.getElem?_eq_getElem (by have := HL.out.2; omega)⟩
        obtain ⟨b, o, rfl, hc⟩ := H.out.2 i x hx
        obtain ⟨b', o', rfl, hd⟩ := H'.out.2 i y hy
        have c0 := hc 0 _ rfl
        have d0 := hd 0 _ rfl
        simp only [Nat.mul_one, Nat.add_zero] at c0 d0
        unfold atV at c0 d0
        have HE := Lib.hid (take_eq_ext HR.out hx hy)
        have HXY := Lib.hid (And.intro hx hy)
        clear hx hy hc hd
        by_cases hxy : x = y
        · have hq : ((x : Int) != (y : Int)) = false := by rw [hxy]; simp
          have HF := Lib.hid (HE.out.2 hxy)
          clear hxy
          go_wp2_with fail
          go_quiet (fail)
          go_wp2_with fail
          go_roundw
          case rel => exact ⟨i + 1, _, by omega, by go_num, HF.out, rfl⟩
          case measure => simp [intOf]; omega
        · have hq : ((x : Int) != (y : Int)) = true := by rw [bne_iff_ne]; omega
          have HF : Hid (decide (l = l') = false) := Lib.hid (decide_eq_false fun e => by
            have h1 := HXY.out.1
            have h2 := HXY.out.2
            rw [e, h2] at h1
            exact hxy (Option.some.inj h1).symm)
          clear hxy
          go_wp2_with fail
          go_quiet (fail)
          go_wp2_with fail
          go_ret
          exact ⟨by rw [HF.out]; rfl, q + nq, World.drewN_drewN w q nq⟩
      · obtain rfl : n = i := by omega
        have HF : Hid (decide (l = l') = true) := Lib.hid (decide_eq_true (by
          have := HR.out
          rwa [List.take_of_length_le (by have := HL.out.1; omega), List.take_of_length_le (by have := HL.out.2; omega)] at this))
        go_wp2_with fail
        go_ret
        exact ⟨by rw [HF.out]; rfl, _, rfl⟩
  · have z0 : ((n : Int) != (n' : Int)) = true := by rw [bne_iff_ne]; omega
    have HF : Hid (decide (l = l') = false) := Lib.hid (decide_eq_false fun e => by rw [e] at hl; omega)
    clear h h' hl hl' hnn
    go_enter Tryz.func12, Tryz.ntmps12
    go_wp2_with fail
    go_ret
    exact ⟨by rw [HF.out]; rfl, 0, rfl⟩

set_option maxRecDepth 100000 in
set_option maxHeartbeats 4000000 in
theorem index_u64 {w : World} {a : Option Addr} {n c : Nat} {l : List Nat} (h : RowE encS 1 w a n l) (hn : n ≤ 1000000) (x : Nat) :
    Calls Tryz.prog 18 #[.slice a n c, .int .u64 (x : Int)] w fun e w' => (∃ z : Int, e = .returned (.int .i64 z) ∧ (0 ≤ z ↔ x ∈ l)) ∧ w' = w := by
  have hl := h.1
  have H := Lib.hid h
  have HL := Lib.hid hl
  clear h hl
  go_enter Tryz.func18, Tryz.ntmps18
  go_wp2_with fail
  go_loop [8] (fun u => ∃ i : Nat, i ≤ n ∧ u = .int .i64 i ∧ x ∉ l.take i) (fun u => n - (intOf u).toNat)
  case atStart => exact ⟨0, by omega, rfl, by simp⟩
  case round =>
    obtain ⟨i, hi, rfl, hR⟩ := hrel
    have HR := Lib.hid hR
    clear hR
    by_cases hlt : i < n
    · have hi1 : (i : Int) < (n : Int) := by omega
      obtain ⟨y, hy⟩ : ∃ y, l[i]? = some y := ⟨_, List.getElem?_eq_getElem (by have := HL.out; omega)⟩
      obtain ⟨b, o, rfl, hc⟩ := H.out.2 i y hy
      have c0 := hc 0 _ rfl
      simp only [Nat.mul_one, Nat.add_zero] at c0
      have HY := Lib.hid hy
      clear hy hc
      by_cases hxy : x = y
      · have z : ((x : Int) == (y : Int)) = true := by rw [hxy]; simp
        have HF := Lib.hid (show ((0 : Int) ≤ (i : Int)) ↔ x ∈ l from ⟨fun _ => List.mem_of_getElem? (hxy ▸ HY.out), fun _ => by omega⟩)
        clear hxy
        go_wp2_with fail
        go_ret
        exact ⟨⟨_, rfl, HF.out⟩, rfl⟩
      · have z : ((x : Int) == (y : Int)) = false := by rw [beq_eq_false_iff_ne]; omega
        have HF := Lib.hid (show x ∉ l.take (i + 1) by
          rw [List.take_add_one, HY.out]
          simp only [Option.toList_some, List.mem_append, List.mem_singleton, not_or]
          exact ⟨HR.out, hxy⟩)
        clear hxy
        go_wp2_with fail
        go_round
        case rel => exact ⟨i + 1, by omega, by go_num, HF.out⟩
        case measure => simp [intOf]; omega
    · obtain rfl : n = i := by omega
      have HF := Lib.hid (show ((0 : Int) ≤ (-1 : Int)) ↔ x ∈ l by
        have := HR.out
        rw [List.take_of_length_le (by have := HL.out; omega)] at this
        exact ⟨fun h => by omega, fun h => absurd h this⟩)
      go_wp2_with fail
      go_ret
      exact ⟨⟨_, rfl, HF.out⟩, rfl⟩
set_option maxRecDepth 100000 in
set_option maxHeartbeats 4000000 in
theorem contains_u64 {w : World} {a : Option Addr} {n c : Nat} {l : List Nat} (h : RowE encS 1 w a n l) (hn : n ≤ 1000000) (x : Nat) :
    Calls Tryz.prog 6 #[.slice a n c, .int .u64 (x : Int)] w fun e w' => e = .returned (.bool (decide (x ∈ l))) ∧ w' = w := by
  have H := Lib.hid (index_u64 (c := c) h hn x)
  clear h
  go_enter Tryz.func6, Tryz.ntmps6
  go_wp2_with fail
  refine H.out.mono ?_
  rintro e w' ⟨⟨z, rfl, hz⟩, rfl⟩
  have HZ := Lib.hid hz
  clear hz
  go_wp2_with fail
  go_ret
  exact ⟨by rw [← decide_eq_decide.2 HZ.out]; rfl, rfl⟩
end Go.Proofs.YtejhbaeeaejcaaaGreat
