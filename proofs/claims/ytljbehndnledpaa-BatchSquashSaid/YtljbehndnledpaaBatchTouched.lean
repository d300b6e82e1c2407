/- The walk of batch.Touched. Conditions: those of each theorem. -/
import Derived.Test.YtljbehndnledpaaBatchSpots
namespace Go.Proofs.Ytljbehndnledpaa
open Go.RowKit

theorem info3t : (Try.prog.info? 3).map (fun i => (i.zero, i.size, i.bytes)) = some (some (.int .i64 0), 1, 8) := by kernel_rfl
/-- One number appended: its cell is laid in a new block ahead of it. -/
theorem app_int {w : World} {base : Nat} {v : Value} {acc : List Int} (hown : w.ownsRow base 3 1 v acc.length (acc.map (.int .i64))) (x : Int) (hlen : acc.length + 1 ≤ 100000000000) (hbase : base ≤ w.heap.size) :
    ∃ v' w', (Builtin.append_ #[78, 78] 78 #[v, .slice (some ⟨w.heap.size, 0, none⟩) 1 1]).run Try.prog (w.alloc (.cells #[.int .i64 x] 3)) = .ok v' w' ∧ w'.ownsRow base 3 1 v' (acc ++ [x]).length ((acc ++ [x]).map (.int .i64)) ∧ w.grownBy w' v.ownBlock := by
  obtain ⟨i0, hi, hz0, hz1, hz2⟩ := info_parts info3t
  obtain ⟨v', w', hap, hown', hgr, _⟩ := app_new (P := Try.prog) Try.underlying78 hi hz0 hz1 hz2 rfl (by decide) hown 1 [.int .i64 x] rfl (by simp [Value.oneCell']) (by unfold maxLen; omega) (by omega) hbase
  refine ⟨v', w', hap, ?_, hgr⟩
  rw [List.length_append, List.map_append]
  exact hown'

set_option maxRecDepth 100000 in
set_option maxHeartbeats 4000000 in
theorem touched_any (a : Option Addr) (n c : Nat) (l : List PO) (vol : Int) (w : World) (h : Ops w a n l) (hn : n ≤ 1000) (hfine : ∀ o ∈ l, o.m.length ≤ 1000000000) :
    Calls Try.prog 88 #[.slice a n c, .int .i64 vol] w fun e w' => ∃ a' c', e = .returned (.slice a' (blocksL vol l).length c') ∧ Is .i64 w' a' (blocksL vol l).length (blocksL vol l) ∧ Below w.heap.size w w' := by
  have H := Lib.hid h
  have HL := Lib.hid h.1
  have HF := Lib.hid hfine
  clear h hfine
  go_enter Try.func88, Try.ntmps88
  go_wp2_with fail
  go_loopw [5, 12] (fun u5 u12 wr => ∃ i : Nat, i ≤ n ∧ u12 = .int .i64 i ∧ wr.ownsRow w.heap.size 3 1 u5 (touchedL vol (l.take i)).length ((touchedL vol (l.take i)).map (.int .i64)) ∧ Below w.heap.size w wr) (fun _ u12 _ => n - (intOf u12).toNat)
  case atStart => exact ⟨0, by omega, rfl, by simpa [touchedL] using World.ownsRow_nil _ _ _ _, Below.refl _ _⟩
  case round =>
    obtain ⟨i, hi, rfl, hown, hbw⟩ := hrel
    by_cases hlt : i < n
    · obtain ⟨o, ho⟩ : ∃ o, l[i]? = some o := ⟨_, List.getElem?_eq_getElem (by rw [HL.out]; exact hlt)⟩
      obtain ⟨b, p, dv, mv, rfl, hc, da, dc, ma, mc, rfl, rfl, -, hmi⟩ := (H.out.below hbw (Nat.le_refl _)).2 i o ho
      have hml := HF.out o (List.mem_of_getElem? ho)
      have htl : (touchedL vol (l.take i)).length ≤ 32000 := by
        have := touchedL_len vol (l.take i)
        have h2 := List.length_take_le i l
        omega
      have hnx : touchedL vol (l.take (i + 1)) = touchedL vol (l.take i) ++ (if o.plain56 && o.v == vol then o.blocks else []) := by
        unfold touchedL
        rw [List.take_add_one, ho, Option.toList_some, List.flatMap_append]
        simp
      have c0 := hc 0 _ rfl
      have c1 := hc 1 _ rfl
      have c2 := hc 2 _ rfl
      have c3 := hc 3 _ rfl
      have c4 := hc 4 _ rfl
      have c5 := hc 5 _ rfl
      have c6 := hc 6 _ rfl
      have c7 := hc 7 _ rfl
      rw [Nat.add_zero] at c0
      have HN := Lib.hid hnx
      have HOW := Lib.hid hown
      have HMI := Lib.hid hmi
      have hi0 : (0 : Int) ≤ (i : Int) := by omega
      have hi1 : (i : Int) < (n : Int) := by omega
      clear hnx hc ho hown hmi
      go_wp2_with fail
      have hal : Below wr.heap.size wr (wr.alloc (.cells #[.int .i64 o.k, .int .i64 o.v, .int .i64 o.i, .int .i64 o.b, .int .i64 o.n, .int .u64 o.pt, .slice da o.d.length dc, .slice ma o.m.length mc] 80)) := (Below.refl _ _).alloc (Nat.le_refl _) _
      have hC := Cells8.new wr o.k o.v o.i o.b o.n o.pt (.slice da o.d.length dc) (.slice ma o.m.length mc)
      have hsz : (wr.alloc (.cells #[.int .i64 o.k, .int .i64 o.v, .int .i64 o.i, .int .i64 o.b, .int .i64 o.n, .int .u64 o.pt, .slice da o.d.length dc, .slice ma o.m.length mc] 80)).heap.size = wr.heap.size + 1 := by simp
      have HP := Lib.hid (batchPlain_any o.k o.v o.i o.b o.n o.pt da ma o.d.length dc o.m.length mc o.m _ (HMI.out.below hal (Nat.le_refl _)) hml)
      have HOW1 := Lib.hid (owns_below HOW.out hal (Nat.le_refl _))
      have hbw1 := hbw.trans (hal.mono hbw.size)
      clear c0 c1 c2 c3 c4 c5 c6 c7 HOW
      generalize wr.alloc (.cells #[.int .i64 o.k, .int .i64 o.v, .int .i64 o.i, .int .i64 o.b, .int .i64 o.n, .int .u64 o.pt, .slice da o.d.length dc, .slice ma o.m.length mc] 80) = wB at *
      refine HP.out.mono ?_
      clear HP
      rintro e w2 ⟨rfl, hb2⟩
      have hC2 := hC.below hb2 (by omega)
      have HOW2 := Lib.hid (owns_below HOW1.out hb2 (Nat.le_refl _))
      have hbw2 := hbw1.trans (hb2.mono hbw1.size)
      obtain ⟨d0, d1, d2, d3, d4, d5, d6, d7⟩ := hC2
      cases hq : plainO o.k o.v o.i o.b o.n o.d.length o.m with
      | false =>
        have hz : touchedL vol (l.take (i + 1)) = touchedL vol (l.take i) := by rw [HN.out]; simp [PO.plain56, hq]
        have HZ := Lib.hid hz
        clear hz hq
        go_wp2_with fail
        exact ⟨⟨i + 1, by omega, by go_num, by rw [HZ.out]; exact HOW2.out, hbw2⟩, by simp [intOf]; omega⟩
      | true =>
        have hp56 : o.plain56 = true := hq
        by_cases hv : o.v = vol
        · subst hv
          have hz : touchedL o.v (l.take (i + 1)) = touchedL o.v (l.take i) ++ o.blocks := by rw [HN.out]; simp [hp56]
          have HZ := Lib.hid hz
          have HSP := Lib.hid (spots_any o da ma o.d.length dc o.m.length mc w2 hp56)
          have hbl := blocks_len hp56
          have hsl : o.spots.length = o.blocks.length := by simp [PO.spots]
          have HP56 := Lib.hid hp56
          clear hz hq hp56
          go_wp2_with fail
          refine HSP.out.mono ?_
          clear HSP
          rintro e w3 ⟨v, rfl, ho3, hb3⟩
          obtain ⟨sa, sc, rfl, -, -⟩ := ho3.runs
          have HRS := Lib.hid ho3
          have HOW3 := Lib.hid (owns_below HOW2.out hb3 (Nat.le_refl _))
          have hbw3 := hbw2.trans (hb3.mono hbw2.size)
          clear ho3 HOW1 HOW2
          go_wp2_with fail
          go_loopw [5, 28] (fun u5 u28 wx => ∃ j : Nat, j ≤ o.spots.length ∧ u28 = .int .i64 j ∧ wx.ownsRow w.heap.size 3 1 u5 (touchedL o.v (l.take i) ++ o.blocks.take j).length ((touchedL o.v (l.take i) ++ o.blocks.take j).map (.int .i64)) ∧ OwnSpots wx w2.heap.size (.slice sa o.spots.length sc) o.spots ∧ Below w.heap.size w wx) (fun _ u28 _ => o.spots.length - (intOf u28).toNat)
          case atStart => exact ⟨0, by omega, rfl, by simpa using HOW3.out, HRS.out, hbw3⟩
          case round =>
            obtain ⟨j, hj, rfl, hown, hruns, hbx⟩ := hrel
            rename World => wx
            by_cases hltj : j < o.spots.length
            · obtain ⟨s, hs⟩ : ∃ s, o.spots[j]? = some s := ⟨_, List.getElem?_eq_getElem hltj⟩
              obtain ⟨a', c', he, hr0, -⟩ := hruns.runs
              cases he
              obtain ⟨bs, ps, rfl, k0, k1⟩ := hr0.2 j s hs
              have hxb : o.blocks[j]? = some s.2 := by
                unfold PO.spots at hs
                rw [List.getElem?_map] at hs
                cases hg : o.blocks[j]? with
                | none => rw [hg] at hs; cases hs
                | some y => rw [hg] at hs; cases hs; rfl
              have hb4 : Below wx.heap.size wx (wx.alloc (.cells #[.int .i64 s.1, .int .i64 s.2] 222)) := (Below.refl _ _).alloc (Nat.le_refl _) _
              have hbx4 := hbx.trans (hb4.mono hbx.size)
              have hown4 := owns_below hown hb4 (Nat.le_refl _)
              obtain ⟨v', w', hap, hown', hgr⟩ := app_int hown4 s.2 (by simp only [List.length_append, List.length_take]; omega) hbx4.size
              have hbx' := Below.own hbx4 hown4 hgr (Nat.le_refl _) hbx4.size
              have hru4 := owns_below hruns hb4 (Nat.le_refl _)
              have hru' : OwnSpots w' w2.heap.size (.slice (some ⟨bs, ps, none⟩) o.spots.length sc) o.spots := hru4.kept hgr (owns_apart hru4 hown4 (by decide))
              have hnx : (touchedL o.v (l.take i) ++ o.blocks.take j) ++ [s.2] = touchedL o.v (l.take i) ++ o.blocks.take (j + 1) := by rw [List.take_add_one, hxb, Option.toList_some, List.append_assoc]
              rw [hnx] at hown'
              have HO := Lib.hid hown'
              have HRU := Lib.hid hru'
              have hj1 : (j : Int) < (o.spots.length : Int) := by omega
              have hsz4 : (wx.alloc (.cells #[.int .i64 s.1, .int .i64 s.2] 222)).heap.size = wx.heap.size + 1 := by simp
              rw [hsz4] at hap
              obtain ⟨s1, s2⟩ := s
              simp only at *
              clear hown hown' hown4 hgr hnx hruns hr0 hru4 hru' hs hxb
              go_wp2_with (at_builtin; refine wpList_append_run rfl _ _ _ rfl hap ?_)
              exact ⟨⟨j + 1, by omega, by go_num, HO.out, HRU.out, hbx'⟩, by simp [intOf]; omega⟩
            · obtain rfl : j = o.spots.length := by omega
              have htk : o.blocks.take o.spots.length = o.blocks := List.take_of_length_le (by omega)
              rw [htk] at hown
              go_wp2_with fail
              exact ⟨⟨i + 1, by omega, by go_num, by rw [HZ.out]; exact hown, hbx⟩, by simp [intOf]; omega⟩
        · have ev : (o.v == vol) = false := by rw [beq_eq_false_iff_ne]; exact hv
          have hz : touchedL vol (l.take (i + 1)) = touchedL vol (l.take i) := by rw [HN.out]; simp [ev]
          have HZ := Lib.hid hz
          clear hz hq hp56
          go_wp2_with fail
          exact ⟨⟨i + 1, by omega, by go_num, by rw [HZ.out]; exact HOW2.out, hbw2⟩, by simp [intOf]; omega⟩
    · obtain rfl : i = n := by omega
      have htk : l.take i = l := List.take_of_length_le (Nat.le_of_eq HL.out)
      rw [htk] at hown
      have hle : (touchedL vol l).length ≤ 32000 := by have := touchedL_len vol l; have h2 := HL.out; omega
      have hso := sort_own hown (by omega) hbw.size
      have HSO := Lib.hid hso
      clear hso hown
      go_wp2_with fail
      refine HSO.out.mono ?_
      rintro e w2 ⟨rfl, ho2, hb2⟩
      have hbw2 := hbw.trans hb2
      have hco := compact_own ho2 (by rw [sortL_len]; omega)
      rw [touched_eq] at hco
      have HCO := Lib.hid hco
      clear hco ho2
      go_wp2_with fail
      refine HCO.out.mono ?_
      rintro e w3 ⟨a3, c3, rfl, his, hb3⟩
      go_wp2_with fail
      go_ret
      exact ⟨_, _, rfl, his, hbw2.trans hb3⟩
end Go.Proofs.Ytljbehndnledpaa
