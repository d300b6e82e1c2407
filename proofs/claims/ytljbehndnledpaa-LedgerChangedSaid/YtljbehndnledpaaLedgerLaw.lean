/- The walk of yesteryearlaw63.LedgerChanged. Conditions: those of each theorem. -/
import Derived.Test.YtljbehndnledpaaLedgerRows
namespace Go.Proofs.Ytljbehndnledpaa
open Go.RowKit

/-- Where the three rows stand behind their making. -/
def ThreeRows (C n : Nat) (i : Nat) (f9 f10 f11 : Nat → Bool) (u9 u10 u11 : Value) (w0 w : World) : Prop :=
  ∃ g9 g10 g11, u9 = .slice (some ⟨g9, 0, none⟩) n n ∧ u10 = .slice (some ⟨g10, 0, none⟩) n n ∧ u11 = .slice (some ⟨g11, 0, none⟩) n n ∧ Truths w g9 (upTo f9 n i) ∧ Truths w g10 (upTo f10 n i) ∧ Truths w g11 (upTo f11 n i) ∧
    C ≤ g9 ∧ C ≤ g10 ∧ C ≤ g11 ∧ g9 ≠ g10 ∧ g9 ≠ g11 ∧ g10 ≠ g11 ∧ Below C w0 w

theorem own_past {w w' : World} {base : Nat} {e : TypeId} {size n : Nat} {v : Value} {xs : List Value} (h : w.ownsRow base e size v n xs) (hk : ∀ g, base ≤ g → w'.heap[g]? = w.heap[g]?) : w'.ownsRow base e size v n xs := by
  refine ⟨h.1, ?_⟩
  rcases h.2 with h2 | ⟨g, cap, cur, hv, hbg, hg, hr⟩
  · exact .inl h2
  · exact .inr ⟨g, cap, cur, hv, hbg, by rw [hk g hbg]; exact hg, hr⟩
theorem OwnRuns.two {w : World} {B C : Nat} {v : Value} {l : List (Int × Int)} (h : OwnRuns w B v l) (hC : C < B) (x y : Value) : OwnRuns ((w.setCell ⟨C, 0, none⟩ x).setCell ⟨C, 1, none⟩ y) B v l :=
  own_past h fun g hg => by rw [heap_setCell_other _ _ _ _ (by show g ≠ C; omega), heap_setCell_other _ _ _ _ (by show g ≠ C; omega)]
/-- What the search for the longest holds at a place. -/
def BestAt (C B i : Nat) (l : List (Int × Int)) (v u16 : Value) (w0 w : World) : Prop :=
  u16 = .bool (longest (l.take i)).isSome ∧ RunAt w C ((longest (l.take i)).getD (0, 0)) ∧ OwnRuns w B v l ∧ Below C w0 w

theorem longV_eq (o : Option (Int × Int)) : longV o = .tuple #[.agg #[.int .i64 (o.getD (0, 0)).1, .int .i64 (o.getD (0, 0)).2], .bool o.isSome] := by cases o <;> rfl

set_option maxRecDepth 100000 in
set_option maxHeartbeats 8000000 in
theorem ledgerLaw_any (N : Int) (a1 a2 : Option Addr) (n1 c1 n2 c2 : Nat) (zs1 zs2 : List Int) (w : World) (h1 : Is .i64 w a1 n1 zs1) (h2 : Is .i64 w a2 n2 zs2) :
    Calls Try.prog 15 #[.int .i64 N, .slice a1 n1 c1, .slice a2 n2 c2] w fun e w' => e = .returned (.bool true) ∧ Below w.heap.size w w' := by
  by_cases g0 : N < 0
  · go_enter Try.func15, Try.ntmps15
    go_wp2_with fail
    go_ret
    exact ⟨rfl, Below.refl _ _⟩
  by_cases g1 : 4000 < N
  · go_enter Try.func15, Try.ntmps15
    go_wp2_with fail
    go_ret
    exact ⟨rfl, Below.refl _ _⟩
  by_cases g2 : 100 < (n1 : Int)
  · go_enter Try.func15, Try.ntmps15
    go_wp2_with fail
    go_ret
    exact ⟨rfl, Below.refl _ _⟩
  by_cases g3 : 100 < (n2 : Int)
  · go_enter Try.func15, Try.ntmps15
    go_wp2_with fail
    go_ret
    exact ⟨rfl, Below.refl _ _⟩
  obtain ⟨n, rfl⟩ : ∃ n : Nat, N = n := ⟨N.toNat, by omega⟩
  have hn : n ≤ 4000 := by omega
  have H1 := Lib.hid h1
  have H2 := Lib.hid h2
  clear h1 h2
  go_enter Try.func15, Try.ntmps15
  go_wp2_with fail
  refine (made_any n n1 c1 a1 zs1 w H1.out (by omega) (by omega)).mono ?_
  rintro e w1 ⟨v, rfl, m1, b1, rfl, hm1, hb1, hF1, hw1⟩
  have hmade2 := made_any n n2 c2 a2 zs2 w1 (H2.out.below hw1 (Nat.le_refl _)) (by omega) (by omega)
  have HM2 := Lib.hid hmade2
  have HF1 := Lib.hid hF1
  clear hmade2 hF1
  go_wp2_with fail
  refine HM2.out.mono ?_
  rintro e w2 ⟨v, rfl, m2, b2, rfl, hm2, hb2, hF2, hw2⟩
  have HX : Hid (BmF w2 m1 b1 n (among zs1)) := Lib.hid (HF1.out.below hw2 (Nat.le_refl _))
  have HY : Hid (BmF w2 m2 b2 n (among zs2)) := Lib.hid hF2
  have hb02 : Below w.heap.size w w2 := hw1.trans (hw2.mono hw1.size)
  have hI1 : Hid (Is .i64 w2 a1 n1 zs1) := Lib.hid (H1.out.below hb02 (Nat.le_refl _))
  have hI2 : Hid (Is .i64 w2 a2 n2 zs2) := Lib.hid (H2.out.below hb02 (Nat.le_refl _))
  have HB02 := Lib.hid hb02
  clear hF2 HF1 HM2 H1 H2 hm1 hb1 hm2 hb2 hw1 hw2 hb02
  go_wp2_with fail
  go_cut [9, 10, 11] from 54 (fun u9 u10 u11 wr => ThreeRows w2.heap.size n 0 (fun j => among zs2 j && !among zs1 j) (fun j => among zs1 j && !among zs2 j) (fun j => !among zs1 j) u9 u10 u11 w2 wr)
  case first =>
    obtain ⟨W1, k1, t1, r1⟩ := truths_made w2.drew n (by omega)
    obtain ⟨W2, k2, t2, r2⟩ := truths_made W1 n (by omega)
    obtain ⟨W3, k3, t3, r3⟩ := truths_made W2 n (by omega)
    have hB1 : Below w2.heap.size w2 W1 := (Below.refl _ w2).drew.grown r1 (Nat.le_refl _) (fun k hk => by cases hk)
    have hB2 : Below W1.heap.size W1 W2 := (Below.refl _ W1).grown r2 (Nat.le_refl _) (fun k hk => by cases hk)
    have hB3 : Below W2.heap.size W2 W3 := (Below.refl _ W2).grown r3 (Nat.le_refl _) (fun k hk => by cases hk)
    have l1 := t1.lt
    have l2 := t2.lt
    have T1 := (t1.below hB2 l1).below hB3 (by have := hB2.size; omega)
    have T2 := t2.below hB3 l2
    have hB : Below w2.heap.size w2 W3 := (hB1.trans (hB2.mono hB1.size)).trans (hB3.mono (hB1.trans (hB2.mono hB1.size)).size)
    have ez : w2.drew.heap.size = w2.heap.size := rfl
    rw [ez] at T1 l1 k1
    have TZ : ∀ (g : Nat) (f : Nat → Bool), Truths W3 g (List.replicate n false) → Truths W3 g (upTo f n 0) := fun g f h => by rw [upTo_zero]; exact h
    clear t1 t2 r1 r2 r3 hB1 hB2 hB3 ez
    generalize W1.heap.size = s1 at *
    generalize W2.heap.size = s2 at *
    have l0 : w2.heap.size ≤ s1 := by omega
    have l3 : w2.heap.size ≤ s2 := by omega
    go_region
    all_goals
      go_wp2_with fail
      go_meet
      case rel =>
        refine ⟨_, _, _, rfl, rfl, rfl, TZ _ _ ?_, TZ _ _ ?_, TZ _ _ ?_, ?_, ?_, ?_, ?_, ?_, ?_, hB⟩ <;> first | assumption | omega
  case rest =>
    obtain ⟨g9, g10, g11, rfl, rfl, rfl, t9, t10, t11, q9, q10, q11, d1, d2, d3, hbc⟩ := hcut
    have T9 := Lib.hid t9
    have T10 := Lib.hid t10
    have T11 := Lib.hid t11
    clear t9 t10 t11
    have d1' := d1.symm
    have d2' := d2.symm
    have d3' := d3.symm
    go_wp2_with fail
    go_loopw [12] (fun u12 wr => ∃ i : Nat, i ≤ n ∧ u12 = .int .i64 i ∧ Truths wr g9 (upTo (fun j => among zs2 j && !among zs1 j) n i) ∧ Truths wr g10 (upTo (fun j => among zs1 j && !among zs2 j) n i) ∧ Truths wr g11 (upTo (fun j => !among zs1 j) n i) ∧ Below w2.heap.size w2 wr) (fun u12 _ => n - (intOf u12).toNat)
    case atStart => exact ⟨0, by omega, rfl, T9.out, T10.out, T11.out, hbc⟩
    case round =>
      clear T9 T10 T11
      obtain ⟨i, hi, rfl, t9, t10, t11, hbw⟩ := hrel
      by_cases hlt : i < n
      · have hc1 := contains_any a1 n1 c1 zs1 (i : Int) wr (hI1.out.below hbw (Nat.le_refl _)) (by omega)
        have hc2 := contains_any a2 n2 c2 zs2 (i : Int) wr (hI2.out.below hbw (Nat.le_refl _)) (by omega)
        have e9 := fun b h => upTo_set (fun j => among zs2 j && !among zs1 j) n i b h
        have e10 := fun b h => upTo_set (fun j => among zs1 j && !among zs2 j) n i b h
        have e11 := fun b h => upTo_set (fun j => !among zs1 j) n i b h
        have k1 : zs1.contains (i : Int) = among zs1 i := rfl
        have k2 : zs2.contains (i : Int) = among zs2 i := rfl
        rw [k1] at hc1
        rw [k2] at hc2
        have x9 := t9.cell i (by rw [upTo_len]; exact hlt)
        have x10 := t10.cell i (by rw [upTo_len]; exact hlt)
        have x11 := t11.cell i (by rw [upTo_len]; exact hlt)
        generalize (upTo (fun j => among zs2 j && !among zs1 j) n i).getD i false = o9 at x9
        generalize (upTo (fun j => among zs1 j && !among zs2 j) n i).getD i false = o10 at x10
        generalize (upTo (fun j => !among zs1 j) n i).getD i false = o11 at x11
        obtain ⟨x9, y9⟩ := x9
        obtain ⟨x10, y10⟩ := x10
        obtain ⟨x11, y11⟩ := x11
        generalize among zs1 i = p at *
        generalize among zs2 i = q at *
        have T9 := Lib.hid t9
        have T10 := Lib.hid t10
        have T11 := Lib.hid t11
        have E9 := Lib.hid e9
        have E10 := Lib.hid e10
        have E11 := Lib.hid e11
        have C1 := Lib.hid hc1
        have C2 := Lib.hid hc2
        have i0 : (0 : Int) ≤ (i : Int) := by omega
        have i1 : (i : Int) < (n : Int) := by omega
        clear t9 t10 t11 e9 e10 e11 hc1 hc2 k1 k2
        cases p <;> cases q
        all_goals
          go_wp2_with fail
          refine C1.out.mono ?_
          rintro e w3 ⟨rfl, rfl⟩
          go_wp2_with fail
          refine C2.out.mono ?_
          rintro e w3 ⟨rfl, rfl⟩
          go_wp2_with fail
          refine ⟨⟨i + 1, by omega, by go_num, ?_, ?_, ?_, ?_⟩, by simp [intOf]; omega⟩
          · rw [← E9.out _ rfl]; exact ((T9.out.set i _).other d1 _ _).other d2 _ _
          · rw [← E10.out _ rfl]; exact ((T10.out.other d1' _ _).set i _).other d3 _ _
          · rw [← E11.out _ rfl]; exact ((T11.out.other d2' _ _).other d3' _ _).set i _
          · exact ((hbw.setCell (p := ⟨g9, i, none⟩) q9 _).setCell (p := ⟨g10, i, none⟩) q10 _).setCell (p := ⟨g11, i, none⟩) q11 _
      · obtain rfl : n = i := by omega
        rename World => wo
        have HW0 : Hid (Below w.heap.size w wo) := Lib.hid (HB02.out.trans (hbw.mono HB02.out.size))
        have hY2 : Hid (BmF wo m2 b2 n (among zs2)) := Lib.hid (HY.out.below hbw (Nat.le_refl _))
        have hX2 : Hid (BmF wo m1 b1 n (among zs1)) := Lib.hid (HX.out.below hbw (Nat.le_refl _))
        clear HX HY hI1 hI2 q9 q10 q11 d1 d2 d3 d1' d2' d3' hbc hbw hlt hi
        have hba : Below wo.heap.size wo (wo.alloc (.cells #[.int .i64 0, .int .i64 0] 121)) := (Below.refl _ _).alloc (Nat.le_refl _) _
        have hra := RunAt.new wo 0 0
        have hsa : (wo.alloc (.cells #[.int .i64 0, .int .i64 0] 121)).heap.size = wo.heap.size + 1 := by simp
        have l9 := t9.lt
        have l10 := t10.lt
        have l11 := t11.lt
        have hrun := runs_any g11 n n (fun j => !among zs1 j) _ (t11.below hba l11).flags (fun _ => by rw [hsa]; omega) (by omega)
        have HRUN := Lib.hid hrun
        have T9 := Lib.hid t9
        have T10 := Lib.hid t10
        have hok := runsF_ok (fun j => !among zs1 j) n (by omega)
        have hkl := runsF_len (fun j => !among zs1 j) n (by omega)
        have HOK := Lib.hid hok
        clear hrun t9 t10 t11 hok
        go_wp2_with fail
        generalize wo.alloc (.cells #[.int .i64 0, .int .i64 0] 121) = wa at *
        refine HRUN.out.mono ?_
        clear HRUN
        rintro e w3 ⟨v, rfl, ho, hb3⟩
        have hr3 := hra.below hb3 (by omega)
        have hb03 := hba.trans (hb3.mono hba.size)
        clear hra hba
        rw [hsa] at ho hb3
        obtain ⟨l, hl⟩ : ∃ l, l = runsF (fun j => !among zs1 j) n := ⟨_, rfl⟩
        rw [← hl] at ho HOK hkl
        have HEL := Lib.hid hl
        clear hl hsa
        obtain ⟨a, cap, rfl, -⟩ := id ho.runs
        have HO3 := Lib.hid ho
        clear ho
        go_wp2_with fail
        go_loopw [16, 18] (fun u16 u18 wx => ∃ i : Nat, i ≤ l.length ∧ u18 = .int .i64 i ∧ BestAt wo.heap.size (wo.heap.size + 1) i l (.slice a l.length cap) u16 wo wx) (fun _ u18 _ => l.length - (intOf u18).toNat)
        case atStart => exact ⟨0, by omega, rfl, rfl, hr3, HO3.out, hb03⟩
        case round =>
          clear hr3 HO3 hb03 hb3
          obtain ⟨i, hi, rfl, rfl, hbest, hown, hbw⟩ := hrel
          by_cases hlt : i < l.length
          · obtain ⟨r, hr⟩ : ∃ r, l[i]? = some r := ⟨_, List.getElem?_eq_getElem hlt⟩
            obtain ⟨a', cap', ha', hruns, -⟩ := hown.runs
            cases ha'
            obtain ⟨b, o, rfl, d0, d1⟩ := hruns.2 i r hr
            obtain ⟨p0, p1, f0, f1⟩ := hbest.cells
            have hN := longest_take l i r hr
            have hi0 : (0 : Int) ≤ (i : Int) := by omega
            have hi1 : (i : Int) < (l.length : Int) := by omega
            have hil : (l.length : Int) ≤ 4000 := by omega
            have HOW := Lib.hid hown
            have HBE := Lib.hid hbest
            clear hruns hown hbest
            obtain ⟨r1, r2⟩ := r
            cases hlo : longest (l.take i) with
            | none =>
              rw [hlo] at hN
              simp only [hlo, Option.getD_none] at p0 p1 HBE
              have HN := Lib.hid hN
              have HLO := Lib.hid hlo
              clear hN hr
              simp only [Option.isSome_none]
              go_wp2_with fail
              go_quiet (fail)
              all_goals
                have hdn := below_drewN (Below.refl wr.heap.size wr) nq
                have hbw2 := below_drewN hbw nq
                have hbe2 := HBE.out.below hdn HBE.out.lt
                have how2 := HOW.out.stays hdn (Nat.le_refl _)
                go_wp2_with fail
                refine ⟨⟨i + 1, by omega, by go_num, by rw [HN.out]; rfl, by rw [HN.out]; exact hbe2.set r1 r2, how2.two (by omega) _ _, (hbw2.setCell (p := ⟨wo.heap.size, 0, none⟩) (Nat.le_refl _) _).setCell (p := ⟨wo.heap.size, 1, none⟩) (Nat.le_refl _) _⟩, by simp [intOf]; omega⟩
            | some x =>
              obtain ⟨x1, x2⟩ := x
              rw [hlo] at hN
              simp only [hlo, Option.getD_some] at p0 p1 HBE
              have HN := Lib.hid hN
              have HLO := Lib.hid hlo
              clear hN hr
              simp only [Option.isSome_some]
              by_cases hlong : x2 < r2
              · go_wp2_with fail
                go_quiet (fail)
                all_goals
                  have hdn := below_drewN (Below.refl wr.heap.size wr) nq
                  have hbw2 := below_drewN hbw nq
                  have hbe2 := HBE.out.below hdn HBE.out.lt
                  have how2 := HOW.out.stays hdn (Nat.le_refl _)
                  go_wp2_with fail
                  refine ⟨⟨i + 1, by omega, by go_num, by rw [HN.out]; simp [longStep, hlong], by rw [HN.out]; simp only [longStep, if_pos hlong]; exact hbe2.set r1 r2, how2.two (by omega) _ _, (hbw2.setCell (p := ⟨wo.heap.size, 0, none⟩) (Nat.le_refl _) _).setCell (p := ⟨wo.heap.size, 1, none⟩) (Nat.le_refl _) _⟩, by simp [intOf]; omega⟩
              · have hlong' : r2 ≤ x2 := by omega
                go_wp2_with fail
                go_quiet (fail)
                all_goals
                  have hdn := below_drewN (Below.refl wr.heap.size wr) nq
                  have hbw2 := below_drewN hbw nq
                  have hbe2 := HBE.out.below hdn HBE.out.lt
                  have how2 := HOW.out.stays hdn (Nat.le_refl _)
                  go_wp2_with fail
                  refine ⟨⟨i + 1, by omega, by go_num, by rw [HN.out]; simp only [longStep]; split <;> rfl, by rw [HN.out]; simp only [longStep]; rw [if_neg (by omega)]; exact hbe2, how2, hbw2⟩, by simp [intOf]; omega⟩
          · obtain rfl : i = l.length := by omega
            have htk : l.take l.length = l := List.take_of_length_le (Nat.le_refl _)
            rw [htk] at hbest
            simp only [htk]
            have hX3 := hX2.out.below hbw (Nat.le_refl _)
            have hY3 := hY2.out.below hbw (Nat.le_refl _)
            have hch := change_any m1 b1 m2 b2 n (among zs1) (among zs2) wr hX3 hY3 (by omega)
            have HCH := Lib.hid hch
            have hkl9 := runsF_len (fun j => among zs2 j && !among zs1 j) n (by omega)
            have hkl10 := runsF_len (fun j => among zs1 j && !among zs2 j) n (by omega)
            have hlv := longV_eq (longest l)
            generalize (longest l).getD (0, 0) = d at *
            generalize (longest l).isSome = sm at *
            obtain ⟨d1, d2⟩ := d
            simp only at hlv
            have HLV := Lib.hid hlv
            have HBE := Lib.hid hbest
            rename World => wl
            clear hlv hch hX3 hY3 hown hbest hlt hi htk
            go_wp2_with fail
            refine HCH.out.mono ?_
            clear HCH
            rintro e w4 ⟨v1, v2, rfl, ho1, ho2, hb4⟩
            obtain ⟨a1', cap1, rfl, hru1, -⟩ := ho1.runs
            obtain ⟨a2', cap2, rfl, hru2, -⟩ := ho2.runs
            clear ho1 ho2
            have hb04 := hbw.trans (hb4.mono hbw.size)
            have hbe4 := HBE.out.below hb4 HBE.out.lt
            have hroom := room_any m1 b1 n (among zs1) w4 (hX2.out.below hb04 (Nat.le_refl _)) (by omega)
            rw [← HEL.out, HLV.out] at hroom
            have HRO := Lib.hid hroom
            clear hroom HBE
            go_wp2_with fail
            refine HRO.out.mono ?_
            clear HRO
            rintro e w5 ⟨rfl, hb5⟩
            have hb05 := hb04.trans (hb5.mono hb04.size)
            have hbe5 := hbe4.below hb5 hbe4.lt
            have hru1 := hru1.below hb5 (Nat.le_refl _)
            have hru2 := hru2.below hb5 (Nat.le_refl _)
            have HR1 := Lib.hid hru1
            have HR2 := Lib.hid hru2
            have HB5 := Lib.hid hbe5
            clear hru1 hru2 hbe4 hbe5
            have hba : Below w5.heap.size w5 (w5.alloc (.cells #[.int .i64 d1, .int .i64 d2] 121)) := (Below.refl _ _).alloc (Nat.le_refl _) _
            have hbx := RunAt.new w5 d1 d2
            have hb06 := hb05.trans (hba.mono hb05.size)
            have hsz : (w5.alloc (.cells #[.int .i64 d1, .int .i64 d2] 121)).heap.size = w5.heap.size + 1 := by simp
            have hr9 := runs_any g9 n n (fun j => among zs2 j && !among zs1 j) _ (T9.out.below hb06 l9).flags (fun _ => by have := hb06.size; omega) (by omega)
            have HR9 := Lib.hid hr9
            have HB6 := Lib.hid (HB5.out.below hba HB5.out.lt)
            clear hr9 HB5
            go_wp2_with fail
            generalize w5.alloc (.cells #[.int .i64 d1, .int .i64 d2] 121) = w6 at *
            refine HR9.out.mono ?_
            clear HR9
            rintro e w7 ⟨v, rfl, ho, hb7⟩
            obtain ⟨a3, cap3, rfl, hru3, -⟩ := ho.runs
            clear ho
            have hb07 := hb06.trans (hb7.mono hb06.size)
            have hs1 := sameRuns_any a1' a3 _ cap1 cap3 _ w7 ((HR1.out.below hba (Nat.le_refl _)).below hb7 (Nat.le_refl _)) hru3 (by omega)
            have HS1 := Lib.hid hs1
            clear hs1 hru3 HR1
            go_wp2_with fail
            refine HS1.out.mono ?_
            clear HS1
            rintro e w8 ⟨rfl, hb8⟩
            have hb08 := hb07.trans (hb8.mono hb07.size)
            have hr10 := runs_any g10 n n (fun j => among zs1 j && !among zs2 j) _ (T10.out.below hb08 l10).flags (fun _ => by have := hb08.size; omega) (by omega)
            have HR10 := Lib.hid hr10
            clear hr10
            go_wp2_with fail
            refine HR10.out.mono ?_
            clear HR10
            rintro e w9 ⟨v, rfl, ho, hb9⟩
            obtain ⟨a4, cap4, rfl, hru4, -⟩ := ho.runs
            clear ho
            have hb09 := hb08.trans (hb9.mono hb08.size)
            have hs2 := sameRuns_any a2' a4 _ cap2 cap4 _ w9 ((((HR2.out.below hba (Nat.le_refl _)).below hb7 (Nat.le_refl _)).below hb8 (Nat.le_refl _)).below hb9 (Nat.le_refl _)) hru4 (by omega)
            have HS2 := Lib.hid hs2
            clear hs2 hru4 HR2
            go_wp2_with fail
            refine HS2.out.mono ?_
            clear HS2
            rintro e wA ⟨rfl, hbA⟩
            have hb0A := hb09.trans (hbA.mono hb09.size)
            have x6 := (((hbx.below hb7 hbx.lt).below hb8 (by have := hb7.size; have := hbx.lt; omega)).below hb9 (by have := hb7.size; have := hb8.size; have := hbx.lt; omega)).below hbA (by have := hb7.size; have := hb8.size; have := hb9.size; have := hbx.lt; omega)
            have y6 := (((HB6.out.below hb7 HB6.out.lt).below hb8 (by have := hb7.size; have := HB6.out.lt; omega)).below hb9 (by have := hb7.size; have := hb8.size; have := HB6.out.lt; omega)).below hbA (by have := hb7.size; have := hb8.size; have := hb9.size; have := HB6.out.lt; omega)
            obtain ⟨x0, x1, -, -⟩ := x6.cells
            obtain ⟨y0, y1, -, -⟩ := y6.cells
            clear hbx HB6 hba hb4 hb5 hb7 hb8 hb9 hbA hb04 hb05 hb06 hb07 hb08 hb09
            obtain ⟨T, hT, -⟩ := hX2.out
            have hTA := hT.below hb0A (Nat.le_refl _)
            have hpg := pages_any m1 b1 n T wA hTA (by omega)
            have HPG := Lib.hid hpg
            have HWA : Hid (Below w.heap.size w wA) := Lib.hid (HW0.out.trans (hb0A.mono HW0.out.size))
            have HT := Lib.hid hTA
            clear hT hTA hpg T9 T10 hX2 hY2
            go_wp2_with fail
            refine HPG.out.mono ?_
            clear HPG
            rintro e wB ⟨v, rfl, hpv, hbB⟩
            have HWB : Hid (Below w.heap.size w wB) := Lib.hid (HWA.out.trans (hbB.mono HWA.out.size))
            have hT2 : Hid (Bmap wB m1 b1 n T) := Lib.hid (HT.out.below hbB (Nat.le_refl _))
            have hTl : T.length ≤ 1000000 := by rw [HT.out.len]; omega
            have hLp := pagesR_pos T.length T
            have hLl := pagesR_len T.length T
            have hLf := pagesR_flat T.length T
            have hLat := pagesR_at T.length T (Nat.le_refl _)
            generalize pagesR T.length T = L at *
            obtain ⟨x0', hx0'⟩ : ∃ x, L[0]? = some x := ⟨_, List.getElem?_eq_getElem hLp⟩
            obtain ⟨gP, capP, -, -, rfl, -, -⟩ := hpv.at 0 x0' hx0'
            have HPV := Lib.hid hpv
            have HLF := Lib.hid hLf
            have HLAT := Lib.hid hLat
            clear hpv hLf hLat hx0' HT hbB x6 y6 x0 x1 y0 y1 hru1 hru2 hb0A HLV HEL HOK
            go_wp2_with fail
            go_loopw [24, 25] (fun u24 u25 wx => ∃ i : Nat, i ≤ L.length ∧ u25 = .int .i64 i ∧ wx.ownsRow wB.heap.size 5 1 u24 (L.take i).flatten.length (cellsOfB (L.take i).flatten) ∧ Below wB.heap.size wB wx) (fun _ u25 _ => L.length - (intOf u25).toNat)
            case atStart => exact ⟨0, by omega, rfl, World.ownsRow_nil _ _ _ _, Below.refl _ _⟩
            case round =>
              obtain ⟨i, hi, rfl, hown, hbw⟩ := hrel
              have hLi : (L.length : Int) ≤ 1000001 := by omega
              have hfl : (L.take i).flatten.length ≤ T.length := by
                have h9 := HLF.out
                rw [← List.take_append_drop i L, List.flatten_append] at h9
                have := congrArg List.length h9
                simp only [List.length_append] at this
                omega
              by_cases hlt : i < L.length
              · obtain ⟨x, hx⟩ : ∃ x, L[i]? = some x := ⟨_, List.getElem?_eq_getElem hlt⟩
                obtain ⟨q1, q2, q3⟩ := HLAT.out i x hx
                obtain ⟨g', cap', ax, cx, he, hcx, hpx⟩ := (HPV.out.stays hbw (Nat.le_refl _)).at i x hx
                cases he
                obtain ⟨v', w', hap, hown', hgr⟩ := app_part hown hpx (by omega) hbw.size
                have hbw' := Below.own hbw hown hgr (Nat.le_refl _) hbw.size
                have hfx : (L.take i).flatten ++ x = (L.take (i + 1)).flatten := by rw [List.take_add_one, hx, Option.toList_some, List.flatten_append]; simp
                rw [hfx] at hown'
                have HO := Lib.hid hown'
                have hi0 : (0 : Int) ≤ (i : Int) := by omega
                have hi1 : (i : Int) < (L.length : Int) := by omega
                clear hx hpx hown hown' hgr hfx
                by_cases hlast : i + 1 < L.length
                · have h120 := q1 hlast
                  rw [h120] at hcx hap
                  have j1 : (i : Int) + 1 < (L.length : Int) := by omega
                  have j2 : (1 : Int) < (L.length : Int) := by omega
                  clear q1 q2 q3
                  go_wp2_with (at_builtin; refine wpList_append_run rfl _ _ _ rfl hap ?_)
                  exact ⟨⟨i + 1, by omega, by go_num, HO.out, hbw'⟩, by simp [intOf]; omega⟩
                · have j1 : ¬ ((i : Int) + 1 < (L.length : Int)) := by omega
                  have j3 : ¬ ((120 : Int) < (x.length : Int)) := by omega
                  by_cases hone : 1 < L.length
                  · have h0 := q3 hone
                    have j2 : (1 : Int) < (L.length : Int) := by omega
                    have j4 : ((x.length : Int) == 0) = false := by rw [beq_eq_false_iff_ne]; omega
                    have j5 : ¬ (x.length : Int) = 0 := by omega
                    clear q1 q2 q3
                    go_wp2_with (at_builtin; refine wpList_append_run rfl _ _ _ rfl hap ?_)
                    exact ⟨⟨i + 1, by omega, by go_num, HO.out, hbw'⟩, by simp [intOf]; omega⟩
                  · have j2 : ¬ (1 : Int) < (L.length : Int) := by omega
                    clear q1 q2 q3
                    go_wp2_with (at_builtin; refine wpList_append_run rfl _ _ _ rfl hap ?_)
                    exact ⟨⟨i + 1, by omega, by go_num, HO.out, hbw'⟩, by simp [intOf]; omega⟩
              · obtain rfl : i = L.length := by omega
                have htk : (L.take L.length).flatten = T := by rw [List.take_of_length_le (Nat.le_refl _)]; exact HLF.out
                rw [htk] at hown
                have hpt := part_own hown rfl
                obtain ⟨aT, cT, rfl, hbT, -, -⟩ := hpt
                have hby := bmBytes_any m1 b1 n T wr (hT2.out.below hbw (Nat.le_refl _)) (by omega)
                have HBY := Lib.hid hby
                have HBT := Lib.hid hbT
                have j1 : (1 : Int) ≤ (L.length : Int) := by omega
                have HWC : Hid (Below w.heap.size w wr) := Lib.hid (HWB.out.trans (hbw.mono HWB.out.size))
                clear hby hbT hown htk
                go_wp2_with fail
                refine HBY.out.mono ?_
                clear HBY
                rintro e wC ⟨v, rfl, ho, hbC⟩
                have hpt := part_own ho rfl
                obtain ⟨aU, cU, rfl, hbU, -, -⟩ := hpt
                have heq := bytesEq_any aT aU T.length T.length cT cU T T wC (HBT.out.below hbC (Nat.le_refl _)) hbU
                rw [beq_self_eq_true] at heq
                have HEQ := Lib.hid heq
                clear heq hbU ho HBT
                go_wp2_with fail
                refine HEQ.out.mono ?_
                rintro e wD ⟨rfl, rfl⟩
                clear HEQ
                go_wp2_with fail
                refine (ledgerAlive_any _).mono ?_
                rintro e wE ⟨rfl, hbE⟩
                have HWD := HWC.out.trans (hbC.mono HWC.out.size)
                have HWE : Hid (Below w.heap.size w wE) := Lib.hid (HWD.trans (hbE.mono HWD.size))
                clear HWD
                go_wp2_with fail
                go_ret
                exact ⟨rfl, HWE.out⟩
end Go.Proofs.Ytljbehndnledpaa
