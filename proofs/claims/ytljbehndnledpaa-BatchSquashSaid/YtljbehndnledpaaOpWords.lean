/- The walk of yesteryearref29.Words. Conditions: those of the theorem. -/
import Derived.Test.YtljbehndnledpaaOpLine
namespace Go.Proofs.Ytljbehndnledpaa
open Go.RowKit

/-- What is owned stays so while new blocks alone are laid. -/
theorem ownsRow_below {w w' : World} {B C : Nat} {e : TypeId} {size n : Nat} {v : Value} {xs : List Value} (h : w.ownsRow B e size v n xs) (hb : Below C w w') (hC : w.heap.size ≤ C) : w'.ownsRow B e size v n xs := by
  refine ⟨h.1, ?_⟩
  rcases h.2 with h2 | ⟨g, cap, cur, hv, hg, hh, r⟩
  · exact .inl h2
  · have hlt := (Array.getElem?_eq_some_iff.1 hh).1
    exact .inr ⟨g, cap, cur, hv, hg, by rw [hb.block g (by omega)]; exact hh, r⟩
theorem OwnS.stays {w w' : World} {B C : Nat} {v : Value} {l : List (List UInt8)} (h : OwnS w B v l) (hb : Below C w w') (hC : w.heap.size ≤ C) : OwnS w' B v l := ownsRow_below h hb hC
theorem OwnS.one (w : World) (B : Nat) (x : List UInt8) (hB : B ≤ w.heap.size) : OwnS (w.alloc (.cells #[.string ⟨x.toArray⟩] 9)) B (.slice (some ⟨w.heap.size, 0, none⟩) 1 1) [x] := by
  refine ⟨rfl, .inr ⟨w.heap.size, 1, _, rfl, hB, heap_alloc_last w _, Nat.le_refl _, by unfold maxLen; omega, rfl, rfl⟩⟩

set_option maxRecDepth 100000 in
set_option maxHeartbeats 8000000 in
theorem refWordsO_any (k v i b n pt : Int) (d : List UInt8) (m : List Int) (da ma : Option Addr) (dn dc mn mc : Nat) (w : World) (hr : PO.right ⟨k, v, i, b, n, pt, d, m⟩ = true) (hd : Bs w da dn d) (hm : Is .i64 w ma mn m) (hdn : dn ≤ 1000000000) (hmn : mn ≤ 1000000000) (hp0 : 0 ≤ pt) (hp1 : pt < 18446744073709551616) :
    Calls Try.prog 118 #[.agg #[.int .i64 k, .int .i64 v, .int .i64 i, .int .i64 b, .int .i64 n, .int .u64 pt, .slice da dn dc, .slice ma mn mc]] w fun e w' => ∃ r, e = .returned r ∧ OwnS w' w.heap.size r (PO.words ⟨k, v, i, b, n, pt, d, m⟩) ∧ Below w.heap.size w w' := by
  have hm0 : m.length = mn := hm.len
  have hdl : d.length = dn := by have := hd.len; simpa using this
  have hb : Below w.heap.size w (w.alloc (.cells #[.int .i64 k, .int .i64 v, .int .i64 i, .int .i64 b, .int .i64 n, .int .u64 pt, .slice da dn dc, .slice ma mn mc] 80)) := (Below.refl _ _).alloc (Nat.le_refl _) _
  have hc8 := Cells8.new w k v i b n pt (.slice da dn dc) (.slice ma mn mc)
  have hA : w.heap.size < (w.alloc (.cells #[.int .i64 k, .int .i64 v, .int .i64 i, .int .i64 b, .int .i64 n, .int .u64 pt, .slice da dn dc, .slice ma mn mc] 80)).heap.size := by simp
  obtain ⟨hk, hall⟩ := PO.right_all hr
  have hL : PO.words ⟨k, v, i, b, n, pt, d, m⟩ = wordL k :: (looksL k).flatMap (PO.part ⟨k, v, i, b, n, pt, d, m⟩) := rfl
  have hlet := looks_letters k
  have hL3 := (looks_all k).2
  have hword := refWord_any k
  have hlooks := looks_any k
  have HF := Lib.hid (show PO.part ⟨k, v, i, b, n, pt, d, m⟩ 118 = [numW v] ∧ PO.part ⟨k, v, i, b, n, pt, d, m⟩ 105 = [numW i] ∧ PO.part ⟨k, v, i, b, n, pt, d, m⟩ 98 = [numW b] ∧ PO.part ⟨k, v, i, b, n, pt, d, m⟩ 110 = [numW n] ∧ PO.part ⟨k, v, i, b, n, pt, d, m⟩ 112 = [numW pt] ∧ PO.part ⟨k, v, i, b, n, pt, d, m⟩ 100 = [hexL d] ∧ PO.part ⟨k, v, i, b, n, pt, d, m⟩ 109 = m.map numW from ⟨rfl, rfl, rfl, rfl, rfl, rfl, rfl⟩)
  rw [hL]
  generalize PO.part ⟨k, v, i, b, n, pt, d, m⟩ = F at *
  have HALL := Lib.hid hall
  have HLET := Lib.hid hlet
  have HW := Lib.hid hword
  have HLK := Lib.hid hlooks
  have HD := Lib.hid hd
  have HM := Lib.hid hm
  clear hlet hall hword hlooks hd hm hL hr hk
  have HC8 := Lib.hid hc8
  go_enter Try.func118, Try.ntmps118
  go_wp2_with fail
  generalize w.alloc (.cells #[.int .i64 k, .int .i64 v, .int .i64 i, .int .i64 b, .int .i64 n, .int .u64 pt, .slice da dn dc, .slice ma mn mc] 80) = w1 at *
  refine (HW.out _).mono ?_
  rintro e w2 ⟨rfl, hb2⟩
  clear hc8
  generalize hS0 : wordL k = S0 at *
  have hown := OwnS.one w2 w1.heap.size S0 hb2.size
  have hb2 := hb2.alloc hb2.size (.cells #[.string ⟨S0.toArray⟩] 9)
  obtain ⟨d0, -⟩ := HC8.out.below hb2 hA
  go_wp2_with fail
  refine (HLK.out _).mono ?_
  generalize w2.alloc (.cells #[.string ⟨S0.toArray⟩] 9) = w3 at *
  rintro e w4 ⟨rfl, hb4⟩
  have hown := hown.stays hb4 (Nat.le_refl _)
  have hb4 := hb2.trans (hb4.mono hb2.size)
  generalize hLL : looksL k = L at *
  go_wp2_with fail
  go_loopw [3, 6] (fun u3 u6 wr => ∃ j : Nat, j ≤ L.length ∧ u6 = .int .i64 j ∧ OwnS wr w1.heap.size u3 (S0 :: (L.take j).flatMap F) ∧ (S0 :: (L.take j).flatMap F).length ≤ 1 + 10 * j ∧ Below w1.heap.size w1 wr) (fun _ u6 _ => L.length - (intOf u6).toNat)
  case atStart => exact ⟨0, by omega, rfl, hown, by simp, hb4⟩
  case round =>
    obtain ⟨j, hj, rfl, hown, hsl, hbw⟩ := hrel
    by_cases hlt : j < L.length
    · obtain ⟨c, hc⟩ : ∃ c, L[j]? = some c := ⟨_, List.getElem?_eq_getElem hlt⟩
      have hmem := List.mem_of_getElem? hc
      have hok := HALL.out c hmem
      have hlet := HLET.out c hmem
      obtain ⟨z, hz⟩ : ∃ z : Int, z = (c.toNat : Int) := ⟨_, rfl⟩
      have hcb : ∀ h : j < (⟨L.toArray⟩ : ByteArray).size, (((⟨L.toArray⟩ : ByteArray)[j]'h).toNat : Int) = z := fun h => by rw [byteAt L j c hc, hz]
      have hNX : S0 :: (L.take (j + 1)).flatMap F = (S0 :: (L.take j).flatMap F) ++ F c := by
        rw [List.take_add_one, hc, List.flatMap_append, List.cons_append]; simp
      have HNX := Lib.hid hNX
      generalize hS : S0 :: (L.take j).flatMap F = S at *
      have hb5 := hbw
      obtain ⟨d0, d1, d2, d3, d4, d5, d6, d7⟩ := HC8.out.below hb5 hA
      clear hNX hc hmem hS
      rcases hlet with rfl | rfl | rfl | rfl | rfl | rfl | rfl
      · -- v
        have hz' : z = 118 := hz
        subst hz'
        clear hz
        obtain ⟨Z, rfl⟩ : ∃ Z : Nat, v = Z := ⟨v.toNat, by simp [mayO, okId] at hok; omega⟩
        have hZ : Z < 65536 := by simp [mayO, okId] at hok; omega
        have HQ := Lib.hid (refNum_any Z wr (by omega))
        obtain ⟨v', w', hap, hown', hgr⟩ := hown.push ⟨(dec Z).toArray⟩ (dec Z) rfl (by omega) hbw.size
        have hbw' := hown.below hbw hgr (Nat.le_refl _) hbw.size
        clear hok
        go_wp2_with (first | (go_at_call 21; with_reducible refine HQ.out.mono ?_; rintro e w6 ⟨rfl, rfl⟩) | (at_builtin; refine wpList_append_run rfl _ _ _ rfl hap ?_))
        exact ⟨⟨j + 1, by omega, by go_num, by rw [HNX.out, HF.out.1]; exact hown', by rw [HNX.out, HF.out.1, List.length_append]; simp; omega, hbw'⟩, by simp [intOf]; omega⟩
      · -- i
        have hz' : z = 105 := hz
        subst hz'
        clear hz
        obtain ⟨Z, rfl⟩ : ∃ Z : Nat, i = Z := ⟨i.toNat, by simp [mayO, okId] at hok; omega⟩
        have hZ : Z < 65536 := by simp [mayO, okId] at hok; omega
        have HQ := Lib.hid (refNum_any Z wr (by omega))
        obtain ⟨v', w', hap, hown', hgr⟩ := hown.push ⟨(dec Z).toArray⟩ (dec Z) rfl (by omega) hbw.size
        have hbw' := hown.below hbw hgr (Nat.le_refl _) hbw.size
        clear hok
        go_wp2_with (first | (go_at_call 21; with_reducible refine HQ.out.mono ?_; rintro e w6 ⟨rfl, rfl⟩) | (at_builtin; refine wpList_append_run rfl _ _ _ rfl hap ?_))
        exact ⟨⟨j + 1, by omega, by go_num, by rw [HNX.out, HF.out.2.1]; exact hown', by rw [HNX.out, HF.out.2.1, List.length_append]; simp; omega, hbw'⟩, by simp [intOf]; omega⟩
      · -- b
        have hz' : z = 98 := hz
        subst hz'
        clear hz
        obtain ⟨Z, rfl⟩ : ∃ Z : Nat, b = Z := ⟨b.toNat, by simp [mayO, okPlace] at hok; omega⟩
        have hZ : Z < 65536 := by simp [mayO, okPlace] at hok; omega
        have HQ := Lib.hid (refNum_any Z wr (by omega))
        obtain ⟨v', w', hap, hown', hgr⟩ := hown.push ⟨(dec Z).toArray⟩ (dec Z) rfl (by omega) hbw.size
        have hbw' := hown.below hbw hgr (Nat.le_refl _) hbw.size
        clear hok
        go_wp2_with (first | (go_at_call 21; with_reducible refine HQ.out.mono ?_; rintro e w6 ⟨rfl, rfl⟩) | (at_builtin; refine wpList_append_run rfl _ _ _ rfl hap ?_))
        exact ⟨⟨j + 1, by omega, by go_num, by rw [HNX.out, HF.out.2.2.1]; exact hown', by rw [HNX.out, HF.out.2.2.1, List.length_append]; simp; omega, hbw'⟩, by simp [intOf]; omega⟩
      · -- n
        have hz' : z = 110 := hz
        subst hz'
        clear hz
        obtain ⟨Z, rfl⟩ : ∃ Z : Nat, n = Z := ⟨n.toNat, by simp [mayO, okCount] at hok; omega⟩
        have hZ : Z < 65536 := by simp [mayO, okCount] at hok; omega
        have HQ := Lib.hid (refNum_any Z wr (by omega))
        obtain ⟨v', w', hap, hown', hgr⟩ := hown.push ⟨(dec Z).toArray⟩ (dec Z) rfl (by omega) hbw.size
        have hbw' := hown.below hbw hgr (Nat.le_refl _) hbw.size
        clear hok
        go_wp2_with (first | (go_at_call 21; with_reducible refine HQ.out.mono ?_; rintro e w6 ⟨rfl, rfl⟩) | (at_builtin; refine wpList_append_run rfl _ _ _ rfl hap ?_))
        exact ⟨⟨j + 1, by omega, by go_num, by rw [HNX.out, HF.out.2.2.2.1]; exact hown', by rw [HNX.out, HF.out.2.2.2.1, List.length_append]; simp; omega, hbw'⟩, by simp [intOf]; omega⟩
      · -- pt
        have hz' : z = 112 := hz
        subst hz'
        clear hz
        clear hok
        obtain ⟨Z, rfl⟩ : ∃ Z : Nat, pt = Z := ⟨pt.toNat, by omega⟩
        have hZ : Z < 18446744073709551616 := by omega
        have HQ := Lib.hid (refNum_any Z wr (by omega))
        obtain ⟨v', w', hap, hown', hgr⟩ := hown.push ⟨(dec Z).toArray⟩ (dec Z) rfl (by omega) hbw.size
        have hbw' := hown.below hbw hgr (Nat.le_refl _) hbw.size
        go_wp2_with (first | (go_at_call 21; with_reducible refine HQ.out.mono ?_; rintro e w6 ⟨rfl, rfl⟩) | (at_builtin; refine wpList_append_run rfl _ _ _ rfl hap ?_))
        exact ⟨⟨j + 1, by omega, by go_num, by rw [HNX.out, HF.out.2.2.2.2.1]; exact hown', by rw [HNX.out, HF.out.2.2.2.2.1, List.length_append]; simp; omega, hbw'⟩, by simp [intOf]; omega⟩
      · -- d
        have hz' : z = 100 := hz
        subst hz'
        clear hz hok
        have hq := refHex_any da dn dc d wr (Sl.below HD.out (hb.trans (hb5.mono hb.size)) (Nat.le_refl _)) hdn
        have HQ := Lib.hid hq
        go_wp2_with (first | (go_at_call 22; with_reducible refine HQ.out.mono ?_; rintro e w6 ⟨rfl, hb6⟩) | (
          have hown6 := hown.stays hb6 (Nat.le_refl _)
          have hbw6 := hbw.trans (hb6.mono hbw.size)
          obtain ⟨v', w', hap, hown', hgr⟩ := hown6.push ⟨(hexL d).toArray⟩ (hexL d) rfl (by omega) hbw6.size
          have hbw' := hown6.below hbw6 hgr (Nat.le_refl _) hbw6.size
          at_builtin; refine wpList_append_run rfl _ _ _ rfl hap ?_))
        exact ⟨⟨j + 1, by omega, by go_num, by rw [HNX.out, HF.out.2.2.2.2.2.1]; exact hown', by rw [HNX.out, HF.out.2.2.2.2.2.1, List.length_append]; simp; omega, hbw'⟩, by simp [intOf]; omega⟩
      · -- m
        have hz' : z = 109 := hz
        subst hz'
        clear hz
        have hok2 : rises 0 m = true ∧ m.length ≤ 8 := by simp [mayO, okMem] at hok; exact ⟨hok.1, hok.2.2⟩
        have HRG := Lib.hid (rises_range m 0 (Int.le_refl 0) hok2.1)
        have hm8 := hok2.2
        clear hok hok2
        go_wp2_with fail
        go_loopw [3, 7] (fun u3 u7 wr2 => ∃ t : Nat, t ≤ mn ∧ u7 = .int .i64 t ∧ OwnS wr2 w1.heap.size u3 (S ++ (m.take t).map numW) ∧ Below w1.heap.size w1 wr2) (fun _ u7 _ => mn - (intOf u7).toNat)
        case atStart => exact ⟨0, by omega, rfl, by simpa using hown, hbw⟩
        case round =>
          obtain ⟨t, ht, rfl, hown7, hbw6⟩ := hrel
          obtain ⟨-, -, -, -, -, -, -, d7⟩ := HC8.out.below hbw6 hA
          have hmw := Is.below HM.out (hb.trans (hbw6.mono hb.size)) (Nat.le_refl _)
          by_cases hlt3 : t < mn
          · obtain ⟨B, o, x, rfl, hx, hck⟩ := Is.cell hmw t hlt3
            obtain ⟨hx1, hx2⟩ := HRG.out x (List.mem_of_getElem? hx)
            obtain ⟨Z, rfl⟩ : ∃ Z : Nat, x = Z := ⟨x.toNat, by omega⟩
            have hNX : S ++ (m.take (t + 1)).map numW = (S ++ (m.take t).map numW) ++ [dec Z] := by
              rw [List.take_add_one, hx, List.map_append, List.append_assoc]; rfl
            have hsl4 : (S ++ (m.take t).map numW).length ≤ 1000000 := by rw [List.length_append, List.length_map, List.length_take]; omega
            have HNX2 := Lib.hid hNX
            generalize S ++ (m.take t).map numW = T at *
            have HQ := Lib.hid (refNum_any Z wr (by omega))
            obtain ⟨v', w', hap, hown', hgr⟩ := hown7.push ⟨(dec Z).toArray⟩ (dec Z) rfl (by omega) hbw6.size
            have hbw' := hown7.below hbw6 hgr (Nat.le_refl _) hbw6.size
            clear hNX hmw hx
            go_wp2_with (first | (go_at_call 21; with_reducible refine HQ.out.mono ?_; rintro e w6 ⟨rfl, rfl⟩) | (at_builtin; refine wpList_append_run rfl _ _ _ rfl hap ?_))
            exact ⟨⟨t + 1, by omega, by go_num, by rw [HNX2.out]; exact hown', hbw'⟩, by simp [intOf]; omega⟩
          · obtain rfl : t = mn := by omega
            have hS9 : S ++ (m.take t).map numW = S0 :: (L.take (j + 1)).flatMap F := by rw [List.take_of_length_le (Nat.le_of_eq hm0), ← HF.out.2.2.2.2.2.2, ← HNX.out]
            have hsl4 : (S ++ (m.take t).map numW).length ≤ 1 + 10 * (j + 1) := by rw [List.length_append, List.length_map, List.length_take]; omega
            rw [hS9] at hown7 hsl4
            generalize hS8 : S0 :: (L.take (j + 1)).flatMap F = T at *
            have HS8 := Lib.hid hS8
            clear hS8 hS9
            go_wp2_with fail
            exact ⟨⟨j + 1, by omega, by go_num, by rw [HS8.out]; exact hown7, by rw [HS8.out]; omega, hbw6⟩, by simp [intOf]; omega⟩
    · obtain rfl : j = L.length := by omega
      rw [List.take_length] at hown
      go_wp2_with fail
      go_ret
      exact ⟨_, rfl, by rw [hS0, hLL]; exact hown.base hb.size, hb.trans (hbw.mono hb.size)⟩
end Go.Proofs.Ytljbehndnledpaa
