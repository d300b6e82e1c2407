/- The walk of the law ManifestTexts: it returns true and writes nothing that was there. No condition but that the arguments read as lines and a number. -/
import Derived.Test.YtljbehndnledpaaOpen
namespace Go.Proofs.Ytljbehndnledpaa
open Go.RowKit

set_option maxRecDepth 100000 in
set_option maxHeartbeats 1000000 in
theorem manifestAlive (w : World) : Calls Try.prog 24 #[] w fun e w' => e = .returned (.bool true) ∧ Below w.heap.size w w' := by
  go_enter Try.func24, Try.ntmps24
  go_wp2_with fail
  refine (mtext_any none 0 0 [] 3 w ⟨rfl, fun i x h => by simp at h⟩ (by omega) (by omega) (fun x h => by simp at h)).mono ?_
  rintro e w1 ⟨rfl, hb1⟩
  have e1 : mkS (mtext [] 3) = ⟨#[115, 105, 122, 101, 32, 51, 10]⟩ := by decide +kernel
  rw [e1]
  go_wp2_with fail
  refine (mtext_any (some ⟨w1.heap.size, 0, none⟩) 1 1 [(1, 258)] 2 _ ⟨rfl, fun i x h => ?_⟩ (by omega) (by omega) (fun x h => ?_)).mono ?_
  · match i, h with
    | 0, h => simp at h; subst h; exact ⟨_, _, rfl, by simp [go_sem], by simp [go_sem]⟩
    | i + 1, h => simp at h
  · simp at h; subst h; simp
  · rintro e w2 ⟨rfl, hb2⟩
    have e2 : mkS (mtext [(1, 258)] 2) = ⟨#[115, 105, 122, 101, 32, 50, 10, 49, 32, 48, 48, 48, 48, 48, 49, 48, 50, 10]⟩ := by decide +kernel
    rw [e2]
    go_wp2_with fail
    go_ret
    have h1 := hb1.alloc hb1.size (.cells #[Value.int IntKind.i64 1, Value.int IntKind.u32 258] 36)
    exact ⟨rfl, h1.trans (hb2.mono h1.size)⟩

theorem refNum_max (z u : Int) (w : World) (hz : z ≤ 9223372036854775807) (hu : u = ((z.toNat : Nat) : Int)) :
    Calls Try.prog 21 #[.int .u64 u] w fun e w' => e = .returned (.string (mkS (dec z.toNat))) ∧ w = w' := by
  subst hu
  exact refNum_any z.toNat w (by omega)

set_option maxRecDepth 100000 in
set_option maxHeartbeats 4000000 in
theorem manifestLaw (a : Option Addr) (n cap : Nat) (l : List (Int × Nat)) (z : Int) (w : World) (h : Lns w a n l) (hz : z ≤ 9223372036854775807)
    (hl : ∀ x ∈ l, x.1 ≤ 9223372036854775807 ∧ x.2 < 4294967296) :
    Calls Try.prog 4 #[.slice a n cap, .int .i64 z] w fun e w' => e = .returned (.bool true) ∧ Below w.heap.size w w' := by
  by_cases hbig : 100 < n
  · go_enter Try.func4, Try.ntmps4
    go_wp2_with fail
    go_ret
    exact ⟨rfl, Below.refl _ _⟩
  obtain ⟨r, hr⟩ : ∃ r, r = mtext l z := ⟨_, rfl⟩
  have HR := Lib.hid hr
  clear hr
  have hds := dec_short z hz
  obtain ⟨d, hd⟩ : ∃ d, d = mkS (dec z.toNat) := ⟨_, rfl⟩
  have hdsz : d.size ≤ 20 := by rw [hd, mkS_size]; exact hds
  have HD := Lib.hid hd
  clear hd hds
  rcases (by omega : (z < 0 ∧ z ≤ 0 ∧ ¬ 0 ≤ z) ∨ (0 ≤ z ∧ ¬ z < 0)) with ⟨z1, z2, z3⟩ | ⟨z1, z2⟩
  all_goals
    go_enter Try.func4, Try.ntmps4
    go_wp2_with fail
  all_goals
    refine (refNum_max z _ _ hz (by omega)).mono ?_
    rintro e w1 ⟨rfl, rfl⟩
    rw [← HD.out]
    go_wp2_with fail
  all_goals
    go_loopw [5, 6] (fun u5 u6 wr => ∃ (k : Nat) (t : ByteArray), k ≤ n ∧ u6 = .int .i64 k ∧ u5 = .string t ∧ t.size ≤ 26 + 30 * k ∧ Hid (t = mkS (mhead z ++ (l.take k).flatMap mline)) ∧ Below w.heap.size w wr) (fun _ u6 _ => n - (intOf u6).toNat)
    case atStart =>
      refine ⟨0, _, by omega, rfl, rfl, ?_, Lib.hid ?_, Below.refl _ _⟩
      · rw [ByteArray.size_append, ByteArray.size_append]
        have e1 : (⟨#[115, 105, 122, 101, 32]⟩ : ByteArray).size = 5 := rfl
        have e2 : (⟨#[10]⟩ : ByteArray).size = 1 := rfl
        omega
      · rw [HD.out]
        have e1 : (⟨#[115, 105, 122, 101, 32]⟩ : ByteArray) = mkS [115, 105, 122, 101, 32] := rfl
        have e2 : (⟨#[10]⟩ : ByteArray) = mkS [10] := rfl
        rw [e1, e2, mkS_app, mkS_app]
        simp [mhead]
    case round =>
      obtain ⟨k, t, hk, rfl, rfl, hts, HT, hbw⟩ := hrel
      by_cases hlt : k < n
      · have hll : l.length = n := h.1
        have hm : l[k] ∈ l := List.getElem_mem (by omega)
        obtain ⟨hx1, hx2⟩ := hl _ hm
        obtain ⟨b, o, rfl, hc1, hc2⟩ := h.2 k l[k] (List.getElem?_eq_getElem (by omega))
        rw [← hbw.cell (World.block_lt_of_cell? w _ hc1)] at hc1
        rw [← hbw.cell (World.block_lt_of_cell? w _ hc2)] at hc2
        have hnew : (l.take (k + 1)).flatMap mline = (l.take k).flatMap mline ++ mline l[k] := by
          rw [List.take_succ_eq_append_getElem (by omega), List.flatMap_append]; simp
        generalize l[k] = x at *
        obtain ⟨bz, q⟩ := x
        simp only at hc1 hc2 hx1 hx2
        have HN := Lib.hid hnew
        clear hnew hm hll
        have hbl : b < wr.heap.size := World.block_lt_of_cell? wr _ hc1
        have hb4 := bs_four wr q hx2
        obtain ⟨hxd, hxs⟩ : ∃ hxd, hxd = mkS (hexL (four q)) := ⟨_, rfl⟩
        have hxsz : hxd.size = 8 := by rw [hxs, mkS_size, hexL_len]; rfl
        have HX := Lib.hid hxs
        clear hxs
        have hbd := dec_short bz hx1
        obtain ⟨bd, hbs⟩ : ∃ bd, bd = mkS (dec bz.toNat) := ⟨_, rfl⟩
        have hbsz : bd.size ≤ 20 := by rw [hbs, mkS_size]; exact hbd
        have HB := Lib.hid hbs
        clear hbs hbd
        have hB0 : Below w.heap.size w (wr.alloc (.cells #[Value.int IntKind.u8 ((q : Int) / 16777216), Value.int IntKind.u8 ((q : Int) / 65536 % 256), Value.int IntKind.u8 ((q : Int) / 256 % 256), Value.int IntKind.u8 ((q : Int) % 256)] 5)) :=
          hbw.alloc hbw.size _
        have H4 := Lib.hid hb4
        have HB0 := Lib.hid hB0
        clear hb4 hB0
        have hsp : (⟨#[32]⟩ : ByteArray).size = 1 := rfl
        have hnl : (⟨#[10]⟩ : ByteArray).size = 1 := rfl
        rcases (by omega : (bz < 0 ∧ ¬ 0 ≤ bz) ∨ (0 ≤ bz ∧ ¬ bz < 0)) with ⟨y1, y2⟩ | ⟨y1, y2⟩
        all_goals
          go_wp2_with fail
          refine (refNum_max bz _ _ hx1 (by omega)).mono ?_
          rintro e w2 ⟨rfl, rfl⟩
          rw [← HB.out]
          go_wp2_with fail
          refine (refHex_any (some ⟨wr.heap.size, 0, none⟩) 4 4 (four q) _ H4.out (by omega)).mono ?_
          rintro e w3 ⟨rfl, hb3⟩
          rw [lit_mkS, ← HX.out]
          have hB3 := HB0.out.trans (hb3.mono HB0.out.size)
          go_wp2_with fail
          refine ⟨⟨k + 1, _, by omega, by go_num, rfl, ?_, Lib.hid ?_, hB3⟩, by simp [intOf]; omega⟩
          · simp only [ByteArray.size_append]; omega
          · rw [HB.out, HX.out, HN.out, HT.out]; rw [← List.append_assoc]; exact line_app _ _ _ _ rfl
      · obtain rfl : k = n := by omega
        rw [List.take_of_length_le (by rw [h.1]; omega)] at HT
        have ht : t = mkS r := by rw [HT.out, HR.out]; rfl
        subst ht
        go_wp2_with fail
        refine (mtext_any a k cap l z _ (h.below hbw (Nat.le_refl _)) (by omega) hz hl).mono ?_
        rintro e w4 ⟨rfl, hb4⟩
        rw [← HR.out]
        have hB4 := hbw.trans (hb4.mono hbw.size)
        go_wp2_with fail
        refine (manifestAlive _).mono ?_
        rintro e w5 ⟨rfl, hb5⟩
        go_wp2_with fail
        go_ret
        exact ⟨rfl, hB4.trans (hb5.mono hB4.size)⟩
end Go.Proofs.Ytljbehndnledpaa
