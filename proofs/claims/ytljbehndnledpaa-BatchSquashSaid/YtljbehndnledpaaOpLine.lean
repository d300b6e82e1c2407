/- The walk of script.Line. Conditions: those of the theorem. -/
import Derived.Test.YtljbehndnledpaaOpLinePlain
namespace Go.Proofs.Ytljbehndnledpaa
open Go.RowKit

theorem byteAt (L : List UInt8) (j : Nat) (c : UInt8) (hc : L[j]? = some c) (h : j < (⟨L.toArray⟩ : ByteArray).size) : (⟨L.toArray⟩ : ByteArray)[j]'h = c := by
  have e : (⟨L.toArray⟩ : ByteArray)[j]'h = L[j]'h := rfl
  rw [e]
  exact (List.getElem?_eq_some_iff.1 hc).2
theorem spW (S : List UInt8) (x : List UInt8) : mkS S ++ ((⟨#[32]⟩ : ByteArray) ++ ⟨x.toArray⟩) = mkS (S ++ sp [x]) := by
  rw [sp_one]
  exact (congrArg _ (bytes_app [32] x)).trans (mkS_app S (32 :: x))

theorem dec_len (n : Nat) (h : n < 18446744073709551616) : (dec n).length ≤ 20 := by
  rcases Nat.lt_or_ge 20 (dec n).length with h1 | h1
  · have h2 := val_ge (dec n) (digs_dec n) (dec_ne n) (dec_head n (by omega))
    rw [val_dec] at h2
    have h3 : 10 ^ 20 ≤ 10 ^ ((dec n).length - 1) := Nat.pow_le_pow_right (by omega) (by omega)
    omega
  · exact h1
theorem word_len (k : Int) : (wordL k).length ≤ 8 := by
  by_cases hk : 1 ≤ k ∧ k ≤ 19
  · rcases kinds k hk.1 hk.2 with rfl | rfl | rfl | rfl | rfl | rfl | rfl | rfl | rfl | rfl | rfl | rfl | rfl | rfl | rfl | rfl | rfl | rfl | rfl <;> decide
  · rw [word_out k hk]; decide
theorem sp_len (S x : List UInt8) : (S ++ sp [x]).length = S.length + (1 + x.length) := by rw [sp_one, List.length_append, List.length_cons]; omega

set_option maxRecDepth 100000 in
set_option maxHeartbeats 8000000 in
theorem line_any (k v i b n pt : Int) (d : List UInt8) (m : List Int) (da ma : Option Addr) (dn dc mn mc : Nat) (w : World) (hd : Bs w da dn d) (hm : Is .i64 w ma mn m) (hdn : dn ≤ 1000000000) (hmn : mn ≤ 1000000000) (hp0 : 0 ≤ pt) (hp1 : pt < 18446744073709551616) :
    Calls Try.prog 50 #[.agg #[.int .i64 k, .int .i64 v, .int .i64 i, .int .i64 b, .int .i64 n, .int .u64 pt, .slice da dn dc, .slice ma mn mc]] w fun e w' => e = .returned (.string (mkS (PO.line ⟨k, v, i, b, n, pt, d, m⟩))) ∧ Below w.heap.size w w' := by
  have hm0 : m.length = mn := hm.len
  have hdl : d.length = dn := by have := hd.len; simpa using this
  have hb : Below w.heap.size w (w.alloc (.cells #[.int .i64 k, .int .i64 v, .int .i64 i, .int .i64 b, .int .i64 n, .int .u64 pt, .slice da dn dc, .slice ma mn mc] 80)) := (Below.refl _ _).alloc (Nat.le_refl _) _
  have hc8 := Cells8.new w k v i b n pt (.slice da dn dc) (.slice ma mn mc)
  have hA : w.heap.size < (w.alloc (.cells #[.int .i64 k, .int .i64 v, .int .i64 i, .int .i64 b, .int .i64 n, .int .u64 pt, .slice da dn dc, .slice ma mn mc] 80)).heap.size := by simp
  have hright := opRight_any k v i b n pt da ma dn dc mn mc m (w.alloc (.cells #[.int .i64 k, .int .i64 v, .int .i64 i, .int .i64 b, .int .i64 n, .int .u64 pt, .slice da dn dc, .slice ma mn mc] 80)) (Is.below hm hb (Nat.le_refl _)) hmn
  have hRR : PO.right ⟨k, v, i, b, n, pt, d, m⟩ = rightO k v i b n dn m := by rw [← hdl]; rfl
  cases hr : rightO k v i b n dn m with
  | false =>
    have hL : PO.line ⟨k, v, i, b, n, pt, d, m⟩ = [] := by unfold PO.line; rw [hRR, hr]; rfl
    rw [hL]
    rw [hr] at hright
    clear hL hRR hr hc8 hA hd hm hdl
    have HR := Lib.hid hright
    clear hright
    go_enter Try.func50, Try.ntmps50
    go_wp2_with fail
    generalize w.alloc (.cells #[.int .i64 k, .int .i64 v, .int .i64 i, .int .i64 b, .int .i64 n, .int .u64 pt, .slice da dn dc, .slice ma mn mc] 80) = w1 at *
    refine HR.out.mono ?_
    rintro e w2 ⟨rfl, hb2⟩
    go_wp2_with fail
    go_ret
    exact ⟨rfl, hb.trans (hb2.mono hb.size)⟩
  | true =>
    obtain ⟨hk, hall⟩ := PO.right_all (hRR.trans hr)
    have hL : PO.line ⟨k, v, i, b, n, pt, d, m⟩ = wordL k ++ sp ((looksL k).flatMap (PO.part ⟨k, v, i, b, n, pt, d, m⟩)) := by unfold PO.line; rw [hRR, hr]; rfl
    have hlet := looks_letters k
    have hwl := word_len k
    have hL3 := (looks_all k).2
    have hword := word_any k
    have hfields := fields_any k
    have hFv : PO.part ⟨k, v, i, b, n, pt, d, m⟩ 118 = [numW v] := rfl
    have hFi : PO.part ⟨k, v, i, b, n, pt, d, m⟩ 105 = [numW i] := rfl
    have hFb : PO.part ⟨k, v, i, b, n, pt, d, m⟩ 98 = [numW b] := rfl
    have hFn : PO.part ⟨k, v, i, b, n, pt, d, m⟩ 110 = [numW n] := rfl
    have hFp : PO.part ⟨k, v, i, b, n, pt, d, m⟩ 112 = [numW pt] := rfl
    have hFd : PO.part ⟨k, v, i, b, n, pt, d, m⟩ 100 = [hexL d] := rfl
    have hFm : PO.part ⟨k, v, i, b, n, pt, d, m⟩ 109 = m.map numW := rfl
    rw [hr] at hright
    rw [hL]
    generalize PO.part ⟨k, v, i, b, n, pt, d, m⟩ = F at *
    have HALL := Lib.hid hall
    have HLET := Lib.hid hlet
    have HR := Lib.hid hright
    have HW := Lib.hid hword
    have HFL := Lib.hid hfields
    have HD := Lib.hid hd
    have HM := Lib.hid hm
    have HF := Lib.hid (show F 118 = [numW v] ∧ F 105 = [numW i] ∧ F 98 = [numW b] ∧ F 110 = [numW n] ∧ F 112 = [numW pt] ∧ F 100 = [hexL d] ∧ F 109 = m.map numW from ⟨hFv, hFi, hFb, hFn, hFp, hFd, hFm⟩)
    clear hFv hFi hFb hFn hFp hFd hFm hright hlet hall hword hfields hd hm hL hRR hr hk
    have HC8 := Lib.hid hc8
    go_enter Try.func50, Try.ntmps50
    go_wp2_with fail
    generalize w.alloc (.cells #[.int .i64 k, .int .i64 v, .int .i64 i, .int .i64 b, .int .i64 n, .int .u64 pt, .slice da dn dc, .slice ma mn mc] 80) = w1 at *
    refine HR.out.mono ?_
    rintro e w2 ⟨rfl, hb2⟩
    obtain ⟨d0, -⟩ := HC8.out.below hb2 hA
    clear hc8
    go_wp2_with fail
    refine (HW.out _).mono ?_
    rintro e w3 ⟨rfl, hb3⟩
    have hb3 := hb2.trans (hb3.mono hb2.size)
    obtain ⟨d0, -⟩ := HC8.out.below hb3 hA
    go_wp2_with fail
    refine (HFL.out _).mono ?_
    rintro e w4 ⟨rfl, rfl⟩
    generalize hS0 : wordL k = S0 at *
    generalize hLL : looksL k = L at *
    go_wp2_with fail
    go_loopw [3] (fun u3 wr => ∃ j : Nat, j ≤ L.length ∧ u3 = .string (mkS (S0 ++ sp ((L.take j).flatMap F))) ∧ (mkS (S0 ++ sp ((L.take j).flatMap F))).size ≤ 100 + 100000000000 * j ∧ wr.heap[w3.heap.size]? = some (.stringIter ⟨L.toArray⟩ j) ∧ Below w3.heap.size w3 wr) (fun _ wr => L.length - wr.iterPos w3.heap.size)
    case atStart => exact ⟨0, by omega, by simp only [List.take_zero, List.flatMap_nil, sp_nil, List.append_nil]; rfl, by rw [mkS_size]; simp [sp]; omega, World.iter_heap w3 ⟨L.toArray⟩ 0, (Below.refl _ _).alloc (Nat.le_refl _) _⟩
    case round =>
      obtain ⟨j, hj, rfl, hsl, hit, hbw⟩ := hrel
      have hsz : w3.heap.size < wr.heap.size := (Array.getElem?_eq_some_iff.1 hit).1
      by_cases hlt : j < L.length
      · obtain ⟨c, hc⟩ : ∃ c, L[j]? = some c := ⟨_, List.getElem?_eq_getElem hlt⟩
        have hmem := List.mem_of_getElem? hc
        have hok := HALL.out c hmem
        have hlet := HLET.out c hmem
        have hc128 : c.toNat < 128 := by rcases hlet with rfl | rfl | rfl | rfl | rfl | rfl | rfl <;> decide
        obtain ⟨z, hz⟩ : ∃ z : Int, z = (c.toNat : Int) := ⟨_, rfl⟩
        have hnx : ∀ ty, (Instr.next (.pointer (some ⟨w3.heap.size, 0, none⟩)) true ty).run Try.prog wr = .ok (.tuple #[.bool true, .int .i64 j, .int .i32 z]) (wr.iterAt w3.heap.size ⟨L.toArray⟩ (j + 1)) := fun ty => by
          rw [hz, Lib.run_next_ascii_at wr w3.heap.size ⟨L.toArray⟩ j ty hit hlt (by rw [byteAt L j c hc]; exact hc128), byteAt L j c hc]
        have hNX : S0 ++ sp ((L.take (j + 1)).flatMap F) = (S0 ++ sp ((L.take j).flatMap F)) ++ sp (F c) := by
          rw [List.take_add_one, hc, List.flatMap_append, sp_app, List.append_assoc]; simp
        have HNX := Lib.hid hNX
        have hit2 := Lib.iterAt_heap wr w3.heap.size ⟨L.toArray⟩ j (j + 1) hit
        have hbw2 := Lib.below_iterAt hbw (Nat.le_refl _) ⟨L.toArray⟩ (j + 1)
        have hsz2 : w3.heap.size < (wr.iterAt w3.heap.size ⟨L.toArray⟩ (j + 1)).heap.size := by rw [Lib.iterAt_size]; exact hsz
        generalize wr.iterAt w3.heap.size ⟨L.toArray⟩ (j + 1) = wi at *
        generalize hS : S0 ++ sp ((L.take j).flatMap F) = S at *
        have hb5 := hb3.trans (hbw2.mono hb3.size)
        obtain ⟨d0, d1, d2, d3, d4, d5, d6, d7⟩ := HC8.out.below hb5 hA
        clear hNX hbw hsz hc hmem hS
        rcases hlet with rfl | rfl | rfl | rfl | rfl | rfl | rfl
        · -- v
          have hz' : z = 118 := hz
          subst hz'
          clear hz
          obtain ⟨Z, rfl⟩ : ∃ Z : Nat, v = Z := ⟨v.toNat, by simp [mayO, okId] at hok; omega⟩
          have hZ : Z < 65536 := by simp [mayO, okId] at hok; omega
          have HQ := Lib.hid (num_any Z wi (by omega))
          have hq1 := dec_len Z (by omega)
          have hsl2 := hsl
          rw [mkS_size] at hsl2
          clear hok
          go_wp2_with (go_at_call 27; with_reducible refine HQ.out.mono ?_; rintro e w6 ⟨rfl, hb6⟩)
          have hbw6 := hbw2.trans (hb6.mono hbw2.size)
          go_roundw
          case rel => exact ⟨j + 1, by omega, by rw [spW, HNX.out, HF.out.1]; rfl, by rw [HNX.out, HF.out.1, mkS_size, show numW (Z : Int) = dec Z from rfl, sp_len]; omega, by rw [hb6.block _ hsz2]; exact hit2, hbw6⟩
          case measure =>
            simp only [World.iterPos, hb6.block _ hsz2, hit2, hit]; omega
        · -- i
          have hz' : z = 105 := hz
          subst hz'
          clear hz
          obtain ⟨Z, rfl⟩ : ∃ Z : Nat, i = Z := ⟨i.toNat, by simp [mayO, okId] at hok; omega⟩
          have hZ : Z < 65536 := by simp [mayO, okId] at hok; omega
          have HQ := Lib.hid (num_any Z wi (by omega))
          have hq1 := dec_len Z (by omega)
          have hsl2 := hsl
          rw [mkS_size] at hsl2
          clear hok
          go_wp2_with (go_at_call 27; with_reducible refine HQ.out.mono ?_; rintro e w6 ⟨rfl, hb6⟩)
          have hbw6 := hbw2.trans (hb6.mono hbw2.size)
          go_roundw
          case rel => exact ⟨j + 1, by omega, by rw [spW, HNX.out, HF.out.2.1]; rfl, by rw [HNX.out, HF.out.2.1, mkS_size, show numW (Z : Int) = dec Z from rfl, sp_len]; omega, by rw [hb6.block _ hsz2]; exact hit2, hbw6⟩
          case measure =>
            simp only [World.iterPos, hb6.block _ hsz2, hit2, hit]; omega
        · -- b
          have hz' : z = 98 := hz
          subst hz'
          clear hz
          obtain ⟨Z, rfl⟩ : ∃ Z : Nat, b = Z := ⟨b.toNat, by simp [mayO, okPlace] at hok; omega⟩
          have hZ : Z < 65536 := by simp [mayO, okPlace] at hok; omega
          have HQ := Lib.hid (num_any Z wi (by omega))
          have hq1 := dec_len Z (by omega)
          have hsl2 := hsl
          rw [mkS_size] at hsl2
          clear hok
          go_wp2_with (go_at_call 27; with_reducible refine HQ.out.mono ?_; rintro e w6 ⟨rfl, hb6⟩)
          have hbw6 := hbw2.trans (hb6.mono hbw2.size)
          go_roundw
          case rel => exact ⟨j + 1, by omega, by rw [spW, HNX.out, HF.out.2.2.1]; rfl, by rw [HNX.out, HF.out.2.2.1, mkS_size, show numW (Z : Int) = dec Z from rfl, sp_len]; omega, by rw [hb6.block _ hsz2]; exact hit2, hbw6⟩
          case measure =>
            simp only [World.iterPos, hb6.block _ hsz2, hit2, hit]; omega
        · -- n
          have hz' : z = 110 := hz
          subst hz'
          clear hz
          obtain ⟨Z, rfl⟩ : ∃ Z : Nat, n = Z := ⟨n.toNat, by simp [mayO, okCount] at hok; omega⟩
          have hZ : Z < 65536 := by simp [mayO, okCount] at hok; omega
          have HQ := Lib.hid (num_any Z wi (by omega))
          have hq1 := dec_len Z (by omega)
          have hsl2 := hsl
          rw [mkS_size] at hsl2
          clear hok
          go_wp2_with (go_at_call 27; with_reducible refine HQ.out.mono ?_; rintro e w6 ⟨rfl, hb6⟩)
          have hbw6 := hbw2.trans (hb6.mono hbw2.size)
          go_roundw
          case rel => exact ⟨j + 1, by omega, by rw [spW, HNX.out, HF.out.2.2.2.1]; rfl, by rw [HNX.out, HF.out.2.2.2.1, mkS_size, show numW (Z : Int) = dec Z from rfl, sp_len]; omega, by rw [hb6.block _ hsz2]; exact hit2, hbw6⟩
          case measure =>
            simp only [World.iterPos, hb6.block _ hsz2, hit2, hit]; omega
        · -- pt
          have hz' : z = 112 := hz
          subst hz'
          clear hz
          clear hok
          obtain ⟨Z, rfl⟩ : ∃ Z : Nat, pt = Z := ⟨pt.toNat, by omega⟩
          have hZ : Z < 18446744073709551616 := by omega
          have HQ := Lib.hid (num_any Z wi (by omega))
          have hq1 := dec_len Z (by omega)
          have hsl2 := hsl
          rw [mkS_size] at hsl2
          go_wp2_with (go_at_call 27; with_reducible refine HQ.out.mono ?_; rintro e w6 ⟨rfl, hb6⟩)
          have hbw6 := hbw2.trans (hb6.mono hbw2.size)
          go_roundw
          case rel => exact ⟨j + 1, by omega, by rw [spW, HNX.out, HF.out.2.2.2.2.1]; rfl, by rw [HNX.out, HF.out.2.2.2.2.1, mkS_size, show numW (Z : Int) = dec Z from rfl, sp_len]; omega, by rw [hb6.block _ hsz2]; exact hit2, hbw6⟩
          case measure =>
            simp only [World.iterPos, hb6.block _ hsz2, hit2, hit]; omega
        · -- d
          have hz' : z = 100 := hz
          subst hz'
          clear hz
          have HQ := Lib.hid (hex_any da dn dc d wi (Sl.below HD.out (hb.trans (hb5.mono hb.size)) (Nat.le_refl _)) hdn)
          have hq1 : (hexL d).length ≤ 2000000000 := by rw [hexL_len, hdl]; omega
          have hsl2 := hsl
          rw [mkS_size] at hsl2
          clear hok
          go_wp2_with (go_at_call 29; with_reducible refine HQ.out.mono ?_; rintro e w6 ⟨rfl, hb6⟩)
          have hbw6 := hbw2.trans (hb6.mono hbw2.size)
          go_roundw
          case rel => exact ⟨j + 1, by omega, by rw [spW, HNX.out, HF.out.2.2.2.2.2.1], by rw [HNX.out, HF.out.2.2.2.2.2.1, mkS_size, sp_len]; omega, by rw [hb6.block _ hsz2]; exact hit2, hbw6⟩
          case measure =>
            simp only [World.iterPos, hb6.block _ hsz2, hit2, hit]; omega
        · -- m
          have hz' : z = 109 := hz
          subst hz'
          clear hz
          have hml := hm0
          have hok2 : rises 0 m = true ∧ m.length ≤ 8 := by simp [mayO, okMem] at hok; exact ⟨hok.1, hok.2.2⟩
          have HRG := Lib.hid (rises_range m 0 (Int.le_refl 0) hok2.1)
          have hm8 := hok2.2
          have hsl2 := hsl
          rw [mkS_size] at hsl2
          clear hok hok2
          go_wp2_with fail
          go_loopw [3, 25] (fun u3 u25 wr2 => ∃ t : Nat, t ≤ mn ∧ u25 = .int .i64 t ∧ u3 = .string (mkS (S ++ sp ((m.take t).map numW))) ∧ (mkS (S ++ sp ((m.take t).map numW))).size ≤ S.length + 100 * t ∧ Below wi.heap.size wi wr2) (fun _ u25 _ => mn - (intOf u25).toNat)
          case atStart => exact ⟨0, by omega, rfl, by simp [sp], by simp [sp, mkS_size], Below.refl _ _⟩
          case round =>
            obtain ⟨t, ht, rfl, rfl, hsl3, hbw6⟩ := hrel
            have hb7 := hb5.trans (hbw6.mono hb5.size)
            obtain ⟨-, -, -, -, -, -, -, d7⟩ := HC8.out.below hb7 hA
            have hmw := Is.below HM.out (hb.trans (hb7.mono hb.size)) (Nat.le_refl _)
            by_cases hlt3 : t < mn
            · obtain ⟨B, o, x, rfl, hx, hck⟩ := Is.cell hmw t hlt3
              obtain ⟨hx1, hx2⟩ := HRG.out x (List.mem_of_getElem? hx)
              obtain ⟨Z, rfl⟩ : ∃ Z : Nat, x = Z := ⟨x.toNat, by omega⟩
              have hNX : mkS (S ++ sp ((m.take (t + 1)).map numW)) = mkS ((S ++ sp ((m.take t).map numW)) ++ sp [dec Z]) := by
                rw [List.take_add_one, hx, List.map_append, sp_app, List.append_assoc]; rfl
              have hsl4 := hsl3
              rw [mkS_size] at hsl4
              have HNX2 := Lib.hid hNX
              generalize S ++ sp ((m.take t).map numW) = T at *
              have HQ := Lib.hid (num_any Z wr (by omega))
              have hq1 := dec_len Z (by omega)
              clear hNX hmw hx
              go_wp2_with (go_at_call 27; with_reducible refine HQ.out.mono ?_; rintro e w6 ⟨rfl, hb6⟩)
              have hbw7 := hbw6.trans (hb6.mono hbw6.size)
              exact ⟨⟨t + 1, by omega, by go_num, by rw [spW, HNX2.out], by rw [HNX2.out, mkS_size, sp_len]; omega, hbw7⟩, by simp [intOf]; omega⟩
            · obtain rfl : t = mn := by omega
              have hbw8 := hbw2.trans (hbw6.mono hbw2.size)
              rw [List.take_of_length_le (Nat.le_of_eq hm0), ← HF.out.2.2.2.2.2.2, ← HNX.out] at hsl3
              have hS9 : S ++ sp ((m.take t).map numW) = S0 ++ sp ((L.take (j + 1)).flatMap F) := by rw [List.take_of_length_le (Nat.le_of_eq hm0), ← HF.out.2.2.2.2.2.2, ← HNX.out]
              rw [hS9]
              generalize hS8 : S0 ++ sp ((L.take (j + 1)).flatMap F) = T at *
              have HS8 := Lib.hid hS8
              clear hS8 hS9
              go_wp2_with fail
              go_roundw
              case rel => exact ⟨j + 1, by omega, by rw [HS8.out], by rw [HS8.out]; omega, by rw [hbw6.block _ hsz2]; exact hit2, hbw8⟩
              case measure =>
                simp only [World.iterPos, hbw6.block _ hsz2, hit2, hit]; omega
      · obtain rfl : j = L.length := by omega
        have hnx : ∀ ty, (Instr.next (.pointer (some ⟨w3.heap.size, 0, none⟩)) true ty).run Try.prog wr = _ := fun ty => Lib.run_next_end_at wr w3.heap.size ⟨L.toArray⟩ L.length ty hit (by show ¬ L.length < L.length; omega)
        rw [List.take_length]
        generalize hS : S0 ++ sp (L.flatMap F) = S at *
        go_wp2_with fail
        go_ret
        exact ⟨by rw [hS0, hLL, hS]; rfl, hb.trans ((hb3.trans (hbw.mono hb3.size)).mono hb.size)⟩
end Go.Proofs.Ytljbehndnledpaa
