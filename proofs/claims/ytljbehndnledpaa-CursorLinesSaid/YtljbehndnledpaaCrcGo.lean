/- The walk of yesteryearref02.Go. Conditions: those of the theorem. -/
import Derived.Test.YtljbehndnledpaaCrcRef2
import Derived.Deep.RegionHeld3
namespace Go.Proofs.Ytljbehndnledpaa
open Go.RowKit

theorem crcGo_snocB (m : Nat) (l : List UInt8) (k : Nat) (c : UInt8) (hc : l[k]? = some c) : crcGo m (l.take (k + 1)) = crcBitsB c.toNat 8 (crcGo m (l.take k)) := by
  rw [crcGo_snoc m l k c hc, crcByte_eq]

/-- One bit turned, bit by bit. -/
theorem crcBitB_bit (s : Nat) (b odd : Bool) (ho : odd = (s.testBit 0 != b)) (j : Nat) : (crcBitB s b).testBit j = (s.testBit (j + 1) != (odd && Nat.testBit 3988292384 j)) := by
  have h0 : s.testBit 0 = decide (s % 2 = 1) := Nat.testBit_zero s
  unfold crcBitB
  rw [h0] at ho
  rw [← ho]
  cases odd with
  | true => simp only [if_true, Nat.testBit_xor, Nat.testBit_div_two, Bool.true_and]
  | false => simp [Nat.testBit_div_two]

theorem bit32 (s : Nat) (h : s < 4294967296) : s.testBit 32 = false := Nat.testBit_lt_two_pow h

set_option maxRecDepth 100000 in
set_option maxHeartbeats 2000000 in
theorem refGo_any (sum : Nat) (a : Option Addr) (n cap : Nat) (l : List UInt8) (w : World) (hs : sum < 4294967296) (h : Bs w a n l) (hn : n ≤ 1000000000) :
    Calls Try.prog 155 #[.int .u32 (sum : Int), .slice a n cap] w fun e w' => e = .returned (.int .u32 (crcGo (sum ^^^ 4294967295) l ^^^ 4294967295 : Nat)) ∧ Below w.heap.size w w' := by
  have HB := Lib.hid h
  have HL := Lib.hid h.length
  clear h
  obtain ⟨m, hm⟩ : ∃ m, m = sum ^^^ 4294967295 := ⟨_, rfl⟩
  have hml : m < 4294967296 := by rw [hm]; exact Nat.xor_lt_two_pow (n := 32) (by omega) (by omega)
  have ht0 := fun w1 : World => turned_any sum w1
  rw [← hm] at ht0 ⊢
  have hbz : ∀ x, (bitsOf x).size = 32 := fun x => boolsV_size _
  clear hm
  go_enter Try.func155, Try.ntmps155
  go_wp2_with fail
  refine (bits_any sum w hs).mono ?_
  rintro e w1 ⟨rfl, hb1⟩
  rw [show (boolsV fun i => sum.testBit i).toArray = bitsOf sum from rfl]
  go_wp2_with fail
  refine (ht0 w1).mono ?_
  rintro e w2 ⟨rfl, hb2⟩
  clear ht0
  have hb3 := hb1.trans (hb2.mono hb1.size)
  clear hb1 hb2
  clear hbz
  have hbn := Bools.new w2 280 (fun _ => false) #[.bool false, .bool false, .bool false, .bool false, .bool false, .bool false, .bool false, .bool false, .bool false, .bool false, .bool false, .bool false, .bool false, .bool false, .bool false, .bool false, .bool false, .bool false, .bool false, .bool false, .bool false, .bool false, .bool false, .bool false, .bool false, .bool false, .bool false, .bool false, .bool false, .bool false, .bool false, .bool false] rfl
  go_wp2_with ((with_reducible show wpList _ _ _ ({ dst := _, op := Op.store _ _ _, type := _, pos := _, after := _, guard := _ } :: _) _ _); refine wpl_store280 rfl _ _ rfl _ rfl (fun i => Nat.testBit m i) rfl (fun _ => false) hbn ?_)
  have q5 := Bools.stored hbn (fun i => Nat.testBit m i)
  have hb4 := Below.setCells' (hb3.alloc hb3.size (.cells #[.bool false, .bool false, .bool false, .bool false, .bool false, .bool false, .bool false, .bool false, .bool false, .bool false, .bool false, .bool false, .bool false, .bool false, .bool false, .bool false, .bool false, .bool false, .bool false, .bool false, .bool false, .bool false, .bool false, .bool false, .bool false, .bool false, .bool false, .bool false, .bool false, .bool false, .bool false, .bool false] 280)) hb3.size (boolsV fun i => Nat.testBit m i) 0
  have hp5 := hb3.size
  generalize (w2.alloc (.cells #[.bool false, .bool false, .bool false, .bool false, .bool false, .bool false, .bool false, .bool false, .bool false, .bool false, .bool false, .bool false, .bool false, .bool false, .bool false, .bool false, .bool false, .bool false, .bool false, .bool false, .bool false, .bool false, .bool false, .bool false, .bool false, .bool false, .bool false, .bool false, .bool false, .bool false, .bool false, .bool false] 280)).setCells w2.heap.size 0 (boolsV fun i => Nat.testBit m i) = w3 at *
  generalize w2.heap.size = p5 at *
  clear hb3 hbn
  refine (bits_any 3988292384 w3 (by omega)).mono ?_
  rintro e w4 ⟨rfl, hb5⟩
  have hb6 := hb4.trans (hb5.mono hb4.size)
  have q5' := q5.below hb5 q5.lt
  have hp6 : p5 < w4.heap.size := q5'.lt
  have hp6' := hb6.size
  clear hb4 hb5 q5
  have hbn := Bools.new w4 280 (fun _ => false) #[.bool false, .bool false, .bool false, .bool false, .bool false, .bool false, .bool false, .bool false, .bool false, .bool false, .bool false, .bool false, .bool false, .bool false, .bool false, .bool false, .bool false, .bool false, .bool false, .bool false, .bool false, .bool false, .bool false, .bool false, .bool false, .bool false, .bool false, .bool false, .bool false, .bool false, .bool false, .bool false] rfl
  go_wp2_with ((with_reducible show wpList _ _ _ ({ dst := _, op := Op.store _ _ _, type := _, pos := _, after := _, guard := _ } :: _) _ _); refine wpl_store280 rfl _ _ rfl _ rfl (fun i => Nat.testBit 3988292384 i) rfl (fun _ => false) hbn ?_)
  have r6 := Bools.stored hbn (fun i => Nat.testBit 3988292384 i)
  have hb7 := Below.setCells' (hb6.alloc hb6.size (.cells #[.bool false, .bool false, .bool false, .bool false, .bool false, .bool false, .bool false, .bool false, .bool false, .bool false, .bool false, .bool false, .bool false, .bool false, .bool false, .bool false, .bool false, .bool false, .bool false, .bool false, .bool false, .bool false, .bool false, .bool false, .bool false, .bool false, .bool false, .bool false, .bool false, .bool false, .bool false, .bool false] 280)) hb6.size (boolsV fun i => Nat.testBit 3988292384 i) 0
  have hb8 : Below w4.heap.size w4 ((w4.alloc (.cells #[.bool false, .bool false, .bool false, .bool false, .bool false, .bool false, .bool false, .bool false, .bool false, .bool false, .bool false, .bool false, .bool false, .bool false, .bool false, .bool false, .bool false, .bool false, .bool false, .bool false, .bool false, .bool false, .bool false, .bool false, .bool false, .bool false, .bool false, .bool false, .bool false, .bool false, .bool false, .bool false] 280)).setCells w4.heap.size 0 (boolsV fun i => Nat.testBit 3988292384 i)) := Below.setCells' ((Below.refl _ _).alloc (Nat.le_refl _) _) (Nat.le_refl _) _ 0
  have r5 := q5'.below hb8 hp6
  generalize (w4.alloc (.cells #[.bool false, .bool false, .bool false, .bool false, .bool false, .bool false, .bool false, .bool false, .bool false, .bool false, .bool false, .bool false, .bool false, .bool false, .bool false, .bool false, .bool false, .bool false, .bool false, .bool false, .bool false, .bool false, .bool false, .bool false, .bool false, .bool false, .bool false, .bool false, .bool false, .bool false, .bool false, .bool false] 280)).setCells w4.heap.size 0 (boolsV fun i => Nat.testBit 3988292384 i) = w5 at *
  generalize w4.heap.size = p6 at *
  clear hb6 hb8 q5' hbn
  go_loopw [7] (fun u7 wr => ∃ k : Nat, k ≤ n ∧ u7 = .int .i64 k ∧ Bools wr p5 (fun i => (crcGo m (l.take k)).testBit i) ∧ Bools wr p6 (fun i => Nat.testBit 3988292384 i) ∧ Below w.heap.size w wr) (fun u7 _ => n - (intOf u7).toNat)
  case atStart => exact ⟨0, by omega, rfl, r5, r6, hb7⟩
  case round =>
    obtain ⟨k, hk, rfl, hq5, hq6, hbw⟩ := hrel
    have hgl := crcGo_lt (l.take k) hml
    by_cases hlt : k < n
    · obtain ⟨b, o, c, rfl, hcc, hck, hbl⟩ := Bs.cell HB.out k hlt
      have hck' : wr.cell? ⟨b, o + k, none⟩ = some (.int .u8 (c.toNat : Int)) := by rw [hbw.cell hbl]; exact hck
      have HN := Lib.hid (crcGo_snocB m l k c hcc)
      have hcb := c.toNat_lt
      have hw32 : IntKind.u32.wrap (c.toNat : Int) = c.toNat := by rw [IntKind.wrap_u32']; omega
      generalize crcGo m (l.take k) = s at *
      clear hcc hck
      go_wp2_with fail
      refine (bits_any c.toNat wr (by omega)).mono ?_
      rintro e w6 ⟨rfl, hb9⟩
      have hb10 := hbw.trans (hb9.mono hbw.size)
      have r5 := hq5.below hb9 hq5.lt
      have r6 := hq6.below hb9 hq6.lt
      have hp8 : p6 < w6.heap.size := r6.lt
      have hp8' := hb10.size
      clear hb9 hq5 hq6 hbw hck'
      have hbn := Bools.new w6 280 (fun _ => false) #[.bool false, .bool false, .bool false, .bool false, .bool false, .bool false, .bool false, .bool false, .bool false, .bool false, .bool false, .bool false, .bool false, .bool false, .bool false, .bool false, .bool false, .bool false, .bool false, .bool false, .bool false, .bool false, .bool false, .bool false, .bool false, .bool false, .bool false, .bool false, .bool false, .bool false, .bool false, .bool false] rfl
      go_wp2_with ((with_reducible show wpList _ _ _ ({ dst := _, op := Op.store _ _ _, type := _, pos := _, after := _, guard := _ } :: _) _ _);  refine wpl_store280 rfl _ _ rfl _ rfl (fun i => Nat.testBit c.toNat i) rfl (fun _ => false) hbn ?_)
      have t8 := Bools.stored hbn (fun i => Nat.testBit c.toNat i)
      have hb11 := Below.setCells' (hb10.alloc hb10.size (.cells #[.bool false, .bool false, .bool false, .bool false, .bool false, .bool false, .bool false, .bool false, .bool false, .bool false, .bool false, .bool false, .bool false, .bool false, .bool false, .bool false, .bool false, .bool false, .bool false, .bool false, .bool false, .bool false, .bool false, .bool false, .bool false, .bool false, .bool false, .bool false, .bool false, .bool false, .bool false, .bool false] 280)) hb10.size (boolsV fun i => Nat.testBit c.toNat i) 0
      have hb12 : Below w6.heap.size w6 ((w6.alloc (.cells #[.bool false, .bool false, .bool false, .bool false, .bool false, .bool false, .bool false, .bool false, .bool false, .bool false, .bool false, .bool false, .bool false, .bool false, .bool false, .bool false, .bool false, .bool false, .bool false, .bool false, .bool false, .bool false, .bool false, .bool false, .bool false, .bool false, .bool false, .bool false, .bool false, .bool false, .bool false, .bool false] 280)).setCells w6.heap.size 0 (boolsV fun i => Nat.testBit c.toNat i)) := Below.setCells' ((Below.refl _ _).alloc (Nat.le_refl _) _) (Nat.le_refl _) _ 0
      have t5 := r5.below hb12 (by omega)
      have t6 := r6.below hb12 hp8
      generalize (w6.alloc (.cells #[.bool false, .bool false, .bool false, .bool false, .bool false, .bool false, .bool false, .bool false, .bool false, .bool false, .bool false, .bool false, .bool false, .bool false, .bool false, .bool false, .bool false, .bool false, .bool false, .bool false, .bool false, .bool false, .bool false, .bool false, .bool false, .bool false, .bool false, .bool false, .bool false, .bool false, .bool false, .bool false] 280)).setCells w6.heap.size 0 (boolsV fun i => Nat.testBit c.toNat i) = w7 at *
      generalize w6.heap.size = p8 at *
      clear hb10 hb12 r5 r6 hbn
      go_loopw [9] (fun u9 wq => ∃ j : Nat, j ≤ 8 ∧ u9 = .int .i64 j ∧ Bools wq p5 (fun i => (crcBitsB c.toNat j s).testBit i) ∧ Bools wq p6 (fun i => Nat.testBit 3988292384 i) ∧ Bools wq p8 (fun i => Nat.testBit c.toNat i) ∧ Below w.heap.size w wq) (fun u9 _ => 8 - (intOf u9).toNat)
      case atStart => exact ⟨0, by omega, rfl, t5, t6, t8, hb11⟩
      case round =>
        obtain ⟨j, hj, rfl, hq5, hq6, hq8, hbw⟩ := hrel
        by_cases hj8 : j < 8
        · have hsl := crcBitsB_lt c.toNat hgl j
          have hnx : crcBitsB c.toNat (j + 1) s = crcBitB (crcBitsB c.toNat j s) (c.toNat.testBit j) := rfl
          generalize crcBitsB c.toNat j s = r at *
          have h0 := (hq5 0 (by omega)).1
          have hcj := (hq8 j (by omega)).1
          simp only at h0 hcj
          obtain ⟨odd, hodd⟩ : ∃ odd, odd = (r.testBit 0 != c.toNat.testBit j) := ⟨_, rfl⟩
          have hbit := crcBitB_bit r (c.toNat.testBit j) odd hodd
          rw [← hnx] at hbit
          have HBIT := Lib.hid hbit
          have HODD := Lib.hid hodd
          clear hnx hbit hodd
          generalize r.testBit 0 = r0 at *
          generalize c.toNat.testBit j = cj at *
          have hji0 : (0 : Int) ≤ (j : Int) := by omega
          have hji1 : (j : Int) < 32 := by omega
          go_wp2_with fail
          go_quiet (fail)
          rw [show (!(r0 == cj)) = odd from HODD.out.symm]
          rename_i nq _
          have hbd := below_drewN (Below.refl wr.heap.size wr) nq
          have t5 := hq5.below hbd hq5.lt
          have t6 := hq6.below hbd hq6.lt
          have t8 := hq8.below hbd hq8.lt
          have hb11 := below_drewN hbw nq
          generalize wr.drewN nq = w8 at *
          clear hbd hq5 hq6 hq8 hbw h0 hcj HODD
          go_wp2_with fail
          go_loopw [11] (fun u11 wz => ∃ i : Nat, i ≤ 31 ∧ u11 = .int .i64 i ∧ Bools wz p5 (fun q => if q < i then (crcBitsB c.toNat (j + 1) s).testBit q else r.testBit q) ∧ Bools wz p6 (fun i => Nat.testBit 3988292384 i) ∧ Bools wz p8 (fun i => Nat.testBit c.toNat i) ∧ Below w.heap.size w wz) (fun u11 _ => 31 - (intOf u11).toNat)
          case atStart => exact ⟨0, by omega, rfl, t5.congr (by simp), t6, t8, hb11⟩
          case round =>
            clear t5 t6 t8 hb11
            obtain ⟨i, hi, rfl, hq5, hq6, hq8, hbw⟩ := hrel
            by_cases hi31 : i < 31
            · have c1 := (hq5 (i + 1) (by omega)).1
              have c2 := (hq6 i (by omega)).1
              have c3 := (hq5 i (by omega)).1
              have f3 := (hq5 i (by omega)).2
              have hbi := HBIT.out i
              simp only [show ¬ (i + 1 < i) by omega, Nat.lt_irrefl, if_false] at c1 c2 c3
              obtain ⟨nb, hnb⟩ : ∃ nb, nb = (crcBitsB c.toNat (j + 1) s).testBit i := ⟨_, rfl⟩
              have hset := (hq5.set i (by omega) nb).congr (g := fun q => if q < i + 1 then (crcBitsB c.toNat (j + 1) s).testBit q else r.testBit q) (fun q _ => by
                by_cases e : q = i
                · subst e; simp [hnb]
                · simp [e, show (q < i + 1) = (q < i) by simp; omega])
              have ha6 := hq6.apart (b' := p5) (k := i) (by omega) (.bool nb)
              have ha8 := hq8.apart (b' := p5) (k := i) (by omega) (.bool nb)
              have hbn := hbw.setCell (p := ⟨p5, i, none⟩) hp5 (.bool nb)
              rw [← hnb] at hbi
              have HS := Lib.hid hset
              have hii0 : (0 : Int) ≤ (i : Int) := by omega
              have hii1 : (i : Int) < 32 := by omega
              have hii2 : (0 : Int) ≤ (i : Int) + 1 := by omega
              have hii3 : (i : Int) + 1 < 32 := by omega
              clear hset hnb hq5 hq6 hq8
              generalize r.testBit (i + 1) = x at *
              generalize Nat.testBit 3988292384 i = y at *
              generalize r.testBit i = z at *
              have hwi : IntKind.i64.wrap ((i : Int) + 1) = (i : Int) + 1 := IntWalk.i64_in _ (by omega)
              have hti : ((i : Int) + 1).toNat = i + 1 := by omega
              cases odd <;> cases x <;> cases y
              all_goals
                simp at hbi
                subst hbi
                go_wp2_with fail
                go_region
              all_goals
                go_wp2_with fail
                exact ⟨⟨i + 1, by omega, by go_num, HS.out.drew, ha6.drew, ha8.drew, hbn.drew⟩, by simp [intOf]; omega⟩
            · have h31 : i = 31 := by omega
              subst h31
              have c2 := (hq6 31 (by omega)).1
              have c3 := (hq5 31 (by omega)).1
              have f3 := (hq5 31 (by omega)).2
              have hbi := HBIT.out 31
              rw [bit32 r hsl, show Nat.testBit 3988292384 31 = true by decide] at hbi
              have hp31 : Nat.testBit 3988292384 31 = true := by decide
              simp only [hp31] at c2
              obtain ⟨nb, hnb⟩ : ∃ nb, nb = (crcBitsB c.toNat (j + 1) s).testBit 31 := ⟨_, rfl⟩
              have hset := (hq5.set 31 (by omega) nb).congr (g := fun q => (crcBitsB c.toNat (j + 1) s).testBit q) (fun q hq => by
                by_cases e : q = 31
                · subst e; simp [hnb]
                · simp [e, show q < 31 by omega])
              have ha6 := hq6.apart (b' := p5) (k := 31) (by omega) (.bool nb)
              have ha8 := hq8.apart (b' := p5) (k := 31) (by omega) (.bool nb)
              have hbn := hbw.setCell (p := ⟨p5, 31, none⟩) hp5 (.bool nb)
              rw [← hnb] at hbi
              have HS := Lib.hid hset
              clear hset hnb hq5 hq6 hq8 hp31
              cases odd
              all_goals
                simp at hbi
                subst hbi
                go_wp2_with fail
                exact ⟨⟨j + 1, by omega, by go_num, HS.out, ha6, ha8, hbn⟩, by simp [intOf]; omega⟩
        · have h8 : j = 8 := by omega
          subst h8
          rw [← HN.out] at hq5
          go_wp2_with fail
          exact ⟨⟨k + 1, by omega, by go_num, hq5, hq6, hbw⟩, by simp [intOf]; omega⟩
    · have hkn : k = n := by omega
      subst hkn
      have ht : l.take k = l := List.take_of_length_le (by rw [HL.out]; omega)
      rw [ht] at hgl hq5
      obtain ⟨g, hg⟩ : ∃ g, g = crcGo m l := ⟨_, rfl⟩
      rw [← hg] at hgl hq5
      have HG := Lib.hid hg
      clear hg ht
      have hgx : g ^^^ 4294967295 < 4294967296 := Nat.xor_lt_two_pow (n := 32) (by omega) (by omega)
      go_wp2_with ((with_reducible show wpList _ _ _ ({ dst := _, op := Op.load _ _, type := _, pos := _, after := _, guard := _ } :: _) _ _); refine wpl_load280 rfl _ rfl _ rfl _ hq5 ?_)
      refine (turned_any g wr).mono ?_
      rintro e w8 ⟨rfl, hb13⟩
      have hb14 := hbw.trans (hb13.mono hbw.size)
      clear hb13
      go_wp2_with fail
      refine (number_any _ w8 hgx).mono ?_
      rintro e w9 ⟨rfl, hb15⟩
      have hb16 := hb14.trans (hb15.mono hb14.size)
      clear hb15
      go_wp2_with fail
      go_ret
      exact ⟨by rw [HG.out]; rfl, hb16⟩
end Go.Proofs.Ytljbehndnledpaa
