/- The walk of the law ScrubCounts: it returns true and writes nothing that was there. No condition but that the sectors read. -/
import Derived.Test.YtljbehndnledpaaScrubPlain
namespace Go.Proofs.Ytljbehndnledpaa
open Go.RowKit

set_option maxRecDepth 100000 in
set_option maxHeartbeats 8000000 in
theorem scrubLaw (n : Int) (a : Option Addr) (len cap : Nat) (ls : List (List UInt8)) (w : World) (hn : -9223372036854775808 ≤ n ∧ n ≤ 9223372036854775807) (h : Sectors w a len ls) :
    Calls Try.prog 10 #[.int .i64 n, .slice a len cap] w fun e w' => e = .returned (.bool true) ∧ Below w.heap.size w w' := by
  by_cases hin : 1 ≤ n ∧ n ≤ 20 ∧ (len : Int) ≤ n
  · obtain ⟨h1, h2, h3⟩ := hin
    obtain ⟨N, rfl⟩ : ∃ N : Nat, n = N := ⟨n.toNat, by omega⟩
    have hll := h.1
    have HS := Lib.hid h
    clear h hn
    go_enter Try.func10, Try.ntmps10
    go_wp2_with fail
    refine (new_any N w (by omega) (by omega)).mono ?_
    rintro e w1 ⟨p, s, rfl, hd, hb1⟩
    have HD := Lib.hid hd
    clear hd
    go_wp2_with fail
    have q7 := Tally.new w1 71 (fun _ => 0) #[.int .i64 0, .int .i64 0, .int .i64 0, .int .i64 0, .int .i64 0, .int .i64 0, .int .i64 0, .int .i64 0] rfl
    have a7 : At (w1.alloc (.cells #[.int .i64 0, .int .i64 0, .int .i64 0, .int .i64 0, .int .i64 0, .int .i64 0, .int .i64 0, .int .i64 0] 71)) w1.heap.size 71 := ⟨_, heap_alloc_new w1 _⟩
    have hb2 : Below w.heap.size w (w1.alloc (.cells #[.int .i64 0, .int .i64 0, .int .i64 0, .int .i64 0, .int .i64 0, .int .i64 0, .int .i64 0, .int .i64 0] 71)) := hb1.alloc hb1.size _
    have hd2 := HD.out.below ((Below.refl w1.heap.size w1).alloc (Nat.le_refl _) (.cells #[.int .i64 0, .int .i64 0, .int .i64 0, .int .i64 0, .int .i64 0, .int .i64 0, .int .i64 0, .int .i64 0] 71))
    have hB := hb1.size
    generalize w1.alloc (.cells #[.int .i64 0, .int .i64 0, .int .i64 0, .int .i64 0, .int .i64 0, .int .i64 0, .int .i64 0, .int .i64 0] 71) = w2 at *
    generalize w1.heap.size = B at *
    clear HD hb1
    go_loopw [8] (fun u8 wr => ∃ k : Nat, k ≤ len ∧ u8 = .int .i64 k ∧ (∃ lv, Disk w.heap.size wr p s lv N (lateK ls k)) ∧ Tally wr B (cntF (wantF ls) k) ∧ At wr B 71 ∧ Below w.heap.size w wr) (fun u8 _ => len - (intOf u8).toNat)
    case atStart => exact ⟨0, by omega, rfl, ⟨_, hd2⟩, q7, a7, hb2⟩
    case round =>
      clear q7 a7 hb2 hd2
      obtain ⟨k, hk, rfl, ⟨lv, hd⟩, q7, a7, hbw⟩ := hrel
      by_cases hlt : k < len
      · obtain ⟨x, hx⟩ : ∃ x, ls[k]? = some x := ⟨_, List.getElem?_eq_getElem (by omega)⟩
        obtain ⟨b, o, A, C, rfl, hc, hbl, hbs, hC⟩ := HS.out.2 k x hx
        have hgk : ls.getD k [] = x := by simp [List.getD, hx]
        have hk0 : (0 : Int) ≤ (k : Int) := by omega
        have hk1 : (k : Int) < (len : Int) := by omega
        have hcw : wr.cell? ⟨b, o + k, none⟩ = some (.slice A x.length C) := by rw [hbw.cell hbl]; exact hc
        by_cases h128 : x.length = 128
        · rw [h128] at hc hcw hbs hC
          obtain ⟨ab, ao, _, rfl, _⟩ := Bs.cell hbs 0 (by omega)
          have hwr := write_any w.heap.size wr p s lv N (lateK ls k) k ab ao C x hd hbw.size (by omega) (by rw [lateK_length]; omega) (hbs.below hbw (Nat.le_refl _))
          have hls := lateK_succ ls k
          rw [hgk] at hls
          rw [← hls] at hwr
          have HWR := Lib.hid hwr
          have HBS := Lib.hid hbs
          have hwf : wantF ls k = cls x := by rw [wantF, hgk]
          have HWF := Lib.hid hwf
          clear hwr hls hbs hd hx hgk hwf
          go_wp2_with fail
          refine HWR.out.mono ?_
          clear HWR
          rintro e w4 ⟨rfl, ⟨lv', hd4⟩, hb4, h71⟩
          have hb5 : Below w.heap.size w w4 := hbw.trans hb4
          have q4 := q7.heap (h71 B a7)
          have a4 := a7.heap (h71 B a7)
          have hc4 : w4.cell? ⟨b, o + k, none⟩ = some (.slice (some ⟨ab, ao, none⟩) 128 C) := by rw [hb5.cell hbl]; exact hc
          have hpg := refGet_any ab ao C x w4 (HBS.out.below hb5 (Nat.le_refl _)) hC
          have HPG := Lib.hid hpg
          clear hpg hb4 h71 q7 a7 hcw hbw
          go_wp2_with fail
          refine HPG.out.mono ?_
          clear HPG
          rintro e w5 ⟨hb6, kd, v, fe, rfl, hcase⟩
          have hb7 := hb5.trans (hb6.mono hb5.size)
          have q5 := q4.below hb6 q4.lt
          have a5 := a4.below hb6
          have hd5 := hd4.below hb6
          have hc5 : w5.cell? ⟨b, o + k, none⟩ = some (.slice (some ⟨ab, ao, none⟩) 128 C) := by rw [hb7.cell hbl]; exact hc
          have hbs5 : Bs w5 (some ⟨ab, ao, none⟩) 128 x := HBS.out.below hb7 (Nat.le_refl _)
          have HB5 := Lib.hid hbs5
          have HCASE := Lib.hid hcase
          clear hb6 q4 a4 hd4 hc4 hb5 hbs5 hcase
          go_wp2_with fail
          go_loop [12, 13] (fun u12 u13 => ∃ j : Nat, j ≤ 128 ∧ u13 = .int .i64 j ∧ u12 = .bool ((x.take j).all (· == 0))) (fun _ u13 => 128 - (intOf u13).toNat)
          case atStart => exact ⟨0, by omega, rfl, rfl⟩
          case round =>
            obtain ⟨j, hj, rfl, rfl⟩ := hrel
            by_cases hj128 : j < 128
            · obtain ⟨_, _, y, e1, hy, hcy, _⟩ := Bs.cell HB5.out j hj128
              cases e1
              have hj0 : (0 : Int) ≤ (j : Int) := by omega
              have hj1 : (j : Int) < 128 := by omega
              have hnx : (x.take (j + 1)).all (· == 0) = ((x.take j).all (· == 0) && (y == 0)) := by
                rw [List.take_add_one, hy, List.all_append]; simp
              have HNX := Lib.hid hnx
              have hb0 := byte0 y
              generalize (x.take j).all (· == 0) = z at *
              clear hnx hy hd5 q5
              cases z
              · clear hb0
                go_wp2_with fail
                exact ⟨⟨j + 1, by omega, by go_num, by rw [HNX.out]; simp⟩, by simp [intOf]; omega⟩
              · by_cases hy0 : y = 0
                · have hb := hb0.1 hy0
                  clear hb0
                  go_wp2_with fail
                  exact ⟨⟨j + 1, by omega, by go_num, by rw [HNX.out, hy0]; simp⟩, by simp [intOf]; omega⟩
                · have hb := hb0.2 hy0
                  clear hb0
                  go_wp2_with fail
                  exact ⟨⟨j + 1, by omega, by go_num, by rw [HNX.out]; simp [hy0]⟩, by simp [intOf]; omega⟩
            · have hje : j = 128 := by omega
              subst hje
              rw [List.take_of_length_le (by omega)]
              rcases HCASE.out with ⟨hp, rfl, rfl⟩ | ⟨hp, hfe⟩
              · have hkind := isPage_kind hp
                have hcl : wantF ls k = (x.getD 2 0).toNat := by rw [HWF.out, cls, if_pos hp]
                clear HCASE
                generalize (x.getD 2 0).toNat = kd at *
                obtain ⟨c3, f3, hT, hw, hadd, hbn⟩ := tally_more hcl (by omega) q5 hb7 hB (by omega)
                have hdn := hd5.set71 a5 kd (.int .i64 ((cntF (wantF ls) k kd : Int) + 1))
                have han := a5.set kd (.int .i64 ((cntF (wantF ls) k kd : Int) + 1))
                have hd0 : (0 : Int) ≤ (kd : Int) := by omega
                have hd1 : (kd : Int) < 7 := by omega
                generalize cntF (wantF ls) k kd = tk at *
                have HADD := Lib.hid hadd
                have HDN := Lib.hid hdn
                have HAN := Lib.hid han
                have HBN := Lib.hid hbn
                clear hadd hdn han hbn q5 hd5 a5 hp
                generalize x.all (· == 0) = z at *
                go_wp2_with fail
                exact ⟨⟨k + 1, by omega, by go_num, ⟨_, HDN.out⟩, HADD.out, HAN.out, HBN.out⟩, by simp [intOf]; omega⟩
              · have hfe2 : ((fe : Int) == 0) = false := by rw [beq_eq_false_iff_ne]; omega
                obtain ⟨z, hz⟩ : ∃ z, x.all (· == 0) = z := ⟨_, rfl⟩
                rw [hz]
                have hcl : wantF ls k = if z = true then 0 else 7 := by rw [HWF.out, cls, if_neg (by rw [hp]; simp), hz]
                clear HCASE
                cases z
                · simp only [Bool.false_eq_true, if_false] at hcl
                  obtain ⟨c3, f3, hT, hw, hadd, hbn⟩ := tally_more hcl (by omega) q5 hb7 hB (by omega)
                  have hdn := hd5.set71 a5 7 (.int .i64 ((cntF (wantF ls) k 7 : Int) + 1))
                  have han := a5.set 7 (.int .i64 ((cntF (wantF ls) k 7 : Int) + 1))
                  generalize cntF (wantF ls) k 7 = tk at *
                  have HADD := Lib.hid hadd
                  have HDN := Lib.hid hdn
                  have HAN := Lib.hid han
                  have HBN := Lib.hid hbn
                  clear hadd hdn han hbn q5 hd5 a5 hp hz
                  go_wp2_with fail
                  exact ⟨⟨k + 1, by omega, by go_num, ⟨_, HDN.out⟩, HADD.out, HAN.out, HBN.out⟩, by simp [intOf]; omega⟩
                · simp only [if_true] at hcl
                  obtain ⟨c3, f3, hT, hw, hadd, hbn⟩ := tally_more hcl (by omega) q5 hb7 hB (by omega)
                  have hdn := hd5.set71 a5 0 (.int .i64 ((cntF (wantF ls) k 0 : Int) + 1))
                  have han := a5.set 0 (.int .i64 ((cntF (wantF ls) k 0 : Int) + 1))
                  generalize cntF (wantF ls) k 0 = tk at *
                  have HADD := Lib.hid hadd
                  have HDN := Lib.hid hdn
                  have HAN := Lib.hid han
                  have HBN := Lib.hid hbn
                  clear hadd hdn han hbn q5 hd5 a5 hp hz
                  go_wp2_with fail
                  exact ⟨⟨k + 1, by omega, by go_num, ⟨_, HDN.out⟩, HADD.out, HAN.out, HBN.out⟩, by simp [intOf]; omega⟩
        · have hne : ((x.length : Int) == 128) = false := by rw [beq_eq_false_iff_ne]; omega
          clear hd
          go_wp2_with fail
          go_ret
          exact ⟨rfl, hbw⟩
      · have hkl : k = len := by omega
        subst hkl
        obtain ⟨f, hf⟩ : ∃ f : Nat → Nat, f = fun i => cls (dataAt (lateK ls k) i) := ⟨_, rfl⟩
        have hfd : ∀ i, f i = cls (if i < k then ls.getD i [] else List.replicate 128 0) := fun i => by rw [hf]; simp only [lateK_data]
        have hT : ∀ j, cntF f N j = cntF (wantF ls) k j + if 0 = j then N - k else 0 := fun j => by
          have := cnt_split f (wantF ls) k (fun i hi => by rw [hfd, if_pos hi]; rfl) (fun i hi => by rw [hfd, if_neg (by omega)]; exact cls_zeros) j N
          rw [this, show min N k = k by omega]
        have hsum := cnt_sum f (fun i => by rw [hf]; exact cls_lt _) N
        have hle : ∀ j, cntF f N j ≤ 20 := fun j => by have := cntF_le f N j; omega
        have hadd := (q7.add 0 (N - k)).congr (T := cntF f N) (fun j _ => (hT j).symm)
        have hc0 := (q7 0 (by omega)).1
        have hf0 := (q7 0 (by omega)).2
        have hle0 := cntF_le (wantF ls) k 0
        have e0 : ((cntF (wantF ls) k 0 + (N - k) : Nat) : Int) = (cntF (wantF ls) k 0 : Int) + ((N : Int) - (k : Int)) := by omega
        rw [e0] at hadd
        generalize cntF (wantF ls) k 0 = t0 at *
        have hw1 : IntKind.i64.wrap ((N : Int) - (k : Int)) = (N : Int) - (k : Int) := IntWalk.i64_in _ (by omega)
        have hw2 : IntKind.i64.wrap ((t0 : Int) + ((N : Int) - (k : Int))) = (t0 : Int) + ((N : Int) - (k : Int)) := IntWalk.i64_in _ (by omega)
        have hdn := hd.set71 a7 0 (.int .i64 ((t0 : Int) + ((N : Int) - (k : Int))))
        have hbn := hbw.setCell (p := ⟨B, 0, none⟩) hB (.int .i64 ((t0 : Int) + ((N : Int) - (k : Int))))
        have hcnt := count_any w.heap.size _ p s lv N (lateK ls k) hdn (lateK_idx ls k) (by omega) (by rw [lateK_length]; omega)
        rw [← hf] at hcnt
        generalize cntF f N = T at *
        rw [tallyV_eq] at hcnt
        have HCNT := Lib.hid hcnt
        have HADD := Lib.hid hadd
        have HBN := Lib.hid hbn
        have HSUM := Lib.hid hsum
        clear hf hfd hT hadd hle0 e0 hdn hbn hcnt hd a7 q7 hsum
        go_wp2_with fail
        refine HCNT.out.mono ?_
        clear HCNT
        rintro e w7 ⟨rfl, hb8⟩
        have q8 := HADD.out.below hb8 HADD.out.lt
        have hb9 := HBN.out.trans (hb8.mono HBN.out.size)
        have q9 := q8.below ((Below.refl w7.heap.size w7).alloc (Nat.le_refl _) (.cells #[.int .i64 (T 0 : Int), .int .i64 (T 1 : Int), .int .i64 (T 2 : Int), .int .i64 (T 3 : Int), .int .i64 (T 4 : Int), .int .i64 (T 5 : Int), .int .i64 (T 6 : Int), .int .i64 (T 7 : Int)] 71)) q8.lt
        have r9 := Tally.new w7 71 T #[.int .i64 (T 0 : Int), .int .i64 (T 1 : Int), .int .i64 (T 2 : Int), .int .i64 (T 3 : Int), .int .i64 (T 4 : Int), .int .i64 (T 5 : Int), .int .i64 (T 6 : Int), .int .i64 (T 7 : Int)] (tallyV_eq T).symm
        have hb10 := hb9.alloc hb9.size (.cells #[.int .i64 (T 0 : Int), .int .i64 (T 1 : Int), .int .i64 (T 2 : Int), .int .i64 (T 3 : Int), .int .i64 (T 4 : Int), .int .i64 (T 5 : Int), .int .i64 (T 6 : Int), .int .i64 (T 7 : Int)] 71)
        have hB7 := q8.lt
        have u0 := (q8 0 (by omega)).1
        have y0 := (q9 0 (by omega)).1
        have u1 := (q8 1 (by omega)).1
        have y1 := (q9 1 (by omega)).1
        have u2 := (q8 2 (by omega)).1
        have y2 := (q9 2 (by omega)).1
        have u3 := (q8 3 (by omega)).1
        have y3 := (q9 3 (by omega)).1
        have u4 := (q8 4 (by omega)).1
        have y4 := (q9 4 (by omega)).1
        have u5 := (q8 5 (by omega)).1
        have y5 := (q9 5 (by omega)).1
        have u6 := (q8 6 (by omega)).1
        have y6 := (q9 6 (by omega)).1
        have u7 := (q8 7 (by omega)).1
        have y7 := (q9 7 (by omega)).1
        have heq := eq69 (T 0 : Int) (T 1 : Int) (T 2 : Int) (T 3 : Int) (T 4 : Int) (T 5 : Int) (T 6 : Int) (w7.alloc (.cells #[.int .i64 (T 0 : Int), .int .i64 (T 1 : Int), .int .i64 (T 2 : Int), .int .i64 (T 3 : Int), .int .i64 (T 4 : Int), .int .i64 (T 5 : Int), .int .i64 (T 6 : Int), .int .i64 (T 7 : Int)] 71))
        have hsm := sum_any T (w7.alloc (.cells #[.int .i64 (T 0 : Int), .int .i64 (T 1 : Int), .int .i64 (T 2 : Int), .int .i64 (T 3 : Int), .int .i64 (T 4 : Int), .int .i64 (T 5 : Int), .int .i64 (T 6 : Int), .int .i64 (T 7 : Int)] 71)) (fun j => by have := hle j; omega)
        rw [tallyV_eq, HSUM.out] at hsm
        have HSM := Lib.hid hsm
        clear HADD HBN hb8 hb9 hsm q8 q9 r9
        go_wp2_with fail
        refine HSM.out.mono ?_
        clear HSM
        rintro e w8 ⟨rfl, hb11⟩
        have hb12 := hb10.trans (hb11.mono hb10.size)
        clear hb11
        go_wp2_with fail
        refine (scrubAlive_any w8).mono ?_
        rintro e w9 ⟨rfl, hb13⟩
        have hb14 := hb12.trans (hb13.mono hb12.size)
        clear hb13
        go_wp2_with fail
        go_ret
        exact ⟨rfl, hb14⟩
  · go_enter Try.func10, Try.ntmps10
    go_wp2_with fail
    all_goals
      go_ret
      exact ⟨rfl, Below.refl _ _⟩
end Go.Proofs.Ytljbehndnledpaa
