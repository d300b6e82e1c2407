/- The walks of the document's Less, Find, Get at a row of entries. Conditions: those of each theorem. -/
import Derived.Test.YtejhbaeeaejcaaaGreatM13
namespace Go.Proofs.YtejhbaeeaejcaaaGreat
open Go.RowKit

theorem key_lt (a b : Nat) : decide (a < b) = if kVol a = kVol b then (if kBlk a = kBlk b then decide (kSeq a < kSeq b) else decide (kBlk a < kBlk b)) else decide (kVol a < kVol b) := by
  have ha := keyN_of a
  have hb := keyN_of b
  unfold keyN at ha hb
  have h1 := kSeq_lt a
  have h2 := kSeq_lt b
  have h3 := kBlk_lt a
  have h4 := kBlk_lt b
  by_cases e1 : kVol a = kVol b
  · rw [if_pos e1]
    by_cases e2 : kBlk a = kBlk b
    · rw [if_pos e2, decide_eq_decide]; omega
    · rw [if_neg e2, decide_eq_decide]; omega
  · rw [if_neg e1, decide_eq_decide]; omega
set_option maxRecDepth 100000 in
set_option maxHeartbeats 4000000 in
theorem less_ref (a b : Nat) (w : World) :
    Calls Tryz.prog 64 #[keyV a, keyV b] w fun e w' => e = .returned (.bool (decide (a < b))) ∧ Below w.heap.size w w' := by
  have hb : Below w.heap.size w ((w.alloc (.cells #[.int .u16 (kVol a : Int), .int .u32 (kBlk a : Int), .int .u64 (kSeq a : Int)] 27)).alloc (.cells #[.int .u16 (kVol b : Int), .int .u32 (kBlk b : Int), .int .u64 (kSeq b : Int)] 27)) := ((Below.refl _ _).alloc (Nat.le_refl _) _).alloc (by simp) _
  have hk := key_lt a b
  unfold keyV
  by_cases h1 : kVol a = kVol b
  · have e1 : ((kVol a : Int) != (kVol b : Int)) = false := by rw [h1]; simp
    rw [if_pos h1] at hk
    by_cases h2 : kBlk a = kBlk b
    · have e2 : ((kBlk a : Int) != (kBlk b : Int)) = false := by rw [h2]; simp
      rw [if_pos h2] at hk
      have HK := Lib.hid hk
      clear h1 h2 hk
      go_enter Tryz.func64, Tryz.ntmps64
      go_wp2_with fail
      go_ret
      exact ⟨by rw [HK.out]; rfl, hb⟩
    · have e2 : ((kBlk a : Int) != (kBlk b : Int)) = true := by rw [bne_iff_ne]; omega
      rw [if_neg h2] at hk
      have HK := Lib.hid hk
      clear h1 h2 hk
      go_enter Tryz.func64, Tryz.ntmps64
      go_wp2_with fail
      go_ret
      exact ⟨by rw [HK.out]; rfl, hb⟩
  · have e1 : ((kVol a : Int) != (kVol b : Int)) = true := by rw [bne_iff_ne]; omega
    rw [if_neg h1] at hk
    have HK := Lib.hid hk
    clear h1 hk
    go_enter Tryz.func64, Tryz.ntmps64
    go_wp2_with fail
    go_ret
    exact ⟨by rw [HK.out]; rfl, hb⟩

/-- The place of the first entry whose key isn't ahead of one. -/
def findE : List En → Nat → Nat
  | [], _ => 0
  | x :: l, k => if x.1 < k then findE l k + 1 else 0
theorem findE_at : ∀ {l : List En} {k i : Nat}, i ≤ l.length → (∀ x ∈ l.take i, x.1 < k) → (∀ x, l[i]? = some x → ¬ x.1 < k) → findE l k = i
  | [], k, i, h, _, _ => by simp at h; rw [h]; rfl
  | x :: l, k, 0, _, _, h => by
    unfold findE
    rw [if_neg (h x rfl)]
  | x :: l, k, i + 1, h, h1, h2 => by
    unfold findE
    rw [if_pos (h1 x (by simp)), findE_at (by simpa using h) (fun y hy => h1 y (by simp [hy])) (fun y hy => h2 y (by simpa using hy))]
theorem findE_le : ∀ (l : List En) (k : Nat), findE l k ≤ l.length
  | [], _ => by simp [findE]
  | x :: l, k => by
    unfold findE
    split
    · have := findE_le l k; simp; omega
    · simp
theorem findE_set : ∀ {l : List En} {e : En}, e.1 ∉ l.map (·.1) → setE l e = l.take (findE l e.1) ++ e :: l.drop (findE l e.1)
  | [], e, _ => rfl
  | x :: l, e, h => by
    simp only [List.map_cons, List.mem_cons, not_or] at h
    unfold setE findE
    by_cases h1 : x.1 < e.1
    · rw [if_pos h1, if_pos h1, findE_set h.2]; rfl
    · rw [if_neg h1, if_neg h1, if_neg (fun e2 => h.1 e2.symm)]; rfl
theorem findE_get : ∀ {l : List En} {k : Nat}, Rise l → (k ∈ l.map (·.1) ↔ ∃ x, l[findE l k]? = some x ∧ x.1 = k)
  | [], k, _ => by simp
  | x :: l, k, hr => by
    have hx := (List.pairwise_cons.1 hr).1
    have ih := findE_get (l := l) (k := k) (List.pairwise_cons.1 hr).2
    unfold findE
    by_cases h1 : x.1 < k
    · rw [if_pos h1]
      simp only [List.map_cons, List.mem_cons, List.getElem?_cons_succ]
      rw [← ih]
      constructor
      · rintro (h | h)
        · omega
        · exact h
      · exact .inr
    · rw [if_neg h1]
      simp only [List.map_cons, List.mem_cons, List.getElem?_cons_zero, Option.some.injEq]
      constructor
      · rintro (h | h)
        · exact ⟨x, rfl, h.symm⟩
        · obtain ⟨y, hy, rfl⟩ := List.mem_map.1 h
          have := hx y hy
          omega
      · rintro ⟨y, rfl, h⟩
        exact .inl h.symm

set_option maxRecDepth 100000 in
set_option maxHeartbeats 4000000 in
theorem find_ref {w : World} {a : Option Addr} {n c : Nat} {l : List En} (h : RowE encN 4 w a n l) (hn : n ≤ 1000000) (k : Nat) :
    Calls Tryz.prog 43 #[.slice a n c, keyV k] w fun e w' => e = .returned (.int .i64 (findE l k : Nat)) ∧ Below w.heap.size w w' := by
  have hl := h.1
  have H := Lib.hid h
  have HL := Lib.hid hl
  obtain ⟨w1, hw1⟩ : ∃ w1, w1 = w.alloc (.cells #[.int .u16 (kVol k : Int), .int .u32 (kBlk k : Int), .int .u64 (kSeq k : Int)] 27) := ⟨_, rfl⟩
  have hX : w1.heap[w.heap.size]? = some (.cells #[.int .u16 (kVol k : Int), .int .u32 (kBlk k : Int), .int .u64 (kSeq k : Int)] 27 (0, 0)) := by rw [hw1]; exact heap_alloc_new w _
  have hb1 : Below w.heap.size w w1 := by rw [hw1]; exact (Below.refl _ _).alloc (Nat.le_refl _) _
  have hz1 : w.heap.size < w1.heap.size := by rw [hw1]; simp
  have HX := Lib.hid (And.intro hX (And.intro hb1 hz1))
  unfold keyV
  clear h hl hX hb1 hz1
  go_enter Tryz.func43, Tryz.ntmps43
  go_wp2_with fail
  rw [← hw1]
  clear hw1
  go_loopw [5] (fun u wr => ∃ i : Nat, i ≤ n ∧ u = .int .i64 i ∧ (∀ x ∈ l.take i, x.1 < k) ∧ Below w1.heap.size w1 wr) (fun u _ => n - (intOf u).toNat)
  case atStart => exact ⟨0, by omega, rfl, by simp, Below.refl _ _⟩
  case round =>
    obtain ⟨i, hi, rfl, hR, hb⟩ := hrel
    have HR := Lib.hid (And.intro hR hb)
    clear hR hb
    by_cases hlt : i < n
    · have hi1 : (i : Int) < (n : Int) := by omega
      have hi0 : (0 : Int) ≤ (i : Int) := by omega
      obtain ⟨x, hx⟩ : ∃ x, l[i]? = some x := ⟨_, List.getElem?_eq_getElem (by have := HL.out; omega)⟩
      have hb0 : Below w.heap.size w wr := HX.out.2.1.trans (HR.out.2.mono (by have := HX.out.2.2; omega))
      obtain ⟨b, o, rfl, hc⟩ := (H.out.below hb0 (Nat.le_refl _)).2 i x hx
      have c0 := hc 0 _ rfl
      have c1 := hc 1 _ rfl
      have c2 := hc 2 _ rfl
      simp only [Nat.add_zero] at c0
      have hxr := (HR.out.2.block w.heap.size HX.out.2.2).trans HX.out.1
      obtain ⟨y0, y1, y2⟩ : wr.cell? ⟨w.heap.size, 0, none⟩ = some (.int .u16 (kVol k : Int)) ∧ wr.cell? ⟨w.heap.size, 1, none⟩ = some (.int .u32 (kBlk k : Int)) ∧ wr.cell? ⟨w.heap.size, 2, none⟩ = some (.int .u64 (kSeq k : Int)) := ⟨cell_of_row wr _ 0 _ _ _ hxr, cell_of_row wr _ 1 _ _ _ hxr, cell_of_row wr _ 2 _ _ _ hxr⟩
      have HLe := Lib.hid (less_ref x.1 k wr.drew)
      have HXX := Lib.hid hx
      have hSS : ∀ W, Below wr.drew.heap.size wr.drew W → W.cell? ⟨w.heap.size, 0, none⟩ = some (.int .u16 (kVol k : Int)) ∧ W.cell? ⟨w.heap.size, 1, none⟩ = some (.int .u32 (kBlk k : Int)) ∧ W.cell? ⟨w.heap.size, 2, none⟩ = some (.int .u64 (kSeq k : Int)) ∧ W.cell? ⟨b, o + i * 4, none⟩ = some (.int .u16 (kVol x.1 : Int)) ∧ W.cell? ⟨b, o + i * 4 + 1, none⟩ = some (.int .u32 (kBlk x.1 : Int)) ∧ W.cell? ⟨b, o + i * 4 + 2, none⟩ = some (.int .u64 (kSeq x.1 : Int)) := fun W h5 =>
        ⟨(h5.cell (World.block_lt_of_cell? _ _ y0)).trans y0, (h5.cell (World.block_lt_of_cell? _ _ y1)).trans y1, (h5.cell (World.block_lt_of_cell? _ _ y2)).trans y2, (h5.cell (World.block_lt_of_cell? _ _ c0)).trans c0, (h5.cell (World.block_lt_of_cell? _ _ c1)).trans c1, (h5.cell (World.block_lt_of_cell? _ _ c2)).trans c2⟩
      have HSS := Lib.hid hSS
      have hS := hSS wr.drew (Below.refl _ _)
      unfold keyV at HLe
      clear hSS y0 y1 y2 c0 c1 c2 hc hx hxr hb0
      by_cases hlk : x.1 < k
      · rw [decide_eq_true hlk] at HLe
        have HF := Lib.hid (show ∀ y ∈ l.take (i + 1), y.1 < k by
          rw [List.take_add_one, HXX.out]
          intro y hy
          rcases List.mem_append.1 hy with h | h
          · exact HR.out.1 y h
          · simp at h; rw [h]; exact hlk)
        clear hlk
        go_wp2_with fail
        go_region_held (fun W => W.cell? ⟨w.heap.size, 0, none⟩ = some (.int .u16 (kVol k : Int)) ∧ W.cell? ⟨w.heap.size, 1, none⟩ = some (.int .u32 (kBlk k : Int)) ∧ W.cell? ⟨w.heap.size, 2, none⟩ = some (.int .u64 (kSeq k : Int)) ∧ W.cell? ⟨b, o + i * 4, none⟩ = some (.int .u16 (kVol x.1 : Int)) ∧ W.cell? ⟨b, o + i * 4 + 1, none⟩ = some (.int .u32 (kBlk x.1 : Int)) ∧ W.cell? ⟨b, o + i * 4 + 2, none⟩ = some (.int .u64 (kSeq x.1 : Int))) (first | with_reducible exact hS6 | with_reducible exact hS)
          (first | (go_at_call 64; refine HLe.out.mono ?_; rintro e w5 ⟨rfl, hb5⟩; have hS6 := HSS.out w5 hb5))
        all_goals
          have HB5 := Lib.hid (show Below w1.heap.size w1 w5 from HR.out.2.trans ((show Below wr.heap.size wr w5 from ⟨hb5.os, hb5.tape, hb5.output, hb5.size, hb5.block⟩).mono HR.out.2.size))
          clear hb5 hS6 hS
          go_wp2_with fail
          go_roundw
          case rel => exact ⟨i + 1, by omega, by go_num, HF.out, HB5.out⟩
          case measure => simp [intOf]; omega
      · rw [decide_eq_false hlk] at HLe
        have HF := Lib.hid (show findE l k = i from findE_at (by have := HL.out; omega) HR.out.1 fun y hy => by
          rw [HXX.out] at hy
          cases hy
          exact hlk)
        clear hlk
        go_wp2_with fail
        go_region_held (fun W => W.cell? ⟨w.heap.size, 0, none⟩ = some (.int .u16 (kVol k : Int)) ∧ W.cell? ⟨w.heap.size, 1, none⟩ = some (.int .u32 (kBlk k : Int)) ∧ W.cell? ⟨w.heap.size, 2, none⟩ = some (.int .u64 (kSeq k : Int)) ∧ W.cell? ⟨b, o + i * 4, none⟩ = some (.int .u16 (kVol x.1 : Int)) ∧ W.cell? ⟨b, o + i * 4 + 1, none⟩ = some (.int .u32 (kBlk x.1 : Int)) ∧ W.cell? ⟨b, o + i * 4 + 2, none⟩ = some (.int .u64 (kSeq x.1 : Int))) (first | with_reducible exact hS6 | with_reducible exact hS)
          (first | (go_at_call 64; refine HLe.out.mono ?_; rintro e w5 ⟨rfl, hb5⟩; have hS6 := HSS.out w5 hb5))
        all_goals
          have HB5 := Lib.hid (show Below w1.heap.size w1 w5 from HR.out.2.trans ((show Below wr.heap.size wr w5 from ⟨hb5.os, hb5.tape, hb5.output, hb5.size, hb5.block⟩).mono HR.out.2.size))
          clear hb5 hS6 hS
          go_wp2_with fail
          go_ret
          exact ⟨by rw [HF.out]; rfl, HX.out.2.1.trans (HB5.out.mono (by have := HX.out.2.2; omega))⟩
    · obtain rfl : n = i := by omega
      have HF := Lib.hid (show findE l k = n from findE_at (by have := HL.out; omega) HR.out.1 fun y hy => by
        have := (List.getElem?_eq_some_iff.1 hy).1
        have := HL.out
        omega)
      have hn1 : ¬ ((n : Int) < (n : Int)) := by omega
      go_wp2_with fail
      go_quiet (fail)
      go_wp2_with fail
      go_ret
      exact ⟨by rw [HF.out]; rfl, HX.out.2.1.trans ((show Below w1.heap.size w1 (wr.drewN nq) from ⟨HR.out.2.os, HR.out.2.tape, HR.out.2.output, HR.out.2.size, HR.out.2.block⟩).mono (by have := HX.out.2.2; omega))⟩
end Go.Proofs.YtejhbaeeaejcaaaGreat
/- The walks of the document's Get, At, Count, next, Of, Split at a row of entries. Conditions: those of each theorem. -/
namespace Go.Proofs.YtejhbaeeaejcaaaGreat
open Go.RowKit

theorem get_results (tmps : Array Value) (B : Nat) (e v0 v1 v2 v3 : Value) (W : World) (h : tmps[4]? = some (.pointer (some ⟨B, 0, none⟩))) (h5 : tmps[5]? = some e) (q0 : W.cell? ⟨B, 0, none⟩ = some v0) (q1 : W.cell? ⟨B, 1, none⟩ = some v1) (q2 : W.cell? ⟨B, 2, none⟩ = some v2) (q3 : W.cell? ⟨B, 3, none⟩ = some v3) :
    (results Tryz.f21 tmps).run Tryz.prog W = .ok (.tuple #[.agg #[v0, v1, v2, v3], e]) W := by
  simp [results, Tryz.results21, go_sem, h, h5, q0, q1, q2, q3]
set_option maxRecDepth 100000 in
set_option maxHeartbeats 4000000 in
theorem get_ref {w : World} {a : Option Addr} {n c : Nat} {l : List En} (h : RowE encN 4 w a n l) (hn : n ≤ 1000000) (hr : Rise l) (k : Nat) :
    Calls Tryz.prog 21 #[.slice a n c, keyV k] w fun e w' => (∃ v0 v1 v2 v3 : Int, e = .returned (.tuple #[.agg #[.int .u16 v0, .int .u32 v1, .int .u64 v2, .int .u32 v3], .bool (decide (k ∈ l.map (·.1)))])) ∧ Below w.heap.size w w' := by
  have hl := h.1
  have H := Lib.hid h
  have HL := Lib.hid hl
  have HG := Lib.hid (findE_get (k := k) hr)
  have HLE := Lib.hid (findE_le l k)
  obtain ⟨w1, hw1⟩ : ∃ w1, w1 = (w.alloc (.cells #[.int .u16 (kVol k : Int), .int .u32 (kBlk k : Int), .int .u64 (kSeq k : Int)] 27)).alloc (.cells #[.int .u16 0, .int .u32 0, .int .u64 0, .int .u32 0] 60) := ⟨_, rfl⟩
  have hs1 : (w.alloc (.cells #[.int .u16 (kVol k : Int), .int .u32 (kBlk k : Int), .int .u64 (kSeq k : Int)] 27)).heap.size = w.heap.size + 1 := by simp
  have hX : w1.heap[w.heap.size]? = some (.cells #[.int .u16 (kVol k : Int), .int .u32 (kBlk k : Int), .int .u64 (kSeq k : Int)] 27 (0, 0)) := by rw [hw1, Below.heap_alloc _ _ _ (by omega)]; exact heap_alloc_new w _
  have hY : w1.heap[w.heap.size + 1]? = some (.cells #[.int .u16 0, .int .u32 0, .int .u64 0, .int .u32 0] 60 (0, 0)) := by
    have := heap_alloc_new (w.alloc (.cells #[.int .u16 (kVol k : Int), .int .u32 (kBlk k : Int), .int .u64 (kSeq k : Int)] 27)) (.cells #[.int .u16 0, .int .u32 0, .int .u64 0, .int .u32 0] 60)
    rw [hs1] at this
    rw [hw1]; exact this
  have hb1 : Below w.heap.size w w1 := by rw [hw1]; exact ((Below.refl _ _).alloc (Nat.le_refl _) _).alloc (by omega) _
  have hz1 : w1.heap.size = w.heap.size + 2 := by rw [hw1, World.alloc_size, hs1]
  have y0 := cell_of_row w1 _ 0 _ _ _ hX
  have y1 := cell_of_row w1 _ 1 _ _ _ hX
  have y2 := cell_of_row w1 _ 2 _ _ _ hX
  have HF := Lib.hid (find_ref (c := c) (h.below hb1 (Nat.le_refl _)) hn k)
  have HX := Lib.hid (And.intro hX (And.intro hY (And.intro hb1 hz1)))
  have y0' : w1.cell? ⟨w.heap.size, 0, none⟩ = some (.int .u16 (kVol k : Int)) := y0
  have y1' : w1.cell? ⟨w.heap.size, 1, none⟩ = some (.int .u32 (kBlk k : Int)) := y1
  have y2' : w1.cell? ⟨w.heap.size, 2, none⟩ = some (.int .u64 (kSeq k : Int)) := y2
  unfold keyV at HF ⊢
  clear h hl hX hY hb1 hz1 hs1 hr y0 y1 y2
  go_enter Tryz.func21, Tryz.ntmps21
  go_wp2_with fail
  rw [← hw1]
  have HW1 := Lib.hid hw1
  clear hw1
  refine HF.out.mono ?_
  rintro e w2 ⟨rfl, hb2⟩
  have hx2 := (hb2.block w.heap.size (by have := HX.out.2.2.2; omega)).trans HX.out.1
  have hv2 := (hb2.block (w.heap.size + 1) (by have := HX.out.2.2.2; omega)).trans HX.out.2.1
  obtain ⟨z0, z1, z2⟩ : w2.cell? ⟨w.heap.size, 0, none⟩ = some (.int .u16 (kVol k : Int)) ∧ w2.cell? ⟨w.heap.size, 1, none⟩ = some (.int .u32 (kBlk k : Int)) ∧ w2.cell? ⟨w.heap.size, 2, none⟩ = some (.int .u64 (kSeq k : Int)) := ⟨cell_of_row w2 _ 0 _ _ _ hx2, cell_of_row w2 _ 1 _ _ _ hx2, cell_of_row w2 _ 2 _ _ _ hx2⟩
  obtain ⟨t0, t1, t2, t3, tf⟩ := four hv2
  have f0 := tf 0
  have f1 := tf 1
  have f2 := tf 2
  have f3 := tf 3
  have HV := Lib.hid hv2
  have HB := Lib.hid (HX.out.2.2.1.trans (hb2.mono (by have := HX.out.2.2.2; omega)))
  clear hb2 hx2 hv2 tf y0' y1' y2' HF
  generalize hi : findE l k = i at *
  have HI := Lib.hid hi
  clear hi
  by_cases hin : i = n
  · have e0 : ((i : Int) == (n : Int)) = true := by rw [hin]; simp
    have HN : Hid (decide (k ∈ l.map (·.1)) = false) := Lib.hid (decide_eq_false fun hm => by
      obtain ⟨x, hx, -⟩ := HG.out.1 hm
      have := (List.getElem?_eq_some_iff.1 hx).1
      have := HL.out
      omega)
    clear hin
    go_wp2_with fail
    go_quiet (fail)
    go_wp2_with fail
    have hs := four (set4 (W := w2.drewN nq) HV.out (.int .u16 0) (.int .u32 0) (.int .u64 0) (.int .u32 0))
    refine bodyPost_ret (get_results _ (w.heap.size + 1) _ _ _ _ _ _ rfl rfl hs.1 hs.2.1 hs.2.2.1 hs.2.2.2.1) rfl ?_
    exact ⟨⟨_, _, _, _, by rw [HN.out]; rfl⟩, below_set4 (W := w2.drewN nq) ⟨HB.out.os, HB.out.tape, HB.out.output, HB.out.size, HB.out.block⟩ (by omega) _ _ _ _⟩
  · have hlt : i < n := by have := HLE.out; have := HL.out; omega
    have e0 : ((i : Int) == (n : Int)) = false := by rw [beq_eq_false_iff_ne]; omega
    have hi1 : (i : Int) < (n : Int) := by omega
    have hi0 : (0 : Int) ≤ (i : Int) := by omega
    obtain ⟨x, hx⟩ : ∃ x, l[i]? = some x := ⟨_, List.getElem?_eq_getElem (by have := HL.out; omega)⟩
    obtain ⟨b, o, rfl, hc⟩ := (H.out.below HB.out (Nat.le_refl _)).2 i x hx
    have c0 := hc 0 _ rfl
    have c1 := hc 1 _ rfl
    have c2 := hc 2 _ rfl
    have c3 := hc 3 _ rfl
    simp only [Nat.add_zero] at c0
    have hq := neqKey x.1 k
    have HXX := Lib.hid hx
    clear hx hc hin
    by_cases hxk : x.1 = k
    · rw [decide_eq_true hxk] at hq
      have HN : Hid (decide (k ∈ l.map (·.1)) = true) := Lib.hid (decide_eq_true (HG.out.2 ⟨x, HXX.out, hxk⟩))
      clear hxk
      go_wp2_with fail
      go_quiet (fail)
      go_wp2_with fail
      have hs := four (set4 (W := w2.drewN nq) HV.out (.int .u16 (kVol x.1 : Int)) (.int .u32 (kBlk x.1 : Int)) (.int .u64 (kSeq x.1 : Int)) (.int .u32 (x.2 : Int)))
      refine bodyPost_ret (get_results _ (w.heap.size + 1) _ _ _ _ _ _ rfl rfl hs.1 hs.2.1 hs.2.2.1 hs.2.2.2.1) rfl ?_
      exact ⟨⟨_, _, _, _, by rw [HN.out]; rfl⟩, below_set4 (W := w2.drewN nq) ⟨HB.out.os, HB.out.tape, HB.out.output, HB.out.size, HB.out.block⟩ (by omega) _ _ _ _⟩
    · rw [decide_eq_false hxk] at hq
      have HN : Hid (decide (k ∈ l.map (·.1)) = false) := Lib.hid (decide_eq_false fun hm => by
        obtain ⟨y, hy, hyk⟩ := HG.out.1 hm
        rw [HXX.out] at hy
        cases hy
        exact hxk hyk)
      clear hxk
      go_wp2_with fail
      go_quiet (fail)
      go_wp2_with fail
      have hs := four (set4 (W := w2.drewN nq) HV.out (.int .u16 0) (.int .u32 0) (.int .u64 0) (.int .u32 0))
      refine bodyPost_ret (get_results _ (w.heap.size + 1) _ _ _ _ _ _ rfl rfl hs.1 hs.2.1 hs.2.2.1 hs.2.2.2.1) rfl ?_
      exact ⟨⟨_, _, _, _, by rw [HN.out]; rfl⟩, below_set4 (W := w2.drewN nq) ⟨HB.out.os, HB.out.tape, HB.out.output, HB.out.size, HB.out.block⟩ (by omega) _ _ _ _⟩

theorem cntA_snoc (l : List En) (x : En) (b : Nat) : cntA (l ++ [x]) b = cntA l b + if x.2 = b then 1 else 0 := by
  unfold cntA
  rw [List.filter_append]
  by_cases h : x.2 = b <;> simp [h]
set_option maxRecDepth 100000 in
set_option maxHeartbeats 4000000 in
theorem count_ref {w : World} {a : Option Addr} {n c : Nat} {l : List En} (h : RowE encN 4 w a n l) (hn : n ≤ 1000000) (b : Nat) :
    Calls Tryz.prog 16 #[.slice a n c, .int .u32 (b : Int)] w fun e w' => e = .returned (.int .i64 (cntA l b : Nat)) ∧ w' = w := by
  have hl := h.1
  have H := Lib.hid h
  have HL := Lib.hid hl
  clear h hl
  go_enter Tryz.func16, Tryz.ntmps16
  go_wp2_with fail
  go_loop [5, 6] (fun u5 u6 => ∃ i : Nat, i ≤ n ∧ u6 = .int .i64 i ∧ u5 = .int .i64 (cntA (l.take i) b : Nat)) (fun _ u6 => n - (intOf u6).toNat)
  case atStart => exact ⟨0, by omega, rfl, rfl⟩
  case round =>
    obtain ⟨i, hi, rfl, rfl⟩ := hrel
    by_cases hlt : i < n
    · have hi1 : (i : Int) < (n : Int) := by omega
      obtain ⟨x, hx⟩ : ∃ x, l[i]? = some x := ⟨_, List.getElem?_eq_getElem (by have := HL.out; omega)⟩
      obtain ⟨g, o, rfl, hc⟩ := H.out.2 i x hx
      have c3 := hc 3 _ rfl
      have hle := cntA_le (l.take i) b
      rw [List.length_take] at hle
      have hle2 : cntA (l.take i) b ≤ 1000000 := by omega
      have HS := Lib.hid (show cntA (l.take (i + 1)) b = cntA (l.take i) b + if x.2 = b then 1 else 0 by rw [List.take_add_one, hx]; exact cntA_snoc _ _ _)
      clear hx hc hle
      generalize cntA (l.take i) b = m at *
      by_cases hxb : x.2 = b
      · have z : ((x.2 : Int) == (b : Int)) = true := by rw [hxb]; simp
        have HB := Lib.hid hxb
        clear hxb
        go_wp2_with fail
        go_round
        case rel => exact ⟨i + 1, by omega, by go_num, by rw [HS.out, if_pos HB.out]; go_num⟩
        case measure => simp [intOf]; omega
      · have z : ((x.2 : Int) == (b : Int)) = false := by rw [beq_eq_false_iff_ne]; omega
        have HB := Lib.hid hxb
        clear hxb
        go_wp2_with fail
        go_round
        case rel => exact ⟨i + 1, by omega, by go_num, by rw [HS.out, if_neg HB.out]; rfl⟩
        case measure => simp [intOf]; omega
    · obtain rfl : n = i := by omega
      have HS := Lib.hid (show cntA (l.take n) b = cntA l b by rw [List.take_of_length_le (by have := HL.out; omega)])
      generalize cntA (l.take n) b = m at *
      go_wp2_with fail
      go_ret
      exact ⟨by rw [← HS.out]; rfl, rfl⟩

/-- The document's At, a version at a time: the block, and the number. -/
def atS (v b s : Nat) (st : Nat × Nat) (x : En) : Nat × Nat := if kVol x.1 = v ∧ kBlk x.1 = b ∧ kSeq x.1 ≤ s ∧ st.2 ≤ kSeq x.1 then (x.2, kSeq x.1) else st
theorem fold_take {α β : Type} (f : β → α → β) (z : β) (l : List α) {i : Nat} {x : α} (hx : l[i]? = some x) : (l.take (i + 1)).foldl f z = f ((l.take i).foldl f z) x := by
  rw [List.take_add_one, hx, List.foldl_append]; rfl
set_option maxRecDepth 100000 in
set_option maxHeartbeats 4000000 in
theorem at_ref {w : World} {a : Option Addr} {n c : Nat} {l : List En} (h : RowE encN 4 w a n l) (hn : n ≤ 1000000) (hf : Fit l) (v b s : Nat) :
    Calls Tryz.prog 35 #[.slice a n c, .int .i64 (v : Int), .int .i64 (b : Int), .int .u64 (s : Int)] w fun e w' => e = .returned (.int .u32 ((l.foldl (atS v b s) (0, 0)).1 : Nat)) ∧ Below w.heap.size w w' := by
  have hl := h.1
  have H := Lib.hid h
  have HL := Lib.hid hl
  have HFT := Lib.hid hf
  clear h hl hf
  go_enter Tryz.func35, Tryz.ntmps35
  go_wp2_with fail
  go_loopw [9, 10, 11] (fun u9 u10 u11 wr => ∃ i : Nat, i ≤ n ∧ u11 = .int .i64 i ∧ u9 = .int .u32 (((l.take i).foldl (atS v b s) (0, 0)).1 : Nat) ∧ u10 = .int .u64 (((l.take i).foldl (atS v b s) (0, 0)).2 : Nat) ∧ Below w.heap.size w wr) (fun _ _ u11 _ => n - (intOf u11).toNat)
  case atStart => exact ⟨0, by omega, rfl, rfl, rfl, Below.refl _ _⟩
  case round =>
    obtain ⟨i, hi, rfl, rfl, rfl, hb⟩ := hrel
    have HB := Lib.hid hb
    clear hb
    by_cases hlt : i < n
    · have hi1 : (i : Int) < (n : Int) := by omega
      have hi0 : (0 : Int) ≤ (i : Int) := by omega
      obtain ⟨x, hx⟩ : ∃ x, l[i]? = some x := ⟨_, List.getElem?_eq_getElem (by have := HL.out; omega)⟩
      obtain ⟨g, o, rfl, hc⟩ := (H.out.below HB.out (Nat.le_refl _)).2 i x hx
      have c0 := hc 0 _ rfl
      have c1 := hc 1 _ rfl
      have c2 := hc 2 _ rfl
      have c3 := hc 3 _ rfl
      simp only [Nat.add_zero] at c0
      have hv := HFT.out.vol (List.mem_of_getElem? hx)
      have hbk := kBlk_lt x.1
      have s1 : IntKind.i64.wrap (kVol x.1 : Int) = (kVol x.1 : Int) := IntWalk.i64_in _ (by omega)
      have s2 : IntKind.i64.wrap (kBlk x.1 : Int) = (kBlk x.1 : Int) := IntWalk.i64_in _ (by omega)
      have HS := Lib.hid (fold_take (atS v b s) (0, 0) l hx)
      have hbx : Below w.heap.size w (wr.alloc (.cells #[.int .u16 (kVol x.1 : Int), .int .u32 (kBlk x.1 : Int), .int .u64 (kSeq x.1 : Int)] 27)) := HB.out.alloc HB.out.size _
      have HBX := Lib.hid hbx
      have d3 := cell_past c3 (.cells #[.int .u16 (kVol x.1 : Int), .int .u32 (kBlk x.1 : Int), .int .u64 (kSeq x.1 : Int)] 27)
      clear hx hc hbx hv hbk
      generalize (l.take i).foldl (atS v b s) (0, 0) = st at *
      obtain ⟨p, q⟩ := st
      by_cases h1 : kVol x.1 = v
      · have z1 : ((kVol x.1 : Int) == (v : Int)) = true := by rw [h1]; simp
        by_cases h2 : kBlk x.1 = b
        · have z2 : ((kBlk x.1 : Int) == (b : Int)) = true := by rw [h2]; simp
          by_cases h3 : kSeq x.1 ≤ s
          · have z3 : (kSeq x.1 : Int) ≤ (s : Int) := by omega
            by_cases h4 : q ≤ kSeq x.1
            · have z4 : (q : Int) ≤ (kSeq x.1 : Int) := by omega
              have HF := Lib.hid (show atS v b s (p, q) x = (x.2, kSeq x.1) from if_pos ⟨h1, h2, h3, h4⟩)
              clear h1 h2 h3 h4
              go_wp2_with fail
              go_quiet (fail)
              go_wp2_with fail
              go_roundw
              case rel => exact ⟨i + 1, by omega, by go_num, by rw [HS.out, HF.out], by rw [HS.out, HF.out], ⟨HBX.out.os, HBX.out.tape, HBX.out.output, HBX.out.size, HBX.out.block⟩⟩
              case measure => simp [intOf]; omega
            · have z4 : ¬ ((q : Int) ≤ (kSeq x.1 : Int)) := by omega
              have HF := Lib.hid (show atS v b s (p, q) x = (p, q) from if_neg fun h => h4 h.2.2.2)
              clear h1 h2 h3 h4
              go_wp2_with fail
              go_roundw
              case rel => exact ⟨i + 1, by omega, by go_num, by rw [HS.out, HF.out], by rw [HS.out, HF.out], HBX.out⟩
              case measure => simp [intOf]; omega
          · have z3 : ¬ ((kSeq x.1 : Int) ≤ (s : Int)) := by omega
            have HF := Lib.hid (show atS v b s (p, q) x = (p, q) from if_neg fun h => h3 h.2.2.1)
            clear h1 h2 h3
            go_wp2_with fail
            go_roundw
            case rel => exact ⟨i + 1, by omega, by go_num, by rw [HS.out, HF.out], by rw [HS.out, HF.out], HBX.out⟩
            case measure => simp [intOf]; omega
        · have z2 : ((kBlk x.1 : Int) == (b : Int)) = false := by rw [beq_eq_false_iff_ne]; omega
          have HF := Lib.hid (show atS v b s (p, q) x = (p, q) from if_neg fun h => h2 h.2.1)
          clear h1 h2
          go_wp2_with fail
          go_roundw
          case rel => exact ⟨i + 1, by omega, by go_num, by rw [HS.out, HF.out], by rw [HS.out, HF.out], HBX.out⟩
          case measure => simp [intOf]; omega
      · have z1 : ((kVol x.1 : Int) == (v : Int)) = false := by rw [beq_eq_false_iff_ne]; omega
        have HF := Lib.hid (show atS v b s (p, q) x = (p, q) from if_neg fun h => h1 h.1)
        clear h1
        go_wp2_with fail
        go_roundw
        case rel => exact ⟨i + 1, by omega, by go_num, by rw [HS.out, HF.out], by rw [HS.out, HF.out], HBX.out⟩
        case measure => simp [intOf]; omega
    · obtain rfl : n = i := by omega
      have HS := Lib.hid (show l.take n = l by rw [List.take_of_length_le (by have := HL.out; omega)])
      rw [HS.out]
      generalize hst : l.foldl (atS v b s) (0, 0) = st at *
      obtain ⟨p, q⟩ := st
      have HST := Lib.hid hst
      clear hst
      go_wp2_with fail
      go_ret
      exact ⟨by rw [HST.out]; rfl, HB.out⟩

/-- The document's next, a version at a time. -/
def nxS (k : Nat) (st : Nat) (x : En) : Nat := if kVol x.1 = kVol k ∧ kBlk x.1 = kBlk k ∧ kSeq k < kSeq x.1 ∧ (st = 0 ∨ kSeq x.1 < st) then kSeq x.1 else st
def nextR (l : List En) (k : Nat) : Nat := l.foldl (nxS k) 0
set_option maxRecDepth 100000 in
set_option maxHeartbeats 8000000 in
theorem next_ref {w : World} {a : Option Addr} {n c : Nat} {l : List En} (h : RowE encN 4 w a n l) (hn : n ≤ 1000000) (k : Nat) :
    Calls Tryz.prog 46 #[.slice a n c, keyV k] w fun e w' => e = .returned (.int .u64 (nextR l k : Nat)) ∧ Below w.heap.size w w' := by
  have hl := h.1
  have H := Lib.hid h
  have HL := Lib.hid hl
  obtain ⟨w1, hw1⟩ : ∃ w1, w1 = w.alloc (.cells #[.int .u16 (kVol k : Int), .int .u32 (kBlk k : Int), .int .u64 (kSeq k : Int)] 27) := ⟨_, rfl⟩
  have hX : w1.heap[w.heap.size]? = some (.cells #[.int .u16 (kVol k : Int), .int .u32 (kBlk k : Int), .int .u64 (kSeq k : Int)] 27 (0, 0)) := by rw [hw1]; exact heap_alloc_new w _
  have hb1 : Below w.heap.size w w1 := by rw [hw1]; exact (Below.refl _ _).alloc (Nat.le_refl _) _
  have hz1 : w.heap.size < w1.heap.size := by rw [hw1]; simp
  have HX := Lib.hid (And.intro hX (And.intro hb1 hz1))
  unfold keyV nextR
  clear h hl hX hb1 hz1
  go_enter Tryz.func46, Tryz.ntmps46
  go_wp2_with fail
  rw [← hw1]
  clear hw1
  go_loopw [5, 6] (fun u5 u6 wr => ∃ i : Nat, i ≤ n ∧ u6 = .int .i64 i ∧ u5 = .int .u64 ((l.take i).foldl (nxS k) 0 : Nat) ∧ Below w1.heap.size w1 wr) (fun _ u6 _ => n - (intOf u6).toNat)
  case atStart => exact ⟨0, by omega, rfl, rfl, Below.refl _ _⟩
  case round =>
    obtain ⟨i, hi, rfl, rfl, hb⟩ := hrel
    have HB := Lib.hid hb
    clear hb
    by_cases hlt : i < n
    · have hi1 : (i : Int) < (n : Int) := by omega
      have hi0 : (0 : Int) ≤ (i : Int) := by omega
      obtain ⟨x, hx⟩ : ∃ x, l[i]? = some x := ⟨_, List.getElem?_eq_getElem (by have := HL.out; omega)⟩
      have hb0 : Below w.heap.size w wr := HX.out.2.1.trans (HB.out.mono (by have := HX.out.2.2; omega))
      obtain ⟨g, o, rfl, hc⟩ := (H.out.below hb0 (Nat.le_refl _)).2 i x hx
      have c0 := hc 0 _ rfl
      have c1 := hc 1 _ rfl
      have c2 := hc 2 _ rfl
      simp only [Nat.add_zero] at c0
      have hxr := (HB.out.block w.heap.size HX.out.2.2).trans HX.out.1
      obtain ⟨y0, y1, y2⟩ : wr.cell? ⟨w.heap.size, 0, none⟩ = some (.int .u16 (kVol k : Int)) ∧ wr.cell? ⟨w.heap.size, 1, none⟩ = some (.int .u32 (kBlk k : Int)) ∧ wr.cell? ⟨w.heap.size, 2, none⟩ = some (.int .u64 (kSeq k : Int)) := ⟨cell_of_row wr _ 0 _ _ _ hxr, cell_of_row wr _ 1 _ _ _ hxr, cell_of_row wr _ 2 _ _ _ hxr⟩
      have HS := Lib.hid (fold_take (nxS k) 0 l hx)
      have HBX := Lib.hid (show Below w1.heap.size w1 (wr.alloc (.cells #[.int .u16 (kVol x.1 : Int), .int .u32 (kBlk x.1 : Int), .int .u64 (kSeq x.1 : Int)] 27)) from HB.out.alloc HB.out.size _)
      have d0 := cell_past y0 (.cells #[.int .u16 (kVol x.1 : Int), .int .u32 (kBlk x.1 : Int), .int .u64 (kSeq x.1 : Int)] 27)
      have d1 := cell_past y1 (.cells #[.int .u16 (kVol x.1 : Int), .int .u32 (kBlk x.1 : Int), .int .u64 (kSeq x.1 : Int)] 27)
      have d2 := cell_past y2 (.cells #[.int .u16 (kVol x.1 : Int), .int .u32 (kBlk x.1 : Int), .int .u64 (kSeq x.1 : Int)] 27)
      clear hx hc hb0 hxr
      generalize (l.take i).foldl (nxS k) 0 = st at *
      by_cases h1 : kVol x.1 = kVol k
      · have z1 : ((kVol x.1 : Int) == (kVol k : Int)) = true := by rw [h1]; simp
        by_cases h2 : kBlk x.1 = kBlk k
        · have z2 : ((kBlk x.1 : Int) == (kBlk k : Int)) = true := by rw [h2]; simp
          by_cases h3 : kSeq k < kSeq x.1
          · have z3 : (kSeq k : Int) < (kSeq x.1 : Int) := by omega
            have z3' : kSeq k < kSeq x.1 := h3
            by_cases h4 : st = 0
            · have z4 : ((st : Int) == 0) = true := by rw [h4]; rfl
              have HF := Lib.hid (show nxS k st x = kSeq x.1 from if_pos ⟨h1, h2, h3, .inl h4⟩)
              clear h1 h2 h3 h4
              go_wp2_with fail
              go_roundw
              case rel => exact ⟨i + 1, by omega, by go_num, by rw [HS.out, HF.out], HBX.out⟩
              case measure => simp [intOf]; omega
            · have z4 : ((st : Int) == 0) = false := by rw [beq_eq_false_iff_ne]; omega
              by_cases h5 : kSeq x.1 < st
              · have z5 : (kSeq x.1 : Int) < (st : Int) := by omega
                have HF := Lib.hid (show nxS k st x = kSeq x.1 from if_pos ⟨h1, h2, h3, .inr h5⟩)
                clear h1 h2 h3 h4
                go_wp2_with fail
                go_roundw
                case rel => exact ⟨i + 1, by omega, by go_num, by rw [HS.out, HF.out], HBX.out⟩
                case measure => simp [intOf]; omega
              · have z5 : ¬ ((kSeq x.1 : Int) < (st : Int)) := by omega
                have HF := Lib.hid (show nxS k st x = st from if_neg fun h => by rcases h.2.2.2 with e | e; exact h4 e; exact h5 e)
                clear h1 h2 h3 h4
                go_wp2_with fail
                go_roundw
                case rel => exact ⟨i + 1, by omega, by go_num, by rw [HS.out, HF.out], HBX.out⟩
                case measure => simp [intOf]; omega
          · have z3 : ¬ ((kSeq k : Int) < (kSeq x.1 : Int)) := by omega
            have HF := Lib.hid (show nxS k st x = st from if_neg fun h => h3 h.2.2.1)
            clear h1 h2
            go_wp2_with fail
            go_roundw
            case rel => exact ⟨i + 1, by omega, by go_num, by rw [HS.out, HF.out], HBX.out⟩
            case measure => simp [intOf]; omega
        · have z2 : ((kBlk x.1 : Int) == (kBlk k : Int)) = false := by rw [beq_eq_false_iff_ne]; omega
          have HF := Lib.hid (show nxS k st x = st from if_neg fun h => h2 h.2.1)
          clear h1 h2
          go_wp2_with fail
          go_roundw
          case rel => exact ⟨i + 1, by omega, by go_num, by rw [HS.out, HF.out], HBX.out⟩
          case measure => simp [intOf]; omega
      · have z1 : ((kVol x.1 : Int) == (kVol k : Int)) = false := by rw [beq_eq_false_iff_ne]; omega
        have HF := Lib.hid (show nxS k st x = st from if_neg fun h => h1 h.1)
        clear h1
        go_wp2_with fail
        go_roundw
        case rel => exact ⟨i + 1, by omega, by go_num, by rw [HS.out, HF.out], HBX.out⟩
        case measure => simp [intOf]; omega
    · obtain rfl : n = i := by omega
      have HS := Lib.hid (show l.take n = l by rw [List.take_of_length_le (by have := HL.out; omega)])
      rw [HS.out]
      have HBF := Lib.hid (HX.out.2.1.trans (HB.out.mono (by have := HX.out.2.2; omega)))
      generalize hst : l.foldl (nxS k) 0 = st at *
      have HST := Lib.hid hst
      clear hst
      go_wp2_with fail
      go_ret
      exact ⟨by rw [HST.out]; rfl, HBF.out⟩
end Go.Proofs.YtejhbaeeaejcaaaGreat
/- The walks of the document's Of and Split at a row of entries. Conditions: those of each theorem. -/
namespace Go.Proofs.YtejhbaeeaejcaaaGreat
open Go.RowKit

/-- Two rows of a call's own. -/
structure TwoR (B : Nat) (w0 : World) (v1 v2 : Value) (l1 l2 : List En) (W : World) : Prop where
  a : OwnE encN 4 60 W B v1 l1
  b : OwnE encN 4 60 W B v2 l2
  apart : ∀ g, v1.ownBlock = some g → v2.ownBlock ≠ some g
  below : Below B w0 W
theorem TwoR.swap {B : Nat} {w0 : World} {v1 v2 : Value} {l1 l2 : List En} {W : World} (m : TwoR B w0 v1 v2 l1 l2 W) : TwoR B w0 v2 v1 l2 l1 W := ⟨m.b, m.a, fun g h1 h2 => m.apart g h2 h1, m.below⟩
theorem TwoR.push {B : Nat} {w0 : World} {v1 v2 : Value} {l1 l2 : List En} {W : World} (m : TwoR B w0 v1 v2 l1 l2 W) (e : En) (hl : l1.length ≤ 100000000) (hB : B ≤ W.heap.size) :
    ∃ v' w', (Builtin.append_ #[36, 36] 36 #[v1, .slice (some ⟨W.heap.size, 0, none⟩) 1 1]).run Tryz.prog (W.alloc (.cells #[.int .u16 (kVol e.1 : Int), .int .u32 (kBlk e.1 : Int), .int .u64 (kSeq e.1 : Int), .int .u32 (e.2 : Int)] 60)) = .ok v' w' ∧ TwoR B w0 v' v2 (l1 ++ [e]) l2 w' := by
  obtain ⟨v', w', hr, ho, hg, hat⟩ := m.a.pushAt e hl hB
  refine ⟨v', w', hr, ⟨ho, m.b.kept hg ?_, fun g h1 h2 => ?_, Below.own m.below m.a hg (Nat.le_refl _) hB⟩⟩
  · cases h2 : v2.ownBlock with
    | none => exact .inl rfl
    | some g => exact .inr fun e => m.apart g e.symm h2
  · rcases hat with h | ⟨g', h, hge⟩
    · exact m.apart g (h.symm.trans h1) h2
    · rw [h] at h1
      cases h1
      have := (m.b.lt g h2).2
      omega
theorem TwoR.drewN {B : Nat} {w0 : World} {v1 v2 : Value} {l1 l2 : List En} {W : World} (m : TwoR B w0 v1 v2 l1 l2 W) (q : Nat) : TwoR B w0 v1 v2 l1 l2 (W.drewN q) := ⟨m.a, m.b, m.apart, ⟨m.below.os, m.below.tape, m.below.output, m.below.size, m.below.block⟩⟩
theorem TwoR.more {B : Nat} {w0 : World} {v1 v2 : Value} {l1 l2 : List En} {W W' : World} (m : TwoR B w0 v1 v2 l1 l2 W) (hB : B ≤ W.heap.size) (hb : Below W.heap.size W W') : TwoR B w0 v1 v2 l1 l2 W' := ⟨m.a.below hb (Nat.le_refl _), m.b.below hb (Nat.le_refl _), m.apart, m.below.trans (hb.mono hB)⟩
theorem filter_take {α : Type} (f : α → Bool) (l : List α) {i : Nat} {x : α} (hx : l[i]? = some x) : (l.take (i + 1)).filter f = (l.take i).filter f ++ if f x then [x] else [] := by
  rw [List.take_add_one, hx, List.filter_append]
  cases h : f x <;> simp [h]

set_option maxRecDepth 100000 in
set_option maxHeartbeats 4000000 in
theorem of_ref {w : World} {a : Option Addr} {n c : Nat} {l : List En} (h : RowE encN 4 w a n l) (hn : n ≤ 1000000) (hf : Fit l) (v : Nat) :
    Calls Tryz.prog 22 #[.slice a n c, .int .i64 (v : Int)] w fun e w' => ∃ v1 v2, e = .returned (.tuple #[v1, v2]) ∧ TwoR w.heap.size w v1 v2 (volL l v) (l.filter fun x => !decide (kVol x.1 = v)) w' := by
  have hl := h.1
  have H := Lib.hid h
  have HL := Lib.hid hl
  have HFT := Lib.hid hf
  unfold volL
  clear h hl hf
  go_enter Tryz.func22, Tryz.ntmps22
  go_wp2_with fail
  go_loopw [6, 7, 8] (fun u6 u7 u8 wr => ∃ i : Nat, i ≤ n ∧ u8 = .int .i64 i ∧ TwoR w.heap.size w u6 u7 ((l.take i).filter fun x => decide (kVol x.1 = v)) ((l.take i).filter fun x => !decide (kVol x.1 = v)) wr) (fun _ _ u8 _ => n - (intOf u8).toNat)
  case atStart => exact ⟨0, by omega, rfl, World.ownsRow_nil _ _ _ _, World.ownsRow_nil _ _ _ _, (by intro g h; cases h), Below.refl _ _⟩
  case round =>
    obtain ⟨i, hi, rfl, hm⟩ := hrel
    have HM := Lib.hid hm
    clear hm
    by_cases hlt : i < n
    · have hi1 : (i : Int) < (n : Int) := by omega
      have hi0 : (0 : Int) ≤ (i : Int) := by omega
      obtain ⟨x, hx⟩ : ∃ x, l[i]? = some x := ⟨_, List.getElem?_eq_getElem (by have := HL.out; omega)⟩
      obtain ⟨g, o, rfl, hc⟩ := (H.out.below HM.out.below (Nat.le_refl _)).2 i x hx
      have c0 := hc 0 _ rfl
      have c1 := hc 1 _ rfl
      have c2 := hc 2 _ rfl
      have c3 := hc 3 _ rfl
      simp only [Nat.add_zero] at c0
      have hv := HFT.out.vol (List.mem_of_getElem? hx)
      have s1 : IntKind.i64.wrap (kVol x.1 : Int) = (kVol x.1 : Int) := IntWalk.i64_in _ (by omega)
      have hT1 := filter_take (fun x : En => decide (kVol x.1 = v)) l hx
      have hT2 := filter_take (fun x : En => !decide (kVol x.1 = v)) l hx
      have hlen : ∀ f : En → Bool, ((l.take i).filter f).length ≤ 100000000 := fun f => by
        have := List.length_filter_le f (l.take i)
        rw [List.length_take] at this
        omega
      have HLEN := Lib.hid hlen
      clear hx hc hv hlen
      by_cases h1 : kVol x.1 = v
      · have z1 : ((kVol x.1 : Int) == (v : Int)) = true := by rw [h1]; simp
        simp only [h1, decide_true, if_true, Bool.not_true] at hT1 hT2
        obtain ⟨v', w5, hr, hm5⟩ := HM.out.push x (HLEN.out _) HM.out.below.size
        have HF := Lib.hid (And.intro hT1 (And.intro hT2 hm5))
        clear hT1 hT2 hm5 h1
        go_wp2_with (at_builtin; refine wpList_append_run rfl _ _ _ rfl hr ?_)
        go_roundw
        case rel =>
          refine ⟨i + 1, by omega, by go_num, ?_⟩
          rw [HF.out.1, HF.out.2.1]
          simpa using HF.out.2.2
        case measure => simp [intOf]; omega
      · have z1 : ((kVol x.1 : Int) == (v : Int)) = false := by rw [beq_eq_false_iff_ne]; omega
        simp only [h1, decide_false, if_true, Bool.not_false] at hT1 hT2
        obtain ⟨v', w5, hr, hm5⟩ := HM.out.swap.push x (HLEN.out _) HM.out.below.size
        have HF := Lib.hid (And.intro hT1 (And.intro hT2 hm5.swap))
        clear hT1 hT2 hm5 h1
        go_wp2_with (at_builtin; refine wpList_append_run rfl _ _ _ rfl hr ?_)
        go_roundw
        case rel =>
          refine ⟨i + 1, by omega, by go_num, ?_⟩
          rw [HF.out.1, HF.out.2.1]
          simpa using HF.out.2.2
        case measure => simp [intOf]; omega
    · obtain rfl : n = i := by omega
      have HS := Lib.hid (show l.take n = l by rw [List.take_of_length_le (by have := HL.out; omega)])
      go_wp2_with fail
      go_ret2
      refine ⟨_, _, rfl, ?_⟩
      have := HM.out
      rwa [HS.out] at this

/-- Is a version of a volume seen no more? -/
def goneB (l : List En) (v : Nat) (ps : List Nat) (fl : Nat) (x : En) : Bool := decide (kVol x.1 = v) && !neededB ps fl (kSeq x.1) (nextR l x.1)
set_option maxRecDepth 100000 in
set_option maxHeartbeats 8000000 in
theorem split_ref {w : World} {a : Option Addr} {n c : Nat} {l : List En} (h : RowE encN 4 w a n l) (hn : n ≤ 1000000) (hf : Fit l) (v : Nat) {a' : Option Addr} {m c' : Nat} {ps : List Nat} (hp : RowE encS 1 w a' m ps) (hm : m ≤ 1000000) (fl : Nat) :
    Calls Tryz.prog 24 #[.slice a n c, .int .i64 (v : Int), .slice a' m c', .int .u64 (fl : Int)] w fun e w' => ∃ v1 v2, e = .returned (.tuple #[v1, v2]) ∧ TwoR w.heap.size w v1 v2 (l.filter (goneB l v ps fl)) (l.filter fun x => !goneB l v ps fl x) w' := by
  have hl := h.1
  have H := Lib.hid h
  have HP := Lib.hid hp
  have HL := Lib.hid hl
  have HFT := Lib.hid hf
  clear h hl hf hp
  go_enter Tryz.func24, Tryz.ntmps24
  go_wp2_with fail
  go_loopw [10, 11, 12] (fun u10 u11 u12 wr => ∃ i : Nat, i ≤ n ∧ u12 = .int .i64 i ∧ TwoR w.heap.size w u10 u11 ((l.take i).filter (goneB l v ps fl)) ((l.take i).filter fun x => !goneB l v ps fl x) wr) (fun _ _ u12 _ => n - (intOf u12).toNat)
  case atStart => exact ⟨0, by omega, rfl, World.ownsRow_nil _ _ _ _, World.ownsRow_nil _ _ _ _, (by intro g h; cases h), Below.refl _ _⟩
  case round =>
    obtain ⟨i, hi, rfl, hm'⟩ := hrel
    have HM := Lib.hid hm'
    clear hm'
    by_cases hlt : i < n
    · have hi1 : (i : Int) < (n : Int) := by omega
      have hi0 : (0 : Int) ≤ (i : Int) := by omega
      obtain ⟨x, hx⟩ : ∃ x, l[i]? = some x := ⟨_, List.getElem?_eq_getElem (by have := HL.out; omega)⟩
      have hrow := H.out.below HM.out.below (Nat.le_refl _)
      obtain ⟨g, o, rfl, hc⟩ := hrow.2 i x hx
      have c0 := hc 0 _ rfl
      have c1 := hc 1 _ rfl
      have c2 := hc 2 _ rfl
      have c3 := hc 3 _ rfl
      simp only [Nat.add_zero] at c0
      have hv := HFT.out.vol (List.mem_of_getElem? hx)
      have s1 : IntKind.i64.wrap (kVol x.1 : Int) = (kVol x.1 : Int) := IntWalk.i64_in _ (by omega)
      have hT1 := filter_take (goneB l v ps fl) l hx
      have hT2 := filter_take (fun x => !goneB l v ps fl x) l hx
      have hlen : ∀ f : En → Bool, ((l.take i).filter f).length ≤ 100000000 := fun f => by
        have := List.length_filter_le f (l.take i)
        rw [List.length_take] at this
        omega
      have HLEN := Lib.hid hlen
      have HNX := Lib.hid (fun W (hW : Below wr.heap.size wr W) => next_ref (c := c) (hrow.below hW (Nat.le_refl _)) hn x.1)
      have HND := Lib.hid (fun W (hW : Below wr.heap.size wr W) => needed_ref (c := c') ((HP.out.below HM.out.below (Nat.le_refl _)).below hW (Nat.le_refl _)) hm fl (kSeq x.1) (nextR l x.1))
      have hcell : ∀ W, Below wr.heap.size wr W → W.cell? ⟨g, o + i * 4, none⟩ = some (.int .u16 (kVol x.1 : Int)) ∧ W.cell? ⟨g, o + i * 4 + 1, none⟩ = some (.int .u32 (kBlk x.1 : Int)) ∧ W.cell? ⟨g, o + i * 4 + 2, none⟩ = some (.int .u64 (kSeq x.1 : Int)) ∧ W.cell? ⟨g, o + i * 4 + 3, none⟩ = some (.int .u32 (x.2 : Int)) := fun W hW =>
        ⟨(hW.cell (World.block_lt_of_cell? _ _ c0)).trans c0, (hW.cell (World.block_lt_of_cell? _ _ c1)).trans c1, (hW.cell (World.block_lt_of_cell? _ _ c2)).trans c2, (hW.cell (World.block_lt_of_cell? _ _ c3)).trans c3⟩
      have HC := Lib.hid hcell
      clear hx hc hv hlen hrow
      unfold keyV at HNX
      by_cases h1 : kVol x.1 = v
      · have z1 : ((kVol x.1 : Int) == (v : Int)) = true := by rw [h1]; simp
        have hgone : goneB l v ps fl x = !neededB ps fl (kSeq x.1) (nextR l x.1) := by unfold goneB; simp [h1]
        rw [hgone] at hT1 hT2
        have hS := hcell wr.drew (Below.drewB (Below.refl _ _))
        clear h1 hgone hcell
        generalize neededB ps fl (kSeq x.1) (nextR l x.1) = nb at *
        generalize nextR l x.1 = nx at *
        go_upto_region 5 with fail
        go_cut [46] from 19 to 60 (fun u46 wx => u46 = .bool (!nb) ∧ Below wr.heap.size wr wx)
        case first =>
          go_region_held (fun W => W.cell? ⟨g, o + i * 4, none⟩ = some (.int .u16 (kVol x.1 : Int)) ∧ W.cell? ⟨g, o + i * 4 + 1, none⟩ = some (.int .u32 (kBlk x.1 : Int)) ∧ W.cell? ⟨g, o + i * 4 + 2, none⟩ = some (.int .u64 (kSeq x.1 : Int)) ∧ W.cell? ⟨g, o + i * 4 + 3, none⟩ = some (.int .u32 (x.2 : Int))) (first | with_reducible exact hS7 | with_reducible exact hS6 | with_reducible exact hS)
            (first
              | (go_at_call 46; refine (HNX.out _ (Below.drewB (Below.refl _ _))).mono ?_; rintro e w5 ⟨rfl, hb5⟩; have hb5' := (Below.drewB (Below.refl wr.heap.size wr)).trans hb5; have hS6 := HC.out w5 hb5')
              | (go_at_call 45; refine (HND.out w5 hb5').mono ?_; rintro e w6 ⟨rfl, rfl⟩; have hS7 := hS6))
          all_goals
            go_wp2_with fail
            go_meet
            case rel => exact ⟨rfl, hb5'⟩
        case rest =>
          obtain ⟨rfl, hbx⟩ := hcut
          obtain ⟨e0, e1, e2, e3⟩ := HC.out wc hbx
          have HMc := Lib.hid (HM.out.more HM.out.below.size hbx)
          clear hbx hS c0 c1 c2 c3
          cases nb with
          | false =>
            simp only [Bool.not_false, if_true, Bool.not_true] at hT1 hT2
            obtain ⟨v', w5, hr, hm5⟩ := HMc.out.push x (HLEN.out _) HMc.out.below.size
            have HF := Lib.hid (And.intro hT1 (And.intro hT2 hm5))
            clear hT1 hT2 hm5
            go_wp2_with (at_builtin; refine wpList_append_run rfl _ _ _ rfl hr ?_)
            go_roundw
            case rel =>
              refine ⟨i + 1, by omega, by go_num, ?_⟩
              rw [HF.out.1, HF.out.2.1]
              simpa using HF.out.2.2
            case measure => simp [intOf]; omega
          | true =>
            simp only [Bool.not_false, if_true, Bool.not_true] at hT1 hT2
            obtain ⟨v', w5, hr, hm5⟩ := HMc.out.swap.push x (HLEN.out _) HMc.out.below.size
            have HF := Lib.hid (And.intro hT1 (And.intro hT2 hm5.swap))
            clear hT1 hT2 hm5
            go_wp2_with (at_builtin; refine wpList_append_run rfl _ _ _ rfl hr ?_)
            go_roundw
            case rel =>
              refine ⟨i + 1, by omega, by go_num, ?_⟩
              rw [HF.out.1, HF.out.2.1]
              simpa using HF.out.2.2
            case measure => simp [intOf]; omega
      · have z1 : ((kVol x.1 : Int) == (v : Int)) = false := by rw [beq_eq_false_iff_ne]; omega
        have hgone : goneB l v ps fl x = false := by unfold goneB; simp [h1]
        rw [hgone] at hT1 hT2
        simp only [Bool.not_false, if_true] at hT1 hT2
        clear h1 hgone hcell HNX HND
        go_wp2_with fail
        go_quiet (fail)
        have hw0 : Below wr.heap.size wr (wr.drewN nq) := ⟨rfl, rfl, rfl, Nat.le_refl _, fun _ _ => rfl⟩
        obtain ⟨e0, e1, e2, e3⟩ := HC.out _ hw0
        obtain ⟨v', w5, hr, hm5⟩ := (HM.out.drewN nq).swap.push x (HLEN.out _) HM.out.below.size
        have HF := Lib.hid (And.intro hT1 (And.intro hT2 hm5.swap))
        clear hT1 hT2 hm5 hw0
        go_wp2_with (at_builtin; refine wpList_append_run rfl _ _ _ rfl hr ?_)
        go_roundw
        case rel =>
          refine ⟨i + 1, by omega, by go_num, ?_⟩
          rw [HF.out.1, HF.out.2.1]
          simpa using HF.out.2.2
        case measure => simp [intOf]; omega
    · obtain rfl : n = i := by omega
      have HS := Lib.hid (show l.take n = l by rw [List.take_of_length_le (by have := HL.out; omega)])
      go_wp2_with fail
      go_ret2
      refine ⟨_, _, rfl, ?_⟩
      have := HM.out
      rwa [HS.out] at this
end Go.Proofs.YtejhbaeeaejcaaaGreat
/- What the history's calls come to is what the document says, in plain Lean. Conditions: those of each theorem. -/
namespace Go.Proofs.YtejhbaeeaejcaaaGreat

/-- Those of a block, up to a number. -/
def pAt (v b s : Nat) (x : En) : Bool := decide (kVol x.1 = v ∧ kBlk x.1 = b ∧ kSeq x.1 ≤ s)
theorem filter_snoc {α : Type} (p : α → Bool) (l : List α) (x : α) : (l ++ [x]).filter p = l.filter p ++ if p x then [x] else [] := by
  rw [List.filter_append]
  cases h : p x <;> simp [h]
theorem last_filter {α : Type} (p : α → Bool) {l : List α} {e : α} (h : l.getLast? = some e) (hp : p e = true) : (l.filter p).getLast? = some e := by
  obtain ⟨l', rfl⟩ : ∃ l', l = l' ++ [e] := by
    refine ⟨l.dropLast, ?_⟩
    have hne : l ≠ [] := fun e => by rw [e] at h; cases h
    rw [List.getLast?_eq_some_getLast hne] at h
    rw [← Option.some.inj h]
    exact (List.dropLast_concat_getLast hne).symm
  rw [filter_snoc, hp]
  simp
theorem rise_last {l : List En} (hr : Rise l) {e : En} (h : l.getLast? = some e) : ∀ x ∈ l, x.1 ≤ e.1 := by
  obtain ⟨l', rfl⟩ : ∃ l', l = l' ++ [e] := by
    refine ⟨l.dropLast, ?_⟩
    have hne : l ≠ [] := fun e => by rw [e] at h; cases h
    rw [List.getLast?_eq_some_getLast hne] at h
    rw [← Option.some.inj h]
    exact (List.dropLast_concat_getLast hne).symm
  intro x hx
  rcases List.mem_append.1 hx with hx | hx
  · have := hr.cross x hx e (by simp)
    omega
  · simp at hx; rw [hx]; exact Nat.le_refl _
theorem key_same {x y : Nat} (hv : kVol x = kVol y) (hb : kBlk x = kBlk y) : (x ≤ y ↔ kSeq x ≤ kSeq y) ∧ (x < y ↔ kSeq x < kSeq y) := by
  have h1 := keyN_of x
  have h2 := keyN_of y
  unfold keyN at h1 h2
  rw [hv, hb] at h1
  constructor <;> constructor <;> intro h <;> omega
/-- What the document's At comes to: the last one. -/
theorem fold_at {l : List En} (v b s : Nat) (hr : Rise l) : l.foldl (atS v b s) (0, 0) = match (l.filter (pAt v b s)).getLast? with
    | some e => (e.2, kSeq e.1)
    | none => (0, 0) := by
  induction hl : l.length generalizing l with
  | zero =>
    obtain rfl := List.eq_nil_of_length_eq_zero hl
    rfl
  | succ m ih =>
    obtain ⟨l', x, rfl⟩ : ∃ l' x, l = l' ++ [x] := by
      have hne : l ≠ [] := fun e => by rw [e] at hl; cases hl
      exact ⟨l.dropLast, l.getLast hne, (List.dropLast_concat_getLast hne).symm⟩
    rw [List.foldl_append, List.foldl_cons, List.foldl_nil, ih hr.left (by simpa using hl), filter_snoc]
    by_cases hp : kVol x.1 = v ∧ kBlk x.1 = b ∧ kSeq x.1 ≤ s
    · have hpt : pAt v b s x = true := decide_eq_true hp
      rw [hpt, if_pos rfl, List.getLast?_concat]
      show atS v b s _ x = (x.2, kSeq x.1)
      refine if_pos ⟨hp.1, hp.2.1, hp.2.2, ?_⟩
      cases he : (l'.filter (pAt v b s)).getLast? with
      | none => exact Nat.zero_le _
      | some e =>
        have hm := List.mem_filter.1 (List.mem_of_getLast? he)
        have hpe := of_decide_eq_true hm.2
        have hlt := hr.cross e hm.1 x (by simp)
        have := (key_same (x := e.1) (y := x.1) (by rw [hpe.1, hp.1]) (by rw [hpe.2.1, hp.2.1])).2.1 hlt
        show kSeq e.1 ≤ kSeq x.1
        omega
    · have hpf : pAt v b s x = false := decide_eq_false hp
      rw [hpf]
      simp only [Bool.false_eq_true, if_false, List.append_nil]
      exact if_neg fun h => hp ⟨h.1, h.2.1, h.2.2.1⟩
/-- The floor's block is that of the last one. -/
theorem atL_last {l : List En} (hr : Rise l) (v b s : Nat) (hb : b < 4294967296) (hs : s < 18446744073709551616) : atL l v b s = match (l.filter (pAt v b s)).getLast? with
    | some e => e.2
    | none => 0 := by
  unfold atL floorE
  have hkv := keyN_vol (v := v) hb hs
  have hkb := keyN_blk (v := v) hb hs
  have hks := keyN_seq (v := v) (b := b) hs
  have hsub : ∀ x, pAt v b s x = true → x.1 ≤ keyN v b s := fun x hx => by
    obtain ⟨h1, h2, h3⟩ := of_decide_eq_true hx
    exact (key_same (by rw [h1, hkv]) (by rw [h2, hkb])).1.2 (by rw [hks]; exact h3)
  have hff : l.filter (pAt v b s) = (l.filter fun x => decide (x.1 ≤ keyN v b s)).filter (pAt v b s) := by
    rw [List.filter_filter]
    refine List.filter_congr fun x _ => ?_
    cases hp : pAt v b s x with
    | false => rfl
    | true => simp [hsub x hp]
  have hrF : Rise (l.filter fun x => decide (x.1 ≤ keyN v b s)) := hr.sublist List.filter_sublist
  have hle : ∀ x ∈ l.filter (fun x => decide (x.1 ≤ keyN v b s)), x.1 ≤ keyN v b s := fun x hx => of_decide_eq_true (List.mem_filter.1 hx).2
  rw [hff]
  generalize l.filter (fun x => decide (x.1 ≤ keyN v b s)) = F at *
  cases hF : F.getLast? with
  | none =>
    have : F = [] := List.getLast?_eq_none_iff.1 hF
    rw [this]
    rfl
  | some e =>
    by_cases hc : kVol e.1 = v ∧ kBlk e.1 = b
    · have hpe : pAt v b s e = true := decide_eq_true ⟨hc.1, hc.2, by
        have h1 := hle e (List.mem_of_getLast? hF)
        have h2 := (key_same (x := e.1) (y := keyN v b s) (by rw [hc.1, hkv]) (by rw [hc.2, hkb])).1.1 h1
        rw [hks] at h2
        exact h2⟩
      rw [last_filter _ hF hpe]
      simp only
      rw [if_pos hc]
    · simp only
      rw [if_neg hc]
      have : F.filter (pAt v b s) = [] := List.filter_eq_nil_iff.2 fun x hx hp => by
        obtain ⟨h1, h2, h3⟩ := of_decide_eq_true hp
        have hxe := rise_last hrF hF x hx
        have hek := hle e (List.mem_of_getLast? hF)
        apply hc
        have e1 := keyN_of x.1
        have e2 := keyN_of e.1
        have := kSeq_lt x.1
        have := kSeq_lt e.1
        have := kBlk_lt e.1
        unfold keyN at e1 e2 hek
        rw [h1, h2] at e1
        constructor <;> omega
      rw [this]
      rfl
theorem at_eq {l : List En} (hr : Rise l) (v b s : Nat) (hb : b < 4294967296) (hs : s < 18446744073709551616) : (l.foldl (atS v b s) (0, 0)).1 = atL l v b s := by
  rw [fold_at v b s hr, atL_last hr v b s hb hs]
  cases (l.filter (pAt v b s)).getLast? <;> rfl

/-- Those of a block behind a number. -/
def pNx (k : Nat) (x : En) : Bool := decide (kVol x.1 = kVol k ∧ kBlk x.1 = kBlk k ∧ kSeq k < kSeq x.1)
theorem nextR_head {l : List En} (hr : Rise l) (k : Nat) : nextR l k = match (l.filter (pNx k)).head? with
    | some e => kSeq e.1
    | none => 0 := by
  unfold nextR
  induction hl : l.length generalizing l with
  | zero =>
    obtain rfl := List.eq_nil_of_length_eq_zero hl
    rfl
  | succ m ih =>
    obtain ⟨l', x, rfl⟩ : ∃ l' x, l = l' ++ [x] := by
      have hne : l ≠ [] := fun e => by rw [e] at hl; cases hl
      exact ⟨l.dropLast, l.getLast hne, (List.dropLast_concat_getLast hne).symm⟩
    rw [List.foldl_append, List.foldl_cons, List.foldl_nil, ih hr.left (by simpa using hl), filter_snoc]
    cases he : (l'.filter (pNx k)).head? with
    | none =>
      have hnil : l'.filter (pNx k) = [] := List.head?_eq_none_iff.1 he
      rw [hnil]
      by_cases hp : kVol x.1 = kVol k ∧ kBlk x.1 = kBlk k ∧ kSeq k < kSeq x.1
      · rw [show pNx k x = true from decide_eq_true hp]
        exact if_pos ⟨hp.1, hp.2.1, hp.2.2, .inl rfl⟩
      · rw [show pNx k x = false from decide_eq_false hp]
        exact if_neg fun h => hp ⟨h.1, h.2.1, h.2.2.1⟩
    | some e =>
      have hm := List.mem_filter.1 (List.mem_of_head? he)
      have hpe := of_decide_eq_true hm.2
      have hh : (l'.filter (pNx k) ++ if pNx k x = true then [x] else []).head? = some e := by
        rw [List.head?_append, he]; rfl
      rw [hh]
      refine if_neg ?_
      rintro ⟨h1, h2, h3, h4⟩
      have hlt := hr.cross e hm.1 x (by simp)
      have := (key_same (x := e.1) (y := x.1) (by rw [hpe.1, h1]) (by rw [hpe.2.1, h2])).2.1 hlt
      rcases h4 with h4 | h4 <;> simp only at h4 <;> omega
/-- The next one lies right behind, among those of the volume. -/
theorem nextV_eq {l : List En} (hr : Rise l) (v i : Nat) {x : En} (hx : (volL l v)[i]? = some x) : nextV (volL l v) i = nextR l x.1 := by
  have hrV : Rise (volL l v) := hr.sublist List.filter_sublist
  have hxv : kVol x.1 = v := of_decide_eq_true (List.mem_filter.1 (List.mem_of_getElem? hx)).2
  have hV : l.filter (pNx x.1) = (volL l v).filter (pNx x.1) := by
    unfold volL
    rw [List.filter_filter]
    refine List.filter_congr fun y _ => ?_
    cases hp : pNx x.1 y with
    | false => rfl
    | true =>
      have := (of_decide_eq_true hp).1
      simp [this, hxv]
  have hall : ∀ y ∈ volL l v, kVol y.1 = v := fun y hy => of_decide_eq_true (List.mem_filter.1 hy).2
  rw [nextR_head hr, hV]
  unfold nextV
  rw [hx]
  generalize volL l v = V at *
  have hlt := (List.getElem?_eq_some_iff.1 hx).1
  have hsp : V = V.take (i + 1) ++ V.drop (i + 1) := (List.take_append_drop _ _).symm
  have hfirst : (V.take (i + 1)).filter (pNx x.1) = [] := List.filter_eq_nil_iff.2 fun y hy hp => by
    obtain ⟨h1, h2, h3⟩ := of_decide_eq_true hp
    obtain ⟨j, hj⟩ := List.getElem?_of_mem hy
    have hjl := (List.getElem?_eq_some_iff.1 hj).1
    rw [List.length_take] at hjl
    rw [List.getElem?_take_of_lt (by omega)] at hj
    have hle : y.1 ≤ x.1 := by
      by_cases e : j = i
      · rw [e, hx] at hj; cases hj; exact Nat.le_refl _
      · have := List.pairwise_iff_getElem.1 hrV j i (List.getElem?_eq_some_iff.1 hj).1 hlt (by omega)
        rw [(List.getElem?_eq_some_iff.1 hj).2, (List.getElem?_eq_some_iff.1 hx).2] at this
        omega
    have := (key_same (x := y.1) (y := x.1) h1 h2).1.1 hle
    omega
  rw [hsp, List.filter_append, hfirst, List.nil_append]
  rw [← hsp]
  cases hy : V[i + 1]? with
  | none =>
    have : V.drop (i + 1) = [] := List.drop_eq_nil_of_le (by have := List.getElem?_eq_none_iff.1 hy; omega)
    rw [this]
    rfl
  | some y =>
    have hd : V.drop (i + 1) = y :: V.drop (i + 2) := by
      rw [List.drop_eq_getElem_cons (List.getElem?_eq_some_iff.1 hy).1, (List.getElem?_eq_some_iff.1 hy).2]
    have hxy : x.1 < y.1 := by
      have := List.pairwise_iff_getElem.1 hrV i (i + 1) hlt (List.getElem?_eq_some_iff.1 hy).1 (by omega)
      rw [(List.getElem?_eq_some_iff.1 hx).2, (List.getElem?_eq_some_iff.1 hy).2] at this
      exact this
    have hyv := hall y (List.mem_of_getElem? hy)
    rw [hd]
    simp only
    by_cases hs : kVol x.1 = kVol y.1 ∧ kBlk x.1 = kBlk y.1
    · rw [if_pos hs]
      have : pNx x.1 y = true := decide_eq_true ⟨hs.1.symm, hs.2.symm, (key_same hs.1 hs.2).2.1 hxy⟩
      rw [List.filter_cons_of_pos this]
      rfl
    · rw [if_neg hs]
      have hnil : (y :: V.drop (i + 2)).filter (pNx x.1) = [] := List.filter_eq_nil_iff.2 fun z hz hp => by
        obtain ⟨h1, h2, h3⟩ := of_decide_eq_true hp
        have hyz : y.1 ≤ z.1 := by
          rcases List.mem_cons.1 hz with rfl | hz
          · exact Nat.le_refl _
          · have hrd : Rise (y :: V.drop (i + 2)) := by rw [← hd]; exact hrV.sublist (List.drop_sublist _ _)
            have := (List.pairwise_cons.1 hrd).1 z hz
            omega
        apply hs
        have e1 := keyN_of x.1
        have e2 := keyN_of y.1
        have e3 := keyN_of z.1
        have := kSeq_lt x.1
        have := kSeq_lt y.1
        have := kSeq_lt z.1
        unfold keyN at e1 e2 e3
        rw [h1, h2] at e3
        constructor <;> omega
      rw [hnil]
      rfl
theorem idleTo_filter {V : List En} {ps : List Nat} {fl : Nat} (f : En → Bool) (hf : ∀ i x, V[i]? = some x → (!neededB ps fl (kSeq x.1) (nextV V i)) = f x) : ∀ i, i ≤ V.length → idleTo V ps fl i = (V.take i).filter f
  | 0, _ => by simp [idleTo]
  | i + 1, h => by
    obtain ⟨x, hx⟩ : ∃ x, V[i]? = some x := ⟨_, List.getElem?_eq_getElem (by omega)⟩
    rw [idleTo_succ V ps fl i hx, idleTo_filter f hf i (by omega), filter_take f V hx, ← hf i x hx]
    cases neededB ps fl (kSeq x.1) (nextV V i) <;> rfl
/-- Those that go are the document's. -/
theorem idle_eq {l : List En} (hr : Rise l) (v : Nat) (ps : List Nat) (fl : Nat) : idleL l v ps fl = l.filter (goneB l v ps fl) := by
  unfold idleL
  rw [idleTo_filter (goneB l v ps fl) (fun i x hx => ?_) _ (Nat.le_refl _), List.take_length]
  · unfold volL
    rw [List.filter_filter]
    refine List.filter_congr fun x _ => ?_
    unfold goneB
    cases decide (kVol x.1 = v) <;> simp
  · rw [nextV_eq hr v i hx]
    unfold goneB
    have hxv : kVol x.1 = v := of_decide_eq_true (List.mem_filter.1 (List.mem_of_getElem? hx)).2
    simp [hxv]
theorem delAll_rest {l : List En} (hr : Rise l) (f : En → Bool) : delAll l (l.filter f) = l.filter fun x => !f x := by
  rw [delAll_filter hr (fun e he => (List.mem_filter.1 he).1) ((rise_nodup hr).sublist List.filter_sublist)]
  refine List.filter_congr fun x hx => ?_
  cases h : f x with
  | true => simp [List.mem_filter, hx, h]
  | false => simp [List.mem_filter, h]
/-- What goes is seen from no point that was told, nor from a number that isn't below the floor. -/
theorem prune_at {l : List En} (hr : Rise l) (v : Nat) (ps : List Nat) (fl : Nat) (u b s : Nat) (hb : b < 4294967296) (hs : s < 18446744073709551616) (h : fl ≤ s ∨ s ∈ ps) : atL (l.filter fun x => !goneB l v ps fl x) u b s = atL l u b s := by
  rw [atL_last (hr.sublist List.filter_sublist) u b s hb hs, atL_last hr u b s hb hs]
  have hc : (l.filter fun x => !goneB l v ps fl x).filter (pAt u b s) = (l.filter (pAt u b s)).filter fun x => !goneB l v ps fl x := by
    rw [List.filter_filter, List.filter_filter]
    refine List.filter_congr fun x _ => ?_
    rw [Bool.and_comm]
  rw [hc]
  have hrP : Rise (l.filter (pAt u b s)) := hr.sublist List.filter_sublist
  cases hF : (l.filter (pAt u b s)).getLast? with
  | none =>
    rw [List.getLast?_eq_none_iff.1 hF]
    rfl
  | some e =>
    have hm := List.mem_filter.1 (List.mem_of_getLast? hF)
    have hpe := of_decide_eq_true hm.2
    have hng : (!goneB l v ps fl e) = true := by
      unfold goneB
      by_cases hv : kVol e.1 = v
      · have hn : neededB ps fl (kSeq e.1) (nextR l e.1) = true := by
          rw [nextR_head hr]
          cases hh : (l.filter (pNx e.1)).head? with
          | none => unfold neededB; simp
          | some y =>
            have hy := List.mem_filter.1 (List.mem_of_head? hh)
            have hpy := of_decide_eq_true hy.2
            have hlt : s < kSeq y.1 := Nat.lt_of_not_le fun hle => by
              have hin : y ∈ l.filter (pAt u b s) := List.mem_filter.2 ⟨hy.1, decide_eq_true ⟨by rw [hpy.1, hpe.1], by rw [hpy.2.1, hpe.2.1], hle⟩⟩
              have h1 := rise_last hrP hF y hin
              have h2 := (key_same (x := y.1) (y := e.1) hpy.1 hpy.2.1).1.1 h1
              omega
            unfold neededB
            rcases h with h | h
            · simp [show fl < kSeq y.1 by omega]
            · have : (ps.any fun p => decide (kSeq e.1 ≤ p) && decide (p < kSeq y.1)) = true := List.any_eq_true.2 ⟨s, h, by simp [hpe.2.2, hlt]⟩
              simp [this]
        simp [hn]
      · simp [hv]
    rw [last_filter (fun x => !goneB l v ps fl x) hF hng]
end Go.Proofs.YtejhbaeeaejcaaaGreat
