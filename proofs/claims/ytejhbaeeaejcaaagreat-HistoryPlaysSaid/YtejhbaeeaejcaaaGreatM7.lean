/- The walk of node.Leaf: a leaf made of entries. Conditions: those of each theorem. -/
import Derived.Test.YtejhbaeeaejcaaaGreatM6
import Derived.OwnWalk
import Derived.Test.YtejhbaeeaejcaaaGreatM2
namespace Go.Proofs.YtejhbaeeaejcaaaGreat
open Go.RowKit

set_option maxRecDepth 100000 in
set_option maxHeartbeats 8000000 in
theorem leaf_any {w : World} {a : Option Addr} {n c : Nat} {es : List En} (h : RowE encN 4 w a n es) (hn : n ≤ 1000) :
    Calls Tryz.prog 66 #[.slice a n c] w fun r w' => ∃ p, r = .returned (ptrV p) ∧ NodeW w' (fun j => w.heap.size ≤ j ∧ j < w'.heap.size) p (leafT es) ∧ Below w.heap.size w w' := by
  have hlen := h.1
  have HH := Lib.hid h
  clear h
  have hp0 : (w.alloc (leafObj (.slice none 0 0) (.slice none 0 0))).heap[w.heap.size]? = some (leafObj (.slice none 0 0) (.slice none 0 0)) := heap_alloc_new w _
  have m0 : LeafS w.heap.size (leafObj (.slice none 0 0) (.slice none 0 0)) w.heap.size (leafObj (.slice none 0 0) (.slice none 0 0)) w (.slice none 0 0) (.slice none 0 0) [] [] (w.alloc (leafObj (.slice none 0 0) (.slice none 0 0))) :=
    ⟨World.ownsRow_nil _ _ _ _, World.ownsRow_nil _ _ _ _, (fun g e => by cases e), hp0, hp0, (fun e => by cases e), (fun e => by cases e), (Below.refl _ _).alloc (Nat.le_refl _) _⟩
  have HM0 := Lib.hid m0
  unfold leafObj at HM0
  clear m0 hp0
  unfold ptrV
  go_enter Tryz.func66, Tryz.ntmps66
  go_wp2_with fail
  generalize w.alloc (.cells #[.bool true, .slice none 0 0, .slice none 0 0, .slice none 0 0, .int .u32 0] 136) = w0 at *
  generalize hB : w.heap.size = B at *
  go_loopw [10] (fun u10 wr => ∃ i : Nat, ∃ kv vv : Value, i ≤ n ∧ u10 = .int .i64 i ∧ LeafS B (leafObj kv vv) B (leafObj kv vv) w kv vv ((es.take i).map (·.1)) ((es.take i).map (·.2)) wr) (fun u10 _ => n - (intOf u10).toNat)
  case atStart => exact ⟨0, .slice none 0 0, .slice none 0 0, by omega, rfl, HM0.out⟩
  case round =>
    obtain ⟨i, kv, vv, hi, rfl, m⟩ := hrel
    obtain ⟨ka0, kn0, kc0, rfl⟩ := m.k.form
    obtain ⟨va0, vn0, vc0, rfl⟩ := m.v.form
    by_cases hlt : i < n
    · have hi1 : (i : Int) < (n : Int) := by omega
      obtain ⟨e, he⟩ : ∃ e, es[i]? = some e := ⟨_, List.getElem?_eq_getElem (by omega)⟩
      have hrow := HH.out.below m.below (by omega)
      obtain ⟨b, o, rfl, hc⟩ := hrow.2 i e he
      have c0 := hc 0 _ rfl
      have c1 := hc 1 _ rfl
      have c2 := hc 2 _ rfl
      have c3 := hc 3 _ rfl
      simp only [Nat.add_zero] at c0
      have hts : es.take (i + 1) = es.take i ++ [e] := by rw [List.take_add_one, he]; rfl
      have HTS := Lib.hid hts
      have hkl : ((es.take i).map (·.1)).length ≤ 100000000 := by rw [List.length_map, List.length_take]; omega
      have hlv : ((es.take i).map (·.2)).length ≤ 100000000 := by rw [List.length_map, List.length_take]; omega
      have m1 : LeafS B (.cells #[.bool true, .slice ka0 kn0 kc0, .slice va0 vn0 vc0, .slice none 0 0, .int .u32 0] 136) wr.heap.size (.cells #[.int .u16 (kVol e.1 : Int), .int .u32 (kBlk e.1 : Int), .int .u64 (kSeq e.1 : Int), .int .u32 (e.2 : Int)] 60) w (.slice ka0 kn0 kc0) (.slice va0 vn0 vc0) ((es.take i).map (·.1)) ((es.take i).map (·.2)) (wr.alloc (.cells #[.int .u16 (kVol e.1 : Int), .int .u32 (kBlk e.1 : Int), .int .u64 (kSeq e.1 : Int), .int .u32 (e.2 : Int)] 60)) := by
        have m2 := m.alloc (.cells #[.int .u16 (kVol e.1 : Int), .int .u32 (kBlk e.1 : Int), .int .u64 (kSeq e.1 : Int), .int .u32 (e.2 : Int)] 60)
        exact ⟨m2.k, m2.v, m2.apart, m2.hp, heap_alloc_new wr _, fun h => by have := (m.k.lt _ h).2; omega, fun h => by have := (m.v.lt _ h).2; omega, m2.below⟩
      have HBL := Lib.hid m.lt.1
      clear hts m hc hrow hlen he
      go_wp2_with fail
      clear c0 c1 c2 c3
      generalize wr.alloc (.cells #[.int .u16 (kVol e.1 : Int), .int .u32 (kBlk e.1 : Int), .int .u64 (kSeq e.1 : Int), .int .u32 (e.2 : Int)] 60) = wx at *
      have hBe : B < wr.heap.size := HBL.out
      generalize wr.heap.size = eb at *
      have hneb : eb ≠ B := by omega
      have hle := Lib.hid (fun g (h : (Value.slice ka0 kn0 kc0).ownBlock = some g) => (m1.k.lt g h).2)
      have M1 := Lib.hid m1
      have HH1 := m1.drew.late
      clear m1 hBe
      refine wp_region_late (by kernel_rfl) [1, 20, 21, 22, 23] (leafS0 eb (.int .u16 (kVol e.1 : Int)) (.int .u32 (kBlk e.1 : Int)) (.int .u64 (kSeq e.1 : Int)) (.int .u32 (e.2 : Int))) (leafS1 B (.slice ka0 kn0 kc0) (.slice va0 vn0 vc0)) ?_
      refine anyL_takeL 1 (some 15) (v := ?_) rfl rfl (by decide) (by kernel_rfl) (fun _ _ _ h => h) HH1.1 (Or.inl ⟨by rfl, ?_⟩) ?_
      rotate_left
      · (intro w' hSw; clear hSw; go_simp; try with_reducible rfl)
      try simp only [Act.put, List.setIfInBounds_toArray, List.set_cons_zero, List.set_cons_succ]
      refine anyL_takeS 0 (some 14) (v := ?_) rfl rfl (by decide) (by kernel_rfl) (fun _ _ _ h => h) HH1 (Or.inl ⟨by rfl, ?_⟩) ?_
      rotate_left
      · (intro w' hSw; clear hSw; go_simp; try with_reducible rfl)
      try simp only [Act.put, List.setIfInBounds_toArray, List.set_cons_zero, List.set_cons_succ]
      refine anyL_takeS 2 (some 16) (v := ?_) rfl rfl (by decide) (by kernel_rfl) (fun _ _ _ h => h) HH1 (Or.inl ⟨by rfl, ?_⟩) ?_
      rotate_left
      · (intro w' hSw; clear hSw; go_simp; try with_reducible rfl)
      try simp only [Act.put, List.setIfInBounds_toArray, List.set_cons_zero, List.set_cons_succ]
      refine anyL_takeS 3 (some 17) (v := ?_) rfl rfl (by decide) (by kernel_rfl) (fun _ _ _ h => h) HH1 (Or.inl ⟨by rfl, ?_⟩) ?_
      rotate_left
      · (intro w' hSw; clear hSw; go_simp; try with_reducible rfl)
      try simp only [Act.put, List.setIfInBounds_toArray, List.set_cons_zero, List.set_cons_succ]
      refine anyL_takeS 4 (some 18) (v := ?_) rfl rfl (by decide) (by kernel_rfl) (fun _ _ _ h => h) HH1 (Or.inl ⟨by rfl, ?_⟩) ?_
      rotate_left
      · (intro w' hSw; clear hSw; go_simp; try with_reducible rfl)
      try simp only [Act.put, List.setIfInBounds_toArray, List.set_cons_zero, List.set_cons_succ]
      refine anyL_takeS 5 (some 19) (v := ?_) rfl rfl (by decide) (by kernel_rfl) (fun _ _ _ h => h) HH1 (Or.inl ⟨by rfl, ?_⟩) ?_
      rotate_left
      · (intro w' hSw; obtain ⟨⟨q0, q1, q2, q3⟩, z1, z2⟩ := hSw; go_simp; try with_reducible rfl)
      try simp only [Act.put, List.setIfInBounds_toArray, List.set_cons_zero, List.set_cons_succ]
      refine anyL_takeS 6 (some 20) (v := ?_) rfl rfl (by decide) (by kernel_rfl) (fun _ _ _ h => h) HH1 (Or.inl ⟨by rfl, ?_⟩) ?_
      rotate_left
      · (intro w' hSw; clear hSw; go_simp; try with_reducible rfl)
      try simp only [Act.put, List.setIfInBounds_toArray, List.set_cons_zero, List.set_cons_succ]
      refine anyL_takeS 7 (some 21) (v := ?_) rfl rfl (by decide) (by kernel_rfl) (fun _ _ _ h => h) HH1 (Or.inl ⟨by rfl, ?_⟩) ?_
      rotate_left
      · (intro w' hSw; obtain ⟨⟨q0, q1, q2, q3⟩, z1, z2⟩ := hSw; go_simp; try with_reducible rfl)
      try simp only [Act.put, List.setIfInBounds_toArray, List.set_cons_zero, List.set_cons_succ]
      refine anyL_takeS 10 (some 24) (v := ?_) rfl rfl (by decide) (by kernel_rfl) (fun _ _ _ h => h) HH1 (Or.inl ⟨by rfl, ?_⟩) ?_
      rotate_left
      · (intro w' hSw; clear hSw; go_simp; try with_reducible rfl)
      try simp only [Act.put, List.setIfInBounds_toArray, List.set_cons_zero, List.set_cons_succ]
      refine anyL_takeS 11 (some 25) (v := ?_) rfl rfl (by decide) (by kernel_rfl) (fun _ _ _ h => h) HH1 (Or.inl ⟨by rfl, ?_⟩) ?_
      rotate_left
      · (intro w' hSw; clear hSw; go_simp; try with_reducible rfl)
      try simp only [Act.put, List.setIfInBounds_toArray, List.set_cons_zero, List.set_cons_succ]
      refine anyL_takeS 12 (some 26) (v := ?_) rfl rfl (by decide) (by kernel_rfl) (fun _ _ _ h => h) HH1 (Or.inl ⟨by rfl, ?_⟩) ?_
      rotate_left
      · (intro w' hSw; clear hSw; go_simp; try with_reducible rfl)
      try simp only [Act.put, List.setIfInBounds_toArray, List.set_cons_zero, List.set_cons_succ]
      refine anyL_takeS 13 (some 27) (v := ?_) rfl rfl (by decide) (by kernel_rfl) (fun _ _ _ h => h) HH1 (Or.inl ⟨by rfl, ?_⟩) ?_
      rotate_left
      · (intro w' hSw; obtain ⟨⟨q0, q1, q2, q3⟩, z1, z2⟩ := hSw; go_simp; try with_reducible rfl)
      try simp only [Act.put, List.setIfInBounds_toArray, List.set_cons_zero, List.set_cons_succ]
      refine anyL_takeS 14 (some 28) (v := ?_) rfl rfl (by decide) (by kernel_rfl) (fun _ _ _ h => h) HH1 (Or.inl ⟨by rfl, ?_⟩) ?_
      rotate_left
      · (intro w' hSw; clear hSw; go_simp; try with_reducible rfl)
      try simp only [Act.put, List.setIfInBounds_toArray, List.set_cons_zero, List.set_cons_succ]
      refine anyL_takeS 15 (some 29) (v := ?_) rfl rfl (by decide) (by kernel_rfl) (fun _ _ _ h => h) HH1 (Or.inl ⟨by rfl, ?_⟩) ?_
      rotate_left
      · (intro w' hSw; obtain ⟨⟨q0, q1, q2, q3⟩, z1, z2⟩ := hSw; go_simp; try with_reducible rfl)
      try simp only [Act.put, List.setIfInBounds_toArray, List.set_cons_zero, List.set_cons_succ]
      refine anyL_two (i := 8) (i' := 16) (by kernel_rfl) rfl rfl (fun K hK => ?A) (fun K hK => ?B)
      case' A =>
        go_simp
        have m1 := (M1.out.alloc (.cells #[.int .u16 (kVol e.1 : Int), .int .u32 (kBlk e.1 : Int), .int .u64 (kSeq e.1 : Int)] 27)).drew
        have p1 : RowE encK 3 (wx.alloc (.cells #[.int .u16 (kVol e.1 : Int), .int .u32 (kBlk e.1 : Int), .int .u64 (kSeq e.1 : Int)] 27)).drew (some ⟨wx.heap.size, 0, none⟩) 1 [e.1] := RowE.new (enc := encK) wx e.1 27
        have hs1 : wx.heap.size < (wx.alloc (.cells #[.int .u16 (kVol e.1 : Int), .int .u32 (kBlk e.1 : Int), .int .u64 (kSeq e.1 : Int)] 27)).drew.heap.size := by (show wx.heap.size < (World.alloc _ _).heap.size; rw [World.alloc_size]; omega)
        refine hK.out _ _ m1.lateH ?_
        clear hK K HH1
        generalize (wx.alloc (.cells #[.int .u16 (kVol e.1 : Int), .int .u32 (kBlk e.1 : Int), .int .u64 (kSeq e.1 : Int)] 27)).drew = W1 at *
        have hkb := fun g h => hle.out g h
        generalize wx.heap.size = kb at *
        refine anyL_two (i := 9) (i' := 16) (by kernel_rfl) rfl rfl (fun K hK => ?A1) (fun K hK => ?A2)
      case' A1 =>
        refine step_appK (v := .slice ka0 kn0 kc0) (o := ⟨some 23, _, _, _, _, _⟩) rfl _ _ rfl rfl rfl m1 p1 hkl ?_
        intro kv1 W2 m2 hg1
        obtain ⟨ka1, kn1, kc1, rfl⟩ := m2.k.form
        try simp only [Act.put, List.setIfInBounds_toArray, List.set_cons_zero, List.set_cons_succ]
        have m3 := m2.alloc (.cells #[.int .u32 (e.2 : Int)] 24)
        have q3 : RowE encA 1 (W2.alloc (.cells #[.int .u32 (e.2 : Int)] 24)) (some ⟨W2.heap.size, 0, none⟩) 1 [e.2] := RowE.new (enc := encA) W2 e.2 24
        refine hK.out _ _ m2.lateH ?_
        clear hK K
        refine anyL_one (i := 16) (by kernel_rfl) rfl (fun K hK => ?_)
        go_simp
        refine hK.out _ _ m3.lateH ?_
        clear hK K m1 p1 hs1 m2 hg1
        generalize W2.alloc (.cells #[.int .u32 (e.2 : Int)] 24) = W3 at *
        generalize W2.heap.size = ub at *
      case' A2 =>
        go_simp
        have m0 := m1.alloc (.cells #[.int .u32 (e.2 : Int)] 24)
        have p2 := p1.alloc (.cells #[.int .u32 (e.2 : Int)] 24)
        have q2 : RowE encA 1 (W1.alloc (.cells #[.int .u32 (e.2 : Int)] 24)) (some ⟨W1.heap.size, 0, none⟩) 1 [e.2] := RowE.new (enc := encA) W1 e.2 24
        have hs2 : W1.heap.size < (W1.alloc (.cells #[.int .u32 (e.2 : Int)] 24)).heap.size := by (rw [World.alloc_size]; omega)
        have hub : ∀ g, (Value.slice ka0 kn0 kc0).ownBlock = some g → g < W1.heap.size := fun g h => (m1.k.lt g h).2
        refine hK.out _ _ m0.lateH ?_
        clear hK K
        generalize W1.alloc (.cells #[.int .u32 (e.2 : Int)] 24) = W0 at *
        generalize W1.heap.size = ub at *
        refine anyL_one (i := 9) (by kernel_rfl) rfl (fun K hK => ?_)
        refine step_appK (v := .slice ka0 kn0 kc0) (o := ⟨some 23, _, _, _, _, _⟩) rfl _ _ rfl rfl rfl m0 p2 hkl ?_
        intro kv1 W2 m2 hg1
        obtain ⟨ka1, kn1, kc1, rfl⟩ := m2.k.form
        try simp only [Act.put, List.setIfInBounds_toArray, List.set_cons_zero, List.set_cons_succ]
        have q3 := q2.apartG hg1 hs2 (fun h => by have := hub _ h.symm; omega)
        have m3 := m2
        refine hK.out _ _ m2.lateH ?_
        clear hK K m1 p1 hs1 m2 m0 p2 q2 hs2 hub hg1
        generalize W2 = W3 at *
      case' B =>
        go_simp
        have m1 := (M1.out.alloc (.cells #[.int .u32 (e.2 : Int)] 24)).drew
        have q1 : RowE encA 1 (wx.alloc (.cells #[.int .u32 (e.2 : Int)] 24)).drew (some ⟨wx.heap.size, 0, none⟩) 1 [e.2] := RowE.new (enc := encA) wx e.2 24
        have hs1 : wx.heap.size < (wx.alloc (.cells #[.int .u32 (e.2 : Int)] 24)).drew.heap.size := by (show wx.heap.size < (World.alloc _ _).heap.size; rw [World.alloc_size]; omega)
        refine hK.out _ _ m1.lateH ?_
        clear hK K HH1
        generalize (wx.alloc (.cells #[.int .u32 (e.2 : Int)] 24)).drew = W1 at *
        have hkb := fun g h => hle.out g h
        generalize wx.heap.size = ub at *
        refine anyL_one (i := 8) (by kernel_rfl) rfl (fun K hK => ?_)
        go_simp
        have m0 := m1.alloc (.cells #[.int .u16 (kVol e.1 : Int), .int .u32 (kBlk e.1 : Int), .int .u64 (kSeq e.1 : Int)] 27)
        have q2 := q1.alloc (.cells #[.int .u16 (kVol e.1 : Int), .int .u32 (kBlk e.1 : Int), .int .u64 (kSeq e.1 : Int)] 27)
        have p2 : RowE encK 3 (W1.alloc (.cells #[.int .u16 (kVol e.1 : Int), .int .u32 (kBlk e.1 : Int), .int .u64 (kSeq e.1 : Int)] 27)) (some ⟨W1.heap.size, 0, none⟩) 1 [e.1] := RowE.new (enc := encK) W1 e.1 27
        have hs2 : ub < (W1.alloc (.cells #[.int .u16 (kVol e.1 : Int), .int .u32 (kBlk e.1 : Int), .int .u64 (kSeq e.1 : Int)] 27)).heap.size := by (rw [World.alloc_size]; omega)
        refine hK.out _ _ m0.lateH ?_
        clear hK K
        generalize W1.alloc (.cells #[.int .u16 (kVol e.1 : Int), .int .u32 (kBlk e.1 : Int), .int .u64 (kSeq e.1 : Int)] 27) = W0 at *
        generalize W1.heap.size = kb at *
        refine anyL_one (i := 9) (by kernel_rfl) rfl (fun K hK => ?_)
        refine step_appK (v := .slice ka0 kn0 kc0) (o := ⟨some 23, _, _, _, _, _⟩) rfl _ _ rfl rfl rfl m0 p2 hkl ?_
        intro kv1 W2 m2 hg1
        obtain ⟨ka1, kn1, kc1, rfl⟩ := m2.k.form
        try simp only [Act.put, List.setIfInBounds_toArray, List.set_cons_zero, List.set_cons_succ]
        have q3 := q2.apartG hg1 hs2 (fun h => by have := hkb _ h.symm; omega)
        have m3 := m2
        refine hK.out _ _ m2.lateH ?_
        clear hK K m1 q1 hs1 m2 m0 p2 q2 hs2 hg1
        generalize W2 = W3 at *
      all_goals
        clear hkb M1 hle
        refine anyL_one (i := 17) (by kernel_rfl) rfl (fun K hK => ?_)
        refine step_appV (v := .slice va0 vn0 vc0) (o := ⟨some 31, _, _, _, _, _⟩) rfl _ _ rfl rfl rfl m3 q3 hlv ?_
        intro vv1 W4 m4 hg2
        obtain ⟨va1, vn1, vc1, rfl⟩ := m4.v.form
        try simp only [Act.put, List.setIfInBounds_toArray, List.set_cons_zero, List.set_cons_succ]
        refine hK.out _ _ m4.lateH ?_
        clear hK K m3 q3 hg2
        have HH1 := m4.late
        refine anyL_takeS 18 (some 32) (v := ?_) rfl rfl (by decide) (by kernel_rfl) (fun _ _ _ h => h) HH1 (Or.inl ⟨by rfl, ?_⟩) ?_
        rotate_left
        · (intro w' hSw; clear hSw; go_simp; try with_reducible rfl)
        try simp only [Act.put, List.setIfInBounds_toArray, List.set_cons_zero, List.set_cons_succ]
        refine anyL_takeS 19 (some 33) (v := ?_) rfl rfl (by decide) (by kernel_rfl) (fun _ _ _ h => h) HH1 (Or.inl ⟨by rfl, ?_⟩) ?_
        rotate_left
        · (intro w' hSw; clear hSw; go_simp; try with_reducible rfl)
        try simp only [Act.put, List.setIfInBounds_toArray, List.set_cons_zero, List.set_cons_succ]
        obtain ⟨y1, y2, y3, y4⟩ := m4.node
        have hs4 := four_set (p := B) (i := 1) (x := .slice ka1 kn1 kc1) hneb HH1.1
        have hs5 := four_set (p := B) (i := 2) (x := .slice va1 vn1 vc1) hneb hs4
        have HS4 : leafS0 eb _ _ _ _ _ := hs4
        have HS5 : leafS0 eb _ _ _ _ _ := hs5
        clear hs4 hs5 HH1
        refine anyL_one (i := 20) (by kernel_rfl) rfl (fun K hK => ?_)
        go_simp
        refine hK.out _ _ ⟨HS4, fun h => absurd h (by decide)⟩ ?_
        clear hK K
        have HH1 := And.intro HS4 True.intro
        refine anyL_takeL 21 (some 34) (v := ?_) rfl rfl (by decide) (by kernel_rfl) (fun _ _ _ h => h) HH1.1 (Or.inl ⟨by rfl, ?_⟩) ?_
        rotate_left
        · (intro w' hSw; clear hSw; go_simp; try with_reducible rfl)
        try simp only [Act.put, List.setIfInBounds_toArray, List.set_cons_zero, List.set_cons_succ]
        refine anyL_takeL 22 (some 35) (v := ?_) rfl rfl (by decide) (by kernel_rfl) (fun _ _ _ h => h) HH1.1 (Or.inl ⟨by rfl, ?_⟩) ?_
        rotate_left
        · (intro w' hSw; clear hSw; go_simp; try with_reducible rfl)
        try simp only [Act.put, List.setIfInBounds_toArray, List.set_cons_zero, List.set_cons_succ]
        refine anyL_one (i := 23) (by kernel_rfl) rfl (fun K hK => ?_)
        go_simp
        refine hK.out _ _ ⟨HS5, fun h => absurd h (by decide)⟩ ?_
        clear hK K HH1 HS4 HS5
        refine anyL_done (by kernel_rfl) ?_ _
        go_wp2_with fail
        have hf := m4.to (.slice ka1 kn1 kc1) (.slice va1 vn1 vc1)
        go_roundw
        case rel => exact ⟨i + 1, .slice ka1 kn1 kc1, .slice va1 vn1 vc1, by omega, by go_num, by rw [HTS.out, List.map_append, List.map_append]; exact hf⟩
        case measure => simp [intOf]; omega
    · obtain rfl : i = n := by omega
      rw [List.take_of_length_le (by omega)] at m
      have hd := leafS_done m (fun j => B ≤ j ∧ j < wr.heap.size) (fun j h1 h2 => ⟨h1, h2⟩)
      have HD := Lib.hid (And.intro hd m.below)
      clear hd m
      go_wp2_with fail
      go_ret
      exact ⟨B, rfl, by rw [hB]; exact HD.out.1, by rw [hB]; exact HD.out.2⟩
end Go.Proofs.YtejhbaeeaejcaaaGreat
/- The walk of node.Inner: an inner node made of children. Conditions: those of each theorem. -/
namespace Go.Proofs.YtejhbaeeaejcaaaGreat
open Go.RowKit

theorem head_map {α β : Type} (l : List α) (f : α → β) (d : β) (h : 0 < l.length) : (l.map f)[0]? = some ((l.head?.map f).getD d) := by
  cases l with
  | nil => simp at h
  | cons x l => rfl
theorem first_keys : {d : Nat} → (t : Tr d) → 0 < lenT t → (keysT t)[0]? = some (firstT t)
  | 0, t, h => head_map (rowT t) (·.1) 0 h
  | _ + 1, t, h => head_map (kidsT t) firstT 0 h

/-- An inner node that is being made. -/
structure InnerS (B p : Nat) (P0 : Obj) (w0 : World) (kv : Value) (ks : List Nat) (cv : Value) (ps : List Nat) (W : World) : Prop where
  k : OwnE encK 3 27 W (p + 1) kv ks
  c : OwnE encP 1 91 W B cv ps
  cp : ∀ g, cv.ownBlock = some g → g < p
  hp : W.heap[p]? = some P0
  Bp : B ≤ p
  below : Below B w0 W
section
variable {B p : Nat} {P0 : Obj} {w0 : World} {kv cv : Value} {ks ps : List Nat} {W : World}
theorem InnerS.lt (m : InnerS B p P0 w0 kv ks cv ps W) : p < W.heap.size := (Array.getElem?_eq_some_iff.1 m.hp).1
theorem InnerS.alloc (m : InnerS B p P0 w0 kv ks cv ps W) (o : Obj) : InnerS B p P0 w0 kv ks cv ps (W.alloc o) :=
  ⟨m.k.alloc o, m.c.alloc o, m.cp, by rw [Below.heap_alloc _ _ _ m.lt]; exact m.hp, m.Bp, m.below.alloc (by have := m.lt; have := m.Bp; omega) o⟩
theorem InnerS.drew (m : InnerS B p P0 w0 kv ks cv ps W) : InnerS B p P0 w0 kv ks cv ps W.drew := ⟨m.k, m.c, m.cp, m.hp, m.Bp, m.below.drew⟩
theorem InnerS.app (m : InnerS B p P0 w0 kv ks cv ps W) {b k : Nat} (hs : RowE encK 3 W (some ⟨b, 0, none⟩) 1 [k]) (hl : ks.length ≤ 100000000) :
    ∃ v' w', (∀ ty, (Builtin.append_ #[134, 134] ty #[kv, .slice (some ⟨b, 0, none⟩) 1 1]).run Tryz.prog W = .ok v' w') ∧ InnerS B p P0 w0 v' (ks ++ [k]) cv ps w' ∧ W.grownBy w' kv.ownBlock := by
  obtain ⟨i0, hi, hz0, hz1, hz2⟩ := info_cut infoKey
  have hlt := m.lt
  have hBp := m.Bp
  have hkl := m.k.lt
  obtain ⟨v', w', hr, ho, hg, -, hat⟩ := run_append_own_at (P := Tryz.prog) W (p + 1) 134 134 27 i0 _ 3 16 Tryz.underlying134 hi hz0 hz1 hz2 rfl (by decide) kv ks.length _ m.k ⟨b, 0, none⟩ 1 1 (cellsE encK [k]) rfl (RowE.cells encK_len (by decide) hs) (fun u hu => by
    obtain ⟨x, -, hx⟩ := List.mem_flatMap.1 hu
    exact encK_one x u hx) (by unfold maxLen; omega) (by omega) (by omega)
  refine ⟨v', w', fun ty => hr, ⟨?_, m.c.kept hg ?_, m.cp, ?_, m.Bp, m.below.grown hg (by omega) (fun j hj => by have := (hkl j hj).1; omega)⟩, hg⟩
  · unfold OwnE
    rw [cellsE_app, List.length_append]
    exact ho
  · cases hvo : cv.ownBlock with
    | none => exact .inl rfl
    | some g => exact .inr fun e => by have := m.cp g hvo; have := (hkl g e.symm).1; omega
  · rw [hg.block p hlt (fun e => by have := (hkl p e.symm).1; omega)]; exact m.hp
theorem step_appI {ops : Array Oper} {o : Oper} {a : Act} {K : Act → World → Prop} {Q : Exit → Act → World → Prop} {E : Prop} {v : Value} (hg : o.guard = none) (d x : Operand) (hop : o.op = Op.call { callee := Callee.builtin Builtin.append, args := #[d, x], argTypes := #[134, 134] })
    {b k : Nat} (hd : a.eval d = v) (hx : a.eval x = .slice (some ⟨b, 0, none⟩) 1 1) (m : InnerS B p P0 w0 v ks cv ps W) (hs : RowE encK 3 W (some ⟨b, 0, none⟩) 1 [k]) (hl : ks.length ≤ 100000000)
    (h : ∀ v' w', InnerS B p P0 w0 v' (ks ++ [k]) cv ps w' → W.grownBy w' v.ownBlock → K (a.put o.dst v') w') :
    if Region.wanted o (yielded ops a.tmps) = true then Oper.wp Tryz.prog o a W K Q else E := by
  obtain ⟨v', w', hr, m', hg'⟩ := m.app hs hl
  exact step_append_runK hg d x _ _ hop _ _ hd hx (hr _) (h v' w' m' hg')
end
def innerObj (kv cv : Value) : Obj := .cells #[.bool false, kv, .slice none 0 0, cv, .int .u32 0] 136
theorem InnerS.node {B p : Nat} {x cv' : Value} {w0 : World} {kv cv : Value} {ks ps : List Nat} {W : World} (m : InnerS B p (.cells #[.bool false, x, .slice none 0 0, cv', .int .u32 0] 136) w0 kv ks cv ps W) :
    W.cell? ⟨p, 1, none⟩ = some x ∧ W.frozen? ⟨p, 1, none⟩ = false := by
  have h1 := m.hp
  refine ⟨?_, ?_⟩ <;> simp [World.cell?, World.frozen?, h1]
theorem InnerS.to {B p : Nat} {kv' cv' : Value} {w0 : World} {kv cv : Value} {ks ps : List Nat} {W : World} (m : InnerS B p (.cells #[.bool false, kv', .slice none 0 0, cv', .int .u32 0] 136) w0 kv ks cv ps W) (x : Value) :
    InnerS B p (.cells #[.bool false, x, .slice none 0 0, cv', .int .u32 0] 136) w0 kv ks cv ps (W.setCell ⟨p, 1, none⟩ x) := by
  have h1 := heap_setCell_same W p 1 _ _ x m.hp
  have hsz : (W.setCell ⟨p, 1, none⟩ x).heap.size = W.heap.size := by simp
  have hg : W.grownBy (W.setCell ⟨p, 1, none⟩ x) (some p) := ⟨rfl, rfl, rfl, by rw [hsz]; exact Nat.le_refl _, fun j hj hne => by
    rw [heap_setCell_other _ _ j _ (fun e => hne (by rw [e]))]⟩
  have hkl := m.k.lt
  have hBp := m.Bp
  have hlt := m.lt
  refine ⟨m.k.kept hg (.inr fun e => by have := (hkl p e).1; omega), m.c.kept hg (.inr fun e => by have := m.cp p e; omega), m.cp, h1, m.Bp, m.below.grown hg (by omega) (fun j hj => by cases hj; exact hBp)⟩
theorem innerS_done {S : Nat → Prop} {d B p : Nat} {w0 w : World} {kv cv : Value} {ps : List Nat} {ks : List (Tr d)} (m : InnerS B p (innerObj kv cv) w0 kv (ks.map firstT) cv ps w) (hps : ps.length = ks.length)
    (hN : ∀ (i q : Nat) (k : Tr d), ps[i]? = some q → ks[i]? = some k → NodeW w0 S q k) (hS : ∀ j, S j → j < B) : NodeW w (fun j => S j ∨ (B ≤ j ∧ j < w.heap.size)) p (mkT ks) := by
  obtain ⟨ka, kc, rfl, hk, -, hk0⟩ := m.k.row encK_len
  obtain ⟨ca, cc, rfl, hc, -, hc0⟩ := m.c.row encP_len
  have hlt := m.lt
  have hBp := m.Bp
  have hkt : keysT (mkT ks) = ks.map firstT := rfl
  rw [List.length_map] at hk
  refine ⟨ka, kc, ca, cc, ps, ⟨⟨.int .u32 0, ?_⟩, .inr ⟨hBp, hlt⟩, fun b o e => ?_, (fun b o e => by cases e), fun b o e => ?_⟩, hk.keys, ?_, hps, fun i q k hq hk => ?_⟩
  · have := m.hp
    unfold innerObj at this
    rw [List.length_map, hps] at this
    exact this
  · obtain ⟨h1, h2⟩ := hk0 b o e
    subst h2; subst e
    have := m.k.lt b rfl
    exact .inr ⟨by omega, this.2⟩
  · obtain ⟨h1, h2⟩ := hc0 b o e
    subst h2; subst e
    have := m.c.lt b rfl
    exact .inr ⟨h1, this.2⟩
  · rw [kids_mk, ← hps]
    exact hc.ptrs
  · exact ((hN i q k hq hk).same (Same.of_below m.below hS)).more (fun j hj => .inl hj)

set_option maxRecDepth 100000 in
set_option maxHeartbeats 8000000 in
theorem inner_any {S : Nat → Prop} {d : Nat} {w : World} {b0 o0 n c : Nat} {ps : List Nat} {ks : List (Tr d)} (h : RowE encP 1 w (some ⟨b0, o0, none⟩) n ps) (hn : n ≤ 1000) (hps : ps.length = ks.length)
    (hN : ∀ (i q : Nat) (k : Tr d), ps[i]? = some q → ks[i]? = some k → NodeW w S q k) (h0 : ∀ k ∈ ks, 0 < lenT k) (hS : ∀ j, S j → j < w.heap.size) :
    Calls Tryz.prog 73 #[.slice (some ⟨b0, o0, none⟩) n c] w fun r w' => ∃ p, r = .returned (ptrV p) ∧ NodeW w' (fun j => S j ∨ (w.heap.size ≤ j ∧ j < w'.heap.size)) p (mkT ks) ∧ Below w.heap.size w w' := by
  have hlen := h.1
  have HH := Lib.hid h
  have HN := Lib.hid hN
  have HC := Lib.hid (cloneP_any (c := c) h hn)
  clear h hN
  unfold ptrV
  go_enter Tryz.func73, Tryz.ntmps73
  go_wp2_with fail
  refine HC.out.mono ?_
  rintro e w1 ⟨cv, rfl, hcv, hb1⟩
  obtain ⟨ca, cn, cc, rfl⟩ := hcv.form
  have hcl := hcv.lt
  have m0 : InnerS w.heap.size w1.heap.size (innerObj (.slice none 0 0) (.slice ca cn cc)) w (.slice none 0 0) [] (.slice ca cn cc) ps (w1.alloc (innerObj (.slice none 0 0) (.slice ca cn cc))) :=
    ⟨World.ownsRow_nil _ _ _ _, hcv.alloc _, fun g hg => (hcl g hg).2, heap_alloc_new w1 _, hb1.size, hb1.alloc hb1.size _⟩
  have HM0 := Lib.hid m0
  unfold innerObj at HM0
  clear m0 hcv hcl HC
  go_wp2_with fail
  generalize w1.alloc (.cells #[.bool false, .slice none 0 0, .slice none 0 0, .slice ca cn cc, .int .u32 0] 136) = w2 at *
  generalize hp : w1.heap.size = p at *
  generalize hB : w.heap.size = B at *
  go_loopw [12] (fun u12 wr => ∃ i : Nat, ∃ kv : Value, i ≤ n ∧ u12 = .int .i64 i ∧ InnerS B p (innerObj kv (.slice ca cn cc)) w kv ((ks.take i).map firstT) (.slice ca cn cc) ps wr) (fun u12 _ => n - (intOf u12).toNat)
  case atStart => exact ⟨0, .slice none 0 0, by omega, rfl, HM0.out⟩
  case round =>
    obtain ⟨i, kv, hi, rfl, m⟩ := hrel
    obtain ⟨ka0, kn0, kc0, rfl⟩ := m.k.form
    by_cases hlt : i < n
    · have hi1 : (i : Int) < (n : Int) := by omega
      obtain ⟨q, hq⟩ : ∃ q, ps[i]? = some q := ⟨_, List.getElem?_eq_getElem (by omega)⟩
      obtain ⟨k, hk⟩ : ∃ k, ks[i]? = some k := ⟨_, List.getElem?_eq_getElem (by omega)⟩
      have hrow := HH.out.below m.below (by omega)
      obtain ⟨b', o', hbo, hc⟩ := hrow.ptr i q hq
      simp only [Option.some.injEq, Addr.mk.injEq, and_true] at hbo
      obtain ⟨rfl, rfl⟩ := hbo
      unfold ptrV at hc
      have hNk := (HN.out i q k hq hk).same (Same.of_below m.below hS)
      have hk0 := h0 k (List.mem_of_getElem? hk)
      obtain ⟨ka, kc, va, vn, vc, ca', cn', cc', hbx, hkr⟩ := hNk.box
      obtain ⟨-, x1, -, -, hqs⟩ := hbx.reads
      obtain ⟨kb, ko, fk, rfl, hfk, z0, z1, z2⟩ := hkr.list 0 hk0
      rw [first_keys k hk0] at hfk
      obtain rfl : firstT k = fk := Option.some.inj hfk
      have hk1 : (0 : Int) < (lenT k : Int) := by omega
      have hts : (ks.take (i + 1)).map firstT = (ks.take i).map firstT ++ [firstT k] := by rw [List.take_add_one, hk, List.map_append]; rfl
      have HTS := Lib.hid hts
      have hll : ((ks.take i).map firstT).length ≤ 1000 := by rw [List.length_map, List.length_take]; omega
      have hqB : S q := hbx.self
      have hqp : q ≠ p := fun e => by have := hS q hqB; have := m.Bp; omega
      have hkp : kb ≠ p := fun e => by have := hS kb (hbx.keys kb ko rfl); have := m.Bp; omega
      simp only [Nat.zero_mul, Nat.add_zero] at z0 z1 z2
      have hkS : ∀ W, Below B w W → W.cell? ⟨q, 1, none⟩ = some (.slice (some ⟨kb, ko, none⟩) (lenT k) kc) ∧ W.cell? ⟨kb, ko, none⟩ = some (.int .u16 (kVol (firstT k) : Int)) ∧ W.cell? ⟨kb, ko + 1, none⟩ = some (.int .u32 (kBlk (firstT k) : Int)) ∧ W.cell? ⟨kb, ko + 2, none⟩ = some (.int .u64 (kSeq (firstT k) : Int)) := fun W hW => by
        have hs : Same S wr W := fun j hj => (hW.block j (hS j hj)).trans (m.below.block j (hS j hj)).symm
        have hkb := hbx.keys kb ko rfl
        exact ⟨(cell_same hs hqB _).trans x1, (cell_same hs hkb _).trans z0, (cell_same hs hkb _).trans z1, (cell_same hs hkb _).trans z2⟩
      have HKS := Lib.hid hkS
      have hS0 := hkS wr m.below
      have m1 := m.drew
      unfold innerObj at m1
      have mK := (m1.alloc (.cells #[.int .u16 (kVol (firstT k) : Int), .int .u32 (kBlk (firstT k) : Int), .int .u64 (kSeq (firstT k) : Int)] 27))
      have mK' : InnerS B p (.cells #[.bool false, .slice ka0 kn0 kc0, .slice none 0 0, .slice ca cn cc, .int .u32 0] 136) w (.slice ka0 kn0 kc0) ((ks.take i).map firstT) (.slice ca cn cc) ps (wr.alloc (.cells #[.int .u16 (kVol (firstT k) : Int), .int .u32 (kBlk (firstT k) : Int), .int .u64 (kSeq (firstT k) : Int)] 27)).drew := mK
      have pK : RowE encK 3 (wr.alloc (.cells #[.int .u16 (kVol (firstT k) : Int), .int .u32 (kBlk (firstT k) : Int), .int .u64 (kSeq (firstT k) : Int)] 27)).drew (some ⟨wr.heap.size, 0, none⟩) 1 [firstT k] := RowE.new (enc := encK) wr (firstT k) 27
      obtain ⟨y1, y2⟩ := m1.node
      obtain ⟨yK1, yK2⟩ := mK'.node
      clear mK m hts hrow hNk hbx hkr hfk hqB hkS x1 z0 z1 z2 hq hk
      generalize firstT k = fk at *
      generalize lenT k = lk at *
      go_wp2_with fail
      obtain ⟨l0, l1, l2, l3⟩ := hS0
      obtain ⟨b0, b1, b2, b3⟩ := HKS.out _ mK'.below
      go_region_law
        (first
          | (refine step_appI (v := .slice ka0 kn0 kc0) (o := ⟨some 28, _, _, _, _, _⟩) rfl _ _ rfl rfl rfl (by with_reducible exact mK') (by with_reducible exact pK) (by omega) ?_; intro kv' W1 mN hg1; obtain ⟨ka1, kn1, kc1, rfl⟩ := mN.k.form; obtain ⟨yN1, yN2⟩ := mN.node))
      all_goals
        go_wp2_with fail
        have hf := mN.to (.slice ka1 kn1 kc1)
        go_roundw
        case rel => exact ⟨i + 1, .slice ka1 kn1 kc1, by omega, by go_num, by rw [HTS.out]; exact hf⟩
        case measure => simp [intOf]; omega
    · obtain rfl : i = n := by omega
      rw [List.take_of_length_le (by omega)] at m
      have hd := innerS_done m hps HN.out hS
      have HD := Lib.hid (And.intro hd m.below)
      clear hd m
      go_wp2_with fail
      go_ret
      exact ⟨p, rfl, by rw [hB]; exact HD.out.1, by rw [hB]; exact HD.out.2⟩
end Go.Proofs.YtejhbaeeaejcaaaGreat
/- The walks of node.halves, Leaves and Inners. Conditions: those of each theorem. -/
namespace Go.Proofs.YtejhbaeeaejcaaaGreat
open Go.RowKit

/-- Pointers to nodes, one for each tree. -/
def KidsW {d : Nat} (w : World) (S : Nat → Prop) (ps : List Nat) (ks : List (Tr d)) : Prop := ps.length = ks.length ∧ ∀ (i q : Nat) (k : Tr d), ps[i]? = some q → ks[i]? = some k → NodeW w S q k
theorem KidsW.one {d : Nat} {w : World} {S : Nat → Prop} {p : Nat} {t : Tr d} (h : NodeW w S p t) : KidsW w S [p] [t] := ⟨rfl, fun i q k hq hk => by
  have hi : i < 1 := by simpa using (List.getElem?_eq_some_iff.1 hq).1
  obtain rfl : i = 0 := by omega
  simp at hq hk
  subst hq; subst hk
  exact h⟩
theorem KidsW.two {d : Nat} {w : World} {S : Nat → Prop} {p p' : Nat} {t t' : Tr d} (h : NodeW w S p t) (h' : NodeW w S p' t') : KidsW w S [p, p'] [t, t'] := ⟨rfl, fun i q k hq hk => by
  have hi : i < 2 := by simpa using (List.getElem?_eq_some_iff.1 hq).1
  cases i with
  | zero => simp at hq hk; subst hq; subst hk; exact h
  | succ i =>
    obtain rfl : i = 0 := by omega
    simp at hq hk
    subst hq; subst hk
    exact h'⟩
theorem KidsW.more {d : Nat} {w : World} {S S' : Nat → Prop} {ps : List Nat} {ks : List (Tr d)} (h : KidsW w S ps ks) (hs : ∀ j, S j → S' j) : KidsW w S' ps ks := ⟨h.1, fun i q k hq hk => (h.2 i q k hq hk).more hs⟩
theorem KidsW.same {d : Nat} {w w' : World} {S : Nat → Prop} {ps : List Nat} {ks : List (Tr d)} (h : KidsW w S ps ks) (hs : Same S w w') : KidsW w' S ps ks := ⟨h.1, fun i q k hq hk => (h.2 i q k hq hk).same hs⟩
theorem KidsW.take {d : Nat} {w : World} {S : Nat → Prop} {ps : List Nat} {ks : List (Tr d)} (h : KidsW w S ps ks) (n : Nat) : KidsW w S (ps.take n) (ks.take n) := ⟨by rw [List.length_take, List.length_take, h.1], fun i q k hq hk => by
  have hi : i < n := by
    have := (List.getElem?_eq_some_iff.1 hq).1
    rw [List.length_take] at this; omega
  rw [List.getElem?_take_of_lt hi] at hq hk
  exact h.2 i q k hq hk⟩
theorem KidsW.drop {d : Nat} {w : World} {S : Nat → Prop} {ps : List Nat} {ks : List (Tr d)} (h : KidsW w S ps ks) (n : Nat) : KidsW w S (ps.drop n) (ks.drop n) := ⟨by rw [List.length_drop, List.length_drop, h.1], fun i q k hq hk => by
  rw [List.getElem?_drop] at hq hk
  exact h.2 _ q k hq hk⟩
theorem KidsW.app {d : Nat} {w : World} {S : Nat → Prop} {ps ps' : List Nat} {ks ks' : List (Tr d)} (h : KidsW w S ps ks) (h' : KidsW w S ps' ks') : KidsW w S (ps ++ ps') (ks ++ ks') := ⟨by rw [List.length_append, List.length_append, h.1, h'.1], fun i q k hq hk => by
  by_cases hi : i < ps.length
  · rw [List.getElem?_append_left hi] at hq
    rw [List.getElem?_append_left (by rw [← h.1]; exact hi)] at hk
    exact h.2 i q k hq hk
  · rw [List.getElem?_append_right (by omega)] at hq
    rw [List.getElem?_append_right (by rw [← h.1]; omega), ← h.1] at hk
    exact h'.2 _ q k hq hk⟩

theorem own_one (w : World) (B p : Nat) (hB : B ≤ w.heap.size) : OwnE encP 1 91 (w.alloc (.cells #[.pointer (some ⟨p, 0, none⟩)] 91)) B (.slice (some ⟨w.heap.size, 0, none⟩) 1 1) [p] := by
  refine ⟨rfl, .inr ⟨w.heap.size, 1, #[.pointer (some ⟨p, 0, none⟩)], rfl, hB, heap_alloc_new w _, Nat.le_refl _, by decide, rfl, rfl⟩⟩
theorem own_two (w : World) (B p q : Nat) (hB : B ≤ w.heap.size) : OwnE encP 1 91 (w.alloc (.cells #[.pointer (some ⟨p, 0, none⟩), .pointer (some ⟨q, 0, none⟩)] 91)) B (.slice (some ⟨w.heap.size, 0, none⟩) 2 2) [p, q] := by
  refine ⟨rfl, .inr ⟨w.heap.size, 2, #[.pointer (some ⟨p, 0, none⟩), .pointer (some ⟨q, 0, none⟩)], rfl, hB, heap_alloc_new w _, Nat.le_refl _, by decide, rfl, rfl⟩⟩

set_option maxRecDepth 100000 in
set_option maxHeartbeats 4000000 in
theorem halvesE_any (w : World) (b o n c : Nat) (h0 : 0 < n) (hc : n ≤ c) (hn : n ≤ 1000) :
    Calls Tryz.prog 94 #[.slice (some ⟨b, o, none⟩) n c] w fun r w' => r = .returned (.tuple #[.slice (some ⟨b, o, none⟩) (n / 2) c, .slice (some ⟨b, o + n / 2 * 4, none⟩) (n - n / 2) (c - n / 2)]) ∧ Below w.heap.size w w' := by
  have hx : (n : Int) / 2 = ((n / 2 : Nat) : Int) := by omega
  have h1 : n / 2 ≤ c := by omega
  have h2 : n / 2 ≤ n := by omega
  have h3 : ¬ c = n / 2 := by omega
  generalize n / 2 = m at *
  go_enter Tryz.func94, Tryz.ntmps94
  go_wp2_with fail
  go_region
  all_goals
    go_wp2_with fail
    go_ret2
    exact ⟨rfl, (Below.refl _ _).drew⟩
set_option maxRecDepth 100000 in
set_option maxHeartbeats 4000000 in
theorem halvesP_any (w : World) (b o n c : Nat) (h0 : 0 < n) (hc : n ≤ c) (hn : n ≤ 1000) :
    Calls Tryz.prog 95 #[.slice (some ⟨b, o, none⟩) n c] w fun r w' => r = .returned (.tuple #[.slice (some ⟨b, o, none⟩) (n / 2) c, .slice (some ⟨b, o + n / 2, none⟩) (n - n / 2) (c - n / 2)]) ∧ Below w.heap.size w w' := by
  have hx : (n : Int) / 2 = ((n / 2 : Nat) : Int) := by omega
  have h1 : n / 2 ≤ c := by omega
  have h2 : n / 2 ≤ n := by omega
  have h3 : ¬ c = n / 2 := by omega
  generalize n / 2 = m at *
  go_enter Tryz.func95, Tryz.ntmps95
  go_wp2_with fail
  go_region
  all_goals
    go_wp2_with fail
    go_ret2
    exact ⟨rfl, (Below.refl _ _).drew⟩

set_option maxRecDepth 100000 in
set_option maxHeartbeats 8000000 in
theorem leaves_any {w : World} {a : Option Addr} {n c : Nat} {es : List En} (h : RowE encN 4 w a n es) (hc : n ≤ c) (hn : n ≤ 1000) :
    Calls Tryz.prog 68 #[.slice a n c] w fun r w' => ∃ v ps, r = .returned v ∧ OwnE encP 1 91 w' w.heap.size v ps ∧ KidsW w' (fun j => w.heap.size ≤ j ∧ j < w'.heap.size) ps (parts leafT es) ∧ Below w.heap.size w w' := by
  have hlen := h.1
  by_cases h0 : n = 0
  · subst h0
    obtain rfl : es = [] := List.eq_nil_of_length_eq_zero hlen
    clear h hlen
    go_enter Tryz.func68, Tryz.ntmps68
    go_wp2_with fail
    go_ret
    exact ⟨_, [], rfl, World.ownsRow_nil _ _ _ _, ⟨rfl, fun i q k hq _ => by simp at hq⟩, Below.refl _ _⟩
  · have hn0 : ¬ ((n : Int) = 0) := by omega
    by_cases h6 : n ≤ 6
    · have h61 : (n : Int) ≤ 6 := by omega
      have hp : parts leafT es = [leafT es] := parts_one leafT (by omega) (by omega)
      have HL := Lib.hid (leaf_any (c := c) h hn)
      have HP := Lib.hid hp
      clear h hp
      unfold ptrV at HL
      go_enter Tryz.func68, Tryz.ntmps68
      go_wp2_with fail
      refine HL.out.mono ?_
      rintro e w1 ⟨p, rfl, hN, hb⟩
      have HB := Lib.hid hb
      have HNN := Lib.hid hN
      clear hb hN
      go_wp2_with fail
      go_ret
      have hb2 := HB.out.alloc HB.out.size (.cells #[.pointer (some ⟨p, 0, none⟩)] 91)
      have hsz := World.alloc_size w1 (.cells #[.pointer (some ⟨p, 0, none⟩)] 91)
      refine ⟨_, [p], rfl, own_one w1 _ p HB.out.size, ?_, hb2⟩
      rw [HP.out]
      exact KidsW.one ((HNN.out.same (fun j hj => Below.heap_alloc _ _ _ hj.2)).more (fun j hj => ⟨hj.1, by rw [hsz]; omega⟩))
    · have h61 : ¬ (n : Int) ≤ 6 := by omega
      obtain ⟨b, o, rfl⟩ : ∃ b o, a = some ⟨b, o, none⟩ := by
        obtain ⟨b, o, e, -⟩ := h.2 0 _ (List.getElem?_eq_getElem (show 0 < es.length by omega))
        exact ⟨b, o, e⟩
      have hp : parts leafT es = [leafT (es.take (n / 2)), leafT (es.drop (n / 2))] := by rw [parts_two leafT (by omega), hlen]
      have hA := h.take (n / 2) (by omega)
      have hB := h.drop (n / 2)
      have HA := Lib.hid hA
      have HB := Lib.hid hB
      have HV := Lib.hid (halvesE_any w b o n c (by omega) hc hn)
      have HP := Lib.hid hp
      have hm2 : n / 2 ≤ 1000 := by omega
      have hm3 : n - n / 2 ≤ 1000 := by omega
      clear h hp hA hB
      generalize n / 2 = m at *
      unfold ptrV at *
      go_enter Tryz.func68, Tryz.ntmps68
      go_wp2_with fail
      refine HV.out.mono ?_
      rintro e w1 ⟨rfl, hb1⟩
      have HB1 := Lib.hid hb1
      have HL := Lib.hid (leaf_any (c := c) (HA.out.below hb1 (Nat.le_refl _)) hm2)
      unfold ptrV at HL
      clear hb1
      go_wp2_with fail
      refine HL.out.mono ?_
      rintro e w2 ⟨p, rfl, hN2, hb2⟩
      have HB2 := Lib.hid hb2
      have HN2 := Lib.hid hN2
      have HL2 := Lib.hid (leaf_any (c := c - m) ((HB.out.below HB1.out (Nat.le_refl _)).below hb2 (Nat.le_refl _)) hm3)
      unfold ptrV at HL2
      clear hb2 hN2
      go_wp2_with fail
      refine HL2.out.mono ?_
      rintro e w3 ⟨q, rfl, hN3, hb3⟩
      have HB3 := Lib.hid hb3
      have HN3 := Lib.hid hN3
      clear hb3 hN3
      go_wp2_with fail
      go_ret
      have s1 := HB1.out.size
      have s2 := HB2.out.size
      have s3 := HB3.out.size
      have hb13 : Below w.heap.size w w3 := (HB1.out.trans (HB2.out.mono s1)).trans (HB3.out.mono (by omega))
      have hb4 := hb13.alloc hb13.size (.cells #[.pointer (some ⟨p, 0, none⟩), .pointer (some ⟨q, 0, none⟩)] 91)
      have hsz := World.alloc_size w3 (.cells #[.pointer (some ⟨p, 0, none⟩), .pointer (some ⟨q, 0, none⟩)] 91)
      refine ⟨_, [p, q], rfl, own_two w3 _ p q hb13.size, ?_, hb4⟩
      rw [HP.out]
      refine KidsW.two ((HN2.out.same (fun j hj => ?_)).more (fun j hj => ⟨by omega, by rw [hsz]; omega⟩)) ((HN3.out.same (fun j hj => Below.heap_alloc _ _ _ hj.2)).more (fun j hj => ⟨by omega, by rw [hsz]; omega⟩))
      rw [Below.heap_alloc _ _ _ (by omega)]
      exact HB3.out.block j hj.2

set_option maxRecDepth 100000 in
set_option maxHeartbeats 8000000 in
theorem inners_any {S : Nat → Prop} {d : Nat} {w : World} {b o n c : Nat} {ps : List Nat} {ks : List (Tr d)} (h : RowE encP 1 w (some ⟨b, o, none⟩) n ps) (hc : n ≤ c) (hn : n ≤ 1000) (hn0 : 0 < n) (hK : KidsW w S ps ks) (h0 : ∀ k ∈ ks, 0 < lenT k) (hS : ∀ j, S j → j < w.heap.size) :
    Calls Tryz.prog 70 #[.slice (some ⟨b, o, none⟩) n c] w fun r w' => ∃ v ps', r = .returned v ∧ OwnE encP 1 91 w' w.heap.size v ps' ∧ KidsW w' (fun j => S j ∨ (w.heap.size ≤ j ∧ j < w'.heap.size)) ps' (parts mkT ks) ∧ Below w.heap.size w w' := by
  have hlen := h.1
  have hkl := hK.1
  have hn0' : ¬ ((n : Int) = 0) := by omega
  by_cases h6 : n ≤ 6
  · have h61 : (n : Int) ≤ 6 := by omega
    have hp : parts mkT ks = [mkT ks] := parts_one mkT (by omega) (by omega)
    have HL := Lib.hid (inner_any (c := c) h hn hK.1 hK.2 h0 hS)
    have HP := Lib.hid hp
    clear h hp hK
    unfold ptrV at HL
    go_enter Tryz.func70, Tryz.ntmps70
    go_wp2_with fail
    refine HL.out.mono ?_
    rintro e w1 ⟨p, rfl, hN, hb⟩
    have HB := Lib.hid hb
    have HNN := Lib.hid hN
    clear hb hN
    go_wp2_with fail
    go_ret
    have hb2 := HB.out.alloc HB.out.size (.cells #[.pointer (some ⟨p, 0, none⟩)] 91)
    have hsz := World.alloc_size w1 (.cells #[.pointer (some ⟨p, 0, none⟩)] 91)
    refine ⟨_, [p], rfl, own_one w1 _ p HB.out.size, ?_, hb2⟩
    rw [HP.out]
    exact KidsW.one ((HNN.out.same (fun j hj => Below.heap_alloc _ _ _ (hj.elim (fun h => by have := HB.out.size; have := hS j h; omega) (fun h => h.2)))).more (fun j hj => hj.elim .inl (fun h => .inr ⟨h.1, by rw [hsz]; omega⟩)))
  · have h61 : ¬ (n : Int) ≤ 6 := by omega
    have hp : parts mkT ks = [mkT (ks.take (n / 2)), mkT (ks.drop (n / 2))] := by rw [parts_two mkT (by omega), ← hkl, hlen]
    have hA := h.take (n / 2) (by omega)
    have hB := h.drop (n / 2)
    rw [Nat.mul_one] at hB
    have HA := Lib.hid hA
    have HB := Lib.hid hB
    have HKA := Lib.hid (hK.take (n / 2))
    have HKB := Lib.hid (hK.drop (n / 2))
    have HV := Lib.hid (halvesP_any w b o n c (by omega) hc hn)
    have HP := Lib.hid hp
    have hm2 : n / 2 ≤ 1000 := by omega
    have hm3 : n - n / 2 ≤ 1000 := by omega
    have h0A : ∀ k ∈ ks.take (n / 2), 0 < lenT k := fun k hk => h0 k (List.mem_of_mem_take hk)
    have h0B : ∀ k ∈ ks.drop (n / 2), 0 < lenT k := fun k hk => h0 k (List.mem_of_mem_drop hk)
    have H0A := Lib.hid h0A
    have H0B := Lib.hid h0B
    clear h hp hA hB hK h0A h0B
    generalize n / 2 = m at *
    unfold ptrV at *
    go_enter Tryz.func70, Tryz.ntmps70
    go_wp2_with fail
    refine HV.out.mono ?_
    rintro e w1 ⟨rfl, hb1⟩
    have HB1 := Lib.hid hb1
    have hKA1 := HKA.out.same (Same.of_below hb1 hS)
    have HL := Lib.hid (inner_any (c := c) (HA.out.below hb1 (Nat.le_refl _)) hm2 hKA1.1 hKA1.2 H0A.out (fun j hj => Nat.lt_of_lt_of_le (hS j hj) hb1.size))
    unfold ptrV at HL
    clear hb1 hKA1
    go_wp2_with fail
    refine HL.out.mono ?_
    rintro e w2 ⟨p, rfl, hN2, hb2⟩
    have HB2 := Lib.hid hb2
    have HN2 := Lib.hid hN2
    have hKB2 := (HKB.out.same (Same.of_below HB1.out hS)).same (Same.of_below hb2 (fun j hj => Nat.lt_of_lt_of_le (hS j hj) HB1.out.size))
    have HL2 := Lib.hid (inner_any (c := c - m) ((HB.out.below HB1.out (Nat.le_refl _)).below hb2 (Nat.le_refl _)) hm3 hKB2.1 hKB2.2 H0B.out (fun j hj => by have := hS j hj; have := HB1.out.size; have := HB2.out.size; omega))
    unfold ptrV at HL2
    clear hb2 hN2 hKB2
    go_wp2_with fail
    refine HL2.out.mono ?_
    rintro e w3 ⟨q, rfl, hN3, hb3⟩
    have HB3 := Lib.hid hb3
    have HN3 := Lib.hid hN3
    clear hb3 hN3
    go_wp2_with fail
    go_ret
    have s1 := HB1.out.size
    have s2 := HB2.out.size
    have s3 := HB3.out.size
    have hb13 : Below w.heap.size w w3 := (HB1.out.trans (HB2.out.mono s1)).trans (HB3.out.mono (by omega))
    have hb4 := hb13.alloc hb13.size (.cells #[.pointer (some ⟨p, 0, none⟩), .pointer (some ⟨q, 0, none⟩)] 91)
    have hsz := World.alloc_size w3 (.cells #[.pointer (some ⟨p, 0, none⟩), .pointer (some ⟨q, 0, none⟩)] 91)
    refine ⟨_, [p, q], rfl, own_two w3 _ p q hb13.size, ?_, hb4⟩
    rw [HP.out]
    refine KidsW.two ((HN2.out.same (fun j hj => ?_)).more (fun j hj => ?_)) ((HN3.out.same (fun j hj => Below.heap_alloc _ _ _ ?_)).more (fun j hj => ?_))
    · have hj2 : j < w2.heap.size := hj.elim (fun h => by have := hS j h; omega) (fun h => h.2)
      rw [Below.heap_alloc _ _ _ (by omega)]
      exact HB3.out.block j hj2
    · rcases hj with h | h
      · exact .inl h
      · exact .inr ⟨by omega, by rw [hsz]; omega⟩
    · rcases hj with h | h
      · have := hS j h; omega
      · exact h.2
    · rcases hj with h | h
      · exact .inl h
      · exact .inr ⟨by omega, by rw [hsz]; omega⟩
end Go.Proofs.YtejhbaeeaejcaaaGreat
/- The walks of node.Node's With and Without. Conditions: those of each theorem. -/
namespace Go.Proofs.YtejhbaeeaejcaaaGreat
open Go.RowKit

theorem lbN_cons (x : Nat) (ks : List Nat) (k : Nat) : lbN (x :: ks) k = (if x < k then 1 else 0) + lbN ks k := by
  unfold lbN
  rw [List.filter_cons]
  by_cases h : x < k
  · rw [if_pos (by simpa using h), if_pos h, List.length_cons, Nat.add_comm]
  · rw [if_neg (by simpa using h), if_neg h, Nat.zero_add]
theorem lbN_zero {ks : List Nat} {k : Nat} (h : ∀ x ∈ ks, k ≤ x) : lbN ks k = 0 := by
  unfold lbN
  rw [List.filter_eq_nil_iff.2 (fun x hx => by have := h x hx; simp; omega)]
  rfl
theorem row_place {l : List En} (h : Rise l) (e : En) :
    (e.1 ∈ l.map (·.1) → lbN (l.map (·.1)) e.1 < l.length ∧ setE l e = l.set (lbN (l.map (·.1)) e.1) e ∧ delE l e.1 = l.take (lbN (l.map (·.1)) e.1) ++ l.drop (lbN (l.map (·.1)) e.1 + 1)) ∧
    (e.1 ∉ l.map (·.1) → lbN (l.map (·.1)) e.1 ≤ l.length ∧ setE l e = l.take (lbN (l.map (·.1)) e.1) ++ e :: l.drop (lbN (l.map (·.1)) e.1) ∧ delE l e.1 = l) := by
  induction l with
  | nil => exact ⟨fun h => by simp at h, fun _ => ⟨Nat.le_refl _, rfl, rfl⟩⟩
  | cons x l ih =>
    have hx := (List.pairwise_cons.1 h).1
    obtain ⟨i1, i2⟩ := ih (List.pairwise_cons.1 h).2
    have hz : ¬ x.1 < e.1 → lbN (l.map (·.1)) e.1 = 0 := fun hn => lbN_zero fun y hy => by
      obtain ⟨z, hz, rfl⟩ := List.mem_map.1 hy
      have := hx z hz
      omega
    rw [List.map_cons, lbN_cons]
    by_cases hlt : x.1 < e.1
    · rw [if_pos hlt, Nat.add_comm 1]
      refine ⟨fun hm => ?_, fun hm => ?_⟩
      · have hm2 : e.1 ∈ l.map (·.1) := by
          rcases List.mem_cons.1 hm with h | h
          · omega
          · exact h
        obtain ⟨a1, a2, a3⟩ := i1 hm2
        refine ⟨by simp; omega, ?_, ?_⟩
        · rw [setE, if_pos hlt, a2]; rfl
        · rw [delE, if_pos hlt, a3]; rfl
      · obtain ⟨a1, a2, a3⟩ := i2 (fun h => hm (List.mem_cons.2 (.inr h)))
        refine ⟨by simp; omega, ?_, ?_⟩
        · rw [setE, if_pos hlt, a2]; rfl
        · rw [delE, if_pos hlt, a3]
    · rw [if_neg hlt, Nat.zero_add, hz hlt]
      refine ⟨fun hm => ?_, fun hm => ?_⟩
      · have hxe : x.1 = e.1 := by
          rcases List.mem_cons.1 hm with h | h
          · exact h.symm
          · obtain ⟨z, hz, hze⟩ := List.mem_map.1 h
            have := hx z hz
            omega
        refine ⟨by simp, ?_, ?_⟩
        · rw [setE, if_neg hlt, if_pos hxe]; rfl
        · rw [delE, if_neg hlt, if_pos hxe]; rfl
      · have hxe : x.1 ≠ e.1 := fun h => hm (List.mem_cons.2 (.inl h.symm))
        refine ⟨by simp, ?_, ?_⟩
        · rw [setE, if_neg hlt, if_neg hxe]; rfl
        · rw [delE, if_neg hlt, if_neg hxe]

theorem four_heap {w : World} {g o : Nat} {cur : Array Value} {t : TypeId} (h : w.heap[g]? = some (.cells cur t (0, 0))) (a b c d : Value) (o1 o2 o3 : Nat) :
    ((((w.setCell ⟨g, o, none⟩ a).setCell ⟨g, o1, none⟩ b).setCell ⟨g, o2, none⟩ c).setCell ⟨g, o3, none⟩ d).heap[g]? = some (.cells ((((cur.setIfInBounds o a).setIfInBounds o1 b).setIfInBounds o2 c).setIfInBounds o3 d) t (0, 0)) := by
  have e1 := heap_setCell_same w g o cur t a h
  have e2 := heap_setCell_same (w.setCell ⟨g, o, none⟩ a) g o1 _ t b e1
  have e3 := heap_setCell_same ((w.setCell ⟨g, o, none⟩ a).setCell ⟨g, o1, none⟩ b) g o2 _ t c e2
  exact heap_setCell_same (((w.setCell ⟨g, o, none⟩ a).setCell ⟨g, o1, none⟩ b).setCell ⟨g, o2, none⟩ c) g o3 _ t d e3
theorem four_list (cur : Array Value) (o : Nat) (a b c d : Value) (hb : o + 4 ≤ cur.size) :
    ((((cur.setIfInBounds o a).setIfInBounds (o + 1) b).setIfInBounds (o + 2) c).setIfInBounds (o + 3) d) = (cur.toList.take o ++ [a, b, c, d] ++ cur.toList.drop (o + [a, b, c, d].length)).toArray := by
  apply Array.ext_getElem?
  intro t
  have hlt : (cur.toList.take o).length = o := by rw [List.length_take, Array.length_toList]; omega
  rw [show (cur.toList.take o ++ [a, b, c, d] ++ cur.toList.drop (o + [a, b, c, d].length)).toArray[t]? = (cur.toList.take o ++ [a, b, c, d] ++ cur.toList.drop (o + [a, b, c, d].length))[t]? from List.getElem?_toArray]
  simp only [Array.getElem?_setIfInBounds, Array.size_setIfInBounds]
  by_cases c1 : t < o
  · rw [if_neg (by omega), if_neg (by omega), if_neg (by omega), if_neg (by omega), List.append_assoc, List.getElem?_append_left (by omega), List.getElem?_take_of_lt c1, Array.getElem?_toList]
  · by_cases c2 : t < o + 4
    · rw [List.append_assoc, List.getElem?_append_right (by omega), hlt, List.getElem?_append_left (by simp; omega)]
      obtain ⟨q, rfl⟩ : ∃ q, t = o + q := ⟨t - o, by omega⟩
      have hq : q = 0 ∨ q = 1 ∨ q = 2 ∨ q = 3 := by omega
      rcases hq with rfl | rfl | rfl | rfl
      · rw [if_neg (by omega), if_neg (by omega), if_neg (by omega), if_pos (by omega)]; simp; omega
      · rw [if_neg (by omega), if_neg (by omega), if_pos (by omega)]; simp; omega
      · rw [if_neg (by omega), if_pos (by omega)]; simp; omega
      · rw [if_pos (by omega)]; simp; omega
    · rw [if_neg (by omega), if_neg (by omega), if_neg (by omega), if_neg (by omega), List.append_assoc, List.getElem?_append_right (by omega), hlt, List.getElem?_append_right (by simp; omega), List.getElem?_drop, Array.getElem?_toList]
      simp only [List.length_cons, List.length_nil]
      congr 1; omega
/-- Four cells stored over a place of a row of entries. -/
theorem four_row {w : World} {g cap : Nat} {l : List En} (h : RowB encN 4 60 w g cap l) (i : Nat) (hi : i < l.length) (e : En) :
    RowB encN 4 60 ((((w.setCell ⟨g, i * 4, none⟩ (.int .u16 (kVol e.1 : Int))).setCell ⟨g, i * 4 + 1, none⟩ (.int .u32 (kBlk e.1 : Int))).setCell ⟨g, i * 4 + 2, none⟩ (.int .u64 (kSeq e.1 : Int))).setCell ⟨g, i * 4 + 3, none⟩ (.int .u32 (e.2 : Int))) g cap (l.set i e) ∧
    Turn g w ((((w.setCell ⟨g, i * 4, none⟩ (.int .u16 (kVol e.1 : Int))).setCell ⟨g, i * 4 + 1, none⟩ (.int .u32 (kBlk e.1 : Int))).setCell ⟨g, i * 4 + 2, none⟩ (.int .u64 (kSeq e.1 : Int))).setCell ⟨g, i * 4 + 3, none⟩ (.int .u32 (e.2 : Int))) := by
  obtain ⟨cur, h1, h2, h3⟩ := h.ex
  have hle := h.le
  have ho := (h.over encN_len h1 i (by omega) [e] (by show i + 1 ≤ cap; omega)).2 (by show i + 1 ≤ _; omega)
  have hset : l.take i ++ [e] ++ l.drop (i + [e].length) = l.set i e := by
    rw [List.set_eq_take_append_cons_drop, if_pos hi, List.append_assoc]; rfl
  rw [hset] at ho
  have hc : cellsE encN [e] = [.int .u16 (kVol e.1 : Int), .int .u32 (kBlk e.1 : Int), .int .u64 (kSeq e.1 : Int), .int .u32 (e.2 : Int)] := rfl
  have hb : i * 4 + 4 ≤ cur.size := by rw [h2]; omega
  rw [hc, ← four_list cur (i * 4) _ _ _ _ hb] at ho
  have e2 := setRow_heap w g cur ((((cur.setIfInBounds (i * 4) (.int .u16 (kVol e.1 : Int))).setIfInBounds (i * 4 + 1) (.int .u32 (kBlk e.1 : Int))).setIfInBounds (i * 4 + 2) (.int .u64 (kSeq e.1 : Int))).setIfInBounds (i * 4 + 3) (.int .u32 (e.2 : Int))) _ _ h1
  refine ⟨ho.heap ((four_heap h1 _ _ _ _ _ _ _).trans e2.symm), ⟨rfl, rfl, rfl, by simp, fun j hj => ?_⟩⟩
  rw [heap_setCell_other _ _ j _ hj, heap_setCell_other _ _ j _ hj, heap_setCell_other _ _ j _ hj, heap_setCell_other _ _ j _ hj]

theorem OwnE.below {α : Type} {enc : α → List Value} {k : Nat} {e : TypeId} {w w' : World} {B : Nat} {v : Value} {l : List α} (h : OwnE enc k e w B v l) {C : Nat} (hb : Below C w w') (hC : w.heap.size ≤ C) : OwnE enc k e w' B v l :=
  h.kept (row := none) ⟨hb.os, hb.tape, hb.output, hb.size, fun j hj _ => hb.block j (by omega)⟩ (by cases hv : v.ownBlock with | none => exact .inl rfl | some g => exact .inr (fun e => by cases e))

theorem OwnE.base {α : Type} {enc : α → List Value} {k : Nat} {e : TypeId} {w : World} {B B' : Nat} {v : Value} {l : List α} (h : OwnE enc k e w B v l) (hb : B' ≤ B) : OwnE enc k e w B' v l := by
  refine ⟨h.1, ?_⟩
  rcases h.2 with h2 | ⟨g, cap, cur, hv, hg, r⟩
  · exact .inl h2
  · exact .inr ⟨g, cap, cur, hv, by omega, r⟩

set_option maxRecDepth 100000 in
set_option maxHeartbeats 8000000 in
theorem with_any {S : Nat → Prop} {w : World} {p : Nat} {t : Tr 0} (ht : NodeW w S p t) (hS : ∀ j, S j → j < w.heap.size) (hn : lenT t ≤ 900) (hr : Rise (rowT t)) (e : En) :
    Calls Tryz.prog 67 #[ptrV p, entV e] w fun r w' => ∃ v x, r = .returned (.tuple #[v, .int .u32 x, .bool (decide (e.1 ∈ keysT t))]) ∧ OwnE encN 4 60 w' w.heap.size v (setE (rowT t) e) ∧ Below w.heap.size w w' := by
  have hks : keysT t = (rowT t).map (·.1) := rfl
  have hlen : lenT t = (rowT t).length := rfl
  have hkr : (keysT t).Pairwise (· < ·) := by rw [hks]; exact List.pairwise_map.2 hr
  obtain ⟨q1, q2⟩ := row_place hr e
  rw [← hks] at q1 q2
  have hb0 : Below w.heap.size w (w.alloc (.cells #[.int .u16 (kVol e.1 : Int), .int .u32 (kBlk e.1 : Int), .int .u64 (kSeq e.1 : Int), .int .u32 (e.2 : Int)] 60)) := (Below.refl _ _).alloc (Nat.le_refl _) _
  have hx0 : (w.alloc (.cells #[.int .u16 (kVol e.1 : Int), .int .u32 (kBlk e.1 : Int), .int .u64 (kSeq e.1 : Int), .int .u32 (e.2 : Int)] 60)).heap[w.heap.size]? = some (.cells #[.int .u16 (kVol e.1 : Int), .int .u32 (kBlk e.1 : Int), .int .u64 (kSeq e.1 : Int), .int .u32 (e.2 : Int)] 60 (0, 0)) := heap_alloc_new w _
  have hsz0 : (w.alloc (.cells #[.int .u16 (kVol e.1 : Int), .int .u32 (kBlk e.1 : Int), .int .u64 (kSeq e.1 : Int), .int .u32 (e.2 : Int)] 60)).heap.size = w.heap.size + 1 := World.alloc_size _ _
  have hN0 := ht.same (Same.of_below hb0 hS)
  have HE := Lib.hid (entries_any hN0 (fun j hj => by rw [hsz0]; have := hS j hj; omega) (by omega))
  unfold entV ptrV at *
  go_enter Tryz.func67, Tryz.ntmps67
  go_wp2_with fail
  generalize w.alloc (.cells #[.int .u16 (kVol e.1 : Int), .int .u32 (kBlk e.1 : Int), .int .u64 (kSeq e.1 : Int), .int .u32 (e.2 : Int)] 60) = w0 at *
  refine HE.out.mono ?_
  rintro r w1 ⟨v, rfl, hv, hb1⟩
  rw [hsz0] at hv hb1
  have hb01 : Below w.heap.size w w1 := hb0.trans (hb1.mono (by omega))
  have hx1 : w1.heap[w.heap.size]? = some (.cells #[.int .u16 (kVol e.1 : Int), .int .u32 (kBlk e.1 : Int), .int .u64 (kSeq e.1 : Int), .int .u32 (e.2 : Int)] 60 (0, 0)) := by rw [hb1.block w.heap.size (by omega)]; exact hx0
  have hN1 := ht.same (Same.of_below hb01 hS)
  obtain ⟨ka, kc, va, vn, vc, ca, cn, cc, hbx, hkw⟩ := hN1.box
  obtain ⟨-, y1, -, -, hps⟩ := hbx.reads
  have HB := Lib.hid (bsearch_any ka (lenT t) kc (keysT t) e.1 w1.drew (show KRow w1.drew _ _ _ from hkw) (by omega) hkr)
  obtain ⟨va', vn', vc', rfl⟩ := hv.form
  have HQ1 := Lib.hid q1
  have HQ2 := Lib.hid q2
  have HV := Lib.hid hv
  have HB01 := Lib.hid hb01
  have hS0 : w1.drew.cell? ⟨p, 1, none⟩ = some (.slice ka (lenT t) kc) ∧ w1.drew.cell? ⟨w.heap.size, 0, none⟩ = some (.int .u16 (kVol e.1 : Int)) ∧ w1.drew.cell? ⟨w.heap.size, 1, none⟩ = some (.int .u32 (kBlk e.1 : Int)) ∧ w1.drew.cell? ⟨w.heap.size, 2, none⟩ = some (.int .u64 (kSeq e.1 : Int)) := ⟨y1, cell_of_row w1 w.heap.size 0 _ _ _ hx1, cell_of_row w1 w.heap.size 1 _ _ _ hx1, cell_of_row w1 w.heap.size 2 _ _ _ hx1⟩
  have hS5 : ∀ W, Below w1.drew.heap.size w1.drew W → W.cell? ⟨p, 1, none⟩ = some (.slice ka (lenT t) kc) ∧ W.cell? ⟨w.heap.size, 0, none⟩ = some (.int .u16 (kVol e.1 : Int)) ∧ W.cell? ⟨w.heap.size, 1, none⟩ = some (.int .u32 (kBlk e.1 : Int)) ∧ W.cell? ⟨w.heap.size, 2, none⟩ = some (.int .u64 (kSeq e.1 : Int)) := fun W hW =>
    ⟨(hW.cell (World.block_lt_of_cell? _ _ hS0.1)).trans hS0.1, (hW.cell (World.block_lt_of_cell? _ _ hS0.2.1)).trans hS0.2.1, (hW.cell (World.block_lt_of_cell? _ _ hS0.2.2.1)).trans hS0.2.2.1, (hW.cell (World.block_lt_of_cell? _ _ hS0.2.2.2)).trans hS0.2.2.2⟩
  have HS5 := Lib.hid hS5
  have hs1 := hb01.size
  have hBw : w.heap.size < w1.heap.size := (Array.getElem?_eq_some_iff.1 hx1).1
  have HX1 := Lib.hid hx1
  unfold keyV at HB
  clear ht hx0 hN0 HE hb0 hb1 hx1 hN1 hbx hkw hkr hv q1 q2 hS5 hb01 y1 hks hr
  generalize hB : w.heap.size = B at *
  by_cases hm : e.1 ∈ keysT t
  · have hmem : decide (e.1 ∈ keysT t) = true := decide_eq_true hm
    rw [hmem] at HB
    have HMEM := Lib.hid hmem
    obtain ⟨hi, hset, -⟩ := HQ1.out hm
    generalize lbN (keysT t) e.1 = i at *
    obtain ⟨x, hx⟩ : ∃ x, (rowT t)[i]? = some x := ⟨_, List.getElem?_eq_getElem hi⟩
    have HSET := Lib.hid hset
    have HXX := Lib.hid hx
    clear hm hmem HQ1 HQ2 hset hx
    have hrl1 : (rowT t).length ≤ 1000 := by omega
    clear hlen hsz0
    generalize lenT t = n at *
    go_wp2_with fail
    go_region_held_law (fun W' => W'.cell? ⟨p, 1, none⟩ = some (.slice ka n kc) ∧ W'.cell? ⟨B, 0, none⟩ = some (.int .u16 (kVol e.1 : Int)) ∧ W'.cell? ⟨B, 1, none⟩ = some (.int .u32 (kBlk e.1 : Int)) ∧ W'.cell? ⟨B, 2, none⟩ = some (.int .u64 (kSeq e.1 : Int)))
      (first | exact hS0 | exact HS5.out _ hb5)
      (first | (go_at_call 78; refine HB.out.mono ?_; rintro r w5 ⟨rfl, hb5⟩))
    all_goals
      have hb05 : Below B w w5 := HB01.out.trans ((show Below w1.heap.size w1 w5 from ⟨hb5.os, hb5.tape, hb5.output, hb5.size, hb5.block⟩).mono hs1)
      have hx5 : w5.heap[B]? = some (.cells #[.int .u16 (kVol e.1 : Int), .int .u32 (kBlk e.1 : Int), .int .u64 (kSeq e.1 : Int), .int .u32 (e.2 : Int)] 60 (0, 0)) := (hb5.block B hBw).trans HX1.out
      have hv5 : OwnE encN 4 60 w5 (B + 1) (.slice va' vn' vc') (rowT t) := HV.out.below (C := w1.heap.size) ⟨hb5.os, hb5.tape, hb5.output, hb5.size, hb5.block⟩ (Nat.le_refl _)
      rcases hv5.cases with ⟨-, h0⟩ | ⟨g, cap, he, hbg, hgs, hR⟩
      · rw [h0] at hi; simp at hi
      · cases he
        obtain ⟨z0, z1, z2, z3⟩ : w5.cell? ⟨B, 0, none⟩ = some (.int .u16 (kVol e.1 : Int)) ∧ w5.cell? ⟨B, 1, none⟩ = some (.int .u32 (kBlk e.1 : Int)) ∧ w5.cell? ⟨B, 2, none⟩ = some (.int .u64 (kSeq e.1 : Int)) ∧ w5.cell? ⟨B, 3, none⟩ = some (.int .u32 (e.2 : Int)) := ⟨cell_of_row w5 B 0 _ _ _ hx5, cell_of_row w5 B 1 _ _ _ hx5, cell_of_row w5 B 2 _ _ _ hx5, cell_of_row w5 B 3 _ _ _ hx5⟩
        obtain ⟨g', o', he2, hrd⟩ := (hR.row encN_len).2 i x HXX.out
        cases he2
        have r0 := hrd 0 _ rfl
        have r1 := hrd 1 _ rfl
        have r2 := hrd 2 _ rfl
        have r3 := hrd 3 _ rfl
        simp only [Nat.zero_add, Nat.add_zero] at r0 r1 r2 r3
        obtain ⟨curg, hcg, -, -⟩ := hR.ex
        have hfz : ∀ j, w5.frozen? ⟨g, j, none⟩ = false := fun j => by simp [World.frozen?, hcg]
        obtain ⟨hR6, hT6⟩ := four_row hR i hi e
        have hown6 := hR6.own encN_len (show B ≤ g by omega)
        rw [List.length_set, ← HSET.out] at hown6
        have hb6 := hb05.grown hT6.grown (by omega) (fun j hj => by cases hj; omega)
        have HF := Lib.hid (And.intro hown6 hb6)
        have hin : (i : Int) < ((rowT t).length : Int) := by omega
        clear hown6 hb6 hR6 hT6 hR hcg hrd hv5 hx5 hb05
        generalize (rowT t).length = rn at *
        go_wp2_with fail
        go_ret3
        exact ⟨_, (x.2 : Int), by rw [HMEM.out]; rfl, by rw [hB]; exact HF.out.1, by rw [hB]; exact HF.out.2⟩
  · have hmem : decide (e.1 ∈ keysT t) = false := decide_eq_false hm
    rw [hmem] at HB
    have HMEM := Lib.hid hmem
    obtain ⟨hi, hset, -⟩ := HQ2.out hm
    generalize lbN (keysT t) e.1 = i at *
    have HSET := Lib.hid hset
    clear hm hmem HQ1 HQ2 hset
    have hrl1 : (rowT t).length ≤ 1000 := by omega
    clear hlen hsz0
    generalize lenT t = n at *
    go_wp2_with fail
    go_region_held_law (fun W' => W'.cell? ⟨p, 1, none⟩ = some (.slice ka n kc) ∧ W'.cell? ⟨B, 0, none⟩ = some (.int .u16 (kVol e.1 : Int)) ∧ W'.cell? ⟨B, 1, none⟩ = some (.int .u32 (kBlk e.1 : Int)) ∧ W'.cell? ⟨B, 2, none⟩ = some (.int .u64 (kSeq e.1 : Int)))
      (first | exact hS0 | exact HS5.out _ hb5)
      (first | (go_at_call 78; refine HB.out.mono ?_; rintro r w5 ⟨rfl, hb5⟩))
    all_goals
      have hb05 : Below B w w5 := HB01.out.trans ((show Below w1.heap.size w1 w5 from ⟨hb5.os, hb5.tape, hb5.output, hb5.size, hb5.block⟩).mono hs1)
      have hx5 : w5.heap[B]? = some (.cells #[.int .u16 (kVol e.1 : Int), .int .u32 (kBlk e.1 : Int), .int .u64 (kSeq e.1 : Int), .int .u32 (e.2 : Int)] 60 (0, 0)) := (hb5.block B hBw).trans HX1.out
      have hv5 : OwnE encN 4 60 w5 (B + 1) (.slice va' vn' vc') (rowT t) := HV.out.below (C := w1.heap.size) ⟨hb5.os, hb5.tape, hb5.output, hb5.size, hb5.block⟩ (Nat.le_refl _)
      obtain ⟨z0, z1, z2, z3⟩ : w5.cell? ⟨B, 0, none⟩ = some (.int .u16 (kVol e.1 : Int)) ∧ w5.cell? ⟨B, 1, none⟩ = some (.int .u32 (kBlk e.1 : Int)) ∧ w5.cell? ⟨B, 2, none⟩ = some (.int .u64 (kSeq e.1 : Int)) ∧ w5.cell? ⟨B, 3, none⟩ = some (.int .u32 (e.2 : Int)) := ⟨cell_of_row w5 B 0 _ _ _ hx5, cell_of_row w5 B 1 _ _ _ hx5, cell_of_row w5 B 2 _ _ _ hx5, cell_of_row w5 B 3 _ _ _ hx5⟩
      have hBs : B < w5.heap.size := (Array.getElem?_eq_some_iff.1 hx5).1
      have hvl := hv5.lt
      have HI := Lib.hid (insert_any (hv5.alloc (.cells (encN e).toArray 60)) i hi hrl1 (heap_alloc_new w5 (.cells (encN e).toArray 60)) (fun h => by have := (hvl _ h).2; omega) (by rw [World.alloc_size]; omega))
      have hb6 := hb05.alloc (by omega) (.cells (encN e).toArray 60)
      have HB6 := Lib.hid hb6
      have HVL := Lib.hid hvl
      have hsz6 := World.alloc_size w5 (.cells (encN e).toArray 60)
      have HSZ := Lib.hid hsz6
      unfold encN at HI HB6
      clear hv5 hx5 hb05 hvl hb6 hsz6
      go_wp2_with fail
      refine HI.out.mono ?_
      rintro r w7 ⟨v', rfl, hv', hg⟩
      rw [← HSET.out] at hv'
      have hb7 := HB6.out.grown hg (by have := HSZ.out; unfold encN at this; rw [this]; omega) (fun j hj => by have := (HVL.out j hj).1; omega)
      have HF := Lib.hid (And.intro hv' hb7)
      clear hv' hg hb7 HI
      go_wp2_with fail
      go_ret3
      exact ⟨_, 0, by rw [HMEM.out]; rfl, by rw [hB]; exact OwnE.base HF.out.1 (by omega), by rw [hB]; exact HF.out.2⟩

set_option maxRecDepth 100000 in
set_option maxHeartbeats 8000000 in
theorem without_any {S : Nat → Prop} {w : World} {p : Nat} {t : Tr 0} (ht : NodeW w S p t) (hS : ∀ j, S j → j < w.heap.size) (hn : lenT t ≤ 900) (hr : Rise (rowT t)) (k : Nat) :
    Calls Tryz.prog 80 #[ptrV p, keyV k] w fun r w' => ∃ v x, r = .returned (.tuple #[v, .int .u32 x, .bool (decide (k ∈ keysT t))]) ∧ OwnE encN 4 60 w' w.heap.size v (delE (rowT t) k) ∧ Below w.heap.size w w' := by
  have hks : keysT t = (rowT t).map (·.1) := rfl
  have hlen : lenT t = (rowT t).length := rfl
  have hkr : (keysT t).Pairwise (· < ·) := by rw [hks]; exact List.pairwise_map.2 hr
  obtain ⟨q1, q2⟩ := row_place hr (k, 0)
  rw [← hks] at q1 q2
  simp only at q1 q2
  have hb0 : Below w.heap.size w (w.alloc (.cells #[.int .u16 (kVol k : Int), .int .u32 (kBlk k : Int), .int .u64 (kSeq k : Int)] 27)) := (Below.refl _ _).alloc (Nat.le_refl _) _
  have hx0 : (w.alloc (.cells #[.int .u16 (kVol k : Int), .int .u32 (kBlk k : Int), .int .u64 (kSeq k : Int)] 27)).heap[w.heap.size]? = some (.cells #[.int .u16 (kVol k : Int), .int .u32 (kBlk k : Int), .int .u64 (kSeq k : Int)] 27 (0, 0)) := heap_alloc_new w _
  have hsz0 : (w.alloc (.cells #[.int .u16 (kVol k : Int), .int .u32 (kBlk k : Int), .int .u64 (kSeq k : Int)] 27)).heap.size = w.heap.size + 1 := World.alloc_size _ _
  have hN0 := ht.same (Same.of_below hb0 hS)
  have HE := Lib.hid (entries_any hN0 (fun j hj => by rw [hsz0]; have := hS j hj; omega) (by omega))
  unfold keyV ptrV at *
  go_enter Tryz.func80, Tryz.ntmps80
  go_wp2_with fail
  generalize w.alloc (.cells #[.int .u16 (kVol k : Int), .int .u32 (kBlk k : Int), .int .u64 (kSeq k : Int)] 27) = w0 at *
  refine HE.out.mono ?_
  rintro r w1 ⟨v, rfl, hv, hb1⟩
  rw [hsz0] at hv hb1
  have hb01 : Below w.heap.size w w1 := hb0.trans (hb1.mono (by omega))
  have hx1 : w1.heap[w.heap.size]? = some (.cells #[.int .u16 (kVol k : Int), .int .u32 (kBlk k : Int), .int .u64 (kSeq k : Int)] 27 (0, 0)) := by rw [hb1.block w.heap.size (by omega)]; exact hx0
  have hN1 := ht.same (Same.of_below hb01 hS)
  obtain ⟨ka, kc, va, vn, vc, ca, cn, cc, hbx, hkw⟩ := hN1.box
  obtain ⟨-, y1, -, -, hps⟩ := hbx.reads
  have HB := Lib.hid (bsearch_any ka (lenT t) kc (keysT t) k w1.drew (show KRow w1.drew _ _ _ from hkw) (by omega) hkr)
  obtain ⟨va', vn', vc', rfl⟩ := hv.form
  have HQ1 := Lib.hid q1
  have HQ2 := Lib.hid q2
  have HV := Lib.hid hv
  have HB01 := Lib.hid hb01
  have hS0 : w1.drew.cell? ⟨p, 1, none⟩ = some (.slice ka (lenT t) kc) ∧ w1.drew.cell? ⟨w.heap.size, 0, none⟩ = some (.int .u16 (kVol k : Int)) ∧ w1.drew.cell? ⟨w.heap.size, 1, none⟩ = some (.int .u32 (kBlk k : Int)) ∧ w1.drew.cell? ⟨w.heap.size, 2, none⟩ = some (.int .u64 (kSeq k : Int)) := ⟨y1, cell_of_row w1 w.heap.size 0 _ _ _ hx1, cell_of_row w1 w.heap.size 1 _ _ _ hx1, cell_of_row w1 w.heap.size 2 _ _ _ hx1⟩
  have hS5 : ∀ W, Below w1.drew.heap.size w1.drew W → W.cell? ⟨p, 1, none⟩ = some (.slice ka (lenT t) kc) ∧ W.cell? ⟨w.heap.size, 0, none⟩ = some (.int .u16 (kVol k : Int)) ∧ W.cell? ⟨w.heap.size, 1, none⟩ = some (.int .u32 (kBlk k : Int)) ∧ W.cell? ⟨w.heap.size, 2, none⟩ = some (.int .u64 (kSeq k : Int)) := fun W hW =>
    ⟨(hW.cell (World.block_lt_of_cell? _ _ hS0.1)).trans hS0.1, (hW.cell (World.block_lt_of_cell? _ _ hS0.2.1)).trans hS0.2.1, (hW.cell (World.block_lt_of_cell? _ _ hS0.2.2.1)).trans hS0.2.2.1, (hW.cell (World.block_lt_of_cell? _ _ hS0.2.2.2)).trans hS0.2.2.2⟩
  have HS5 := Lib.hid hS5
  have hs1 := hb01.size
  have hrl1 : (rowT t).length ≤ 1000 := by omega
  have hr0 : keysT t ≠ [] → (rowT t) ≠ [] := fun h h2 => h (by rw [hks, h2]; rfl)
  unfold keyV at HB
  clear ht hx0 hN0 HE hb0 hb1 hx1 hN1 hbx hkw hkr hv q1 q2 hS5 hb01 y1 hks hr hlen hsz0 hr0
  generalize hB : w.heap.size = B at *
  by_cases hm : k ∈ keysT t
  · have hmem : decide (k ∈ keysT t) = true := decide_eq_true hm
    rw [hmem] at HB
    have HMEM := Lib.hid hmem
    obtain ⟨hi, -, hset⟩ := HQ1.out hm
    generalize lbN (keysT t) k = i at *
    obtain ⟨x, hx⟩ : ∃ x, (rowT t)[i]? = some x := ⟨_, List.getElem?_eq_getElem hi⟩
    have HSET := Lib.hid hset
    have HXX := Lib.hid hx
    clear hm hmem HQ1 HQ2 hset hx
    generalize lenT t = n at *
    go_wp2_with fail
    go_region_held_law (fun W' => W'.cell? ⟨p, 1, none⟩ = some (.slice ka n kc) ∧ W'.cell? ⟨B, 0, none⟩ = some (.int .u16 (kVol k : Int)) ∧ W'.cell? ⟨B, 1, none⟩ = some (.int .u32 (kBlk k : Int)) ∧ W'.cell? ⟨B, 2, none⟩ = some (.int .u64 (kSeq k : Int)))
      (first | exact hS0 | exact HS5.out _ hb5)
      (first | (go_at_call 78; refine HB.out.mono ?_; rintro r w5 ⟨rfl, hb5⟩))
    all_goals
      have hb05 : Below B w w5 := HB01.out.trans ((show Below w1.heap.size w1 w5 from ⟨hb5.os, hb5.tape, hb5.output, hb5.size, hb5.block⟩).mono hs1)
      have hv5 : OwnE encN 4 60 w5 (B + 1) (.slice va' vn' vc') (rowT t) := HV.out.below (C := w1.heap.size) ⟨hb5.os, hb5.tape, hb5.output, hb5.size, hb5.block⟩ (Nat.le_refl _)
      have HD := Lib.hid (delete_any hv5 i hi hrl1)
      rcases hv5.cases with ⟨-, h0⟩ | ⟨g, cap, he, hbg, hgs, hR⟩
      · rw [h0] at hi; simp at hi
      · cases he
        obtain ⟨g', o', he2, hrd⟩ := (hR.row encN_len).2 i x HXX.out
        cases he2
        have r3 := hrd 3 _ rfl
        simp only [Nat.zero_add] at r3
        have hin : (i : Int) < ((rowT t).length : Int) := by omega
        have hx9 : IntKind.i64.wrap ((i : Int) + 1) = ((i + 1 : Nat) : Int) := by rw [IntWalk.i64_in _ (by omega)]; omega
        have hBg : B ≤ g := by omega
        have HB05 := Lib.hid hb05
        have hBs5 := hb05.size
        clear hrd hR hv5 hb05 hb5
        generalize (rowT t).length = rn at *
        go_wp2_with fail
        refine HD.out.mono ?_
        rintro r w7 ⟨v', rfl, hv', hg⟩
        rw [← HSET.out] at hv'
        have hb7 := HB05.out.grown hg (by omega) (fun j hj => by cases hj; exact hBg)
        have HF := Lib.hid (And.intro (hv'.base (show B ≤ B + 1 by omega)) hb7)
        clear hv' hg hb7 HD
        go_wp2_with fail
        go_ret3
        exact ⟨_, (x.2 : Int), by rw [HMEM.out]; rfl, by rw [hB]; exact HF.out.1, by rw [hB]; exact HF.out.2⟩
  · have hmem : decide (k ∈ keysT t) = false := decide_eq_false hm
    rw [hmem] at HB
    have HMEM := Lib.hid hmem
    obtain ⟨hi, -, hset⟩ := HQ2.out hm
    generalize lbN (keysT t) k = i at *
    have HSET := Lib.hid hset
    clear hm hmem HQ1 HQ2 hset
    generalize lenT t = n at *
    go_wp2_with fail
    go_region_held_law (fun W' => W'.cell? ⟨p, 1, none⟩ = some (.slice ka n kc) ∧ W'.cell? ⟨B, 0, none⟩ = some (.int .u16 (kVol k : Int)) ∧ W'.cell? ⟨B, 1, none⟩ = some (.int .u32 (kBlk k : Int)) ∧ W'.cell? ⟨B, 2, none⟩ = some (.int .u64 (kSeq k : Int)))
      (first | exact hS0 | exact HS5.out _ hb5)
      (first | (go_at_call 78; refine HB.out.mono ?_; rintro r w5 ⟨rfl, hb5⟩))
    all_goals
      have hb05 : Below B w w5 := HB01.out.trans ((show Below w1.heap.size w1 w5 from ⟨hb5.os, hb5.tape, hb5.output, hb5.size, hb5.block⟩).mono hs1)
      have hv5 : OwnE encN 4 60 w5 (B + 1) (.slice va' vn' vc') (rowT t) := HV.out.below (C := w1.heap.size) ⟨hb5.os, hb5.tape, hb5.output, hb5.size, hb5.block⟩ (Nat.le_refl _)
      rw [← HSET.out] at hv5
      have HF := Lib.hid (And.intro (hv5.base (show B ≤ B + 1 by omega)) hb05)
      clear hv5 hb05
      go_wp2_with fail
      go_ret3
      exact ⟨_, 0, by rw [HMEM.out]; rfl, by rw [hB]; exact HF.out.1, by rw [hB]; exact HF.out.2⟩
end Go.Proofs.YtejhbaeeaejcaaaGreat
/- The walks of key.Same and node.Node's Len. Conditions: those of each theorem. -/
namespace Go.Proofs.YtejhbaeeaejcaaaGreat
open Go.RowKit

set_option maxRecDepth 100000 in
set_option maxHeartbeats 4000000 in
theorem same_any (a b : Nat) (w : World) :
    Calls Tryz.prog 32 #[keyV a, keyV b] w fun e w' => e = .returned (.bool (kVol a == kVol b && kBlk a == kBlk b)) ∧ Below w.heap.size w w' := by
  have hb : Below w.heap.size w ((w.alloc (.cells #[.int .u16 (kVol a : Int), .int .u32 (kBlk a : Int), .int .u64 (kSeq a : Int)] 27)).alloc (.cells #[.int .u16 (kVol b : Int), .int .u32 (kBlk b : Int), .int .u64 (kSeq b : Int)] 27)) := ((Below.refl _ _).alloc (Nat.le_refl _) _).alloc (by simp) _
  unfold keyV
  by_cases h1 : kVol a = kVol b
  · have e1 : ((kVol a : Int) == (kVol b : Int)) = true := by rw [h1]; simp
    have f1 : (kVol a == kVol b) = true := by rw [h1]; simp
    by_cases h2 : kBlk a = kBlk b
    · have e2 : ((kBlk a : Int) == (kBlk b : Int)) = true := by rw [h2]; simp
      have f2 : (kBlk a == kBlk b) = true := by rw [h2]; simp
      have F : Hid ((kVol a == kVol b && kBlk a == kBlk b) = true) := Lib.hid (by rw [f1, f2]; rfl)
      clear h1 h2 f1 f2
      go_enter Tryz.func32, Tryz.ntmps32
      go_wp2_with fail
      go_ret
      exact ⟨by rw [F.out]; rfl, hb⟩
    · have e2 : ((kBlk a : Int) == (kBlk b : Int)) = false := by rw [beq_eq_false_iff_ne]; omega
      have f2 : (kBlk a == kBlk b) = false := by rw [beq_eq_false_iff_ne]; exact h2
      have F : Hid ((kVol a == kVol b && kBlk a == kBlk b) = false) := Lib.hid (by rw [f1, f2]; rfl)
      clear h1 h2 f1 f2
      go_enter Tryz.func32, Tryz.ntmps32
      go_wp2_with fail
      go_ret
      exact ⟨by rw [F.out]; rfl, hb⟩
  · have e1 : ((kVol a : Int) == (kVol b : Int)) = false := by rw [beq_eq_false_iff_ne]; omega
    have f1 : (kVol a == kVol b) = false := by rw [beq_eq_false_iff_ne]; exact h1
    have F : Hid ((kVol a == kVol b && kBlk a == kBlk b) = false) := Lib.hid (by rw [f1]; rfl)
    clear h1 f1
    go_enter Tryz.func32, Tryz.ntmps32
    go_wp2_with fail
    go_ret
    exact ⟨by rw [F.out]; rfl, hb⟩

set_option maxRecDepth 100000 in
set_option maxHeartbeats 4000000 in
theorem len_any {S : Nat → Prop} {w : World} {d p : Nat} {t : Tr d} (h : NodeW w S p t) :
    Calls Tryz.prog 82 #[ptrV p] w fun e w' => e = .returned (.int .i64 (lenT t : Nat)) ∧ w' = w := by
  obtain ⟨ka, kc, va, vn, vc, ca, cn, cc, hbx, -⟩ := h.box
  obtain ⟨-, c1, -, -, -⟩ := hbx.reads
  unfold ptrV
  clear hbx h
  go_enter Tryz.func82, Tryz.ntmps82
  go_wp2_with fail
  go_ret
  exact ⟨rfl, rfl⟩
end Go.Proofs.YtejhbaeeaejcaaaGreat
