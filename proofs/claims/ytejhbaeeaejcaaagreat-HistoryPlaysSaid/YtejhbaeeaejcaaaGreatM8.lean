/- The walks of node.Join and tree.joined. Conditions: those of each theorem. -/
import Derived.Test.YtejhbaeeaejcaaaGreatM7
import Derived.Test.YtejhbaeeaejcaaaGreatM3
import Derived.Test.YtejhbaeeaejcaaaGreatM6
namespace Go.Proofs.YtejhbaeeaejcaaaGreat
open Go.RowKit

theorem Sl.ptrs {w : World} {a : Option Addr} {n : Nat} {ps : List Nat} (h : Sl w a n (ps.map ptrV)) : RowE encP 1 w a n ps :=
  ⟨by have := h.1; rwa [List.length_map] at this, fun i r hr => by
    obtain ⟨b, o, e, h1⟩ := h.2 i (ptrV r) (by rw [List.getElem?_map, hr]; rfl)
    exact ⟨b, o, e, fun j x hx => by
      have hj : j < 1 := by simpa [encP] using (List.getElem?_eq_some_iff.1 hx).1
      obtain rfl : j = 0 := by omega
      simp [encP] at hx
      subst hx
      simpa using h1⟩⟩
theorem NodeW.inner {S : Nat → Prop} {w : World} {d p : Nat} {t : Tr (d + 1)} (h : NodeW w S p t) (h0 : 0 < lenT t) : ∃ cb co cc ps, w.cell? ⟨p, 3, none⟩ = some (.slice (some ⟨cb, co, none⟩) (lenT t) cc) ∧ w.cell? ⟨p, 0, none⟩ = some (.bool false) ∧ RowE encP 1 w (some ⟨cb, co, none⟩) (lenT t) ps ∧ KidsW w S ps (kidsT t) ∧ S p ∧ S cb ∧ lenT t ≤ lenT t := by
  obtain ⟨ka, kc, ca, cc, ps, hbx, hkr, hsl, hpl, hk⟩ := h
  obtain ⟨y0, -, -, y3, -⟩ := hbx.reads
  have hr := hsl.ptrs
  obtain ⟨q, hq⟩ : ∃ q, ps[0]? = some q := ⟨_, List.getElem?_eq_getElem (by rw [hpl]; exact h0)⟩
  obtain ⟨b, o, rfl, -⟩ := hr.2 0 q hq
  exact ⟨b, o, cc, ps, y3, y0, hr, ⟨hpl, hk⟩, hbx.self, hbx.kids b o rfl, Nat.le_refl _⟩

theorem OwnE.someE {α : Type} {enc : α → List Value} {k : Nat} {e : TypeId} {w : World} {B : Nat} {v : Value} {l : List α} (h : OwnE enc k e w B v l) (h0 : 0 < l.length) : ∃ g cap, v = .slice (some ⟨g, 0, none⟩) l.length cap ∧ B ≤ g ∧ g < w.heap.size ∧ l.length ≤ cap ∧ RowB enc k e w g cap l := by
  rcases h.cases with ⟨-, h1⟩ | ⟨g, cap, he, hbg, hgs, hR⟩
  · rw [h1] at h0; simp at h0
  · exact ⟨g, cap, he, hbg, hgs, hR.le, hR⟩

set_option maxRecDepth 100000 in
set_option maxHeartbeats 8000000 in
theorem join_leaf {S : Nat → Prop} {w : World} {p p' : Nat} {t t' : Tr 0} (ht : NodeW w S p t) (ht' : NodeW w S p' t') (hS : ∀ j, S j → j < w.heap.size) (h0 : 0 < lenT t') (hn : lenT t ≤ 20) (hn' : lenT t' ≤ 20) :
    Calls Tryz.prog 105 #[ptrV p, ptrV p'] w fun r w' => ∃ v ps, r = .returned v ∧ OwnE encP 1 91 w' w.heap.size v ps ∧ KidsW w' (fun j => S j ∨ (w.heap.size ≤ j ∧ j < w'.heap.size)) ps (joinT t t') ∧ Below w.heap.size w w' := by
  obtain ⟨ka, kc, va, vn, vc, ca, cn, cc, hbx, hkw⟩ := ht.box
  obtain ⟨y0, -, -, -, hps⟩ := hbx.reads
  have y0' : w.cell? ⟨p, 0, none⟩ = some (.bool true) := y0
  have HE := Lib.hid (entries_any ht hS (by omega))
  have HT' := Lib.hid ht'
  have hl : lenT t = (rowT t).length := rfl
  have hl' : lenT t' = (rowT t').length := rfl
  have hr1 : (rowT t).length ≤ 20 := by omega
  have hr2 : (rowT t').length ≤ 20 := by omega
  have hr3 : 0 < (rowT t').length := by omega
  unfold ptrV at HE ⊢
  clear ht ht' hbx hkw y0 hl hl' hn hn' h0
  go_enter Tryz.func105, Tryz.ntmps105
  go_wp2_with fail
  refine HE.out.mono ?_
  rintro r w1 ⟨v1, rfl, hv1, hb1⟩
  obtain ⟨i0, hi, hz0, hz1, hz2⟩ := info_cut infoEn
  have HE2 := Lib.hid (entries_any (HT'.out.same (Same.of_below hb1 hS)) (fun j hj => Nat.lt_of_lt_of_le (hS j hj) hb1.size) (show lenT t' ≤ 1000 by have : lenT t' = (rowT t').length := rfl; omega))
  have HV1 := Lib.hid hv1
  have HB1 := Lib.hid hb1
  unfold ptrV at HE2
  clear hv1 hb1
  go_wp2_with fail
  refine HE2.out.mono ?_
  rintro r w2 ⟨v2, rfl, hv2, hb2⟩
  have hv12 := HV1.out.below hb2 (Nat.le_refl _)
  have s1 := HB1.out.size
  have s2 := hb2.size
  have hb12 := HB1.out.trans (hb2.mono s1)
  obtain ⟨g2, cap2, rfl, hbg2, hgs2, hle2, hR2⟩ := hv2.someE hr3
  obtain ⟨v3, w3, hap, ho, hg⟩ := hv12.app encN_len (by decide) encN_one Tryz.underlying36 hi hz0 hz1 hz2 rfl cap2 (hR2.row encN_len) (by omega) (by omega) (show w.heap.size ≤ w2.heap.size by omega)
  have hb3 := hb12.grown hg (by omega) (fun j hj => by have := (hv12.lt j hj).1; omega)
  have hlen3 : (rowT t ++ rowT t').length = (rowT t).length + (rowT t').length := List.length_append
  obtain ⟨a3, cap3, rfl, hr3', hle3, -⟩ := ho.row encN_len
  have HL := Lib.hid (leaves_any (c := cap3) hr3' hle3 (by omega))
  have HB3 := Lib.hid hb3
  have s3 := hb3.size
  clear hv2 hb2 hv12 hb12 hR2 hg ho hb3 hr3' hle3 hi hz0 hz1 hz2 hle2 hlen3
  generalize (rowT t ++ rowT t').length = n3 at *
  generalize (rowT t').length = n2 at *
  go_wp2_with (at_builtin; refine wpList_append_run rfl _ _ _ rfl hap ?_)
  refine HL.out.mono ?_
  rintro r w4 ⟨v4, ps, rfl, ho4, hk4, hb4⟩
  have hb04 := HB3.out.trans (hb4.mono s3)
  have HF := Lib.hid (And.intro (ho4.base s3) (And.intro (hk4.more (S' := fun j => S j ∨ (w.heap.size ≤ j ∧ j < w4.heap.size)) (fun j hj => .inr ⟨by omega, hj.2⟩)) hb04))
  clear ho4 hk4 hb4 hb04
  go_wp2_with fail
  go_ret
  exact ⟨_, ps, rfl, HF.out.1, HF.out.2.1, HF.out.2.2⟩

set_option maxRecDepth 100000 in
set_option maxHeartbeats 8000000 in
theorem join_inner {S : Nat → Prop} {d : Nat} {w : World} {p p' : Nat} {t t' : Tr (d + 1)} (ht : NodeW w S p t) (ht' : NodeW w S p' t') (hS : ∀ j, S j → j < w.heap.size) (h0 : 0 < lenT t) (h0' : 0 < lenT t') (hn : lenT t ≤ 20) (hn' : lenT t' ≤ 20) (hK : KidsT t) (hK' : KidsT t') :
    Calls Tryz.prog 105 #[ptrV p, ptrV p'] w fun r w' => ∃ v ps, r = .returned v ∧ OwnE encP 1 91 w' w.heap.size v ps ∧ KidsW w' (fun j => S j ∨ (w.heap.size ≤ j ∧ j < w'.heap.size)) ps (joinT t t') ∧ Below w.heap.size w w' := by
  obtain ⟨cb, co, cc, qs, y3, y0, hrow, hkw, hSp, hScb, -⟩ := ht.inner h0
  obtain ⟨cb', co', cc', qs', y3', y0', hrow', hkw', hSp', hScb', -⟩ := ht'.inner h0'
  obtain ⟨i0, hi, hz0, hz1, hz2⟩ := info_cut infoPN
  have hc0 : ∀ k ∈ kidsT t ++ kidsT t', 0 < lenT k := fun k hk => by
    rcases List.mem_append.1 hk with h | h
    · have := (FullT.kid hK h).lo; omega
    · have := (FullT.kid hK' h).lo; omega
  have hlq : qs.length = lenT t := hrow.1
  have hlq' : qs'.length = lenT t' := hrow'.1
  have hq1 : qs.length ≤ 20 := by omega
  have hq2 : qs'.length ≤ 20 := by omega
  have hq0 : 0 < qs.length := by omega
  have HC := Lib.hid (cloneP_any (c := cc) (w := w.drew) hrow (by omega))
  have hS0 : w.drew.cell? ⟨p, 3, none⟩ = some (.slice (some ⟨cb, co, none⟩) (lenT t) cc) ∧ w.drew.cell? ⟨p', 3, none⟩ = some (.slice (some ⟨cb', co', none⟩) (lenT t') cc') := ⟨y3, y3'⟩
  have hS5 : ∀ W, Same S w W → W.cell? ⟨p, 3, none⟩ = some (.slice (some ⟨cb, co, none⟩) (lenT t) cc) ∧ W.cell? ⟨p', 3, none⟩ = some (.slice (some ⟨cb', co', none⟩) (lenT t') cc') := fun W hW => ⟨(cell_same hW hSp _).trans y3, (cell_same hW hSp' _).trans y3'⟩
  have HS5 := Lib.hid hS5
  have HKW := Lib.hid (hkw.app hkw')
  have HROW' := Lib.hid hrow'
  have HC0 := Lib.hid hc0
  have hp : p < w.heap.size := hS p hSp
  have hp' : p' < w.heap.size := hS p' hSp'
  unfold ptrV
  clear ht ht' hK hK' hrow hkw hrow' hkw' hc0 hS5 y3 y3' y0' hlq hlq'
  generalize lenT t = n at *
  generalize lenT t' = n' at *
  go_enter Tryz.func105, Tryz.ntmps105
  go_wp2_with fail
  go_region_held_law (fun W' => W'.cell? ⟨p, 3, none⟩ = some (.slice (some ⟨cb, co, none⟩) n cc) ∧ W'.cell? ⟨p', 3, none⟩ = some (.slice (some ⟨cb', co', none⟩) n' cc'))
    (first | exact hS0 | exact HS5.out _ (by first | with_reducible exact hs4 | with_reducible exact hs3 | with_reducible exact hs2))
    (first
      | (go_at_call 72
         refine HC.out.mono ?_
         rintro r w2 ⟨v2, rfl, hv2, hb2⟩
         have hbw2 : Below w.heap.size w w2 := ⟨hb2.os, hb2.tape, hb2.output, hb2.size, hb2.block⟩
         have hs2 := Same.of_below hbw2 hS
         have hz2' : w.heap.size ≤ w2.heap.size := hb2.size
         obtain ⟨v3, w3, hap, ho3, hg3⟩ := hv2.app encP_len (by decide) encP_one Tryz.underlying126 hi hz0 hz1 hz2 rfl cc' (HROW'.out.below hbw2 (Nat.le_refl _)) (by omega) (by omega) hz2'
         have hbw3 := hbw2.grown hg3 hz2' (fun j hj => (hv2.lt j hj).1)
         have hs3 := Same.of_below hbw3 hS
         obtain ⟨g3, cap3, rfl, hbg3, hgs3, hle3, hR3⟩ := ho3.someE (by rw [List.length_append]; omega)
         have HI := Lib.hid (inners_any (c := cap3) (hR3.row encP_len) hle3 (by rw [List.length_append]; omega) (by rw [List.length_append]; omega) (HKW.out.same hs3) HC0.out (fun j hj => Nat.lt_of_lt_of_le (hS j hj) hbw3.size))
         have HB3 := Lib.hid hbw3
         obtain ⟨m, hm⟩ : ∃ m, (qs ++ qs').length = m := ⟨_, rfl⟩
         rw [hm] at hap HI
         clear hm hR3 ho3 hle3 hg3 hv2 hb2)
      | (refine step_append_runK (o := ⟨some 24, _, _, _, _, _⟩) rfl _ _ 126 126 rfl _ _ rfl rfl hap ?_)
      | (go_at_call 70
         refine HI.out.mono ?_
         rintro r w4 ⟨v4, ps, rfl, ho4, hk4, hb4⟩
         have hb04 := HB3.out.trans (hb4.mono HB3.out.size)
         have hs4 := Same.of_below hb04 hS
         have hz3 := HB3.out.size
         have HF := Lib.hid (And.intro (ho4.base hz3) (And.intro (hk4.more (S' := fun j => S j ∨ (w.heap.size ≤ j ∧ j < w4.heap.size)) (fun j hj => hj.elim .inl (fun h => .inr ⟨by omega, h.2⟩))) hb04))))
  all_goals
    clear hi hz0 hz1 hz2
    go_wp2_with fail
    go_ret
    exact ⟨_, ps, rfl, HF.out.1, HF.out.2.1, HF.out.2.2⟩

theorem join_any {S : Nat → Prop} {d : Nat} {w : World} {p p' : Nat} {t t' : Tr d} (ht : NodeW w S p t) (ht' : NodeW w S p' t') (hS : ∀ j, S j → j < w.heap.size) (h0 : 0 < lenT t) (h0' : 0 < lenT t') (hn : lenT t ≤ 20) (hn' : lenT t' ≤ 20) (hK : KidsT t) (hK' : KidsT t') :
    Calls Tryz.prog 105 #[ptrV p, ptrV p'] w fun r w' => ∃ v ps, r = .returned v ∧ OwnE encP 1 91 w' w.heap.size v ps ∧ KidsW w' (fun j => S j ∨ (w.heap.size ≤ j ∧ j < w'.heap.size)) ps (joinT t t') ∧ Below w.heap.size w w' := by
  cases d with
  | zero => exact join_leaf ht ht' hS h0' hn hn'
  | succ d => exact join_inner ht ht' hS h0 h0' hn hn' hK hK'
end Go.Proofs.YtejhbaeeaejcaaaGreat
/- The walk of tree.joined. Conditions: those of each theorem. -/
namespace Go.Proofs.YtejhbaeeaejcaaaGreat
open Go.RowKit

/-- A set of blocks that grew by new ones. -/
structure Ext (S : Nat → Prop) (n : Nat) (S' : Nat → Prop) (w' : World) : Prop where
  sub : ∀ j, S j → S' j
  new : ∀ j, S' j → S j ∨ n ≤ j
  lt : ∀ j, S' j → j < w'.heap.size
theorem Ext.refl {S : Nat → Prop} {n : Nat} {w : World} (h : ∀ j, S j → j < w.heap.size) : Ext S n S w := ⟨fun _ h => h, fun _ h => .inl h, h⟩
theorem Ext.trans {S S1 S2 : Nat → Prop} {n n1 : Nat} {w1 w2 : World} (h : Ext S n S1 w1) (h' : Ext S1 n1 S2 w2) (hn : n ≤ n1) : Ext S n S2 w2 :=
  ⟨fun j hj => h'.sub j (h.sub j hj), fun j hj => (h'.new j hj).elim (h.new j) (fun h => .inr (by omega)), h'.lt⟩
theorem Ext.later {S S1 : Nat → Prop} {n : Nat} {w1 w2 : World} (h : Ext S n S1 w1) (hs : w1.heap.size ≤ w2.heap.size) : Ext S n S1 w2 := ⟨h.sub, h.new, fun j hj => Nat.lt_of_lt_of_le (h.lt j hj) hs⟩
theorem Ext.mk' {S : Nat → Prop} {n : Nat} {w w' : World} (h : ∀ j, S j → j < w.heap.size) (hs : w.heap.size ≤ w'.heap.size) (hn : n ≤ w.heap.size) : Ext S n (fun j => S j ∨ (w.heap.size ≤ j ∧ j < w'.heap.size)) w' :=
  ⟨fun _ h => .inl h, fun _ h => h.elim .inl (fun h => .inr (by omega)), fun j hj => hj.elim (fun hj => Nat.lt_of_lt_of_le (h j hj) hs) (fun h => h.2)⟩

theorem joined_keep {d : Nat} {ks : List (Tr d)} {i : Nat} {c : Tr d} (hc : ks[i]? = some c) (h : 3 ≤ lenT c ∨ ks.length < 2) : joinedT ks i = ks := by
  unfold joinedT
  split
  · rename_i c' a b h1 h2 h3
    rw [hc] at h1
    cases h1
    rw [if_pos h]
  · rfl
theorem joined_join {d : Nat} {ks : List (Tr d)} {i : Nat} {c a b : Tr d} (hc : ks[i]? = some c) (ha : ks[i - 1]? = some a) (hb : ks[i - 1 + 1]? = some b) (h : ¬ (3 ≤ lenT c ∨ ks.length < 2)) : joinedT ks i = ks.take (i - 1) ++ joinT a b ++ ks.drop (i - 1 + 2) := by
  unfold joinedT
  rw [hc, ha, hb]
  simp only
  rw [if_neg h]

set_option maxRecDepth 100000 in
set_option maxHeartbeats 8000000 in
theorem joined_any {S : Nat → Prop} {d : Nat} {w : World} {B : Nat} {v : Value} {ps : List Nat} {ks : List (Tr d)} (h : OwnE encP 1 91 w B v ps) (hK : KidsW w S ps ks) (i : Nat) (hi : i < ks.length) (hl : ks.length ≤ 20) (hSv : ∀ g, v.ownBlock = some g → ¬ S g) (hS : ∀ j, S j → j < w.heap.size) (hB : B ≤ w.heap.size)
    (hA : ∀ k ∈ ks, 2 ≤ lenT k ∧ lenT k ≤ 6 ∧ KidsT k) :
    Calls Tryz.prog 81 #[v, .int .i64 (i : Int)] w fun r w' => ∃ v' ps' S', r = .returned v' ∧ OwnE encP 1 91 w' B v' ps' ∧ KidsW w' S' ps' (joinedT ks i) ∧ w.grownBy w' v.ownBlock ∧ Ext S w.heap.size S' w' := by
  have hpl := hK.1
  obtain ⟨c, hc⟩ : ∃ c, ks[i]? = some c := ⟨_, List.getElem?_eq_getElem hi⟩
  obtain ⟨q, hq⟩ : ∃ q, ps[i]? = some q := ⟨_, List.getElem?_eq_getElem (by omega)⟩
  have HLc := Lib.hid (len_any (hK.2 i q c hq hc))
  obtain ⟨g, cap, rfl, hbg, hgs, hle, hR⟩ := h.someE (by omega)
  have hrow := hR.row encP_len
  obtain ⟨b', o', he, cq⟩ := hrow.ptr i q hq
  cases he
  simp only [Nat.zero_add] at cq
  have hi1 : (i : Int) < (ps.length : Int) := by omega
  have hg0 : w.grownBy w (some g) := ⟨rfl, rfl, rfl, Nat.le_refl _, fun _ _ _ => rfl⟩
  by_cases hkeep : 3 ≤ lenT c ∨ ks.length < 2
  · have hj := joined_keep hc hkeep
    have HF := Lib.hid (And.intro h (And.intro hK (And.intro hg0 (Ext.refl (n := w.heap.size) hS))))
    have HJ := Lib.hid hj
    have hkeep' : (3 : Int) ≤ (lenT c : Int) ∨ (ps.length : Int) < 2 := by omega
    unfold ptrV at HLc cq
    clear h hK hR hrow hj hA hc hq hSv hg0 hkeep hpl
    generalize ps.length = pn at *
    generalize lenT c = lc at *
    by_cases h3 : (3 : Int) ≤ (lc : Int)
    · clear hkeep'
      go_enter Tryz.func81, Tryz.ntmps81
      go_wp2_with fail
      refine HLc.out.mono ?_
      rintro r w2 ⟨rfl, rfl⟩
      go_wp2_with fail
      go_ret
      exact ⟨_, ps, S, rfl, HF.out.1, by rw [HJ.out]; exact HF.out.2.1, HF.out.2.2.1, HF.out.2.2.2⟩
    · have h2 : (pn : Int) < 2 := hkeep'.elim (fun h => absurd h h3) id
      clear hkeep'
      go_enter Tryz.func81, Tryz.ntmps81
      go_wp2_with fail
      refine HLc.out.mono ?_
      rintro r w2 ⟨rfl, rfl⟩
      go_wp2_with fail
      go_ret
      exact ⟨_, ps, S, rfl, HF.out.1, by rw [HJ.out]; exact HF.out.2.1, HF.out.2.2.1, HF.out.2.2.2⟩
  · obtain ⟨j, hj⟩ : ∃ j, i - 1 = j := ⟨_, rfl⟩
    have hjl : j + 1 < ks.length := by omega
    obtain ⟨ta, hta⟩ : ∃ c, ks[j]? = some c := ⟨_, List.getElem?_eq_getElem (by omega)⟩
    obtain ⟨tb, htb⟩ : ∃ c, ks[j + 1]? = some c := ⟨_, List.getElem?_eq_getElem (by omega)⟩
    obtain ⟨qa, hqa⟩ : ∃ c, ps[j]? = some c := ⟨_, List.getElem?_eq_getElem (by omega)⟩
    obtain ⟨qb, hqb⟩ : ∃ c, ps[j + 1]? = some c := ⟨_, List.getElem?_eq_getElem (by omega)⟩
    obtain ⟨b1, o1, he1, ca⟩ := hrow.ptr j qa hqa
    cases he1
    obtain ⟨b2, o2, he2, cb⟩ := hrow.ptr (j + 1) qb hqb
    cases he2
    simp only [Nat.zero_add] at ca cb
    have hjt := joined_join hc (hj ▸ hta) (by rw [hj]; exact htb) hkeep
    rw [hj] at hjt
    obtain ⟨la1, la2, la3⟩ := hA ta (List.mem_of_getElem? hta)
    obtain ⟨lb1, lb2, lb3⟩ := hA tb (List.mem_of_getElem? htb)
    have hone := (join_full la3 lb3 la1 (by omega) la2 lb2).len
    have HJN := Lib.hid (join_any (w := w.drew) (NodeW.same (S := S) (w := w) (w' := w.drew) (fun _ _ => rfl) (hK.2 j qa ta hqa hta)) (NodeW.same (S := S) (w := w) (w' := w.drew) (fun _ _ => rfl) (hK.2 (j + 1) qb tb hqb htb)) hS (by omega) (by omega) (by omega) (by omega) la3 lb3)
    have HR := Lib.hid hR
    have HK := Lib.hid hK
    have HJT := Lib.hid hjt
    have HONE := Lib.hid hone
    have hmx : max ((i : Int) - 1) 0 = (j : Int) := by omega
    have hw1 : IntKind.i64.wrap ((i : Int) - 1) = (i : Int) - 1 := IntWalk.i64_in _ (by omega)
    have hw2 : IntKind.i64.wrap ((j : Int) + 2) = ((j + 2 : Nat) : Int) := by rw [IntWalk.i64_in _ (by omega)]; omega
    have hw3 : IntKind.i64.wrap ((j : Int) + 1) = ((j + 1 : Nat) : Int) := by rw [IntWalk.i64_in _ (by omega)]; omega
    have hj0 : (0 : Int) ≤ (j : Int) := by omega
    have hj1 : (j : Int) < (ps.length : Int) := by omega
    have hj2 : ((j + 1 : Nat) : Int) < (ps.length : Int) := by omega
    have hk3 : ¬ (3 : Int) ≤ (lenT c : Int) := by omega
    have hk2 : ¬ (ps.length : Int) < 2 := by omega
    have hS0 : w.drew.cell? ⟨g, j, none⟩ = some (ptrV qa) ∧ w.drew.cell? ⟨g, j + 1, none⟩ = some (ptrV qb) := ⟨ca, cb⟩
    have hS5 : ∀ W, Below w.drew.heap.size w.drew W → W.cell? ⟨g, j, none⟩ = some (ptrV qa) ∧ W.cell? ⟨g, j + 1, none⟩ = some (ptrV qb) := fun W hW => ⟨(hW.cell (World.block_lt_of_cell? _ _ ca)).trans ca, (hW.cell (World.block_lt_of_cell? _ _ cb)).trans cb⟩
    have HS5 := Lib.hid hS5
    have hgS : ¬ S g := hSv g rfl
    have hp1 : j + 2 ≤ ps.length := by omega
    have hp2 : ps.length ≤ 20 := by omega
    unfold ptrV at HLc cq hS0 HS5 HJN
    have HIJ := Lib.hid hj
    clear h hK hR hrow hA hc hq hSv hg0 hkeep hta htb hqa hqb ca cb hjt la1 la2 la3 lb1 lb2 lb3 hone hS5 hpl hjl hj hmx
    have hp3 : Hid (ps.length = ps.length) := Lib.hid rfl
    generalize hpn : ps.length = pn at *
    have HPN := Lib.hid hpn
    clear hpn
    generalize lenT c = lc at *
    by_cases hi0 : i = 0
    · obtain rfl : j = 0 := by have := HIJ.out; omega
      subst hi0
      simp only [Nat.zero_add] at hS0 HS5 hj2
      have hj3 : (1 : Int) < (pn : Int) := by omega
      have hj4 : (0 : Int) < (pn : Int) := by omega
      have hj5 : 1 < pn := by omega
      have hj6 : 0 < pn := by omega
      have hj7 : 2 ≤ pn := by omega
      have hj8 : IntKind.i64.wrap 1 = 1 := by decide
      have hj9 : IntKind.i64.wrap 2 = 2 := by decide
      clear hj0 hj1 hj2 hw2 hw3 hw1
      go_enter Tryz.func81, Tryz.ntmps81
      go_wp2_with fail
      refine HLc.out.mono ?_
      rintro r w2 ⟨rfl, rfl⟩
      go_wp2_with fail
      obtain ⟨hsa, hsb⟩ := hS0
      go_region_law
        (first
          | (refine step_callK (o := ⟨some 33, _, _, _, _, _⟩) (by kernel_rfl) 105 Tryz.func105 (by kernel_rfl) rfl _ _ rfl #[.pointer (some ⟨qa, 0, none⟩), .pointer (some ⟨qb, 0, none⟩)] (by simp [Act.eval]) HJN.out ?_
             rintro r w5 ⟨v5, qs, rfl, ho5, hk5, hb5⟩
             have hb5' : Below w2.heap.size w2 w5 := ⟨hb5.os, hb5.tape, hb5.output, hb5.size, hb5.block⟩
             have hs25 : w2.heap.size ≤ w5.heap.size := hb5.size
             have hql : qs.length = (joinT ta tb).length := hk5.1
             have hq1 := HONE.out
             obtain ⟨g5, cap5, rfl, hbg5, hgs5, hle5, hR5⟩ := ho5.someE (by omega)
             have hbg5' : w2.heap.size ≤ g5 := hbg5
             obtain ⟨cur5, hc5, hcz5, -⟩ := hR5.ex
             have hRv := (HR.out.heap (w' := w5) (hb5'.block g hgs))
             have hov := hRv.own encP_len hbg
             rw [HPN.out] at hov
             have hrp := (replace_any (c2 := cap5) hov 0 (0 + 2) (by omega) (by rw [HPN.out]; omega) (by rw [HPN.out]; omega) (hR5.row encP_len) (by omega) (by omega) (by omega) hc5 (by rw [hcz5]; omega) (show some g ≠ some g5 from fun e => by have := Option.some.inj e; omega) (by omega))
             rw [show ((0 : Nat) : Int) = 0 from rfl, show ((0 + 2 : Nat) : Int) = 2 from rfl] at hrp
             have HRP := Lib.hid hrp
             clear hrp
             have HB5 := Lib.hid hb5'
             have HK5 := Lib.hid hk5
             have HE5 := Lib.hid (Ext.mk' (n := w2.heap.size) (w := w2) (w' := w5) hS hs25 (Nat.le_refl _))
             generalize qs.length = ql at *
             clear ho5 hk5 hb5' hle5 hR5 hc5 hcz5 hRv hov hql hq1
             refine ⟨_, rfl, ?_⟩)
          | (refine step_callK (o := ⟨some 34, _, _, _, _, _⟩) (by kernel_rfl) 71 Tryz.func71 (by kernel_rfl) rfl _ _ rfl #[.slice (some ⟨g, 0, none⟩) pn cap, .int .i64 0, .int .i64 2, .slice (some ⟨g5, 0, none⟩) ql cap5] (by simp [Act.eval]) HRP.out ?_
             rintro r w6 ⟨v6, rfl, ho6, hg6⟩
             refine ⟨_, rfl, ?_⟩))
      all_goals
        have hnS : ∀ jj, (S jj ∨ (w2.heap.size ≤ jj ∧ jj < w5.heap.size)) → w6.heap[jj]? = w5.heap[jj]? := fun jj hjj => by
          have hjlt := HE5.out.lt jj hjj
          refine hg6.block jj hjlt (fun e => ?_)
          have : jj = g := Option.some.inj e
          subst this
          rcases hjj with h | h
          · exact hgS h
          · omega
        have hKall : KidsW w6 (fun j => S j ∨ (w2.heap.size ≤ j ∧ j < w5.heap.size)) (ps.take 0 ++ (qs ++ ps.drop (0 + 2))) (joinedT ks 0) := by
          rw [HJT.out, List.append_assoc]
          have hk0 : KidsW w5 (fun j => S j ∨ (w2.heap.size ≤ j ∧ j < w5.heap.size)) ps ks := (HK.out.same (Same.of_below HB5.out hS)).more (fun _ h => .inl h)
          exact ((hk0.take 0).app (HK5.out.app (hk0.drop (0 + 2)))).same hnS
        have hgall : w2.grownBy w6 (some g) := ⟨hg6.os.trans HB5.out.os, hg6.tape.trans HB5.out.tape, hg6.output.trans HB5.out.output, Nat.le_trans HB5.out.size hg6.size, fun jj hj hne => (hg6.block jj (Nat.lt_of_lt_of_le hj HB5.out.size) hne).trans (HB5.out.block jj hj)⟩
        have HF := Lib.hid (And.intro ho6 (And.intro hKall (And.intro hgall (HE5.out.later hg6.size))))
        clear hnS hKall hgall ho6 hg6
        go_wp2_with fail
        go_ret
        exact ⟨_, _, _, rfl, HF.out.1, HF.out.2.1, HF.out.2.2.1, HF.out.2.2.2⟩
    · have hiz : (0 : Int) ≤ (i : Int) - 1 := by omega
      have hj20 : (0 : Int) ≤ (j : Int) + 1 := by omega
      have hj21 : (j : Int) + 1 < (pn : Int) := by omega
      have hij : (i : Int) - 1 = (j : Int) := by have := HIJ.out; omega
      go_enter Tryz.func81, Tryz.ntmps81
      go_wp2_with fail
      refine HLc.out.mono ?_
      rintro r w2 ⟨rfl, rfl⟩
      go_wp2_with fail
      obtain ⟨hsa, hsb⟩ := hS0
      go_region_law
        (first
          | (refine step_callK (o := ⟨some 33, _, _, _, _, _⟩) (by kernel_rfl) 105 Tryz.func105 (by kernel_rfl) rfl _ _ rfl #[.pointer (some ⟨qa, 0, none⟩), .pointer (some ⟨qb, 0, none⟩)] (by simp [Act.eval]) HJN.out ?_
             rintro r w5 ⟨v5, qs, rfl, ho5, hk5, hb5⟩
             have hb5' : Below w2.heap.size w2 w5 := ⟨hb5.os, hb5.tape, hb5.output, hb5.size, hb5.block⟩
             have hs25 : w2.heap.size ≤ w5.heap.size := hb5.size
             have hql : qs.length = (joinT ta tb).length := hk5.1
             have hq1 := HONE.out
             obtain ⟨g5, cap5, rfl, hbg5, hgs5, hle5, hR5⟩ := ho5.someE (by omega)
             have hbg5' : w2.heap.size ≤ g5 := hbg5
             obtain ⟨cur5, hc5, hcz5, -⟩ := hR5.ex
             have hRv := (HR.out.heap (w' := w5) (hb5'.block g hgs))
             have hov := hRv.own encP_len hbg
             rw [HPN.out] at hov
             have HRP := Lib.hid (replace_any (c2 := cap5) hov j (j + 2) (by omega) (by rw [HPN.out]; omega) (by rw [HPN.out]; omega) (hR5.row encP_len) (by omega) (by omega) (by omega) hc5 (by rw [hcz5]; omega) (show some g ≠ some g5 from fun e => by have := Option.some.inj e; omega) (by omega))
             have HB5 := Lib.hid hb5'
             have HK5 := Lib.hid hk5
             have HE5 := Lib.hid (Ext.mk' (n := w2.heap.size) (w := w2) (w' := w5) hS hs25 (Nat.le_refl _))
             generalize qs.length = ql at *
             clear ho5 hk5 hb5' hle5 hR5 hc5 hcz5 hRv hov hql hq1
             refine ⟨_, rfl, ?_⟩)
          | (refine step_callK (o := ⟨some 34, _, _, _, _, _⟩) (by kernel_rfl) 71 Tryz.func71 (by kernel_rfl) rfl _ _ rfl #[.slice (some ⟨g, 0, none⟩) pn cap, .int .i64 (j : Int), .int .i64 ((j + 2 : Nat) : Int), .slice (some ⟨g5, 0, none⟩) ql cap5] (by simp [Act.eval]) HRP.out ?_
             rintro r w6 ⟨v6, rfl, ho6, hg6⟩
             refine ⟨_, rfl, ?_⟩))
      all_goals
        have hnS : ∀ jj, (S jj ∨ (w2.heap.size ≤ jj ∧ jj < w5.heap.size)) → w6.heap[jj]? = w5.heap[jj]? := fun jj hjj => by
          have hjlt := HE5.out.lt jj hjj
          refine hg6.block jj hjlt (fun e => ?_)
          have : jj = g := Option.some.inj e
          subst this
          rcases hjj with h | h
          · exact hgS h
          · omega
        have hKall : KidsW w6 (fun j => S j ∨ (w2.heap.size ≤ j ∧ j < w5.heap.size)) (ps.take j ++ (qs ++ ps.drop (j + 2))) (joinedT ks i) := by
          rw [HJT.out, List.append_assoc]
          have hk0 : KidsW w5 (fun j => S j ∨ (w2.heap.size ≤ j ∧ j < w5.heap.size)) ps ks := (HK.out.same (Same.of_below HB5.out hS)).more (fun _ h => .inl h)
          exact ((hk0.take j).app (HK5.out.app (hk0.drop (j + 2)))).same hnS
        have hgall : w2.grownBy w6 (some g) := ⟨hg6.os.trans HB5.out.os, hg6.tape.trans HB5.out.tape, hg6.output.trans HB5.out.output, Nat.le_trans HB5.out.size hg6.size, fun jj hj hne => (hg6.block jj (Nat.lt_of_lt_of_le hj HB5.out.size) hne).trans (HB5.out.block jj hj)⟩
        have HF := Lib.hid (And.intro ho6 (And.intro hKall (And.intro hgall (HE5.out.later hg6.size))))
        clear hnS hKall hgall ho6 hg6
        go_wp2_with fail
        go_ret
        exact ⟨_, _, _, rfl, HF.out.1, HF.out.2.1, HF.out.2.2.1, HF.out.2.2.2⟩
end Go.Proofs.YtejhbaeeaejcaaaGreat
/- The way up a tree; the depth's bound; a tree with its row. Conditions: those of each theorem. -/
namespace Go.Proofs.YtejhbaeeaejcaaaGreat
open Go.RowKit

/-- A node that is reached by a way down. -/
inductive UpT (w : World) (S : Nat → Prop) (k : Nat) {d : Nat} (t : Tr d) : List (Nat × Nat) → (m : Nat) → Tr m → Prop
  | top : UpT w S k t [] d t
  | step {pre : List (Nat × Nat)} {m p : Nat} {u : Tr (m + 1)} {c : Tr m} : UpT w S k t pre (m + 1) u → NodeW w S p u → (kidsT u)[kidAt (keysT u) k]? = some c → UpT w S k t (pre ++ [(p, kidAt (keysT u) k)]) m c
theorem UpT.end {w : World} {S : Nat → Prop} {k d : Nat} {t : Tr d} {l : List (Nat × Nat)} {m : Nat} {s : Tr m} (h : UpT w S k t l m s) (hl : l = []) : (⟨m, s⟩ : (d : Nat) × Tr d) = ⟨d, t⟩ := by
  cases h with
  | top => rfl
  | step h1 h2 h3 => simp at hl
theorem UpT.last {w : World} {S : Nat → Prop} {k d : Nat} {t : Tr d} {l : List (Nat × Nat)} {m : Nat} {s : Tr m} (h : UpT w S k t l m s) {pre : List (Nat × Nat)} {p i : Nat} (hl : l = pre ++ [(p, i)]) :
    ∃ u : Tr (m + 1), UpT w S k t pre (m + 1) u ∧ NodeW w S p u ∧ i = kidAt (keysT u) k ∧ (kidsT u)[i]? = some s := by
  cases h with
  | top => simp at hl
  | step h1 h2 h3 =>
    obtain ⟨rfl, h5⟩ := List.append_inj' hl rfl
    simp only [List.cons.injEq, Prod.mk.injEq, and_true] at h5
    obtain ⟨rfl, rfl⟩ := h5
    exact ⟨_, h1, h2, rfl, h3⟩
theorem UpT.same {w w' : World} {S : Nat → Prop} {k d : Nat} {t : Tr d} (hs : Same S w w') {l : List (Nat × Nat)} {m : Nat} {s : Tr m} (h : UpT w S k t l m s) : UpT w' S k t l m s := by
  induction h with
  | top => exact .top
  | step _ h2 h3 ih => exact .step ih (h2.same hs) h3
theorem UpT.good {w : World} {S : Nat → Prop} {k d : Nat} {t : Tr d} (h0 : 0 < lenT t) (h6 : lenT t ≤ 6) (hK : KidsT t) (hr : Rise (flatT t)) {l : List (Nat × Nat)} {m : Nat} {s : Tr m} (h : UpT w S k t l m s) : 0 < lenT s ∧ lenT s ≤ 6 ∧ KidsT s ∧ Rise (flatT s) ∧ l.length + m = d := by
  induction h with
  | top => exact ⟨h0, h6, hK, hr, by simp⟩
  | step _ _ h3 ih =>
    obtain ⟨i1, i2, i3, i4, i5⟩ := ih
    have hm := List.mem_of_getElem? h3
    have hF := FullT.kid i3 hm
    exact ⟨by have := hF.lo; omega, hF.hi, hF.kids, kid_rise i4 hm, by simp; omega⟩
theorem WayT.up {w : World} {S : Nat → Prop} {k d : Nat} {t : Tr d} : ∀ {d' : Nat} {p' : Nat} {t' : Tr d'} {pre path : List (Nat × Nat)} {pl : Nat} {lt : Tr 0}, UpT w S k t pre d' t' → WayT w S k p' t' path pl lt → UpT w S k t (pre ++ path) 0 lt ∧ NodeW w S pl lt
  | 0, p', t', pre, path, pl, lt, h, hw => by
    obtain ⟨rfl, rfl, rfl, h4⟩ := hw
    exact ⟨by rw [List.append_nil]; exact h, h4⟩
  | d' + 1, p', t', pre, path, pl, lt, h, hw => by
    obtain ⟨h0, q, c, path', rfl, h2, h3, h4⟩ := hw
    have := WayT.up (UpT.step h h0 h2) h4
    rw [List.append_assoc] at this
    exact this

theorem flat_len_full : ∀ {d : Nat} {t : Tr d}, FullT t → 3 ^ (d + 1) ≤ (flatT t).length
  | 0, t, h => by
    have h1 : 3 ≤ (flatT t).length := h.lo
    simpa using h1
  | d + 1, t, h => by
    have hk : ∀ (l : List (Tr d)), (∀ k ∈ l, FullT k) → l.length * 3 ^ (d + 1) ≤ (l.flatMap flatT).length := fun l => by
      induction l with
      | nil => intro _; simp
      | cons x l ih =>
        intro hf
        have h1 := flat_len_full (hf x (List.mem_cons_self ..))
        have h2 := ih (fun k hk => hf k (List.mem_cons_of_mem _ hk))
        rw [List.flatMap_cons, List.length_append, List.length_cons, Nat.add_mul]
        omega
    have h1 := hk (kidsT t) (fun k hk => FullT.kid h.kids hk)
    have h2 : 3 ≤ (kidsT t).length := h.lo
    have h3 : 3 * 3 ^ (d + 1) ≤ (kidsT t).length * 3 ^ (d + 1) := Nat.mul_le_mul_right _ h2
    have h4 : (flatT t).length = ((kidsT t).flatMap flatT).length := rfl
    rw [show 3 ^ (d + 1 + 1) = 3 * 3 ^ (d + 1) by rw [Nat.pow_succ, Nat.mul_comm], h4]
    omega
/-- A tree's root: full below; itself it may be small. -/
structure RootT {d : Nat} (t : Tr d) : Prop where
  lo : 0 < lenT t
  hi : lenT t ≤ 6
  kids : KidsT t
  two : d = 0 ∨ 2 ≤ lenT t
theorem RootT.depth {d : Nat} {t : Tr d} (h : RootT t) (hl : (flatT t).length ≤ 2000) : d ≤ 10 := by
  cases d with
  | zero => omega
  | succ d =>
    have h2 : 2 ≤ (kidsT t).length := by
      rcases h.two with h2 | h2
      · omega
      · exact h2
    obtain ⟨c, hc⟩ : ∃ c, (kidsT t)[0]? = some c := ⟨_, List.getElem?_eq_getElem (by omega)⟩
    have hm := List.mem_of_getElem? hc
    have h3 := flat_len_full (FullT.kid h.kids hm)
    have h4 := kid_split (kidsT t) 0 c hc
    have h5 : (flatT t).length = ((kidsT t).flatMap flatT).length := rfl
    rw [h5, h4, List.length_append, List.length_append] at hl
    rcases Nat.lt_or_ge d 10 with hd | hd
    · omega
    · have h6 : 3 ^ 11 ≤ 3 ^ (d + 1) := Nat.pow_le_pow_right (by decide) (by omega)
      have h7 : (3 : Nat) ^ 11 = 177147 := by decide
      omega
/-- A tree in memory, and its row. -/
structure TreeW (w : World) (S : Nat → Prop) (pt : Nat) (l : List En) : Prop where
  rise : Rise l
  lt : ∀ j, S j → j < w.heap.size
  apart : ¬ S pt
  has : (l = [] ∧ TreeAt w pt none 0) ∨ ∃ (d p : Nat) (t : Tr d), TreeAt w pt (some p) l.length ∧ NodeW w S p t ∧ RootT t ∧ flatT t = l
theorem TreeW.same {w w' : World} {S : Nat → Prop} {pt : Nat} {l : List En} (h : TreeW w S pt l) (hs : Same S w w') (hp : w'.heap[pt]? = w.heap[pt]?) (hz : w.heap.size ≤ w'.heap.size) : TreeW w' S pt l := by
  refine ⟨h.rise, fun j hj => Nat.lt_of_lt_of_le (h.lt j hj) hz, h.apart, ?_⟩
  rcases h.has with ⟨h1, h2⟩ | ⟨d, p, t, h1, h2, h3, h4⟩
  · exact .inl ⟨h1, hp.trans h2⟩
  · exact .inr ⟨d, p, t, hp.trans h1, h2.same hs, h3, h4⟩
theorem TreeW.ptlt {w : World} {S : Nat → Prop} {pt : Nat} {l : List En} (h : TreeW w S pt l) : pt < w.heap.size := by
  rcases h.has with ⟨-, h2⟩ | ⟨d, p, t, h1, -⟩
  · exact (Array.getElem?_eq_some_iff.1 h2).1
  · exact (Array.getElem?_eq_some_iff.1 h1).1
/-- What a change of a root leaves: a tree again. -/
theorem root_set {d : Nat} {t : Tr d} (h : RootT t) (hr : Rise (flatT t)) (e : En) : (∃ a, setT t e = [a] ∧ RootT a ∧ flatT a = setE (flatT t) e) ∨ ∃ a b, setT t e = [a, b] ∧ RootT (mkT [a, b]) ∧ flatT (mkT [a, b]) = setE (flatT t) e ∧ 0 < lenT a ∧ 0 < lenT b := by
  have hf := set_flat h.lo h.kids hr e
  rcases set_full h.lo h.hi h.kids hr e with ⟨a, h1, h2, h3, h4⟩ | ⟨a, b, h1, h2, h3⟩
  · rw [h1] at hf
    refine .inl ⟨a, h1, ⟨by have := h.lo; omega, h3, h4, ?_⟩, by simpa using hf⟩
    rcases h.two with h5 | h5
    · exact .inl h5
    · exact .inr (by omega)
  · rw [h1] at hf
    refine .inr ⟨a, b, h1, ⟨by show 0 < 2; omega, by show 2 ≤ 6; omega, ?_, .inr (by show 2 ≤ 2; omega)⟩, hf, by have := h2.lo; omega, by have := h3.lo; omega⟩
    rw [kids_mk_iff]
    intro k hk
    rcases List.mem_cons.1 hk with rfl | hk
    · exact h2
    · rcases List.mem_cons.1 hk with rfl | hk
      · exact h3
      · simp at hk
end Go.Proofs.YtejhbaeeaejcaaaGreat
/- The leaves of a tree from a key on, in plain Lean, and what lies on the walk's stack. Conditions: those of each theorem. -/
namespace Go.Proofs.YtejhbaeeaejcaaaGreat
open Go.RowKit

def leavesT : {d : Nat} → Tr d → List (Tr 0)
  | 0, t => [t]
  | _ + 1, t => (kidsT t).flatMap leavesT
def leavesFrom : {d : Nat} → Tr d → Nat → List (Tr 0)
  | 0, t, _ => [t]
  | _ + 1, t, k => ((kidsT t)[kidAt (keysT t) k]?.map fun c => leavesFrom c k).getD [] ++ ((kidsT t).drop (kidAt (keysT t) k + 1)).flatMap leavesT
theorem leaves_flat : {d : Nat} → (t : Tr d) → (leavesT t).flatMap rowT = flatT t
  | 0, t => by show [t].flatMap rowT = rowT t; simp
  | d + 1, t => by
    show ((kidsT t).flatMap leavesT).flatMap rowT = (kidsT t).flatMap flatT
    rw [List.flatMap_assoc]
    congr 1
    funext c
    exact leaves_flat c
/-- What is left out is ahead of the key. -/
theorem leavesFrom_flat : {d : Nat} → {t : Tr d} → 0 < lenT t → KidsT t → Rise (flatT t) → (k : Nat) → ∃ a, flatT t = a ++ (leavesFrom t k).flatMap rowT ∧ ∀ x ∈ a, x.1 < k
  | 0, t, _, _, _, k => ⟨[], by show rowT t = [] ++ [t].flatMap rowT; simp, fun x hx => by simp at hx⟩
  | d + 1, t, h0, hK, hr, k => by
    obtain ⟨c, hc⟩ := kid_some h0 k
    obtain ⟨m1, m2, -⟩ := kid_mid hK hr k hc
    have hm := List.mem_of_getElem? hc
    have hF := FullT.kid hK hm
    obtain ⟨a, ha, hlt⟩ := leavesFrom_flat (by have := hF.lo; omega) hF.kids (kid_rise hr hm) k
    refine ⟨((kidsT t).take (kidAt (keysT t) k)).flatMap flatT ++ a, ?_, fun x hx => ?_⟩
    · have hrest : (((kidsT t).drop (kidAt (keysT t) k + 1)).flatMap leavesT).flatMap rowT = ((kidsT t).drop (kidAt (keysT t) k + 1)).flatMap flatT := by
        rw [List.flatMap_assoc]
        congr 1
        funext c
        exact leaves_flat c
      rw [show flatT t = (kidsT t).flatMap flatT from rfl, kid_split (kidsT t) _ c hc, ha, leavesFrom, hc]
      simp only [Option.map_some, Option.getD_some, List.flatMap_append, hrest, List.append_assoc]
    · rcases List.mem_append.1 hx with h | h
      · exact m1 x h
      · exact hlt x h
theorem leavesFrom_good : {d : Nat} → {t : Tr d} → 0 < lenT t → lenT t ≤ 6 → KidsT t → (k : Nat) → ∀ x ∈ leavesFrom t k, 0 < lenT x ∧ lenT x ≤ 6 := by
  intro d
  have hall : ∀ {d : Nat} {t : Tr d}, 0 < lenT t → lenT t ≤ 6 → KidsT t → ∀ x ∈ leavesT t, 0 < lenT x ∧ lenT x ≤ 6 := by
    intro d
    induction d with
    | zero => intro t h0 h6 _ x hx; obtain rfl := List.mem_singleton.1 hx; exact ⟨h0, h6⟩
    | succ d ih =>
      intro t h0 h6 hK x hx
      obtain ⟨c, hc, hxc⟩ := List.mem_flatMap.1 hx
      have hF := FullT.kid hK hc
      exact ih (by have := hF.lo; omega) hF.hi hF.kids x hxc
  induction d with
  | zero => intro t h0 h6 _ k x hx; obtain rfl := List.mem_singleton.1 hx; exact ⟨h0, h6⟩
  | succ d ih =>
    intro t h0 h6 hK k x hx
    rw [leavesFrom] at hx
    obtain ⟨c, hc⟩ := kid_some h0 k
    rw [hc] at hx
    rcases List.mem_append.1 hx with h | h
    · have hF := FullT.kid hK (List.mem_of_getElem? hc)
      exact ih (by have := hF.lo; omega) hF.hi hF.kids k x h
    · obtain ⟨c', hc', hxc⟩ := List.mem_flatMap.1 h
      have hF := FullT.kid hK (List.mem_of_mem_drop hc')
      exact hall (by have := hF.lo; omega) hF.hi hF.kids x hxc

/-- What is still to come of the nodes on the stack. -/
inductive PendW (w : World) (S : Nat → Prop) (D : Nat) : List (Nat × Nat) → List (Tr 0) → Prop
  | nil : PendW w S D [] []
  | snoc {stk : List (Nat × Nat)} {L : List (Tr 0)} {m p i : Nat} {u : Tr (m + 1)} : PendW w S D stk L → NodeW w S p u → KidsT u → lenT u ≤ 6 → i ≤ lenT u → stk.length + (m + 1) ≤ D → PendW w S D (stk ++ [(p, i)]) (((kidsT u).drop i).flatMap leavesT ++ L)
theorem PendW.last {w : World} {S : Nat → Prop} {D : Nat} {stk : List (Nat × Nat)} {L : List (Tr 0)} (h : PendW w S D stk L) {stk' : List (Nat × Nat)} {p i : Nat} (hs : stk = stk' ++ [(p, i)]) :
    ∃ (m : Nat) (u : Tr (m + 1)) (L' : List (Tr 0)), PendW w S D stk' L' ∧ NodeW w S p u ∧ KidsT u ∧ lenT u ≤ 6 ∧ i ≤ lenT u ∧ stk'.length + (m + 1) ≤ D ∧ L = ((kidsT u).drop i).flatMap leavesT ++ L' := by
  cases h with
  | nil => simp at hs
  | snoc h1 h2 h3 h4 h5 h6 =>
    obtain ⟨rfl, h7⟩ := List.append_inj' hs rfl
    simp only [List.cons.injEq, Prod.mk.injEq, and_true] at h7
    obtain ⟨rfl, rfl⟩ := h7
    exact ⟨_, _, _, h1, h2, h3, h4, h5, h6, rfl⟩
theorem PendW.empty {w : World} {S : Nat → Prop} {D : Nat} {L : List (Tr 0)} (h : PendW w S D [] L) : L = [] := by
  generalize hs : ([] : List (Nat × Nat)) = stk at h
  cases h with
  | nil => rfl
  | snoc h1 => simp at hs
theorem drop_step {m : Nat} (u : Tr (m + 1)) (i : Nat) (c : Tr m) (hc : (kidsT u)[i]? = some c) : ((kidsT u).drop i).flatMap leavesT = leavesT c ++ ((kidsT u).drop (i + 1)).flatMap leavesT := by
  obtain ⟨hi, rfl⟩ := List.getElem?_eq_some_iff.1 hc
  rw [List.drop_eq_getElem_cons hi, List.flatMap_cons]
theorem leaves_zero {d : Nat} (t : Tr (d + 1)) (c : Tr d) (hc : (kidsT t)[0]? = some c) : leavesT t = leavesT c ++ ((kidsT t).drop 1).flatMap leavesT := by
  have := drop_step t 0 c hc
  rw [List.drop_zero] at this
  exact this

theorem popV_any {w : World} {q : Nat} {l : List (Nat × Nat)} (h : StackWV w q l) :
    Calls Tryz.prog 110 #[ptrV q] w fun e w' => ∃ (op : Option Addr) (iv : Int), e = .returned (.tuple #[.agg #[.pointer op, .int .i64 iv], .bool (decide (l ≠ []))]) ∧ w.grownBy w' (some q) ∧
      ((l = [] ∧ StackWV w' q []) ∨ ∃ (l' : List (Nat × Nat)) (p i : Nat), l = l' ++ [(p, i)] ∧ op = some ⟨p, 0, none⟩ ∧ iv = i ∧ StackWV w' q l') := by
  rcases List.eq_nil_or_concat l with rfl | ⟨l', x, rfl⟩
  · refine (stackPop_noneV h).mono ?_
    rintro e w' ⟨rfl, hb⟩
    exact ⟨none, 0, rfl, ⟨hb.os, hb.tape, hb.output, hb.size, fun j hj _ => hb.block j hj⟩, .inl ⟨rfl, h.heap (hb.block q h.lt)⟩⟩
  · obtain ⟨p, i⟩ := x
    rw [List.concat_eq_append] at h ⊢
    refine (stackPop_someV h).mono ?_
    rintro e w' ⟨rfl, hs, hg⟩
    refine ⟨some ⟨p, 0, none⟩, i, ?_, hg, .inr ⟨l', p, i, rfl, rfl, rfl, hs⟩⟩
    rw [decide_eq_true (by simp)]
    rfl
end Go.Proofs.YtejhbaeeaejcaaaGreat
/- The way up a tree: what the loops of tree.Tree's Set and Delete hold. Conditions: those of each theorem. -/
namespace Go.Proofs.YtejhbaeeaejcaaaGreat
open Go.RowKit

theorem UpT.get {w : World} {S : Nat → Prop} {k d : Nat} {t : Tr d} (h0 : 0 < lenT t) (h6 : lenT t ≤ 6) (hK : KidsT t) (hr : Rise (flatT t)) {l : List (Nat × Nat)} {m : Nat} {s : Tr m} (h : UpT w S k t l m s) : getE (flatT t) k = getE (flatT s) k := by
  induction h with
  | top => rfl
  | @step pre m p u c hu _ h3 ih =>
    obtain ⟨g1, g2, g3, g4, -⟩ := hu.good h0 h6 hK hr
    obtain ⟨m1, m2, -⟩ := kid_mid g3 g4 k h3
    rw [ih, show flatT u = (kidsT u).flatMap flatT from rfl, kid_split (kidsT u) _ c h3, getE_mid m1 m2]
theorem get_mem (l : List En) (k : Nat) : (getE l k).isSome = decide (k ∈ l.map (·.1)) := by
  induction l with
  | nil => simp [getE]
  | cons x l ih =>
    rw [getE]
    by_cases h : x.1 = k
    · rw [if_pos h]; simp [h]
    · rw [if_neg h, ih]
      have : (k ∈ (x :: l).map (·.1)) ↔ k ∈ l.map (·.1) := by
        rw [List.map_cons, List.mem_cons]
        exact ⟨fun h2 => h2.elim (fun e => absurd e.symm h) id, .inr⟩
      rw [decide_eq_decide]
      exact this.symm
theorem setT_up {m : Nat} {u : Tr (m + 1)} {s : Tr m} (e : En) (h : (kidsT u)[kidAt (keysT u) e.1]? = some s) : setT u e = parts mkT ((kidsT u).take (kidAt (keysT u) e.1) ++ (setT s e ++ (kidsT u).drop (kidAt (keysT u) e.1 + 1))) := by
  rw [setT, h, List.append_assoc]; rfl
theorem delT_up {m : Nat} {u : Tr (m + 1)} {s : Tr m} (k : Nat) (h : (kidsT u)[kidAt (keysT u) k]? = some s) : delT u k = parts mkT (joinedT ((kidsT u).take (kidAt (keysT u) k) ++ (delT s k ++ (kidsT u).drop (kidAt (keysT u) k + 1))) (kidAt (keysT u) k)) := by
  rw [delT, h, List.append_assoc]; rfl

theorem pop_any {w : World} {q : Nat} {l : List (Nat × Nat)} (h : StackW w q l) :
    Calls Tryz.prog 69 #[ptrV q] w fun e w' => ∃ (op : Option Addr) (iv : Int), e = .returned (.tuple #[.agg #[.pointer op, .int .i64 iv], .bool (decide (l ≠ []))]) ∧ w.grownBy w' (some q) ∧
      ((l = [] ∧ StackW w' q []) ∨ ∃ (l' : List (Nat × Nat)) (p i : Nat), l = l' ++ [(p, i)] ∧ op = some ⟨p, 0, none⟩ ∧ iv = i ∧ StackW w' q l') := by
  rcases List.eq_nil_or_concat l with rfl | ⟨l', x, rfl⟩
  · refine (stackPop_none h).mono ?_
    rintro e w' ⟨rfl, hb⟩
    exact ⟨none, 0, rfl, ⟨hb.os, hb.tape, hb.output, hb.size, fun j hj _ => hb.block j hj⟩, .inl ⟨rfl, h.heap (hb.block q h.lt)⟩⟩
  · obtain ⟨p, i⟩ := x
    rw [List.concat_eq_append] at h ⊢
    refine (stackPop_some h).mono ?_
    rintro e w' ⟨rfl, hs, hg⟩
    refine ⟨some ⟨p, 0, none⟩, i, ?_, hg, .inr ⟨l', p, i, rfl, rfl, rfl, hs⟩⟩
    rw [decide_eq_true (by simp)]
    rfl

/-- Where the way up stands: what is left of the path, the nodes at hand, and the step that was taken off. -/
structure SetS {d : Nat} (w : World) (S0 : Nat → Prop) (n0 k : Nat) (t : Tr d) (f : {m : Nat} → Tr m → List (Tr m)) (q xb : Nat) (v okv : Value) (pre : List (Nat × Nat)) (W : World) : Prop where
  ok : okv = .bool (!decide (pre = []))
  at' : ∃ (m : Nat) (s : Tr m) (ps : List Nat) (S : Nat → Prop), UpT w S0 k t pre m s ∧ OwnE encP 1 91 W n0 v ps ∧ KidsW W S ps (f s) ∧ Ext S0 n0 S W ∧ ¬ S q
  cell : ∃ op iv, W.heap[xb]? = some (.cells #[.pointer op, .int .i64 iv] 129 (0, 0)) ∧ (pre = [] ∨ ∃ (l : List (Nat × Nat)) (p i : Nat), pre = l ++ [(p, i)] ∧ op = some ⟨p, 0, none⟩ ∧ iv = i ∧ StackW W q l)
  below : Below n0 w W
  qn : n0 ≤ q
  xn : n0 ≤ xb
  ql : q < W.heap.size
theorem heap_two {w : World} {g : Nat} {x0 x1 : Value} {t : TypeId} (h : w.heap[g]? = some (.cells #[x0, x1] t (0, 0))) (a b : Value) : ((w.setCell ⟨g, 0, none⟩ a).setCell ⟨g, 1, none⟩ b).heap[g]? = some (.cells #[a, b] t (0, 0)) := by
  have e1 := heap_setCell_same w g 0 _ t a h
  have e2 := heap_setCell_same (w.setCell ⟨g, 0, none⟩ a) g 1 _ t b e1
  exact e2
theorem turn_two (w : World) (g : Nat) (a b : Value) : Turn g w ((w.setCell ⟨g, 0, none⟩ a).setCell ⟨g, 1, none⟩ b) :=
  ⟨rfl, rfl, rfl, by simp, fun j hj => by rw [heap_setCell_other _ _ j _ hj, heap_setCell_other _ _ j _ hj]⟩
/-- A step that was popped, laid into its variable. -/
theorem SetS.laid {d : Nat} {w : World} {S0 : Nat → Prop} {n0 k : Nat} {t : Tr d} {f : {m : Nat} → Tr m → List (Tr m)} {q xb : Nat} {v : Value} {l : List (Nat × Nat)} {W W2 : World} {op : Option Addr} {iv : Int}
    {m : Nat} {s : Tr m} {ps : List Nat} {S : Nat → Prop} (hup : UpT w S0 k t l m s) (hown : OwnE encP 1 91 W n0 v ps) (hkw : KidsW W S ps (f s)) (hext : Ext S0 n0 S W) (hq : ¬ S q) (hvq : v.ownBlock ≠ some q)
    (hg : W.grownBy W2 (some q)) (hx : W2.heap[xb]? = some (.cells #[.pointer op, .int .i64 iv] 129 (0, 0))) (hpop : l = [] ∨ ∃ (l' : List (Nat × Nat)) (p i : Nat), l = l' ++ [(p, i)] ∧ op = some ⟨p, 0, none⟩ ∧ iv = i ∧ StackW W2 q l')
    (hb : Below n0 w W) (hqn : n0 ≤ q) (hW : n0 ≤ W.heap.size) (hql : q < W.heap.size) (hxn : W.heap.size ≤ xb) :
    SetS w S0 n0 k t f q xb v (.bool (!decide (l = []))) l W2 := by
  have hlt := hext.lt
  have hs : Same S W W2 := fun j hj => hg.block j (hlt j hj) (fun e => hq (Option.some.inj e ▸ hj))
  exact ⟨rfl, ⟨m, s, ps, S, hup, hown.kept hg (.inr hvq), hkw.same hs, hext.later hg.size, hq⟩, ⟨op, iv, hx, hpop⟩, hb.grown hg hW (fun j hj => by cases hj; exact hqn), hqn, by omega, Nat.lt_of_lt_of_le hql hg.size⟩
end Go.Proofs.YtejhbaeeaejcaaaGreat
