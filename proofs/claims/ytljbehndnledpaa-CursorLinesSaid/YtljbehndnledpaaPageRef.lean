/- The walk of yesteryearref05.Get at 128 bytes. Conditions: those of the theorem. -/
import Derived.Test.YtljbehndnledpaaSameB
import Derived.Deep.RegionWith
namespace Go.Proofs.Ytljbehndnledpaa
open Go.RowKit

/-- What is told of 128 bytes: the kind, if they are a page; else an error. -/
def PageEnds (l : List UInt8) (w : World) (e : Ending) (w' : World) : Prop :=
  Below w.heap.size w w' ∧ ∃ (k : Int) (v : Value) (f : Nat), e = .returned (.tuple #[.int .i64 k, v, .int .i64 f]) ∧ ((isPage l = true ∧ f = 0 ∧ k = ((l.getD 2 0).toNat : Int)) ∨ (isPage l = false ∧ f ≠ 0))

theorem bytes4 {l : List UInt8} (h : l.length = 128) : ∃ a b k n r, l = a :: b :: k :: n :: r ∧ r.length = 124 := by
  match l, h with
  | a :: b :: k :: n :: r, h => exact ⟨a, b, k, n, r, rfl, by simpa using h⟩

set_option maxRecDepth 100000 in
set_option maxHeartbeats 2000000 in
theorem refGet_any (b o cap : Nat) (l : List UInt8) (w : World) (h : Bs w (some ⟨b, o, none⟩) 128 l) (hcap : 128 ≤ cap) :
    Calls Try.prog 45 #[.slice (some ⟨b, o, none⟩) 128 cap] w (PageEnds l w) := by
  obtain ⟨x0, x1, k, n, r, rfl, hr⟩ := bytes4 h.length
  obtain ⟨b2, o2, k', e2, hk', hck, hbl⟩ := Bs.cell h 2 (by omega)
  cases e2
  obtain ⟨b3, o3, n', e3, hn', hcn, _⟩ := Bs.cell h 3 (by omega)
  cases e3
  simp at hk' hn'
  subst hk' hn'
  have hP : isPage (x0 :: x1 :: k :: n :: r) = (decide (1 ≤ k.toNat) && decide (k.toNat ≤ 6) && decide (n.toNat ≤ 120) && ((x0 :: x1 :: k :: n :: r) == pageP k (r.take n.toNat))) := rfl
  have hG : ((x0 :: x1 :: k :: n :: r).getD 2 0) = k := rfl
  have hbody := fun (hn : n.toNat ≤ 120) => Bs.piece h 4 n.toNat (by omega)
  simp only [List.drop_succ_cons, List.drop_zero] at hbody
  have hhead := Bs.piece h 0 124 (by omega)
  rw [Nat.add_zero, List.drop_zero] at hhead
  obtain ⟨l, hl⟩ : ∃ l, l = x0 :: x1 :: k :: n :: r := ⟨_, rfl⟩
  rw [← hl] at hP hG hhead h ⊢
  have HP := Lib.hid hP
  have HG := Lib.hid hG
  have HB := Lib.hid h
  have HBODY := Lib.hid hbody
  have HHEAD := Lib.hid hhead
  have hkb := k.toNat_lt
  have hnb := n.toNat_lt
  have hw1 : IntKind.i64.wrap (k.toNat : Int) = k.toNat := IntWalk.i64_in _ (by omega)
  have hw2 : IntKind.i64.wrap (n.toNat : Int) = n.toNat := IntWalk.i64_in _ (by omega)
  have hw3 : IntKind.i64.wrap (4 + (n.toNat : Int)) = 4 + n.toNat := IntWalk.i64_in _ (by omega)
  clear hP hG hbody hhead h hl hr
  by_cases hgood : 1 ≤ k.toNat ∧ k.toNat ≤ 6 ∧ n.toNat ≤ 120
  · obtain ⟨h1, h2, h3⟩ := hgood
    rw [decide_eq_true h1, decide_eq_true h2, decide_eq_true h3] at HP
    generalize r.take n.toNat = body at *
    go_enter Try.func45, Try.ntmps45
    go_wp2_with fail
    go_quiet (fail)
    rename_i nq _
    have hb1 := below_drewN (Below.refl w.heap.size w) nq
    have hk1 : (1 : Int) ≤ (k.toNat : Int) := by omega
    have hk2 : (k.toNat : Int) ≤ 6 := by omega
    have hn1 : (n.toNat : Int) ≤ 120 := by omega
    generalize w.drewN nq = w1 at *
    have hcap4 : ¬ cap = 4 := by omega
    have hput := refPage_any k b (o + 4) n.toNat (cap - 4) body w1 ((HBODY.out h3).below hb1 (Nat.le_refl _)) h3
    have HPUT := Lib.hid hput
    clear hput hck hcn
    go_wp2_with fail
    refine HPUT.out.mono ?_
    clear HPUT
    rintro e w2 ⟨v, rfl, ho, hb2⟩
    have hpl : (pageP k body).length = 128 := by
      have hbl := (HBODY.out h3).length
      unfold pageP
      rw [List.length_append, leN_length, headP_length k body (by omega)]
    generalize pageP k body = P at *
    rw [hpl] at ho
    obtain ⟨g, c, rfl⟩ := own_some ho (by omega)
    obtain ⟨a6, c6, e6, hbs, _⟩ := own_bs ho
    cases e6
    have hc := own_sl ho
    obtain ⟨_, _, e7, _, hcc⟩ := hc
    cases e7
    have hb3 := hb1.trans (hb2.mono hb1.size)
    have hX1 : Bs w2.drew (some ⟨b, o, none⟩) 124 (l.take 124) := HHEAD.out.below hb3.drew (Nat.le_refl _)
    have hhd := Bs.piece hbs 0 124 (by omega)
    rw [Nat.add_zero, List.drop_zero] at hhd
    have hX2 : Bs w2.drew (some ⟨g, 0, none⟩) 124 (P.take 124) := hhd.below (Below.refl _ _).drew (Nat.le_refl _)
    have HBS := Lib.hid hbs
    have HBY := Lib.hid (HBODY.out h3)
    clear hb2 ho hbs hhd HBODY
    obtain ⟨s1, hs1⟩ : ∃ s1, (l.take 124 == P.take 124) = s1 := ⟨_, rfl⟩
    have HS1 := Lib.hid hs1
    clear hs1
    go_wp2_with fail
    go_region_with (go_at_call 110; refine (sameB_any b o 124 cap g 0 124 c (l.take 124) (P.take 124) _ (by with_reducible exact hX1) (by with_reducible exact hX2) (by omega) (by omega)).mono ?_; rintro e w3 ⟨rfl, hb4⟩; simp only [HS1.out])
    all_goals
      have hb5 := hb3.trans (Below.trans (Below.refl w2.heap.size w2).drew hb4 |>.mono hb3.size)
    all_goals
      have hB3 : Bs w3 (some ⟨b, o, none⟩) 128 l := HB.out.below hb5 (Nat.le_refl _)
      have hP3 : Bs w3 (some ⟨g, 0, none⟩) 128 P := HBS.out.below ((Below.refl w2.heap.size w2).drew.trans hb4) (Nat.le_refl _)
      clear hX1 hX2 hb4
      cases s1
      · have hnp : isPage l = false := by
          rw [HP.out]
          simp only [Bool.true_and]
          rw [beq_eq_false_iff_ne]
          intro e
          have := HS1.out
          rw [e] at this
          simp at this
        have HNP := Lib.hid hnp
        clear hnp hB3 hP3 HP HS1
        go_wp2_with fail
        go_ret3
        exact ⟨hb5, _, _, 21, rfl, .inr ⟨HNP.out, by omega⟩⟩
      · obtain ⟨s2, hs2⟩ : ∃ s2, (l == P) = s2 := ⟨_, rfl⟩
        have hsame := sameB_any b o 128 cap g 0 128 c l P w3 hB3 hP3 (by omega) (by omega)
        have HPX := HP.out
        rw [hs2] at hsame HPX
        simp only [Bool.true_and] at HPX
        have HSAME := Lib.hid hsame
        have HPP := Lib.hid HPX
        clear hs2 hsame HPX hP3 HP HS1
        go_wp2_with fail
        refine HSAME.out.mono ?_
        rintro e w4 ⟨rfl, hb6⟩
        have hb7 := hb5.trans (hb6.mono hb5.size)
        clear hb6 HSAME hB3
        cases s2
        · go_wp2_with fail
          go_ret3
          exact ⟨hb7, _, _, 22, rfl, .inr ⟨HPP.out, by omega⟩⟩
        · have hbody := HBY.out.below hb7 (Nat.le_refl _)
          have hbody4 : Bs w4 (some ⟨b, o + 4, none⟩) (4 + n.toNat - 4) body := by rw [show 4 + n.toNat - 4 = n.toNat by omega]; exact hbody
          obtain ⟨v', w', hap, _, hb8⟩ := clone_run (cap - 4) hbody4 (by omega)
          have hb9 := hb7.trans (hb8.mono hb7.size)
          clear hbody hbody4 hb8
          go_wp2_with (at_builtin; refine wpList_append_run rfl _ _ _ rfl hap ?_)
          go_ret3
          exact ⟨hb9, _, _, 0, rfl, .inl ⟨HPP.out, rfl, by rw [HG.out]⟩⟩
  · have hnp : isPage l = false := by
      rw [HP.out]
      by_cases h1 : 1 ≤ k.toNat
      · by_cases h2 : k.toNat ≤ 6
        · have h3 : ¬ n.toNat ≤ 120 := fun h => hgood ⟨h1, h2, h⟩
          simp [h3]
        · simp [h2]
      · simp [h1]
    have HNP := Lib.hid hnp
    clear hnp HP HBODY
    go_enter Try.func45, Try.ntmps45
    go_wp2_with fail
    go_quiet (fail)
    rename_i nq _
    have hb1 := below_drewN (Below.refl w.heap.size w) nq
    have hg3 : ¬ ((1 ≤ (k.toNat : Int) ∧ (k.toNat : Int) ≤ 6) ∧ (n.toNat : Int) ≤ 120) := by omega
    generalize w.drewN nq = w1 at *
    go_wp2_with fail
    all_goals
      go_ret3
      exact ⟨hb1, _, _, 21, rfl, .inr ⟨HNP.out, by omega⟩⟩
end Go.Proofs.Ytljbehndnledpaa
