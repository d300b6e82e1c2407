/- The walk of ledger.Pages. Conditions: those of each theorem. -/
import Derived.Test.YtljbehndnledpaaPages
namespace Go.Proofs.Ytljbehndnledpaa
open Go.RowKit

def lenV : Value → Nat
  | .slice _ n _ => n
  | _ => 0

set_option maxRecDepth 100000 in
set_option maxHeartbeats 1000000 in
theorem clone108 (b o n cap : Nat) (l : List UInt8) (w : World) (h : Bs w (some ⟨b, o, none⟩) n l) (hn : n ≤ 10000000000) :
    Calls Try.prog 108 #[.slice (some ⟨b, o, none⟩) n cap] w fun e w' => ∃ v, e = .returned v ∧ w'.ownsRow w.heap.size 5 1 v l.length (cellsOfB l) ∧ Below w.heap.size w w' := by
  obtain ⟨v', w', hap, ho, hb⟩ := clone_run cap h hn
  have q22 : (binOp .eql 37 (.slice (some ⟨b, o, none⟩) n cap) (.slice none 0 0)).run Try.prog w = .ok (.bool false) w := Lib.run_eql_slice_nil w _ _ _ n cap 0 0 Try.underlying37
  go_enter Try.func108, Try.ntmps108
  go_wp2_with (at_builtin; refine wpList_append_run rfl _ _ _ rfl hap ?_)
  go_ret
  exact ⟨v', rfl, ho, hb⟩

theorem part_cut {w : World} {g o c : Nat} {x : List UInt8} (h : Bs w (some ⟨g, o, none⟩) x.length x) (hg : IsB w g) (hc : x.length ≤ c) (h120 : 120 < x.length) :
    Bs w (some ⟨g, o, none⟩) 120 (x.take 120) ∧ Part w (.slice (some ⟨g, o + 120, none⟩) (x.length - 120) (c - 120)) (x.drop 120) := by
  have hcell : ∀ i, i < x.length → w.cell? ⟨g, o + i, none⟩ = some (.int .u8 ((x.getD i 0).toNat : Int)) := fun i hi => by
    obtain ⟨b', o', ch, ha, hc, hcell, _⟩ := Bs.cell h i hi
    cases ha
    rw [hcell]
    simp [List.getD, hc]
  refine ⟨Is.mk' (by simp; omega) fun i hi => ?_, some ⟨g, o + 120, none⟩, c - 120, by simp, Is.mk' (by simp) fun i hi => ?_, by simp; omega, fun _ => ⟨g, o + 120, rfl, hg⟩⟩
  · rw [hcell i (by omega)]
    simp [List.getD, List.getElem?_take_of_lt hi]
    cases hq : x[i]? with
    | none => have := List.getElem?_eq_none_iff.1 hq; omega
    | some y => simp
  · simp at hi
    rw [show o + 120 + i = o + (120 + i) by omega, hcell _ (by omega)]
    simp [List.getD]
    cases hq : x[120 + i]? with
    | none => have := List.getElem?_eq_none_iff.1 hq; omega
    | some y => simp

set_option maxRecDepth 100000 in
set_option maxHeartbeats 4000000 in
theorem pages_any (m g n : Nat) (T : List UInt8) (w : World) (h : Bmap w m g n T) (hn : n ≤ 1000000) :
    Calls Try.prog 78 #[.pointer (some ⟨m, 0, none⟩)] w fun e w' => ∃ v, e = .returned v ∧ OwnPages w' w.heap.size v (pagesR T.length T) ∧ Below w.heap.size w w' := by
  have hTl : T.length ≤ 1000000 := by rw [h.len]; omega
  have hpl := pagesR_len T.length T
  have hby := bmBytes_any m g n T w h hn
  have HBY := Lib.hid hby
  clear hby h
  go_enter Try.func78, Try.ntmps78
  go_wp2_with fail
  refine HBY.out.mono ?_
  rintro e w1 ⟨v, rfl, ho, hb1⟩
  have hp1 := part_own ho rfl
  clear ho
  obtain ⟨a, c, rfl, hbs1, hc1, hag1⟩ := hp1
  have HP1 : Hid (Part w1 (.slice a T.length c) T) := Lib.hid ⟨a, c, rfl, hbs1, hc1, hag1⟩
  clear hbs1 hag1
  go_wp2_with fail
  go_loopw [3, 4] (fun u3 u4 wr => ∃ (A : List (List UInt8)) (x : List UInt8) (f : Nat), pagesR T.length T = A ++ pagesR f x ∧ x.length ≤ f ∧ Part wr u3 x ∧ OwnPages wr w.heap.size u4 A ∧ Below w.heap.size w wr) (fun u3 _ _ => lenV u3)
  case atStart => exact ⟨[], T, T.length, rfl, Nat.le_refl _, HP1.out, ⟨[], World.ownsRow_nil _ _ _ _, fun i x hx => by simp at hx⟩, hb1⟩
  case round =>
    obtain ⟨A, x, f, hA, hxf, hpx, hown, hbw⟩ := hrel
    obtain ⟨a', c', rfl, hbs, hxc, hag⟩ := hpx
    have hAl : A.length ≤ T.length := by
      have := congrArg List.length hA
      have hp := pagesR_pos f x
      simp at this
      omega
    by_cases h120 : 120 < x.length
    · obtain ⟨b, o, rfl, hib⟩ := hag (by omega)
      obtain ⟨f', rfl⟩ : ∃ f', f = f' + 1 := ⟨f - 1, by omega⟩
      have e : pagesR (f' + 1) x = x.take 120 :: pagesR f' (x.drop 120) := by simp [pagesR, h120]
      rw [e] at hA
      obtain ⟨p1, p2⟩ := part_cut hbs hib hxc h120
      have hcl := clone108 b o 120 c' (x.take 120) wr p1 (by omega)
      have HCL := Lib.hid hcl
      have HP2 := Lib.hid p2
      have HA := Lib.hid hA
      have HOW := Lib.hid hown
      have i1 : (120 : Int) < (x.length : Int) := by omega
      have i2 : (120 : Int) ≤ (x.length : Int) := by omega
      have i3 : (120 : Int) ≤ (c' : Int) := by omega
      have i4 : (x.length : Int) ≤ (c' : Int) := by omega
      have hl120 : (x.take 120).length = 120 := by simp; omega
      clear hcl p1 p2 hA hown hbs hag hib e
      go_wp2_with fail
      refine HCL.out.mono ?_
      rintro e w2 ⟨v, rfl, ho, hb2⟩
      have hpp := part_own ho rfl
      have how2 := HOW.out.stays hb2 (Nat.le_refl _)
      obtain ⟨a9, c9, hv, -⟩ := id hpp
      rw [hl120] at hv
      subst hv
      obtain ⟨v', w', hap, hown', hgr⟩ := how2.push hpp (by omega) (by have := hbw.size; have := hb2.size; omega)
      have hbw2 := hbw.trans (hb2.mono hbw.size)
      have hp2' : Part w' (.slice (some ⟨b, o + 120, none⟩) (x.length - 120) (c' - 120)) (x.drop 120) := by
        obtain ⟨vs, r1, -⟩ := how2
        exact (HP2.out.below hb2 (Nat.le_refl _)).grown r1 hgr
      have hbw3 : Below w.heap.size w w' := by
        obtain ⟨vs, r1, -⟩ := how2
        exact Below.own hbw2 r1 hgr (Nat.le_refl _) hbw2.size
      have HO' := Lib.hid hown'
      have HP3 := Lib.hid hp2'
      clear hown' hp2' how2 hpp ho hgr
      go_wp2_with (at_builtin; refine wpList_append_run rfl _ _ _ rfl hap ?_)
      exact ⟨⟨A ++ [x.take 120], x.drop 120, f', by rw [HA.out]; simp, by simp; omega, HP3.out, HO'.out, hbw3⟩, by simp [lenV]; omega⟩
    · rw [pagesR_end f x (by omega)] at hA
      have hpx : Part wr (.slice a' x.length c') x := ⟨a', c', rfl, hbs, hxc, hag⟩
      obtain ⟨v', w', hap, hown', hgr⟩ := hown.push hpx (by omega) hbw.size
      have hbw3 : Below w.heap.size w w' := by
        obtain ⟨vs, r1, -⟩ := hown
        exact Below.own hbw r1 hgr (Nat.le_refl _) hbw.size
      rw [← hA] at hown'
      have HO' := Lib.hid hown'
      clear hown' hown hpx hbs hag hgr hA
      go_wp2_with (at_builtin; refine wpList_append_run rfl _ _ _ rfl hap ?_)
      go_ret
      exact ⟨_, rfl, HO'.out, hbw3⟩
end Go.Proofs.Ytljbehndnledpaa
