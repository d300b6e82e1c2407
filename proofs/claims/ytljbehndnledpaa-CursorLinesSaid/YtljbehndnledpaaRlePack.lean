/- The walks of rle.Pack and yesteryearref09.two, Pack. Conditions: those of each theorem. -/
import Derived.Test.YtljbehndnledpaaStep
import Derived.Test.YtljbehndnledpaaRle
namespace Go.Proofs.Ytljbehndnledpaa
open Go.RowKit

/-- A piece of a slice that reads. -/
theorem Bs.piece {w : World} {b o n : Nat} {l : List UInt8} (h : Bs w (some ⟨b, o, none⟩) n l) (k m : Nat) (hk : k + m ≤ n) : Bs w (some ⟨b, o + k, none⟩) m ((l.drop k).take m) := by
  have hl := h.length
  refine Is.mk' (by simp; omega) fun i hi => ?_
  obtain ⟨b', o', c, ha, hc, hcell, _⟩ := h.cell (k + i) (by omega)
  cases ha
  rw [Nat.add_assoc, hcell, map_getD _ i (by simp; omega)]
  have : ((l.drop k).take m)[i]'(by simp; omega) = c := by
    rw [List.getElem_take, List.getElem_drop]
    rw [List.getElem?_eq_getElem (by omega)] at hc
    simpa using hc
  rw [this]

set_option maxRecDepth 100000 in
set_option maxHeartbeats 2000000 in
theorem pack_any (a : Option Addr) (n cap : Nat) (l : List UInt8) (w : World) (h : Bs w a n l) (hn : n ≤ 1000000000) (hcap : n ≤ cap) :
    Calls Try.prog 104 #[.slice a n cap] w fun e w' => ∃ v, e = .returned v ∧ w'.ownsRow w.heap.size 5 1 v (packL l).length (cellsOfB (packL l)) ∧ Below w.heap.size w w' := by
  have HP := Lib.hid (packL_len l)
  have HL := Lib.hid h.length
  obtain ⟨P, hP⟩ : ∃ P, P = packL l := ⟨_, rfl⟩
  rw [← hP]
  have HPe := Lib.hid hP
  clear hP
  go_enter Try.func104, Try.ntmps104
  go_wp2_with fail
  go_loopw [3, 4] (fun u3 u4 wr => ∃ (k : Nat) (acc : List UInt8), k ≤ n ∧ u4 = .int .i64 k ∧ wr.ownsRow w.heap.size 5 1 u3 acc.length (cellsOfB acc) ∧ Below w.heap.size w wr ∧ Hid (acc ++ packL (l.drop k) = P)) (fun _ u4 _ => n - (intOf u4).toNat)
  case atStart => exact ⟨0, [], by omega, rfl, World.ownsRow_nil _ _ _ _, Below.refl _ _, Lib.hid (by rw [HPe.out]; rfl)⟩
  case round =>
    obtain ⟨k, acc, hk, rfl, hown, hbw, HA⟩ := hrel
    by_cases hlt : k < n
    · have hal : acc.length ≤ 2000000000 := by
        have h1 := congrArg List.length HA.out
        have h2 := HP.out
        rw [← HPe.out, HL.out] at h2
        rw [List.length_append] at h1
        omega
      have hw := h.below hbw (Nat.le_refl _)
      have hzz := zeros_any a n cap k l wr hw hn (by omega)
      have hzl := zf_le 128 (l.drop k)
      have htwo := zf_two 126 (l.drop k)
      have hdl : (l.drop k).length = n - k := by rw [List.length_drop, HL.out]
      rw [hdl] at hzl
      cases h2 : two (l.drop k) with
      | true =>
        have hq2 : 2 ≤ zf 128 (l.drop k) := htwo.2 h2
        have hpk := packL_two (l.drop k) h2
        rw [List.drop_drop] at hpk
        generalize zf 128 (l.drop k) = q at *
        have hbyte : (128 + (q : Int) - 1) = ((UInt8.ofNat (127 + q)).toNat : Int) := by rw [UInt8.toNat_ofNat']; omega
        have hnew : (acc ++ [UInt8.ofNat (127 + q)]) ++ packL (l.drop (k + q)) = P := by
          rw [List.append_assoc, List.singleton_append, ← hpk]; exact HA.out
        obtain ⟨q1, q2⟩ := hzl
        obtain ⟨v', w', hap, hown', hgr⟩ := app_byte hown _ _ hbyte (by omega) hbw.size
        have hbw' := Below.own hbw hown hgr (Nat.le_refl _) hbw.size
        have HZZ := Lib.hid hzz
        have HN := Lib.hid hnew
        clear hzz hnew hbyte hpk htwo h2 hdl hw
        go_wp2_with fail
        refine HZZ.out.mono ?_
        rintro e w1 ⟨rfl, rfl⟩
        go_wp2_with (at_builtin; refine wpList_append_run rfl _ _ _ rfl hap ?_)
        exact ⟨⟨k + q, _, by omega, by go_num, hown', hbw', HN⟩, by simp [intOf]; omega⟩
      | false =>
        have hq2 : ¬ 2 ≤ zf 128 (l.drop k) := fun h => by have := htwo.1 h; rw [h2] at this; cases this
        have hne : l.drop k ≠ [] := fun e => by rw [e] at hdl; simp at hdl; omega
        have hpk := packL_plain (l.drop k) hne h2
        rw [List.drop_drop] at hpk
        have hpl := plain_any a n cap k l wr hw hn (by omega)
        have hp0 : 0 < pf 128 (l.drop k) := pf_pos 127 _ hne h2
        have hp1 := pf_le 128 (l.drop k)
        rw [hdl] at hp1
        generalize zf 128 (l.drop k) = q at *
        generalize pf 128 (l.drop k) = p at *
        have hq3 : decide ((2 : Int) ≤ (q : Int)) = false := decide_eq_false (by omega)
        have hbyte : ((p : Int) - 1) = ((UInt8.ofNat (p - 1)).toNat : Int) := by rw [UInt8.toNat_ofNat']; omega
        have hnew : (acc ++ [UInt8.ofNat (p - 1)]) ++ (l.drop k).take p ++ packL (l.drop (k + p)) = P := by
          rw [← HA.out, hpk]; simp
        obtain ⟨p1, p2⟩ := hp1
        obtain ⟨v', w', hap, hown', hgr⟩ := app_byte hown _ _ hbyte (by omega) hbw.size
        have hbw' := Below.own hbw hown hgr (Nat.le_refl _) hbw.size
        obtain ⟨b, o, rfl, _⟩ := hw.at (by omega)
        have hsrc : Bs w' (some ⟨b, o + k, none⟩) (k + p - k) ((l.drop k).take p) := by
          rw [show k + p - k = p by omega]; exact Bs.piece (h.below hbw' (Nat.le_refl _)) k p (by omega)
        obtain ⟨v2, w2, hap2, hown2, hgr2⟩ := app_src hown' (cap - k) hsrc (by rw [List.length_append]; simp; omega) hbw'.size
        have hbw2 := Below.own hbw' hown' hgr2 (Nat.le_refl _) hbw'.size
        have HZZ := Lib.hid hzz
        have HPP := Lib.hid hpl
        have HN := Lib.hid hnew
        have hck : ¬ cap = k := by omega
        clear hzz hpl hnew hbyte hpk htwo h2 hdl hw hne hsrc
        go_wp2_with fail
        refine HZZ.out.mono ?_
        rintro e w1 ⟨rfl, rfl⟩
        go_wp2_with fail
        refine HPP.out.mono ?_
        rintro e w1 ⟨rfl, rfl⟩
        go_wp2_with (first | (at_builtin; refine wpList_append_run rfl _ _ _ rfl hap ?_) | (at_builtin; refine wpList_append_run rfl _ _ _ rfl hap2 ?_))
        exact ⟨⟨k + p, _, by omega, by go_num, hown2, hbw2, HN⟩, by simp [intOf]; omega⟩
    · have he : acc = P := by
        have := HA.out
        rw [List.drop_of_length_le (by rw [HL.out]; omega), packL_nil, List.append_nil] at this
        exact this
      subst he
      go_wp2_with fail
      go_ret
      exact ⟨_, rfl, hown, hbw⟩
end Go.Proofs.Ytljbehndnledpaa
