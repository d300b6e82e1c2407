/- The walk of yesteryearref09.Loose. Conditions: those of the theorem. -/
import Derived.Test.YtljbehndnledpaaRefPack
import Derived.Test.YtljbehndnledpaaZeros
import Derived.Lib.AppendZeros
namespace Go.Proofs.Ytljbehndnledpaa
open Go.RowKit

theorem own_shape {w : World} {base n : Nat} {v : Value} {c : List Value} (h : w.ownsRow base 5 1 v n c) : ∃ a cap, v = .slice a n cap := by
  rcases h.2 with ⟨rfl, h2⟩ | ⟨g, cap, cur, rfl, _⟩
  · subst h2; exact ⟨_, _, rfl⟩
  · exact ⟨_, _, rfl⟩

/-- What Loose (and Unpack) keep: what has been read, and what is left. -/
def LoRel (R : List UInt8 × Nat) (most : Nat) (w : World) (u0 u6 : Value) (wr : World) : Prop :=
  ∃ (a : Option Addr) (n cap : Nat) (rest acc : List UInt8), u0 = .slice a n cap ∧ n ≤ cap ∧ n ≤ 100000000 ∧ Hid (Bs w a n rest) ∧ wr.ownsRow w.heap.size 5 1 u6 acc.length (cellsOfB acc) ∧ acc.length + 128 * n ≤ 12800000000 ∧ Below w.heap.size w wr ∧ Hid (looseA rest most acc = R)

/-- How a reader of pieces ends. -/
def LooseEnds (R : List UInt8 × Nat) (w : World) (e : Ending) (w' : World) : Prop :=
  Below w.heap.size w w' ∧ ∃ v, e = .returned (.tuple #[v, .int .i64 (R.2 : Nat)]) ∧ w'.ownsRow w.heap.size 5 1 v R.1.length (cellsOfB R.1)

set_option maxRecDepth 100000 in
set_option maxHeartbeats 2000000 in
theorem loose_any (a : Option Addr) (n cap most : Nat) (l : List UInt8) (w : World) (h : Bs w a n l) (hn : n ≤ 100000000) (hcap : n ≤ cap) (hmost : most ≤ 1000000000) :
    Calls Try.prog 42 #[.slice a n cap, .int .i64 (most : Nat)] w (LooseEnds (looseA l most []) w) := by
  obtain ⟨R, hR⟩ : ∃ R, R = looseA l most [] := ⟨_, rfl⟩
  rw [← hR]
  have HR := Lib.hid hR
  have HB := Lib.hid h
  clear hR h
  go_enter Try.func42, Try.ntmps42
  go_wp2_with fail
  go_loopw [0, 6] (fun u0 u6 wr => LoRel R most w u0 u6 wr) (fun u0 _ _ => match u0 with | .slice _ m _ => m | _ => 0)
  case atStart => exact ⟨a, n, cap, l, [], rfl, hcap, hn, HB, World.ownsRow_nil _ _ _ _, by simp; omega, Below.refl _ _, Lib.hid (by rw [HR.out])⟩
  case round =>
    clear HB HR hn hcap
    obtain ⟨a, n, cap, l, acc, rfl, hcap, hn, HB, hown, hal, hbw, HA⟩ := hrel
    have HL := Lib.hid HB.out.length
    by_cases hpos : 0 < n
    · obtain ⟨b, o, c, rfl, hc, hck, hbl⟩ := Bs.cell (HB.out.below hbw (Nat.le_refl _)) 0 hpos
      rw [Nat.add_zero] at hck
      have hd : l = c :: l.drop 1 := by have := drop_cons hc; simpa using this
      have hA := HA.out
      rw [hd] at hA
      have hcb : c.toNat < 256 := c.toNat_lt
      have hB1 := Bs.tail_if HB.out 1 hpos hcap
      have hB1' := Bs.tail HB.out 1 hpos
      have hdl : (l.drop 1).length = n - 1 := by rw [List.length_drop, HL.out]
      generalize l.drop 1 = r at *
      clear hd hc HL HA HB
      by_cases h128 : c.toNat < 128
      · by_cases hshort : n - 1 < c.toNat + 1
        · have hR2 : R = ([], 20) := by rw [← hA]; exact looseA_short c r most acc h128 (by omega)
          clear hA hdl
          subst hR2
          clear hB1 hB1'
          obtain ⟨z, hz⟩ : ∃ z : Nat, z = c.toNat := ⟨_, rfl⟩
          rw [← hz] at *
          clear hz
          go_wp2_with fail
          all_goals
            go_ret2
            exact ⟨hbw, _, rfl, World.ownsRow_nil _ _ _ _⟩
        · have hc1 : ¬ cap = 1 := by omega
          have hsrc := Bs.piece hB1' 0 (c.toNat + 1) (by omega)
          rw [Nat.add_zero, List.drop_zero] at hsrc
          obtain ⟨v', w', hap, hown', hgr⟩ := app_src hown (cap - 1) (hsrc.below hbw (Nat.le_refl _)) (by omega) hbw.size
          have hbw' := Below.own hbw hown hgr (Nat.le_refl _) hbw.size
          obtain ⟨a2, cap2, rfl⟩ := own_shape hown'
          have ht := Bs.tail_if hB1' (c.toNat + 1) (by omega) (show n - 1 ≤ cap - 1 by omega)
          have ec : (cap - 1 = c.toNat + 1) = (cap = c.toNat + 2) := propext ⟨fun h => by omega, fun h => by omega⟩
          simp only [ec] at ht
          have htail := Lib.hid ht
          clear ht ec
          have hlen : (acc ++ r.take (c.toNat + 1)).length = acc.length + (c.toNat + 1) := by rw [List.length_append, List.length_take, hdl]; omega
          have hA1 := looseA_big1 c r most acc h128 (by omega)
          have hA2 := looseA_go1 c r most acc h128 (by omega)
          rw [hA] at hA1 hA2
          generalize acc ++ r.take (c.toNat + 1) = acc2 at *
          have HLN := Lib.hid hlen
          clear hlen hsrc hA hB1 hB1' hdl hgr hown
          by_cases hbig : most < acc2.length
          · have hR2 := hA1 hbig
            clear hA1 hA2 htail
            subst hR2
            have hgt : (most : Int) < (acc2.length : Int) := by omega
            go_wp2_with (at_builtin; refine wpList_append_run rfl _ _ _ rfl hap ?_)
            all_goals
              go_ret2
              exact ⟨hbw', _, rfl, World.ownsRow_nil _ _ _ _⟩
          · have HA := Lib.hid (hA2 hbig).symm
            have hal2 : acc2.length + 128 * (n - 1 - (c.toNat + 1)) ≤ 12800000000 := by rw [HLN.out]; omega
            clear hA1 hA2
            go_wp2_with (at_builtin; refine wpList_append_run rfl _ _ _ rfl hap ?_)
            all_goals
              exact ⟨⟨_, _, _, _, _, rfl, by omega, by omega, htail, hown', hal2, hbw', HA⟩, by simp only []; omega⟩
      · obtain ⟨v', w', hap, hown', hgr⟩ := app_zeros hown (c.toNat - 127) (by omega) (by omega) hbw.size
        rw [show ((c.toNat - 127 : Nat) : Int) = (c.toNat : Int) - 127 by omega] at hap
        have hbw' := Below.own hbw hown hgr (Nat.le_refl _) hbw.size
        obtain ⟨a2, cap2, rfl⟩ := own_shape hown'
        have hlen : (acc ++ List.replicate (c.toNat - 127) 0).length = acc.length + (c.toNat - 127) := by rw [List.length_append, List.length_replicate]
        have hA1 := looseA_big2 c r most acc h128
        have hA2 := looseA_go2 c r most acc h128
        rw [hA] at hA1 hA2
        generalize acc ++ List.replicate (c.toNat - 127) 0 = acc2 at *
        have HLN := Lib.hid hlen
        have htail := Lib.hid hB1
        have htail' := Lib.hid hB1'
        clear hlen hA hB1 hB1' hdl hgr hown
        by_cases hbig : most < acc2.length
        · have hR2 := hA1 hbig
          clear hA1 hA2 htail htail'
          subst hR2
          have hgt : (most : Int) < (acc2.length : Int) := by omega
          go_wp2_with (at_builtin; refine Lib.wpList_append_run _ rfl _ _ _ _ rfl _ _ rfl rfl _ _ hap ?_)
          all_goals
            go_ret2
            exact ⟨hbw', _, rfl, World.ownsRow_nil _ _ _ _⟩
        · have HA := Lib.hid (hA2 hbig).symm
          have hal2 : acc2.length + 128 * (n - 1) ≤ 12800000000 := by rw [HLN.out]; omega
          clear hA1 hA2
          go_wp2_with (at_builtin; refine Lib.wpList_append_run _ rfl _ _ _ _ rfl _ _ rfl rfl _ _ hap ?_)
          all_goals
            refine ⟨⟨_, _, _, _, _, rfl, by omega, by omega, ?_, hown', hal2, hbw', HA⟩, by simp only []; omega⟩
            first | exact htail | exact htail'
    · have hl0 : l = [] := List.eq_nil_of_length_eq_zero (by rw [HL.out]; omega)
      have he : R = (acc, 0) := by rw [← HA.out, hl0, looseA_nil]
      subst he
      clear hl0 HA
      go_wp2_with fail
      go_ret2
      exact ⟨hbw, _, rfl, hown⟩
end Go.Proofs.Ytljbehndnledpaa
