/- The walk of export.Put. Conditions: those of each theorem. -/
import Derived.Test.YtljbehndnledpaaStep
import Derived.Test.YtljbehndnledpaaExport
import Derived.Deep.RegionLaw
import Derived.Test.YtljbehndnledpaaSplit
namespace Go.Proofs.Ytljbehndnledpaa
open Go.RowKit

theorem packL_pos (l : List UInt8) (h : 0 < l.length) : 0 < (packL l).length := by
  cases l with
  | nil => simp at h
  | cons c r =>
    cases h2 : two (c :: r) with
    | true => rw [packL_two _ h2]; simp
    | false => rw [packL_plain _ (by simp) h2]; simp

/-- How Put ends. -/
def PutEnds (z : Int) (n : Nat) (l : List UInt8) (w : World) (e : Ending) (w' : World) : Prop :=
  Below w.heap.size w w' ∧ ((rightT z n = false ∧ e = .returned (.tuple #[.slice none 0 0, .int .i64 10])) ∨
    (rightT z n = true ∧ ∃ v, e = .returned (.tuple #[v, .int .i64 0]) ∧ w'.ownsRow w.heap.size 5 1 v (UInt8.ofNat z.toNat :: packL l).length (cellsOfB (UInt8.ofNat z.toNat :: packL l))))

set_option maxRecDepth 100000 in
set_option maxHeartbeats 2000000 in
theorem put_any (z : Int) (a : Option Addr) (n cap : Nat) (l : List UInt8) (w : World) (h : Bs w a n l) (hcap : n ≤ cap) :
    Calls Try.prog 37 #[.agg #[.int .i64 z, .slice a n cap]] w (PutEnds z n l w) := by
  cases hr : rightT z n with
  | false =>
    have hR := right_any z a n cap (w.alloc (.cells #[.int .i64 z, .slice a n cap] 56)) false (Lib.hid hr)
    have HR := Lib.hid hR
    have HE := Lib.hid hr
    clear hR hr
    go_enter Try.func37, Try.ntmps37
    go_wp2_with fail
    refine HR.out.mono ?_
    rintro e w1 ⟨rfl, hb1⟩
    go_wp2_with fail
    go_ret2
    exact ⟨((Below.refl _ _).alloc (Nat.le_refl _) _).trans (hb1.mono (by simp)), .inl ⟨HE.out, rfl⟩⟩
  | true =>
    have hz := of_decide_eq_true hr
    obtain ⟨k, rfl⟩ : ∃ k : Nat, z = k := ⟨z.toNat, by omega⟩
    obtain ⟨h1, h2, h3⟩ := hz
    have hR := right_any k a n cap (w.alloc (.cells #[.int .i64 k, .slice a n cap] 56)) true (Lib.hid hr)
    have HR := Lib.hid hR
    have HE := Lib.hid hr
    have HB := Lib.hid h
    have HL := Lib.hid h.length
    clear hR hr h
    go_enter Try.func37, Try.ntmps37
    go_wp2_with fail
    refine HR.out.mono ?_
    rintro e w1 ⟨rfl, hb1⟩
    go_wp2_with fail
    have hb0 : Below w.heap.size w w1 := ((Below.refl _ _).alloc (Nat.le_refl _) _).trans (hb1.mono (by simp))
    have c0 : w1.cell? ⟨w.heap.size, 0, none⟩ = some (.int .i64 k) := by rw [hb1.cell (by simp)]; simp
    have c1 : w1.cell? ⟨w.heap.size, 1, none⟩ = some (.slice a n cap) := by rw [hb1.cell (by simp)]; simp
    have hbw1 := hb1.size
    have hwd : IntKind.u64.wrap (k : Int) = k := by rw [IntKind.wrap_u64]; omega
    have hlt : w.heap.size < w1.heap.size := by have := hb1.size; simp at this; omega
    clear hb1 hbw1
    have hB1 : Bs w1 a n l := HB.out.below hb0 (by omega)
    go_region_law (first
      | (refine step_call (o := ⟨some 10, _, _, _, _, _⟩) rfl 103 Try.func103 (by kernel_rfl) rfl _ _ rfl #[.slice none 0 0, .int .u64 k, .int .i64 1] (by simp [Act.eval, Act.put]) (put1_any k _ (by omega)) ?_
         rintro e w2 ⟨v2, rfl, ho2, hb2⟩
         refine ⟨v2, rfl, ?_⟩
         have hb3 := hb0.drew.trans (hb2.mono hb0.drew.size)
         have c2 : w2.cell? ⟨w.heap.size, 1, none⟩ = some (.slice a n cap) := by rw [hb2.cell (by exact hlt)]; exact c1)
      | (have hbp : Bs w2 a n l := HB.out.below hb3 (Nat.le_refl _)
         refine step_call (o := ⟨some 13, _, _, _, _, _⟩) rfl 104 Try.func104 (by kernel_rfl) rfl _ _ rfl #[.slice a n cap] (by simp [Act.eval]) (pack_any a n cap l _ hbp (by omega) hcap) ?_
         rintro e w3 ⟨v3, rfl, ho3, hb4⟩
         refine ⟨v3, rfl, ?_⟩
         have hb5 := hb3.trans (hb4.mono hb3.size)
         have ho4 := own_keep ho2 hb4
         have hne : 0 < (packL l).length := packL_pos l (by rw [HL.out]; omega)
         obtain ⟨g3, cap3, rfl⟩ := own_some ho3 hne
         obtain ⟨a6, cap6, e6, hbs6, _⟩ := own_bs ho3
         cases e6
         have hpl := packL_len l
         rw [HL.out] at hpl
         obtain ⟨v7, w7, hap, ho7, hg7⟩ := app_src ho4 cap3 hbs6 (by simp; omega) (Nat.le_trans hb2.size hb4.size)
         have hb7 := Below.own hb5 ho4 hg7 hb0.size hb5.size
         clear hpl hne hbs6 hbp)
      | (refine step_append_run (o := ⟨some 14, _, _, _, _, _⟩) rfl _ _ _ rfl hap ?_))
    all_goals
      go_wp2_with fail
      go_ret2
      exact ⟨hb7, .inr ⟨HE.out, v7, rfl, ownsRow_base ho7 hb0.size⟩⟩
end Go.Proofs.Ytljbehndnledpaa
