/- NO VOLUME CHANGES ANOTHER ONE: what is done with one changes no byte of another one, neither now nor at any point to which one may go back. Conditions: none but the statement's own. -/
import Derived.Test.YtaoceecfjlkmdaaGreatM53
import Derived.Test.YtaoceecfjlkmdaaGreatFacts
import Derived.Test.YtaoceecfjlkmdaaGreatRows
import Derived.WalkKit
import Derived.ProofKit
import Derived.OpenShut
import Derived.ShutString
import Derived.ChangeOld
import Derived.Below
namespace Go.Proofs.YtaoceecfjlkmdaaGreat.stateApart
open Go.ChangeShapes Go.WideShapes Go.ChangeAt Go.RowKit
open Go.ChangeMaps (open_string shut_string)
set_option linter.unusedVariables false

theorem own : ownKnob Tryz.prog.godebug = none := by kernel_rfl

set_option maxRecDepth 100000 in
theorem lifted (os : Os) (started : os.Started) (H : Type) (enc : TypeId × Value → H) :
    ReturnsInHanded {} Tryz.checked os 4 .any (Rows.stateApartSpec.pre6 enc Tryz.prog Tryz.f4 Rows.stateApartRow.domain false) (Rows.stateApartSpec.post enc Tryz.prog Tryz.f4 false true false false) := by
  refine returnsInHanded_of_change (C := Tryz.checked) own started (by kernel_rfl) Tryz.func4
    (ChangeSpec.witness6 (enc := enc) (C := Tryz.checked) false ⟨#[], #[.agg #[.int .i64 0, .int .i64 0, .int .u64 0, .int .u64 0, .int .u64 0, .int .u64 0], .agg #[.slice none 0 0, .int .i64 0, .int .i64 0, .int .i64 0, .int .i64 0, .int .i64 0, .int .u64 0, .slice none 0 0, .slice none 0 0], .agg #[.int .i64 0, .int .i64 0, .int .u64 0]], []⟩ 8 (by kernel_rfl) (by kernel_rfl) (by kernel_rfl) (by kernel_rfl)) ?_
  intro W base args ds gs before hval0 hW hcnd _
  have hval : ∀ (j : Nat) t v, Tryz.f4.params[j]? = some t → args[j]? = some v → Value.okWide Tryz.prog W .any base t v := hval0
  have hW' := hW
  obtain ⟨p, q, hA0, hV, rfl, hfz, hnd⟩ := hW
  have hA : DataW.TrodAll enc Tryz.prog W 0 (fun _ => true) true Tryz.f4.params.toList args.toList ds p := hA0
  rw [Tryz.params4] at hA hval
  obtain ⟨v0, vs0, d0, ds0, p0, q0, hargs, rfl, rfl, h0, r0⟩ := trodAll_cons hA
  obtain ⟨v1, vs1, d1, ds1, p1, q1, rfl, rfl, rfl, h1, r1⟩ := trodAll_cons r0
  obtain ⟨v2, vs2, d2, ds2, p2, q2, rfl, rfl, rfl, h2, r2⟩ := trodAll_cons r1
  obtain ⟨rfl, rfl, rfl⟩ := trodAll_nil r2
  obtain rfl : args = #[v0, v1, v2] := by cases args; simp_all
  obtain ⟨rfl, rfl⟩ := trodVars_none hV
  have k0 := h0
  have lt0 : ∀ x ∈ p0, x.block < W.heap.size := by obtain ⟨m, hm⟩ := k0; exact DataW.trod_lt m _ _ _ hm
  have k1 := h1
  have lt1 : ∀ x ∈ p1, x.block < W.heap.size := by obtain ⟨m, hm⟩ := k1; exact DataW.trod_lt m _ _ _ hm
  have k2 := h2
  have lt2 : ∀ x ∈ p2, x.block < W.heap.size := by obtain ⟨m, hm⟩ := k2; exact DataW.trod_lt m _ _ _ hm
  clear hA0 hval0
  refine Calls.mono (R := fun e w' => e = .returned (.bool true) ∧ Below W.heap.size W w') ?walk fun e W' ⟨he, bel⟩ => ?_
  case walk =>
    obtain ⟨cf, rfl, hcf⟩ := config40 (hval 0 24 v0 rfl rfl) k0
    obtain ⟨a0, n0, c0, l0, z, rfl, h0, hz⟩ := turn40 (hval 1 45 v1 rfl rfl) k1
    obtain ⟨vv, b, t, rfl, hb, ht⟩ := spot40 (hval 2 28 v2 rfl rfl) k2
    exact apart_any cf hcf c0 h0 (da := z.da) (dc := z.dc) (ma := z.ma) (mc := z.mc) hz vv b hb t ht rfl rfl
  subst he
  exact ⟨_, rfl, _, _, _, [], _, [], hW', trodAll_mk1 (shut_bool Tryz.underlying4 _), (trodAll_cons_mk (Below.trod laidOutIs (by kernel_rfl) (of_decide_eq_true (by kernel_rfl)) k0 bel lt0) (trodAll_cons_mk (Below.trod laidOutIs (by kernel_rfl) (of_decide_eq_true (by kernel_rfl)) k1 bel lt1) (trodAll_cons_mk (Below.trod laidOutIs (by kernel_rfl) (of_decide_eq_true (by kernel_rfl)) k2 bel lt2) trodAll_mk0))), rfl, bel.frame _, fun h => by cases h⟩

theorem closedInPlace : Tryz.prog.inPlace 4 = Rows.stateApartRow.inPlace := by kernel_rfl
theorem closedUnfollowed : Tryz.prog.unfollowed 4 = Rows.stateApartRow.unfollowed := by kernel_rfl
theorem closedRecurses : Tryz.prog.recurses 4 = Rows.stateApartRow.recurses := by kernel_rfl
theorem closedNamed : Tryz.prog.varsNamed 4 = Rows.stateApartRow.named := by kernel_rfl
theorem closed : joinedFacts Tryz.prog 4 Tryz.f4 Rows.stateApartSpec Rows.stateApartRow = true := by
  simp only [joinedFacts, laidOutIs, mapsRowedIs, plainKeysIs, stopsHeardIs, stopsIs, stopKnobsIs, mayEnterIs, liftsFinalIs, makeIs, closedInPlace, closedUnfollowed, closedRecurses, closedNamed]
  kernel_rfl
theorem named : Tryz.prog.funcNamed Rows.stateApartRow.func = some 4 := by kernel_rfl

theorem over : Rows.stateApartRow.holds Tryz.pinned (OpenSpec.ofChange Rows.stateApartSpec) :=
  OpenClaim.holds_of_wide 4 Tryz.f4 rfl rfl rfl rfl rfl rfl rfl ⟨rfl, rfl, rfl, rfl, rfl⟩ rfl rfl rfl rfl rfl named Tryz.func4 closed
    (of_decide_eq_true (by kernel_rfl)) (by unfold Func.isWrapper; first | (rw [if_pos (by decide +kernel)]; kernel_rfl) | (rw [if_neg (by decide +kernel)]; exact ⟨rfl, rfl⟩))
    (fun os started H enc _ => lifted os started H enc)

theorem proved : Rows.StateApartSaid := over
#print axioms proved
end Go.Proofs.YtaoceecfjlkmdaaGreat.stateApart
