/- For every row of steps, every spot and every number the law HeatPlays returns true, and its arguments read behind the call as they read before. No condition. -/
import Derived.Test.YtljbehndnledpaaHeatLaw
import Derived.Test.YtljbehndnledpaaFacts
import Derived.Test.YtljbehndnledpaaRows
import Derived.WalkKit
import Derived.ProofKit
import Derived.OpenShut
import Derived.ShutString
import Derived.ChangeOld
import Derived.Below
namespace Go.Proofs.Ytljbehndnledpaa.heatPlays
open Go.ChangeShapes Go.WideShapes Go.ChangeAt Go.RowKit
open Go.ChangeMaps (open_string shut_string)
set_option linter.unusedVariables false

theorem own : ownKnob Try.prog.godebug = none := by kernel_rfl

set_option maxRecDepth 100000 in
theorem lifted (os : Os) (started : os.Started) (H : Type) (enc : TypeId × Value → H) :
    ReturnsInHanded {} Try.checked os 14 .any (Rows.heatPlaysSpec.pre6 enc Try.prog Try.f14 Rows.heatPlaysRow.domain false) (Rows.heatPlaysSpec.post enc Try.prog Try.f14 false true false false) := by
  refine returnsInHanded_of_change (C := Try.checked) own started (by kernel_rfl) Try.func14
    (ChangeSpec.witness6 (enc := enc) (C := Try.checked) false ⟨#[], #[.slice none 0 0, .agg #[.int .i64 0, .int .i64 0], .int .i64 0], []⟩ 8 (by kernel_rfl) (by kernel_rfl) (by kernel_rfl) (by kernel_rfl)) ?_
  intro W base args ds gs before hval0 hW hcnd _
  have hval : ∀ (j : Nat) t v, Try.f14.params[j]? = some t → args[j]? = some v → Value.okWide Try.prog W .any base t v := hval0
  have hW' := hW
  obtain ⟨p, q, hA0, hV, rfl, hfz, hnd⟩ := hW
  have hA : DataW.TrodAll enc Try.prog W 0 (fun _ => true) true Try.f14.params.toList args.toList ds p := hA0
  rw [Try.params14] at hA hval
  obtain ⟨v0, vs0, d0, ds0, p0, q0, hargs, rfl, rfl, h0, r0⟩ := trodAll_cons hA
  obtain ⟨v1, vs1, d1, ds1, p1, q1, rfl, rfl, rfl, h1, r1⟩ := trodAll_cons r0
  obtain ⟨v2, vs2, d2, ds2, p2, q2, rfl, rfl, rfl, h2, r2⟩ := trodAll_cons r1
  obtain ⟨rfl, rfl, rfl⟩ := trodAll_nil r2
  obtain rfl : args = #[v0, v1, v2] := by cases args; simp_all
  obtain ⟨rfl, rfl⟩ := trodVars_none hV
  obtain ⟨a0, len0, cap0, rfl⟩ := okWide_slice Try.underlying97 (hval 0 97 v0 rfl rfl)
  have k0 := h0
  have lt0 : ∀ x ∈ p0, x.block < W.heap.size := by obtain ⟨m, hm⟩ := k0; exact DataW.trod_lt m _ _ _ hm
  have k1 := h1
  have lt1 : ∀ x ∈ p1, x.block < W.heap.size := by obtain ⟨m, hm⟩ := k1; exact DataW.trod_lt m _ _ _ hm
  obtain ⟨a2, rfl, rfl, rfl, w2⟩ := open_int Try.underlying3 (hval 2 3 v2 rfl rfl) h2
  clear hA0 hval0
  refine Calls.mono (R := fun e w' => e = .returned (.bool true) ∧ Below W.heap.size W w') ?walk fun e W' ⟨he, bel⟩ => ?_
  case walk =>
    obtain ⟨l, hl⟩ := steps_of_trod k0
    obtain ⟨s, rfl, hs⟩ := spot_of_trod (hval 1 99 v1 rfl rfl) k1
    exact heatLaw_any a0 len0 cap0 l s a2 W hl hs
  subst he
  exact ⟨_, rfl, _, _, _, [], _, [], hW', trodAll_mk1 (shut_bool Try.underlying4 _), (trodAll_cons_mk (Below.trod laidOutIs (by kernel_rfl) (of_decide_eq_true (by kernel_rfl)) k0 bel lt0) (trodAll_cons_mk (Below.trod laidOutIs (by kernel_rfl) (of_decide_eq_true (by kernel_rfl)) k1 bel lt1) (trodAll_cons_mk (shut_int Try.underlying3 w2) trodAll_mk0))), rfl, bel.frame _, fun h => by cases h⟩

theorem closedInPlace : Try.prog.inPlace 14 = Rows.heatPlaysRow.inPlace := by kernel_rfl
theorem closedUnfollowed : Try.prog.unfollowed 14 = Rows.heatPlaysRow.unfollowed := by kernel_rfl
theorem closedRecurses : Try.prog.recurses 14 = Rows.heatPlaysRow.recurses := by kernel_rfl
theorem closedNamed : Try.prog.varsNamed 14 = Rows.heatPlaysRow.named := by kernel_rfl
theorem closed : joinedFacts Try.prog 14 Try.f14 Rows.heatPlaysSpec Rows.heatPlaysRow = true := by
  simp only [joinedFacts, laidOutIs, mapsRowedIs, plainKeysIs, stopsHeardIs, stopsIs, stopKnobsIs, mayEnterIs, liftsFinalIs, makeIs, closedInPlace, closedUnfollowed, closedRecurses, closedNamed]
  kernel_rfl
theorem named : Try.prog.funcNamed Rows.heatPlaysRow.func = some 14 := by kernel_rfl

theorem over : Rows.heatPlaysRow.holds Try.pinned (OpenSpec.ofChange Rows.heatPlaysSpec) :=
  OpenClaim.holds_of_wide 14 Try.f14 rfl rfl rfl rfl rfl rfl rfl ⟨rfl, rfl, rfl, rfl, rfl⟩ rfl rfl rfl rfl rfl named Try.func14 closed
    (of_decide_eq_true (by kernel_rfl)) (by unfold Func.isWrapper; first | (rw [if_pos (by decide +kernel)]; kernel_rfl) | (rw [if_neg (by decide +kernel)]; exact ⟨rfl, rfl⟩))
    (fun os started H enc _ => lifted os started H enc)

theorem proved : Rows.HeatPlaysSaid := over
#print axioms proved
end Go.Proofs.Ytljbehndnledpaa.heatPlays
