/- For every operation the law ScriptLines returns true, and its argument reads behind the call as it read before. No condition. -/
import Derived.Test.YtljbehndnledpaaScriptLinesLaw
import Derived.Test.YtljbehndnledpaaOpenOp
import Derived.Test.YtljbehndnledpaaFacts
import Derived.Test.YtljbehndnledpaaRows
import Derived.WalkKit
import Derived.ProofKit
import Derived.OpenShut
import Derived.ShutString
import Derived.ChangeOld
import Derived.Below
namespace Go.Proofs.Ytljbehndnledpaa.scriptLines
open Go.ChangeShapes Go.WideShapes Go.ChangeAt Go.RowKit
open Go.ChangeMaps (open_string shut_string)
set_option linter.unusedVariables false

theorem own : ownKnob Try.prog.godebug = none := by kernel_rfl

set_option maxRecDepth 100000 in
theorem lifted (os : Os) (started : os.Started) (H : Type) (enc : TypeId × Value → H) :
    ReturnsInHanded {} Try.checked os 11 .any (Rows.scriptLinesSpec.pre6 enc Try.prog Try.f11 Rows.scriptLinesRow.domain false) (Rows.scriptLinesSpec.post enc Try.prog Try.f11 false true false false) := by
  refine returnsInHanded_of_change (C := Try.checked) own started (by kernel_rfl) Try.func11
    (ChangeSpec.witness6 (enc := enc) (C := Try.checked) false ⟨#[], #[.agg #[.int .i64 0, .int .i64 0, .int .i64 0, .int .i64 0, .int .i64 0, .int .u64 0, .slice none 0 0, .slice none 0 0]], []⟩ 8 (by kernel_rfl) (by kernel_rfl) (by kernel_rfl) (by kernel_rfl)) ?_
  intro W base args ds gs before hval0 hW hcnd _
  have hval : ∀ (j : Nat) t v, Try.f11.params[j]? = some t → args[j]? = some v → Value.okWide Try.prog W .any base t v := hval0
  have hW' := hW
  obtain ⟨p, q, hA0, hV, rfl, hfz, hnd⟩ := hW
  have hA : DataW.TrodAll enc Try.prog W 0 (fun _ => true) true Try.f11.params.toList args.toList ds p := hA0
  rw [Try.params11] at hA hval
  obtain ⟨v0, vs0, d0, ds0, p0, q0, hargs, rfl, rfl, h0, r0⟩ := trodAll_cons hA
  obtain ⟨rfl, rfl, rfl⟩ := trodAll_nil r0
  obtain rfl : args = #[v0] := by cases args; simp_all
  obtain ⟨rfl, rfl⟩ := trodVars_none hV
  have k0 := h0
  have lt0 : ∀ x ∈ p0, x.block < W.heap.size := by obtain ⟨m, hm⟩ := k0; exact DataW.trod_lt m _ _ _ hm
  clear hA0 hval0
  refine Calls.mono (R := fun e w' => e = .returned (.bool true) ∧ Below W.heap.size W w') ?walk fun e W' ⟨he, bel⟩ => ?_
  case walk =>
    obtain ⟨o, da, ma, dc, mc, rfl, hin⟩ := op_of_trod (hval 0 80 v0 rfl rfl) k0
    exact scriptLines_law o.k o.v o.i o.b o.n o.pt o.d o.m da ma _ dc _ mc W hin.d hin.m hin.pt0 hin.pt1
  subst he
  exact ⟨_, rfl, _, _, _, [], _, [], hW', trodAll_mk1 (shut_bool Try.underlying4 _), (trodAll_cons_mk (Below.trod laidOutIs (by kernel_rfl) (of_decide_eq_true (by kernel_rfl)) k0 bel lt0) trodAll_mk0), rfl, bel.frame _, fun h => by cases h⟩

theorem closedInPlace : Try.prog.inPlace 11 = Rows.scriptLinesRow.inPlace := by kernel_rfl
theorem closedUnfollowed : Try.prog.unfollowed 11 = Rows.scriptLinesRow.unfollowed := by kernel_rfl
theorem closedRecurses : Try.prog.recurses 11 = Rows.scriptLinesRow.recurses := by kernel_rfl
theorem closedNamed : Try.prog.varsNamed 11 = Rows.scriptLinesRow.named := by kernel_rfl
theorem closed : joinedFacts Try.prog 11 Try.f11 Rows.scriptLinesSpec Rows.scriptLinesRow = true := by
  simp only [joinedFacts, laidOutIs, mapsRowedIs, plainKeysIs, stopsHeardIs, stopsIs, stopKnobsIs, mayEnterIs, liftsFinalIs, makeIs, closedInPlace, closedUnfollowed, closedRecurses, closedNamed]
  kernel_rfl
theorem named : Try.prog.funcNamed Rows.scriptLinesRow.func = some 11 := by kernel_rfl

theorem over : Rows.scriptLinesRow.holds Try.pinned (OpenSpec.ofChange Rows.scriptLinesSpec) :=
  OpenClaim.holds_of_wide 11 Try.f11 rfl rfl rfl rfl rfl rfl rfl ⟨rfl, rfl, rfl, rfl, rfl⟩ rfl rfl rfl rfl rfl named Try.func11 closed
    (of_decide_eq_true (by kernel_rfl)) (by unfold Func.isWrapper; first | (rw [if_pos (by decide +kernel)]; kernel_rfl) | (rw [if_neg (by decide +kernel)]; exact ⟨rfl, rfl⟩))
    (fun os started H enc _ => lifted os started H enc)

theorem proved : Rows.ScriptLinesSaid := over
#print axioms proved
end Go.Proofs.Ytljbehndnledpaa.scriptLines
