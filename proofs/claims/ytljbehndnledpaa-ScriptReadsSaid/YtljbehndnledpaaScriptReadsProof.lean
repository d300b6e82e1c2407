/- For every text the law ScriptReads returns true, and its argument reads behind the call as it read before. No condition. -/
import Derived.Test.YtljbehndnledpaaScriptReadsLaw
import Derived.Test.YtljbehndnledpaaFacts
import Derived.Test.YtljbehndnledpaaRows
import Derived.WalkKit
import Derived.ProofKit
import Derived.OpenShut
import Derived.ShutString
import Derived.ChangeOld
import Derived.Below
namespace Go.Proofs.Ytljbehndnledpaa.scriptReads
open Go.ChangeShapes Go.WideShapes Go.ChangeAt Go.RowKit
open Go.ChangeMaps (open_string shut_string)
set_option linter.unusedVariables false

theorem own : ownKnob Try.prog.godebug = none := by kernel_rfl

set_option maxRecDepth 100000 in
theorem lifted (os : Os) (started : os.Started) (H : Type) (enc : TypeId × Value → H) :
    ReturnsInHanded {} Try.checked os 12 .any (Rows.scriptReadsSpec.pre6 enc Try.prog Try.f12 Rows.scriptReadsRow.domain false) (Rows.scriptReadsSpec.post enc Try.prog Try.f12 false true false false) := by
  refine returnsInHanded_of_change (C := Try.checked) own started (by kernel_rfl) Try.func12
    (ChangeSpec.witness6 (enc := enc) (C := Try.checked) false ⟨#[], #[.string ByteArray.empty], []⟩ 8 (by kernel_rfl) (by kernel_rfl) (by kernel_rfl) (by kernel_rfl)) ?_
  intro W base args ds gs before hval0 hW hcnd _
  have hval : ∀ (j : Nat) t v, Try.f12.params[j]? = some t → args[j]? = some v → Value.okWide Try.prog W .any base t v := hval0
  have hW' := hW
  obtain ⟨p, q, hA0, hV, rfl, hfz, hnd⟩ := hW
  have hA : DataW.TrodAll enc Try.prog W 0 (fun _ => true) true Try.f12.params.toList args.toList ds p := hA0
  rw [Try.params12] at hA hval
  obtain ⟨v0, vs0, d0, ds0, p0, q0, hargs, rfl, rfl, h0, r0⟩ := trodAll_cons hA
  obtain ⟨rfl, rfl, rfl⟩ := trodAll_nil r0
  obtain rfl : args = #[v0] := by cases args; simp_all
  obtain ⟨rfl, rfl⟩ := trodVars_none hV
  obtain ⟨a0, rfl, rfl, rfl, w0⟩ := open_string Try.underlying9 (hval 0 9 v0 rfl rfl) h0
  clear hA0 hval0
  simp only [List.append_nil] at hW'
  refine Calls.mono (R := fun e w' => e = .returned (.bool true) ∧ Below W.heap.size W w') ?walk fun e W' ⟨he, bel⟩ => ?_
  case walk =>
    exact scriptReads_law a0 W
  subst he
  exact ⟨_, rfl, _, _, _, [], _, [], hW', trodAll_mk1 (shut_bool Try.underlying4 _), (trodAll_cons_mk (shut_string Try.underlying9 w0) trodAll_mk0), rfl, bel.frame _, fun h => by cases h⟩

theorem closedInPlace : Try.prog.inPlace 12 = Rows.scriptReadsRow.inPlace := by kernel_rfl
theorem closedUnfollowed : Try.prog.unfollowed 12 = Rows.scriptReadsRow.unfollowed := by kernel_rfl
theorem closedRecurses : Try.prog.recurses 12 = Rows.scriptReadsRow.recurses := by kernel_rfl
theorem closedNamed : Try.prog.varsNamed 12 = Rows.scriptReadsRow.named := by kernel_rfl
theorem closed : joinedFacts Try.prog 12 Try.f12 Rows.scriptReadsSpec Rows.scriptReadsRow = true := by
  simp only [joinedFacts, laidOutIs, mapsRowedIs, plainKeysIs, stopsHeardIs, stopsIs, stopKnobsIs, mayEnterIs, liftsFinalIs, makeIs, closedInPlace, closedUnfollowed, closedRecurses, closedNamed]
  kernel_rfl
theorem named : Try.prog.funcNamed Rows.scriptReadsRow.func = some 12 := by kernel_rfl

theorem over : Rows.scriptReadsRow.holds Try.pinned (OpenSpec.ofChange Rows.scriptReadsSpec) :=
  OpenClaim.holds_of_wide 12 Try.f12 rfl rfl rfl rfl rfl rfl rfl ⟨rfl, rfl, rfl, rfl, rfl⟩ rfl rfl rfl rfl rfl named Try.func12 closed
    (of_decide_eq_true (by kernel_rfl)) (by unfold Func.isWrapper; first | (rw [if_pos (by decide +kernel)]; kernel_rfl) | (rw [if_neg (by decide +kernel)]; exact ⟨rfl, rfl⟩))
    (fun os started H enc _ => lifted os started H enc)

theorem proved : Rows.ScriptReadsSaid := over
#print axioms proved
end Go.Proofs.Ytljbehndnledpaa.scriptReads
