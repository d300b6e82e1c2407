/- WHAT WAS SQUASHED HAS THE SAME END: behind a volume of 32 blocks, and writes and trims of it, all its bytes are the same, with fewer versions. Conditions: none but the statement's own. -/
import Derived.Test.YtfldlfladcfggaaGreatM33
import Derived.Test.YtfldlfladcfggaaGreatM35
import Derived.Test.YtfldlfladcfggaaGreatFacts
import Derived.Test.YtfldlfladcfggaaGreatRows
import Derived.WalkKit
import Derived.ProofKit
import Derived.OpenShut
import Derived.ShutString
import Derived.ChangeOld
import Derived.Below
namespace Go.Proofs.YtfldlfladcfggaaGreat.batchSame
open Go.ChangeShapes Go.WideShapes Go.ChangeAt Go.RowKit
open Go.ChangeMaps (open_string shut_string)
set_option linter.unusedVariables false

theorem own : ownKnob Tryz.prog.godebug = none := by kernel_rfl

set_option maxRecDepth 100000 in
theorem lifted (os : Os) (started : os.Started) (H : Type) (enc : TypeId × Value → H) :
    ReturnsInHanded {} Tryz.checked os 3 .any (Rows.batchSameSpec.pre6 enc Tryz.prog Tryz.f3 Rows.batchSameRow.domain false) (Rows.batchSameSpec.post enc Tryz.prog Tryz.f3 false true false false) := by
  refine returnsInHanded_of_change (C := Tryz.checked) own started (by kernel_rfl) Tryz.func3
    (ChangeSpec.witness6 (enc := enc) (C := Tryz.checked) false ⟨#[], #[.slice none 0 0], []⟩ 8 (by kernel_rfl) (by kernel_rfl) (by kernel_rfl) (by kernel_rfl)) ?_
  intro W base args ds gs before hval0 hW hcnd _
  have hval : ∀ (j : Nat) t v, Tryz.f3.params[j]? = some t → args[j]? = some v → Value.okWide Tryz.prog W .any base t v := hval0
  have hW' := hW
  obtain ⟨p, q, hA0, hV, rfl, hfz, hnd⟩ := hW
  have hA : DataW.TrodAll enc Tryz.prog W 0 (fun _ => true) true Tryz.f3.params.toList args.toList ds p := hA0
  rw [Tryz.params3] at hA hval
  obtain ⟨v0, vs0, d0, ds0, p0, q0, hargs, rfl, rfl, h0, r0⟩ := trodAll_cons hA
  obtain ⟨rfl, rfl, rfl⟩ := trodAll_nil r0
  obtain rfl : args = #[v0] := by cases args; simp_all
  obtain ⟨rfl, rfl⟩ := trodVars_none hV
  obtain ⟨a0, len0, cap0, rfl⟩ := okWide_slice Tryz.underlying22 (hval 0 22 v0 rfl rfl)
  have k0 := h0
  have lt0 : ∀ x ∈ p0, x.block < W.heap.size := by obtain ⟨m, hm⟩ := k0; exact DataW.trod_lt m _ _ _ hm
  clear hA0 hval0
  refine Calls.mono (R := fun e w' => e = .returned (.bool true) ∧ Below W.heap.size W w') ?walk fun e W' ⟨he, bel⟩ => ?_
  case walk =>
    obtain ⟨m0, hm0⟩ := k0
    obtain ⟨a1, n1, c1, l1, e0, h0⟩ := zqd (v := .slice a0 len0 cap0) (by simpa [Value.cells] using hm0)
    cases e0
    exact same56_any cap0 h0
  subst he
  exact ⟨_, rfl, _, _, _, [], _, [], hW', trodAll_mk1 (shut_bool Tryz.underlying4 _), (trodAll_cons_mk (Below.trod laidOutIs (by kernel_rfl) (of_decide_eq_true (by kernel_rfl)) k0 bel lt0) trodAll_mk0), rfl, bel.frame _, fun h => by cases h⟩

theorem closedInPlace : Tryz.prog.inPlace 3 = Rows.batchSameRow.inPlace := by kernel_rfl
theorem closedUnfollowed : Tryz.prog.unfollowed 3 = Rows.batchSameRow.unfollowed := by kernel_rfl
theorem closedRecurses : Tryz.prog.recurses 3 = Rows.batchSameRow.recurses := by kernel_rfl
theorem closedNamed : Tryz.prog.varsNamed 3 = Rows.batchSameRow.named := by kernel_rfl
theorem closed : joinedFacts Tryz.prog 3 Tryz.f3 Rows.batchSameSpec Rows.batchSameRow = true := by
  simp only [joinedFacts, laidOutIs, mapsRowedIs, plainKeysIs, stopsHeardIs, stopsIs, stopKnobsIs, mayEnterIs, liftsFinalIs, makeIs, closedInPlace, closedUnfollowed, closedRecurses, closedNamed]
  kernel_rfl
theorem named : Tryz.prog.funcNamed Rows.batchSameRow.func = some 3 := by kernel_rfl

theorem over : Rows.batchSameRow.holds Tryz.pinned (OpenSpec.ofChange Rows.batchSameSpec) :=
  OpenClaim.holds_of_wide 3 Tryz.f3 rfl rfl rfl rfl rfl rfl rfl ⟨rfl, rfl, rfl, rfl, rfl⟩ rfl rfl rfl rfl rfl named Tryz.func3 closed
    (of_decide_eq_true (by kernel_rfl)) (by unfold Func.isWrapper; first | (rw [if_pos (by decide +kernel)]; kernel_rfl) | (rw [if_neg (by decide +kernel)]; exact ⟨rfl, rfl⟩))
    (fun os started H enc _ => lifted os started H enc)

theorem proved : Rows.BatchSameSaid := over
#print axioms proved
end Go.Proofs.YtfldlfladcfggaaGreat.batchSame
