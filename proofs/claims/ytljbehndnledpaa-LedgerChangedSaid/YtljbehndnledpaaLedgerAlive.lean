/- The walk of yesteryearlaw63.alive. Conditions: those of each theorem. -/
import Derived.Test.YtljbehndnledpaaPages2
namespace Go.Proofs.Ytljbehndnledpaa
open Go.RowKit

set_option maxRecDepth 100000 in
set_option maxHeartbeats 4000000 in
theorem ledgerAlive_any (w : World) : Calls Try.prog 80 #[] w fun e w' => e = .returned (.bool true) ∧ Below w.heap.size w w' := by
  have hlg : longest (runsF (fun j => !decide (1 = j)) 3) = some (1, 1) := by decide
  have HLG := Lib.hid hlg
  clear hlg
  go_enter Try.func80, Try.ntmps80
  go_wp2_with fail
  refine (bmNew_any 3 w (by omega)).mono ?_
  rintro e w1 ⟨v, rfl, m, g, rfl, hbm, hm, hg, hb1⟩
  have hset := bmSet_any m g 3 _ 1 w1 hbm (by omega)
  have HS := Lib.hid hset
  clear hbm hset
  go_wp2_with fail
  refine HS.out.mono ?_
  rintro e w2 ⟨⟨bb, rfl⟩, T', hT', hTf', hgr⟩
  have hbw2 : Below w.heap.size w w2 := hb1.grown hgr hb1.size (fun q hq => by cases hq; exact hg)
  have hF : BmF w2 m g 3 (fun j => decide (1 = j)) := ⟨T', hT', fun j hj => by
    rw [hTf', bitOf_zero, Bool.false_or, decide_eq_decide]
    omega⟩
  have hroom := room_any m g 3 _ w2 hF (by omega)
  rw [HLG.out] at hroom
  have HR := Lib.hid hroom
  clear hT' hTf' hgr hF hroom
  go_wp2_with fail
  refine HR.out.mono ?_
  rintro e w3 ⟨rfl, hb3⟩
  unfold longV
  go_wp2_with fail
  go_ret
  exact ⟨rfl, (hbw2.trans (hb3.mono hbw2.size)).alloc (by have := hbw2.size; have := hb3.size; omega) _⟩
end Go.Proofs.Ytljbehndnledpaa
