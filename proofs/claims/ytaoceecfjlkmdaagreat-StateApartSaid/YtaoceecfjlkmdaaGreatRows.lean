/-
  No cell of these rows narrows 'for every input' (looked for: loops, veiled, ifaces, maps, wideKeys, modest, calm, conditions, laid).
  DERIVED. THE GIVEN ROWS OF THIS SEAT. 3 by the template 'for every input the law returns true; each argument reads behind the call as it read before'; 0 by the template 'total and deterministic' (their statements: YtaoceecfjlkmdaaGreatTotals.lean).
  GIVEN WITH THE SEED: the statements are not yours to turn. If you find one false, say at which input.
  Laid BY PROGRAM, IN A SANDBOX (cutbox-rows.mjs): the forced cells as the released guide's own fill.sh prints them over the translation 204f0157d5ad5f8d… (all of the seat's roots in one cut). By AI agents, Wed Nov 11 2026. No macro, syntax, notation, axiom, sorry.
-/
import Derived.Test.YtaoceecfjlkmdaaGreatChecked
import GoSem.Claim
import GoSem.ClaimJoined
import GoSem.ClaimMapViews
import Derived.JoinedTies
import Derived.KernelRfl
namespace Go.Proofs.YtaoceecfjlkmdaaGreat
/- THE CELL 'sum', in the pinned program and in every row, IS THE sha256 OF THE DUMP (.gsa) THAT YtaoceecfjlkmdaaGreatProg.lean LOADS. Nothing in Lean hashes anything: it is a label: what it is worth is what the hold of that sum in a sandbox is worth. -/
noncomputable def Tryz.pinned : Pinned := { name := "ytaoceecfjlkmdaagreat", sum := "204f0157d5ad5f8d458029ac983e2a064f1b9ca70491a1aec24596d390686542", checked := Tryz.checked }
namespace Rows
def none {H : Type} : Left H := { results := [], args := [] }

/-- 'yesteryearlaw40.StateKeeps': WHATEVER THE INPUT: true; the input reads as it did. -/
def stateKeepsSpec : ChangeSpec := { name := "stateKeeps", fn := fun _ => fun
  | [d1, d2, d3] => { results := [.lit (.bool true)], args := [d1, d2, d3] }
  | _ => none }
def stateKeepsRow : OpenClaim := { program := "ytaoceecfjlkmdaagreat", sum := "204f0157d5ad5f8d458029ac983e2a064f1b9ca70491a1aec24596d390686542", func := "yesteryear/yesteryearlaw40.StateKeeps", spec := "stateKeeps", inPlace := ["math/bits.Add64", "math/bits.Sub64", "slices.overlaps[yesteryear/api.Entry]", "slices.overlaps[*yesteryear/node.Node]"], unfollowed := true, recurses := true, apart := false }
def StateKeepsSaid : Prop := stateKeepsRow.holds Tryz.pinned (OpenSpec.ofChange stateKeepsSpec)

/-- ITS FALSE NEIGHBOUR: 'it returns false'. Refute it at one input. -/
def stateKeepsWrong : ChangeSpec := { name := "stateKeeps", fn := fun _ => fun
  | [d1, d2, d3] => { results := [.lit (.bool false)], args := [d1, d2, d3] }
  | _ => none }
def StateKeepsWrongFalsely : Prop := stateKeepsRow.holds Tryz.pinned (OpenSpec.ofChange stateKeepsWrong)

/-- 'yesteryearlaw40.StateApart': WHATEVER THE INPUT: true; the input reads as it did. -/
def stateApartSpec : ChangeSpec := { name := "stateApart", fn := fun _ => fun
  | [d1, d2, d3] => { results := [.lit (.bool true)], args := [d1, d2, d3] }
  | _ => none }
def stateApartRow : OpenClaim := { program := "ytaoceecfjlkmdaagreat", sum := "204f0157d5ad5f8d458029ac983e2a064f1b9ca70491a1aec24596d390686542", func := "yesteryear/yesteryearlaw40.StateApart", spec := "stateApart", inPlace := ["math/bits.Add64", "math/bits.Sub64", "slices.overlaps[yesteryear/api.Entry]", "slices.overlaps[*yesteryear/node.Node]"], unfollowed := true, recurses := true, apart := false }
def StateApartSaid : Prop := stateApartRow.holds Tryz.pinned (OpenSpec.ofChange stateApartSpec)

/-- ITS FALSE NEIGHBOUR: 'it returns false'. Refute it at one input. -/
def stateApartWrong : ChangeSpec := { name := "stateApart", fn := fun _ => fun
  | [d1, d2, d3] => { results := [.lit (.bool false)], args := [d1, d2, d3] }
  | _ => none }
def StateApartWrongFalsely : Prop := stateApartRow.holds Tryz.pinned (OpenSpec.ofChange stateApartWrong)

/-- 'yesteryearlaw40.StateCopies': WHATEVER THE INPUT: true; the input reads as it did. -/
def stateCopiesSpec : ChangeSpec := { name := "stateCopies", fn := fun _ => fun
  | [d1, d2, d3] => { results := [.lit (.bool true)], args := [d1, d2, d3] }
  | _ => none }
def stateCopiesRow : OpenClaim := { program := "ytaoceecfjlkmdaagreat", sum := "204f0157d5ad5f8d458029ac983e2a064f1b9ca70491a1aec24596d390686542", func := "yesteryear/yesteryearlaw40.StateCopies", spec := "stateCopies", inPlace := ["math/bits.Add64", "math/bits.Sub64", "slices.overlaps[yesteryear/api.Entry]", "slices.overlaps[*yesteryear/node.Node]"], unfollowed := true, recurses := true, apart := false }
def StateCopiesSaid : Prop := stateCopiesRow.holds Tryz.pinned (OpenSpec.ofChange stateCopiesSpec)

/-- ITS FALSE NEIGHBOUR: 'it returns false'. Refute it at one input. -/
def stateCopiesWrong : ChangeSpec := { name := "stateCopies", fn := fun _ => fun
  | [d1, d2, d3] => { results := [.lit (.bool false)], args := [d1, d2, d3] }
  | _ => none }
def StateCopiesWrongFalsely : Prop := stateCopiesRow.holds Tryz.pinned (OpenSpec.ofChange stateCopiesWrong)

/- THE SECOND FORM. 'bulk': how many values and letters a reading holds, each counted each time it is reached (what is shared counts as often as it is met; a slice's spare places count too). A statement '..UptoSaid' is the law's where the arguments, and the package variables that the reading takes, are together of bulk at most 1048576: NARROWER than '..Said'. Prove '..Said' where nothing that the law and all that it calls make is longer than what came in: it says more and counts as full. Else prove '..UptoSaid'. A law counts once. -/
mutual
def uptoBulk {H : Type} : DataW H → Nat
  | .lit (.string bytes) => bytes.length + 1
  | .lit _ => 1
  | .nil => 1
  | .ptr d => uptoBulk d + 1
  | .slice elems spare => uptoBulkAll elems + uptoBulkAll spare + 1
  | .agg parts => uptoBulkAll parts + 1
  | .iface _ d => uptoBulk d + 1
  | .map entries => uptoBulkEntries entries + 1
  | .held _ => 1
def uptoBulkAll {H : Type} : List (DataW H) → Nat
  | [] => 0
  | d :: r => uptoBulk d + uptoBulkAll r
def uptoBulkEntries {H : Type} : List (Lit × DataW H) → Nat
  | [] => 0
  | x :: r => uptoBulkEntry x + uptoBulkEntries r
def uptoBulkEntry {H : Type} : Lit × DataW H → Nat
  | (.string bytes, d) => bytes.length + uptoBulk d + 1
  | (_, d) => uptoBulk d + 1
 end
def uptoSmall : (H : Type) → List (DataW H) → Bool := fun _ ds => decide (uptoBulkAll ds ≤ 1048576)
def OpenSpec.upto (s : _root_.Go.ChangeSpec) : _root_.Go.OpenSpec := { _root_.Go.OpenSpec.ofChange s with cond := some uptoSmall }

/-- 'yesteryearlaw40.StateKeeps', WHERE WHAT IT READS IS OF BULK AT MOST 1048576: true; the input reads as it did. -/
def stateKeepsUptoRow : OpenClaim := { program := "ytaoceecfjlkmdaagreat", sum := "204f0157d5ad5f8d458029ac983e2a064f1b9ca70491a1aec24596d390686542", func := "yesteryear/yesteryearlaw40.StateKeeps", spec := "stateKeeps", inPlace := ["math/bits.Add64", "math/bits.Sub64", "slices.overlaps[yesteryear/api.Entry]", "slices.overlaps[*yesteryear/node.Node]"], unfollowed := true, recurses := true, apart := false, narrowed := true }
def StateKeepsUptoSaid : Prop := stateKeepsUptoRow.holds Tryz.pinned (OpenSpec.upto stateKeepsSpec)

/-- 'yesteryearlaw40.StateApart', WHERE WHAT IT READS IS OF BULK AT MOST 1048576: true; the input reads as it did. -/
def stateApartUptoRow : OpenClaim := { program := "ytaoceecfjlkmdaagreat", sum := "204f0157d5ad5f8d458029ac983e2a064f1b9ca70491a1aec24596d390686542", func := "yesteryear/yesteryearlaw40.StateApart", spec := "stateApart", inPlace := ["math/bits.Add64", "math/bits.Sub64", "slices.overlaps[yesteryear/api.Entry]", "slices.overlaps[*yesteryear/node.Node]"], unfollowed := true, recurses := true, apart := false, narrowed := true }
def StateApartUptoSaid : Prop := stateApartUptoRow.holds Tryz.pinned (OpenSpec.upto stateApartSpec)

/-- 'yesteryearlaw40.StateCopies', WHERE WHAT IT READS IS OF BULK AT MOST 1048576: true; the input reads as it did. -/
def stateCopiesUptoRow : OpenClaim := { program := "ytaoceecfjlkmdaagreat", sum := "204f0157d5ad5f8d458029ac983e2a064f1b9ca70491a1aec24596d390686542", func := "yesteryear/yesteryearlaw40.StateCopies", spec := "stateCopies", inPlace := ["math/bits.Add64", "math/bits.Sub64", "slices.overlaps[yesteryear/api.Entry]", "slices.overlaps[*yesteryear/node.Node]"], unfollowed := true, recurses := true, apart := false, narrowed := true }
def StateCopiesUptoSaid : Prop := stateCopiesUptoRow.holds Tryz.pinned (OpenSpec.upto stateCopiesSpec)

end Rows
end Go.Proofs.YtaoceecfjlkmdaaGreat
