/-
  No cell of these rows narrows 'for every input' (looked for: loops, veiled, ifaces, maps, wideKeys, modest, calm, conditions, laid).
  DERIVED. THE GIVEN ROWS OF THIS SEAT. 2 by the template 'for every input the law returns true; each argument reads behind the call as it read before'; 0 by the template 'total and deterministic' (their statements: YtejhbaeeaejcaaaGreatTotals.lean).
  GIVEN WITH THE SEED: the statements are not yours to turn. If you find one false, say at which input.
  Laid BY PROGRAM, IN A SANDBOX (cutbox-rows.mjs): the forced cells as the released guide's own fill.sh prints them over the translation fd757ff05d2b276e… (all of the seat's roots in one cut). By AI agents, Wed Nov 11 2026. No macro, syntax, notation, axiom, sorry.
-/
import Derived.Test.YtejhbaeeaejcaaaGreatChecked
import GoSem.Claim
import GoSem.ClaimJoined
import GoSem.ClaimMapViews
import Derived.JoinedTies
import Derived.KernelRfl
namespace Go.Proofs.YtejhbaeeaejcaaaGreat
/- THE CELL 'sum', in the pinned program and in every row, IS THE sha256 OF THE DUMP (.gsa) THAT YtejhbaeeaejcaaaGreatProg.lean LOADS. Nothing in Lean hashes anything: it is a label: what it is worth is what the hold of that sum in a sandbox is worth. -/
noncomputable def Tryz.pinned : Pinned := { name := "ytejhbaeeaejcaaagreat", sum := "fd757ff05d2b276e13a9d4ec37bc617d4b7b67a3d48c6df833e89af78d2a0801", checked := Tryz.checked }
namespace Rows
def none {H : Type} : Left H := { results := [], args := [] }

/-- 'yesteryearlaw38.HistoryPrune': WHATEVER THE INPUT: true; the input reads as it did. -/
def historyPruneSpec : ChangeSpec := { name := "historyPrune", fn := fun _ => fun
  | [d1, d2, d3] => { results := [.lit (.bool true)], args := [d1, d2, d3] }
  | _ => none }
def historyPruneRow : OpenClaim := { program := "ytejhbaeeaejcaaagreat", sum := "fd757ff05d2b276e13a9d4ec37bc617d4b7b67a3d48c6df833e89af78d2a0801", func := "yesteryear/yesteryearlaw38.HistoryPrune", spec := "historyPrune", inPlace := ["slices.overlaps[*yesteryear/node.Node]", "slices.overlaps[yesteryear/api.Entry]"], unfollowed := true, recurses := true, apart := false }
def HistoryPruneSaid : Prop := historyPruneRow.holds Tryz.pinned (OpenSpec.ofChange historyPruneSpec)

/-- ITS FALSE NEIGHBOUR: 'it returns false'. Refute it at one input. -/
def historyPruneWrong : ChangeSpec := { name := "historyPrune", fn := fun _ => fun
  | [d1, d2, d3] => { results := [.lit (.bool false)], args := [d1, d2, d3] }
  | _ => none }
def HistoryPruneWrongFalsely : Prop := historyPruneRow.holds Tryz.pinned (OpenSpec.ofChange historyPruneWrong)

/-- 'yesteryearlaw38.HistoryPlays': WHATEVER THE INPUT: true; the input reads as it did. -/
def historyPlaysSpec : ChangeSpec := { name := "historyPlays", fn := fun _ => fun
  | [d1, d2] => { results := [.lit (.bool true)], args := [d1, d2] }
  | _ => none }
def historyPlaysRow : OpenClaim := { program := "ytejhbaeeaejcaaagreat", sum := "fd757ff05d2b276e13a9d4ec37bc617d4b7b67a3d48c6df833e89af78d2a0801", func := "yesteryear/yesteryearlaw38.HistoryPlays", spec := "historyPlays", inPlace := ["slices.overlaps[*yesteryear/node.Node]", "slices.overlaps[yesteryear/api.Entry]"], unfollowed := true, recurses := true, apart := false }
def HistoryPlaysSaid : Prop := historyPlaysRow.holds Tryz.pinned (OpenSpec.ofChange historyPlaysSpec)

/-- ITS FALSE NEIGHBOUR: 'it returns false'. Refute it at one input. -/
def historyPlaysWrong : ChangeSpec := { name := "historyPlays", fn := fun _ => fun
  | [d1, d2] => { results := [.lit (.bool false)], args := [d1, d2] }
  | _ => none }
def HistoryPlaysWrongFalsely : Prop := historyPlaysRow.holds Tryz.pinned (OpenSpec.ofChange historyPlaysWrong)

/- THE SECOND FORM. 'bulk': how many values and letters a reading holds, each counted each time it is reached (what is shared counts as often as it is met; a slice's spare places count too). A statement '..UptoSaid' is the law's where the arguments, and the package variables that the reading takes, are together of bulk at most 1048576: NARROWER than '..Said'. Prove '..Said' where nothing that the law and all that it calls make is longer than what came in: it says more and counts as full. Else prove '..UptoSaid'. A law counts once. -/
mutual
def uptoBulk {H : Type} : DataW H → Nat
  | .lit (.string bytes) => bytes.length + 1
  | .lit _ => 1
  | .nil => 1
  | .ptr d => uptoBulk d + 1
  | .slice elems spare => uptoBulkAll elems + uptoBulkAll spare + 1
  | .agg parts => uptoBulkAll parts + 1
  | .iface _ d => uptoBulk d + 1
  | .map entries => uptoBulkEntries entries + 1
  | .held _ => 1
def uptoBulkAll {H : Type} : List (DataW H) → Nat
  | [] => 0
  | d :: r => uptoBulk d + uptoBulkAll r
def uptoBulkEntries {H : Type} : List (Lit × DataW H) → Nat
  | [] => 0
  | x :: r => uptoBulkEntry x + uptoBulkEntries r
def uptoBulkEntry {H : Type} : Lit × DataW H → Nat
  | (.string bytes, d) => bytes.length + uptoBulk d + 1
  | (_, d) => uptoBulk d + 1
 end
def uptoSmall : (H : Type) → List (DataW H) → Bool := fun _ ds => decide (uptoBulkAll ds ≤ 1048576)
def OpenSpec.upto (s : _root_.Go.ChangeSpec) : _root_.Go.OpenSpec := { _root_.Go.OpenSpec.ofChange s with cond := some uptoSmall }

/-- 'yesteryearlaw38.HistoryPrune', WHERE WHAT IT READS IS OF BULK AT MOST 1048576: true; the input reads as it did. -/
def historyPruneUptoRow : OpenClaim := { program := "ytejhbaeeaejcaaagreat", sum := "fd757ff05d2b276e13a9d4ec37bc617d4b7b67a3d48c6df833e89af78d2a0801", func := "yesteryear/yesteryearlaw38.HistoryPrune", spec := "historyPrune", inPlace := ["slices.overlaps[*yesteryear/node.Node]", "slices.overlaps[yesteryear/api.Entry]"], unfollowed := true, recurses := true, apart := false, narrowed := true }
def HistoryPruneUptoSaid : Prop := historyPruneUptoRow.holds Tryz.pinned (OpenSpec.upto historyPruneSpec)

/-- 'yesteryearlaw38.HistoryPlays', WHERE WHAT IT READS IS OF BULK AT MOST 1048576: true; the input reads as it did. -/
def historyPlaysUptoRow : OpenClaim := { program := "ytejhbaeeaejcaaagreat", sum := "fd757ff05d2b276e13a9d4ec37bc617d4b7b67a3d48c6df833e89af78d2a0801", func := "yesteryear/yesteryearlaw38.HistoryPlays", spec := "historyPlays", inPlace := ["slices.overlaps[*yesteryear/node.Node]", "slices.overlaps[yesteryear/api.Entry]"], unfollowed := true, recurses := true, apart := false, narrowed := true }
def HistoryPlaysUptoSaid : Prop := historyPlaysUptoRow.holds Tryz.pinned (OpenSpec.upto historyPlaysSpec)

end Rows
end Go.Proofs.YtejhbaeeaejcaaaGreat
