/-
  No cell of these rows narrows 'for every input' (looked for: loops, veiled, ifaces, maps, wideKeys, modest, calm, conditions, laid).
  DERIVED. THE GIVEN ROWS OF THIS SEAT. 15 by the template 'for every input the law returns true; each argument reads behind the call as it read before'; 0 by the template 'total and deterministic' (their statements: YtljbehndnledpaaTotals.lean).
  GIVEN WITH THE SEED: the statements are not yours to turn. If you find one false, say at which input.
  Laid BY PROGRAM, IN A SANDBOX (cutbox-rows.mjs): the forced cells as the released guide's own fill.sh prints them over the translation 2ae2d2fea6b9754c… (all of the seat's roots in one cut). By AI agents, Wed Nov 11 2026. No macro, syntax, notation, axiom, sorry.
-/
import Derived.Test.YtljbehndnledpaaChecked
import GoSem.Claim
import GoSem.ClaimJoined
import GoSem.ClaimMapViews
import Derived.JoinedTies
import Derived.KernelRfl
namespace Go.Proofs.Ytljbehndnledpaa
/- THE CELL 'sum', in the pinned program and in every row, IS THE sha256 OF THE DUMP (.gsa) THAT YtljbehndnledpaaProg.lean LOADS. Nothing in Lean hashes anything: it is a label: what it is worth is what the hold of that sum in a sandbox is worth. -/
noncomputable def Try.pinned : Pinned := { name := "ytljbehndnledpaa", sum := "2ae2d2fea6b9754cf7761abb1b025a9b62069b893950dc5ec7bd119dd56825de", checked := Try.checked }
namespace Rows
def none {H : Type} : Left H := { results := [], args := [] }

/-- 'yesteryearlaw50.SearchFirst': WHATEVER THE INPUT: true; the input reads as it did. -/
def searchFirstSpec : ChangeSpec := { name := "searchFirst", fn := fun _ => fun
  | [d1, d2] => { results := [.lit (.bool true)], args := [d1, d2] }
  | _ => none }
def searchFirstRow : OpenClaim := { program := "ytljbehndnledpaa", sum := "2ae2d2fea6b9754cf7761abb1b025a9b62069b893950dc5ec7bd119dd56825de", func := "yesteryear/yesteryearlaw50.SearchFirst", spec := "searchFirst", unfollowed := true, recurses := true, plainKeys := false, apart := false }
def SearchFirstSaid : Prop := searchFirstRow.holds Try.pinned (OpenSpec.ofChange searchFirstSpec)

/-- ITS FALSE NEIGHBOUR: 'it returns false'. Refute it at one input. -/
def searchFirstWrong : ChangeSpec := { name := "searchFirst", fn := fun _ => fun
  | [d1, d2] => { results := [.lit (.bool false)], args := [d1, d2] }
  | _ => none }
def SearchFirstWrongFalsely : Prop := searchFirstRow.holds Try.pinned (OpenSpec.ofChange searchFirstWrong)

/-- 'yesteryearlaw47.ManifestTexts': WHATEVER THE INPUT: true; the input reads as it did. -/
def manifestTextsSpec : ChangeSpec := { name := "manifestTexts", fn := fun _ => fun
  | [d1, d2] => { results := [.lit (.bool true)], args := [d1, d2] }
  | _ => none }
def manifestTextsRow : OpenClaim := { program := "ytljbehndnledpaa", sum := "2ae2d2fea6b9754cf7761abb1b025a9b62069b893950dc5ec7bd119dd56825de", func := "yesteryear/yesteryearlaw47.ManifestTexts", spec := "manifestTexts", plainKeys := false, apart := false }
def ManifestTextsSaid : Prop := manifestTextsRow.holds Try.pinned (OpenSpec.ofChange manifestTextsSpec)

/-- ITS FALSE NEIGHBOUR: 'it returns false'. Refute it at one input. -/
def manifestTextsWrong : ChangeSpec := { name := "manifestTexts", fn := fun _ => fun
  | [d1, d2] => { results := [.lit (.bool false)], args := [d1, d2] }
  | _ => none }
def ManifestTextsWrongFalsely : Prop := manifestTextsRow.holds Try.pinned (OpenSpec.ofChange manifestTextsWrong)

/-- 'yesteryearlaw08.TextNums': WHATEVER THE INPUT: true; the input reads as it did. -/
def textNumsSpec : ChangeSpec := { name := "textNums", fn := fun _ => fun
  | [d1, d2] => { results := [.lit (.bool true)], args := [d1, d2] }
  | _ => none }
def textNumsRow : OpenClaim := { program := "ytljbehndnledpaa", sum := "2ae2d2fea6b9754cf7761abb1b025a9b62069b893950dc5ec7bd119dd56825de", func := "yesteryear/yesteryearlaw08.TextNums", spec := "textNums", plainKeys := false, apart := false }
def TextNumsSaid : Prop := textNumsRow.holds Try.pinned (OpenSpec.ofChange textNumsSpec)

/-- ITS FALSE NEIGHBOUR: 'it returns false'. Refute it at one input. -/
def textNumsWrong : ChangeSpec := { name := "textNums", fn := fun _ => fun
  | [d1, d2] => { results := [.lit (.bool false)], args := [d1, d2] }
  | _ => none }
def TextNumsWrongFalsely : Prop := textNumsRow.holds Try.pinned (OpenSpec.ofChange textNumsWrong)

/-- 'yesteryearlaw08.TextHex': WHATEVER THE INPUT: true; the input reads as it did. -/
def textHexSpec : ChangeSpec := { name := "textHex", fn := fun _ => fun
  | [d1, d2] => { results := [.lit (.bool true)], args := [d1, d2] }
  | _ => none }
def textHexRow : OpenClaim := { program := "ytljbehndnledpaa", sum := "2ae2d2fea6b9754cf7761abb1b025a9b62069b893950dc5ec7bd119dd56825de", func := "yesteryear/yesteryearlaw08.TextHex", spec := "textHex", plainKeys := false, apart := false }
def TextHexSaid : Prop := textHexRow.holds Try.pinned (OpenSpec.ofChange textHexSpec)

/-- ITS FALSE NEIGHBOUR: 'it returns false'. Refute it at one input. -/
def textHexWrong : ChangeSpec := { name := "textHex", fn := fun _ => fun
  | [d1, d2] => { results := [.lit (.bool false)], args := [d1, d2] }
  | _ => none }
def TextHexWrongFalsely : Prop := textHexRow.holds Try.pinned (OpenSpec.ofChange textHexWrong)

/-- 'yesteryearlaw08.TextWords': WHATEVER THE INPUT: true; the input reads as it did. -/
def textWordsSpec : ChangeSpec := { name := "textWords", fn := fun _ => fun
  | [d] => { results := [.lit (.bool true)], args := [d] }
  | _ => none }
def textWordsRow : OpenClaim := { program := "ytljbehndnledpaa", sum := "2ae2d2fea6b9754cf7761abb1b025a9b62069b893950dc5ec7bd119dd56825de", func := "yesteryear/yesteryearlaw08.TextWords", spec := "textWords", plainKeys := false, apart := false }
def TextWordsSaid : Prop := textWordsRow.holds Try.pinned (OpenSpec.ofChange textWordsSpec)

/-- ITS FALSE NEIGHBOUR: 'it returns false'. Refute it at one input. -/
def textWordsWrong : ChangeSpec := { name := "textWords", fn := fun _ => fun
  | [d] => { results := [.lit (.bool false)], args := [d] }
  | _ => none }
def TextWordsWrongFalsely : Prop := textWordsRow.holds Try.pinned (OpenSpec.ofChange textWordsWrong)

/-- 'yesteryearlaw52.ExportPuts': WHATEVER THE INPUT: true; the input reads as it did. -/
def exportPutsSpec : ChangeSpec := { name := "exportPuts", fn := fun _ => fun
  | [d] => { results := [.lit (.bool true)], args := [d] }
  | _ => none }
def exportPutsRow : OpenClaim := { program := "ytljbehndnledpaa", sum := "2ae2d2fea6b9754cf7761abb1b025a9b62069b893950dc5ec7bd119dd56825de", func := "yesteryear/yesteryearlaw52.ExportPuts", spec := "exportPuts", plainKeys := false, apart := false }
def ExportPutsSaid : Prop := exportPutsRow.holds Try.pinned (OpenSpec.ofChange exportPutsSpec)

/-- ITS FALSE NEIGHBOUR: 'it returns false'. Refute it at one input. -/
def exportPutsWrong : ChangeSpec := { name := "exportPuts", fn := fun _ => fun
  | [d] => { results := [.lit (.bool false)], args := [d] }
  | _ => none }
def ExportPutsWrongFalsely : Prop := exportPutsRow.holds Try.pinned (OpenSpec.ofChange exportPutsWrong)

/-- 'yesteryearlaw52.ExportGets': WHATEVER THE INPUT: true; the input reads as it did. -/
def exportGetsSpec : ChangeSpec := { name := "exportGets", fn := fun _ => fun
  | [d] => { results := [.lit (.bool true)], args := [d] }
  | _ => none }
def exportGetsRow : OpenClaim := { program := "ytljbehndnledpaa", sum := "2ae2d2fea6b9754cf7761abb1b025a9b62069b893950dc5ec7bd119dd56825de", func := "yesteryear/yesteryearlaw52.ExportGets", spec := "exportGets", plainKeys := false, apart := false }
def ExportGetsSaid : Prop := exportGetsRow.holds Try.pinned (OpenSpec.ofChange exportGetsSpec)

/-- ITS FALSE NEIGHBOUR: 'it returns false'. Refute it at one input. -/
def exportGetsWrong : ChangeSpec := { name := "exportGets", fn := fun _ => fun
  | [d] => { results := [.lit (.bool false)], args := [d] }
  | _ => none }
def ExportGetsWrongFalsely : Prop := exportGetsRow.holds Try.pinned (OpenSpec.ofChange exportGetsWrong)

/-- 'yesteryearlaw46.ScrubCounts': WHATEVER THE INPUT: true; the input reads as it did. -/
def scrubCountsSpec : ChangeSpec := { name := "scrubCounts", fn := fun _ => fun
  | [d1, d2] => { results := [.lit (.bool true)], args := [d1, d2] }
  | _ => none }
def scrubCountsRow : OpenClaim := { program := "ytljbehndnledpaa", sum := "2ae2d2fea6b9754cf7761abb1b025a9b62069b893950dc5ec7bd119dd56825de", func := "yesteryear/yesteryearlaw46.ScrubCounts", spec := "scrubCounts", unfollowed := true, recurses := true, plainKeys := false, apart := false }
def ScrubCountsSaid : Prop := scrubCountsRow.holds Try.pinned (OpenSpec.ofChange scrubCountsSpec)

/-- ITS FALSE NEIGHBOUR: 'it returns false'. Refute it at one input. -/
def scrubCountsWrong : ChangeSpec := { name := "scrubCounts", fn := fun _ => fun
  | [d1, d2] => { results := [.lit (.bool false)], args := [d1, d2] }
  | _ => none }
def ScrubCountsWrongFalsely : Prop := scrubCountsRow.holds Try.pinned (OpenSpec.ofChange scrubCountsWrong)

/-- 'yesteryearlaw29.ScriptLines': WHATEVER THE INPUT: true; the input reads as it did. -/
def scriptLinesSpec : ChangeSpec := { name := "scriptLines", fn := fun _ => fun
  | [d] => { results := [.lit (.bool true)], args := [d] }
  | _ => none }
def scriptLinesRow : OpenClaim := { program := "ytljbehndnledpaa", sum := "2ae2d2fea6b9754cf7761abb1b025a9b62069b893950dc5ec7bd119dd56825de", func := "yesteryear/yesteryearlaw29.ScriptLines", spec := "scriptLines", inPlace := ["internal/abi.NoEscape", "internal/bytealg.MakeNoZero"], plainKeys := false, apart := false }
def ScriptLinesSaid : Prop := scriptLinesRow.holds Try.pinned (OpenSpec.ofChange scriptLinesSpec)

/-- ITS FALSE NEIGHBOUR: 'it returns false'. Refute it at one input. -/
def scriptLinesWrong : ChangeSpec := { name := "scriptLines", fn := fun _ => fun
  | [d] => { results := [.lit (.bool false)], args := [d] }
  | _ => none }
def ScriptLinesWrongFalsely : Prop := scriptLinesRow.holds Try.pinned (OpenSpec.ofChange scriptLinesWrong)

/-- 'yesteryearlaw29.ScriptReads': WHATEVER THE INPUT: true; the input reads as it did. -/
def scriptReadsSpec : ChangeSpec := { name := "scriptReads", fn := fun _ => fun
  | [d] => { results := [.lit (.bool true)], args := [d] }
  | _ => none }
def scriptReadsRow : OpenClaim := { program := "ytljbehndnledpaa", sum := "2ae2d2fea6b9754cf7761abb1b025a9b62069b893950dc5ec7bd119dd56825de", func := "yesteryear/yesteryearlaw29.ScriptReads", spec := "scriptReads", inPlace := ["internal/abi.NoEscape", "internal/bytealg.MakeNoZero"], plainKeys := false, apart := false }
def ScriptReadsSaid : Prop := scriptReadsRow.holds Try.pinned (OpenSpec.ofChange scriptReadsSpec)

/-- ITS FALSE NEIGHBOUR: 'it returns false'. Refute it at one input. -/
def scriptReadsWrong : ChangeSpec := { name := "scriptReads", fn := fun _ => fun
  | [d] => { results := [.lit (.bool false)], args := [d] }
  | _ => none }
def ScriptReadsWrongFalsely : Prop := scriptReadsRow.holds Try.pinned (OpenSpec.ofChange scriptReadsWrong)

/-- 'yesteryearlaw29.ScriptBack': WHATEVER THE INPUT: true; the input reads as it did. -/
def scriptBackSpec : ChangeSpec := { name := "scriptBack", fn := fun _ => fun
  | [d] => { results := [.lit (.bool true)], args := [d] }
  | _ => none }
def scriptBackRow : OpenClaim := { program := "ytljbehndnledpaa", sum := "2ae2d2fea6b9754cf7761abb1b025a9b62069b893950dc5ec7bd119dd56825de", func := "yesteryear/yesteryearlaw29.ScriptBack", spec := "scriptBack", inPlace := ["internal/abi.NoEscape", "internal/bytealg.MakeNoZero"], plainKeys := false, apart := false }
def ScriptBackSaid : Prop := scriptBackRow.holds Try.pinned (OpenSpec.ofChange scriptBackSpec)

/-- ITS FALSE NEIGHBOUR: 'it returns false'. Refute it at one input. -/
def scriptBackWrong : ChangeSpec := { name := "scriptBack", fn := fun _ => fun
  | [d] => { results := [.lit (.bool false)], args := [d] }
  | _ => none }
def ScriptBackWrongFalsely : Prop := scriptBackRow.holds Try.pinned (OpenSpec.ofChange scriptBackWrong)

/-- 'yesteryearlaw57.HeatPlays': WHATEVER THE INPUT: true; the input reads as it did. -/
def heatPlaysSpec : ChangeSpec := { name := "heatPlays", fn := fun _ => fun
  | [d1, d2, d3] => { results := [.lit (.bool true)], args := [d1, d2, d3] }
  | _ => none }
def heatPlaysRow : OpenClaim := { program := "ytljbehndnledpaa", sum := "2ae2d2fea6b9754cf7761abb1b025a9b62069b893950dc5ec7bd119dd56825de", func := "yesteryear/yesteryearlaw57.HeatPlays", spec := "heatPlays", unfollowed := true, recurses := true, plainKeys := false, apart := false }
def HeatPlaysSaid : Prop := heatPlaysRow.holds Try.pinned (OpenSpec.ofChange heatPlaysSpec)

/-- ITS FALSE NEIGHBOUR: 'it returns false'. Refute it at one input. -/
def heatPlaysWrong : ChangeSpec := { name := "heatPlays", fn := fun _ => fun
  | [d1, d2, d3] => { results := [.lit (.bool false)], args := [d1, d2, d3] }
  | _ => none }
def HeatPlaysWrongFalsely : Prop := heatPlaysRow.holds Try.pinned (OpenSpec.ofChange heatPlaysWrong)

/-- 'yesteryearlaw63.LedgerChanged': WHATEVER THE INPUT: true; the input reads as it did. -/
def ledgerChangedSpec : ChangeSpec := { name := "ledgerChanged", fn := fun _ => fun
  | [d1, d2, d3] => { results := [.lit (.bool true)], args := [d1, d2, d3] }
  | _ => none }
def ledgerChangedRow : OpenClaim := { program := "ytljbehndnledpaa", sum := "2ae2d2fea6b9754cf7761abb1b025a9b62069b893950dc5ec7bd119dd56825de", func := "yesteryear/yesteryearlaw63.LedgerChanged", spec := "ledgerChanged", unfollowed := true, recurses := true, plainKeys := false, apart := false }
def LedgerChangedSaid : Prop := ledgerChangedRow.holds Try.pinned (OpenSpec.ofChange ledgerChangedSpec)

/-- ITS FALSE NEIGHBOUR: 'it returns false'. Refute it at one input. -/
def ledgerChangedWrong : ChangeSpec := { name := "ledgerChanged", fn := fun _ => fun
  | [d1, d2, d3] => { results := [.lit (.bool false)], args := [d1, d2, d3] }
  | _ => none }
def LedgerChangedWrongFalsely : Prop := ledgerChangedRow.holds Try.pinned (OpenSpec.ofChange ledgerChangedWrong)

/-- 'yesteryearlaw56.BatchSquash': WHATEVER THE INPUT: true; the input reads as it did. -/
def batchSquashSpec : ChangeSpec := { name := "batchSquash", fn := fun _ => fun
  | [d1, d2, d3] => { results := [.lit (.bool true)], args := [d1, d2, d3] }
  | _ => none }
def batchSquashRow : OpenClaim := { program := "ytljbehndnledpaa", sum := "2ae2d2fea6b9754cf7761abb1b025a9b62069b893950dc5ec7bd119dd56825de", func := "yesteryear/yesteryearlaw56.BatchSquash", spec := "batchSquash", unfollowed := true, recurses := true, plainKeys := false, apart := false }
def BatchSquashSaid : Prop := batchSquashRow.holds Try.pinned (OpenSpec.ofChange batchSquashSpec)

/-- ITS FALSE NEIGHBOUR: 'it returns false'. Refute it at one input. -/
def batchSquashWrong : ChangeSpec := { name := "batchSquash", fn := fun _ => fun
  | [d1, d2, d3] => { results := [.lit (.bool false)], args := [d1, d2, d3] }
  | _ => none }
def BatchSquashWrongFalsely : Prop := batchSquashRow.holds Try.pinned (OpenSpec.ofChange batchSquashWrong)

/-- 'yesteryearlaw60.CursorLines': WHATEVER THE INPUT: true; the input reads as it did. -/
def cursorLinesSpec : ChangeSpec := { name := "cursorLines", fn := fun _ => fun
  | [d1, d2] => { results := [.lit (.bool true)], args := [d1, d2] }
  | _ => none }
def cursorLinesRow : OpenClaim := { program := "ytljbehndnledpaa", sum := "2ae2d2fea6b9754cf7761abb1b025a9b62069b893950dc5ec7bd119dd56825de", func := "yesteryear/yesteryearlaw60.CursorLines", spec := "cursorLines", unfollowed := true, recurses := true, plainKeys := false, apart := false }
def CursorLinesSaid : Prop := cursorLinesRow.holds Try.pinned (OpenSpec.ofChange cursorLinesSpec)

/-- ITS FALSE NEIGHBOUR: 'it returns false'. Refute it at one input. -/
def cursorLinesWrong : ChangeSpec := { name := "cursorLines", fn := fun _ => fun
  | [d1, d2] => { results := [.lit (.bool false)], args := [d1, d2] }
  | _ => none }
def CursorLinesWrongFalsely : Prop := cursorLinesRow.holds Try.pinned (OpenSpec.ofChange cursorLinesWrong)

/- THE SECOND FORM. 'bulk': how many values and letters a reading holds, each counted each time it is reached (what is shared counts as often as it is met; a slice's spare places count too). A statement '..UptoSaid' is the law's where the arguments, and the package variables that the reading takes, are together of bulk at most 1048576: NARROWER than '..Said'. Prove '..Said' where nothing that the law and all that it calls make is longer than what came in: it says more and counts as full. Else prove '..UptoSaid'. A law counts once. -/
mutual
def uptoBulk {H : Type} : DataW H → Nat
  | .lit (.string bytes) => bytes.length + 1
  | .lit _ => 1
  | .nil => 1
  | .ptr d => uptoBulk d + 1
  | .slice elems spare => uptoBulkAll elems + uptoBulkAll spare + 1
  | .agg parts => uptoBulkAll parts + 1
  | .iface _ d => uptoBulk d + 1
  | .map entries => uptoBulkEntries entries + 1
  | .held _ => 1
def uptoBulkAll {H : Type} : List (DataW H) → Nat
  | [] => 0
  | d :: r => uptoBulk d + uptoBulkAll r
def uptoBulkEntries {H : Type} : List (Lit × DataW H) → Nat
  | [] => 0
  | x :: r => uptoBulkEntry x + uptoBulkEntries r
def uptoBulkEntry {H : Type} : Lit × DataW H → Nat
  | (.string bytes, d) => bytes.length + uptoBulk d + 1
  | (_, d) => uptoBulk d + 1
 end
def uptoSmall : (H : Type) → List (DataW H) → Bool := fun _ ds => decide (uptoBulkAll ds ≤ 1048576)
def OpenSpec.upto (s : _root_.Go.ChangeSpec) : _root_.Go.OpenSpec := { _root_.Go.OpenSpec.ofChange s with cond := some uptoSmall }

/-- 'yesteryearlaw50.SearchFirst', WHERE WHAT IT READS IS OF BULK AT MOST 1048576: true; the input reads as it did. -/
def searchFirstUptoRow : OpenClaim := { program := "ytljbehndnledpaa", sum := "2ae2d2fea6b9754cf7761abb1b025a9b62069b893950dc5ec7bd119dd56825de", func := "yesteryear/yesteryearlaw50.SearchFirst", spec := "searchFirst", unfollowed := true, recurses := true, plainKeys := false, apart := false, narrowed := true }
def SearchFirstUptoSaid : Prop := searchFirstUptoRow.holds Try.pinned (OpenSpec.upto searchFirstSpec)

/-- 'yesteryearlaw47.ManifestTexts', WHERE WHAT IT READS IS OF BULK AT MOST 1048576: true; the input reads as it did. -/
def manifestTextsUptoRow : OpenClaim := { program := "ytljbehndnledpaa", sum := "2ae2d2fea6b9754cf7761abb1b025a9b62069b893950dc5ec7bd119dd56825de", func := "yesteryear/yesteryearlaw47.ManifestTexts", spec := "manifestTexts", plainKeys := false, apart := false, narrowed := true }
def ManifestTextsUptoSaid : Prop := manifestTextsUptoRow.holds Try.pinned (OpenSpec.upto manifestTextsSpec)

/-- 'yesteryearlaw08.TextNums', WHERE WHAT IT READS IS OF BULK AT MOST 1048576: true; the input reads as it did. -/
def textNumsUptoRow : OpenClaim := { program := "ytljbehndnledpaa", sum := "2ae2d2fea6b9754cf7761abb1b025a9b62069b893950dc5ec7bd119dd56825de", func := "yesteryear/yesteryearlaw08.TextNums", spec := "textNums", plainKeys := false, apart := false, narrowed := true }
def TextNumsUptoSaid : Prop := textNumsUptoRow.holds Try.pinned (OpenSpec.upto textNumsSpec)

/-- 'yesteryearlaw08.TextHex', WHERE WHAT IT READS IS OF BULK AT MOST 1048576: true; the input reads as it did. -/
def textHexUptoRow : OpenClaim := { program := "ytljbehndnledpaa", sum := "2ae2d2fea6b9754cf7761abb1b025a9b62069b893950dc5ec7bd119dd56825de", func := "yesteryear/yesteryearlaw08.TextHex", spec := "textHex", plainKeys := false, apart := false, narrowed := true }
def TextHexUptoSaid : Prop := textHexUptoRow.holds Try.pinned (OpenSpec.upto textHexSpec)

/-- 'yesteryearlaw08.TextWords', WHERE WHAT IT READS IS OF BULK AT MOST 1048576: true; the input reads as it did. -/
def textWordsUptoRow : OpenClaim := { program := "ytljbehndnledpaa", sum := "2ae2d2fea6b9754cf7761abb1b025a9b62069b893950dc5ec7bd119dd56825de", func := "yesteryear/yesteryearlaw08.TextWords", spec := "textWords", plainKeys := false, apart := false, narrowed := true }
def TextWordsUptoSaid : Prop := textWordsUptoRow.holds Try.pinned (OpenSpec.upto textWordsSpec)

/-- 'yesteryearlaw52.ExportPuts', WHERE WHAT IT READS IS OF BULK AT MOST 1048576: true; the input reads as it did. -/
def exportPutsUptoRow : OpenClaim := { program := "ytljbehndnledpaa", sum := "2ae2d2fea6b9754cf7761abb1b025a9b62069b893950dc5ec7bd119dd56825de", func := "yesteryear/yesteryearlaw52.ExportPuts", spec := "exportPuts", plainKeys := false, apart := false, narrowed := true }
def ExportPutsUptoSaid : Prop := exportPutsUptoRow.holds Try.pinned (OpenSpec.upto exportPutsSpec)

/-- 'yesteryearlaw52.ExportGets', WHERE WHAT IT READS IS OF BULK AT MOST 1048576: true; the input reads as it did. -/
def exportGetsUptoRow : OpenClaim := { program := "ytljbehndnledpaa", sum := "2ae2d2fea6b9754cf7761abb1b025a9b62069b893950dc5ec7bd119dd56825de", func := "yesteryear/yesteryearlaw52.ExportGets", spec := "exportGets", plainKeys := false, apart := false, narrowed := true }
def ExportGetsUptoSaid : Prop := exportGetsUptoRow.holds Try.pinned (OpenSpec.upto exportGetsSpec)

/-- 'yesteryearlaw46.ScrubCounts', WHERE WHAT IT READS IS OF BULK AT MOST 1048576: true; the input reads as it did. -/
def scrubCountsUptoRow : OpenClaim := { program := "ytljbehndnledpaa", sum := "2ae2d2fea6b9754cf7761abb1b025a9b62069b893950dc5ec7bd119dd56825de", func := "yesteryear/yesteryearlaw46.ScrubCounts", spec := "scrubCounts", unfollowed := true, recurses := true, plainKeys := false, apart := false, narrowed := true }
def ScrubCountsUptoSaid : Prop := scrubCountsUptoRow.holds Try.pinned (OpenSpec.upto scrubCountsSpec)

/-- 'yesteryearlaw29.ScriptLines', WHERE WHAT IT READS IS OF BULK AT MOST 1048576: true; the input reads as it did. -/
def scriptLinesUptoRow : OpenClaim := { program := "ytljbehndnledpaa", sum := "2ae2d2fea6b9754cf7761abb1b025a9b62069b893950dc5ec7bd119dd56825de", func := "yesteryear/yesteryearlaw29.ScriptLines", spec := "scriptLines", inPlace := ["internal/abi.NoEscape", "internal/bytealg.MakeNoZero"], plainKeys := false, apart := false, narrowed := true }
def ScriptLinesUptoSaid : Prop := scriptLinesUptoRow.holds Try.pinned (OpenSpec.upto scriptLinesSpec)

/-- 'yesteryearlaw29.ScriptReads', WHERE WHAT IT READS IS OF BULK AT MOST 1048576: true; the input reads as it did. -/
def scriptReadsUptoRow : OpenClaim := { program := "ytljbehndnledpaa", sum := "2ae2d2fea6b9754cf7761abb1b025a9b62069b893950dc5ec7bd119dd56825de", func := "yesteryear/yesteryearlaw29.ScriptReads", spec := "scriptReads", inPlace := ["internal/abi.NoEscape", "internal/bytealg.MakeNoZero"], plainKeys := false, apart := false, narrowed := true }
def ScriptReadsUptoSaid : Prop := scriptReadsUptoRow.holds Try.pinned (OpenSpec.upto scriptReadsSpec)

/-- 'yesteryearlaw29.ScriptBack', WHERE WHAT IT READS IS OF BULK AT MOST 1048576: true; the input reads as it did. -/
def scriptBackUptoRow : OpenClaim := { program := "ytljbehndnledpaa", sum := "2ae2d2fea6b9754cf7761abb1b025a9b62069b893950dc5ec7bd119dd56825de", func := "yesteryear/yesteryearlaw29.ScriptBack", spec := "scriptBack", inPlace := ["internal/abi.NoEscape", "internal/bytealg.MakeNoZero"], plainKeys := false, apart := false, narrowed := true }
def ScriptBackUptoSaid : Prop := scriptBackUptoRow.holds Try.pinned (OpenSpec.upto scriptBackSpec)

/-- 'yesteryearlaw57.HeatPlays', WHERE WHAT IT READS IS OF BULK AT MOST 1048576: true; the input reads as it did. -/
def heatPlaysUptoRow : OpenClaim := { program := "ytljbehndnledpaa", sum := "2ae2d2fea6b9754cf7761abb1b025a9b62069b893950dc5ec7bd119dd56825de", func := "yesteryear/yesteryearlaw57.HeatPlays", spec := "heatPlays", unfollowed := true, recurses := true, plainKeys := false, apart := false, narrowed := true }
def HeatPlaysUptoSaid : Prop := heatPlaysUptoRow.holds Try.pinned (OpenSpec.upto heatPlaysSpec)

/-- 'yesteryearlaw63.LedgerChanged', WHERE WHAT IT READS IS OF BULK AT MOST 1048576: true; the input reads as it did. -/
def ledgerChangedUptoRow : OpenClaim := { program := "ytljbehndnledpaa", sum := "2ae2d2fea6b9754cf7761abb1b025a9b62069b893950dc5ec7bd119dd56825de", func := "yesteryear/yesteryearlaw63.LedgerChanged", spec := "ledgerChanged", unfollowed := true, recurses := true, plainKeys := false, apart := false, narrowed := true }
def LedgerChangedUptoSaid : Prop := ledgerChangedUptoRow.holds Try.pinned (OpenSpec.upto ledgerChangedSpec)

/-- 'yesteryearlaw56.BatchSquash', WHERE WHAT IT READS IS OF BULK AT MOST 1048576: true; the input reads as it did. -/
def batchSquashUptoRow : OpenClaim := { program := "ytljbehndnledpaa", sum := "2ae2d2fea6b9754cf7761abb1b025a9b62069b893950dc5ec7bd119dd56825de", func := "yesteryear/yesteryearlaw56.BatchSquash", spec := "batchSquash", unfollowed := true, recurses := true, plainKeys := false, apart := false, narrowed := true }
def BatchSquashUptoSaid : Prop := batchSquashUptoRow.holds Try.pinned (OpenSpec.upto batchSquashSpec)

/-- 'yesteryearlaw60.CursorLines', WHERE WHAT IT READS IS OF BULK AT MOST 1048576: true; the input reads as it did. -/
def cursorLinesUptoRow : OpenClaim := { program := "ytljbehndnledpaa", sum := "2ae2d2fea6b9754cf7761abb1b025a9b62069b893950dc5ec7bd119dd56825de", func := "yesteryear/yesteryearlaw60.CursorLines", spec := "cursorLines", unfollowed := true, recurses := true, plainKeys := false, apart := false, narrowed := true }
def CursorLinesUptoSaid : Prop := cursorLinesUptoRow.holds Try.pinned (OpenSpec.upto cursorLinesSpec)

end Rows
end Go.Proofs.Ytljbehndnledpaa
