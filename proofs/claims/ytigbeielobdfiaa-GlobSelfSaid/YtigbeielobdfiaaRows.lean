/-
  No cell of these rows narrows 'for every input' (looked for: loops, veiled, ifaces, maps, wideKeys, modest, calm, conditions, laid).
  DERIVED. THE GIVEN ROWS OF THIS SEAT. 7 by the template 'for every input the law returns true; each argument reads behind the call as it read before'; 0 by the template 'total and deterministic' (their statements: YtigbeielobdfiaaTotals.lean).
  GIVEN WITH THE SEED: the statements are not yours to turn. If you find one false, say at which input.
  Laid BY PROGRAM, IN A SANDBOX (cutbox-rows.mjs): the forced cells as the released guide's own fill.sh prints them over the translation f2ef5e5e68690710… (all of the seat's roots in one cut). By AI agents, Wed Nov 11 2026. No macro, syntax, notation, axiom, sorry.
-/
import Derived.Test.YtigbeielobdfiaaChecked
import GoSem.Claim
import GoSem.ClaimJoined
import GoSem.ClaimMapViews
import Derived.JoinedTies
import Derived.KernelRfl
namespace Go.Proofs.Ytigbeielobdfiaa
/- THE CELL 'sum', in the pinned program and in every row, IS THE sha256 OF THE DUMP (.gsa) THAT YtigbeielobdfiaaProg.lean LOADS. Nothing in Lean hashes anything: it is a label: what it is worth is what the hold of that sum in a sandbox is worth. -/
noncomputable def Try.pinned : Pinned := { name := "ytigbeielobdfiaa", sum := "f2ef5e5e68690710fc6db88d8d6761b8df103d95cb65a0139d4d9555ae66dd10", checked := Try.checked }
namespace Rows
def none {H : Type} : Left H := { results := [], args := [] }

/-- 'escutcheonlaw17.GlobTells': WHATEVER THE INPUT: true; the input reads as it did. -/
def globTellsSpec : ChangeSpec := { name := "globTells", fn := fun _ => fun
  | [d1, d2] => { results := [.lit (.bool true)], args := [d1, d2] }
  | _ => none }
def globTellsRow : OpenClaim := { program := "ytigbeielobdfiaa", sum := "f2ef5e5e68690710fc6db88d8d6761b8df103d95cb65a0139d4d9555ae66dd10", func := "escutcheon/escutcheonlaw17.GlobTells", spec := "globTells", inPlace := ["internal/abi.NoEscape", "internal/bytealg.IndexByteString"], apart := false }
def GlobTellsSaid : Prop := globTellsRow.holds Try.pinned (OpenSpec.ofChange globTellsSpec)

/-- ITS FALSE NEIGHBOUR: 'it returns false'. Refute it at one input. -/
def globTellsWrong : ChangeSpec := { name := "globTells", fn := fun _ => fun
  | [d1, d2] => { results := [.lit (.bool false)], args := [d1, d2] }
  | _ => none }
def GlobTellsWrongFalsely : Prop := globTellsRow.holds Try.pinned (OpenSpec.ofChange globTellsWrong)

/-- 'escutcheonlaw17.GlobQuotes': WHATEVER THE INPUT: true; the input reads as it did. -/
def globQuotesSpec : ChangeSpec := { name := "globQuotes", fn := fun _ => fun
  | [d1, d2, d3] => { results := [.lit (.bool true)], args := [d1, d2, d3] }
  | _ => none }
def globQuotesRow : OpenClaim := { program := "ytigbeielobdfiaa", sum := "f2ef5e5e68690710fc6db88d8d6761b8df103d95cb65a0139d4d9555ae66dd10", func := "escutcheon/escutcheonlaw17.GlobQuotes", spec := "globQuotes", inPlace := ["internal/abi.NoEscape", "internal/bytealg.IndexByteString"], apart := false }
def GlobQuotesSaid : Prop := globQuotesRow.holds Try.pinned (OpenSpec.ofChange globQuotesSpec)

/-- ITS FALSE NEIGHBOUR: 'it returns false'. Refute it at one input. -/
def globQuotesWrong : ChangeSpec := { name := "globQuotes", fn := fun _ => fun
  | [d1, d2, d3] => { results := [.lit (.bool false)], args := [d1, d2, d3] }
  | _ => none }
def GlobQuotesWrongFalsely : Prop := globQuotesRow.holds Try.pinned (OpenSpec.ofChange globQuotesWrong)

/-- 'escutcheonlaw17.GlobParts': WHATEVER THE INPUT: true; the input reads as it did. -/
def globPartsSpec : ChangeSpec := { name := "globParts", fn := fun _ => fun
  | [d1, d2, d3, d4] => { results := [.lit (.bool true)], args := [d1, d2, d3, d4] }
  | _ => none }
def globPartsRow : OpenClaim := { program := "ytigbeielobdfiaa", sum := "f2ef5e5e68690710fc6db88d8d6761b8df103d95cb65a0139d4d9555ae66dd10", func := "escutcheon/escutcheonlaw17.GlobParts", spec := "globParts", inPlace := ["internal/abi.NoEscape", "internal/bytealg.IndexByteString"], apart := false }
def GlobPartsSaid : Prop := globPartsRow.holds Try.pinned (OpenSpec.ofChange globPartsSpec)

/-- ITS FALSE NEIGHBOUR: 'it returns false'. Refute it at one input. -/
def globPartsWrong : ChangeSpec := { name := "globParts", fn := fun _ => fun
  | [d1, d2, d3, d4] => { results := [.lit (.bool false)], args := [d1, d2, d3, d4] }
  | _ => none }
def GlobPartsWrongFalsely : Prop := globPartsRow.holds Try.pinned (OpenSpec.ofChange globPartsWrong)

/-- 'escutcheonlaw17.GlobStars': WHATEVER THE INPUT: true; the input reads as it did. -/
def globStarsSpec : ChangeSpec := { name := "globStars", fn := fun _ => fun
  | [d1, d2, d3] => { results := [.lit (.bool true)], args := [d1, d2, d3] }
  | _ => none }
def globStarsRow : OpenClaim := { program := "ytigbeielobdfiaa", sum := "f2ef5e5e68690710fc6db88d8d6761b8df103d95cb65a0139d4d9555ae66dd10", func := "escutcheon/escutcheonlaw17.GlobStars", spec := "globStars", inPlace := ["internal/abi.NoEscape", "internal/bytealg.IndexByteString"], apart := false }
def GlobStarsSaid : Prop := globStarsRow.holds Try.pinned (OpenSpec.ofChange globStarsSpec)

/-- ITS FALSE NEIGHBOUR: 'it returns false'. Refute it at one input. -/
def globStarsWrong : ChangeSpec := { name := "globStars", fn := fun _ => fun
  | [d1, d2, d3] => { results := [.lit (.bool false)], args := [d1, d2, d3] }
  | _ => none }
def GlobStarsWrongFalsely : Prop := globStarsRow.holds Try.pinned (OpenSpec.ofChange globStarsWrong)

/-- 'escutcheonlaw17.GlobSelf': WHATEVER THE INPUT: true; the input reads as it did. -/
def globSelfSpec : ChangeSpec := { name := "globSelf", fn := fun _ => fun
  | [d1, d2, d3] => { results := [.lit (.bool true)], args := [d1, d2, d3] }
  | _ => none }
def globSelfRow : OpenClaim := { program := "ytigbeielobdfiaa", sum := "f2ef5e5e68690710fc6db88d8d6761b8df103d95cb65a0139d4d9555ae66dd10", func := "escutcheon/escutcheonlaw17.GlobSelf", spec := "globSelf", inPlace := ["internal/abi.NoEscape", "internal/bytealg.IndexByteString"], apart := false }
def GlobSelfSaid : Prop := globSelfRow.holds Try.pinned (OpenSpec.ofChange globSelfSpec)

/-- ITS FALSE NEIGHBOUR: 'it returns false'. Refute it at one input. -/
def globSelfWrong : ChangeSpec := { name := "globSelf", fn := fun _ => fun
  | [d1, d2, d3] => { results := [.lit (.bool false)], args := [d1, d2, d3] }
  | _ => none }
def GlobSelfWrongFalsely : Prop := globSelfRow.holds Try.pinned (OpenSpec.ofChange globSelfWrong)

/-- 'escutcheonlaw17.GlobEscapes': WHATEVER THE INPUT: true; the input reads as it did. -/
def globEscapesSpec : ChangeSpec := { name := "globEscapes", fn := fun _ => fun
  | [d1, d2] => { results := [.lit (.bool true)], args := [d1, d2] }
  | _ => none }
def globEscapesRow : OpenClaim := { program := "ytigbeielobdfiaa", sum := "f2ef5e5e68690710fc6db88d8d6761b8df103d95cb65a0139d4d9555ae66dd10", func := "escutcheon/escutcheonlaw17.GlobEscapes", spec := "globEscapes", inPlace := ["internal/abi.NoEscape", "internal/bytealg.IndexByteString"], apart := false }
def GlobEscapesSaid : Prop := globEscapesRow.holds Try.pinned (OpenSpec.ofChange globEscapesSpec)

/-- ITS FALSE NEIGHBOUR: 'it returns false'. Refute it at one input. -/
def globEscapesWrong : ChangeSpec := { name := "globEscapes", fn := fun _ => fun
  | [d1, d2] => { results := [.lit (.bool false)], args := [d1, d2] }
  | _ => none }
def GlobEscapesWrongFalsely : Prop := globEscapesRow.holds Try.pinned (OpenSpec.ofChange globEscapesWrong)

/-- 'escutcheonlaw17.GlobLong': WHATEVER THE INPUT: true; the input reads as it did. -/
def globLongSpec : ChangeSpec := { name := "globLong", fn := fun _ => fun
  | [d] => { results := [.lit (.bool true)], args := [d] }
  | _ => none }
def globLongRow : OpenClaim := { program := "ytigbeielobdfiaa", sum := "f2ef5e5e68690710fc6db88d8d6761b8df103d95cb65a0139d4d9555ae66dd10", func := "escutcheon/escutcheonlaw17.GlobLong", spec := "globLong", inPlace := ["internal/abi.NoEscape", "internal/bytealg.IndexByteString"], apart := false }
def GlobLongSaid : Prop := globLongRow.holds Try.pinned (OpenSpec.ofChange globLongSpec)

/-- ITS FALSE NEIGHBOUR: 'it returns false'. Refute it at one input. -/
def globLongWrong : ChangeSpec := { name := "globLong", fn := fun _ => fun
  | [d] => { results := [.lit (.bool false)], args := [d] }
  | _ => none }
def GlobLongWrongFalsely : Prop := globLongRow.holds Try.pinned (OpenSpec.ofChange globLongWrong)

/- THE SECOND FORM. 'bulk': how many values and letters a reading holds, each counted each time it is reached (what is shared counts as often as it is met; a slice's spare places count too). A statement '..UptoSaid' is the law's where the arguments, and the package variables that the reading takes, are together of bulk at most 1048576: NARROWER than '..Said'. Prove '..Said' where nothing that the law and all that it calls make is longer than what came in: it says more and counts as full. Else prove '..UptoSaid'. A law counts once. -/
mutual
def uptoBulk {H : Type} : DataW H → Nat
  | .lit (.string bytes) => bytes.length + 1
  | .lit _ => 1
  | .nil => 1
  | .ptr d => uptoBulk d + 1
  | .slice elems spare => uptoBulkAll elems + uptoBulkAll spare + 1
  | .agg parts => uptoBulkAll parts + 1
  | .iface _ d => uptoBulk d + 1
  | .map entries => uptoBulkEntries entries + 1
  | .held _ => 1
def uptoBulkAll {H : Type} : List (DataW H) → Nat
  | [] => 0
  | d :: r => uptoBulk d + uptoBulkAll r
def uptoBulkEntries {H : Type} : List (Lit × DataW H) → Nat
  | [] => 0
  | x :: r => uptoBulkEntry x + uptoBulkEntries r
def uptoBulkEntry {H : Type} : Lit × DataW H → Nat
  | (.string bytes, d) => bytes.length + uptoBulk d + 1
  | (_, d) => uptoBulk d + 1
 end
def uptoSmall : (H : Type) → List (DataW H) → Bool := fun _ ds => decide (uptoBulkAll ds ≤ 1048576)
def OpenSpec.upto (s : _root_.Go.ChangeSpec) : _root_.Go.OpenSpec := { _root_.Go.OpenSpec.ofChange s with cond := some uptoSmall }

/-- 'escutcheonlaw17.GlobTells', WHERE WHAT IT READS IS OF BULK AT MOST 1048576: true; the input reads as it did. -/
def globTellsUptoRow : OpenClaim := { program := "ytigbeielobdfiaa", sum := "f2ef5e5e68690710fc6db88d8d6761b8df103d95cb65a0139d4d9555ae66dd10", func := "escutcheon/escutcheonlaw17.GlobTells", spec := "globTells", inPlace := ["internal/abi.NoEscape", "internal/bytealg.IndexByteString"], apart := false, narrowed := true }
def GlobTellsUptoSaid : Prop := globTellsUptoRow.holds Try.pinned (OpenSpec.upto globTellsSpec)

/-- 'escutcheonlaw17.GlobQuotes', WHERE WHAT IT READS IS OF BULK AT MOST 1048576: true; the input reads as it did. -/
def globQuotesUptoRow : OpenClaim := { program := "ytigbeielobdfiaa", sum := "f2ef5e5e68690710fc6db88d8d6761b8df103d95cb65a0139d4d9555ae66dd10", func := "escutcheon/escutcheonlaw17.GlobQuotes", spec := "globQuotes", inPlace := ["internal/abi.NoEscape", "internal/bytealg.IndexByteString"], apart := false, narrowed := true }
def GlobQuotesUptoSaid : Prop := globQuotesUptoRow.holds Try.pinned (OpenSpec.upto globQuotesSpec)

/-- 'escutcheonlaw17.GlobParts', WHERE WHAT IT READS IS OF BULK AT MOST 1048576: true; the input reads as it did. -/
def globPartsUptoRow : OpenClaim := { program := "ytigbeielobdfiaa", sum := "f2ef5e5e68690710fc6db88d8d6761b8df103d95cb65a0139d4d9555ae66dd10", func := "escutcheon/escutcheonlaw17.GlobParts", spec := "globParts", inPlace := ["internal/abi.NoEscape", "internal/bytealg.IndexByteString"], apart := false, narrowed := true }
def GlobPartsUptoSaid : Prop := globPartsUptoRow.holds Try.pinned (OpenSpec.upto globPartsSpec)

/-- 'escutcheonlaw17.GlobStars', WHERE WHAT IT READS IS OF BULK AT MOST 1048576: true; the input reads as it did. -/
def globStarsUptoRow : OpenClaim := { program := "ytigbeielobdfiaa", sum := "f2ef5e5e68690710fc6db88d8d6761b8df103d95cb65a0139d4d9555ae66dd10", func := "escutcheon/escutcheonlaw17.GlobStars", spec := "globStars", inPlace := ["internal/abi.NoEscape", "internal/bytealg.IndexByteString"], apart := false, narrowed := true }
def GlobStarsUptoSaid : Prop := globStarsUptoRow.holds Try.pinned (OpenSpec.upto globStarsSpec)

/-- 'escutcheonlaw17.GlobSelf', WHERE WHAT IT READS IS OF BULK AT MOST 1048576: true; the input reads as it did. -/
def globSelfUptoRow : OpenClaim := { program := "ytigbeielobdfiaa", sum := "f2ef5e5e68690710fc6db88d8d6761b8df103d95cb65a0139d4d9555ae66dd10", func := "escutcheon/escutcheonlaw17.GlobSelf", spec := "globSelf", inPlace := ["internal/abi.NoEscape", "internal/bytealg.IndexByteString"], apart := false, narrowed := true }
def GlobSelfUptoSaid : Prop := globSelfUptoRow.holds Try.pinned (OpenSpec.upto globSelfSpec)

/-- 'escutcheonlaw17.GlobEscapes', WHERE WHAT IT READS IS OF BULK AT MOST 1048576: true; the input reads as it did. -/
def globEscapesUptoRow : OpenClaim := { program := "ytigbeielobdfiaa", sum := "f2ef5e5e68690710fc6db88d8d6761b8df103d95cb65a0139d4d9555ae66dd10", func := "escutcheon/escutcheonlaw17.GlobEscapes", spec := "globEscapes", inPlace := ["internal/abi.NoEscape", "internal/bytealg.IndexByteString"], apart := false, narrowed := true }
def GlobEscapesUptoSaid : Prop := globEscapesUptoRow.holds Try.pinned (OpenSpec.upto globEscapesSpec)

/-- 'escutcheonlaw17.GlobLong', WHERE WHAT IT READS IS OF BULK AT MOST 1048576: true; the input reads as it did. -/
def globLongUptoRow : OpenClaim := { program := "ytigbeielobdfiaa", sum := "f2ef5e5e68690710fc6db88d8d6761b8df103d95cb65a0139d4d9555ae66dd10", func := "escutcheon/escutcheonlaw17.GlobLong", spec := "globLong", inPlace := ["internal/abi.NoEscape", "internal/bytealg.IndexByteString"], apart := false, narrowed := true }
def GlobLongUptoSaid : Prop := globLongUptoRow.holds Try.pinned (OpenSpec.upto globLongSpec)

end Rows
end Go.Proofs.Ytigbeielobdfiaa
