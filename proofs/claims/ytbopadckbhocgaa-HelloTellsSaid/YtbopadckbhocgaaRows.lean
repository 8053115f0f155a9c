/-
  No cell of these rows narrows 'for every input' (looked for: loops, veiled, ifaces, maps, wideKeys, modest, calm, conditions, laid).
  DERIVED. THE GIVEN ROWS OF THIS SEAT. 5 by the template 'for every input the law returns true; each argument reads behind the call as it read before'; 0 by the template 'total and deterministic' (their statements: YtbopadckbhocgaaTotals.lean).
  GIVEN WITH THE SEED: the statements are not yours to turn. If you find one false, say at which input.
  Laid BY PROGRAM, IN A SANDBOX (cutbox-rows.mjs): the forced cells as the released guide's own fill.sh prints them over the translation 21c406ade7c42b05… (all of the seat's roots in one cut). By AI agents, Wed Nov 11 2026. No macro, syntax, notation, axiom, sorry.
-/
import Derived.Test.YtbopadckbhocgaaChecked
import GoSem.Claim
import GoSem.ClaimJoined
import GoSem.ClaimMapViews
import Derived.JoinedTies
import Derived.KernelRfl
namespace Go.Proofs.Ytbopadckbhocgaa
/- THE CELL 'sum', in the pinned program and in every row, IS THE sha256 OF THE DUMP (.gsa) THAT YtbopadckbhocgaaProg.lean LOADS. Nothing in Lean hashes anything: it is a label: what it is worth is what the hold of that sum in a sandbox is worth. -/
noncomputable def Try.pinned : Pinned := { name := "ytbopadckbhocgaa", sum := "21c406ade7c42b05fc293c74792c88432055bba5ad39d2d1d63abed75d43db11", checked := Try.checked }
namespace Rows
def none {H : Type} : Left H := { results := [], args := [] }

/-- 'escutcheonlaw15.HelloTurned': WHATEVER THE INPUT: true; the input reads as it did. -/
def helloTurnedSpec : ChangeSpec := { name := "helloTurned", fn := fun _ => fun
  | [d1, d2, d3] => { results := [.lit (.bool true)], args := [d1, d2, d3] }
  | _ => none }
def helloTurnedRow : OpenClaim := { program := "ytbopadckbhocgaa", sum := "21c406ade7c42b05fc293c74792c88432055bba5ad39d2d1d63abed75d43db11", func := "escutcheon/escutcheonlaw15.HelloTurned", spec := "helloTurned", apart := false }
def HelloTurnedSaid : Prop := helloTurnedRow.holds Try.pinned (OpenSpec.ofChange helloTurnedSpec)

/-- ITS FALSE NEIGHBOUR: 'it returns false'. Refute it at one input. -/
def helloTurnedWrong : ChangeSpec := { name := "helloTurned", fn := fun _ => fun
  | [d1, d2, d3] => { results := [.lit (.bool false)], args := [d1, d2, d3] }
  | _ => none }
def HelloTurnedWrongFalsely : Prop := helloTurnedRow.holds Try.pinned (OpenSpec.ofChange helloTurnedWrong)

/-- 'escutcheonlaw15.HelloSizes': WHATEVER THE INPUT: true; the input reads as it did. -/
def helloSizesSpec : ChangeSpec := { name := "helloSizes", fn := fun _ => fun
  | [d1, d2, d3, d4] => { results := [.lit (.bool true)], args := [d1, d2, d3, d4] }
  | _ => none }
def helloSizesRow : OpenClaim := { program := "ytbopadckbhocgaa", sum := "21c406ade7c42b05fc293c74792c88432055bba5ad39d2d1d63abed75d43db11", func := "escutcheon/escutcheonlaw15.HelloSizes", spec := "helloSizes", apart := false }
def HelloSizesSaid : Prop := helloSizesRow.holds Try.pinned (OpenSpec.ofChange helloSizesSpec)

/-- ITS FALSE NEIGHBOUR: 'it returns false'. Refute it at one input. -/
def helloSizesWrong : ChangeSpec := { name := "helloSizes", fn := fun _ => fun
  | [d1, d2, d3, d4] => { results := [.lit (.bool false)], args := [d1, d2, d3, d4] }
  | _ => none }
def HelloSizesWrongFalsely : Prop := helloSizesRow.holds Try.pinned (OpenSpec.ofChange helloSizesWrong)

/-- 'escutcheonlaw15.HelloOnly': WHATEVER THE INPUT: true; the input reads as it did. -/
def helloOnlySpec : ChangeSpec := { name := "helloOnly", fn := fun _ => fun
  | [d] => { results := [.lit (.bool true)], args := [d] }
  | _ => none }
def helloOnlyRow : OpenClaim := { program := "ytbopadckbhocgaa", sum := "21c406ade7c42b05fc293c74792c88432055bba5ad39d2d1d63abed75d43db11", func := "escutcheon/escutcheonlaw15.HelloOnly", spec := "helloOnly", apart := false }
def HelloOnlySaid : Prop := helloOnlyRow.holds Try.pinned (OpenSpec.ofChange helloOnlySpec)

/-- ITS FALSE NEIGHBOUR: 'it returns false'. Refute it at one input. -/
def helloOnlyWrong : ChangeSpec := { name := "helloOnly", fn := fun _ => fun
  | [d] => { results := [.lit (.bool false)], args := [d] }
  | _ => none }
def HelloOnlyWrongFalsely : Prop := helloOnlyRow.holds Try.pinned (OpenSpec.ofChange helloOnlyWrong)

/-- 'escutcheonlaw15.HelloTells': WHATEVER THE INPUT: true; the input reads as it did. -/
def helloTellsSpec : ChangeSpec := { name := "helloTells", fn := fun _ => fun
  | [d1, d2, d3, d4, d5] => { results := [.lit (.bool true)], args := [d1, d2, d3, d4, d5] }
  | _ => none }
def helloTellsRow : OpenClaim := { program := "ytbopadckbhocgaa", sum := "21c406ade7c42b05fc293c74792c88432055bba5ad39d2d1d63abed75d43db11", func := "escutcheon/escutcheonlaw15.HelloTells", spec := "helloTells", apart := false }
def HelloTellsSaid : Prop := helloTellsRow.holds Try.pinned (OpenSpec.ofChange helloTellsSpec)

/-- ITS FALSE NEIGHBOUR: 'it returns false'. Refute it at one input. -/
def helloTellsWrong : ChangeSpec := { name := "helloTells", fn := fun _ => fun
  | [d1, d2, d3, d4, d5] => { results := [.lit (.bool false)], args := [d1, d2, d3, d4, d5] }
  | _ => none }
def HelloTellsWrongFalsely : Prop := helloTellsRow.holds Try.pinned (OpenSpec.ofChange helloTellsWrong)

/-- 'escutcheonlaw15.HelloBack': WHATEVER THE INPUT: true; the input reads as it did. -/
def helloBackSpec : ChangeSpec := { name := "helloBack", fn := fun _ => fun
  | [d1, d2, d3] => { results := [.lit (.bool true)], args := [d1, d2, d3] }
  | _ => none }
def helloBackRow : OpenClaim := { program := "ytbopadckbhocgaa", sum := "21c406ade7c42b05fc293c74792c88432055bba5ad39d2d1d63abed75d43db11", func := "escutcheon/escutcheonlaw15.HelloBack", spec := "helloBack", apart := false }
def HelloBackSaid : Prop := helloBackRow.holds Try.pinned (OpenSpec.ofChange helloBackSpec)

/-- ITS FALSE NEIGHBOUR: 'it returns false'. Refute it at one input. -/
def helloBackWrong : ChangeSpec := { name := "helloBack", fn := fun _ => fun
  | [d1, d2, d3] => { results := [.lit (.bool false)], args := [d1, d2, d3] }
  | _ => none }
def HelloBackWrongFalsely : Prop := helloBackRow.holds Try.pinned (OpenSpec.ofChange helloBackWrong)

/- THE SECOND FORM. 'bulk': how many values and letters a reading holds, each counted each time it is reached (what is shared counts as often as it is met; a slice's spare places count too). A statement '..UptoSaid' is the law's where the arguments, and the package variables that the reading takes, are together of bulk at most 1048576: NARROWER than '..Said'. Prove '..Said' where nothing that the law and all that it calls make is longer than what came in: it says more and counts as full. Else prove '..UptoSaid'. A law counts once. -/
mutual
def uptoBulk {H : Type} : DataW H → Nat
  | .lit (.string bytes) => bytes.length + 1
  | .lit _ => 1
  | .nil => 1
  | .ptr d => uptoBulk d + 1
  | .slice elems spare => uptoBulkAll elems + uptoBulkAll spare + 1
  | .agg parts => uptoBulkAll parts + 1
  | .iface _ d => uptoBulk d + 1
  | .map entries => uptoBulkEntries entries + 1
  | .held _ => 1
def uptoBulkAll {H : Type} : List (DataW H) → Nat
  | [] => 0
  | d :: r => uptoBulk d + uptoBulkAll r
def uptoBulkEntries {H : Type} : List (Lit × DataW H) → Nat
  | [] => 0
  | x :: r => uptoBulkEntry x + uptoBulkEntries r
def uptoBulkEntry {H : Type} : Lit × DataW H → Nat
  | (.string bytes, d) => bytes.length + uptoBulk d + 1
  | (_, d) => uptoBulk d + 1
 end
def uptoSmall : (H : Type) → List (DataW H) → Bool := fun _ ds => decide (uptoBulkAll ds ≤ 1048576)
def OpenSpec.upto (s : _root_.Go.ChangeSpec) : _root_.Go.OpenSpec := { _root_.Go.OpenSpec.ofChange s with cond := some uptoSmall }

/-- 'escutcheonlaw15.HelloTurned', WHERE WHAT IT READS IS OF BULK AT MOST 1048576: true; the input reads as it did. -/
def helloTurnedUptoRow : OpenClaim := { program := "ytbopadckbhocgaa", sum := "21c406ade7c42b05fc293c74792c88432055bba5ad39d2d1d63abed75d43db11", func := "escutcheon/escutcheonlaw15.HelloTurned", spec := "helloTurned", apart := false, narrowed := true }
def HelloTurnedUptoSaid : Prop := helloTurnedUptoRow.holds Try.pinned (OpenSpec.upto helloTurnedSpec)

/-- 'escutcheonlaw15.HelloSizes', WHERE WHAT IT READS IS OF BULK AT MOST 1048576: true; the input reads as it did. -/
def helloSizesUptoRow : OpenClaim := { program := "ytbopadckbhocgaa", sum := "21c406ade7c42b05fc293c74792c88432055bba5ad39d2d1d63abed75d43db11", func := "escutcheon/escutcheonlaw15.HelloSizes", spec := "helloSizes", apart := false, narrowed := true }
def HelloSizesUptoSaid : Prop := helloSizesUptoRow.holds Try.pinned (OpenSpec.upto helloSizesSpec)

/-- 'escutcheonlaw15.HelloOnly', WHERE WHAT IT READS IS OF BULK AT MOST 1048576: true; the input reads as it did. -/
def helloOnlyUptoRow : OpenClaim := { program := "ytbopadckbhocgaa", sum := "21c406ade7c42b05fc293c74792c88432055bba5ad39d2d1d63abed75d43db11", func := "escutcheon/escutcheonlaw15.HelloOnly", spec := "helloOnly", apart := false, narrowed := true }
def HelloOnlyUptoSaid : Prop := helloOnlyUptoRow.holds Try.pinned (OpenSpec.upto helloOnlySpec)

/-- 'escutcheonlaw15.HelloTells', WHERE WHAT IT READS IS OF BULK AT MOST 1048576: true; the input reads as it did. -/
def helloTellsUptoRow : OpenClaim := { program := "ytbopadckbhocgaa", sum := "21c406ade7c42b05fc293c74792c88432055bba5ad39d2d1d63abed75d43db11", func := "escutcheon/escutcheonlaw15.HelloTells", spec := "helloTells", apart := false, narrowed := true }
def HelloTellsUptoSaid : Prop := helloTellsUptoRow.holds Try.pinned (OpenSpec.upto helloTellsSpec)

/-- 'escutcheonlaw15.HelloBack', WHERE WHAT IT READS IS OF BULK AT MOST 1048576: true; the input reads as it did. -/
def helloBackUptoRow : OpenClaim := { program := "ytbopadckbhocgaa", sum := "21c406ade7c42b05fc293c74792c88432055bba5ad39d2d1d63abed75d43db11", func := "escutcheon/escutcheonlaw15.HelloBack", spec := "helloBack", apart := false, narrowed := true }
def HelloBackUptoSaid : Prop := helloBackUptoRow.holds Try.pinned (OpenSpec.upto helloBackSpec)

end Rows
end Go.Proofs.Ytbopadckbhocgaa
