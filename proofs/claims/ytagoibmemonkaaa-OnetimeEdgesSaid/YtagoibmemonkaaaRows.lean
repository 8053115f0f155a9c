/-
  No cell of these rows narrows 'for every input' (looked for: loops, veiled, ifaces, maps, wideKeys, modest, calm, conditions, laid).
  DERIVED. THE GIVEN ROWS OF THIS SEAT. 6 by the template 'for every input the law returns true; each argument reads behind the call as it read before'; 0 by the template 'total and deterministic' (their statements: YtagoibmemonkaaaTotals.lean).
  GIVEN WITH THE SEED: the statements are not yours to turn. If you find one false, say at which input.
  Laid BY PROGRAM, IN A SANDBOX (cutbox-rows.mjs): the forced cells as the released guide's own fill.sh prints them over the translation fcf295e1a50aae3b… (all of the seat's roots in one cut). By AI agents, Wed Nov 11 2026. No macro, syntax, notation, axiom, sorry.
-/
import Derived.Test.YtagoibmemonkaaaChecked
import GoSem.Claim
import GoSem.ClaimJoined
import GoSem.ClaimMapViews
import Derived.JoinedTies
import Derived.KernelRfl
namespace Go.Proofs.Ytagoibmemonkaaa
/- THE CELL 'sum', in the pinned program and in every row, IS THE sha256 OF THE DUMP (.gsa) THAT YtagoibmemonkaaaProg.lean LOADS. Nothing in Lean hashes anything: it is a label: what it is worth is what the hold of that sum in a sandbox is worth. -/
noncomputable def Try.pinned : Pinned := { name := "ytagoibmemonkaaa", sum := "fcf295e1a50aae3b2deb66bdcbe4463596fc66b67848455cca95c424248d3b74", checked := Try.checked }
namespace Rows
def none {H : Type} : Left H := { results := [], args := [] }

/-- 'escutcheonlaw6.OnetimeTells': WHATEVER THE INPUT: true; the input reads as it did. -/
def onetimeTellsSpec : ChangeSpec := { name := "onetimeTells", fn := fun _ => fun
  | [d1, d2, d3] => { results := [.lit (.bool true)], args := [d1, d2, d3] }
  | _ => none }
def onetimeTellsRow : OpenClaim := { program := "ytagoibmemonkaaa", sum := "fcf295e1a50aae3b2deb66bdcbe4463596fc66b67848455cca95c424248d3b74", func := "escutcheon/escutcheonlaw6.OnetimeTells", spec := "onetimeTells", inPlace := ["math/bits.Add64"], apart := false }
def OnetimeTellsSaid : Prop := onetimeTellsRow.holds Try.pinned (OpenSpec.ofChange onetimeTellsSpec)

/-- ITS FALSE NEIGHBOUR: 'it returns false'. Refute it at one input. -/
def onetimeTellsWrong : ChangeSpec := { name := "onetimeTells", fn := fun _ => fun
  | [d1, d2, d3] => { results := [.lit (.bool false)], args := [d1, d2, d3] }
  | _ => none }
def OnetimeTellsWrongFalsely : Prop := onetimeTellsRow.holds Try.pinned (OpenSpec.ofChange onetimeTellsWrong)

/-- 'escutcheonlaw6.OnetimeEdges': WHATEVER THE INPUT: true; the input reads as it did. -/
def onetimeEdgesSpec : ChangeSpec := { name := "onetimeEdges", fn := fun _ => fun
  | [d1, d2, d3, d4] => { results := [.lit (.bool true)], args := [d1, d2, d3, d4] }
  | _ => none }
def onetimeEdgesRow : OpenClaim := { program := "ytagoibmemonkaaa", sum := "fcf295e1a50aae3b2deb66bdcbe4463596fc66b67848455cca95c424248d3b74", func := "escutcheon/escutcheonlaw6.OnetimeEdges", spec := "onetimeEdges", inPlace := ["math/bits.Add64"], apart := false }
def OnetimeEdgesSaid : Prop := onetimeEdgesRow.holds Try.pinned (OpenSpec.ofChange onetimeEdgesSpec)

/-- ITS FALSE NEIGHBOUR: 'it returns false'. Refute it at one input. -/
def onetimeEdgesWrong : ChangeSpec := { name := "onetimeEdges", fn := fun _ => fun
  | [d1, d2, d3, d4] => { results := [.lit (.bool false)], args := [d1, d2, d3, d4] }
  | _ => none }
def OnetimeEdgesWrongFalsely : Prop := onetimeEdgesRow.holds Try.pinned (OpenSpec.ofChange onetimeEdgesWrong)

/-- 'escutcheonlaw6.OnetimeZero': WHATEVER THE INPUT: true; the input reads as it did. -/
def onetimeZeroSpec : ChangeSpec := { name := "onetimeZero", fn := fun _ => fun
  | [d1, d2, d3] => { results := [.lit (.bool true)], args := [d1, d2, d3] }
  | _ => none }
def onetimeZeroRow : OpenClaim := { program := "ytagoibmemonkaaa", sum := "fcf295e1a50aae3b2deb66bdcbe4463596fc66b67848455cca95c424248d3b74", func := "escutcheon/escutcheonlaw6.OnetimeZero", spec := "onetimeZero", inPlace := ["math/bits.Add64"], apart := false }
def OnetimeZeroSaid : Prop := onetimeZeroRow.holds Try.pinned (OpenSpec.ofChange onetimeZeroSpec)

/-- ITS FALSE NEIGHBOUR: 'it returns false'. Refute it at one input. -/
def onetimeZeroWrong : ChangeSpec := { name := "onetimeZero", fn := fun _ => fun
  | [d1, d2, d3] => { results := [.lit (.bool false)], args := [d1, d2, d3] }
  | _ => none }
def OnetimeZeroWrongFalsely : Prop := onetimeZeroRow.holds Try.pinned (OpenSpec.ofChange onetimeZeroWrong)

/-- 'escutcheonlaw6.OnetimeShifts': WHATEVER THE INPUT: true; the input reads as it did. -/
def onetimeShiftsSpec : ChangeSpec := { name := "onetimeShifts", fn := fun _ => fun
  | [d1, d2, d3, d4] => { results := [.lit (.bool true)], args := [d1, d2, d3, d4] }
  | _ => none }
def onetimeShiftsRow : OpenClaim := { program := "ytagoibmemonkaaa", sum := "fcf295e1a50aae3b2deb66bdcbe4463596fc66b67848455cca95c424248d3b74", func := "escutcheon/escutcheonlaw6.OnetimeShifts", spec := "onetimeShifts", inPlace := ["math/bits.Add64"], apart := false }
def OnetimeShiftsSaid : Prop := onetimeShiftsRow.holds Try.pinned (OpenSpec.ofChange onetimeShiftsSpec)

/-- ITS FALSE NEIGHBOUR: 'it returns false'. Refute it at one input. -/
def onetimeShiftsWrong : ChangeSpec := { name := "onetimeShifts", fn := fun _ => fun
  | [d1, d2, d3, d4] => { results := [.lit (.bool false)], args := [d1, d2, d3, d4] }
  | _ => none }
def OnetimeShiftsWrongFalsely : Prop := onetimeShiftsRow.holds Try.pinned (OpenSpec.ofChange onetimeShiftsWrong)

/-- 'escutcheonlaw6.OnetimeClamped': WHATEVER THE INPUT: true; the input reads as it did. -/
def onetimeClampedSpec : ChangeSpec := { name := "onetimeClamped", fn := fun _ => fun
  | [d1, d2] => { results := [.lit (.bool true)], args := [d1, d2] }
  | _ => none }
def onetimeClampedRow : OpenClaim := { program := "ytagoibmemonkaaa", sum := "fcf295e1a50aae3b2deb66bdcbe4463596fc66b67848455cca95c424248d3b74", func := "escutcheon/escutcheonlaw6.OnetimeClamped", spec := "onetimeClamped", inPlace := ["math/bits.Add64"], apart := false }
def OnetimeClampedSaid : Prop := onetimeClampedRow.holds Try.pinned (OpenSpec.ofChange onetimeClampedSpec)

/-- ITS FALSE NEIGHBOUR: 'it returns false'. Refute it at one input. -/
def onetimeClampedWrong : ChangeSpec := { name := "onetimeClamped", fn := fun _ => fun
  | [d1, d2] => { results := [.lit (.bool false)], args := [d1, d2] }
  | _ => none }
def OnetimeClampedWrongFalsely : Prop := onetimeClampedRow.holds Try.pinned (OpenSpec.ofChange onetimeClampedWrong)

/-- 'escutcheonlaw6.OnetimeOne': WHATEVER THE INPUT: true; the input reads as it did. -/
def onetimeOneSpec : ChangeSpec := { name := "onetimeOne", fn := fun _ => fun
  | [d1, d2] => { results := [.lit (.bool true)], args := [d1, d2] }
  | _ => none }
def onetimeOneRow : OpenClaim := { program := "ytagoibmemonkaaa", sum := "fcf295e1a50aae3b2deb66bdcbe4463596fc66b67848455cca95c424248d3b74", func := "escutcheon/escutcheonlaw6.OnetimeOne", spec := "onetimeOne", inPlace := ["math/bits.Add64"], apart := false }
def OnetimeOneSaid : Prop := onetimeOneRow.holds Try.pinned (OpenSpec.ofChange onetimeOneSpec)

/-- ITS FALSE NEIGHBOUR: 'it returns false'. Refute it at one input. -/
def onetimeOneWrong : ChangeSpec := { name := "onetimeOne", fn := fun _ => fun
  | [d1, d2] => { results := [.lit (.bool false)], args := [d1, d2] }
  | _ => none }
def OnetimeOneWrongFalsely : Prop := onetimeOneRow.holds Try.pinned (OpenSpec.ofChange onetimeOneWrong)

/- THE SECOND FORM. 'bulk': how many values and letters a reading holds, each counted each time it is reached (what is shared counts as often as it is met; a slice's spare places count too). A statement '..UptoSaid' is the law's where the arguments, and the package variables that the reading takes, are together of bulk at most 1048576: NARROWER than '..Said'. Prove '..Said' where nothing that the law and all that it calls make is longer than what came in: it says more and counts as full. Else prove '..UptoSaid'. A law counts once. -/
mutual
def uptoBulk {H : Type} : DataW H → Nat
  | .lit (.string bytes) => bytes.length + 1
  | .lit _ => 1
  | .nil => 1
  | .ptr d => uptoBulk d + 1
  | .slice elems spare => uptoBulkAll elems + uptoBulkAll spare + 1
  | .agg parts => uptoBulkAll parts + 1
  | .iface _ d => uptoBulk d + 1
  | .map entries => uptoBulkEntries entries + 1
  | .held _ => 1
def uptoBulkAll {H : Type} : List (DataW H) → Nat
  | [] => 0
  | d :: r => uptoBulk d + uptoBulkAll r
def uptoBulkEntries {H : Type} : List (Lit × DataW H) → Nat
  | [] => 0
  | x :: r => uptoBulkEntry x + uptoBulkEntries r
def uptoBulkEntry {H : Type} : Lit × DataW H → Nat
  | (.string bytes, d) => bytes.length + uptoBulk d + 1
  | (_, d) => uptoBulk d + 1
 end
def uptoSmall : (H : Type) → List (DataW H) → Bool := fun _ ds => decide (uptoBulkAll ds ≤ 1048576)
def OpenSpec.upto (s : _root_.Go.ChangeSpec) : _root_.Go.OpenSpec := { _root_.Go.OpenSpec.ofChange s with cond := some uptoSmall }

/-- 'escutcheonlaw6.OnetimeTells', WHERE WHAT IT READS IS OF BULK AT MOST 1048576: true; the input reads as it did. -/
def onetimeTellsUptoRow : OpenClaim := { program := "ytagoibmemonkaaa", sum := "fcf295e1a50aae3b2deb66bdcbe4463596fc66b67848455cca95c424248d3b74", func := "escutcheon/escutcheonlaw6.OnetimeTells", spec := "onetimeTells", inPlace := ["math/bits.Add64"], apart := false, narrowed := true }
def OnetimeTellsUptoSaid : Prop := onetimeTellsUptoRow.holds Try.pinned (OpenSpec.upto onetimeTellsSpec)

/-- 'escutcheonlaw6.OnetimeEdges', WHERE WHAT IT READS IS OF BULK AT MOST 1048576: true; the input reads as it did. -/
def onetimeEdgesUptoRow : OpenClaim := { program := "ytagoibmemonkaaa", sum := "fcf295e1a50aae3b2deb66bdcbe4463596fc66b67848455cca95c424248d3b74", func := "escutcheon/escutcheonlaw6.OnetimeEdges", spec := "onetimeEdges", inPlace := ["math/bits.Add64"], apart := false, narrowed := true }
def OnetimeEdgesUptoSaid : Prop := onetimeEdgesUptoRow.holds Try.pinned (OpenSpec.upto onetimeEdgesSpec)

/-- 'escutcheonlaw6.OnetimeZero', WHERE WHAT IT READS IS OF BULK AT MOST 1048576: true; the input reads as it did. -/
def onetimeZeroUptoRow : OpenClaim := { program := "ytagoibmemonkaaa", sum := "fcf295e1a50aae3b2deb66bdcbe4463596fc66b67848455cca95c424248d3b74", func := "escutcheon/escutcheonlaw6.OnetimeZero", spec := "onetimeZero", inPlace := ["math/bits.Add64"], apart := false, narrowed := true }
def OnetimeZeroUptoSaid : Prop := onetimeZeroUptoRow.holds Try.pinned (OpenSpec.upto onetimeZeroSpec)

/-- 'escutcheonlaw6.OnetimeShifts', WHERE WHAT IT READS IS OF BULK AT MOST 1048576: true; the input reads as it did. -/
def onetimeShiftsUptoRow : OpenClaim := { program := "ytagoibmemonkaaa", sum := "fcf295e1a50aae3b2deb66bdcbe4463596fc66b67848455cca95c424248d3b74", func := "escutcheon/escutcheonlaw6.OnetimeShifts", spec := "onetimeShifts", inPlace := ["math/bits.Add64"], apart := false, narrowed := true }
def OnetimeShiftsUptoSaid : Prop := onetimeShiftsUptoRow.holds Try.pinned (OpenSpec.upto onetimeShiftsSpec)

/-- 'escutcheonlaw6.OnetimeClamped', WHERE WHAT IT READS IS OF BULK AT MOST 1048576: true; the input reads as it did. -/
def onetimeClampedUptoRow : OpenClaim := { program := "ytagoibmemonkaaa", sum := "fcf295e1a50aae3b2deb66bdcbe4463596fc66b67848455cca95c424248d3b74", func := "escutcheon/escutcheonlaw6.OnetimeClamped", spec := "onetimeClamped", inPlace := ["math/bits.Add64"], apart := false, narrowed := true }
def OnetimeClampedUptoSaid : Prop := onetimeClampedUptoRow.holds Try.pinned (OpenSpec.upto onetimeClampedSpec)

/-- 'escutcheonlaw6.OnetimeOne', WHERE WHAT IT READS IS OF BULK AT MOST 1048576: true; the input reads as it did. -/
def onetimeOneUptoRow : OpenClaim := { program := "ytagoibmemonkaaa", sum := "fcf295e1a50aae3b2deb66bdcbe4463596fc66b67848455cca95c424248d3b74", func := "escutcheon/escutcheonlaw6.OnetimeOne", spec := "onetimeOne", inPlace := ["math/bits.Add64"], apart := false, narrowed := true }
def OnetimeOneUptoSaid : Prop := onetimeOneUptoRow.holds Try.pinned (OpenSpec.upto onetimeOneSpec)

end Rows
end Go.Proofs.Ytagoibmemonkaaa
