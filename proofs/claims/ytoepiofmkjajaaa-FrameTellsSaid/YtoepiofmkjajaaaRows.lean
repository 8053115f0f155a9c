/-
  No cell of these rows narrows 'for every input' (looked for: loops, veiled, ifaces, maps, wideKeys, modest, calm, conditions, laid).
  DERIVED. THE GIVEN ROWS OF THIS SEAT. 6 by the template 'for every input the law returns true; each argument reads behind the call as it read before'; 0 by the template 'total and deterministic' (their statements: YtoepiofmkjajaaaTotals.lean).
  GIVEN WITH THE SEED: the statements are not yours to turn. If you find one false, say at which input.
  Laid BY PROGRAM, IN A SANDBOX (cutbox-rows.mjs): the forced cells as the released guide's own fill.sh prints them over the translation e8cae9548e92c31b… (all of the seat's roots in one cut). By AI agents, Wed Nov 11 2026. No macro, syntax, notation, axiom, sorry.
-/
import Derived.Test.YtoepiofmkjajaaaChecked
import GoSem.Claim
import GoSem.ClaimJoined
import GoSem.ClaimMapViews
import Derived.JoinedTies
import Derived.KernelRfl
namespace Go.Proofs.Ytoepiofmkjajaaa
/- THE CELL 'sum', in the pinned program and in every row, IS THE sha256 OF THE DUMP (.gsa) THAT YtoepiofmkjajaaaProg.lean LOADS. Nothing in Lean hashes anything: it is a label: what it is worth is what the hold of that sum in a sandbox is worth. -/
noncomputable def Try.pinned : Pinned := { name := "ytoepiofmkjajaaa", sum := "e8cae9548e92c31b338f79aa46db3ebcd4989ae5fb5cf9b7279c9360b87b654c", checked := Try.checked }
namespace Rows
def none {H : Type} : Left H := { results := [], args := [] }

/-- 'escutcheonlaw9.FramePut': WHATEVER THE INPUT: true; the input reads as it did. -/
def framePutSpec : ChangeSpec := { name := "framePut", fn := fun _ => fun
  | [d] => { results := [.lit (.bool true)], args := [d] }
  | _ => none }
def framePutRow : OpenClaim := { program := "ytoepiofmkjajaaa", sum := "e8cae9548e92c31b338f79aa46db3ebcd4989ae5fb5cf9b7279c9360b87b654c", func := "escutcheon/escutcheonlaw9.FramePut", spec := "framePut", inPlace := ["sync/atomic.AddInt64"], apart := false }
def FramePutSaid : Prop := framePutRow.holds Try.pinned (OpenSpec.ofChange framePutSpec)

/-- ITS FALSE NEIGHBOUR: 'it returns false'. Refute it at one input. -/
def framePutWrong : ChangeSpec := { name := "framePut", fn := fun _ => fun
  | [d] => { results := [.lit (.bool false)], args := [d] }
  | _ => none }
def FramePutWrongFalsely : Prop := framePutRow.holds Try.pinned (OpenSpec.ofChange framePutWrong)

/-- 'escutcheonlaw9.FrameSizes': WHATEVER THE INPUT: true; the input reads as it did. -/
def frameSizesSpec : ChangeSpec := { name := "frameSizes", fn := fun _ => fun
  | [d1, d2] => { results := [.lit (.bool true)], args := [d1, d2] }
  | _ => none }
def frameSizesRow : OpenClaim := { program := "ytoepiofmkjajaaa", sum := "e8cae9548e92c31b338f79aa46db3ebcd4989ae5fb5cf9b7279c9360b87b654c", func := "escutcheon/escutcheonlaw9.FrameSizes", spec := "frameSizes", inPlace := ["sync/atomic.AddInt64"], apart := false }
def FrameSizesSaid : Prop := frameSizesRow.holds Try.pinned (OpenSpec.ofChange frameSizesSpec)

/-- ITS FALSE NEIGHBOUR: 'it returns false'. Refute it at one input. -/
def frameSizesWrong : ChangeSpec := { name := "frameSizes", fn := fun _ => fun
  | [d1, d2] => { results := [.lit (.bool false)], args := [d1, d2] }
  | _ => none }
def FrameSizesWrongFalsely : Prop := frameSizesRow.holds Try.pinned (OpenSpec.ofChange frameSizesWrong)

/-- 'escutcheonlaw9.FrameParts': WHATEVER THE INPUT: true; the input reads as it did. -/
def framePartsSpec : ChangeSpec := { name := "frameParts", fn := fun _ => fun
  | [d1, d2] => { results := [.lit (.bool true)], args := [d1, d2] }
  | _ => none }
def framePartsRow : OpenClaim := { program := "ytoepiofmkjajaaa", sum := "e8cae9548e92c31b338f79aa46db3ebcd4989ae5fb5cf9b7279c9360b87b654c", func := "escutcheon/escutcheonlaw9.FrameParts", spec := "frameParts", inPlace := ["sync/atomic.AddInt64"], apart := false }
def FramePartsSaid : Prop := framePartsRow.holds Try.pinned (OpenSpec.ofChange framePartsSpec)

/-- ITS FALSE NEIGHBOUR: 'it returns false'. Refute it at one input. -/
def framePartsWrong : ChangeSpec := { name := "frameParts", fn := fun _ => fun
  | [d1, d2] => { results := [.lit (.bool false)], args := [d1, d2] }
  | _ => none }
def FramePartsWrongFalsely : Prop := framePartsRow.holds Try.pinned (OpenSpec.ofChange framePartsWrong)

/-- 'escutcheonlaw9.FrameTells': WHATEVER THE INPUT: true; the input reads as it did. -/
def frameTellsSpec : ChangeSpec := { name := "frameTells", fn := fun _ => fun
  | [d] => { results := [.lit (.bool true)], args := [d] }
  | _ => none }
def frameTellsRow : OpenClaim := { program := "ytoepiofmkjajaaa", sum := "e8cae9548e92c31b338f79aa46db3ebcd4989ae5fb5cf9b7279c9360b87b654c", func := "escutcheon/escutcheonlaw9.FrameTells", spec := "frameTells", inPlace := ["sync/atomic.AddInt64"], apart := false }
def FrameTellsSaid : Prop := frameTellsRow.holds Try.pinned (OpenSpec.ofChange frameTellsSpec)

/-- ITS FALSE NEIGHBOUR: 'it returns false'. Refute it at one input. -/
def frameTellsWrong : ChangeSpec := { name := "frameTells", fn := fun _ => fun
  | [d] => { results := [.lit (.bool false)], args := [d] }
  | _ => none }
def FrameTellsWrongFalsely : Prop := frameTellsRow.holds Try.pinned (OpenSpec.ofChange frameTellsWrong)

/-- 'escutcheonlaw9.FrameDead': WHATEVER THE INPUT: true; the input reads as it did. -/
def frameDeadSpec : ChangeSpec := { name := "frameDead", fn := fun _ => fun
  | [d1, d2, d3] => { results := [.lit (.bool true)], args := [d1, d2, d3] }
  | _ => none }
def frameDeadRow : OpenClaim := { program := "ytoepiofmkjajaaa", sum := "e8cae9548e92c31b338f79aa46db3ebcd4989ae5fb5cf9b7279c9360b87b654c", func := "escutcheon/escutcheonlaw9.FrameDead", spec := "frameDead", inPlace := ["sync/atomic.AddInt64"], apart := false }
def FrameDeadSaid : Prop := frameDeadRow.holds Try.pinned (OpenSpec.ofChange frameDeadSpec)

/-- ITS FALSE NEIGHBOUR: 'it returns false'. Refute it at one input. -/
def frameDeadWrong : ChangeSpec := { name := "frameDead", fn := fun _ => fun
  | [d1, d2, d3] => { results := [.lit (.bool false)], args := [d1, d2, d3] }
  | _ => none }
def FrameDeadWrongFalsely : Prop := frameDeadRow.holds Try.pinned (OpenSpec.ofChange frameDeadWrong)

/-- 'escutcheonlaw9.FrameBytes': WHATEVER THE INPUT: true; the input reads as it did. -/
def frameBytesSpec : ChangeSpec := { name := "frameBytes", fn := fun _ => fun
  | [d] => { results := [.lit (.bool true)], args := [d] }
  | _ => none }
def frameBytesRow : OpenClaim := { program := "ytoepiofmkjajaaa", sum := "e8cae9548e92c31b338f79aa46db3ebcd4989ae5fb5cf9b7279c9360b87b654c", func := "escutcheon/escutcheonlaw9.FrameBytes", spec := "frameBytes", inPlace := ["sync/atomic.AddInt64"], apart := false }
def FrameBytesSaid : Prop := frameBytesRow.holds Try.pinned (OpenSpec.ofChange frameBytesSpec)

/-- ITS FALSE NEIGHBOUR: 'it returns false'. Refute it at one input. -/
def frameBytesWrong : ChangeSpec := { name := "frameBytes", fn := fun _ => fun
  | [d] => { results := [.lit (.bool false)], args := [d] }
  | _ => none }
def FrameBytesWrongFalsely : Prop := frameBytesRow.holds Try.pinned (OpenSpec.ofChange frameBytesWrong)

/- THE SECOND FORM. 'bulk': how many values and letters a reading holds, each counted each time it is reached (what is shared counts as often as it is met; a slice's spare places count too). A statement '..UptoSaid' is the law's where the arguments, and the package variables that the reading takes, are together of bulk at most 1048576: NARROWER than '..Said'. Prove '..Said' where nothing that the law and all that it calls make is longer than what came in: it says more and counts as full. Else prove '..UptoSaid'. A law counts once. -/
mutual
def uptoBulk {H : Type} : DataW H → Nat
  | .lit (.string bytes) => bytes.length + 1
  | .lit _ => 1
  | .nil => 1
  | .ptr d => uptoBulk d + 1
  | .slice elems spare => uptoBulkAll elems + uptoBulkAll spare + 1
  | .agg parts => uptoBulkAll parts + 1
  | .iface _ d => uptoBulk d + 1
  | .map entries => uptoBulkEntries entries + 1
  | .held _ => 1
def uptoBulkAll {H : Type} : List (DataW H) → Nat
  | [] => 0
  | d :: r => uptoBulk d + uptoBulkAll r
def uptoBulkEntries {H : Type} : List (Lit × DataW H) → Nat
  | [] => 0
  | x :: r => uptoBulkEntry x + uptoBulkEntries r
def uptoBulkEntry {H : Type} : Lit × DataW H → Nat
  | (.string bytes, d) => bytes.length + uptoBulk d + 1
  | (_, d) => uptoBulk d + 1
 end
def uptoSmall : (H : Type) → List (DataW H) → Bool := fun _ ds => decide (uptoBulkAll ds ≤ 1048576)
def OpenSpec.upto (s : _root_.Go.ChangeSpec) : _root_.Go.OpenSpec := { _root_.Go.OpenSpec.ofChange s with cond := some uptoSmall }

/-- 'escutcheonlaw9.FramePut', WHERE WHAT IT READS IS OF BULK AT MOST 1048576: true; the input reads as it did. -/
def framePutUptoRow : OpenClaim := { program := "ytoepiofmkjajaaa", sum := "e8cae9548e92c31b338f79aa46db3ebcd4989ae5fb5cf9b7279c9360b87b654c", func := "escutcheon/escutcheonlaw9.FramePut", spec := "framePut", inPlace := ["sync/atomic.AddInt64"], apart := false, narrowed := true }
def FramePutUptoSaid : Prop := framePutUptoRow.holds Try.pinned (OpenSpec.upto framePutSpec)

/-- 'escutcheonlaw9.FrameSizes', WHERE WHAT IT READS IS OF BULK AT MOST 1048576: true; the input reads as it did. -/
def frameSizesUptoRow : OpenClaim := { program := "ytoepiofmkjajaaa", sum := "e8cae9548e92c31b338f79aa46db3ebcd4989ae5fb5cf9b7279c9360b87b654c", func := "escutcheon/escutcheonlaw9.FrameSizes", spec := "frameSizes", inPlace := ["sync/atomic.AddInt64"], apart := false, narrowed := true }
def FrameSizesUptoSaid : Prop := frameSizesUptoRow.holds Try.pinned (OpenSpec.upto frameSizesSpec)

/-- 'escutcheonlaw9.FrameParts', WHERE WHAT IT READS IS OF BULK AT MOST 1048576: true; the input reads as it did. -/
def framePartsUptoRow : OpenClaim := { program := "ytoepiofmkjajaaa", sum := "e8cae9548e92c31b338f79aa46db3ebcd4989ae5fb5cf9b7279c9360b87b654c", func := "escutcheon/escutcheonlaw9.FrameParts", spec := "frameParts", inPlace := ["sync/atomic.AddInt64"], apart := false, narrowed := true }
def FramePartsUptoSaid : Prop := framePartsUptoRow.holds Try.pinned (OpenSpec.upto framePartsSpec)

/-- 'escutcheonlaw9.FrameTells', WHERE WHAT IT READS IS OF BULK AT MOST 1048576: true; the input reads as it did. -/
def frameTellsUptoRow : OpenClaim := { program := "ytoepiofmkjajaaa", sum := "e8cae9548e92c31b338f79aa46db3ebcd4989ae5fb5cf9b7279c9360b87b654c", func := "escutcheon/escutcheonlaw9.FrameTells", spec := "frameTells", inPlace := ["sync/atomic.AddInt64"], apart := false, narrowed := true }
def FrameTellsUptoSaid : Prop := frameTellsUptoRow.holds Try.pinned (OpenSpec.upto frameTellsSpec)

/-- 'escutcheonlaw9.FrameDead', WHERE WHAT IT READS IS OF BULK AT MOST 1048576: true; the input reads as it did. -/
def frameDeadUptoRow : OpenClaim := { program := "ytoepiofmkjajaaa", sum := "e8cae9548e92c31b338f79aa46db3ebcd4989ae5fb5cf9b7279c9360b87b654c", func := "escutcheon/escutcheonlaw9.FrameDead", spec := "frameDead", inPlace := ["sync/atomic.AddInt64"], apart := false, narrowed := true }
def FrameDeadUptoSaid : Prop := frameDeadUptoRow.holds Try.pinned (OpenSpec.upto frameDeadSpec)

/-- 'escutcheonlaw9.FrameBytes', WHERE WHAT IT READS IS OF BULK AT MOST 1048576: true; the input reads as it did. -/
def frameBytesUptoRow : OpenClaim := { program := "ytoepiofmkjajaaa", sum := "e8cae9548e92c31b338f79aa46db3ebcd4989ae5fb5cf9b7279c9360b87b654c", func := "escutcheon/escutcheonlaw9.FrameBytes", spec := "frameBytes", inPlace := ["sync/atomic.AddInt64"], apart := false, narrowed := true }
def FrameBytesUptoSaid : Prop := frameBytesUptoRow.holds Try.pinned (OpenSpec.upto frameBytesSpec)

end Rows
end Go.Proofs.Ytoepiofmkjajaaa
