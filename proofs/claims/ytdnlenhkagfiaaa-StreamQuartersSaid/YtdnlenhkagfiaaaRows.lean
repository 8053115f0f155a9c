/-
  No cell of these rows narrows 'for every input' (looked for: loops, veiled, ifaces, maps, wideKeys, modest, calm, conditions, laid).
  DERIVED. THE GIVEN ROWS OF THIS SEAT. 5 by the template 'for every input the law returns true; each argument reads behind the call as it read before'; 0 by the template 'total and deterministic' (their statements: YtdnlenhkagfiaaaTotals.lean).
  GIVEN WITH THE SEED: the statements are not yours to turn. If you find one false, say at which input.
  Laid BY PROGRAM, IN A SANDBOX (cutbox-rows.mjs): the forced cells as the released guide's own fill.sh prints them over the translation b59fa5c9da4564ca… (all of the seat's roots in one cut). By AI agents, Wed Nov 11 2026. No macro, syntax, notation, axiom, sorry.
-/
import Derived.Test.YtdnlenhkagfiaaaChecked
import GoSem.Claim
import GoSem.ClaimJoined
import GoSem.ClaimMapViews
import Derived.JoinedTies
import Derived.KernelRfl
namespace Go.Proofs.Ytdnlenhkagfiaaa
/- THE CELL 'sum', in the pinned program and in every row, IS THE sha256 OF THE DUMP (.gsa) THAT YtdnlenhkagfiaaaProg.lean LOADS. Nothing in Lean hashes anything: it is a label: what it is worth is what the hold of that sum in a sandbox is worth. -/
noncomputable def Try.pinned : Pinned := { name := "ytdnlenhkagfiaaa", sum := "b59fa5c9da4564ca8453ecd14eb8916d5247de87611a6e0601aec0a250fdfbc6", checked := Try.checked }
namespace Rows
def none {H : Type} : Left H := { results := [], args := [] }

/-- 'escutcheonlaw5.StreamQuarters': WHATEVER THE INPUT: true; the input reads as it did. -/
def streamQuartersSpec : ChangeSpec := { name := "streamQuarters", fn := fun _ => fun
  | [d1, d2, d3, d4] => { results := [.lit (.bool true)], args := [d1, d2, d3, d4] }
  | _ => none }
def streamQuartersRow : OpenClaim := { program := "ytdnlenhkagfiaaa", sum := "b59fa5c9da4564ca8453ecd14eb8916d5247de87611a6e0601aec0a250fdfbc6", func := "escutcheon/escutcheonlaw5.StreamQuarters", spec := "streamQuarters", inPlace := ["internal/abi.NoEscape"], unfollowed := true, recurses := true, apart := false }
def StreamQuartersSaid : Prop := streamQuartersRow.holds Try.pinned (OpenSpec.ofChange streamQuartersSpec)

/-- ITS FALSE NEIGHBOUR: 'it returns false'. Refute it at one input. -/
def streamQuartersWrong : ChangeSpec := { name := "streamQuarters", fn := fun _ => fun
  | [d1, d2, d3, d4] => { results := [.lit (.bool false)], args := [d1, d2, d3, d4] }
  | _ => none }
def StreamQuartersWrongFalsely : Prop := streamQuartersRow.holds Try.pinned (OpenSpec.ofChange streamQuartersWrong)

/-- 'escutcheonlaw5.StreamTells': WHATEVER THE INPUT: true; the input reads as it did. -/
def streamTellsSpec : ChangeSpec := { name := "streamTells", fn := fun _ => fun
  | [d1, d2, d3, d4, d5, d6, d7, d8, d9] => { results := [.lit (.bool true)], args := [d1, d2, d3, d4, d5, d6, d7, d8, d9] }
  | _ => none }
def streamTellsRow : OpenClaim := { program := "ytdnlenhkagfiaaa", sum := "b59fa5c9da4564ca8453ecd14eb8916d5247de87611a6e0601aec0a250fdfbc6", func := "escutcheon/escutcheonlaw5.StreamTells", spec := "streamTells", inPlace := ["internal/abi.NoEscape", "sync/atomic.StoreUint32", "sync/atomic.AddUint32"], apart := false }
def StreamTellsSaid : Prop := streamTellsRow.holds Try.pinned (OpenSpec.ofChange streamTellsSpec)

/-- ITS FALSE NEIGHBOUR: 'it returns false'. Refute it at one input. -/
def streamTellsWrong : ChangeSpec := { name := "streamTells", fn := fun _ => fun
  | [d1, d2, d3, d4, d5, d6, d7, d8, d9] => { results := [.lit (.bool false)], args := [d1, d2, d3, d4, d5, d6, d7, d8, d9] }
  | _ => none }
def StreamTellsWrongFalsely : Prop := streamTellsRow.holds Try.pinned (OpenSpec.ofChange streamTellsWrong)

/-- 'escutcheonlaw5.StreamCounts': WHATEVER THE INPUT: true; the input reads as it did. -/
def streamCountsSpec : ChangeSpec := { name := "streamCounts", fn := fun _ => fun
  | [d1, d2, d3, d4] => { results := [.lit (.bool true)], args := [d1, d2, d3, d4] }
  | _ => none }
def streamCountsRow : OpenClaim := { program := "ytdnlenhkagfiaaa", sum := "b59fa5c9da4564ca8453ecd14eb8916d5247de87611a6e0601aec0a250fdfbc6", func := "escutcheon/escutcheonlaw5.StreamCounts", spec := "streamCounts", inPlace := ["internal/abi.NoEscape", "sync/atomic.StoreUint32", "sync/atomic.AddUint32"], apart := false }
def StreamCountsSaid : Prop := streamCountsRow.holds Try.pinned (OpenSpec.ofChange streamCountsSpec)

/-- ITS FALSE NEIGHBOUR: 'it returns false'. Refute it at one input. -/
def streamCountsWrong : ChangeSpec := { name := "streamCounts", fn := fun _ => fun
  | [d1, d2, d3, d4] => { results := [.lit (.bool false)], args := [d1, d2, d3, d4] }
  | _ => none }
def StreamCountsWrongFalsely : Prop := streamCountsRow.holds Try.pinned (OpenSpec.ofChange streamCountsWrong)

/-- 'escutcheonlaw5.StreamWraps': WHATEVER THE INPUT: true; the input reads as it did. -/
def streamWrapsSpec : ChangeSpec := { name := "streamWraps", fn := fun _ => fun
  | [d1, d2, d3] => { results := [.lit (.bool true)], args := [d1, d2, d3] }
  | _ => none }
def streamWrapsRow : OpenClaim := { program := "ytdnlenhkagfiaaa", sum := "b59fa5c9da4564ca8453ecd14eb8916d5247de87611a6e0601aec0a250fdfbc6", func := "escutcheon/escutcheonlaw5.StreamWraps", spec := "streamWraps", inPlace := ["internal/abi.NoEscape", "sync/atomic.StoreUint32", "sync/atomic.AddUint32"], apart := false }
def StreamWrapsSaid : Prop := streamWrapsRow.holds Try.pinned (OpenSpec.ofChange streamWrapsSpec)

/-- ITS FALSE NEIGHBOUR: 'it returns false'. Refute it at one input. -/
def streamWrapsWrong : ChangeSpec := { name := "streamWraps", fn := fun _ => fun
  | [d1, d2, d3] => { results := [.lit (.bool false)], args := [d1, d2, d3] }
  | _ => none }
def StreamWrapsWrongFalsely : Prop := streamWrapsRow.holds Try.pinned (OpenSpec.ofChange streamWrapsWrong)

/-- 'escutcheonlaw5.StreamMixes': WHATEVER THE INPUT: true; the input reads as it did. -/
def streamMixesSpec : ChangeSpec := { name := "streamMixes", fn := fun _ => fun
  | [d1, d2, d3, d4, d5] => { results := [.lit (.bool true)], args := [d1, d2, d3, d4, d5] }
  | _ => none }
def streamMixesRow : OpenClaim := { program := "ytdnlenhkagfiaaa", sum := "b59fa5c9da4564ca8453ecd14eb8916d5247de87611a6e0601aec0a250fdfbc6", func := "escutcheon/escutcheonlaw5.StreamMixes", spec := "streamMixes", inPlace := ["internal/abi.NoEscape", "sync/atomic.StoreUint32", "sync/atomic.AddUint32"], apart := false }
def StreamMixesSaid : Prop := streamMixesRow.holds Try.pinned (OpenSpec.ofChange streamMixesSpec)

/-- ITS FALSE NEIGHBOUR: 'it returns false'. Refute it at one input. -/
def streamMixesWrong : ChangeSpec := { name := "streamMixes", fn := fun _ => fun
  | [d1, d2, d3, d4, d5] => { results := [.lit (.bool false)], args := [d1, d2, d3, d4, d5] }
  | _ => none }
def StreamMixesWrongFalsely : Prop := streamMixesRow.holds Try.pinned (OpenSpec.ofChange streamMixesWrong)

/- THE SECOND FORM. 'bulk': how many values and letters a reading holds, each counted each time it is reached (what is shared counts as often as it is met; a slice's spare places count too). A statement '..UptoSaid' is the law's where the arguments, and the package variables that the reading takes, are together of bulk at most 1048576: NARROWER than '..Said'. Prove '..Said' where nothing that the law and all that it calls make is longer than what came in: it says more and counts as full. Else prove '..UptoSaid'. A law counts once. -/
mutual
def uptoBulk {H : Type} : DataW H → Nat
  | .lit (.string bytes) => bytes.length + 1
  | .lit _ => 1
  | .nil => 1
  | .ptr d => uptoBulk d + 1
  | .slice elems spare => uptoBulkAll elems + uptoBulkAll spare + 1
  | .agg parts => uptoBulkAll parts + 1
  | .iface _ d => uptoBulk d + 1
  | .map entries => uptoBulkEntries entries + 1
  | .held _ => 1
def uptoBulkAll {H : Type} : List (DataW H) → Nat
  | [] => 0
  | d :: r => uptoBulk d + uptoBulkAll r
def uptoBulkEntries {H : Type} : List (Lit × DataW H) → Nat
  | [] => 0
  | x :: r => uptoBulkEntry x + uptoBulkEntries r
def uptoBulkEntry {H : Type} : Lit × DataW H → Nat
  | (.string bytes, d) => bytes.length + uptoBulk d + 1
  | (_, d) => uptoBulk d + 1
 end
def uptoSmall : (H : Type) → List (DataW H) → Bool := fun _ ds => decide (uptoBulkAll ds ≤ 1048576)
def OpenSpec.upto (s : _root_.Go.ChangeSpec) : _root_.Go.OpenSpec := { _root_.Go.OpenSpec.ofChange s with cond := some uptoSmall }

/-- 'escutcheonlaw5.StreamQuarters', WHERE WHAT IT READS IS OF BULK AT MOST 1048576: true; the input reads as it did. -/
def streamQuartersUptoRow : OpenClaim := { program := "ytdnlenhkagfiaaa", sum := "b59fa5c9da4564ca8453ecd14eb8916d5247de87611a6e0601aec0a250fdfbc6", func := "escutcheon/escutcheonlaw5.StreamQuarters", spec := "streamQuarters", inPlace := ["internal/abi.NoEscape"], unfollowed := true, recurses := true, apart := false, narrowed := true }
def StreamQuartersUptoSaid : Prop := streamQuartersUptoRow.holds Try.pinned (OpenSpec.upto streamQuartersSpec)

/-- 'escutcheonlaw5.StreamTells', WHERE WHAT IT READS IS OF BULK AT MOST 1048576: true; the input reads as it did. -/
def streamTellsUptoRow : OpenClaim := { program := "ytdnlenhkagfiaaa", sum := "b59fa5c9da4564ca8453ecd14eb8916d5247de87611a6e0601aec0a250fdfbc6", func := "escutcheon/escutcheonlaw5.StreamTells", spec := "streamTells", inPlace := ["internal/abi.NoEscape", "sync/atomic.StoreUint32", "sync/atomic.AddUint32"], apart := false, narrowed := true }
def StreamTellsUptoSaid : Prop := streamTellsUptoRow.holds Try.pinned (OpenSpec.upto streamTellsSpec)

/-- 'escutcheonlaw5.StreamCounts', WHERE WHAT IT READS IS OF BULK AT MOST 1048576: true; the input reads as it did. -/
def streamCountsUptoRow : OpenClaim := { program := "ytdnlenhkagfiaaa", sum := "b59fa5c9da4564ca8453ecd14eb8916d5247de87611a6e0601aec0a250fdfbc6", func := "escutcheon/escutcheonlaw5.StreamCounts", spec := "streamCounts", inPlace := ["internal/abi.NoEscape", "sync/atomic.StoreUint32", "sync/atomic.AddUint32"], apart := false, narrowed := true }
def StreamCountsUptoSaid : Prop := streamCountsUptoRow.holds Try.pinned (OpenSpec.upto streamCountsSpec)

/-- 'escutcheonlaw5.StreamWraps', WHERE WHAT IT READS IS OF BULK AT MOST 1048576: true; the input reads as it did. -/
def streamWrapsUptoRow : OpenClaim := { program := "ytdnlenhkagfiaaa", sum := "b59fa5c9da4564ca8453ecd14eb8916d5247de87611a6e0601aec0a250fdfbc6", func := "escutcheon/escutcheonlaw5.StreamWraps", spec := "streamWraps", inPlace := ["internal/abi.NoEscape", "sync/atomic.StoreUint32", "sync/atomic.AddUint32"], apart := false, narrowed := true }
def StreamWrapsUptoSaid : Prop := streamWrapsUptoRow.holds Try.pinned (OpenSpec.upto streamWrapsSpec)

/-- 'escutcheonlaw5.StreamMixes', WHERE WHAT IT READS IS OF BULK AT MOST 1048576: true; the input reads as it did. -/
def streamMixesUptoRow : OpenClaim := { program := "ytdnlenhkagfiaaa", sum := "b59fa5c9da4564ca8453ecd14eb8916d5247de87611a6e0601aec0a250fdfbc6", func := "escutcheon/escutcheonlaw5.StreamMixes", spec := "streamMixes", inPlace := ["internal/abi.NoEscape", "sync/atomic.StoreUint32", "sync/atomic.AddUint32"], apart := false, narrowed := true }
def StreamMixesUptoSaid : Prop := streamMixesUptoRow.holds Try.pinned (OpenSpec.upto streamMixesSpec)

end Rows
end Go.Proofs.Ytdnlenhkagfiaaa
