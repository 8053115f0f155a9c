/- What this text proves serves the claim of its last text: a part of a verified executor, its walks and its runs (LC3b). -/
import Derived.Test.YthmlbbbjpbcknaaGreatDoorRows
import Derived.Test.YthmlbbbjpbcknaaGreatDoorCards
import Derived.ProofKit
import Derived.SevenTiedAt
set_option linter.all false
section
namespace Go.Proofs.YthmlbbbjpbcknaaGreatDoor
theorem row_main : Tryz.pinned.checked.prog.mainIs = some (true, "b50411b2e047d7e5b9dc98fbc7b4367a843383fb3793a1b25fccb99451f2118a".toList) := by kernel_rfl
end Go.Proofs.YthmlbbbjpbcknaaGreatDoor
end
