/- What this text proves serves the claim of its last text: a part of a verified executor, its walks and its runs (LC3c). -/
import Derived.Test.YthmlbbbjpbcknaaGreatDoorRows
import Derived.Test.YthmlbbbjpbcknaaGreatDoorCards
import Derived.ProofKit
import Derived.SevenTiedAt
set_option linter.all false
section
namespace Go.Proofs.YthmlbbbjpbcknaaGreatDoor
theorem row_looks : true = Tryz.pinned.checked.prog.looks [] := by kernel_rfl
end Go.Proofs.YthmlbbbjpbcknaaGreatDoor
end
