/- What this text proves serves the claim of its last text: a part of a verified executor, its walks and its runs (LC3b). -/
import Derived.Test.YtfaalljnklijjaaGreatDoorRows
import Derived.Test.YtfaalljnklijjaaGreatDoorCards
import Derived.ProofKit
import Derived.SevenTiedAt
set_option linter.all false
section
namespace Go.Proofs.YtfaalljnklijjaaGreatDoor
theorem row_main : Tryz.pinned.checked.prog.mainIs = some (true, "eb727f4bd30ab37bf123fc794c77c7ec52d5a1aca55e4c88d2046320d4e22160".toList) := by kernel_rfl
end Go.Proofs.YtfaalljnklijjaaGreatDoor
end
