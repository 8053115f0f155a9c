/- What this text proves serves the claim of its last text: a part of a verified executor, its walks and its runs (LC3a). -/
import Derived.Test.YtfaalljnklijjaaGreatDoorRows
import Derived.Test.YtfaalljnklijjaaGreatDoorCards
import Derived.ProofKit
import Derived.SevenTiedAt
set_option linter.all false
section
namespace Go.Proofs.YtfaalljnklijjaaGreatDoor
theorem row_wf : Rows.topEpochsRow.wfByText (OpenSpec.ofChange Rows.topEpochsSpec) = true := by kernel_rfl
end Go.Proofs.YtfaalljnklijjaaGreatDoor
end
