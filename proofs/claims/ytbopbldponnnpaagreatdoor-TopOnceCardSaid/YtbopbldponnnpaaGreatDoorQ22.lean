/- A part of a verified executor, its walks and its runs (LC3a). -/
import Derived.Test.YtbopbldponnnpaaGreatDoorRows
import Derived.Test.YtbopbldponnnpaaGreatDoorCards
import Derived.ProofKit
import Derived.SevenTiedAt
set_option linter.all false
section
namespace Go.Proofs.YtbopbldponnnpaaGreatDoor
theorem row_wf : Rows.topOnceRow.wfByText (OpenSpec.ofChange Rows.topOnceSpec) = true := by kernel_rfl
end Go.Proofs.YtbopbldponnnpaaGreatDoor
end
