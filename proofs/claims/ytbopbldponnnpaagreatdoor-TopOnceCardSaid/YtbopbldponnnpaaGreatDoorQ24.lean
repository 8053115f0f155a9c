/- A part of a verified executor, its walks and its runs (LC3c). -/
import Derived.Test.YtbopbldponnnpaaGreatDoorRows
import Derived.Test.YtbopbldponnnpaaGreatDoorCards
import Derived.ProofKit
import Derived.SevenTiedAt
set_option linter.all false
section
namespace Go.Proofs.YtbopbldponnnpaaGreatDoor
theorem row_looks : true = Tryz.pinned.checked.prog.looks [] := by kernel_rfl
end Go.Proofs.YtbopbldponnnpaaGreatDoor
end
