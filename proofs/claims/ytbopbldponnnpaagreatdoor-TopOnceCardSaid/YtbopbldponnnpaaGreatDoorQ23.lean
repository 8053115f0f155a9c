/- A part of a verified executor, its walks and its runs (LC3b). -/
import Derived.Test.YtbopbldponnnpaaGreatDoorRows
import Derived.Test.YtbopbldponnnpaaGreatDoorCards
import Derived.ProofKit
import Derived.SevenTiedAt
set_option linter.all false
section
namespace Go.Proofs.YtbopbldponnnpaaGreatDoor
theorem row_main : Tryz.pinned.checked.prog.mainIs = some (true, "41509c85b563d62bc8dcd24f8cdebe8b3e81ad9e44b56cd2f518513d98c9b6b3".toList) := by kernel_rfl
end Go.Proofs.YtbopbldponnnpaaGreatDoor
end
