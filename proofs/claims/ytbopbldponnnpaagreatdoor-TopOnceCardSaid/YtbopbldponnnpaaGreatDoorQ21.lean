/- A part of a verified executor, its walks and its runs (LC2). -/
import Derived.Test.YtbopbldponnnpaaGreatDoorRows
import Derived.Test.YtbopbldponnnpaaGreatDoorCards
import Derived.ProofKit
import Derived.SevenTiedAt
set_option linter.all false
section
namespace Go.Proofs.YtbopbldponnnpaaGreatDoor
theorem row_named : Tryz.pinned.checked.prog.funcNamed Rows.topOnceRow.func = some 3 := by kernel_rfl
theorem row_inst : Tryz.f3.isInstance Tryz.pinned.checked.prog Rows.topOnceRow.origin Rows.topOnceRow.targs := of_decide_eq_true (by kernel_rfl)
theorem row_wrap : Tryz.f3.isWrapper Tryz.pinned.checked.prog Rows.topOnceRow.wrapper Rows.topOnceRow.mainSum := by unfold Func.isWrapper; first | (rw [if_pos (by decide +kernel)]; kernel_rfl) | (rw [if_neg (by decide +kernel)]; exact ⟨rfl, rfl⟩)
end Go.Proofs.YtbopbldponnnpaaGreatDoor
end
