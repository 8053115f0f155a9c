/- What this text proves serves the claim of its last text: a part of a verified executor, its walks and its runs (LC2). -/
import Derived.Test.YtfaalljnklijjaaGreatDoorRows
import Derived.Test.YtfaalljnklijjaaGreatDoorCards
import Derived.ProofKit
import Derived.SevenTiedAt
set_option linter.all false
section
namespace Go.Proofs.YtfaalljnklijjaaGreatDoor
theorem row_named : Tryz.pinned.checked.prog.funcNamed Rows.topEpochsRow.func = some 3 := by kernel_rfl
theorem row_inst : Tryz.f3.isInstance Tryz.pinned.checked.prog Rows.topEpochsRow.origin Rows.topEpochsRow.targs := of_decide_eq_true (by kernel_rfl)
theorem row_wrap : Tryz.f3.isWrapper Tryz.pinned.checked.prog Rows.topEpochsRow.wrapper Rows.topEpochsRow.mainSum := by unfold Func.isWrapper; first | (rw [if_pos (by decide +kernel)]; kernel_rfl) | (rw [if_neg (by decide +kernel)]; exact ⟨rfl, rfl⟩)
end Go.Proofs.YtfaalljnklijjaaGreatDoor
end
