/- What this text proves serves the claim of its last text: a part of a verified executor, its walks and its runs (LC1). -/
import Derived.Test.YtfaalljnklijjaaGreatDoorRows
import Derived.Test.YtfaalljnklijjaaGreatDoorCards
import Derived.ProofKit
import Derived.SevenTiedAt
set_option linter.all false
section
namespace Go.Proofs.YtfaalljnklijjaaGreatDoor
set_option maxRecDepth 100000
theorem and_tt {a b : Bool} (h : a = true) (k : b = true) : (a && b) = true := by rw [h, k]; rfl
set_option maxHeartbeats 40000000 in
theorem row_closed : joinedFacts Tryz.pinned.checked.prog 3 Tryz.f3 Rows.topEpochsSpec Rows.topEpochsRow = true := by
  unfold joinedFacts
  with_reducible repeat' refine and_tt ?_ ?_
  all_goals (as_aux_lemma => kernel_rfl)
end Go.Proofs.YtfaalljnklijjaaGreatDoor
end
