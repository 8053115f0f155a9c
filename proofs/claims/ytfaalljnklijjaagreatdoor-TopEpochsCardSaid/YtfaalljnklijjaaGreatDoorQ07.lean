/- What this text proves serves the claim of its last text: a part of a verified executor, its walks and its runs (KR). -/
import Derived.Test.YtfaalljnklijjaaGreatDoorQ06
set_option linter.all false
section
namespace Go.Proofs.XCode
open Go.X
theorem run_chk : chkSub nextRun needRun argsRun resRun newRun (callE E1 (run E1 5000) 13 argsRun (hsOf nextRun needRun)) = true := by kernel_rfl
end Go.Proofs.XCode
end
