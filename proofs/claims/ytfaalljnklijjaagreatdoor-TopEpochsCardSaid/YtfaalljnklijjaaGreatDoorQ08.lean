/- What this text proves serves the claim of its last text: a part of a verified executor, its walks and its runs (KP). -/
import Derived.Test.YtfaalljnklijjaaGreatDoorQ06
set_option linter.all false
section
namespace Go.Proofs.XCode
open Go.X
theorem play_chk : chkSub nextPlay needPlay argsPlay resPlay newPlay (callE E1 (run E1 5000) 11 argsPlay (hsOf nextPlay needPlay)) = true := by kernel_rfl
end Go.Proofs.XCode
end
