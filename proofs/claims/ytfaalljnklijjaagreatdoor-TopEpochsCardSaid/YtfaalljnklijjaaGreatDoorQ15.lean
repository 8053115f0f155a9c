/- What this text proves serves the claim of its last text: a part of a verified executor, its walks and its runs (T1). -/
import Derived.Test.YtfaalljnklijjaaGreatDoorQ03
import Derived.Test.YtfaalljnklijjaaGreatDoorQ14
import Derived.KernelRfl
set_option linter.all false
section
namespace Go.Proofs
open Go.X
set_option maxRecDepth 100000
theorem tyB : chkT tyT (fun t _ => Nat.blt t 499) = true := by kernel_rfl
theorem tyR : (List.range 499).map (tyRow Tryz.prog tyT) = (List.range 499).map tyT.get := by kernel_rfl
theorem tyOK : TyOK Tryz.prog tyT.get := tyOK_of tyB tyR
end Go.Proofs
end
