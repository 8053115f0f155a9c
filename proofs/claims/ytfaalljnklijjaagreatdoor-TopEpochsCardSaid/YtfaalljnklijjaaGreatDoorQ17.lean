/- What this text proves serves the claim of its last text: a part of a verified executor, its walks and its runs (T2). -/
import Derived.Test.YtfaalljnklijjaaGreatDoorQ15
import Derived.Test.YtfaalljnklijjaaGreatDoorQ16
set_option linter.all false
section
namespace Go.Proofs
open Go.X
set_option maxRecDepth 100000
theorem fnB : chkT fnT (fun t _ => Nat.blt t 418) = true := by kernel_rfl
theorem fnR : (List.range 418).map (fnRow Tryz.prog fnT) = (List.range 418).map (fun f => fnOf (fnT.get f)) := by kernel_rfl
theorem fnN : chkT fnT (fun _ x => named (fnOf (some x))) = true := by kernel_rfl
end Go.Proofs
end
