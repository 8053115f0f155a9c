/- What this text proves serves the claim of its last text: a part of a verified executor, its walks and its runs (LC3d). -/
import Derived.Test.YtfaalljnklijjaaGreatDoorRows
import Derived.Test.YtfaalljnklijjaaGreatDoorCards
import Derived.ProofKit
import Derived.SevenTiedAt
set_option linter.all false
section
namespace Go.Proofs.YtfaalljnklijjaaGreatDoor
theorem no_go : Tryz.pinned.checked.prog.funcs.any Func.goes = false := by kernel_rfl
theorem goes_none {P : Program} (h : P.funcs.any Func.goes = false) (f : FuncId) : P.goes f = false := by
  have h1 : ∀ g : FuncId, (P.funcs[g]?).any Func.goes = false := fun g => by
    cases e : P.funcs[g]? with
    | none => rfl
    | some x =>
      obtain ⟨hlt, hx⟩ := Array.getElem?_eq_some_iff.1 e
      have := Array.any_eq_false.1 h g hlt
      rw [hx] at this
      simpa using this
  unfold Program.goes
  rw [h, Bool.and_false, Bool.or_false, List.any_eq_false]
  intro g _
  rw [h1 g]
  exact Bool.false_ne_true
theorem row_goes : false = Rows.topEpochsRow.goesBy Tryz.pinned.checked.prog := by
  show false = ((Tryz.pinned.checked.prog.funcNamed Rows.topEpochsRow.func).any Tryz.pinned.checked.prog.goes || false)
  rw [Bool.or_false]
  cases e : Tryz.pinned.checked.prog.funcNamed Rows.topEpochsRow.func with
  | none => rfl
  | some f => rw [Option.any_some, goes_none no_go f]
end Go.Proofs.YtfaalljnklijjaaGreatDoor
end
