/- Every bytes as a frame, or that they are too many, or none. -/
import Derived.Test.YtoepiofmkjajaaaFrameB
import Derived.Test.YtoepiofmkjajaaaPx10
namespace Go.Proofs.Ytoepiofmkjajaaa.Pure
open Go.RowKit Go.Proofs.Ytoepiofmkjajaaa.P Go.Proofs.YtoepiofmkjajaaaW.PrintWords Go.Proofs.YtoepiofmkjajaaaW.PrintLast Go.Proofs.YtoepiofmkjajaaaW.PrintMore Go.Proofs.Ytoepiofmkjajaaa.B
set_option linter.unusedVariables false
set_option linter.unusedSimpArgs false

theorem FramePut : escutcheonlaw9_FramePut.Pure := by
  intro b hs
  refine ⟨100, ?_⟩
  unfold escutcheonlaw9_FramePut.f
  by_cases c : (b.size : Int) > 5000
  · rw [if_pos c, escutcheonlaw9_FramePut.j0, if_pos rfl, alive_k _ (by omega)]; rfl
  rw [if_neg c, alive_k _ (by omega), Option.bind_some, show (!true) = false from rfl, escutcheonlaw9_FramePut.j0, if_neg (by decide), put_f b (by omega) _ (by omega), Option.bind_some, refFrame_f b (by omega) _ (by omega), Option.bind_some, if_pos rfl]
  simp
end Go.Proofs.Ytoepiofmkjajaaa.Pure
