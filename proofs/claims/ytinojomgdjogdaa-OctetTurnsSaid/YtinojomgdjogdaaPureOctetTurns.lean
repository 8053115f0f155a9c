/- Turned by parts a word is turned by all of it; by 32 it is what it was. For every word, at parts from -1000 to 1000. -/
import Derived.Test.YtinojomgdjogdaaOctetC
import Derived.Test.YtinojomgdjogdaaTurn
namespace Go.Proofs.Ytinojomgdjogdaa.Pure
open Go.RowKit Go.Proofs.Ytinojomgdjogdaa.P Go.Proofs.YtinojomgdjogdaaW.PrintWords Go.Proofs.YtinojomgdjogdaaW.PrintLast Go.Proofs.Ytinojomgdjogdaa.B
set_option linter.unusedVariables false
set_option linter.unusedSimpArgs false

theorem OctetTurns : escutcheonlaw1_OctetTurns.Pure := by
  intro x a b hx ha hb
  have hx := wf_u32 hx
  have ha := wf_i64 ha
  have hb := wf_i64 hb
  refine ⟨40, ?_⟩
  have out : escutcheonlaw1_OctetTurns.j0 40 x a b true = some true := by
    simp only [escutcheonlaw1_OctetTurns.j0]
    rw [if_pos trivial, alive_k _ (by omega)]; rfl
  unfold escutcheonlaw1_OctetTurns.f
  split
  · exact out
  split
  · exact out
  split
  · exact out
  split
  · exact out
  rw [alive_k _ (by omega)]
  simp only [Option.bind_some, escutcheonlaw1_OctetTurns.j0]
  rw [if_neg (by simp), w64 (n := a + b) (by omega) (by omega), w64 (n := a + 32) (by omega) (by omega)]
  rw [left_f x a hx (by omega), Option.bind_some, left_f _ b (rotl_range _ _) (by omega), Option.bind_some, left_f x (a + b) hx (by omega), Option.bind_some]
  rw [rotl_add]
  have e1 : rotl x ((a % 32).toNat + (b % 32).toNat) = rotl x ((a + b) % 32).toNat := by
    rw [← rotl_mod x ((a % 32).toNat + (b % 32).toNat)]
    congr 1; omega
  rw [if_pos e1, left_f x 32 hx (by omega), Option.bind_some]
  have e2 : rotl x ((32 : Int) % 32).toNat = x := rotl_zero x hx
  rw [if_pos e2, Option.bind_some, left_f x (a + 32) hx (by omega), Option.bind_some]
  have e3 : (a + 32) % 32 = a % 32 := by omega
  rw [e3]; simp
end Go.Proofs.Ytinojomgdjogdaa.Pure
