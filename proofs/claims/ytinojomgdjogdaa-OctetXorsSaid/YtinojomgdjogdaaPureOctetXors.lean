/- Xored texts are as long as the shorter one; the order does not count; with zeros it is the same, with itself zeros. For every texts. -/
import Derived.Test.YtinojomgdjogdaaOctetC
namespace Go.Proofs.Ytinojomgdjogdaa.Pure
open Go.RowKit Go.Proofs.Ytinojomgdjogdaa.P Go.Proofs.YtinojomgdjogdaaW.PrintWords Go.Proofs.YtinojomgdjogdaaW.PrintLast Go.Proofs.Ytinojomgdjogdaa.B
set_option linter.unusedVariables false
set_option linter.unusedSimpArgs false

theorem OctetXors : escutcheonlaw1_OctetXors.Pure := by
  intro a b ha hb
  refine ⟨400, ?_⟩
  have out : escutcheonlaw1_OctetXors.j0 400 a b true = some true := by
    simp only [escutcheonlaw1_OctetXors.j0]
    rw [if_pos trivial, alive_k _ (by omega)]; rfl
  unfold escutcheonlaw1_OctetXors.f
  split
  · exact out
  split
  · exact out
  rename_i h1 h2
  rw [alive_k _ (by omega)]
  simp only [Option.bind_some, escutcheonlaw1_OctetXors.j0]
  have hm : mn (a.size : Int) (b.size : Int) = ((min a.size b.size : Nat) : Int) := by unfold mn; split <;> omega
  rw [if_neg (by simp), xor_f a b ha _ (by omega)]
  simp only [Option.bind_some]
  rw [size_xor, hm, if_pos rfl, xor_f b a hb _ (by omega)]
  simp only [Option.bind_some]
  rw [xor_comm_ b a, if_pos rfl, if_pos (by omega), Int.toNat_natCast, if_pos (by omega)]
  have hz : (strOfNums (List.replicate a.size 0)).size = a.size := by rw [size_nums]; simp
  rw [xor_f a _ ha _ (by rw [hz]; omega)]
  simp only [Option.bind_some]
  rw [xor_zeros, if_pos rfl, xor_f a a ha _ (by omega)]
  simp only [Option.bind_some]
  rw [xor_self_]
  simp
end Go.Proofs.Ytinojomgdjogdaa.Pure
