/- Bytes of numbers, and digits of bytes, go back; xored twice it is what it was; turned on and back, too. For every input. -/
import Derived.Test.YtinojomgdjogdaaOctetC
import Derived.Test.YtinojomgdjogdaaTurn
import Derived.Test.YtinojomgdjogdaaDigits
namespace Go.Proofs.Ytinojomgdjogdaa.Pure
open Go.RowKit Go.Proofs.Ytinojomgdjogdaa.P Go.Proofs.YtinojomgdjogdaaW.PrintWords Go.Proofs.YtinojomgdjogdaaW.PrintLast Go.Proofs.Ytinojomgdjogdaa.B
set_option linter.unusedVariables false
set_option linter.unusedSimpArgs false

theorem OctetBack : escutcheonlaw1_OctetBack.Pure := by
  intro x n v a b hx hn hv ha hb
  have hx := wf_u32 hx
  have hn := wf_i64 hn
  have hv := wf_u64 hv
  refine ⟨2000, ?_⟩
  have out : escutcheonlaw1_OctetBack.j0 2000 x n v a b true = some true := by
    simp only [escutcheonlaw1_OctetBack.j0]
    rw [if_pos trivial, alive_k _ (by omega)]; rfl
  unfold escutcheonlaw1_OctetBack.f
  split
  · exact out
  split
  · exact out
  split
  · exact out
  split
  · exact out
  rw [alive_k _ (by omega)]
  simp only [Option.bind_some, escutcheonlaw1_OctetBack.j0]
  rw [if_neg (by simp), hex_f a (by omega), Option.bind_some, unhex_f _ (by rw [size_hex]; omega) _ (by rw [size_hex]; omega), Option.bind_some]
  have h8 : (8 : Int) = ((8 : Nat) : Int) := rfl
  rw [h8, putBig_f v 8 (by omega) (by omega) _ (by omega), Option.bind_some, big_big v 8 (by omega) hv.1, Option.bind_some]
  have e1 : v % 256 ^ 8 = v := by omega
  rw [if_pos e1, putLittle_f v 8 (by omega) (by omega) _ (by omega), Option.bind_some, little_little v 8 (by omega) hv.1 _ (by omega), Option.bind_some, if_pos e1]
  rw [size_hex, if_pos (c := 2 * a.size % 2 = 0) (by omega), L_hex, unhex_hex]
  have e2 : unhexR (some ((L a).map fun c => (c.toNat : Int))) [] = (a, true) := by
    show (strOfNums ([] ++ (L a).map fun c => (c.toNat : Int)), true) = (a, true)
    rw [List.nil_append, nums_bytes]
  rw [e2, if_pos rfl, if_pos rfl, xor_f a b ha _ (by omega), Option.bind_some, xor_f _ b (by rw [size_xor]; omega) _ (by rw [size_xor]; omega), Option.bind_some]
  have hm : mn (a.size : Int) (b.size : Int) = ((min a.size b.size : Nat) : Int) := by unfold mn; split <;> omega
  rw [hm, if_pos (by omega), if_pos (by omega), xor_twice, Int.toNat_natCast, if_pos rfl]
  rw [left_f x n hx (by omega), Option.bind_some, w64 (by omega) (by omega), left_f _ (-n) (rotl_range _ _) (by omega), Option.bind_some, rotl_add]
  have e3 : rotl x ((n % 32).toNat + (-n % 32).toNat) = x := by
    rw [← rotl_mod]
    have : ((n % 32).toNat + (-n % 32).toNat) % 32 = 0 := by omega
    rw [this]; exact rotl_zero x hx
  rw [e3]; simp
end Go.Proofs.Ytinojomgdjogdaa.Pure
