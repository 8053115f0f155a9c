/- What is put and got of letters, as plain equations. -/
import Derived.Test.YtbopadckbhocgaaPx4
import Derived.Test.YtbopadckbhocgaaPx5
import Derived.Test.YtbopadckbhocgaaHelloB
namespace Go.Proofs.Ytbopadckbhocgaa.B
open Go.RowKit Go.Proofs.Ytbopadckbhocgaa.P Go.Proofs.YtbopadckbhocgaaW.PrintWords Go.Proofs.YtbopadckbhocgaaW.PrintLast
set_option linter.unusedVariables false
set_option linter.unusedSimpArgs false

theorem alive1s : escutcheonlaw15_alive.f 1 = some true := by decide +kernel
theorem alive2s : escutcheonlaw15_alive.f 2 = some true := by decide +kernel
theorem alive5s : escutcheonlaw15_alive.f 5 = some true := by decide +kernel
theorem alive6s : escutcheonlaw15_alive.f 6 = some true := by decide +kernel
def put (k : Int) (b : ByteArray) (lo hi : Int) : ByteArray × Bool :=
  if lo ≤ (b.size : Int) ∧ (b.size : Int) ≤ hi then (strOfNums [k] ++ b, true) else ((⟨#[]⟩ : ByteArray), false)
theorem put_f (k : Int) (b : ByteArray) (lo hi : Int) (hk : 0 ≤ k ∧ k ≤ 255) (hb : b.size ≤ 140737488351232) : hello_put.f k b lo hi = some (put k b lo hi) := by
  unfold hello_put.f put
  have : k % 256 = k := by omega
  rw [this]
  split
  · rw [if_neg (by omega)]
  · split
    · rw [if_neg (by omega)]
    · simp only [Option.bind_some, size_nums, List.length_cons, List.length_nil]
      rw [if_pos (by omega), if_pos (by omega)]
theorem put_size (k : Int) (b : ByteArray) (lo hi : Int) : (put k b lo hi).1.size ≤ b.size + 1 := by
  unfold put
  split
  · rw [size_app, size_nums]; simp; omega
  · exact Nat.zero_le _
theorem kind_put (k : Int) (b : ByteArray) (hk : 1 ≤ k ∧ k ≤ 5) : kind (strOfNums [k] ++ b) = k := by
  have h1 : (strOfNums [k]).size = 1 := size_nums _
  unfold kind
  rw [size_app, h1, bt_app_l _ _ _ (by rw [h1]; decide), bt_one _ (by omega), if_pos (by omega)]
theorem getOf_put (k : Int) (b : ByteArray) (lo hi : Int) (hk : 1 ≤ k ∧ k ≤ 5) (hb : lo ≤ (b.size : Int) ∧ (b.size : Int) ≤ hi) : getOf k (strOfNums [k] ++ b) lo hi = (b, true) := by
  have h1 : (strOfNums [k]).size = 1 := size_nums _
  have hs : (strOfNums [k] ++ b).size = b.size + 1 := by rw [size_app, h1]; omega
  unfold getOf
  rw [kind_put _ _ hk, if_pos ⟨rfl, by omega, by omega⟩]
  have := ext_app_r (strOfNums [k]) b (strOfNums [k] ++ b).size (by rw [size_app]; omega)
  rw [h1] at this
  rw [this]
end Go.Proofs.Ytbopadckbhocgaa.B
