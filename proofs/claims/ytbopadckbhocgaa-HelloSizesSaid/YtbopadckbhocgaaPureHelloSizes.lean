/- Letters of handshakes have few lengths; a record's letter is one byte longer and reads back. For every texts. -/
import Derived.Test.YtbopadckbhocgaaPx6
import Derived.Test.YtbopadckbhocgaaHelloB
namespace Go.Proofs.Ytbopadckbhocgaa.Pure
open Go.RowKit Go.Proofs.Ytbopadckbhocgaa.P Go.Proofs.YtbopadckbhocgaaW.PrintWords Go.Proofs.YtbopadckbhocgaaW.PrintLast Go.Proofs.Ytbopadckbhocgaa.B

theorem alive1s : escutcheonlaw15_alive.f 1 = some true := by decide +kernel
theorem alive2s : escutcheonlaw15_alive.f 2 = some true := by decide +kernel
def put (k : Int) (b : ByteArray) (lo hi : Int) : ByteArray × Bool :=
  if lo ≤ (b.size : Int) ∧ (b.size : Int) ≤ hi then (strOfNums [k] ++ b, true) else ((⟨#[]⟩ : ByteArray), false)
theorem put_f (k : Int) (b : ByteArray) (lo hi : Int) (hk : 0 ≤ k ∧ k ≤ 255) (hb : b.size ≤ 140737488351232) : hello_put.f k b lo hi = some (put k b lo hi) := by
  unfold hello_put.f put
  have : k % 256 = k := by omega
  rw [this]
  split
  · rw [if_neg (by omega)]
  · split
    · rw [if_neg (by omega)]
    · simp only [Option.bind_some, size_nums, List.length_cons, List.length_nil]
      rw [if_pos (by omega), if_pos (by omega)]
theorem put_size (k : Int) (b : ByteArray) (lo hi : Int) : (put k b lo hi).1.size ≤ b.size + 1 := by
  unfold put
  split
  · rw [size_app, size_nums]; simp; omega
  · exact Nat.zero_le _
theorem kind_put (k : Int) (b : ByteArray) (hk : 1 ≤ k ∧ k ≤ 5) : kind (strOfNums [k] ++ b) = k := by
  have h1 : (strOfNums [k]).size = 1 := size_nums _
  unfold kind
  rw [size_app, h1, bt_app_l _ _ _ (by rw [h1]; decide), bt_one _ (by omega), if_pos (by omega)]
theorem getOf_put (k : Int) (b : ByteArray) (lo hi : Int) (hk : 1 ≤ k ∧ k ≤ 5) (hb : lo ≤ (b.size : Int) ∧ (b.size : Int) ≤ hi) : getOf k (strOfNums [k] ++ b) lo hi = (b, true) := by
  have h1 : (strOfNums [k]).size = 1 := size_nums _
  have hs : (strOfNums [k] ++ b).size = b.size + 1 := by rw [size_app, h1]; omega
  unfold getOf
  rw [kind_put _ _ hk, if_pos ⟨rfl, by omega, by omega⟩]
  have := ext_app_r (strOfNums [k]) b (strOfNums [k] ++ b).size (by rw [size_app]; omega)
  rw [h1] at this
  rw [this]
theorem HelloSizes : escutcheonlaw15_HelloSizes.Pure := by
  intro u n m r hu hn hm hr
  refine ⟨2, ?_⟩
  have out : ∀ b, b = true → escutcheonlaw15_HelloSizes.j0 2 u n m r b = some true := by
    intro b hb
    simp only [escutcheonlaw15_HelloSizes.j0]
    rw [if_pos hb, alive1s]; rfl
  unfold escutcheonlaw15_HelloSizes.f
  by_cases c1 : (u.size : Int) > 60
  · rw [if_pos c1]; exact out _ rfl
  rw [if_neg c1]
  by_cases c2 : (n.size : Int) > 60
  · rw [if_pos c2]; exact out _ rfl
  rw [if_neg c2]
  by_cases c3 : (m.size : Int) > 60
  · rw [if_pos c3]; exact out _ rfl
  rw [if_neg c3]
  by_cases c4 : (r.size : Int) > 2500
  · rw [if_pos c4]; exact out _ rfl
  rw [if_neg c4, alive2s]
  simp only [Option.bind_some, escutcheonlaw15_HelloSizes.j0]
  rw [if_neg (by simp), putHello_f]
  unfold hello_PutProof.f hello_PutRecord.f hello_GetRecord.f
  rw [put_f _ _ _ _ (by decide) hm, put_f _ _ _ _ (by decide) hr]
  simp only [Option.bind_some]
  rw [getOf_f _ _ _ _ (by decide) (by have := put_size 5 r 24 2199; omega)]
  simp only [Option.bind_some]
  rw [w64 (n := 18 + (u.size : Int)) (by omega) (by omega), w64 (n := (r.size : Int) + 1) (by omega) (by omega)]
  -- the record's part
  have recd : (if (put 5 r 24 2199).2 = true then (if ((put 5 r 24 2199).1.size : Int) = (r.size : Int) + 1 then (if (getOf 5 (put 5 r 24 2199).1 24 2199).2 = true then (some ((getOf 5 (put 5 r 24 2199).1 24 2199).1.toList == r.toList)) else (some false)) else (some false)) else (some true)) = some true := by
    unfold put
    by_cases hb : (24 : Int) ≤ (r.size : Int) ∧ (r.size : Int) ≤ 2199
    · have h1 : (strOfNums [(5 : Int)]).size = 1 := size_nums _
      have hs : (strOfNums [5] ++ r).size = r.size + 1 := by rw [size_app, h1]; omega
      rw [if_pos hb]
      simp only []
      rw [if_pos trivial, if_pos (by omega)]
      rw [getOf_put _ _ _ _ (by decide) (by omega)]
      simp
    · rw [if_neg hb]
      simp
  -- the proof's part
  have prf : ∀ X : Option Bool, X = some true → (if (put 3 m 32 32).2 = true then (if ((put 3 m 32 32).1.size : Int) = 33 then ((hello_Kind.f (put 3 m 32 32).1).bind fun t => (if t = 3 then X else (some false))) else (some false)) else X) = some true := by
    intro X hX
    rw [hX]
    unfold put
    by_cases hb : (32 : Int) ≤ (m.size : Int) ∧ (m.size : Int) ≤ 32
    · have hs : (strOfNums [3] ++ m).size = m.size + 1 := by rw [size_app, size_nums]; simp; omega
      rw [if_pos hb]
      simp only []
      rw [if_pos trivial, if_pos (by omega), kind_f, kind_put _ _ (by decide)]
      simp
    · rw [if_neg hb]
      simp
  by_cases hp : n.size = 16 ∧ 1 ≤ u.size ∧ u.size ≤ 20
  · rw [if_pos hp]
    simp only []
    have hs := size_putHello u n
    rw [if_pos trivial, if_pos (by omega), kind_f]
    have hk : kind (putHello u n) = 1 := by
      have := bt_putHello u n (by omega)
      unfold kind; rw [if_pos (by omega)]; omega
    rw [hk]
    simp only [Option.bind_some]
    rw [if_pos trivial]
    exact prf _ recd
  · rw [if_neg hp]
    simp only []
    rw [if_neg (by simp)]
    exact prf _ recd
end Go.Proofs.Ytbopadckbhocgaa.Pure
