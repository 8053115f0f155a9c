/- Each letter that may be is read as it was written, and by its own reader alone. For every texts. -/
import Derived.Test.YtbopadckbhocgaaPx11
import Derived.Test.YtbopadckbhocgaaHelloB
import Derived.Test.YtbopadckbhocgaaHelloB2
namespace Go.Proofs.Ytbopadckbhocgaa.Pure
open Go.RowKit Go.Proofs.Ytbopadckbhocgaa.P Go.Proofs.YtbopadckbhocgaaW.PrintWords Go.Proofs.YtbopadckbhocgaaW.PrintLast Go.Proofs.Ytbopadckbhocgaa.B

theorem getOf_other (k j : Int) (b : ByteArray) (lo hi : Int) (hk : 1 ≤ k ∧ k ≤ 5) (h : j ≠ k) : getOf j (strOfNums [k] ++ b) lo hi = ((⟨#[]⟩ : ByteArray), false) := by
  unfold getOf
  rw [kind_put _ _ hk, if_neg (fun x => h x.1.symm)]
theorem put_ok (k : Int) (b : ByteArray) (lo hi : Int) (hb : lo ≤ (b.size : Int) ∧ (b.size : Int) ≤ hi) : put k b lo hi = (strOfNums [k] ++ b, true) := by
  unfold put; rw [if_pos hb]
theorem HelloBack : escutcheonlaw15_HelloBack.Pure := by
  intro n m r hn hm hr
  refine ⟨2, ?_⟩
  have out : escutcheonlaw15_HelloBack.j0 2 n m r true = some true := by
    simp only [escutcheonlaw15_HelloBack.j0]
    rw [if_pos trivial, alive1s]; rfl
  unfold escutcheonlaw15_HelloBack.f
  by_cases c1 : (n.size : Int) = 16
  · rw [if_pos c1]
    by_cases c2 : (m.size : Int) = 32
    · rw [if_pos c2]
      by_cases c3 : (r.size : Int) < 24
      · rw [if_pos c3]; exact out
      · rw [if_neg c3]
        by_cases c4 : (r.size : Int) ≥ 2200
        · rw [if_pos c4]; exact out
        · rw [if_neg c4, alive2s]
          simp only [Option.bind_some, escutcheonlaw15_HelloBack.j0]
          rw [if_neg (by simp)]
          unfold hello_PutChallenge.f hello_PutProof.f hello_PutFinish.f hello_PutRecord.f hello_GetChallenge.f hello_GetProof.f hello_GetFinish.f hello_GetRecord.f
          rw [put_f _ _ _ _ (by decide) hn, put_f _ _ _ _ (by decide) hm, put_f _ _ _ _ (by decide) hm, put_f _ _ _ _ (by decide) hr]
          rw [put_ok 2 n 16 16 (by omega), put_ok 3 m 32 32 (by omega), put_ok 4 m 32 32 (by omega), put_ok 5 r 24 2199 (by omega)]
          simp only [Option.bind_some]
          have s : ∀ (k : Int) (b : ByteArray), (strOfNums [k] ++ b).size = b.size + 1 := by intro k b; rw [size_app, size_nums]; simp; omega
          rw [getOf_f 2 _ _ _ (by decide) (by rw [s]; omega)]
          simp only [Option.bind_some]
          rw [getOf_f 3 _ _ _ (by decide) (by rw [s]; omega)]
          simp only [Option.bind_some]
          rw [getOf_f 4 _ _ _ (by decide) (by rw [s]; omega)]
          simp only [Option.bind_some]
          rw [getOf_f 5 _ _ _ (by decide) (by rw [s]; omega)]
          simp only [Option.bind_some]
          rw [getOf_f 3 _ _ _ (by decide) (by rw [s]; omega)]
          simp only [Option.bind_some]
          rw [getOf_f 4 _ _ _ (by decide) (by rw [s]; omega)]
          simp only [Option.bind_some]
          rw [getOf_put 2 n _ _ (by decide) (by omega), getOf_put 3 m _ _ (by decide) (by omega), getOf_put 4 m _ _ (by decide) (by omega), getOf_put 5 r _ _ (by decide) (by omega), getOf_other 4 3 m _ _ (by decide) (by decide), getOf_other 3 4 m _ _ (by decide) (by decide)]
          simp
    · rw [if_neg c2]; exact out
  · rw [if_neg c1]; exact out
end Go.Proofs.Ytbopadckbhocgaa.Pure
