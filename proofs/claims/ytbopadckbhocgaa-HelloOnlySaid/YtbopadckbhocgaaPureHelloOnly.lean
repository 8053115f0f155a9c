/- Bytes are a letter of at most one kind, and of a kind that they tell. For every bytes. -/
import Derived.Test.YtbopadckbhocgaaPx7
import Derived.Test.YtbopadckbhocgaaHelloB
namespace Go.Proofs.Ytbopadckbhocgaa.Pure
open Go.RowKit Go.Proofs.Ytbopadckbhocgaa.P Go.Proofs.YtbopadckbhocgaaW.PrintWords Go.Proofs.YtbopadckbhocgaaW.PrintLast Go.Proofs.Ytbopadckbhocgaa.B

theorem alive8 : escutcheonlaw15_alive.f 8 = some true := by decide +kernel
theorem alive9 : escutcheonlaw15_alive.f 9 = some true := by decide +kernel
theorem getHello_kind (b : ByteArray) (h : (getHello b).2.2 = true) : kind b = 1 := by
  unfold getHello at h
  split at h
  · rename_i hh
    unfold isHello at hh
    unfold kind
    rw [if_pos (by omega)]; omega
  · cases h
theorem getOf_kind (k : Int) (b : ByteArray) (lo hi : Int) (h : (getOf k b lo hi).2 = true) : kind b = k := by
  unfold getOf at h
  split at h
  · rename_i hh; exact hh.1
  · cases h
theorem kind_range (b : ByteArray) : 0 ≤ kind b := by
  unfold kind
  split <;> omega
theorem HelloOnly : escutcheonlaw15_HelloOnly.Pure := by
  intro b hb
  refine ⟨9, ?_⟩
  unfold escutcheonlaw15_HelloOnly.f
  split
  · simp only [escutcheonlaw15_HelloOnly.j0]
    rw [if_pos trivial, alive8]; rfl
  · rw [alive9]
    simp only [Option.bind_some, escutcheonlaw15_HelloOnly.j0]
    rw [if_neg (by simp), getHello_f _ _ (by omega)]
    unfold hello_GetChallenge.f hello_GetProof.f hello_GetFinish.f hello_GetRecord.f
    rw [getOf_f _ _ _ _ (by decide) hb, getOf_f _ _ _ _ (by decide) hb, getOf_f _ _ _ _ (by decide) hb, getOf_f _ _ _ _ (by decide) hb]
    simp only [Option.bind_some]
    have h1 := getHello_kind b
    have h2 := getOf_kind 2 b 16 16
    have h3 := getOf_kind 3 b 32 32
    have h4 := getOf_kind 4 b 32 32
    have h5 := getOf_kind 5 b 24 2199
    generalize (getHello b).2.2 = a1 at *
    generalize (getOf 2 b 16 16).2 = a2 at *
    generalize (getOf 3 b 32 32).2 = a3 at *
    generalize (getOf 4 b 32 32).2 = a4 at *
    generalize (getOf 5 b 24 2199).2 = a5 at *
    have hk := kind_f b
    generalize kind b = kd at *
    cases a1 <;> cases a2 <;> cases a3 <;> cases a4 <;> cases a5 <;>
      first
      | (simp only [true_implies, reduceCtorEq, false_implies] at h1 h2 h3 h4 h5; exfalso; omega)
      | (simp [escutcheonlaw15_HelloOnly.l0, wrap64, rdOf, hk]; done)
      | (simp only [true_implies, reduceCtorEq, false_implies] at h1 h2 h3 h4 h5; simp [escutcheonlaw15_HelloOnly.l0, wrap64, rdOf, hk]; omega)
end Go.Proofs.Ytbopadckbhocgaa.Pure
