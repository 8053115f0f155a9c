/- Every letter as bytes, and back; every bytes, or that they are none. -/
import Derived.Test.YtbopadckbhocgaaPx8
import Derived.Test.YtbopadckbhocgaaHelloB3
namespace Go.Proofs.Ytbopadckbhocgaa.Pure
open Go.RowKit Go.Proofs.Ytbopadckbhocgaa.P Go.Proofs.YtbopadckbhocgaaW.PrintWords Go.Proofs.YtbopadckbhocgaaW.PrintLast Go.Proofs.Ytbopadckbhocgaa.B
set_option linter.unusedVariables false
set_option linter.unusedSimpArgs false

theorem alive7s : escutcheonlaw15_alive.f 7 = some true := by decide +kernel
theorem j4_true (b : ByteArray) (hb : b.size ≤ 3000) : escutcheonlaw15_HelloTells.j4 3 b (kind b) = some true := by
  simp only [escutcheonlaw15_HelloTells.j4]
  rw [getHello_f _ _ (by omega)]
  simp only [Option.bind_some]
  rw [refGetHello_f _ _ hb]
  simp only [Option.bind_some]
  unfold hello_GetChallenge.f hello_GetProof.f hello_GetFinish.f hello_GetRecord.f
  rw [getOf_f 2 _ _ _ (by decide) (by omega), fixed_f _ _ _ (by decide) (by decide), getOf_f 3 _ _ _ (by decide) (by omega), fixed_f _ _ _ (by decide) (by decide), getOf_f 4 _ _ _ (by decide) (by omega), fixed_f _ _ _ (by decide) (by decide), getOf_f 5 _ _ _ (by decide) (by omega)]
  simp only [Option.bind_some]
  have hr := bt_range b 0
  have fin : ∀ q : Bool, (q = true ↔ b.size ≥ 25 ∧ bt b 0 = 5 ∧ b.size ≤ 2200) → escutcheonlaw15_HelloTells.j5 2 b (kind b) (getHello b).2.2 (getHello b).2.2 (getOf 2 b 16 16).2 (getOf 2 b 16 16).1 (getOf 2 b 16 16).2 (getOf 3 b 32 32).2 (getOf 3 b 32 32).1 (getOf 3 b 32 32).2 (getOf 4 b 32 32).2 (getOf 4 b 32 32).1 (getOf 4 b 32 32).2 (getOf 5 b 24 2199).1 (getOf 5 b 24 2199).2 q (getHello b).1 (getHello b).2.1 (getHello b).1 (getHello b).2.1 (getOf 2 b 16 16).1 (getOf 3 b 32 32).1 (getOf 4 b 32 32).1 = some true := by
    intro q hq
    simp only [escutcheonlaw15_HelloTells.j5]
    rw [kind_f]
    simp only [Option.bind_some, beq_self_eq_true, Bool.and_self, if_true]
    cases q with
    | true =>
      have hc := hq.1 rfl
      have hk : kind b = 5 := by unfold kind; rw [if_pos (by omega)]; omega
      have hg : getOf 5 b 24 2199 = (b.extract 1 b.size, true) := if_pos ⟨hk, by omega, by omega⟩
      rw [hg]
      simp only [beq_self_eq_true, if_true]
      rw [if_pos (by omega)]
    | false =>
      have hc : ¬ (b.size ≥ 25 ∧ bt b 0 = 5 ∧ b.size ≤ 2200) := fun h => by have := hq.2 h; cases this
      have hg : getOf 5 b 24 2199 = ((⟨#[]⟩ : ByteArray), false) := by
        refine if_neg ?_
        intro h
        have hk : kind b = 5 := h.1
        unfold kind at hk
        split at hk <;> omega
      rw [hg]
      simp only [beq_self_eq_true, Bool.false_eq_true, if_true, if_false]
      rw [(toList_nil _).2 rfl]
      rfl
  by_cases h1 : (b.size : Int) ≥ 25
  · rw [if_pos h1, if_pos (by omega)]
    by_cases h2 : bt b 0 = 5
    · rw [if_pos h2]
      exact fin _ (by simp only [decide_eq_true_eq]; omega)
    · rw [if_neg h2]
      exact fin _ (by simp only [Bool.false_eq_true, false_iff]; omega)
  · rw [if_neg h1]
    exact fin _ (by simp only [Bool.false_eq_true, false_iff]; omega)
theorem true_ (u n x m r b : ByteArray) (hx : x.size ≤ 140737488351232) (hm : m.size ≤ 140737488351232) (hr : r.size ≤ 140737488351232) : escutcheonlaw15_HelloTells.f 7 u n x m r b = some true := by
  have out : escutcheonlaw15_HelloTells.j0 7 x m r b true u n = some true := by
    simp only [escutcheonlaw15_HelloTells.j0]
    rw [if_pos trivial, alive6s]; rfl
  unfold escutcheonlaw15_HelloTells.f
  split
  · exact out
  split
  · exact out
  split
  · exact out
  split
  · exact out
  split
  · exact out
  split
  · exact out
  rename_i c1 c2 c3 c4 c5 c6
  rw [alive7s]
  simp only [Option.bind_some, escutcheonlaw15_HelloTells.j0]
  rw [if_neg (by simp), refHello_f]
  obtain ⟨ph, hph⟩ : ∃ ph, hello_PutHello.f u n = some ph := ⟨_, putHello_f u n⟩
  rw [hph]
  simp only [Option.bind_some]
  unfold hello_PutChallenge.f hello_PutProof.f hello_PutFinish.f hello_PutRecord.f
  rw [put_f _ _ _ _ (by decide) hx, put_f _ _ _ _ (by decide) hm, put_f _ _ _ _ (by decide) hm, put_f _ _ _ _ (by decide) hr]
  simp only [Option.bind_some]
  have p2 : ∀ (k : Int) (s : ByteArray) (lo hi : Int), (put k s lo hi).2 = decide (lo ≤ (s.size : Int) ∧ (s.size : Int) ≤ hi) := by
    intro k s lo hi; unfold put; split <;> simp [*]
  have key : ∀ (n s : Int), (decide (n ≤ s ∧ s ≤ n) != (s == n)) = false := by
    intro n s
    by_cases h : s = n
    · subst h; simp
    · have h1 : ¬ (n ≤ s ∧ s ≤ n) := by omega
      rw [decide_eq_false h1, beq_eq_false_iff_ne.mpr h]; rfl
  have e1 : ((put 2 x 16 16).2 != ((x.size : Int) == 16)) = false := by rw [p2]; exact key 16 _
  have e2 : ((put 3 m 32 32).2 != ((m.size : Int) == 32)) = false := by rw [p2]; exact key 32 _
  have e3 : ((put 4 m 32 32).2 != (put 3 m 32 32).2) = false := by
    rw [p2, p2]; simp
  have e0 : (ph.2 != ph.2) = false := by simp
  rw [if_pos trivial, e0, if_neg (by simp), e1, if_neg (by simp), e2, if_neg (by simp), e3, if_neg (by simp)]
  have j1t : escutcheonlaw15_HelloTells.j1 6 x m r b (put 2 x 16 16).1 (put 2 x 16 16).2 (put 3 m 32 32).1 (put 3 m 32 32).2 (put 4 m 32 32).1 (put 5 r 24 2199).1 (put 5 r 24 2199).2 false = some true := by
    have j2t : escutcheonlaw15_HelloTells.j2 5 b false = some true := by
      simp only [escutcheonlaw15_HelloTells.j2, escutcheonlaw15_HelloTells.j3]
      have hj4 := j4_true b (by omega)
      have hkr := bt_range b 0
      rw [if_neg (by simp)]
      unfold kind at hj4
      by_cases h0 : (b.size : Int) > 0
      · rw [if_pos h0, if_pos (by omega)]
        by_cases h1 : bt b 0 ≥ 1
        · rw [if_pos h1]
          by_cases h5 : bt b 0 ≤ 5
          · rw [if_pos (by simpa using h5), w64 (by omega) (by omega)]
            rw [if_pos (by omega)] at hj4
            rw [if_pos (by omega)]; exact hj4
          · rw [if_neg (by simpa using h5)]
            rw [if_neg (by omega)] at hj4
            exact hj4
        · rw [if_neg h1, if_neg (by simp)]
          rw [if_neg (by omega)] at hj4
          exact hj4
      · rw [if_neg h0, if_neg (by simp)]
        rw [if_neg (by omega)] at hj4
        exact hj4
    have q2 : (⟨#[2]⟩ : ByteArray) = strOfNums [2] := rfl
    have q3 : (⟨#[3]⟩ : ByteArray) = strOfNums [3] := rfl
    have q4 : (⟨#[4]⟩ : ByteArray) = strOfNums [4] := rfl
    have q5 : (⟨#[5]⟩ : ByteArray) = strOfNums [5] := rfl
    simp only [escutcheonlaw15_HelloTells.j1]
    rw [if_neg (by simp), q2, q3, q4, q5]
    by_cases g2 : (16 : Int) ≤ (x.size : Int) ∧ (x.size : Int) ≤ 16
    · have a2 : put 2 x 16 16 = (strOfNums [2] ++ x, true) := if_pos g2
      rw [a2]
      simp only [if_true]
      rw [if_pos (by omega)]
      by_cases g3 : (32 : Int) ≤ (m.size : Int) ∧ (m.size : Int) ≤ 32
      · have a3 : put 3 m 32 32 = (strOfNums [3] ++ m, true) := if_pos g3
        have a4 : put 4 m 32 32 = (strOfNums [4] ++ m, true) := if_pos g3
        rw [a3, a4]
        simp only [if_true]
        rw [if_pos (by omega)]
        by_cases g5 : (24 : Int) ≤ (r.size : Int) ∧ (r.size : Int) ≤ 2199
        · have a5 : put 5 r 24 2199 = (strOfNums [5] ++ r, true) := if_pos g5
          rw [a5]
          simp only [if_true, bne_self_eq_false]
          rw [if_pos (by omega)]; exact j2t
        · have a5 : put 5 r 24 2199 = ((⟨#[]⟩ : ByteArray), false) := if_neg g5
          rw [a5]
          simp only [Bool.false_eq_true, if_false]; exact j2t
      · have a3 : put 3 m 32 32 = ((⟨#[]⟩ : ByteArray), false) := if_neg g3
        rw [a3]
        simp only [Bool.false_eq_true, if_false]
        by_cases g5 : (24 : Int) ≤ (r.size : Int) ∧ (r.size : Int) ≤ 2199
        · have a5 : put 5 r 24 2199 = (strOfNums [5] ++ r, true) := if_pos g5
          rw [a5]
          simp only [if_true, bne_self_eq_false]
          rw [if_pos (by omega)]; exact j2t
        · have a5 : put 5 r 24 2199 = ((⟨#[]⟩ : ByteArray), false) := if_neg g5
          rw [a5]
          simp only [Bool.false_eq_true, if_false]; exact j2t
    · have a2 : put 2 x 16 16 = ((⟨#[]⟩ : ByteArray), false) := if_neg g2
      rw [a2]
      simp only [Bool.false_eq_true, if_false]
      rw [if_pos ((toList_nil _).2 rfl)]
      by_cases g3 : (32 : Int) ≤ (m.size : Int) ∧ (m.size : Int) ≤ 32
      · have a3 : put 3 m 32 32 = (strOfNums [3] ++ m, true) := if_pos g3
        have a4 : put 4 m 32 32 = (strOfNums [4] ++ m, true) := if_pos g3
        rw [a3, a4]
        simp only [if_true]
        rw [if_pos (by omega)]
        by_cases g5 : (24 : Int) ≤ (r.size : Int) ∧ (r.size : Int) ≤ 2199
        · have a5 : put 5 r 24 2199 = (strOfNums [5] ++ r, true) := if_pos g5
          rw [a5]
          simp only [if_true, bne_self_eq_false]
          rw [if_pos (by omega)]; exact j2t
        · have a5 : put 5 r 24 2199 = ((⟨#[]⟩ : ByteArray), false) := if_neg g5
          rw [a5]
          simp only [Bool.false_eq_true, if_false]; exact j2t
      · have a3 : put 3 m 32 32 = ((⟨#[]⟩ : ByteArray), false) := if_neg g3
        rw [a3]
        simp only [Bool.false_eq_true, if_false]
        by_cases g5 : (24 : Int) ≤ (r.size : Int) ∧ (r.size : Int) ≤ 2199
        · have a5 : put 5 r 24 2199 = (strOfNums [5] ++ r, true) := if_pos g5
          rw [a5]
          simp only [if_true, bne_self_eq_false]
          rw [if_pos (by omega)]; exact j2t
        · have a5 : put 5 r 24 2199 = ((⟨#[]⟩ : ByteArray), false) := if_neg g5
          rw [a5]
          simp only [Bool.false_eq_true, if_false]; exact j2t
  by_cases g : (r.size : Int) ≥ 24
  · have e4 : ((put 5 r 24 2199).2 != decide ((r.size : Int) ≤ 2199)) = false := by
      rw [p2]
      by_cases h : (r.size : Int) ≤ 2199
      · rw [decide_eq_true (show (24 : Int) ≤ (r.size : Int) ∧ (r.size : Int) ≤ 2199 by omega), decide_eq_true h]; rfl
      · rw [decide_eq_false (show ¬ ((24 : Int) ≤ (r.size : Int) ∧ (r.size : Int) ≤ 2199) by omega), decide_eq_false h]; rfl
    rw [if_pos g, e4]; exact j1t
  · have e4 : ((put 5 r 24 2199).2 != false) = false := by
      rw [p2]; simp only [bne_eq_false_iff_eq, decide_eq_false_iff_not]; omega
    rw [if_neg g, e4]; exact j1t
theorem HelloTells (u n x m r b : ByteArray) (hx : x.size ≤ 140737488351232) (hm : m.size ≤ 140737488351232) (hr : r.size ≤ 140737488351232) : escutcheonlaw15_HelloTells.f 7 u n x m r b = some true := true_ u n x m r b hx hm hr
end Go.Proofs.Ytbopadckbhocgaa.Pure
