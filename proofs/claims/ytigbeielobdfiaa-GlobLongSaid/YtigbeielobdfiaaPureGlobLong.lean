/- A pattern that is too long matches nothing; one that may just be does. -/
import Derived.Test.YtigbeielobdfiaaGlobL
import Derived.Test.YtigbeielobdfiaaPx12
namespace Go.Proofs.Ytigbeielobdfiaa.Pure
open Go.RowKit Go.Proofs.Ytigbeielobdfiaa.P Go.Proofs.YtigbeielobdfiaaW.PrintWords Go.Proofs.YtigbeielobdfiaaW.PrintLast Go.Proofs.Ytigbeielobdfiaa.B
set_option linter.unusedVariables false
set_option linter.unusedSimpArgs false

theorem long_l (n : Nat) (hn : n ≤ 100) : ∀ (d i : Nat) (p : ByteArray) (k : Nat), d = n - i → i ≤ n → L p = List.replicate i 63 → 60000 ≤ k → escutcheonlaw17_GlobLong.l0 (k + d + 1) n p i = some true := by
  intro d
  induction d with
  | zero =>
    intro i p k hd hi hL hk
    obtain rfl : i = n := by omega
    have hps : p.size = i := by rw [← L_len, hL, List.length_replicate]
    have hz : ∀ m : Nat, (strOfNums (List.replicate m (0 : Int))).size = m := fun m => by rw [size_nums, List.length_replicate]
    have hpat : pat p = if i ≤ 40 then some (List.replicate i markP) else none := by
      unfold pat; rw [hps, hL, parse_marks]
    obtain ⟨b1, e1, g1⟩ := match_f p (strOfNums (List.replicate i (0 : Int))) (by rw [hz]; omega) k (by omega)
    obtain ⟨b2, e2, g2⟩ := match_f p (strOfNums (List.replicate i (0 : Int)) ++ (⟨#[120]⟩ : ByteArray)) (by rw [size_app, hz, show (⟨#[120]⟩ : ByteArray).size = 1 from rfl]; omega) k (by omega)
    have hG : ∀ s, G p s ↔ (i ≤ 40 ∧ s.size = i) := by
      intro s
      unfold G
      rw [hpat]
      by_cases h : i ≤ 40
      · rw [if_pos h]
        constructor
        · rintro ⟨l, e, m⟩
          injection e with e; subst e
          exact ⟨h, (Mt_marks i _).mp m⟩
        · rintro ⟨_, h2⟩
          exact ⟨_, rfl, (Mt_marks i _).mpr h2⟩
      · rw [if_neg h]
        constructor
        · rintro ⟨l, e, _⟩; cases e
        · rintro ⟨h2, _⟩; exact absurd h2 h
    rw [hG] at g1 g2
    rw [size_app, hz, show (⟨#[120]⟩ : ByteArray).size = 1 from rfl] at g2
    rw [hz] at g1
    have r0 : ((pat p).isSome == decide ((i : Int) ≤ 40)) = true := by
      refine beq_iff (p := i ≤ 40) (q := i ≤ 40) ?_ (by rw [decide_eq_true_eq]; omega) Iff.rfl
      rw [hpat]
      by_cases h : i ≤ 40
      · rw [if_pos h]; simp [h]
      · rw [if_neg h]; simp [h]
    have r1 : (b1 == decide ((i : Int) ≤ 40)) = true := beq_iff (p := i ≤ 40) (q := i ≤ 40) (g1.trans (by omega)) (by rw [decide_eq_true_eq]; omega) Iff.rfl
    have r2 : b2 = false := by
      cases b2 with
      | false => rfl
      | true => have := g2.mp rfl; omega
    subst r2
    rw [escutcheonlaw17_GlobLong.l0, if_neg (by omega), if_pos (by omega), if_pos (by rw [Int.toNat_natCast]; omega), Option.bind_some, Int.toNat_natCast, Nat.add_zero, right_f _ _ (by omega), Option.bind_some, if_pos r0, e1, Option.bind_some, if_pos r1, if_pos (by rw [hz]; omega), e2, Option.bind_some]; rfl
  | succ d ih =>
    intro i p k hd hi hL hk
    have hps : p.size = i := by rw [← L_len, hL, List.length_replicate]
    rw [escutcheonlaw17_GlobLong.l0, if_pos (by omega), if_pos (by omega), show wrap64 ((i : Int) + 1) = ((i + 1 : Nat) : Int) by rw [w64 (by omega) (by omega)]; omega]
    refine ih (i + 1) _ k (by omega) (by omega) ?_ hk
    rw [L_app, hL, show L (⟨#[63]⟩ : ByteArray) = [63] from rfl, ← List.replicate_succ']
theorem GlobLong : escutcheonlaw17_GlobLong.Pure := by
  intro n hn
  have hn := wf_i64 hn
  obtain ⟨K, hK⟩ : ∃ K : Nat, 60000 ≤ K := ⟨60000, Nat.le_refl _⟩
  refine ⟨K + n.toNat + 2, ?_⟩
  have out : escutcheonlaw17_GlobLong.j0 (K + n.toNat + 2) n true = some true := by
    rw [escutcheonlaw17_GlobLong.j0, if_pos rfl, alive_k _ (by omega)]; rfl
  unfold escutcheonlaw17_GlobLong.f
  by_cases c1 : n < 0
  · rw [if_pos c1]; exact out
  rw [if_neg c1]
  by_cases c2 : n > 100
  · rw [if_pos c2]; exact out
  rw [if_neg c2, alive_k _ (by omega), Option.bind_some]
  show escutcheonlaw17_GlobLong.j0 (K + n.toNat + 2) n false = some true
  rw [escutcheonlaw17_GlobLong.j0, if_neg (by decide)]
  have := long_l n.toNat (by omega) n.toNat 0 (⟨#[]⟩ : ByteArray) K (by omega) (by omega) rfl hK
  rw [show ((n.toNat : Nat) : Int) = n by omega] at this
  exact this
end Go.Proofs.Ytigbeielobdfiaa.Pure
