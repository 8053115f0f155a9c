/- Every pattern whether it may be, and over every text. -/
import Derived.Test.YtigbeielobdfiaaGlobT
import Derived.Test.YtigbeielobdfiaaPx6
namespace Go.Proofs.Ytigbeielobdfiaa.Pure
open Go.RowKit Go.Proofs.Ytigbeielobdfiaa.P Go.Proofs.YtigbeielobdfiaaW.PrintWords Go.Proofs.YtigbeielobdfiaaW.PrintLast Go.Proofs.Ytigbeielobdfiaa.B
set_option linter.unusedVariables false
set_option linter.unusedSimpArgs false

theorem rglob_l (p : ByteArray) (hp : p.size ≤ 1000) : ∀ (m i k : Nat), p.size - i ≤ m → i ≤ p.size → m + 1 ≤ k → escutcheonref14_Glob.l0 k p i = some ((parse ((L p).drop i)).isSome && decide ((p.size : Int) ≤ 40)) := by
  intro m
  induction m using Nat.strongRecOn with
  | ind m ih =>
  intro i k hm hi hk
  obtain ⟨k, rfl⟩ : ∃ k', k = k' + 1 := ⟨k - 1, by omega⟩
  rw [escutcheonref14_Glob.l0]
  by_cases h : i < p.size
  · have hd := drop_cons p i h
    have hb := bt_get p i h
    obtain ⟨c, hc⟩ : ∃ c, (L p)[i]'(by rw [L_len]; exact h) = c := ⟨_, rfl⟩
    rw [hc] at hb hd
    have hw : wrap64 ((i : Int) + 1) = ((i + 1 : Nat) : Int) := by rw [w64 (by omega) (by omega)]; omega
    have hw2 : wrap64 (((i + 1 : Nat) : Int) + 1) = ((i + 2 : Nat) : Int) := by rw [w64 (by omega) (by omega)]; omega
    rw [if_pos (by omega), if_pos (by omega), hb, hw, hd]
    by_cases h92 : c = 92
    · subst h92
      rw [if_pos (by decide), hw2]
      by_cases hlast : i + 1 < p.size
      · rw [if_neg (by omega), drop_cons p (i + 1) hlast, parse_quote, ih (m - 2) (by omega) (i + 2) k (by omega) (by omega) (by omega)]
        cases parse (List.drop (i + 2) (L p)) <;> simp
      · rw [if_pos (by omega), List.drop_of_length_le (by rw [L_len]; omega), parse_quote1]; rfl
    · have h92' : ¬ (c.toNat : Int) = 92 := fun e => h92 ((c_nat (n := 92) (by decide)).mp e)
      rw [if_neg h92', ih (m - 1) (by omega) (i + 1) k (by omega) (by omega) (by omega)]
      by_cases hmk : c = 42 ∨ c = 63
      · rw [parse_mark c _ hmk]
        cases parse (List.drop (i + 1) (L p)) <;> simp
      · simp only [not_or] at hmk
        rw [parse_plain c _ hmk.1 hmk.2 h92]
        cases parse (List.drop (i + 1) (L p)) <;> simp
  · rw [if_neg (by omega), List.drop_of_length_le (by rw [L_len]; omega)]
    simp [parse]
theorem rglob_f (p : ByteArray) (hp : p.size ≤ 1000) (k : Nat) (hk : 2000 ≤ k) : escutcheonref14_Glob.f k p = some (pat p).isSome := by
  have := rglob_l p hp p.size 0 k (by omega) (by omega) (by omega)
  rw [show ((0 : Nat) : Int) = 0 from rfl, List.drop_zero] at this
  rw [escutcheonref14_Glob.f, this]
  unfold pat
  by_cases h : p.size ≤ 40
  · rw [if_pos h, decide_eq_true (by omega), Bool.and_true]
  · rw [if_neg h, decide_eq_false (by omega), Bool.and_false]; rfl
theorem GlobTells : escutcheonlaw17_GlobTells.Pure := by
  intro p s hp hs
  obtain ⟨K, hK⟩ : ∃ K : Nat, 5000000 ≤ K := ⟨5000000, Nat.le_refl _⟩
  refine ⟨K + 1, ?_⟩
  have out : escutcheonlaw17_GlobTells.j0 (K + 1) p s true = some true := by
    rw [escutcheonlaw17_GlobTells.j0, if_pos rfl, alive_k _ (by omega)]; rfl
  unfold escutcheonlaw17_GlobTells.f
  by_cases c0 : (p.size : Int) > 100
  · rw [if_pos c0]; exact out
  rw [if_neg c0]
  by_cases c1 : (s.size : Int) > 200
  · rw [if_pos c1]; exact out
  rw [if_neg c1, alive_k _ (by omega), Option.bind_some]
  show escutcheonlaw17_GlobTells.j0 (K + 1) p s false = some true
  rw [escutcheonlaw17_GlobTells.j0, if_neg (by decide), rglob_f p (by omega) K (by omega), Option.bind_some, right_f _ _ (by omega), Option.bind_some, if_pos (beq_self_eq_true _)]
  obtain ⟨b, e, g⟩ := match_f p s (by omega) K (by omega)
  rw [e, Option.bind_some]
  cases hl : pat p with
  | none =>
    have : b = false := by
      cases b with
      | false => rfl
      | true => obtain ⟨l, h, _⟩ := g.mp rfl; rw [hl] at h; cases h
    rw [if_neg (by decide), this]; rfl
  | some l =>
    obtain ⟨b2, h2, g2⟩ := rmatch_f p s (by omega) l hl
    have hle : p.size * ((s.size + 1) * (s.size + 5) + 3) + 1 ≤ K := by
      have h1 : (s.size + 1) * (s.size + 5) ≤ 201 * 205 := Nat.mul_le_mul (by omega) (by omega)
      have h2 : p.size * ((s.size + 1) * (s.size + 5) + 3) ≤ 100 * (201 * 205 + 3) := Nat.mul_le_mul (by omega) (by omega)
      omega
    have h2 : escutcheonref14_Match.f K p s = some b2 := h2 K hle
    rw [if_pos (by rfl), h2, Option.bind_some]
    congr 1
    refine beq_iff g g2 ?_
    unfold G
    rw [hl]
    constructor
    · rintro ⟨l', h, h2⟩
      injection h with h; rw [h]; exact h2
    · intro h; exact ⟨l, rfl, h⟩
end Go.Proofs.Ytigbeielobdfiaa.Pure
