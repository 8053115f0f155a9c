/- A text that is quoted is what matches it alone; the only text of a pattern is told. -/
import Derived.Test.YtigbeielobdfiaaGlobL
import Derived.Test.YtigbeielobdfiaaPx7
namespace Go.Proofs.Ytigbeielobdfiaa.Pure
open Go.RowKit Go.Proofs.Ytigbeielobdfiaa.P Go.Proofs.YtigbeielobdfiaaW.PrintWords Go.Proofs.YtigbeielobdfiaaW.PrintLast Go.Proofs.Ytigbeielobdfiaa.B
set_option linter.unusedVariables false
set_option linter.unusedSimpArgs false

theorem L_inj {a b : ByteArray} : L a = L b ↔ a = b := ⟨L_ext, fun h => by rw [h]⟩
theorem txt_G {p : ByteArray} {t : List UInt8} (h : txt p = some t) (s : ByteArray) : G p s ↔ L s = t := by
  unfold txt at h
  obtain ⟨l, hp, hl⟩ := Option.bind_eq_some_iff.mp h
  rw [← Mt_lits l t (L s) (pat_inr hp) hl]
  unfold G
  constructor
  · rintro ⟨l', h1, h2⟩
    rw [hp] at h1; injection h1 with h1; rw [h1]; exact h2
  · intro h; exact ⟨l, hp, h⟩
theorem GlobQuotes : escutcheonlaw17_GlobQuotes.Pure := by
  intro s t p hs ht hp
  obtain ⟨K, hK⟩ : ∃ K : Nat, 60000 ≤ K := ⟨60000, Nat.le_refl _⟩
  refine ⟨K + 2, ?_⟩
  have out : escutcheonlaw17_GlobQuotes.j0 (K + 2) s t p true = some true := by
    rw [escutcheonlaw17_GlobQuotes.j0, if_pos rfl, alive_k _ (by omega)]; rfl
  unfold escutcheonlaw17_GlobQuotes.f
  by_cases c0 : (s.size : Int) > 20
  · rw [if_pos c0]; exact out
  rw [if_neg c0]
  by_cases c1 : (t.size : Int) > 200
  · rw [if_pos c1]; exact out
  rw [if_neg c1]
  by_cases c2 : (p.size : Int) > 60
  · rw [if_pos c2]; exact out
  rw [if_neg c2, alive_k _ (by omega), Option.bind_some]
  show escutcheonlaw17_GlobQuotes.j0 (K + 2) s t p false = some true
  rw [escutcheonlaw17_GlobQuotes.j0, if_neg (by decide)]
  obtain ⟨q, hq⟩ : ∃ q : ByteArray, q = ⟨(s.data.toList.flatMap glob_Quote.q).toArray⟩ := ⟨_, rfl⟩
  have hqf : glob_Quote.f s = some q := by unfold glob_Quote.f; rw [if_pos (by omega), hq]
  have hqL : L q = (L s).flatMap glob_Quote.q := by rw [hq]; rfl
  have hqs : q.size ≤ 40 := by
    rw [← L_len, hqL]
    have := glob_Quote.q_len (L s)
    rw [L_len] at this; omega
  have hqt : txt q = some (L s) := by
    unfold txt pat
    rw [if_pos hqs, hqL]; exact quote_parse _
  rw [hqf, Option.bind_some, plain_f _ _ (by omega), hqt, Option.bind_some]
  obtain ⟨b1, e1, g1⟩ := match_f q t (by omega) (K + 1) (by omega)
  obtain ⟨b2, e2, g2⟩ := match_f q s (by omega) (K + 1) (by omega)
  rw [txt_G hqt] at g1 g2
  have r1 : (b1 != (s.toList == t.toList)) = false := by
    rw [bne_eq_false_iff_eq, Bool.eq_iff_iff, g1, beq_iff_eq, toList_inj, L_inj]
    exact ⟨Eq.symm, Eq.symm⟩
  rw [e1, Option.bind_some, if_neg (by rw [r1]; decide), e2, Option.bind_some, if_pos (g2.mpr rfl), if_pos rfl]
  have r2 : ((⟨(L s).toArray⟩ : ByteArray).toList != s.toList) = false := by
    rw [bne_eq_false_iff_eq, toList_inj]; exact L_ext rfl
  show escutcheonlaw17_GlobQuotes.j1 (K + 1) t p ((⟨(L s).toArray⟩ : ByteArray).toList != s.toList) = some true
  rw [r2, escutcheonlaw17_GlobQuotes.j1, if_neg (by decide), plain_f _ _ (by omega)]
  cases hx : txt p with
  | none =>
    show some ((⟨#[]⟩ : ByteArray).toList == ([] : List UInt8)) = some true
    rw [toList_L]; rfl
  | some y =>
    obtain ⟨z, hz⟩ : ∃ z : ByteArray, z = ⟨y.toArray⟩ := ⟨_, rfl⟩
    have hzL : L z = y := by rw [hz]; rfl
    rw [Option.bind_some]
    simp only []
    rw [← hz, if_pos trivial, right_f _ _ (by omega), Option.bind_some]
    have hpp : (pat p).isSome = true := by
      unfold txt at hx
      obtain ⟨l, hp, _⟩ := Option.bind_eq_some_iff.mp hx
      rw [hp]; rfl
    have hzs : z.size ≤ 1000 := by
      unfold txt at hx
      obtain ⟨l, hp, hl⟩ := Option.bind_eq_some_iff.mp hx
      have h1 := pat_len hp
      have : ∀ (l : List S40) (y : List UInt8), lits l = some y → y.length = l.length := by
        intro l
        induction l with
        | nil => intro y h; simp [lits] at h; subst h; rfl
        | cons x l ih =>
          intro y h
          simp only [lits] at h
          split at h
          · obtain ⟨y', h', rfl⟩ := Option.map_eq_some_iff.mp h
            simp [ih y' h']
          · cases h
      rw [← L_len, hzL, this l y hl]; omega
    rw [if_pos hpp]
    obtain ⟨b3, e3, g3⟩ := match_f p z hzs K (by omega)
    obtain ⟨b4, e4, g4⟩ := match_f p t (by omega) K (by omega)
    rw [txt_G hx] at g3 g4
    rw [e3, Option.bind_some, if_pos (g3.mpr hzL), e4, Option.bind_some]
    congr 1
    refine beq_iff g4 beq_iff_eq ?_
    rw [toList_inj, ← L_inj, hzL]
end Go.Proofs.Ytigbeielobdfiaa.Pure
