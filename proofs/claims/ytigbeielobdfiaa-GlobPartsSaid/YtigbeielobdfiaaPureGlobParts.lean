/- Two texts that two patterns match, one behind the other; a star ahead or behind matches more. -/
import Derived.Test.YtigbeielobdfiaaGlobL
import Derived.Test.YtigbeielobdfiaaPx8
namespace Go.Proofs.Ytigbeielobdfiaa.Pure
open Go.RowKit Go.Proofs.Ytigbeielobdfiaa.P Go.Proofs.YtigbeielobdfiaaW.PrintWords Go.Proofs.YtigbeielobdfiaaW.PrintLast Go.Proofs.Ytigbeielobdfiaa.B
set_option linter.unusedVariables false
set_option linter.unusedSimpArgs false

theorem GlobParts : escutcheonlaw17_GlobParts.Pure := by
  intro p q s t hp hq hs ht
  obtain ⟨K, hK⟩ : ∃ K : Nat, 60000 ≤ K := ⟨60000, Nat.le_refl _⟩
  refine ⟨K + 2, ?_⟩
  have out : escutcheonlaw17_GlobParts.j0 (K + 2) p q s t true = some true := by
    rw [escutcheonlaw17_GlobParts.j0, if_pos rfl, alive_k _ (by omega)]; rfl
  unfold escutcheonlaw17_GlobParts.f
  rw [w64 (n := (p.size : Int) + q.size) (by omega) (by omega)]
  by_cases c1 : (p.size : Int) + q.size > 38
  · rw [if_pos c1]; exact out
  rw [if_neg c1]
  by_cases c2 : (s.size : Int) > 100
  · rw [if_pos c2]; exact out
  rw [if_neg c2]
  by_cases c3 : (t.size : Int) > 100
  · rw [if_pos c3]; exact out
  rw [if_neg c3, alive_k _ (by omega), Option.bind_some, escutcheonlaw17_GlobParts.j0, if_neg (by decide)]
  obtain ⟨b1, e1, g1⟩ := match_f p s (by omega) (K + 1) (by omega)
  rw [e1, Option.bind_some]
  have stop : escutcheonlaw17_GlobParts.j1 (K + 1) p q s t true = some true := by
    rw [escutcheonlaw17_GlobParts.j1, if_pos rfl]
  cases b1 with
  | false => rw [if_neg (by decide)]; exact stop
  | true =>
    rw [if_pos rfl]
    obtain ⟨b2, e2, g2⟩ := match_f q t (by omega) (K + 1) (by omega)
    rw [e2, Option.bind_some]
    cases b2 with
    | false => exact stop
    | true =>
      obtain ⟨l, hl, ml⟩ := g1.mp rfl
      obtain ⟨m, hm, mm⟩ := g2.mp rfl
      have hst : (s ++ t).size ≤ 1000 := by rw [size_app]; omega
      have hstar : pat (⟨#[42]⟩ : ByteArray) = some [starP] := by
        unfold pat; rw [if_pos (by decide)]; exact parse_stars 1
      have G1 : G (p ++ q) (s ++ t) := ⟨l ++ m, by rw [pat_app hl (by omega), hm]; rfl, by rw [L_app, Mt_app]; exact ⟨_, _, rfl, ml, mm⟩⟩
      have G2 : G ((⟨#[42]⟩ : ByteArray) ++ q) (s ++ t) := ⟨[starP] ++ m, by rw [pat_app hstar (by rw [show (⟨#[42]⟩ : ByteArray).size = 1 from rfl]; omega), hm]; rfl, by rw [L_app, Mt_app]; exact ⟨_, _, rfl, (Mt_one _ _).mpr (one_star _), mm⟩⟩
      have G3 : G (p ++ (⟨#[42]⟩ : ByteArray)) (s ++ t) := ⟨l ++ [starP], by rw [pat_app hl (by rw [show (⟨#[42]⟩ : ByteArray).size = 1 from rfl]; omega), hstar]; rfl, by rw [L_app, Mt_app]; exact ⟨_, _, rfl, ml, (Mt_one _ _).mpr (one_star _)⟩⟩
      obtain ⟨b3, e3, g3⟩ := match_f (p ++ q) (s ++ t) hst K (by omega)
      obtain ⟨b4, e4, g4⟩ := match_f ((⟨#[42]⟩ : ByteArray) ++ q) (s ++ t) hst K (by omega)
      obtain ⟨b5, e5, g5⟩ := match_f (p ++ (⟨#[42]⟩ : ByteArray)) (s ++ t) hst K (by omega)
      show escutcheonlaw17_GlobParts.j1 (K + 1) p q s t false = some true
      rw [escutcheonlaw17_GlobParts.j1, if_neg (by decide), if_pos (by omega), if_pos (by omega), e3, Option.bind_some, if_pos (g3.mpr G1), if_pos (by omega), e4, Option.bind_some, if_pos (g4.mpr G2), if_pos (by omega), e5, Option.bind_some, g5.mpr G3]
end Go.Proofs.Ytigbeielobdfiaa.Pure
