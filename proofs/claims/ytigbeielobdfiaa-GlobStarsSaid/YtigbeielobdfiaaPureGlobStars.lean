/- Stars side by side say what one says; a mark for one byte says just one. -/
import Derived.Test.YtigbeielobdfiaaGlobL
import Derived.Test.YtigbeielobdfiaaPx9
namespace Go.Proofs.Ytigbeielobdfiaa.Pure
open Go.RowKit Go.Proofs.Ytigbeielobdfiaa.P Go.Proofs.YtigbeielobdfiaaW.PrintWords Go.Proofs.YtigbeielobdfiaaW.PrintLast Go.Proofs.Ytigbeielobdfiaa.B
set_option linter.unusedVariables false
set_option linter.unusedSimpArgs false

theorem stars_l (p s : ByteArray) (n : Nat) (hn : n ≤ 9) (hp : p.size ≤ 20) (hs : s.size ≤ 60) (l : List S40) (hl : pat p = some l) : ∀ (d i : Nat) (x y : ByteArray) (k : Nat), d = n - i → i ≤ n → L x = List.replicate (i + 1) 42 → L y = List.replicate i 63 → 60000 ≤ k →
    escutcheonlaw17_GlobStars.l0 (k + d + 1) p s n x y i = some true := by
  intro d
  induction d with
  | zero =>
    intro i x y k hd hi hx hy hk
    obtain rfl : i = n := by omega
    have hxs : x.size = i + 1 := by rw [← L_len, hx, List.length_replicate]
    have hys : y.size = i := by rw [← L_len, hy, List.length_replicate]
    have px : pat x = some (List.replicate (i + 1) starP) := by
      unfold pat; rw [if_pos (by omega), hx, parse_stars]
    have py : pat y = some (List.replicate i markP) := by
      unfold pat; rw [if_pos (by omega), hy, parse_marks]
    have h1s : (⟨#[42]⟩ : ByteArray).size = 1 := rfl
    have p1 : pat (⟨#[42]⟩ : ByteArray) = some (List.replicate (0 + 1) starP) := by
      unfold pat; rw [if_pos (by rw [h1s]; omega)]; exact parse_stars 1
    obtain ⟨b1, e1, g1⟩ := match_f (p ++ x) s (by omega) k (by omega)
    obtain ⟨b2, e2, g2⟩ := match_f (p ++ (⟨#[42]⟩ : ByteArray)) s (by omega) k (by omega)
    obtain ⟨b3, e3, g3⟩ := match_f y s (by omega) k (by omega)
    obtain ⟨b4, e4, g4⟩ := match_f (⟨#[42]⟩ : ByteArray) s (by omega) k (by omega)
    have hG : ∀ (q : ByteArray) (m : Nat), q.size ≤ 20 → pat q = some (List.replicate (m + 1) starP) → (G (p ++ q) s ↔ ∃ t1 t2, L s = t1 ++ t2 ∧ Mt l t1) := by
      intro q m hq hm
      unfold G
      rw [pat_app hl (by omega), hm]
      rw [← Mt_app_stars l m (L s)]
      constructor
      · rintro ⟨l', h, h2⟩
        injection h with h; subst h; exact h2
      · intro h; exact ⟨_, rfl, h⟩
    have r1 : (b1 == b2) = true := beq_iff (g1.trans (hG x i (by omega) px)) (g2.trans (hG _ 0 (by rw [h1s]; omega) p1)) Iff.rfl
    have r3 : (b3 == ((s.size : Int) == (i : Int))) = true := by
      refine beq_iff (p := s.size = i) (q := s.size = i) (g3.trans ?_) (by rw [beq_iff_eq]; omega) Iff.rfl
      unfold G
      rw [py]
      constructor
      · rintro ⟨l', h, h2⟩
        injection h with h; rw [← h] at h2
        exact (Mt_marks i _).mp h2
      · intro h; exact ⟨_, rfl, (Mt_marks i _).mpr h⟩
    have r4 : b4 = true := g4.mpr ⟨_, p1, Mt_stars 0 _⟩
    rw [escutcheonlaw17_GlobStars.l0, if_neg (by omega), if_pos (by omega), Nat.add_zero, e1, Option.bind_some, if_pos (by omega), e2, Option.bind_some, if_pos r1, e3, Option.bind_some, if_pos r3, e4, Option.bind_some, r4]
  | succ d ih =>
    intro i x y k hd hi hx hy hk
    have hxs : x.size = i + 1 := by rw [← L_len, hx, List.length_replicate]
    have hys : y.size = i := by rw [← L_len, hy, List.length_replicate]
    rw [escutcheonlaw17_GlobStars.l0, if_pos (by omega), if_pos (by omega), if_pos (by omega), show wrap64 ((i : Int) + 1) = ((i + 1 : Nat) : Int) by rw [w64 (by omega) (by omega)]; omega]
    refine ih (i + 1) _ _ k (by omega) (by omega) ?_ ?_ hk
    · rw [L_app, hx, show L (⟨#[42]⟩ : ByteArray) = [42] from rfl, ← List.replicate_succ']
    · rw [L_app, hy, show L (⟨#[63]⟩ : ByteArray) = [63] from rfl, ← List.replicate_succ']
theorem GlobStars : escutcheonlaw17_GlobStars.Pure := by
  intro p s n hp hs hn
  have hn := wf_i64 hn
  obtain ⟨K, hK⟩ : ∃ K : Nat, 60000 ≤ K := ⟨60000, Nat.le_refl _⟩
  refine ⟨K + n.toNat + 2, ?_⟩
  have out : escutcheonlaw17_GlobStars.j0 (K + n.toNat + 2) p s n true = some true := by
    rw [escutcheonlaw17_GlobStars.j0, if_pos rfl, alive_k _ (by omega)]; rfl
  unfold escutcheonlaw17_GlobStars.f
  by_cases c0 : (p.size : Int) > 20
  · rw [if_pos c0]; exact out
  rw [if_neg c0]
  by_cases c1 : (s.size : Int) > 60
  · rw [if_pos c1]; exact out
  rw [if_neg c1]
  by_cases c2 : n < 0
  · rw [if_pos c2]; exact out
  rw [if_neg c2]
  by_cases c3 : n > 9
  · rw [if_pos c3]; exact out
  rw [if_neg c3, right_f _ _ (by omega), Option.bind_some]
  cases hl : pat p with
  | none => rw [if_neg (by decide)]; exact out
  | some l =>
    rw [if_pos (by rfl), alive_k _ (by omega), Option.bind_some]
    show escutcheonlaw17_GlobStars.j0 (K + n.toNat + 2) p s n false = some true
    rw [escutcheonlaw17_GlobStars.j0, if_neg (by decide)]
    have := stars_l p s n.toNat (by omega) (by omega) (by omega) l hl n.toNat 0 (⟨#[42]⟩ : ByteArray) (⟨#[]⟩ : ByteArray) K (by omega) (by omega) rfl rfl hK
    rw [show ((n.toNat : Nat) : Int) = n by omega] at this
    exact this
end Go.Proofs.Ytigbeielobdfiaa.Pure
