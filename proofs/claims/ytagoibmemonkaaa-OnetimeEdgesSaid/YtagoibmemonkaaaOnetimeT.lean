/- The reference's fold: the whole of it. -/
import Derived.Test.YtagoibmemonkaaaOnetimeS
namespace Go.Proofs.Ytagoibmemonkaaa.B
open Go.RowKit Go.Proofs.Ytagoibmemonkaaa.P Go.Proofs.YtagoibmemonkaaaW.PrintWords Go.Proofs.YtagoibmemonkaaaW.PrintLast Go.Proofs.YtagoibmemonkaaaW.PrintMore
set_option linter.unusedVariables false
set_option linter.unusedSimpArgs false

theorem V_lt : ∀ {l : List Int}, Dg l → V l < 256 ^ l.length
  | [], _ => by decide
  | x :: l, h => by
    have h1 := h x (by simp)
    have h2 := V_lt (l := l) (fun y hy => h y (by simp [hy]))
    rw [V, List.length_cons, Int.pow_succ]
    omega
theorem carry_all (x : List Int) (hx : Ok x) (hl : x.length ≤ 200) :
    ∃ t, (∀ k, 2 * x.length + 40 ≤ k → escutcheonref1_carry.f k x = some t) ∧ Dg t ∧ V t = V x ∧ 18 ≤ t.length ∧ x.length ≤ t.length ∧ (V x < 256 ^ x.length → t.length ≤ max 18 x.length) := by
  obtain ⟨t, h1, h2, h3, h4, h5, h6, h7⟩ := carry_R x hx hl _ (Nat.le_refl _)
  exact ⟨t, fun k hk => at_rounds (escutcheonref1_carry.mono _) hk h1, h2, h3, h4, h5, h7⟩
theorem top_eq {x : List Int} (hx : Dg x) (h : 16 ≤ x.length) : V (x.drop 16) / 4 = V x / 1361129467683753853853498429727072845824 := by
  have h1 := V_td x 16 h
  have h2 := V_lt (hx.take 16)
  have h3 := (hx.take 16).nn
  rw [List.length_take, Nat.min_eq_left h, show (256 : Int) ^ 16 = 340282366920938463463374607431768211456 by decide] at h2
  rw [show (256 : Int) ^ 16 = 340282366920938463463374607431768211456 by decide] at h1
  omega
theorem V_small {t : List Int} (ht : Dg t) (n : Nat) (hn : n ≤ t.length) (h : V t < 256 ^ n) : V (t.take n) = V t := by
  have h1 := V_td t n hn
  have h2 := (ht.take n).nn
  have h3 := (ht.drop n).nn
  have h4 : (0 : Int) < 256 ^ n := Int.pow_pos (by decide)
  have h5 : V (t.drop n) = 0 := by
    rcases Int.lt_or_le 0 (V (t.drop n)) with h6 | h6
    · have := Int.mul_le_mul_of_nonneg_left (show (1 : Int) ≤ V (t.drop n) by omega) (Int.le_of_lt h4)
      rw [Int.mul_one] at this
      omega
    · omega
  rw [h5, Int.mul_zero, Int.add_zero] at h1
  exact h1.symm
theorem fold_all : ∀ (m : Nat) (x : List Int), V x ≤ m → Ok x → 18 ≤ x.length → x.length ≤ 100 → V x < 256 ^ x.length →
    ∃ K t, (∀ k, K ≤ k → escutcheonref1_fold.f k x = some t) ∧ Dg t ∧ t.length = 18 ∧ V t < 1361129467683753853853498429727072845824 ∧ ∃ q : Int, V x = V t + 1361129467683753853853498429727072845819 * q := by
  intro m
  induction m using Nat.strongRecOn with
  | _ m ih =>
    intro x hm hx h18 hl hV
    obtain ⟨x1, c1, c2, c3, c4, c5, c6⟩ := carry_all x hx (by omega)
    have hlen : x1.length = x.length := by have := c6 hV; omega
    have htop := top_eq c2 (by omega)
    have hnn := c2.nn
    rw [c3] at htop hnn
    obtain ⟨low, l1, l2, l3, hpass⟩ := fold_pass x1 c2 (by omega) (by omega)
    rw [c3, htop] at l3
    have hlv : V low < 256 ^ low.length := by rw [l1, hlen]; omega
    have hstart : ∀ k, 2 * x.length + 40 ≤ k → escutcheonref1_fold.l0 (k + 1 + x1.length + 1) x = escutcheonref1_fold.l1 (k + 1) x1 (decide (V x / 1361129467683753853853498429727072845824 > 0)) low ((x1.length : Nat) : Int) := by
      intro k hk
      rw [escutcheonref1_fold.l0, c1 _ (by omega), Option.bind_some, if_pos (by omega), if_pos (by omega), Int.toNat_natCast, hpass, htop]
    by_cases hq : V x / 1361129467683753853853498429727072845824 > 0
    · obtain ⟨K, t, t1, t2, t3, t4, q, t5⟩ := ih (V low).toNat (by omega) low (by omega) l2 (by omega) (by omega) hlv
      refine ⟨K + 2 * x.length + 40 + 2 + x1.length, t, ?_, t2, t3, t4, q + V x / 1361129467683753853853498429727072845824, by omega⟩
      intro k hk
      obtain ⟨j, rfl⟩ : ∃ j, k = j + 1 + x1.length + 1 := ⟨k - 2 - x1.length, by omega⟩
      unfold escutcheonref1_fold.f
      rw [hstart j (by omega), escutcheonref1_fold.l1, if_neg (by omega), decide_eq_true hq, if_pos rfl]
      exact t1 j (by omega)
    · have h0 : V x / 1361129467683753853853498429727072845824 = 0 := by omega
      rw [h0, Int.mul_zero, Int.sub_zero] at l3
      obtain ⟨t, d1, d2, d3, d4, d5, d6⟩ := carry_all low l2 (by omega)
      have hs := V_small d2 18 d4 (by rw [d3, l3, show (256 : Int) ^ 18 = 22300745198530623141535718272648361505980416 by decide]; omega)
      refine ⟨2 * x.length + 40 + 2 + x1.length + 2 * low.length, t.take 18, ?_, d2.take 18, by rw [List.length_take]; omega, by rw [hs, d3, l3]; omega, 0, by rw [hs, d3, l3]; omega⟩
      intro k hk
      obtain ⟨j, rfl⟩ : ∃ j, k = j + 1 + x1.length + 1 := ⟨k - 2 - x1.length, by omega⟩
      unfold escutcheonref1_fold.f
      rw [hstart j (by omega), escutcheonref1_fold.l1, if_neg (by omega), decide_eq_false hq, if_neg (by decide), d1 _ (by omega), Option.bind_some, if_pos (by omega)]
      rfl
end Go.Proofs.Ytagoibmemonkaaa.B
