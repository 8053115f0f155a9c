/- The reference's Tag: a block is added, and multiplied. -/
import Derived.Test.YtagoibmemonkaaaOnetimeT
namespace Go.Proofs.Ytagoibmemonkaaa.B
open Go.RowKit Go.Proofs.Ytagoibmemonkaaa.P Go.Proofs.YtagoibmemonkaaaW.PrintWords Go.Proofs.YtagoibmemonkaaaW.PrintLast Go.Proofs.YtagoibmemonkaaaW.PrintMore
set_option linter.unusedVariables false
set_option linter.unusedSimpArgs false

/-- Digits, one behind the other, are added to a number's. -/
theorem add_part (key b r : ByteArray) (at_ : Int) (s : ByteArray) (hs : s.size ≤ 18) : ∀ (d i : Nat) (acc : List Int), d = s.size - i → i ≤ s.size → acc.length = 18 → (∀ j, 0 ≤ acc.getD j 0 ∧ acc.getD j 0 ≤ 510 ∧ (i ≤ j → acc.getD j 0 ≤ 255)) →
    ∃ acc', acc'.length = 18 ∧ (∀ j, 0 ≤ acc'.getD j 0 ∧ acc'.getD j 0 ≤ 510) ∧ V acc' = V acc + 256 ^ i * RA s i ∧
      ∀ k, escutcheonref1_Tag.l1 (k + 1 + d) key b r acc at_ s (i : Int) = escutcheonref1_Tag.l2 k key b r acc' at_ (List.replicate 34 0) 0
  | 0, i, acc, hd, hi, hl, hb => by
    refine ⟨acc, hl, fun j => ⟨(hb j).1, (hb j).2.1⟩, by rw [RA_end s i (by omega), Int.mul_zero, Int.add_zero], fun k => ?_⟩
    show escutcheonref1_Tag.l1 (k + 1) key b r acc at_ s (i : Int) = _
    rw [escutcheonref1_Tag.l1, if_neg (by omega), hl, show wrap64 (((18 : Nat) : Int) + 16) = 34 by unfold wrap64; omega, if_pos (by decide), if_pos (by decide)]
    rfl
  | d + 1, i, acc, hd, hi, hl, hb => by
    have hbt := bt_range s (i : Int)
    have hbi := hb i
    have h255 := hbi.2.2 (Nat.le_refl _)
    obtain ⟨acc', g1, g2, g3, g4⟩ := add_part key b r at_ s hs d (i + 1) (acc.set i (acc.getD i 0 + bt s (i : Int))) (by omega) (by omega) (by rw [List.length_set]; exact hl) (by
      intro j
      by_cases hj : i = j
      · subst hj
        rw [getD_set _ _ _ (by omega)]
        exact ⟨by omega, by omega, fun h => by omega⟩
      · rw [getD_set_ne _ _ _ _ hj]
        exact ⟨(hb j).1, (hb j).2.1, fun h => (hb j).2.2 (by omega)⟩)
    refine ⟨acc', g1, g2, ?_, fun k => ?_⟩
    · rw [g3, V_set _ _ _ (by omega), RA_step s i (by omega), Int.pow_succ]
      generalize (256 : Int) ^ i = q
      generalize RA s (i + 1) = v
      generalize bt s (i : Int) = w
      generalize acc.getD i 0 = u
      grind
    · rw [show k + 1 + (d + 1) = (k + 1 + d) + 1 by omega, escutcheonref1_Tag.l1, if_pos (by omega), if_pos (by omega), if_pos (by omega), Int.toNat_natCast, rd_nat, w64 (n := bt s (i : Int)) (by omega) (by omega), w64 (by omega) (by omega), w64 (by omega) (by omega), show (i : Int) + 1 = ((i + 1 : Nat) : Int) by omega]
      exact g4 k
/-- One digit of a number times another number's digits. -/
theorem mul_row (key b r : ByteArray) (at_ : Int) (acc : List Int) (hr : r.size = 16) (hacc : acc.length = 18) (hab : ∀ j, 0 ≤ acc.getD j 0 ∧ acc.getD j 0 ≤ 510) (i : Nat) (hi : i < 18) : ∀ (d j : Nat) (pr : List Int), d = 16 - j → j ≤ 16 → pr.length = 34 →
    (∀ m, 0 ≤ pr.getD m 0 ∧ pr.getD m 0 ≤ 130050 * (16 * (i : Int) + (j : Int))) →
    ∃ pr', pr'.length = 34 ∧ (∀ m, 0 ≤ pr'.getD m 0 ∧ pr'.getD m 0 ≤ 130050 * (16 * (i : Int) + 16)) ∧ V pr' = V pr + 256 ^ (i + j) * (acc.getD i 0 * RA r j) ∧
      ∀ k, escutcheonref1_Tag.l3 (k + 1 + d) key b r acc at_ pr (i : Int) (j : Int) = escutcheonref1_Tag.l2 k key b r acc at_ pr' ((i + 1 : Nat) : Int)
  | 0, j, pr, hd, hj, hl, hb => by
    obtain rfl : j = 16 := by omega
    refine ⟨pr, hl, hb, by rw [RA_end r 16 (by omega), Int.mul_zero, Int.mul_zero, Int.add_zero], fun k => ?_⟩
    show escutcheonref1_Tag.l3 (k + 1) key b r acc at_ pr (i : Int) ((16 : Nat) : Int) = _
    rw [escutcheonref1_Tag.l3, if_neg (by omega), w64 (by omega) (by omega), show (i : Int) + 1 = ((i + 1 : Nat) : Int) by omega]
  | d + 1, j, pr, hd, hj, hl, hb => by
    have hbt := bt_range r (j : Int)
    have ha := hab i
    have hm0 : 0 ≤ acc.getD i 0 * bt r (j : Int) := Int.mul_nonneg ha.1 hbt.1
    have hm1 : acc.getD i 0 * bt r (j : Int) ≤ 130050 := by
      have := Int.mul_le_mul (show acc.getD i 0 ≤ 510 by omega) (show bt r (j : Int) ≤ 255 by omega) hbt.1 (by decide)
      omega
    have hbp := hb (i + j)
    obtain ⟨pr', g1, g2, g3, g4⟩ := mul_row key b r at_ acc hr hacc hab i hi d (j + 1) (pr.set (i + j) (pr.getD (i + j) 0 + acc.getD i 0 * bt r (j : Int))) (by omega) (by omega) (by rw [List.length_set]; exact hl) (by
      intro m
      by_cases hm : i + j = m
      · subst hm
        rw [getD_set _ _ _ (by omega)]
        omega
      · rw [getD_set_ne _ _ _ _ hm]
        have := hb m
        omega)
    refine ⟨pr', g1, g2, ?_, fun k => ?_⟩
    · rw [g3, V_set _ _ _ (by omega), RA_step r j (by omega), show i + (j + 1) = (i + j) + 1 by omega, Int.pow_succ]
      generalize (256 : Int) ^ (i + j) = q
      generalize RA r (j + 1) = v
      generalize bt r (j : Int) = w
      generalize pr.getD (i + j) 0 = u
      generalize acc.getD i 0 = a
      grind
    · rw [show k + 1 + (d + 1) = (k + 1 + d) + 1 by omega, escutcheonref1_Tag.l3, if_pos (by omega), w64 (n := (i : Int) + (j : Int)) (by omega) (by omega), if_pos (by omega), if_pos (by omega), if_pos (by omega), if_pos (by omega), if_pos (by omega), if_pos (by omega)]
      rw [show (i : Int) + (j : Int) = ((i + j : Nat) : Int) by omega, Int.toNat_natCast, rd_nat, rd_nat, w64 (n := bt r (j : Int)) (by omega) (by omega), w64 (n := acc.getD i 0 * bt r (j : Int)) (by omega) (by omega), w64 (n := pr.getD (i + j) 0 + acc.getD i 0 * bt r (j : Int)) (by omega) (by omega), w64 (n := (j : Int) + 1) (by omega) (by omega), show (j : Int) + 1 = ((j + 1 : Nat) : Int) by omega]
      exact g4 k
/-- A number times another. -/
theorem mul_all (key b r : ByteArray) (at_ : Int) (acc : List Int) (hr : r.size = 16) (hacc : acc.length = 18) (hab : ∀ j, 0 ≤ acc.getD j 0 ∧ acc.getD j 0 ≤ 510) : ∀ (d i : Nat) (pr : List Int), d = 18 - i → i ≤ 18 → pr.length = 34 →
    (∀ m, 0 ≤ pr.getD m 0 ∧ pr.getD m 0 ≤ 130050 * (16 * (i : Int))) →
    ∃ pr', pr'.length = 34 ∧ Ok pr' ∧ V pr' = V pr + 256 ^ i * (V (acc.drop i) * N16 r) ∧
      ∀ k, escutcheonref1_Tag.l2 (k + 1 + 18 * d) key b r acc at_ pr (i : Int) = (escutcheonref1_fold.f k pr').bind fun t => escutcheonref1_Tag.l0 k key b r t (wrap64 (at_ + 16))
  | 0, i, pr, hd, hi, hl, hb => by
    obtain rfl : i = 18 := by omega
    refine ⟨pr, hl, ?_, by rw [List.drop_of_length_le (by omega), V, Int.zero_mul, Int.mul_zero, Int.add_zero], fun k => ?_⟩
    · intro x hx
      obtain ⟨j, hj, rfl⟩ := List.getElem_of_mem hx
      have := hb j
      rw [List.getD_eq_getElem?_getD, List.getElem?_eq_getElem hj] at this
      simp only [Option.getD_some] at this
      omega
    · show escutcheonref1_Tag.l2 (k + 1) key b r acc at_ pr ((18 : Nat) : Int) = _
      rw [escutcheonref1_Tag.l2, if_neg (by omega)]
  | d + 1, i, pr, hd, hi, hl, hb => by
    obtain ⟨p1, m1, m2, m3, m4⟩ := mul_row key b r at_ acc hr hacc hab i (by omega) 16 0 pr rfl (by decide) hl (by intro m; have := hb m; omega)
    obtain ⟨p2, g1, g2, g3, g4⟩ := mul_all key b r at_ acc hr hacc hab d (i + 1) p1 (by omega) (by omega) m1 (by intro m; have := m2 m; omega)
    refine ⟨p2, g1, g2, ?_, fun k => ?_⟩
    · rw [g3, m3, drop_getD acc i (by omega), V, Nat.add_zero, show RA r 0 = N16 r from rfl, Int.pow_succ]
      generalize (256 : Int) ^ i = q
      generalize N16 r = v
      generalize V (acc.drop (i + 1)) = w
      generalize acc.getD i 0 = a
      grind
    · rw [show k + 1 + 18 * (d + 1) = (k + 1 + 18 * d) + 1 + 16 + 1 by omega, escutcheonref1_Tag.l2, if_pos (by omega)]
      have := m4 (k + 1 + 18 * d)
      rw [show ((0 : Nat) : Int) = 0 from rfl] at this
      rw [this]
      exact g4 k
end Go.Proofs.Ytagoibmemonkaaa.B
