/- The value of five limbs: the product. -/
import Derived.Test.YtagoibmemonkaaaOnetimeD
namespace Go.Proofs.Ytagoibmemonkaaa.B
open Go.RowKit Go.Proofs.Ytagoibmemonkaaa.P Go.Proofs.YtagoibmemonkaaaW.PrintWords Go.Proofs.YtagoibmemonkaaaW.PrintLast Go.Proofs.YtagoibmemonkaaaW.PrintMore
set_option linter.unusedVariables false
set_option linter.unusedSimpArgs false

def Small (x : List Int) : Prop := x.length = 5 ∧ ∀ i, 0 ≤ x.getD i 0 ∧ x.getD i 0 < 134217728
def Tm (x y : List Int) (i j : Nat) : Int := if j ≤ i then x.getD j 0 * y.getD (i - j) 0 else 5 * (x.getD j 0 * y.getD (5 + i - j) 0)
theorem prod_bd {a b : Int} (ha : 0 ≤ a ∧ a < 134217728) (hb : 0 ≤ b ∧ b < 134217728) : 0 ≤ a * b ∧ a * b ≤ 18014398509481984 := by
  refine ⟨Int.mul_nonneg ha.1 hb.1, ?_⟩
  have := Int.mul_le_mul (show a ≤ 134217728 by omega) (show b ≤ 134217728 by omega) hb.1 (by decide)
  omega
theorem Tm_bd {x y : List Int} (hx : Small x) (hy : Small y) (i j : Nat) : 0 ≤ Tm x y i j ∧ Tm x y i j ≤ 90071992547409920 := by
  unfold Tm
  split
  · have := prod_bd (hx.2 j) (hy.2 (i - j)); omega
  · have := prod_bd (hx.2 j) (hy.2 (5 + i - j)); omega
theorem step_mul {x y : List Int} (hx : Small x) (hy : Small y) (i j : Nat) (o : List Int) (ho : 0 ≤ o.getD i 0 ∧ o.getD i 0 ≤ 9000000000000000000) :
    onetime_number_times.step x y i j o = o.set i (o.getD i 0 + Tm x y i j) := by
  unfold onetime_number_times.step
  have hb := Tm_bd hx hy i j
  congr 1
  unfold Tm at hb ⊢
  split
  · rename_i h
    rw [if_pos h] at hb
    have := prod_bd (hx.2 j) (hy.2 (i - j))
    rw [wu64 (n := x.getD j 0 * y.getD (i - j) 0) (by omega) (by omega), wu64 (by omega) (by omega)]
  · rename_i h
    rw [if_neg h] at hb
    have := prod_bd (hx.2 j) (hy.2 (5 + i - j))
    rw [wu64 (n := x.getD j 0 * y.getD (5 + i - j) 0) (by omega) (by omega), wu64 (n := x.getD j 0 * y.getD (5 + i - j) 0 * 5) (by omega) (by omega), wu64 (by omega) (by omega)]
    omega
theorem getD_set (o : List Int) (i : Nat) (v : Int) (h : i < o.length) : (o.set i v).getD i 0 = v := by
  rw [List.getD_eq_getElem?_getD, List.getElem?_set_self h]; rfl
theorem inner_mul {x y : List Int} (hx : Small x) (hy : Small y) (i : Nat) (o : List Int) (hi : i < o.length) (ho : o.getD i 0 = 0) :
    onetime_number_times.inner x y i 5 0 o = o.set i (Tm x y i 0 + Tm x y i 1 + Tm x y i 2 + Tm x y i 3 + Tm x y i 4) := by
  have b0 := Tm_bd hx hy i 0
  have b1 := Tm_bd hx hy i 1
  have b2 := Tm_bd hx hy i 2
  have b3 := Tm_bd hx hy i 3
  have b4 := Tm_bd hx hy i 4
  rw [onetime_number_times.inner, step_mul hx hy i 0 o (by omega), ho, Int.zero_add]
  show onetime_number_times.inner x y i 4 1 _ = _
  rw [onetime_number_times.inner, step_mul hx hy i 1 _ (by rw [getD_set _ _ _ hi]; omega), getD_set _ _ _ hi, List.set_set]
  show onetime_number_times.inner x y i 3 2 _ = _
  rw [onetime_number_times.inner, step_mul hx hy i 2 _ (by rw [getD_set _ _ _ hi]; omega), getD_set _ _ _ hi, List.set_set]
  show onetime_number_times.inner x y i 2 3 _ = _
  rw [onetime_number_times.inner, step_mul hx hy i 3 _ (by rw [getD_set _ _ _ hi]; omega), getD_set _ _ _ hi, List.set_set]
  show onetime_number_times.inner x y i 1 4 _ = _
  rw [onetime_number_times.inner, step_mul hx hy i 4 _ (by rw [getD_set _ _ _ hi]; omega), getD_set _ _ _ hi, List.set_set]
  rfl
theorem outer_mul {x y : List Int} (hx : Small x) (hy : Small y) : ∃ o0 o1 o2 o3 o4 : Int, onetime_number_times.outer x y 5 0 (List.replicate 5 0) = [o0, o1, o2, o3, o4]
    ∧ (o0 = Tm x y 0 0 + Tm x y 0 1 + Tm x y 0 2 + Tm x y 0 3 + Tm x y 0 4)
    ∧ (o1 = Tm x y 1 0 + Tm x y 1 1 + Tm x y 1 2 + Tm x y 1 3 + Tm x y 1 4)
    ∧ (o2 = Tm x y 2 0 + Tm x y 2 1 + Tm x y 2 2 + Tm x y 2 3 + Tm x y 2 4)
    ∧ (o3 = Tm x y 3 0 + Tm x y 3 1 + Tm x y 3 2 + Tm x y 3 3 + Tm x y 3 4)
    ∧ (o4 = Tm x y 4 0 + Tm x y 4 1 + Tm x y 4 2 + Tm x y 4 3 + Tm x y 4 4) := by
  refine ⟨_, _, _, _, _, ?_, rfl, rfl, rfl, rfl, rfl⟩
  rw [onetime_number_times.outer, inner_mul hx hy 0 _ (by decide) rfl]
  generalize Tm x y 0 0 + Tm x y 0 1 + Tm x y 0 2 + Tm x y 0 3 + Tm x y 0 4 = o0
  show onetime_number_times.outer x y 4 1 [o0, 0, 0, 0, 0] = _
  rw [onetime_number_times.outer, inner_mul hx hy 1 _ (by simp) rfl]
  generalize Tm x y 1 0 + Tm x y 1 1 + Tm x y 1 2 + Tm x y 1 3 + Tm x y 1 4 = o1
  show onetime_number_times.outer x y 3 2 [o0, o1, 0, 0, 0] = _
  rw [onetime_number_times.outer, inner_mul hx hy 2 _ (by simp) rfl]
  generalize Tm x y 2 0 + Tm x y 2 1 + Tm x y 2 2 + Tm x y 2 3 + Tm x y 2 4 = o2
  show onetime_number_times.outer x y 2 3 [o0, o1, o2, 0, 0] = _
  rw [onetime_number_times.outer, inner_mul hx hy 3 _ (by simp) rfl]
  generalize Tm x y 3 0 + Tm x y 3 1 + Tm x y 3 2 + Tm x y 3 3 + Tm x y 3 4 = o3
  show onetime_number_times.outer x y 1 4 [o0, o1, o2, o3, 0] = _
  rw [onetime_number_times.outer, inner_mul hx hy 4 _ (by simp) rfl]
  rfl
end Go.Proofs.Ytagoibmemonkaaa.B
