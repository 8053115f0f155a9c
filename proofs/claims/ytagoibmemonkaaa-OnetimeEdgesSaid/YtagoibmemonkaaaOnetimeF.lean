/- The value of five limbs: times. -/
import Derived.Test.YtagoibmemonkaaaOnetimeE
namespace Go.Proofs.Ytagoibmemonkaaa.B
open Go.RowKit Go.Proofs.Ytagoibmemonkaaa.P Go.Proofs.YtagoibmemonkaaaW.PrintWords Go.Proofs.YtagoibmemonkaaaW.PrintLast Go.Proofs.YtagoibmemonkaaaW.PrintMore
set_option linter.unusedVariables false
set_option linter.unusedSimpArgs false

theorem prod_id (x0 x1 x2 x3 x4 y0 y1 y2 y3 y4 : Int) :
    (x0 + 67108864 * x1 + 4503599627370496 * x2 + 302231454903657293676544 * x3 + 20282409603651670423947251286016 * x4) * (y0 + 67108864 * y1 + 4503599627370496 * y2 + 302231454903657293676544 * y3 + 20282409603651670423947251286016 * y4) =
      (x0 * y0 + 5 * (x1 * y4) + 5 * (x2 * y3) + 5 * (x3 * y2) + 5 * (x4 * y1))
      + 67108864 * (x0 * y1 + x1 * y0 + 5 * (x2 * y4) + 5 * (x3 * y3) + 5 * (x4 * y2))
      + 4503599627370496 * (x0 * y2 + x1 * y1 + x2 * y0 + 5 * (x3 * y4) + 5 * (x4 * y3))
      + 302231454903657293676544 * (x0 * y3 + x1 * y2 + x2 * y1 + x3 * y0 + 5 * (x4 * y4))
      + 20282409603651670423947251286016 * (x0 * y4 + x1 * y3 + x2 * y2 + x3 * y1 + x4 * y0)
      + 1361129467683753853853498429727072845819 * ((x1 * y4 + x2 * y3 + x3 * y2 + x4 * y1) + 67108864 * (x2 * y4 + x3 * y3 + x4 * y2) + 4503599627370496 * (x3 * y4 + x4 * y3) + 302231454903657293676544 * (x4 * y4)) := by
  grind
def Norm (x : List Int) : Prop := x.length = 5 ∧ ∀ i, 0 ≤ x.getD i 0 ∧ x.getD i 0 < 67108864
theorem norm5 (a b c d e : Int) (ha : 0 ≤ a ∧ a < 67108864) (hb : 0 ≤ b ∧ b < 67108864) (hc : 0 ≤ c ∧ c < 67108864) (hd : 0 ≤ d ∧ d < 67108864) (he : 0 ≤ e ∧ e < 67108864) : Norm [a, b, c, d, e] := by
  refine ⟨rfl, fun i => ?_⟩
  match i with
  | 0 => exact ha
  | 1 => exact hb
  | 2 => exact hc
  | 3 => exact hd
  | 4 => exact he
  | n + 5 => exact ⟨by show (0 : Int) ≤ 0; decide, by show (0 : Int) < _; decide⟩
theorem Norm.small {x : List Int} (h : Norm x) : Small x := ⟨h.1, fun i => ⟨(h.2 i).1, by have := (h.2 i).2; omega⟩⟩
theorem times_eq {x y : List Int} (hx : Small x) (hy : Small y) : ∃ q : Int, Norm (onetime_number_times.f x y) ∧ 0 ≤ q ∧ val x * val y = val (onetime_number_times.f x y) + 1361129467683753853853498429727072845819 * q := by
  obtain ⟨o0, o1, o2, o3, o4, ho, e0, e1, e2, e3, e4⟩ := outer_mul hx hy
  have hb := fun i j => Tm_bd hx hy i j
  have B0 : 0 ≤ o0 ∧ o0 < 9223372036854775808 := by have := hb 0 0; have := hb 0 1; have := hb 0 2; have := hb 0 3; have := hb 0 4; omega
  have B1 : 0 ≤ o1 ∧ o1 < 9223372036854775808 := by have := hb 1 0; have := hb 1 1; have := hb 1 2; have := hb 1 3; have := hb 1 4; omega
  have B2 : 0 ≤ o2 ∧ o2 < 9223372036854775808 := by have := hb 2 0; have := hb 2 1; have := hb 2 2; have := hb 2 3; have := hb 2 4; omega
  have B3 : 0 ≤ o3 ∧ o3 < 9223372036854775808 := by have := hb 3 0; have := hb 3 1; have := hb 3 2; have := hb 3 3; have := hb 3 4; omega
  have B4 : 0 ≤ o4 ∧ o4 < 9223372036854775808 := by have := hb 4 0; have := hb 4 1; have := hb 4 2; have := hb 4 3; have := hb 4 4; omega
  obtain ⟨v0, v1, v2, v3, v4, q, hv, hq, hval, n0, n1, n2, n3, n4⟩ := carry_eq o0 o1 o2 o3 o4 B0 B1 B2 B3 B4
  have hf : onetime_number_times.f x y = [v0, v1, v2, v3, v4] := by unfold onetime_number_times.f; rw [ho, hv]
  rw [hf]
  have hp := prod_id (x.getD 0 0) (x.getD 1 0) (x.getD 2 0) (x.getD 3 0) (x.getD 4 0) (y.getD 0 0) (y.getD 1 0) (y.getD 2 0) (y.getD 3 0) (y.getD 4 0)
  have p14 := prod_bd (hx.2 1) (hy.2 4)
  have p23 := prod_bd (hx.2 2) (hy.2 3)
  have p32 := prod_bd (hx.2 3) (hy.2 2)
  have p41 := prod_bd (hx.2 4) (hy.2 1)
  have p24 := prod_bd (hx.2 2) (hy.2 4)
  have p33 := prod_bd (hx.2 3) (hy.2 3)
  have p42 := prod_bd (hx.2 4) (hy.2 2)
  have p34 := prod_bd (hx.2 3) (hy.2 4)
  have p43 := prod_bd (hx.2 4) (hy.2 3)
  have p44 := prod_bd (hx.2 4) (hy.2 4)
  rw [val5 o0 o1 o2 o3 o4] at hval
  refine ⟨q + ((x.getD 1 0 * y.getD 4 0 + x.getD 2 0 * y.getD 3 0 + x.getD 3 0 * y.getD 2 0 + x.getD 4 0 * y.getD 1 0) + 67108864 * (x.getD 2 0 * y.getD 4 0 + x.getD 3 0 * y.getD 3 0 + x.getD 4 0 * y.getD 2 0) + 4503599627370496 * (x.getD 3 0 * y.getD 4 0 + x.getD 4 0 * y.getD 3 0) + 302231454903657293676544 * (x.getD 4 0 * y.getD 4 0)), norm5 _ _ _ _ _ n0 n1 n2 n3 n4, by omega, ?_⟩
  have t0 : o0 = x.getD 0 0 * y.getD 0 0 + 5 * (x.getD 1 0 * y.getD 4 0) + 5 * (x.getD 2 0 * y.getD 3 0) + 5 * (x.getD 3 0 * y.getD 2 0) + 5 * (x.getD 4 0 * y.getD 1 0) := e0
  have t1 : o1 = x.getD 0 0 * y.getD 1 0 + x.getD 1 0 * y.getD 0 0 + 5 * (x.getD 2 0 * y.getD 4 0) + 5 * (x.getD 3 0 * y.getD 3 0) + 5 * (x.getD 4 0 * y.getD 2 0) := e1
  have t2 : o2 = x.getD 0 0 * y.getD 2 0 + x.getD 1 0 * y.getD 1 0 + x.getD 2 0 * y.getD 0 0 + 5 * (x.getD 3 0 * y.getD 4 0) + 5 * (x.getD 4 0 * y.getD 3 0) := e2
  have t3 : o3 = x.getD 0 0 * y.getD 3 0 + x.getD 1 0 * y.getD 2 0 + x.getD 2 0 * y.getD 1 0 + x.getD 3 0 * y.getD 0 0 + 5 * (x.getD 4 0 * y.getD 4 0) := e3
  have t4 : o4 = x.getD 0 0 * y.getD 4 0 + x.getD 1 0 * y.getD 3 0 + x.getD 2 0 * y.getD 2 0 + x.getD 3 0 * y.getD 1 0 + x.getD 4 0 * y.getD 0 0 := e4
  have hxy : val x * val y = _ := hp
  rw [hxy, ← t0, ← t1, ← t2, ← t3, ← t4, hval]
  omega
end Go.Proofs.Ytagoibmemonkaaa.B
