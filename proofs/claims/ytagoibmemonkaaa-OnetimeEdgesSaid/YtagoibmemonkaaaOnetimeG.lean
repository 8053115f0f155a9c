/- The value of five limbs: a block, a sum. -/
import Derived.Test.YtagoibmemonkaaaOnetimeF
namespace Go.Proofs.Ytagoibmemonkaaa.B
open Go.RowKit Go.Proofs.Ytagoibmemonkaaa.P Go.Proofs.YtagoibmemonkaaaW.PrintWords Go.Proofs.YtagoibmemonkaaaW.PrintLast Go.Proofs.YtagoibmemonkaaaW.PrintMore
set_option linter.unusedVariables false
set_option linter.unusedSimpArgs false

theorem plus_eq {x y : List Int} (hx : Norm x) (hy : Norm y) : Small (onetime_number_plus.f x y) ∧ val (onetime_number_plus.f x y) = val x + val y := by
  obtain ⟨lx, bx⟩ := hx
  obtain ⟨ly, by_⟩ := hy
  match x, y, lx, ly with
  | [a, b, c, d, e], [f, g, h, i, j], _, _ =>
    have a0 : 0 ≤ a ∧ a < 67108864 := bx 0
    have a1 : 0 ≤ b ∧ b < 67108864 := bx 1
    have a2 : 0 ≤ c ∧ c < 67108864 := bx 2
    have a3 : 0 ≤ d ∧ d < 67108864 := bx 3
    have a4 : 0 ≤ e ∧ e < 67108864 := bx 4
    have b0 : 0 ≤ f ∧ f < 67108864 := by_ 0
    have b1 : 0 ≤ g ∧ g < 67108864 := by_ 1
    have b2 : 0 ≤ h ∧ h < 67108864 := by_ 2
    have b3 : 0 ≤ i ∧ i < 67108864 := by_ 3
    have b4 : 0 ≤ j ∧ j < 67108864 := by_ 4
    have hf : onetime_number_plus.f [a, b, c, d, e] [f, g, h, i, j] = [a + f, b + g, c + h, d + i, e + j] := by
      show [IntKind.u64.wrap (a + f), IntKind.u64.wrap (b + g), IntKind.u64.wrap (c + h), IntKind.u64.wrap (d + i), IntKind.u64.wrap (e + j)] = _
      rw [wu64 (n := a + f) (by omega) (by omega), wu64 (n := b + g) (by omega) (by omega), wu64 (n := c + h) (by omega) (by omega), wu64 (n := d + i) (by omega) (by omega), wu64 (n := e + j) (by omega) (by omega)]
    rw [hf]
    refine ⟨⟨rfl, fun i => ?_⟩, by rw [val5, val5, val5]; omega⟩
    match i with
    | 0 => show 0 ≤ a + f ∧ a + f < _; omega
    | 1 => show 0 ≤ b + g ∧ b + g < _; omega
    | 2 => show 0 ≤ c + h ∧ c + h < _; omega
    | 3 => show 0 ≤ d + _ ∧ d + _ < _; omega
    | 4 => show 0 ≤ e + j ∧ e + j < _; omega
    | n + 5 => exact ⟨by show (0 : Int) ≤ 0; decide, by show (0 : Int) < _; decide⟩
theorem or_swap (x y : Int) : Go.bits .or .u64 x y = Go.bits .or .u64 y x := by simp only [Go.bits, BitVec.or_comm]
theorem split_eq (lo hi top : Int) (hl : 0 ≤ lo ∧ lo < 18446744073709551616) (hh : 0 ≤ hi ∧ hi < 18446744073709551616) (ht : 0 ≤ top ∧ top ≤ 1) :
    Norm (onetime_split.f lo hi top) ∧ val (onetime_split.f lo hi top) = lo + 18446744073709551616 * hi + 340282366920938463463374607431768211456 * top := by
  have w : IntKind.u64.wrap (hi * 4096) = (hi % 4503599627370496) * 4096 := by rw [wrap_u64]; omega
  have w2 : IntKind.u64.wrap (top * 16777216) = top * 16777216 := wu64 (by omega) (by omega)
  have j2 : Go.bits .or .u64 (lo / 4503599627370496) ((hi % 4503599627370496) * 4096) = (hi % 4503599627370496) * 4096 + lo / 4503599627370496 := by
    rw [or_swap]
    exact bits_join .u64 64 (by decide) wraps_u64 12 _ _ (by omega) (by omega) (by omega) (by omega) (by omega) (by omega)
  have j4 : Go.bits .or .u64 (hi / 1099511627776) (top * 16777216) = top * 16777216 + hi / 1099511627776 := by
    rw [or_swap]
    exact bits_join .u64 64 (by decide) wraps_u64 24 _ _ (by omega) (by omega) (by omega) (by omega) (by omega) (by omega)
  have hs : onetime_split.f lo hi top = [lo % 67108864, lo / 67108864 % 67108864, ((hi % 4503599627370496) * 4096 + lo / 4503599627370496) % 67108864, hi / 16384 % 67108864, top * 16777216 + hi / 1099511627776] := by
    unfold onetime_split.f
    rw [w, w2, j2, j4, and26 _ (by omega) (by omega), and26 _ (by omega) (by omega), and26 _ (by omega) (by omega), and26 _ (by omega) (by omega)]
  rw [hs]
  refine ⟨norm5 _ _ _ _ _ (by omega) (by omega) (by omega) (by omega) (by omega), ?_⟩
  rw [val5]
  omega
theorem whole_eq (x : List Int) (hx : Norm x) : Norm (onetime_number_whole.f x) ∧ val (onetime_number_whole.f x) = val x % 1361129467683753853853498429727072845819 := by
  obtain ⟨lx, bx⟩ := hx
  match x, lx with
  | [a, b, c, d, e], _ =>
    have a0 : 0 ≤ a ∧ a < 67108864 := bx 0
    have a1 : 0 ≤ b ∧ b < 67108864 := bx 1
    have a2 : 0 ≤ c ∧ c < 67108864 := bx 2
    have a3 : 0 ≤ d ∧ d < 67108864 := bx 3
    have a4 : 0 ≤ e ∧ e < 67108864 := bx 4
    obtain ⟨v0, v1, v2, v3, v4, q, hv, hq, hval, n0, n1, n2, n3, n4⟩ := carry_eq a b c d e (by omega) (by omega) (by omega) (by omega) (by omega)
    obtain ⟨w0, w1, w2, w3, w4, c0, c1, c2, c3, c4, hw, ⟨r0, r1, r2, r3, r4⟩, m0, m1, m2, m3, m4⟩ := inner_eq v0 v1 v2 v3 v4 5 (by omega) (by omega) (by omega) (by omega) (by omega) (by omega)
    unfold onetime_number_whole.f
    rw [hv, hw]
    simp only
    rw [hval, Int.add_mul_emod_self_left]
    have h5 : val [v0, v1, v2, v3, v4] + 5 = val [w0, w1, w2, w3, w4] + 1361129467683753853853498429727072845824 * c4 := by rw [val5, val5]; omega
    have hb : 0 ≤ val [v0, v1, v2, v3, v4] ∧ val [v0, v1, v2, v3, v4] < 1361129467683753853853498429727072845824 := by rw [val5]; omega
    have hb2 : 0 ≤ val [w0, w1, w2, w3, w4] ∧ val [w0, w1, w2, w3, w4] < 1361129467683753853853498429727072845824 := by rw [val5]; omega
    split
    · exact ⟨norm5 _ _ _ _ _ m0 m1 m2 m3 m4, by omega⟩
    · exact ⟨norm5 _ _ _ _ _ n0 n1 n2 n3 n4, by omega⟩
theorem low_high (s : List Int) (hs : Norm s) : onetime_Tag.low s + 18446744073709551616 * onetime_Tag.high s = val s % 340282366920938463463374607431768211456 := by
  obtain ⟨ls, bs⟩ := hs
  match s, ls with
  | [a, b, c, d, e], _ =>
    have a0 : 0 ≤ a ∧ a < 67108864 := bs 0
    have a1 : 0 ≤ b ∧ b < 67108864 := bs 1
    have a2 : 0 ≤ c ∧ c < 67108864 := bs 2
    have a3 : 0 ≤ d ∧ d < 67108864 := bs 3
    have a4 : 0 ≤ e ∧ e < 67108864 := bs 4
    have hl : onetime_Tag.low [a, b, c, d, e] = (c % 4096) * 4503599627370496 + (b * 67108864 + a) := by
      show Go.bits .or .u64 (Go.bits .or .u64 a (IntKind.u64.wrap (b * 67108864))) (IntKind.u64.wrap (c * 4503599627370496)) = _
      rw [wu64 (n := b * 67108864) (by omega) (by omega), show IntKind.u64.wrap (c * 4503599627370496) = (c % 4096) * 4503599627370496 by rw [wrap_u64]; omega]
      rw [or_swap a, show Go.bits .or .u64 (b * 67108864) a = b * 67108864 + a from bits_join .u64 64 (by decide) wraps_u64 26 _ _ (by omega) (by omega) (by omega) (by omega) (by omega) (by omega)]
      rw [or_swap]
      exact bits_join .u64 64 (by decide) wraps_u64 52 _ _ (by omega) (by omega) (by omega) (by omega) (by omega) (by omega)
    have hh : onetime_Tag.high [a, b, c, d, e] = (e % 16777216) * 1099511627776 + (d * 16384 + c / 4096) := by
      show Go.bits .or .u64 (Go.bits .or .u64 (c / 4096) (IntKind.u64.wrap (d * 16384))) (IntKind.u64.wrap (e * 1099511627776)) = _
      rw [wu64 (n := d * 16384) (by omega) (by omega), show IntKind.u64.wrap (e * 1099511627776) = (e % 16777216) * 1099511627776 by rw [wrap_u64]; omega]
      rw [or_swap (c / 4096), show Go.bits .or .u64 (d * 16384) (c / 4096) = d * 16384 + c / 4096 from bits_join .u64 64 (by decide) wraps_u64 14 _ _ (by omega) (by omega) (by omega) (by omega) (by omega) (by omega)]
      rw [or_swap]
      exact bits_join .u64 64 (by decide) wraps_u64 40 _ _ (by omega) (by omega) (by omega) (by omega) (by omega) (by omega)
    rw [hl, hh, val5]
    omega
end Go.Proofs.Ytagoibmemonkaaa.B
