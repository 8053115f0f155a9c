/- The value of five limbs: carry. -/
import Derived.Test.YtagoibmemonkaaaOnetimeC
namespace Go.Proofs.Ytagoibmemonkaaa.B
open Go.RowKit Go.Proofs.Ytagoibmemonkaaa.P Go.Proofs.YtagoibmemonkaaaW.PrintWords Go.Proofs.YtagoibmemonkaaaW.PrintLast Go.Proofs.YtagoibmemonkaaaW.PrintMore
set_option linter.unusedVariables false
set_option linter.unusedSimpArgs false

theorem and26 (x : Int) (h : 0 ≤ x) (h2 : x < 18446744073709551616) : Go.bits .and .u64 x 67108863 = x % 67108864 := bits_mask .u64 64 (by decide) wraps_u64 26 (by decide) x h (by omega)
theorem step_eq (x : List Int) (i : Nat) (c : Int) (h : 0 ≤ x.getD i 0 + c) (h2 : x.getD i 0 + c < 18446744073709551616) : onetime_number_carry.step x i c = x.set i ((x.getD i 0 + c) % 67108864) ∧ onetime_number_carry.out x i c = (x.getD i 0 + c) / 67108864 := by
  unfold onetime_number_carry.step onetime_number_carry.out
  rw [wu64 h h2, and26 _ h h2, List.set_set]
  exact ⟨rfl, rfl⟩
theorem inner_eq (a b c d e f : Int) (ha : 0 ≤ a ∧ a < 9223372036854775808) (hb : 0 ≤ b ∧ b < 9223372036854775808) (hc : 0 ≤ c ∧ c < 9223372036854775808) (hd : 0 ≤ d ∧ d < 9223372036854775808) (he : 0 ≤ e ∧ e < 9223372036854775808) (hf : 0 ≤ f ∧ f < 100) :
    ∃ v0 v1 v2 v3 v4 c0 c1 c2 c3 c4 : Int, onetime_number_carry.inner 5 0 [a, b, c, d, e] f = ([v0, v1, v2, v3, v4], c4)
      ∧ (a + f = v0 + 67108864 * c0 ∧ b + c0 = v1 + 67108864 * c1 ∧ c + c1 = v2 + 67108864 * c2 ∧ d + c2 = v3 + 67108864 * c3 ∧ e + c3 = v4 + 67108864 * c4)
      ∧ (0 ≤ v0 ∧ v0 < 67108864) ∧ (0 ≤ v1 ∧ v1 < 67108864) ∧ (0 ≤ v2 ∧ v2 < 67108864) ∧ (0 ≤ v3 ∧ v3 < 67108864) ∧ (0 ≤ v4 ∧ v4 < 67108864) := by
  obtain ⟨t0, ht0⟩ : ∃ t, a + f = t := ⟨_, rfl⟩
  obtain ⟨t1, ht1⟩ : ∃ t, b + t0 / 67108864 = t := ⟨_, rfl⟩
  obtain ⟨t2, ht2⟩ : ∃ t, c + t1 / 67108864 = t := ⟨_, rfl⟩
  obtain ⟨t3, ht3⟩ : ∃ t, d + t2 / 67108864 = t := ⟨_, rfl⟩
  obtain ⟨t4, ht4⟩ : ∃ t, e + t3 / 67108864 = t := ⟨_, rfl⟩
  refine ⟨t0 % 67108864, t1 % 67108864, t2 % 67108864, t3 % 67108864, t4 % 67108864, t0 / 67108864, t1 / 67108864, t2 / 67108864, t3 / 67108864, t4 / 67108864, ?_, by omega, by omega, by omega, by omega, by omega, by omega⟩
  have s0 := step_eq [a, b, c, d, e] 0 f (by show 0 ≤ a + f; omega) (by show a + f < _; omega)
  rw [show ([a, b, c, d, e] : List Int).getD 0 0 = a from rfl, ht0] at s0
  have s1 := step_eq [t0 % 67108864, b, c, d, e] 1 (t0 / 67108864) (by show 0 ≤ b + _; omega) (by show b + _ < _; omega)
  rw [show ([t0 % 67108864, b, c, d, e] : List Int).getD 1 0 = b from rfl, ht1] at s1
  have s2 := step_eq [t0 % 67108864, t1 % 67108864, c, d, e] 2 (t1 / 67108864) (by show 0 ≤ c + _; omega) (by show c + _ < _; omega)
  rw [show ([t0 % 67108864, t1 % 67108864, c, d, e] : List Int).getD 2 0 = c from rfl, ht2] at s2
  have s3 := step_eq [t0 % 67108864, t1 % 67108864, t2 % 67108864, d, e] 3 (t2 / 67108864) (by show 0 ≤ d + _; omega) (by show d + _ < _; omega)
  rw [show ([t0 % 67108864, t1 % 67108864, t2 % 67108864, d, e] : List Int).getD 3 0 = d from rfl, ht3] at s3
  have s4 := step_eq [t0 % 67108864, t1 % 67108864, t2 % 67108864, t3 % 67108864, e] 4 (t3 / 67108864) (by show 0 ≤ e + _; omega) (by show e + _ < _; omega)
  rw [show ([t0 % 67108864, t1 % 67108864, t2 % 67108864, t3 % 67108864, e] : List Int).getD 4 0 = e from rfl, ht4] at s4
  rw [onetime_number_carry.inner, s0.1, s0.2]
  show onetime_number_carry.inner 4 1 [t0 % 67108864, b, c, d, e] (t0 / 67108864) = _
  rw [onetime_number_carry.inner, s1.1, s1.2]
  show onetime_number_carry.inner 3 2 [t0 % 67108864, t1 % 67108864, c, d, e] (t1 / 67108864) = _
  rw [onetime_number_carry.inner, s2.1, s2.2]
  show onetime_number_carry.inner 2 3 [t0 % 67108864, t1 % 67108864, t2 % 67108864, d, e] (t2 / 67108864) = _
  rw [onetime_number_carry.inner, s3.1, s3.2]
  show onetime_number_carry.inner 1 4 [t0 % 67108864, t1 % 67108864, t2 % 67108864, t3 % 67108864, e] (t3 / 67108864) = _
  rw [onetime_number_carry.inner, s4.1, s4.2]
  rfl
def val (x : List Int) : Int := x.getD 0 0 + 67108864 * x.getD 1 0 + 4503599627370496 * x.getD 2 0 + 302231454903657293676544 * x.getD 3 0 + 20282409603651670423947251286016 * x.getD 4 0
def P130 : Int := 1361129467683753853853498429727072845819
theorem val5 (a b c d e : Int) : val [a, b, c, d, e] = a + 67108864 * b + 4503599627370496 * c + 302231454903657293676544 * d + 20282409603651670423947251286016 * e := rfl
theorem pass_eq (a b c d e : Int) (ha : 0 ≤ a ∧ a < 9223372036854775808) (hb : 0 ≤ b ∧ b < 9223372036854775808) (hc : 0 ≤ c ∧ c < 9223372036854775808) (hd : 0 ≤ d ∧ d < 9223372036854775808) (he : 0 ≤ e ∧ e < 9223372036854775808) :
    ∃ v0 v1 v2 v3 v4 c0 c1 c2 c3 c4 : Int, onetime_number_carry.pass [a, b, c, d, e] = [v0 + 5 * c4, v1, v2, v3, v4]
      ∧ (a = v0 + 67108864 * c0 ∧ b + c0 = v1 + 67108864 * c1 ∧ c + c1 = v2 + 67108864 * c2 ∧ d + c2 = v3 + 67108864 * c3 ∧ e + c3 = v4 + 67108864 * c4)
      ∧ (0 ≤ v0 ∧ v0 < 67108864) ∧ (0 ≤ v1 ∧ v1 < 67108864) ∧ (0 ≤ v2 ∧ v2 < 67108864) ∧ (0 ≤ v3 ∧ v3 < 67108864) ∧ (0 ≤ v4 ∧ v4 < 67108864) := by
  obtain ⟨v0, v1, v2, v3, v4, c0, c1, c2, c3, c4, h, ⟨r0, r1, r2, r3, r4⟩, b0, b1, b2, b3, b4⟩ := inner_eq a b c d e 0 ha hb hc hd he (by omega)
  refine ⟨v0, v1, v2, v3, v4, c0, c1, c2, c3, c4, ?_, ⟨by omega, r1, r2, r3, r4⟩, b0, b1, b2, b3, b4⟩
  unfold onetime_number_carry.pass
  rw [h]
  show [IntKind.u64.wrap (v0 + IntKind.u64.wrap (c4 * 5)), v1, v2, v3, v4] = _
  rw [wu64 (n := c4 * 5) (by omega) (by omega), wu64 (by omega) (by omega), Int.mul_comm]
theorem carry_eq (a b c d e : Int) (ha : 0 ≤ a ∧ a < 9223372036854775808) (hb : 0 ≤ b ∧ b < 9223372036854775808) (hc : 0 ≤ c ∧ c < 9223372036854775808) (hd : 0 ≤ d ∧ d < 9223372036854775808) (he : 0 ≤ e ∧ e < 9223372036854775808) :
    ∃ v0 v1 v2 v3 v4 q : Int, onetime_number_carry.f [a, b, c, d, e] = [v0, v1, v2, v3, v4] ∧ 0 ≤ q ∧ val [a, b, c, d, e] = val [v0, v1, v2, v3, v4] + 1361129467683753853853498429727072845819 * q
      ∧ (0 ≤ v0 ∧ v0 < 67108864) ∧ (0 ≤ v1 ∧ v1 < 67108864) ∧ (0 ≤ v2 ∧ v2 < 67108864) ∧ (0 ≤ v3 ∧ v3 < 67108864) ∧ (0 ≤ v4 ∧ v4 < 67108864) := by
  obtain ⟨v0, v1, v2, v3, v4, c0, c1, c2, c3, c4, h, ⟨r0, r1, r2, r3, r4⟩, b0, b1, b2, b3, b4⟩ := pass_eq a b c d e ha hb hc hd he
  have k0 : 0 ≤ c0 ∧ c0 < 137438953472 := by omega
  have k1 : 0 ≤ c1 ∧ c1 < 137438957000 := by omega
  have k2 : 0 ≤ c2 ∧ c2 < 137438957000 := by omega
  have k3 : 0 ≤ c3 ∧ c3 < 137438957000 := by omega
  have k4 : 0 ≤ c4 ∧ c4 < 137438957000 := by omega
  obtain ⟨A, hA⟩ : ∃ A, v0 + 5 * c4 = A := ⟨_, rfl⟩
  have bA : 0 ≤ A ∧ A < 687261900000 := by omega
  have e1 : val [a, b, c, d, e] = val [A, v1, v2, v3, v4] + 1361129467683753853853498429727072845819 * c4 := by rw [val5, val5]; omega
  rw [hA] at h
  clear r0 r1 r2 r3 r4 k0 k1 k2 k3 hA b0
  obtain ⟨w0, w1, w2, w3, w4, d0, d1, d2, d3, d4, h2, ⟨s0, s1, s2, s3, s4⟩, q0, q1, q2, q3, q4⟩ := pass_eq A v1 v2 v3 v4 (by omega) (by omega) (by omega) (by omega) (by omega)
  have l0 : 0 ≤ d0 ∧ d0 < 10242 := by omega
  have l1 : 0 ≤ d1 ∧ d1 ≤ 1 := by omega
  have l2 : 0 ≤ d2 ∧ d2 ≤ 1 := by omega
  have l3 : 0 ≤ d3 ∧ d3 ≤ 1 := by omega
  have l4 : 0 ≤ d4 ∧ d4 ≤ 1 := by omega
  obtain ⟨B, hB⟩ : ∃ B, w0 + 5 * d4 = B := ⟨_, rfl⟩
  have bB : 0 ≤ B ∧ B < 67108869 := by omega
  have e2 : val [A, v1, v2, v3, v4] = val [B, w1, w2, w3, w4] + 1361129467683753853853498429727072845819 * d4 := by rw [val5, val5]; omega
  rw [hB] at h2
  clear s0 s1 s2 s3 s4 l0 l1 l2 l3 hB q0 b1 b2 b3 b4 bA
  obtain ⟨x0, x1, x2, x3, x4, f0, f1, f2, f3, f4, h3, ⟨t0, t1, t2, t3, t4⟩, p0, p1, p2, p3, p4⟩ := pass_eq B w1 w2 w3 w4 (by omega) (by omega) (by omega) (by omega) (by omega)
  have m0 : 0 ≤ f0 ∧ f0 ≤ 1 := by omega
  have m1 : 0 ≤ f1 ∧ f1 ≤ 1 := by omega
  have m2 : 0 ≤ f2 ∧ f2 ≤ 1 := by omega
  have m3 : 0 ≤ f3 ∧ f3 ≤ 1 := by omega
  have m4 : 0 ≤ f4 ∧ f4 ≤ 1 := by omega
  have e3 : val [B, w1, w2, w3, w4] = val [x0 + 5 * f4, x1, x2, x3, x4] + 1361129467683753853853498429727072845819 * f4 := by rw [val5, val5]; omega
  refine ⟨x0 + 5 * f4, x1, x2, x3, x4, c4 + d4 + f4, ?_, by omega, by omega, ⟨by omega, ?_⟩, p1, p2, p3, p4⟩
  · unfold onetime_number_carry.f
    rw [onetime_number_carry.passes, h, onetime_number_carry.passes, h2, onetime_number_carry.passes, h3, onetime_number_carry.passes]
  · by_cases hf : f4 = 0
    · omega
    · have g4 : f3 = 1 := by omega
      have g3 : f2 = 1 := by omega
      have g2 : f1 = 1 := by omega
      have g1 : f0 = 1 := by omega
      omega
end Go.Proofs.Ytagoibmemonkaaa.B
