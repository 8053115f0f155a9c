/- Words turned. -/
import Derived.Test.YtinojomgdjogdaaBits
import Derived.Test.YtinojomgdjogdaaPx
namespace Go.Proofs.Ytinojomgdjogdaa.B
open Go.RowKit Go.Proofs.Ytinojomgdjogdaa.P Go.Proofs.YtinojomgdjogdaaW.PrintWords Go.Proofs.YtinojomgdjogdaaW.PrintLast Go.Proofs.YtinojomgdjogdaaW.PrintMore
set_option linter.unusedVariables false
set_option linter.unusedSimpArgs false

/-- A word turned to the left by s bits. -/
def rotl (x : Int) (s : Nat) : Int := (((BitVec.ofInt 32 x).rotateLeft s).toNat : Int)
theorem rotl_range (x : Int) (s : Nat) : 0 ≤ rotl x s ∧ rotl x s ≤ 4294967295 := by
  unfold rotl
  have := ((BitVec.ofInt 32 x).rotateLeft s).isLt
  omega
theorem ofInt_rotl (x : Int) (s : Nat) : BitVec.ofInt 32 (rotl x s) = (BitVec.ofInt 32 x).rotateLeft s := by
  unfold rotl
  apply BitVec.eq_of_toNat_eq
  rw [BitVec.ofInt_natCast, BitVec.toNat_ofNat, Nat.mod_eq_of_lt (BitVec.isLt _)]
theorem rotl_mod (x : Int) (s : Nat) : rotl x (s % 32) = rotl x s := by
  unfold rotl
  rw [BitVec.rotateLeft_mod_eq_rotateLeft]
theorem rotl_zero (x : Int) (h : 0 ≤ x ∧ x ≤ 4294967295) : rotl x 0 = x := by
  unfold rotl
  rw [BitVec.rotateLeft_eq_rotateLeftAux_of_lt (by decide)]
  obtain ⟨n, rfl⟩ := Int.eq_ofNat_of_zero_le h.1
  have hn : n < 2 ^ 32 := by omega
  have e : (BitVec.ofInt 32 ((n : Nat) : Int)).rotateLeftAux 0 = BitVec.ofNat 32 n := by
    apply BitVec.eq_of_getLsbD_eq
    intro i hi
    simp [BitVec.rotateLeftAux]
  rw [e, BitVec.toNat_ofNat, Nat.mod_eq_of_lt hn]
theorem rotl_add (x : Int) (s t : Nat) : rotl (rotl x s) t = rotl x (s + t) := by
  unfold rotl
  rw [show BitVec.ofInt 32 ((((BitVec.ofInt 32 x).rotateLeft s).toNat : Nat) : Int) = (BitVec.ofInt 32 x).rotateLeft s from ofInt_rotl x s]
  congr 2
  apply BitVec.eq_of_getLsbD_eq
  intro i hi
  simp only [BitVec.getLsbD_rotateLeft, Bool.cond_decide]
  have hs : s % 32 < 32 := Nat.mod_lt _ (by decide)
  have ht : t % 32 < 32 := Nat.mod_lt _ (by decide)
  have hst : (s + t) % 32 = (s % 32 + t % 32) % 32 := Nat.add_mod s t 32
  rw [hst]
  generalize s % 32 = a at *
  generalize t % 32 = b at *
  have dt : ∀ {p : Prop} [Decidable p] {c : Bool}, p → (decide p && c) = c := fun h => by simp [h]
  by_cases hab : a + b < 32
  · rw [Nat.mod_eq_of_lt hab]
    by_cases h1 : i < b
    · have h2 : ¬ (32 - b + i < a) := by omega
      rw [if_pos h1, if_neg h2, if_pos (show i < a + b by omega), dt (by omega)]
      congr 1; omega
    · rw [if_neg h1, dt hi]
      by_cases h2 : i - b < a
      · rw [if_pos h2, if_pos (show i < a + b by omega)]
        congr 1; omega
      · rw [if_neg h2, if_neg (show ¬ i < a + b by omega), dt (by omega), dt hi]
        congr 1; omega
  · have hm : (a + b) % 32 = a + b - 32 := by rw [Nat.mod_eq_sub_mod (by omega), Nat.mod_eq_of_lt (by omega)]
    rw [hm]
    by_cases h1 : i < b
    · rw [if_pos h1]
      by_cases h2 : 32 - b + i < a
      · rw [if_pos h2, if_pos (show i < a + b - 32 by omega)]
        congr 1; omega
      · rw [if_neg h2, if_neg (show ¬ i < a + b - 32 by omega), dt (by omega), dt hi]
        congr 1; omega
    · rw [if_neg h1, dt hi, if_pos (show i - b < a by omega), if_neg (show ¬ i < a + b - 32 by omega), dt hi]
      congr 1; omega
theorem shift_rot (x : Int) (s : Nat) (hs : s < 32) (hx : 0 ≤ x ∧ x ≤ 4294967295) : Go.bits .or .u32 (shl .u32 x s) (shr .u32 x (32 - (s : Int))) = rotl x s := by
  obtain ⟨n, rfl⟩ := Int.eq_ofNat_of_zero_le hx.1
  have hn : n < 2 ^ 32 := by omega
  unfold shl shr
  have e1 : min ((s : Int)).toNat IntKind.u32.bits = s := by
    have : IntKind.u32.bits = 32 := rfl
    omega
  have e2 : min (32 - (s : Int)).toNat IntKind.u32.bits = 32 - s := by
    have : IntKind.u32.bits = 32 := rfl
    omega
  rw [e1, e2, IntKind.wrap_u32]
  have c1 : ((n : Int) * 2 ^ s) % 4294967296 = ((n * 2 ^ s % 2 ^ 32 : Nat) : Int) := by
    rw [Int.natCast_emod, Int.natCast_mul, Int.natCast_pow]; rfl
  have c2 : (n : Int) / 2 ^ (32 - s) = ((n / 2 ^ (32 - s) : Nat) : Int) := by
    rw [Int.natCast_ediv, Int.natCast_pow]; rfl
  rw [c1, c2]
  have l1 : n * 2 ^ s % 2 ^ 32 < 2 ^ 32 := Nat.mod_lt _ (by decide)
  have l2 : n / 2 ^ (32 - s) < 2 ^ 32 := Nat.lt_of_le_of_lt (Nat.div_le_self _ _) hn
  rw [(bits_nat .u32 32 (by decide) wraps_u32 _ _ l1 l2).2]
  unfold rotl
  congr 1
  have hv : BitVec.ofInt 32 ((n : Nat) : Int) = BitVec.ofNat 32 n := by simp
  rw [hv, BitVec.rotateLeft_def, Nat.mod_eq_of_lt hs, BitVec.toNat_or, BitVec.toNat_shiftLeft, BitVec.toNat_ushiftRight, BitVec.toNat_ofNat, Nat.mod_eq_of_lt hn, Nat.shiftLeft_eq, Nat.shiftRight_eq_div_pow]
theorem left_f (x n : Int) (hx : 0 ≤ x ∧ x ≤ 4294967295) (hn : -4611686018427387904 ≤ n ∧ n ≤ 4611686018427387904) : octet_Left.f x n = some (rotl x (n % 32).toNat) := by
  unfold octet_Left.f bits_RotateLeft32.f
  have ht := tmod_pos (a := n) (b := 32) (by decide)
  rw [w64 (n := n.tmod 32 + 32) (by omega) (by omega)]
  have e : (n.tmod 32 + 32).tmod 32 = n % 32 := by
    rw [Int.tmod_eq_emod_of_nonneg (by omega), Int.add_emod_right]
    have h1 := Int.mul_tdiv_add_tmod n 32
    omega
  have hm : 0 ≤ n % 32 ∧ n % 32 < 32 := by omega
  rw [e, wu64 (by omega) (by omega), and31 _ (by omega) (by omega)]
  have e2 : n % 32 % 32 = n % 32 := by omega
  rw [e2, wu64 (by omega) (by omega), if_pos (by omega), if_pos (by omega)]
  simp only [Option.bind_some]
  obtain ⟨s, hs⟩ : ∃ s : Nat, n % 32 = s := ⟨(n % 32).toNat, by omega⟩
  rw [hs, shift_rot x s (by omega) hx, Int.toNat_natCast]
end Go.Proofs.Ytinojomgdjogdaa.B
