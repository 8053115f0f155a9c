/- Further plain facts on numbers as bytes, and back. -/
import Derived.Test.YtinojomgdjogdaaOctetB
namespace Go.Proofs.Ytinojomgdjogdaa.B
open Go.RowKit Go.Proofs.Ytinojomgdjogdaa.P Go.Proofs.YtinojomgdjogdaaW.PrintWords Go.Proofs.YtinojomgdjogdaaW.PrintLast Go.Proofs.YtinojomgdjogdaaW.PrintMore
set_option linter.unusedVariables false
set_option linter.unusedSimpArgs false

theorem alive_k (k : Nat) (h : 20 ≤ k) : escutcheonlaw1_alive.f k = some true := at_rounds escutcheonlaw1_alive.mono h (by decide +kernel)
def bytesOf (l : List Int) : List UInt8 := l.map fun n => UInt8.ofNat n.toNat
theorem bigL_succ (v : Int) (hv : 0 ≤ v) (n : Nat) : bigL v (n + 1) = bigL (v / 256) n ++ [v % 256] := by
  unfold bigL
  rw [List.range_succ, List.map_append, List.map_singleton]
  congr 1
  · apply List.map_congr_left
    intro j hj
    have hj' : j < n := by simpa using hj
    have e : n + 1 - 1 - j = (n - 1 - j) + 1 := by omega
    rw [e, Int.pow_succ, Int.mul_comm, ← Int.ediv_ediv_of_nonneg (by decide)]
  · have e : n + 1 - 1 - n = 0 := by omega
    rw [e, Int.pow_zero, Int.ediv_one]
theorem split_mod (v p : Int) (hv : 0 ≤ v) (hp : 0 < p) : v / 256 % p * 256 + v % 256 = v % (p * 256) := by
  have h1 := Int.mul_ediv_add_emod v 256
  have h2 := Int.mul_ediv_add_emod (v / 256) p
  have h3 := Int.emod_nonneg (v / 256) (show p ≠ 0 by omega)
  have h4 := Int.emod_lt_of_pos (v / 256) hp
  have h5 : v = p * 256 * (v / 256 / p) + (v / 256 % p * 256 + v % 256) := by
    have e : p * 256 * (v / 256 / p) = 256 * (p * (v / 256 / p)) := by rw [Int.mul_comm p 256, Int.mul_assoc]
    rw [e]; omega
  have h6 : v / 256 % p * 256 + v % 256 < p * 256 := by omega
  conv => rhs; rw [h5]
  rw [Int.mul_add_emod_self_left, Int.emod_eq_of_lt (by omega) h6]
theorem num_big (n : Nat) : ∀ v : Int, 0 ≤ v → num (bytesOf (bigL v n)) = v % 256 ^ n := by
  induction n with
  | zero => intro v _; rw [Int.pow_zero, Int.emod_one]; rfl
  | succ n ih =>
    intro v hv
    rw [bigL_succ v hv, bytesOf, List.map_append, List.map_singleton, num_snoc, ← bytesOf, ih _ (by omega)]
    have e : ((UInt8.ofNat (v % 256).toNat).toNat : Int) = v % 256 := by
      simp only [UInt8.toNat_ofNat']; omega
    have hp : (0 : Int) < 256 ^ n := Int.pow_pos (by decide)
    rw [e, Int.pow_succ]
    generalize (256 : Int) ^ n = p at *
    exact split_mod v p hv hp
theorem L_big (v : Int) (n : Nat) : L (strOfNums (bigL v n)) = bytesOf (bigL v n) := L_nums _
theorem L_little (v : Int) (n : Nat) : L (strOfNums (littleL v n)) = (bytesOf (bigL v n)).reverse := by
  rw [L_nums, bigL_rev, bytesOf, List.map_reverse, List.reverse_reverse]
theorem size_big (v : Int) (n : Nat) : (strOfNums (bigL v n)).size = n := by rw [size_nums, bigL_len]
theorem size_little (v : Int) (n : Nat) : (strOfNums (littleL v n)).size = n := by rw [size_nums, littleL_len]
theorem big_big (v : Int) (n : Nat) (hn : n ≤ 8) (hv : 0 ≤ v) : octet_Big.f (strOfNums (bigL v n)) = some (v % 256 ^ n) := by
  rw [big_f _ (by rw [size_big]; omega), size_big, show n - 8 = 0 by omega, List.drop_zero, L_big, num_big _ _ hv]
theorem little_little (v : Int) (n : Nat) (hn : n ≤ 8) (hv : 0 ≤ v) (k : Nat) (hk : 8 < k) : octet_Little.f k (strOfNums (littleL v n)) = some (v % 256 ^ n) := by
  have hl : (bytesOf (bigL v n)).reverse.length ≤ 8 := by simp [bytesOf, bigL_len]; exact hn
  rw [little_f _ _ hk, L_little, List.take_of_length_le hl, List.reverse_reverse, num_big _ _ hv]
theorem L_zeros (n : Nat) : L (strOfNums (List.replicate n 0)) = List.replicate n 0 := by
  rw [L_nums, List.map_replicate]; rfl
theorem xor_comm_ (a b : ByteArray) : strOfNums (xorL a b) = strOfNums (xorL b a) := by
  apply L_ext
  rw [L_xor, L_xor, List.zipWith_comm]
  congr 1; funext x y; exact UInt8.xor_comm y x
theorem xor_zeros (a : ByteArray) : strOfNums (xorL a (strOfNums (List.replicate a.size 0))) = a := by
  apply L_ext
  rw [L_xor, L_zeros]
  apply List.ext_getElem
  · simp [List.length_zipWith, L_len]
  · intro i h1 h2; simp
theorem xor_self_ (a : ByteArray) : strOfNums (xorL a a) = strOfNums (List.replicate a.size 0) := by
  apply L_ext
  rw [L_xor, L_zeros]
  apply List.ext_getElem
  · simp [List.length_zipWith, L_len]
  · intro i h1 h2; simp
theorem xor_twice (a b : ByteArray) : strOfNums (xorL (strOfNums (xorL a b)) b) = a.extract 0 (min a.size b.size) := by
  apply L_ext
  rw [L_xor, L_xor, L_ext_, List.drop_zero]
  apply List.ext_getElem
  · simp [List.length_zipWith, L_len]
  · intro i h1 h2; simp [UInt8.xor_assoc]
end Go.Proofs.Ytinojomgdjogdaa.B
