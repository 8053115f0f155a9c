/- Little numbers of sixteen bytes; the law's sum. -/
import Derived.Test.YtagoibmemonkaaaOnetimeB
import Derived.Test.YtagoibmemonkaaaPx12
namespace Go.Proofs.Ytagoibmemonkaaa.B
open Go.RowKit Go.Proofs.Ytagoibmemonkaaa.P Go.Proofs.YtagoibmemonkaaaW.PrintWords Go.Proofs.YtagoibmemonkaaaW.PrintLast Go.Proofs.YtagoibmemonkaaaW.PrintMore
set_option linter.unusedVariables false
set_option linter.unusedSimpArgs false

theorem num_app (a b : List UInt8) : num (a ++ b) = num a * 256 ^ b.length + num b := by
  refine snoc_ind (motive := fun b => num (a ++ b) = num a * 256 ^ b.length + num b) ?_ ?_ b
  · simp [num]
  · intro l c ih
    rw [← List.append_assoc, num_snoc, ih, num_snoc, List.length_append, List.length_singleton, Int.pow_succ]
    rw [Int.add_mul, Int.mul_assoc, Int.add_assoc]
def N16 (s : ByteArray) : Int := num (L s).reverse
def RA (s : ByteArray) (i : Nat) : Int := num ((L s).drop i).reverse
theorem RA_step (s : ByteArray) (i : Nat) (h : i < s.size) : RA s i = bt s (i : Int) + 256 * RA s (i + 1) := by
  unfold RA
  have hl : i < (L s).length := by rw [L_len]; exact h
  rw [List.drop_eq_getElem_cons hl, List.reverse_cons, num_snoc, bt_L]
  rw [Int.toNat_natCast, List.getElem?_eq_getElem hl]
  simp only [Option.getD_some]
  omega
theorem RA_end (s : ByteArray) (i : Nat) (h : s.size ≤ i) : RA s i = 0 := by
  unfold RA
  rw [List.drop_of_length_le (by rw [L_len]; exact h)]
  rfl
theorem RA_nn (s : ByteArray) (i : Nat) : 0 ≤ RA s i := (num_bd _).1
theorem littleL_snoc (v : Int) (n : Nat) : littleL v (n + 1) = littleL v n ++ [v / 256 ^ n % 256] := by
  unfold littleL
  rw [List.range_succ, List.map_append]
  rfl
theorem sum_l0 (a b : ByteArray) (ha : a.size = 16) (hb : b.size = 16) (T : Int) : ∀ (d i k : Nat) (c : Int), d = 16 - i → i ≤ 16 → d < k → 0 ≤ c → c ≤ 1 → c + RA a i + RA b i = T / 256 ^ i →
    escutcheonlaw6_sum.l0 k a b (littleL T i ++ List.replicate (16 - i) 0) c (i : Int) = some (strOfNums (littleL T 16))
  | d, i, k, c, hd, hi, hk, hc0, hc1, hT => by
    obtain ⟨k, rfl⟩ : ∃ k', k = k' + 1 := ⟨k - 1, by omega⟩
    rw [escutcheonlaw6_sum.l0]
    by_cases h : i = 16
    · subst h
      rw [if_neg (by decide), show 16 - 16 = 0 from rfl, List.replicate_zero, List.append_nil]
    · have hl : (littleL T i ++ List.replicate (16 - i) (0 : Int)).length = 16 := by rw [List.length_append, littleL_len, List.length_replicate]; omega
      rw [if_pos (by omega), if_pos (by omega), if_pos (by omega), if_pos (by omega), if_pos (by omega)]
      have ra := RA_step a i (by omega)
      have rb := RA_step b i (by omega)
      have ba := btL_range a (i : Int)
      have bb := btL_range b (i : Int)
      have hw : wrap64 (c + wrap64 (wrap64 (bt a (i : Int)) + wrap64 (bt b (i : Int)))) = c + bt a (i : Int) + bt b (i : Int) := by
        rw [w64 (n := bt a (i : Int)) (by omega) (by omega), w64 (n := bt b (i : Int)) (by omega) (by omega), w64 (n := bt a (i : Int) + bt b (i : Int)) (by omega) (by omega), w64 (by omega) (by omega)]
        omega
      rw [hw, Int.toNat_natCast, w64 (by omega) (by omega)]
      have hnn := RA_nn a (i + 1)
      have hnn2 := RA_nn b (i + 1)
      have hset : (littleL T i ++ List.replicate (16 - i) (0 : Int)).set i ((c + bt a (i : Int) + bt b (i : Int)) % 256) = littleL T (i + 1) ++ List.replicate (16 - (i + 1)) 0 := by
        rw [List.set_append_right i _ (by rw [littleL_len]; exact Nat.le_refl _), littleL_len, Nat.sub_self, show 16 - i = (16 - (i + 1)) + 1 by omega, List.replicate_succ, List.set_cons_zero, littleL_snoc, List.append_assoc]
        rw [← hT]
        congr 2
        omega
      rw [hset, show (i : Int) + 1 = ((i + 1 : Nat) : Int) by omega]
      refine sum_l0 a b ha hb T (d - 1) (i + 1) k _ (by omega) (by omega) (by omega) (by omega) (by omega) ?_
      rw [Int.pow_succ, ← Int.ediv_ediv_of_nonneg (Int.le_of_lt (Int.pow_pos (by decide))), ← hT]
      omega
theorem sum_f (a b : ByteArray) (ha : a.size = 16) (hb : b.size = 16) (k : Nat) (hk : 16 < k) : escutcheonlaw6_sum.f k a b = some (strOfNums (littleL (N16 a + N16 b) 16)) := by
  unfold escutcheonlaw6_sum.f
  rw [if_pos (by decide)]
  exact sum_l0 a b ha hb (N16 a + N16 b) 16 0 k 0 rfl (by decide) hk (Int.le_refl 0) (by decide) (by
    rw [Int.pow_zero, Int.ediv_one, Int.zero_add]; rfl)
theorem nums_app (a b : List Int) : strOfNums (a ++ b) = strOfNums a ++ strOfNums b := by
  apply L_ext
  rw [L_app, L_nums, L_nums, L_nums, List.map_append]
end Go.Proofs.Ytagoibmemonkaaa.B
