/- What the reference's octet comes to: the same as octet's own. -/
import Derived.Test.YtinojomgdjogdaaOctetC
import Derived.Test.YtinojomgdjogdaaTurn
import Derived.Test.YtinojomgdjogdaaDigits
namespace Go.Proofs.Ytinojomgdjogdaa.B
open Go.RowKit Go.Proofs.Ytinojomgdjogdaa.P Go.Proofs.YtinojomgdjogdaaW.PrintWords Go.Proofs.YtinojomgdjogdaaW.PrintLast Go.Proofs.YtinojomgdjogdaaW.PrintMore
set_option linter.unusedVariables false
set_option linter.unusedSimpArgs false

/-! Left -/
theorem refLeft_f (x n : Int) (hx : 0 ≤ x ∧ x ≤ 4294967295) (hn : -9223372036854775808 ≤ n ∧ n ≤ 9223372036854775807) : escutcheonref1_Left.f x n = some (rotl x (n % 32).toNat) := by
  unfold escutcheonref1_Left.f
  have ht := tmod_pos (a := n) (b := 32) (by decide)
  rw [w64 (n := n.tmod 32 + 32) (by omega) (by omega)]
  have e : (n.tmod 32 + 32).tmod 32 = n % 32 := by
    rw [Int.tmod_eq_emod_of_nonneg (by omega), Int.add_emod_right]
    have h1 := Int.mul_tdiv_add_tmod n 32
    omega
  have hm : 0 ≤ n % 32 ∧ n % 32 < 32 := by omega
  rw [e, wu64 (n := n % 32) (by omega) (by omega), wu64 (by omega) (by omega)]
  obtain ⟨s, hs⟩ : ∃ s : Nat, n % 32 = s := ⟨(n % 32).toNat, by omega⟩
  rw [hs, Int.toNat_natCast]
  by_cases h0 : (s : Int) = 0
  · rw [if_pos h0, show s = 0 by omega, rotl_zero x hx]
  · rw [if_neg h0, if_pos (by omega), if_pos (by omega), shift_rot x s (by omega) hx]
theorem left_any (x n : Int) (hx : 0 ≤ x ∧ x ≤ 4294967295) (hn : -9223372036854775808 ≤ n ∧ n ≤ 9223372036854775807) : octet_Left.f x n = some (rotl x (n % 32).toNat) := by
  unfold octet_Left.f bits_RotateLeft32.f
  have ht := tmod_pos (a := n) (b := 32) (by decide)
  rw [w64 (n := n.tmod 32 + 32) (by omega) (by omega)]
  have e : (n.tmod 32 + 32).tmod 32 = n % 32 := by
    rw [Int.tmod_eq_emod_of_nonneg (by omega), Int.add_emod_right]
    have h1 := Int.mul_tdiv_add_tmod n 32
    omega
  have hm : 0 ≤ n % 32 ∧ n % 32 < 32 := by omega
  rw [e, wu64 (by omega) (by omega), and31 _ (by omega) (by omega)]
  have e2 : n % 32 % 32 = n % 32 := by omega
  rw [e2, wu64 (by omega) (by omega), if_pos (by omega), if_pos (by omega), Option.bind_some]
  obtain ⟨s, hs⟩ : ∃ s : Nat, n % 32 = s := ⟨(n % 32).toNat, by omega⟩
  rw [hs, shift_rot x s (by omega) hx, Int.toNat_natCast]

/-! PutBig, PutLittle -/
theorem div_pow (v : Int) (i : Nat) : v / 256 ^ i / 256 = v / 256 ^ (i + 1) := by
  rw [Int.pow_succ, Int.ediv_ediv_of_nonneg (Int.pow_nonneg (by decide))]
theorem div_bd (v : Int) (h : 0 ≤ v ∧ v ≤ 18446744073709551615) (i : Nat) : 0 ≤ v / 256 ^ i ∧ v / 256 ^ i ≤ 18446744073709551615 := by
  have hp : (0 : Int) < 256 ^ i := Int.pow_pos (by decide)
  refine ⟨Int.ediv_nonneg h.1 (by omega), ?_⟩
  have := Int.ediv_le_self (256 ^ i) h.1
  omega
theorem refPutLittle_l0 (v : Int) (hv : 0 ≤ v ∧ v ≤ 18446744073709551615) (n : Nat) (hn : n ≤ 8) (xs : List Int) (hl : xs.length = n) (d : Nat) : ∀ (k i : Nat), i ≤ n → n - i = d → d < k →
    escutcheonref1_PutLittle.l0 k (v / 256 ^ i) (n : Int) ((List.range i).map (fun j => v / 256 ^ j % 256) ++ xs.drop i) (i : Int) = some (strOfNums (littleL v n)) := by
  induction d with
  | zero =>
    intro k i h1 h2 h3
    obtain ⟨k, rfl⟩ : ∃ m, k = m + 1 := ⟨k - 1, by omega⟩
    simp only [escutcheonref1_PutLittle.l0]
    rw [if_neg (by omega)]
    have : i = n := by omega
    subst this
    rw [← hl, List.drop_length, List.append_nil]; rfl
  | succ d ih =>
    intro k i h1 h2 h3
    obtain ⟨k, rfl⟩ : ∃ m, k = m + 1 := ⟨k - 1, by omega⟩
    simp only [escutcheonref1_PutLittle.l0]
    have hb := div_bd v hv i
    have hlen := fill_len (fun j => v / 256 ^ j % 256) xs i (by omega)
    rw [hlen, if_pos (by omega), if_pos (by omega), if_pos (by omega), and255 _ hb.1 (by omega), Int.tdiv_eq_ediv_of_nonneg hb.1, wu64 (by omega) (by omega), wrap64_succ (n := n) (by omega) (by omega), Int.toNat_natCast, div_pow]
    have e : v / 256 ^ i % 256 % 256 = v / 256 ^ i % 256 := by omega
    rw [e, fill_front (fun j => v / 256 ^ j % 256) _ _ (by omega)]
    exact ih k (i + 1) (by omega) (by omega) (by omega)
theorem refPutLittle_f (v : Int) (hv : 0 ≤ v ∧ v ≤ 18446744073709551615) (n : Nat) (h1 : 1 ≤ n) (h8 : n ≤ 8) (k : Nat) (hk : n + 1 < k) : escutcheonref1_PutLittle.f k v (n : Int) = some (strOfNums (littleL v n)) := by
  obtain ⟨k, rfl⟩ : ∃ m, k = m + 1 := ⟨k - 1, by omega⟩
  unfold escutcheonref1_PutLittle.f
  rw [if_neg (by omega)]
  simp only [escutcheonref1_PutLittle.j0]
  rw [if_neg (by simp; omega), if_pos (by omega), Int.toNat_natCast, if_pos (by omega)]
  have := refPutLittle_l0 v hv n h8 (List.replicate n 0) (by simp) n k 0 (by omega) (by omega) (by omega)
  simpa using this
theorem refPutLittle_out (v n : Int) (h : n < 1 ∨ n > 8) (k : Nat) : escutcheonref1_PutLittle.f (k + 1) v n = some (⟨#[]⟩ : ByteArray) := by
  unfold escutcheonref1_PutLittle.f
  simp only [escutcheonref1_PutLittle.j0]
  split
  · rfl
  · rw [if_pos (by simp; omega)]
theorem refPutBig_l0 (v : Int) (hv : 0 ≤ v ∧ v ≤ 18446744073709551615) (n : Nat) (hn : n ≤ 8) (xs : List Int) (hl : xs.length = n) (d : Nat) : ∀ (k : Nat), d ≤ n → d < k →
    escutcheonref1_PutBig.l0 k (v / 256 ^ (n - d)) (xs.take d ++ (bigL v n).drop d) ((d : Int) - 1) = some (strOfNums (bigL v n)) := by
  induction d with
  | zero =>
    intro k h1 h3
    obtain ⟨k, rfl⟩ : ∃ m, k = m + 1 := ⟨k - 1, by omega⟩
    simp only [escutcheonref1_PutBig.l0]
    rw [if_neg (by omega), List.take_zero, List.drop_zero, List.nil_append]
  | succ d ih =>
    intro k h1 h3
    obtain ⟨k, rfl⟩ : ∃ m, k = m + 1 := ⟨k - 1, by omega⟩
    simp only [escutcheonref1_PutBig.l0]
    have hb := div_bd v hv (n - (d + 1))
    have hlen := fill_back_len (bigL v n) xs (d + 1) (by rw [bigL_len, hl]) (by omega)
    have e0 : (((d + 1 : Nat) : Int) - 1).toNat = d := by omega
    have e1 : n - (d + 1) + 1 = n - d := by omega
    have e2 : ((d + 1 : Nat) : Int) - 1 - 1 = (d : Int) - 1 := by omega
    have e3 : v / 256 ^ (n - (d + 1)) % 256 % 256 = (bigL v n).getD d 0 := by
      rw [bigL_get _ _ _ (by omega)]
      have : n - 1 - d = n - (d + 1) := by omega
      rw [this]; omega
    rw [hlen, if_pos (by omega), if_pos (by omega), if_pos (by omega), and255 _ hb.1 (by omega), Int.tdiv_eq_ediv_of_nonneg hb.1, wu64 (by omega) (by omega), w64 (by omega) (by omega), div_pow, e0, e1, e2, e3, fill_back _ _ _ (by rw [bigL_len, hl]) (by omega)]
    exact ih k (by omega) (by omega)
theorem refPutBig_f (v : Int) (hv : 0 ≤ v ∧ v ≤ 18446744073709551615) (n : Nat) (h1 : 1 ≤ n) (h8 : n ≤ 8) (k : Nat) (hk : n + 1 < k) : escutcheonref1_PutBig.f k v (n : Int) = some (strOfNums (bigL v n)) := by
  obtain ⟨k, rfl⟩ : ∃ m, k = m + 1 := ⟨k - 1, by omega⟩
  unfold escutcheonref1_PutBig.f
  rw [if_neg (by omega)]
  simp only [escutcheonref1_PutBig.j0]
  rw [if_neg (by simp; omega), if_pos (by omega), Int.toNat_natCast, if_pos (by omega), w64 (by omega) (by omega)]
  have := refPutBig_l0 v hv n h8 (List.replicate n 0) (by simp) n k (by omega) (by omega)
  rw [Nat.sub_self, Int.pow_zero, Int.ediv_one, List.take_of_length_le (by simp), List.drop_of_length_le (by rw [bigL_len]; omega), List.append_nil] at this
  exact this
theorem refPutBig_out (v n : Int) (h : n < 1 ∨ n > 8) (k : Nat) : escutcheonref1_PutBig.f (k + 1) v n = some (⟨#[]⟩ : ByteArray) := by
  unfold escutcheonref1_PutBig.f
  simp only [escutcheonref1_PutBig.j0]
  split
  · rfl
  · rw [if_pos (by simp; omega)]

/-! Big, Little -/
theorem plus_byte (v c : Int) (hv : 0 ≤ v) (hv2 : v < 2 ^ 56) (hc : 0 ≤ c ∧ c ≤ 255) : IntKind.u64.wrap (IntKind.u64.wrap (v * 256) + IntKind.u64.wrap c) = v * 256 + c := by
  rw [wu64 (n := v * 256) (by omega) (by omega), wu64 (n := c) (by omega) (by omega), wu64 (by omega) (by omega)]
theorem refBig_l0 (b : ByteArray) (hb : b.size ≤ 140737488351232) (d : Nat) : ∀ (k i : Nat), b.size - 8 ≤ i → i ≤ b.size → b.size - i = d → d < k →
    escutcheonref1_Big.l0 k b (num (((L b).drop (b.size - 8)).take (i - (b.size - 8)))) (i : Int) = some (num ((L b).drop (b.size - 8))) := by
  induction d with
  | zero =>
    intro k i h0 h1 h2 h3
    obtain ⟨k, rfl⟩ : ∃ m, k = m + 1 := ⟨k - 1, by omega⟩
    simp only [escutcheonref1_Big.l0]
    rw [if_neg (by omega), List.take_of_length_le (by rw [List.length_drop, L_len]; omega)]
  | succ d ih =>
    intro k i h0 h1 h2 h3
    obtain ⟨k, rfl⟩ : ∃ m, k = m + 1 := ⟨k - 1, by omega⟩
    simp only [escutcheonref1_Big.l0]
    have hbd := num_bd (((L b).drop (b.size - 8)).take (i - (b.size - 8)))
    have hll : (((L b).drop (b.size - 8)).take (i - (b.size - 8))).length ≤ 7 := by rw [List.length_take]; omega
    have h7 := pow256_le hll
    have hr := bt_range b (i : Int)
    have hi : i < (L b).length := by rw [L_len]; omega
    have hbt : bt b (i : Int) = ((L b)[i].toNat : Int) := by rw [bt_L, Int.toNat_natCast, List.getElem?_eq_getElem hi]; rfl
    rw [if_pos (by omega), if_pos (by omega), plus_byte _ _ hbd.1 (by omega) hr, wrap64_succ (n := b.size) (by omega) (by omega), hbt, ← num_snoc]
    have e : ((L b).drop (b.size - 8)).take (i - (b.size - 8)) ++ [(L b)[i]] = ((L b).drop (b.size - 8)).take (i + 1 - (b.size - 8)) := by
      have hlt : i - (b.size - 8) < ((L b).drop (b.size - 8)).length := by rw [List.length_drop, L_len]; omega
      have e2 : i + 1 - (b.size - 8) = i - (b.size - 8) + 1 := by omega
      rw [e2, List.take_succ_eq_append_getElem hlt, List.getElem_drop]
      congr 3; omega
    rw [e]
    exact ih k (i + 1) (by omega) (by omega) (by omega) (by omega)
theorem refBig_f (b : ByteArray) (hb : b.size ≤ 140737488351232) (k : Nat) (hk : 9 ≤ k) : escutcheonref1_Big.f k b = some (num ((L b).drop (b.size - 8))) := by
  unfold escutcheonref1_Big.f
  have hm : mx (wrap64 ((b.size : Int) - 8)) 0 = ((b.size - 8 : Nat) : Int) := by rw [w64 (by omega) (by omega)]; unfold mx; split <;> omega
  rw [hm]
  have := refBig_l0 b hb (b.size - (b.size - 8)) k (b.size - 8) (by omega) (by omega) rfl (by omega)
  rw [Nat.sub_self, List.take_zero] at this
  exact this
theorem refLittle_l0 (b : ByteArray) (d : Nat) : ∀ (k : Nat) (l : List UInt8), d ≤ b.size → d ≤ 8 → l = ((L b).take 8).reverse.take (min b.size 8 - d) → d ≤ min b.size 8 → d < k →
    escutcheonref1_Little.l0 k b (num l) ((d : Int) - 1) = some (num ((L b).take 8).reverse) := by
  induction d with
  | zero =>
    intro k l h0 h1 h2 h3 h4
    obtain ⟨k, rfl⟩ : ∃ m, k = m + 1 := ⟨k - 1, by omega⟩
    simp only [escutcheonref1_Little.l0]
    rw [if_neg (by omega), h2, List.take_of_length_le (by simp [L_len]; omega)]
  | succ d ih =>
    intro k l h0 h1 h2 h3 h4
    obtain ⟨k, rfl⟩ : ∃ m, k = m + 1 := ⟨k - 1, by omega⟩
    simp only [escutcheonref1_Little.l0]
    have hll : l.length = min b.size 8 - (d + 1) := by rw [h2, List.length_take, List.length_reverse, List.length_take, L_len]; omega
    have hb := num_bd l
    have h7 : (256 : Int) ^ l.length ≤ 256 ^ 7 := pow256_le (by omega)
    have hr := bt_range b (((d + 1 : Nat) : Int) - 1)
    rw [if_pos (by omega), if_pos (by omega), if_pos (by omega), plus_byte _ _ hb.1 (by omega) hr, w64 (by omega) (by omega)]
    have hd : d < ((L b).take 8).length := by rw [List.length_take, L_len]; omega
    have hrev : ((L b).take 8).reverse.take (min b.size 8 - d) = l ++ [((L b).take 8)[d]] := by
      have e : min b.size 8 - d = (min b.size 8 - (d + 1)) + 1 := by omega
      have hlt : min b.size 8 - (d + 1) < ((L b).take 8).reverse.length := by rw [List.length_reverse, List.length_take, L_len]; omega
      rw [e, List.take_succ_eq_append_getElem hlt, ← h2]
      congr 2
      rw [List.getElem_reverse]
      congr 1
      rw [List.length_take, L_len]; omega
    have hbt : bt b (((d + 1 : Nat) : Int) - 1) = ((((L b).take 8)[d]).toNat : Int) := by
      have e : (((d + 1 : Nat) : Int) - 1).toNat = d := by omega
      rw [bt_L, e, List.getElem_take, List.getElem?_eq_getElem (by rw [L_len]; omega)]; rfl
    rw [hbt, ← num_snoc, ← hrev]
    have e2 : ((d + 1 : Nat) : Int) - 1 - 1 = (d : Int) - 1 := by omega
    rw [e2]
    exact ih k _ (by omega) (by omega) rfl (by omega) (by omega)
theorem refLittle_f (b : ByteArray) (k : Nat) (hk : 8 < k) : escutcheonref1_Little.f k b = some (num ((L b).take 8).reverse) := by
  unfold escutcheonref1_Little.f
  have hm : mn (b.size : Int) 8 = ((min b.size 8 : Nat) : Int) := by unfold mn; split <;> omega
  rw [hm]
  have := refLittle_l0 b (min b.size 8) k [] (by omega) (by omega) (by rw [Nat.sub_self]; rfl) (Nat.le_refl _) (by omega)
  exact this

/-! Hex, Unhex -/
theorem refHex_l0 (b : ByteArray) (hb : b.size ≤ 1000000) (d : Nat) : ∀ (k i : Nat), i ≤ b.size → b.size - i = d → d < k →
    escutcheonref1_Hex.l0 k b (((L b).take i).flatMap octet_Hex.hx) (i : Int) = some (strOfNums ((L b).flatMap octet_Hex.hx)) := by
  induction d with
  | zero =>
    intro k i h1 h2 h3
    obtain ⟨k, rfl⟩ : ∃ m, k = m + 1 := ⟨k - 1, by omega⟩
    simp only [escutcheonref1_Hex.l0]
    rw [if_neg (by omega), List.take_of_length_le (by rw [L_len]; omega)]
  | succ d ih =>
    intro k i h1 h2 h3
    obtain ⟨k, rfl⟩ : ∃ m, k = m + 1 := ⟨k - 1, by omega⟩
    simp only [escutcheonref1_Hex.l0]
    have hi : i < (L b).length := by rw [L_len]; omega
    have hbt : bt b (i : Int) = ((L b)[i].toNat : Int) := by rw [bt_L, Int.toNat_natCast, List.getElem?_eq_getElem hi]; rfl
    have hc := (L b)[i].toNat_lt
    have hlen := octet_Hex.hx_len ((L b).take i)
    rw [List.length_take] at hlen
    have e1 : (bt b (i : Int)).tdiv 16 % 256 = ((L b)[i].toNat : Int) / 16 := by rw [hbt, Int.tdiv_eq_ediv_of_nonneg (by omega)]; omega
    have e2 : (bt b (i : Int)).tmod 16 = ((L b)[i].toNat : Int) % 16 := by rw [hbt, Int.tmod_eq_emod_of_nonneg (by omega)]
    have e3 : ([bt (⟨#[48, 49, 50, 51, 52, 53, 54, 55, 56, 57, 97, 98, 99, 100, 101, 102]⟩ : ByteArray) (((L b)[i].toNat : Int) / 16), bt (⟨#[48, 49, 50, 51, 52, 53, 54, 55, 56, 57, 97, 98, 99, 100, 101, 102]⟩ : ByteArray) (((L b)[i].toNat : Int) % 16)] : List Int) = octet_Hex.hx (L b)[i] := rfl
    have e4 : (octet_Hex.hx (L b)[i]).length = 2 := rfl
    rw [e1, e2, if_pos (by omega), if_pos (by omega), if_pos (by omega), if_pos (by omega), if_pos (by omega), if_pos (by omega), e3, Option.bind_some, e4, if_pos (by omega), wrap64_succ (n := b.size) (by omega) (by omega)]
    have e5 : ((L b).take i).flatMap octet_Hex.hx ++ octet_Hex.hx (L b)[i] = ((L b).take (i + 1)).flatMap octet_Hex.hx := by
      rw [List.take_succ_eq_append_getElem hi, List.flatMap_append]; simp
    rw [e5]
    exact ih k (i + 1) (by omega) (by omega) (by omega)
theorem refHex_f (b : ByteArray) (hb : b.size ≤ 1000000) (k : Nat) (hk : b.size < k) : escutcheonref1_Hex.f k b = some (strOfNums ((L b).flatMap octet_Hex.hx)) := by
  unfold escutcheonref1_Hex.f
  exact refHex_l0 b hb b.size k 0 (by omega) (by omega) hk
theorem same_all : ∀ (j : Fin 16) (c : Fin 256), (decide (bt octet_Hex.D (j.val : Int) = (c.val : Int)) == decide (dig c.val = (j.val : Int))) = true := by decide +kernel
def seen (c : Nat) (j : Nat) : Int := if 0 ≤ dig c ∧ dig c < (j : Int) then dig c else -1
theorem refUnhex_l2 (s : ByteArray) (acc : List Int) (i v p : Int) (c : UInt8) (hp : 0 ≤ p ∧ p < (s.size : Int)) (hbt : bt s p = (c.toNat : Int)) (K d : Nat) : ∀ (k j : Nat), j + d = 16 → k = K + d + 1 →
    escutcheonref1_Unhex.l2 k s acc i v p (seen c.toNat j) (j : Int) = if dig c.toNat < 0 then some ((⟨#[]⟩ : ByteArray), false) else escutcheonref1_Unhex.l1 K s acc i (wrap64 (wrap64 (v * 16) + dig c.toNat)) (wrap64 (p + 1)) := by
  have hr := dig_range c.toNat
  induction d with
  | zero =>
    intro k j h1 h2
    subst h2
    simp only [escutcheonref1_Unhex.l2]
    have hj : j = 16 := by omega
    subst hj
    rw [if_neg (by omega)]
    have hsn : seen c.toNat 16 = dig c.toNat := by unfold seen; split <;> omega
    rw [hsn]
  | succ d ih =>
    intro k j h1 h2
    subst h2
    obtain ⟨m, hm⟩ : ∃ m, K + (d + 1) = m := ⟨_, rfl⟩
    rw [hm]
    simp only [escutcheonref1_Unhex.l2]
    have hs := same_all ⟨j, by omega⟩ ⟨c.toNat, c.toNat_lt⟩
    simp only [beq_iff_eq, decide_eq_decide] at hs
    have hs' : bt (⟨#[48, 49, 50, 51, 52, 53, 54, 55, 56, 57, 97, 98, 99, 100, 101, 102]⟩ : ByteArray) (j : Int) = (c.toNat : Int) ↔ dig c.toNat = (j : Int) := hs
    rw [if_pos (by omega), if_pos (by omega), if_pos hp.1, if_pos hp.2, hbt, wrap64_succ (n := 16) (by omega) (by omega)]
    have hn := ih m (j + 1) (by omega) (by omega)
    by_cases h : dig c.toNat = (j : Int)
    · rw [if_pos (hs'.2 h)]
      have : seen c.toNat (j + 1) = (j : Int) := by unfold seen; rw [if_pos (by omega)]; exact h
      rw [this] at hn; exact hn
    · rw [if_neg (fun x => h (hs'.1 x))]
      have : seen c.toNat (j + 1) = seen c.toNat j := by
        unfold seen
        by_cases h5 : 0 ≤ dig c.toNat ∧ dig c.toNat < (j : Int)
        · rw [if_pos h5, if_pos (by omega)]
        · rw [if_neg h5, if_neg (by omega)]
      rw [this] at hn; exact hn
theorem refUnhex_pair (s : ByteArray) (hs : s.size ≤ 1000000) (acc : List Int) (hacc : acc.length ≤ 1000000) (i : Nat) (h : i + 1 < s.size) (K : Nat) (a b : UInt8) (ha : bt s (i : Int) = (a.toNat : Int)) (hb : bt s ((i + 1 : Nat) : Int) = (b.toNat : Int)) :
    escutcheonref1_Unhex.l1 (K + 37) s acc (i : Int) 0 (i : Int) = if dig a.toNat < 0 ∨ dig b.toNat < 0 then some ((⟨#[]⟩ : ByteArray), false) else escutcheonref1_Unhex.l0 K s (acc ++ [val2 a b]) ((i + 2 : Nat) : Int) := by
  have ra := dig_range a.toNat
  have rb := dig_range b.toNat
  have e1 : K + 37 = (K + 19 + 16 + 1) + 1 := by omega
  have s0 : ∀ c, seen c 0 = -1 := fun c => by unfold seen; rw [if_neg (by omega)]
  rw [e1]
  simp only [escutcheonref1_Unhex.l1]
  rw [w64 (n := (i : Int) + 2) (by omega) (by omega), if_pos (by omega)]
  have h1 := refUnhex_l2 s acc (i : Int) 0 (i : Int) a ⟨by omega, by omega⟩ ha (K + 19) 16 (K + 19 + 16 + 1) 0 (by omega) rfl
  rw [s0] at h1
  refine Eq.trans h1 ?_
  by_cases c1 : dig a.toNat < 0
  · rw [if_pos c1, if_pos (.inl c1)]
  · rw [if_neg c1]
    have e2 : K + 19 = (K + 1 + 16 + 1) + 1 := by omega
    rw [e2]
    simp only [escutcheonref1_Unhex.l1]
    rw [w64 (n := (i : Int) + 2) (by omega) (by omega), wrap64_succ (n := s.size) (by omega) (by omega), if_pos (by omega)]
    have h2 := refUnhex_l2 s acc (i : Int) (wrap64 (wrap64 (0 * 16) + dig a.toNat)) ((i + 1 : Nat) : Int) b ⟨by omega, by omega⟩ hb (K + 1) 16 (K + 1 + 16 + 1) 0 (by omega) rfl
    rw [s0] at h2
    refine Eq.trans h2 ?_
    by_cases c2 : dig b.toNat < 0
    · rw [if_pos c2, if_pos (.inr c2)]
    · rw [if_neg c2, if_neg (fun h => h.elim c1 c2)]
      simp only [escutcheonref1_Unhex.l1]
      rw [w64 (n := (i : Int) + 2) (by omega) (by omega), wrap64_succ (n := s.size) (by omega) (by omega), if_neg (by omega), if_pos (by omega)]
      have e3 : wrap64 (0 * 16) = 0 := (w64 (by omega) (by omega)).trans (by omega)
      rw [e3, w64 (n := 0 + dig a.toNat) (by omega) (by omega), w64 (n := (0 + dig a.toNat) * 16) (by omega) (by omega), w64 (n := (0 + dig a.toNat) * 16 + dig b.toNat) (by omega) (by omega)]
      have e4 : ((0 + dig a.toNat) * 16 + dig b.toNat) % 256 = val2 a b := by unfold val2; omega
      have e5 : (i : Int) + 2 = ((i + 2 : Nat) : Int) := by omega
      rw [e4, e5]
theorem refUnhex_l0 (s : ByteArray) (hs : s.size ≤ 1000000) (m : Nat) : ∀ (k i : Nat) (acc : List Int), i + 2 * m = s.size → 38 * m < k → acc.length + m ≤ 1000000 →
    escutcheonref1_Unhex.l0 k s acc (i : Int) = some (unhexR (unhexL ((L s).drop i)) acc) := by
  induction m with
  | zero =>
    intro k i acc h1 h2 h3
    obtain ⟨k, rfl⟩ : ∃ m, k = m + 1 := ⟨k - 1, by omega⟩
    simp only [escutcheonref1_Unhex.l0]
    rw [if_neg (by omega), List.drop_of_length_le (by rw [L_len]; omega)]
    simp [unhexL, unhexR]
  | succ m ih =>
    intro k i acc h1 h2 h3
    obtain ⟨k, rfl⟩ : ∃ j, k = (j + 37) + 1 := ⟨k - 38, by omega⟩
    have hi : i < (L s).length := by rw [L_len]; omega
    have hi1 : i + 1 < (L s).length := by rw [L_len]; omega
    have hd : (L s).drop i = (L s)[i] :: (L s)[i + 1] :: (L s).drop (i + 2) := by
      rw [List.drop_eq_getElem_cons hi, List.drop_eq_getElem_cons hi1]
    have b0 : bt s (i : Int) = ((L s)[i].toNat : Int) := by rw [bt_L, Int.toNat_natCast, List.getElem?_eq_getElem hi]; rfl
    have b1 : bt s ((i + 1 : Nat) : Int) = ((L s)[i + 1].toNat : Int) := by rw [bt_L, Int.toNat_natCast, List.getElem?_eq_getElem hi1]; rfl
    simp only [escutcheonref1_Unhex.l0]
    rw [if_pos (by omega), refUnhex_pair s hs acc (by omega) i (by omega) k _ _ b0 b1, hd, unhexL]
    by_cases h : dig (L s)[i].toNat < 0 ∨ dig (L s)[i + 1].toNat < 0
    · rw [if_pos h, if_pos h]; rfl
    · rw [if_neg h, if_neg h, ih k (i + 2) (acc ++ [val2 (L s)[i] (L s)[i + 1]]) (by omega) (by omega) (by rw [List.length_append, List.length_singleton]; omega)]
      cases unhexL ((L s).drop (i + 2)) with
      | none => rfl
      | some r => simp [unhexR]
theorem refUnhex_f (s : ByteArray) (hs : s.size ≤ 1000000) (k : Nat) (hk : 19 * s.size + 38 < k) : escutcheonref1_Unhex.f k s = some (if s.size % 2 = 0 then unhexR (unhexL (L s)) [] else ((⟨#[]⟩ : ByteArray), false)) := by
  unfold escutcheonref1_Unhex.f
  by_cases h : s.size % 2 = 0
  · rw [if_pos (by omega), if_pos h]
    exact refUnhex_l0 s hs (s.size / 2) k 0 [] (by omega) (by omega) (by rw [List.length_nil]; omega)
  · rw [if_neg (by omega), if_neg h]
end Go.Proofs.Ytinojomgdjogdaa.B
