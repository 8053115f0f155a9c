/- octet's PutBig, Big and the reference's, in the seat of frame (out of OctetB, OctetC, OctetR) -/
import Derived.Test.YtoepiofmkjajaaaBase
import Derived.Test.YtoepiofmkjajaaaBits
import Derived.Test.YtoepiofmkjajaaaPx5
import Derived.Test.YtoepiofmkjajaaaPx6
import Derived.Test.YtoepiofmkjajaaaPx9
import Derived.Test.YtoepiofmkjajaaaPx14
namespace Go.Proofs.Ytoepiofmkjajaaa.B
open Go.RowKit Go.Proofs.Ytoepiofmkjajaaa.P Go.Proofs.YtoepiofmkjajaaaW.PrintWords Go.Proofs.YtoepiofmkjajaaaW.PrintLast Go.Proofs.YtoepiofmkjajaaaW.PrintMore
set_option linter.unusedVariables false
set_option linter.unusedSimpArgs false

def bigL (v : Int) (n : Nat) : List Int := (List.range n).map fun j => v / 256 ^ (n - 1 - j) % 256
theorem bigL_len (v : Int) (n : Nat) : (bigL v n).length = n := by simp [bigL]
theorem bigL_get (v : Int) (n j : Nat) (h : j < n) : (bigL v n).getD j 0 = v / 256 ^ (n - 1 - j) % 256 := by
  simp [bigL, List.getD_eq_getElem?_getD, h]
theorem putBig_l0 (v : Int) (n : Nat) (hn : n ≤ 8) (xs : List Int) (hl : xs.length = n) (d : Nat) : ∀ (k i : Nat), i ≤ n → n - i = d → d < k →
    octet_PutBig.l0 k v (n : Int) (xs.take (n - i) ++ (bigL v n).drop (n - i)) (n : Int) (i : Int) = some (strOfNums (bigL v n)) := by
  induction d with
  | zero =>
    intro k i h1 h2 h3
    obtain ⟨k, rfl⟩ : ∃ m, k = m + 1 := ⟨k - 1, by omega⟩
    simp only [octet_PutBig.l0]
    rw [if_neg (by omega)]
    have : i = n := by omega
    subst this
    rw [Nat.sub_self, List.take_zero, List.drop_zero, List.nil_append]
  | succ d ih =>
    intro k i h1 h2 h3
    obtain ⟨k, rfl⟩ : ∃ m, k = m + 1 := ⟨k - 1, by omega⟩
    simp only [octet_PutBig.l0]
    have hlen := fill_back_len (bigL v n) xs (n - i) (by rw [bigL_len, hl]) (by omega)
    rw [w64 (n := 8 * (i : Int)) (by omega) (by omega), w64 (n := (n : Int) - 1) (by omega) (by omega), w64 (n := (n : Int) - 1 - i) (by omega) (by omega), hlen]
    rw [if_pos (by omega), if_pos (by omega), if_pos (by omega), if_pos (by omega), wrap64_succ (n := n) (by omega) (by omega)]
    have e1 : ((n : Int) - 1 - i).toNat = n - (i + 1) := by omega
    have e2 : n - i = n - (i + 1) + 1 := by omega
    have e3 : shr .u64 v (8 * (i : Int)) % 256 = (bigL v n).getD (n - (i + 1)) 0 := by
      rw [bigL_get _ _ _ (by omega), shr64 _ _ (by omega)]
      congr 3; omega
    rw [e1, e3, e2, fill_back _ _ _ (by rw [bigL_len, hl]) (by omega)]
    exact ih k (i + 1) (by omega) (by omega) (by omega)
theorem putBig_f (v : Int) (n : Nat) (h1 : 1 ≤ n) (h8 : n ≤ 8) (k : Nat) (hk : n + 1 < k) : octet_PutBig.f k v (n : Int) = some (strOfNums (bigL v n)) := by
  obtain ⟨k, rfl⟩ : ∃ m, k = m + 1 := ⟨k - 1, by omega⟩
  unfold octet_PutBig.f
  rw [if_neg (by omega)]
  simp only [octet_PutBig.j0]
  rw [if_neg (by simp; omega), if_pos (by omega), Int.toNat_natCast, if_pos (by omega)]
  simp only [Option.bind_some, List.length_replicate]
  have := putBig_l0 v n h8 (List.replicate n 0) (by simp) n k 0 (by omega) (by omega) (by omega)
  rw [Nat.sub_zero, List.take_of_length_le (by simp), List.drop_of_length_le (by rw [bigL_len]; omega), List.append_nil] at this
  exact this
def num (l : List UInt8) : Int := l.foldl (fun v c => v * 256 + (c.toNat : Int)) 0
theorem num_snoc (l : List UInt8) (c : UInt8) : num (l ++ [c]) = num l * 256 + (c.toNat : Int) := by simp [num, List.foldl_append]
theorem snoc_ind {α : Type} {motive : List α → Prop} (h0 : motive []) (hs : ∀ l c, motive l → motive (l ++ [c])) (l : List α) : motive l := by
  rw [← l.reverse_reverse]
  induction l.reverse with
  | nil => exact h0
  | cons c r ih => rw [List.reverse_cons]; exact hs _ _ ih
theorem pow256_le {a b : Nat} (h : a ≤ b) : (256 : Int) ^ a ≤ 256 ^ b := by
  have h2 : ((256 ^ a : Nat) : Int) ≤ ((256 ^ b : Nat) : Int) := Int.ofNat_le.2 (Nat.pow_le_pow_right (n := 256) (by decide) h)
  rw [Int.natCast_pow, Int.natCast_pow] at h2
  exact h2
theorem num_bd (l : List UInt8) : 0 ≤ num l ∧ num l < 256 ^ l.length := by
  induction l using snoc_ind with
  | h0 => exact ⟨by decide, by decide⟩
  | hs l c ih =>
    rw [num_snoc, List.length_append, List.length_singleton, Int.pow_succ]
    have := c.toNat_lt
    omega
theorem bigF_num (l : List UInt8) (h : l.length ≤ 8) : octet_Big.bigF l = num l := by
  induction l using snoc_ind with
  | h0 => rfl
  | hs l c ih =>
    rw [List.length_append, List.length_singleton] at h
    have hb := num_bd l
    have h7 : (256 : Int) ^ l.length ≤ 256 ^ 7 := pow256_le (by omega)
    have := c.toNat_lt
    unfold octet_Big.bigF at ih ⊢
    rw [List.foldl_append, ih (by omega)]
    simp only [List.foldl_cons, List.foldl_nil]
    rw [or_byte _ _ hb.1 (by omega) (by omega), num_snoc]
theorem big_f (b : ByteArray) (hb : b.size ≤ 140737488351232) : octet_Big.f b = some (num ((L b).drop (b.size - 8))) := by
  unfold octet_Big.f
  rw [if_pos (by omega)]
  have e : (b.extract (b.size - 8) b.size).data.toList = (L b).drop (b.size - 8) := by
    have := L_ext_ b (b.size - 8) b.size
    rw [show (b.extract (b.size - 8) b.size).data.toList = L (b.extract (b.size - 8) b.size) from rfl, this, ← L_len, List.take_length]
  rw [e, bigF_num _ (by rw [List.length_drop, L_len]; omega)]
def bytesOf (l : List Int) : List UInt8 := l.map fun n => UInt8.ofNat n.toNat
theorem bigL_succ (v : Int) (hv : 0 ≤ v) (n : Nat) : bigL v (n + 1) = bigL (v / 256) n ++ [v % 256] := by
  unfold bigL
  rw [List.range_succ, List.map_append, List.map_singleton]
  congr 1
  · apply List.map_congr_left
    intro j hj
    have hj' : j < n := by simpa using hj
    have e : n + 1 - 1 - j = (n - 1 - j) + 1 := by omega
    rw [e, Int.pow_succ, Int.mul_comm, ← Int.ediv_ediv_of_nonneg (by decide)]
  · have e : n + 1 - 1 - n = 0 := by omega
    rw [e, Int.pow_zero, Int.ediv_one]
theorem split_mod (v p : Int) (hv : 0 ≤ v) (hp : 0 < p) : v / 256 % p * 256 + v % 256 = v % (p * 256) := by
  have h1 := Int.mul_ediv_add_emod v 256
  have h2 := Int.mul_ediv_add_emod (v / 256) p
  have h3 := Int.emod_nonneg (v / 256) (show p ≠ 0 by omega)
  have h4 := Int.emod_lt_of_pos (v / 256) hp
  have h5 : v = p * 256 * (v / 256 / p) + (v / 256 % p * 256 + v % 256) := by
    have e : p * 256 * (v / 256 / p) = 256 * (p * (v / 256 / p)) := by rw [Int.mul_comm p 256, Int.mul_assoc]
    rw [e]; omega
  have h6 : v / 256 % p * 256 + v % 256 < p * 256 := by omega
  conv => rhs; rw [h5]
  rw [Int.mul_add_emod_self_left, Int.emod_eq_of_lt (by omega) h6]
theorem num_big (n : Nat) : ∀ v : Int, 0 ≤ v → num (bytesOf (bigL v n)) = v % 256 ^ n := by
  induction n with
  | zero => intro v _; rw [Int.pow_zero, Int.emod_one]; rfl
  | succ n ih =>
    intro v hv
    rw [bigL_succ v hv, bytesOf, List.map_append, List.map_singleton, num_snoc, ← bytesOf, ih _ (by omega)]
    have e : ((UInt8.ofNat (v % 256).toNat).toNat : Int) = v % 256 := by
      simp only [UInt8.toNat_ofNat']; omega
    have hp : (0 : Int) < 256 ^ n := Int.pow_pos (by decide)
    rw [e, Int.pow_succ]
    generalize (256 : Int) ^ n = p at *
    exact split_mod v p hv hp
theorem L_big (v : Int) (n : Nat) : L (strOfNums (bigL v n)) = bytesOf (bigL v n) := L_nums _
theorem size_big (v : Int) (n : Nat) : (strOfNums (bigL v n)).size = n := by rw [size_nums, bigL_len]
theorem big_big (v : Int) (n : Nat) (hn : n ≤ 8) (hv : 0 ≤ v) : octet_Big.f (strOfNums (bigL v n)) = some (v % 256 ^ n) := by
  rw [big_f _ (by rw [size_big]; omega), size_big, show n - 8 = 0 by omega, List.drop_zero, L_big, num_big _ _ hv]
theorem div_pow (v : Int) (i : Nat) : v / 256 ^ i / 256 = v / 256 ^ (i + 1) := by
  rw [Int.pow_succ, Int.ediv_ediv_of_nonneg (Int.pow_nonneg (by decide))]
theorem div_bd (v : Int) (h : 0 ≤ v ∧ v ≤ 18446744073709551615) (i : Nat) : 0 ≤ v / 256 ^ i ∧ v / 256 ^ i ≤ 18446744073709551615 := by
  have hp : (0 : Int) < 256 ^ i := Int.pow_pos (by decide)
  refine ⟨Int.ediv_nonneg h.1 (by omega), ?_⟩
  have := Int.ediv_le_self (256 ^ i) h.1
  omega
theorem refPutBig_l0 (v : Int) (hv : 0 ≤ v ∧ v ≤ 18446744073709551615) (n : Nat) (hn : n ≤ 8) (xs : List Int) (hl : xs.length = n) (d : Nat) : ∀ (k : Nat), d ≤ n → d < k →
    escutcheonref1_PutBig.l0 k (v / 256 ^ (n - d)) (xs.take d ++ (bigL v n).drop d) ((d : Int) - 1) = some (strOfNums (bigL v n)) := by
  induction d with
  | zero =>
    intro k h1 h3
    obtain ⟨k, rfl⟩ : ∃ m, k = m + 1 := ⟨k - 1, by omega⟩
    simp only [escutcheonref1_PutBig.l0]
    rw [if_neg (by omega), List.take_zero, List.drop_zero, List.nil_append]
  | succ d ih =>
    intro k h1 h3
    obtain ⟨k, rfl⟩ : ∃ m, k = m + 1 := ⟨k - 1, by omega⟩
    simp only [escutcheonref1_PutBig.l0]
    have hb := div_bd v hv (n - (d + 1))
    have hlen := fill_back_len (bigL v n) xs (d + 1) (by rw [bigL_len, hl]) (by omega)
    have e0 : (((d + 1 : Nat) : Int) - 1).toNat = d := by omega
    have e1 : n - (d + 1) + 1 = n - d := by omega
    have e2 : ((d + 1 : Nat) : Int) - 1 - 1 = (d : Int) - 1 := by omega
    have e3 : v / 256 ^ (n - (d + 1)) % 256 % 256 = (bigL v n).getD d 0 := by
      rw [bigL_get _ _ _ (by omega)]
      have : n - 1 - d = n - (d + 1) := by omega
      rw [this]; omega
    rw [hlen, if_pos (by omega), if_pos (by omega), if_pos (by omega), and255 _ hb.1 (by omega), Int.tdiv_eq_ediv_of_nonneg hb.1, wu64 (by omega) (by omega), w64 (by omega) (by omega), div_pow, e0, e1, e2, e3, fill_back _ _ _ (by rw [bigL_len, hl]) (by omega)]
    exact ih k (by omega) (by omega)
theorem refPutBig_f (v : Int) (hv : 0 ≤ v ∧ v ≤ 18446744073709551615) (n : Nat) (h1 : 1 ≤ n) (h8 : n ≤ 8) (k : Nat) (hk : n + 1 < k) : escutcheonref1_PutBig.f k v (n : Int) = some (strOfNums (bigL v n)) := by
  obtain ⟨k, rfl⟩ : ∃ m, k = m + 1 := ⟨k - 1, by omega⟩
  unfold escutcheonref1_PutBig.f
  rw [if_neg (by omega)]
  simp only [escutcheonref1_PutBig.j0]
  rw [if_neg (by simp; omega), if_pos (by omega), Int.toNat_natCast, if_pos (by omega), w64 (by omega) (by omega)]
  have := refPutBig_l0 v hv n h8 (List.replicate n 0) (by simp) n k (by omega) (by omega)
  rw [Nat.sub_self, Int.pow_zero, Int.ediv_one, List.take_of_length_le (by simp), List.drop_of_length_le (by rw [bigL_len]; omega), List.append_nil] at this
  exact this
theorem plus_byte (v c : Int) (hv : 0 ≤ v) (hv2 : v < 2 ^ 56) (hc : 0 ≤ c ∧ c ≤ 255) : IntKind.u64.wrap (IntKind.u64.wrap (v * 256) + IntKind.u64.wrap c) = v * 256 + c := by
  rw [wu64 (n := v * 256) (by omega) (by omega), wu64 (n := c) (by omega) (by omega), wu64 (by omega) (by omega)]
theorem refBig_l0 (b : ByteArray) (hb : b.size ≤ 140737488351232) (d : Nat) : ∀ (k i : Nat), b.size - 8 ≤ i → i ≤ b.size → b.size - i = d → d < k →
    escutcheonref1_Big.l0 k b (num (((L b).drop (b.size - 8)).take (i - (b.size - 8)))) (i : Int) = some (num ((L b).drop (b.size - 8))) := by
  induction d with
  | zero =>
    intro k i h0 h1 h2 h3
    obtain ⟨k, rfl⟩ : ∃ m, k = m + 1 := ⟨k - 1, by omega⟩
    simp only [escutcheonref1_Big.l0]
    rw [if_neg (by omega), List.take_of_length_le (by rw [List.length_drop, L_len]; omega)]
  | succ d ih =>
    intro k i h0 h1 h2 h3
    obtain ⟨k, rfl⟩ : ∃ m, k = m + 1 := ⟨k - 1, by omega⟩
    simp only [escutcheonref1_Big.l0]
    have hbd := num_bd (((L b).drop (b.size - 8)).take (i - (b.size - 8)))
    have hll : (((L b).drop (b.size - 8)).take (i - (b.size - 8))).length ≤ 7 := by rw [List.length_take]; omega
    have h7 := pow256_le hll
    have hr := bt_range b (i : Int)
    have hi : i < (L b).length := by rw [L_len]; omega
    have hbt : bt b (i : Int) = ((L b)[i].toNat : Int) := by rw [bt_L, Int.toNat_natCast, List.getElem?_eq_getElem hi]; rfl
    rw [if_pos (by omega), if_pos (by omega), plus_byte _ _ hbd.1 (by omega) hr, wrap64_succ (n := b.size) (by omega) (by omega), hbt, ← num_snoc]
    have e : ((L b).drop (b.size - 8)).take (i - (b.size - 8)) ++ [(L b)[i]] = ((L b).drop (b.size - 8)).take (i + 1 - (b.size - 8)) := by
      have hlt : i - (b.size - 8) < ((L b).drop (b.size - 8)).length := by rw [List.length_drop, L_len]; omega
      have e2 : i + 1 - (b.size - 8) = i - (b.size - 8) + 1 := by omega
      rw [e2, List.take_succ_eq_append_getElem hlt, List.getElem_drop]
      congr 3; omega
    rw [e]
    exact ih k (i + 1) (by omega) (by omega) (by omega) (by omega)
theorem refBig_f (b : ByteArray) (hb : b.size ≤ 140737488351232) (k : Nat) (hk : 9 ≤ k) : escutcheonref1_Big.f k b = some (num ((L b).drop (b.size - 8))) := by
  unfold escutcheonref1_Big.f
  have hm : mx (wrap64 ((b.size : Int) - 8)) 0 = ((b.size - 8 : Nat) : Int) := by rw [w64 (by omega) (by omega)]; unfold mx; split <;> omega
  rw [hm]
  have := refBig_l0 b hb (b.size - (b.size - 8)) k (b.size - 8) (by omega) (by omega) rfl (by omega)
  rw [Nat.sub_self, List.take_zero] at this
  exact this
theorem clone_f (b : ByteArray) (h : b.size ≤ 281474976710656) : strings_Clone.f b = some b := by
  unfold strings_Clone.f stringslite_Clone.f
  rw [if_pos (by omega)]; rfl
end Go.Proofs.Ytoepiofmkjajaaa.B
