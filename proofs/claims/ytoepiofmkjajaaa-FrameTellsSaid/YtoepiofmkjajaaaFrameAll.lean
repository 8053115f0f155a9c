import Derived.Test.YtoepiofmkjajaaaBase
import Derived.Test.YtoepiofmkjajaaaBits
import Derived.Test.YtoepiofmkjajaaaPx5
import Derived.Test.YtoepiofmkjajaaaPx6
import Derived.Test.YtoepiofmkjajaaaPx9
import Derived.Test.YtoepiofmkjajaaaPx14
import Derived.Test.YtoepiofmkjajaaaPx7
import Derived.Test.YtoepiofmkjajaaaPx8
import Derived.Test.YtoepiofmkjajaaaPx12
import Derived.Test.YtoepiofmkjajaaaPx0
import Derived.Test.YtoepiofmkjajaaaWMore
import Derived.Test.YtoepiofmkjajaaaPx19
import Derived.Test.YtoepiofmkjajaaaPx21
import Derived.Test.YtoepiofmkjajaaaPx22
import Derived.Test.YtoepiofmkjajaaaPx23
import Derived.Test.YtoepiofmkjajaaaPx24
import Derived.Test.YtoepiofmkjajaaaPx25
import Derived.Test.YtoepiofmkjajaaaPx26
import Derived.Test.YtoepiofmkjajaaaPx27
/- octet's PutBig, Big and the reference's, in the seat of frame (out of OctetB, OctetC, OctetR) -/
namespace Go.Proofs.Ytoepiofmkjajaaa.B
open Go.RowKit Go.Proofs.Ytoepiofmkjajaaa.P Go.Proofs.YtoepiofmkjajaaaW.PrintWords Go.Proofs.YtoepiofmkjajaaaW.PrintLast Go.Proofs.YtoepiofmkjajaaaW.PrintMore
set_option linter.unusedVariables false
set_option linter.unusedSimpArgs false

def bigL (v : Int) (n : Nat) : List Int := (List.range n).map fun j => v / 256 ^ (n - 1 - j) % 256
theorem bigL_len (v : Int) (n : Nat) : (bigL v n).length = n := by simp [bigL]
theorem bigL_get (v : Int) (n j : Nat) (h : j < n) : (bigL v n).getD j 0 = v / 256 ^ (n - 1 - j) % 256 := by
  simp [bigL, List.getD_eq_getElem?_getD, h]
theorem putBig_l0 (v : Int) (n : Nat) (hn : n ≤ 8) (xs : List Int) (hl : xs.length = n) (d : Nat) : ∀ (k i : Nat), i ≤ n → n - i = d → d < k →
    octet_PutBig.l0 k v (n : Int) (xs.take (n - i) ++ (bigL v n).drop (n - i)) (n : Int) (i : Int) = some (strOfNums (bigL v n)) := by
  induction d with
  | zero =>
    intro k i h1 h2 h3
    obtain ⟨k, rfl⟩ : ∃ m, k = m + 1 := ⟨k - 1, by omega⟩
    simp only [octet_PutBig.l0]
    rw [if_neg (by omega)]
    have : i = n := by omega
    subst this
    rw [Nat.sub_self, List.take_zero, List.drop_zero, List.nil_append]
  | succ d ih =>
    intro k i h1 h2 h3
    obtain ⟨k, rfl⟩ : ∃ m, k = m + 1 := ⟨k - 1, by omega⟩
    simp only [octet_PutBig.l0]
    have hlen := fill_back_len (bigL v n) xs (n - i) (by rw [bigL_len, hl]) (by omega)
    rw [w64 (n := 8 * (i : Int)) (by omega) (by omega), w64 (n := (n : Int) - 1) (by omega) (by omega), w64 (n := (n : Int) - 1 - i) (by omega) (by omega), hlen]
    rw [if_pos (by omega), if_pos (by omega), if_pos (by omega), if_pos (by omega), wrap64_succ (n := n) (by omega) (by omega)]
    have e1 : ((n : Int) - 1 - i).toNat = n - (i + 1) := by omega
    have e2 : n - i = n - (i + 1) + 1 := by omega
    have e3 : shr .u64 v (8 * (i : Int)) % 256 = (bigL v n).getD (n - (i + 1)) 0 := by
      rw [bigL_get _ _ _ (by omega), shr64 _ _ (by omega)]
      congr 3; omega
    rw [e1, e3, e2, fill_back _ _ _ (by rw [bigL_len, hl]) (by omega)]
    exact ih k (i + 1) (by omega) (by omega) (by omega)
theorem putBig_f (v : Int) (n : Nat) (h1 : 1 ≤ n) (h8 : n ≤ 8) (k : Nat) (hk : n + 1 < k) : octet_PutBig.f k v (n : Int) = some (strOfNums (bigL v n)) := by
  obtain ⟨k, rfl⟩ : ∃ m, k = m + 1 := ⟨k - 1, by omega⟩
  unfold octet_PutBig.f
  rw [if_neg (by omega)]
  simp only [octet_PutBig.j0]
  rw [if_neg (by simp; omega), if_pos (by omega), Int.toNat_natCast, if_pos (by omega)]
  simp only [Option.bind_some, List.length_replicate]
  have := putBig_l0 v n h8 (List.replicate n 0) (by simp) n k 0 (by omega) (by omega) (by omega)
  rw [Nat.sub_zero, List.take_of_length_le (by simp), List.drop_of_length_le (by rw [bigL_len]; omega), List.append_nil] at this
  exact this
def num (l : List UInt8) : Int := l.foldl (fun v c => v * 256 + (c.toNat : Int)) 0
theorem num_snoc (l : List UInt8) (c : UInt8) : num (l ++ [c]) = num l * 256 + (c.toNat : Int) := by simp [num, List.foldl_append]
theorem snoc_ind {α : Type} {motive : List α → Prop} (h0 : motive []) (hs : ∀ l c, motive l → motive (l ++ [c])) (l : List α) : motive l := by
  rw [← l.reverse_reverse]
  induction l.reverse with
  | nil => exact h0
  | cons c r ih => rw [List.reverse_cons]; exact hs _ _ ih
theorem pow256_le {a b : Nat} (h : a ≤ b) : (256 : Int) ^ a ≤ 256 ^ b := by
  have h2 : ((256 ^ a : Nat) : Int) ≤ ((256 ^ b : Nat) : Int) := Int.ofNat_le.2 (Nat.pow_le_pow_right (n := 256) (by decide) h)
  rw [Int.natCast_pow, Int.natCast_pow] at h2
  exact h2
theorem num_bd (l : List UInt8) : 0 ≤ num l ∧ num l < 256 ^ l.length := by
  induction l using snoc_ind with
  | h0 => exact ⟨by decide, by decide⟩
  | hs l c ih =>
    rw [num_snoc, List.length_append, List.length_singleton, Int.pow_succ]
    have := c.toNat_lt
    omega
theorem bigF_num (l : List UInt8) (h : l.length ≤ 8) : octet_Big.bigF l = num l := by
  induction l using snoc_ind with
  | h0 => rfl
  | hs l c ih =>
    rw [List.length_append, List.length_singleton] at h
    have hb := num_bd l
    have h7 : (256 : Int) ^ l.length ≤ 256 ^ 7 := pow256_le (by omega)
    have := c.toNat_lt
    unfold octet_Big.bigF at ih ⊢
    rw [List.foldl_append, ih (by omega)]
    simp only [List.foldl_cons, List.foldl_nil]
    rw [or_byte _ _ hb.1 (by omega) (by omega), num_snoc]
theorem big_f (b : ByteArray) (hb : b.size ≤ 140737488351232) : octet_Big.f b = some (num ((L b).drop (b.size - 8))) := by
  unfold octet_Big.f
  rw [if_pos (by omega)]
  have e : (b.extract (b.size - 8) b.size).data.toList = (L b).drop (b.size - 8) := by
    have := L_ext_ b (b.size - 8) b.size
    rw [show (b.extract (b.size - 8) b.size).data.toList = L (b.extract (b.size - 8) b.size) from rfl, this, ← L_len, List.take_length]
  rw [e, bigF_num _ (by rw [List.length_drop, L_len]; omega)]
def bytesOf (l : List Int) : List UInt8 := l.map fun n => UInt8.ofNat n.toNat
theorem bigL_succ (v : Int) (hv : 0 ≤ v) (n : Nat) : bigL v (n + 1) = bigL (v / 256) n ++ [v % 256] := by
  unfold bigL
  rw [List.range_succ, List.map_append, List.map_singleton]
  congr 1
  · apply List.map_congr_left
    intro j hj
    have hj' : j < n := by simpa using hj
    have e : n + 1 - 1 - j = (n - 1 - j) + 1 := by omega
    rw [e, Int.pow_succ, Int.mul_comm, ← Int.ediv_ediv_of_nonneg (by decide)]
  · have e : n + 1 - 1 - n = 0 := by omega
    rw [e, Int.pow_zero, Int.ediv_one]
theorem split_mod (v p : Int) (hv : 0 ≤ v) (hp : 0 < p) : v / 256 % p * 256 + v % 256 = v % (p * 256) := by
  have h1 := Int.mul_ediv_add_emod v 256
  have h2 := Int.mul_ediv_add_emod (v / 256) p
  have h3 := Int.emod_nonneg (v / 256) (show p ≠ 0 by omega)
  have h4 := Int.emod_lt_of_pos (v / 256) hp
  have h5 : v = p * 256 * (v / 256 / p) + (v / 256 % p * 256 + v % 256) := by
    have e : p * 256 * (v / 256 / p) = 256 * (p * (v / 256 / p)) := by rw [Int.mul_comm p 256, Int.mul_assoc]
    rw [e]; omega
  have h6 : v / 256 % p * 256 + v % 256 < p * 256 := by omega
  conv => rhs; rw [h5]
  rw [Int.mul_add_emod_self_left, Int.emod_eq_of_lt (by omega) h6]
theorem num_big (n : Nat) : ∀ v : Int, 0 ≤ v → num (bytesOf (bigL v n)) = v % 256 ^ n := by
  induction n with
  | zero => intro v _; rw [Int.pow_zero, Int.emod_one]; rfl
  | succ n ih =>
    intro v hv
    rw [bigL_succ v hv, bytesOf, List.map_append, List.map_singleton, num_snoc, ← bytesOf, ih _ (by omega)]
    have e : ((UInt8.ofNat (v % 256).toNat).toNat : Int) = v % 256 := by
      simp only [UInt8.toNat_ofNat']; omega
    have hp : (0 : Int) < 256 ^ n := Int.pow_pos (by decide)
    rw [e, Int.pow_succ]
    generalize (256 : Int) ^ n = p at *
    exact split_mod v p hv hp
theorem L_big (v : Int) (n : Nat) : L (strOfNums (bigL v n)) = bytesOf (bigL v n) := L_nums _
theorem size_big (v : Int) (n : Nat) : (strOfNums (bigL v n)).size = n := by rw [size_nums, bigL_len]
theorem big_big (v : Int) (n : Nat) (hn : n ≤ 8) (hv : 0 ≤ v) : octet_Big.f (strOfNums (bigL v n)) = some (v % 256 ^ n) := by
  rw [big_f _ (by rw [size_big]; omega), size_big, show n - 8 = 0 by omega, List.drop_zero, L_big, num_big _ _ hv]
theorem div_pow (v : Int) (i : Nat) : v / 256 ^ i / 256 = v / 256 ^ (i + 1) := by
  rw [Int.pow_succ, Int.ediv_ediv_of_nonneg (Int.pow_nonneg (by decide))]
theorem div_bd (v : Int) (h : 0 ≤ v ∧ v ≤ 18446744073709551615) (i : Nat) : 0 ≤ v / 256 ^ i ∧ v / 256 ^ i ≤ 18446744073709551615 := by
  have hp : (0 : Int) < 256 ^ i := Int.pow_pos (by decide)
  refine ⟨Int.ediv_nonneg h.1 (by omega), ?_⟩
  have := Int.ediv_le_self (256 ^ i) h.1
  omega
theorem refPutBig_l0 (v : Int) (hv : 0 ≤ v ∧ v ≤ 18446744073709551615) (n : Nat) (hn : n ≤ 8) (xs : List Int) (hl : xs.length = n) (d : Nat) : ∀ (k : Nat), d ≤ n → d < k →
    escutcheonref1_PutBig.l0 k (v / 256 ^ (n - d)) (xs.take d ++ (bigL v n).drop d) ((d : Int) - 1) = some (strOfNums (bigL v n)) := by
  induction d with
  | zero =>
    intro k h1 h3
    obtain ⟨k, rfl⟩ : ∃ m, k = m + 1 := ⟨k - 1, by omega⟩
    simp only [escutcheonref1_PutBig.l0]
    rw [if_neg (by omega), List.take_zero, List.drop_zero, List.nil_append]
  | succ d ih =>
    intro k h1 h3
    obtain ⟨k, rfl⟩ : ∃ m, k = m + 1 := ⟨k - 1, by omega⟩
    simp only [escutcheonref1_PutBig.l0]
    have hb := div_bd v hv (n - (d + 1))
    have hlen := fill_back_len (bigL v n) xs (d + 1) (by rw [bigL_len, hl]) (by omega)
    have e0 : (((d + 1 : Nat) : Int) - 1).toNat = d := by omega
    have e1 : n - (d + 1) + 1 = n - d := by omega
    have e2 : ((d + 1 : Nat) : Int) - 1 - 1 = (d : Int) - 1 := by omega
    have e3 : v / 256 ^ (n - (d + 1)) % 256 % 256 = (bigL v n).getD d 0 := by
      rw [bigL_get _ _ _ (by omega)]
      have : n - 1 - d = n - (d + 1) := by omega
      rw [this]; omega
    rw [hlen, if_pos (by omega), if_pos (by omega), if_pos (by omega), and255 _ hb.1 (by omega), Int.tdiv_eq_ediv_of_nonneg hb.1, wu64 (by omega) (by omega), w64 (by omega) (by omega), div_pow, e0, e1, e2, e3, fill_back _ _ _ (by rw [bigL_len, hl]) (by omega)]
    exact ih k (by omega) (by omega)
theorem refPutBig_f (v : Int) (hv : 0 ≤ v ∧ v ≤ 18446744073709551615) (n : Nat) (h1 : 1 ≤ n) (h8 : n ≤ 8) (k : Nat) (hk : n + 1 < k) : escutcheonref1_PutBig.f k v (n : Int) = some (strOfNums (bigL v n)) := by
  obtain ⟨k, rfl⟩ : ∃ m, k = m + 1 := ⟨k - 1, by omega⟩
  unfold escutcheonref1_PutBig.f
  rw [if_neg (by omega)]
  simp only [escutcheonref1_PutBig.j0]
  rw [if_neg (by simp; omega), if_pos (by omega), Int.toNat_natCast, if_pos (by omega), w64 (by omega) (by omega)]
  have := refPutBig_l0 v hv n h8 (List.replicate n 0) (by simp) n k (by omega) (by omega)
  rw [Nat.sub_self, Int.pow_zero, Int.ediv_one, List.take_of_length_le (by simp), List.drop_of_length_le (by rw [bigL_len]; omega), List.append_nil] at this
  exact this
theorem plus_byte (v c : Int) (hv : 0 ≤ v) (hv2 : v < 2 ^ 56) (hc : 0 ≤ c ∧ c ≤ 255) : IntKind.u64.wrap (IntKind.u64.wrap (v * 256) + IntKind.u64.wrap c) = v * 256 + c := by
  rw [wu64 (n := v * 256) (by omega) (by omega), wu64 (n := c) (by omega) (by omega), wu64 (by omega) (by omega)]
theorem refBig_l0 (b : ByteArray) (hb : b.size ≤ 140737488351232) (d : Nat) : ∀ (k i : Nat), b.size - 8 ≤ i → i ≤ b.size → b.size - i = d → d < k →
    escutcheonref1_Big.l0 k b (num (((L b).drop (b.size - 8)).take (i - (b.size - 8)))) (i : Int) = some (num ((L b).drop (b.size - 8))) := by
  induction d with
  | zero =>
    intro k i h0 h1 h2 h3
    obtain ⟨k, rfl⟩ : ∃ m, k = m + 1 := ⟨k - 1, by omega⟩
    simp only [escutcheonref1_Big.l0]
    rw [if_neg (by omega), List.take_of_length_le (by rw [List.length_drop, L_len]; omega)]
  | succ d ih =>
    intro k i h0 h1 h2 h3
    obtain ⟨k, rfl⟩ : ∃ m, k = m + 1 := ⟨k - 1, by omega⟩
    simp only [escutcheonref1_Big.l0]
    have hbd := num_bd (((L b).drop (b.size - 8)).take (i - (b.size - 8)))
    have hll : (((L b).drop (b.size - 8)).take (i - (b.size - 8))).length ≤ 7 := by rw [List.length_take]; omega
    have h7 := pow256_le hll
    have hr := bt_range b (i : Int)
    have hi : i < (L b).length := by rw [L_len]; omega
    have hbt : bt b (i : Int) = ((L b)[i].toNat : Int) := by rw [bt_L, Int.toNat_natCast, List.getElem?_eq_getElem hi]; rfl
    rw [if_pos (by omega), if_pos (by omega), plus_byte _ _ hbd.1 (by omega) hr, wrap64_succ (n := b.size) (by omega) (by omega), hbt, ← num_snoc]
    have e : ((L b).drop (b.size - 8)).take (i - (b.size - 8)) ++ [(L b)[i]] = ((L b).drop (b.size - 8)).take (i + 1 - (b.size - 8)) := by
      have hlt : i - (b.size - 8) < ((L b).drop (b.size - 8)).length := by rw [List.length_drop, L_len]; omega
      have e2 : i + 1 - (b.size - 8) = i - (b.size - 8) + 1 := by omega
      rw [e2, List.take_succ_eq_append_getElem hlt, List.getElem_drop]
      congr 3; omega
    rw [e]
    exact ih k (i + 1) (by omega) (by omega) (by omega) (by omega)
theorem refBig_f (b : ByteArray) (hb : b.size ≤ 140737488351232) (k : Nat) (hk : 9 ≤ k) : escutcheonref1_Big.f k b = some (num ((L b).drop (b.size - 8))) := by
  unfold escutcheonref1_Big.f
  have hm : mx (wrap64 ((b.size : Int) - 8)) 0 = ((b.size - 8 : Nat) : Int) := by rw [w64 (by omega) (by omega)]; unfold mx; split <;> omega
  rw [hm]
  have := refBig_l0 b hb (b.size - (b.size - 8)) k (b.size - 8) (by omega) (by omega) rfl (by omega)
  rw [Nat.sub_self, List.take_zero] at this
  exact this
theorem clone_f (b : ByteArray) (h : b.size ≤ 281474976710656) : strings_Clone.f b = some b := by
  unfold strings_Clone.f stringslite_Clone.f
  rw [if_pos (by omega)]; rfl
end Go.Proofs.Ytoepiofmkjajaaa.B
/- Frames as a plain function: what next and Feed tell, what Put lays. -/
namespace Go.Proofs.Ytoepiofmkjajaaa.B
open Go.RowKit Go.Proofs.Ytoepiofmkjajaaa.P Go.Proofs.YtoepiofmkjajaaaW.PrintWords Go.Proofs.YtoepiofmkjajaaaW.PrintLast Go.Proofs.YtoepiofmkjajaaaW.PrintMore
set_option linter.unusedVariables false
set_option linter.unusedSimpArgs false

/-- The length at the beginning of bytes. -/
def hd (s : ByteArray) : Int := bt s 0 * 256 + bt s 1
theorem hd_bd (s : ByteArray) : 0 ≤ hd s ∧ hd s ≤ 65535 := by
  have h0 := bt_range s 0
  have h1 := bt_range s 1
  unfold hd; omega
theorem L_two (s : ByteArray) (h : 2 ≤ s.size) : (L s).take 2 = [(L s)[0]'(by rw [L_len]; omega), (L s)[1]'(by rw [L_len]; omega)] := by
  have h1 : 1 < (L s).length := by rw [L_len]; omega
  rw [show (2 : Nat) = 0 + 1 + 1 from rfl, List.take_succ_eq_append_getElem (by omega), List.take_succ_eq_append_getElem (by omega), List.take_zero]
  rfl
theorem num_two (s : ByteArray) (h : 2 ≤ s.size) : num (L (s.extract 0 2)) = hd s := by
  have h0 : 0 < (L s).length := by rw [L_len]; omega
  have h1 : 1 < (L s).length := by rw [L_len]; omega
  rw [L_ext_, List.drop_zero, L_two s h]
  unfold num hd
  rw [bt_L, bt_L, show (0 : Int).toNat = 0 from rfl, show (1 : Int).toNat = 1 from rfl, List.getElem?_eq_getElem h0, List.getElem?_eq_getElem h1]
  simp
theorem big_two (s : ByteArray) (h : 2 ≤ s.size) (hs : s.size ≤ 140737488351232) : octet_Big.f (s.extract 0 2) = some (hd s) := by
  have hz : (s.extract 0 2).size = 2 := by rw [size_ext]; omega
  rw [big_f _ (by omega), hz, show 2 - 8 = 0 from rfl, List.drop_zero, num_two s h]
theorem refBig_two (s : ByteArray) (h : 2 ≤ s.size) (hs : s.size ≤ 140737488351232) (k : Nat) (hk : 9 ≤ k) : escutcheonref1_Big.f k (s.extract 0 2) = some (hd s) := by
  have hz : (s.extract 0 2).size = 2 := by rw [size_ext]; omega
  rw [refBig_f _ (by omega) k hk, hz, show 2 - 8 = 0 from rfl, List.drop_zero, num_two s h]
def Fits (s : ByteArray) : Prop := 1 ≤ hd s ∧ hd s ≤ 2200
instance (s : ByteArray) : Decidable (Fits s) := inferInstanceAs (Decidable (_ ∧ _))
/-- A frame's end. -/
def fe (s : ByteArray) : Nat := 2 + (hd s).toNat
theorem right_f (n : Int) : frame_right.f n = some (decide (1 ≤ n ∧ n ≤ 2200)) := by
  unfold frame_right.f
  by_cases h : n ≥ 1
  · rw [if_pos h]; simp [h]
  · rw [if_neg h]
    have : ¬ (1 ≤ n) := by omega
    simp [this]
theorem next_f (s : ByteArray) (hs : s.size ≤ 1000000) (c : Int) (k : Nat) : frame_Reader_next.f (k + 1) s false c = some (
    if s.size < 2 then ((⟨#[]⟩ : ByteArray), false, s, false, c)
    else if Fits s then (if s.size < fe s then ((⟨#[]⟩ : ByteArray), false, s, false, c) else (s.extract 2 (fe s), true, s.extract (fe s) s.size, false, wrap64 (c + 1)))
    else ((⟨#[]⟩ : ByteArray), false, (⟨#[]⟩ : ByteArray), true, c)) := by
  have hb := hd_bd s
  unfold frame_Reader_next.f
  rw [if_neg (by decide), frame_Reader_next.j0]
  by_cases h2 : s.size < 2
  · rw [if_pos h2, decide_eq_true (by omega), if_pos rfl]
  · rw [if_neg h2, decide_eq_false (by omega), if_neg (by decide), if_pos (by decide), if_pos (by omega), big_two s (by omega) (by omega), Option.bind_some, w64 (n := hd s) (by omega) (by omega), right_f, Option.bind_some]
    by_cases hf : Fits s
    · have hf' : 1 ≤ hd s ∧ hd s ≤ 2200 := hf
      rw [if_pos hf, decide_eq_true hf', if_pos rfl, w64 (n := (s.size : Int) - 2) (by omega) (by omega), w64 (n := 2 + hd s) (by omega) (by omega)]
      have hfe : 2 + hd s = ((fe s : Nat) : Int) := by unfold fe; omega
      by_cases hw : s.size < fe s
      · rw [if_pos hw, if_pos (by omega)]
      · rw [if_neg hw, if_neg (by omega), if_pos (by omega), if_pos (by omega), if_pos (by omega), hfe, Int.toNat_natCast]
        unfold atomic_Int64_Add.f
        rw [Option.bind_some, clone_f _ (by rw [size_ext]; omega), Option.bind_some]
    · have hf' : ¬ (1 ≤ hd s ∧ hd s ≤ 2200) := hf
      rw [if_neg hf, decide_eq_false hf', if_neg (by decide)]
/-- The frames at the beginning of bytes, what is left, whether a length may not be. -/
def parse : Nat → ByteArray → List ByteArray × ByteArray × Bool
  | 0, s => ([], s, false)
  | n + 1, s => if s.size < 2 then ([], s, false) else if Fits s then (if s.size < fe s then ([], s, false) else (s.extract 2 (fe s) :: (parse n (s.extract (fe s) s.size)).1, (parse n (s.extract (fe s) s.size)).2)) else ([], (⟨#[]⟩ : ByteArray), true)
theorem fe_ge (s : ByteArray) (h : Fits s) : 3 ≤ fe s ∧ fe s ≤ 2202 := by
  have h' : 1 ≤ hd s ∧ hd s ≤ 2200 := h
  unfold fe; omega
theorem rest_lt (s : ByteArray) (h : Fits s) (h2 : ¬ s.size < 2) : (s.extract (fe s) s.size).size < s.size := by
  have := fe_ge s h
  rw [size_ext]; omega
theorem parse_fuel : ∀ (n m : Nat) (s : ByteArray), s.size ≤ n → s.size ≤ m → parse n s = parse m s
  | 0, 0, s, _, _ => rfl
  | 0, m + 1, s, h, _ => by rw [parse, parse, if_pos (by omega)]
  | n + 1, 0, s, _, h => by rw [parse, parse, if_pos (by omega)]
  | n + 1, m + 1, s, h1, h2 => by
    rw [parse, parse]
    by_cases hs : s.size < 2
    · rw [if_pos hs, if_pos hs]
    · rw [if_neg hs, if_neg hs]
      by_cases hf : Fits s
      · have hl := rest_lt s hf hs
        rw [if_pos hf, if_pos hf, parse_fuel n m (s.extract (fe s) s.size) (by omega) (by omega)]
      · rw [if_neg hf, if_neg hf]
def fr (s : ByteArray) : List ByteArray × ByteArray × Bool := parse s.size s
theorem fr_short (s : ByteArray) (h : s.size < 2) : fr s = ([], s, false) := by
  unfold fr
  cases hn : s.size with
  | zero => rfl
  | succ n => rw [parse, if_pos h]
theorem fr_of (s : ByteArray) (h : ¬ s.size < 2) : fr s = if Fits s then (if s.size < fe s then ([], s, false) else (s.extract 2 (fe s) :: (fr (s.extract (fe s) s.size)).1, (fr (s.extract (fe s) s.size)).2)) else ([], (⟨#[]⟩ : ByteArray), true) := by
  unfold fr
  obtain ⟨n, hn⟩ : ∃ n, s.size = n + 1 := ⟨s.size - 1, by omega⟩
  rw [hn, parse, if_neg h, hn]
  by_cases hf : Fits s
  · have hl := rest_lt s hf h
    rw [hn] at hl
    rw [if_pos hf, if_pos hf, parse_fuel n _ _ (by omega) (Nat.le_refl _)]
  · rw [if_neg hf, if_neg hf]
theorem fr_nil : fr (⟨#[]⟩ : ByteArray) = ([], (⟨#[]⟩ : ByteArray), false) := fr_short _ (by decide)
theorem feed_l0 (n : Nat) : ∀ (s : ByteArray) (out : List ByteArray) (c : Int) (k : Nat), s.size ≤ n → s.size ≤ 1000000 → out.length + s.size < 8000000000000 → n + 2 ≤ k →
    ∃ c', frame_Reader_Feed.l0 k out s false c = some (out ++ (fr s).1, !(fr s).2.2, (fr s).2.1, (fr s).2.2, c') := by
  induction n with
  | zero =>
    intro s out c k hn hs ho hk
    obtain ⟨k, rfl⟩ : ∃ j, k = j + 1 + 1 := ⟨k - 2, by omega⟩
    rw [frame_Reader_Feed.l0, next_f s hs c k, Option.bind_some, if_pos (show s.size < 2 by omega), fr_short s (by omega)]
    simp only [Bool.false_eq_true, if_false]
    exact ⟨c, by rw [List.append_nil]⟩
  | succ n ih =>
    intro s out c k hn hs ho hk
    obtain ⟨k, rfl⟩ : ∃ j, k = j + 1 + 1 := ⟨k - 2, by omega⟩
    rw [frame_Reader_Feed.l0, next_f s hs c k, Option.bind_some]
    by_cases h2 : s.size < 2
    · rw [if_pos h2, fr_short s h2]
      simp only [Bool.false_eq_true, if_false]
      exact ⟨c, by rw [List.append_nil]⟩
    · rw [if_neg h2, fr_of s h2]
      by_cases hf : Fits s
      · rw [if_pos hf, if_pos hf]
        by_cases hw : s.size < fe s
        · rw [if_pos hw, if_pos hw]
          simp only [Bool.false_eq_true, if_false]
          exact ⟨c, by rw [List.append_nil]⟩
        · have hl := rest_lt s hf h2
          rw [if_neg hw, if_neg hw]
          simp only [if_true]
          rw [if_pos (by omega)]
          obtain ⟨c', hc⟩ := ih (s.extract (fe s) s.size) (out ++ [s.extract 2 (fe s)]) (wrap64 (c + 1)) (k + 1) (by omega) (by omega) (by rw [List.length_append, List.length_singleton]; omega) (by omega)
          exact ⟨c', by rw [hc, List.append_assoc]; rfl⟩
      · rw [if_neg hf, if_neg hf]
        simp only [Bool.false_eq_true, if_false]
        exact ⟨c, by rw [List.append_nil]⟩
theorem feed_f (s b : ByteArray) (c : Int) (k : Nat) (h : s.size + b.size ≤ 1000000) (hk : s.size + b.size + 2 ≤ k) :
    ∃ c', frame_Reader_Feed.f k s false c b = some ((fr (s ++ b)).1, !(fr (s ++ b)).2.2, (fr (s ++ b)).2.1, (fr (s ++ b)).2.2, c') := by
  unfold frame_Reader_Feed.f
  rw [if_neg (by decide), if_pos (by omega)]
  have hz := size_app s b
  obtain ⟨c', hc⟩ := feed_l0 (s ++ b).size (s ++ b) [] c k (Nat.le_refl _) (by omega) (by rw [List.length_nil]; omega) (by omega)
  exact ⟨c', by rw [hc, List.nil_append]⟩
theorem feed_dead (s b : ByteArray) (c : Int) (k : Nat) : frame_Reader_Feed.f k s true c b = some ([], false, s, true, c) := by
  unfold frame_Reader_Feed.f
  rw [if_pos rfl]
/-- A frame. -/
def put (b : ByteArray) : ByteArray := strOfNums (bigL (b.size : Int) 2) ++ b
theorem put_size (b : ByteArray) : (put b).size = 2 + b.size := by unfold put; rw [size_app, size_big]
theorem put_f (b : ByteArray) (hb : b.size ≤ 1000000) (k : Nat) (hk : 3 < k) : frame_Put.f k b = some (if 1 ≤ b.size ∧ b.size ≤ 2200 then (put b, true) else ((⟨#[]⟩ : ByteArray), false)) := by
  unfold frame_Put.f
  rw [right_f, Option.bind_some]
  by_cases h : 1 ≤ b.size ∧ b.size ≤ 2200
  · rw [decide_eq_true (by omega), if_pos rfl, if_pos h, wu64 (by omega) (by omega), show (2 : Int) = ((2 : Nat) : Int) from rfl, putBig_f _ 2 (by decide) (by decide) k hk, Option.bind_some, if_pos (by rw [size_big]; omega)]
    rfl
  · rw [decide_eq_false (by omega), if_neg (by decide), if_neg h]
theorem refFrame_f (b : ByteArray) (hb : b.size ≤ 1000000) (k : Nat) (hk : 3 < k) : escutcheonref1_Frame.f k b = some (if 1 ≤ b.size ∧ b.size ≤ 2200 then (put b, true) else ((⟨#[]⟩ : ByteArray), false)) := by
  unfold escutcheonref1_Frame.f
  by_cases h1 : (b.size : Int) < 1
  · rw [if_pos h1, if_neg (by omega)]
  · rw [if_neg h1]
    by_cases h2 : (b.size : Int) > 2200
    · rw [if_pos h2, if_neg (by omega)]
    · rw [if_neg h2, if_pos (by omega), wu64 (by omega) (by omega), show (2 : Int) = ((2 : Nat) : Int) from rfl, refPutBig_f _ ⟨by omega, by omega⟩ 2 (by decide) (by decide) k hk, Option.bind_some, if_pos (by rw [size_big]; omega)]
      rfl
theorem bt_put (b : ByteArray) (t : ByteArray) : bt (put b ++ t) 0 = (b.size : Int) / 256 % 256 ∧ bt (put b ++ t) 1 = (b.size : Int) % 256 := by
  have hz := put_size b
  have hr : ∀ x ∈ bigL (b.size : Int) 2, 0 ≤ x ∧ x ≤ 255 := by
    intro x hx
    simp only [bigL, List.mem_map, List.mem_range] at hx
    obtain ⟨j, _, rfl⟩ := hx
    omega
  have h2 := size_big (b.size : Int) 2
  refine ⟨?_, ?_⟩
  · rw [bt_app_l _ _ _ (by rw [hz]; show 0 < _; omega)]
    unfold put
    rw [bt_app_l _ _ _ (by rw [h2]; decide), bt_nums _ _ hr]
    rfl
  · rw [bt_app_l _ _ _ (by rw [hz]; show 1 < _; omega)]
    unfold put
    rw [bt_app_l _ _ _ (by rw [h2]; decide), bt_nums _ _ hr]
    show (b.size : Int) / 256 ^ 0 % 256 = _
    rw [Int.pow_zero, Int.ediv_one]
theorem hd_put (b t : ByteArray) (hb : b.size ≤ 2200) : hd (put b ++ t) = (b.size : Int) := by
  have h := bt_put b t
  unfold hd
  rw [h.1, h.2]; omega
theorem fits_put (b t : ByteArray) (h1 : 1 ≤ b.size) (hb : b.size ≤ 2200) : Fits (put b ++ t) ∧ fe (put b ++ t) = 2 + b.size := by
  have h := hd_put b t hb
  refine ⟨?_, ?_⟩
  · show 1 ≤ hd _ ∧ hd _ ≤ 2200
    omega
  · unfold fe; omega
theorem fr_put (b t : ByteArray) (h1 : 1 ≤ b.size) (hb : b.size ≤ 2200) : fr (put b ++ t) = (b :: (fr t).1, (fr t).2) := by
  have hz := put_size b
  have hz2 := size_app (put b) t
  obtain ⟨hf, he⟩ := fits_put b t h1 hb
  have ha : (put b ++ t).extract 2 (2 + b.size) = b := by
    apply L_ext
    have hl : (L (put b)).length = 2 + b.size := by rw [L_len, hz]
    rw [L_ext_, L_app, List.take_append_of_le_length (by omega), List.take_of_length_le (by omega)]
    unfold put
    rw [L_app, List.drop_append_of_le_length (by rw [L_len, size_big]; exact Nat.le_refl _), List.drop_of_length_le (by rw [L_len, size_big]; exact Nat.le_refl _), List.nil_append]
  have hr : (put b ++ t).extract (2 + b.size) (put b ++ t).size = t := by
    rw [← hz]
    exact ext_app_r (put b) t _ (by omega)
  rw [fr_of _ (by omega), if_pos hf, he, if_neg (by omega), ha, hr]
theorem hd_app (s t : ByteArray) (h : ¬ s.size < 2) : hd (s ++ t) = hd s := by
  unfold hd
  rw [bt_app_l _ _ _ (by show 0 < _; omega), bt_app_l _ _ _ (by show 1 < _; omega)]
/-- What comes behind. -/
theorem fr_app (n : Nat) : ∀ (s t : ByteArray), s.size ≤ n → (fr s).2.2 = false → fr (s ++ t) = ((fr s).1 ++ (fr ((fr s).2.1 ++ t)).1, (fr ((fr s).2.1 ++ t)).2) := by
  induction n with
  | zero =>
    intro s t hn _
    rw [fr_short s (by omega), List.nil_append]
  | succ n ih =>
    intro s t hn hd0
    by_cases h2 : s.size < 2
    · rw [fr_short s h2, List.nil_append]
    · rw [fr_of s h2] at hd0 ⊢
      have he : fe (s ++ t) = fe s := by unfold fe; rw [hd_app s t h2]
      by_cases hf : Fits s
      · rw [if_pos hf] at hd0 ⊢
        have hf2 : Fits (s ++ t) := by
          have h0 : 1 ≤ hd s ∧ hd s ≤ 2200 := hf
          have h3 := hd_app s t h2
          show 1 ≤ hd (s ++ t) ∧ hd (s ++ t) ≤ 2200
          omega
        by_cases hw : s.size < fe s
        · rw [if_pos hw]
          simp only [List.nil_append]
        · rw [if_neg hw] at hd0 ⊢
          have hl := rest_lt s hf h2
          have ih := ih (s.extract (fe s) s.size) t (by omega) hd0
          have hz := size_app s t
          have h1 : (s ++ t).extract 2 (fe s) = s.extract 2 (fe s) := by
            apply L_ext
            rw [L_ext_, L_ext_, L_app, List.take_append_of_le_length (by rw [L_len]; omega)]
          have h3 : (s ++ t).extract (fe s) (s ++ t).size = s.extract (fe s) s.size ++ t := by
            apply L_ext
            rw [L_ext_, L_app, L_app, L_ext_, List.take_of_length_le (by rw [List.length_append, L_len, L_len]; omega), List.take_of_length_le (l := L s) (by rw [L_len]; exact Nat.le_refl _), List.drop_append_of_le_length (by rw [L_len]; omega)]
          rw [fr_of (s ++ t) (by omega), if_pos hf2, he, if_neg (by omega), h1, h3, ih]
          simp only [List.cons_append]
      · rw [if_neg hf] at hd0
        cases hd0
/-- A frame that is not whole yet. -/
theorem fr_part (b : ByteArray) (h1 : 1 ≤ b.size) (hb : b.size ≤ 2200) (k : Nat) (hk : k < 2 + b.size) : fr ((put b).extract 0 k) = ([], (put b).extract 0 k, false) := by
  have hz := put_size b
  have hzk : ((put b).extract 0 k).size = k := by rw [size_ext]; omega
  by_cases h2 : k < 2
  · exact fr_short _ (by omega)
  · have e : put b = put b ++ (⟨#[]⟩ : ByteArray) := (app_empty _).symm
    have hhd : hd ((put b).extract 0 k) = (b.size : Int) := by
      have h0 := hd_put b (⟨#[]⟩ : ByteArray) hb
      rw [← e] at h0
      unfold hd at h0 ⊢
      rw [bt_ext _ _ _ _ (by show 0 + 0 < k; omega), bt_ext _ _ _ _ (by show 0 + 1 < k; omega)]
      exact h0
    have hf : Fits ((put b).extract 0 k) := by
      show 1 ≤ hd _ ∧ hd _ ≤ 2200
      omega
    have he : fe ((put b).extract 0 k) = 2 + b.size := by unfold fe; omega
    rw [fr_of _ (by omega), if_pos hf, he, if_pos (by omega)]
theorem alive_k (k : Nat) (h : 40 ≤ k) : escutcheonlaw9_alive.f k = some true := at_rounds escutcheonlaw9_alive.mono h (by decide +kernel)
end Go.Proofs.Ytoepiofmkjajaaa.B
/- Frames one behind the other; what is left is no frame. -/
namespace Go.Proofs.Ytoepiofmkjajaaa.B
open Go.RowKit Go.Proofs.Ytoepiofmkjajaaa.P Go.Proofs.YtoepiofmkjajaaaW.PrintWords Go.Proofs.YtoepiofmkjajaaaW.PrintLast Go.Proofs.YtoepiofmkjajaaaW.PrintMore
set_option linter.unusedVariables false
set_option linter.unusedSimpArgs false

def cat : List ByteArray → ByteArray
  | [] => (⟨#[]⟩ : ByteArray)
  | b :: l => put b ++ cat l
theorem app_assoc_ (a b c : ByteArray) : a ++ b ++ c = a ++ (b ++ c) := by
  apply L_ext
  rw [L_app, L_app, L_app, L_app, List.append_assoc]
theorem cat_snoc (l : List ByteArray) (b : ByteArray) : cat (l ++ [b]) = cat l ++ put b := by
  induction l with
  | nil =>
    show put b ++ (⟨#[]⟩ : ByteArray) = (⟨#[]⟩ : ByteArray) ++ put b
    rw [app_empty, empty_app]
  | cons a l ih =>
    show put a ++ cat (l ++ [b]) = put a ++ cat l ++ put b
    rw [ih, app_assoc_]
def Good (l : List ByteArray) : Prop := ∀ b ∈ l, 1 ≤ b.size ∧ b.size ≤ 2200
theorem fr_cat : ∀ (l : List ByteArray), Good l → fr (cat l) = (l, (⟨#[]⟩ : ByteArray), false)
  | [], _ => fr_nil
  | b :: l, h => by
    have hb := h b (by simp)
    show fr (put b ++ cat l) = _
    rw [fr_put b _ hb.1 hb.2, fr_cat l (fun x hx => h x (by simp [hx]))]
theorem cat_size : ∀ (l : List ByteArray) (m : Nat), (∀ b ∈ l, b.size ≤ m) → (cat l).size ≤ l.length * (m + 2)
  | [], m, _ => by show 0 ≤ _; omega
  | b :: l, m, h => by
    have hb := h b (by simp)
    have ih := cat_size l m (fun x hx => h x (by simp [hx]))
    have hz := put_size b
    show (put b ++ cat l).size ≤ _
    rw [size_app, List.length_cons, Nat.add_mul]
    omega
theorem fr_dead_app (n : Nat) : ∀ (s t : ByteArray), s.size ≤ n → (fr s).2.2 = true → (fr (s ++ t)).2.2 = true := by
  induction n with
  | zero =>
    intro s t hn h
    rw [fr_short s (by omega)] at h
    cases h
  | succ n ih =>
    intro s t hn h
    by_cases h2 : s.size < 2
    · rw [fr_short s h2] at h
      cases h
    · have hz := size_app s t
      have he : fe (s ++ t) = fe s := by unfold fe; rw [hd_app s t h2]
      have hh := hd_app s t h2
      rw [fr_of s h2] at h
      rw [fr_of (s ++ t) (by omega)]
      by_cases hf : Fits s
      · have hf2 : Fits (s ++ t) := by
          have h0 : 1 ≤ hd s ∧ hd s ≤ 2200 := hf
          show 1 ≤ hd (s ++ t) ∧ hd (s ++ t) ≤ 2200
          omega
        rw [if_pos hf] at h
        rw [if_pos hf2, he]
        by_cases hw : s.size < fe s
        · rw [if_pos hw] at h
          cases h
        · rw [if_neg hw] at h
          have hl := rest_lt s hf h2
          have h3 : (s ++ t).extract (fe s) (s ++ t).size = s.extract (fe s) s.size ++ t := by
            apply L_ext
            rw [L_ext_, L_app, L_app, L_ext_, List.take_of_length_le (by rw [List.length_append, L_len, L_len]; omega), List.take_of_length_le (l := L s) (by rw [L_len]; exact Nat.le_refl _), List.drop_append_of_le_length (by rw [L_len]; omega)]
          have hlt : (s.extract (fe s) s.size).size ≤ n := by clear h; omega
          dsimp only at h
          rw [if_neg (by clear h; omega), h3]
          dsimp only
          exact ih (s.extract (fe s) s.size) t hlt h
      · have hf2 : ¬ Fits (s ++ t) := by
          have h0 : ¬ (1 ≤ hd s ∧ hd s ≤ 2200) := hf
          show ¬ (1 ≤ hd (s ++ t) ∧ hd (s ++ t) ≤ 2200)
          omega
        rw [if_neg hf2]
/-- What is left has no frame in it. -/
theorem fr_rest (n : Nat) : ∀ (s : ByteArray), s.size ≤ n → (fr s).2.2 = false → fr (fr s).2.1 = ([], (fr s).2.1, false) := by
  induction n with
  | zero =>
    intro s hn _
    rw [fr_short s (by omega)]
    exact fr_short s (by omega)
  | succ n ih =>
    intro s hn h
    by_cases h2 : s.size < 2
    · rw [fr_short s h2]
      exact fr_short s h2
    · have h0 := fr_of s h2
      by_cases hf : Fits s
      · rw [if_pos hf] at h0
        by_cases hw : s.size < fe s
        · rw [if_pos hw] at h0
          rw [h0]
          exact h0
        · rw [if_neg hw] at h0
          rw [h0] at h ⊢
          have hl := rest_lt s hf h2
          have hlt : (s.extract (fe s) s.size).size ≤ n := by clear h h0; omega
          dsimp only at h ⊢
          exact ih (s.extract (fe s) s.size) hlt h
      · rw [if_neg hf] at h0
        rw [h0] at h
        cases h
theorem rest_le (n : Nat) : ∀ (s : ByteArray), s.size ≤ n → (fr s).2.1.size ≤ s.size := by
  induction n with
  | zero =>
    intro s hn
    rw [fr_short s (by omega)]
    exact Nat.le_refl _
  | succ n ih =>
    intro s hn
    by_cases h2 : s.size < 2
    · rw [fr_short s h2]
      exact Nat.le_refl _
    · rw [fr_of s h2]
      by_cases hf : Fits s
      · rw [if_pos hf]
        by_cases hw : s.size < fe s
        · rw [if_pos hw]
          exact Nat.le_refl _
        · rw [if_neg hw]
          have hl := rest_lt s hf h2
          have := ih (s.extract (fe s) s.size) (by omega)
          show (fr (s.extract (fe s) s.size)).2.1.size ≤ _
          omega
      · rw [if_neg hf]
        exact Nat.zero_le _
theorem same_l0 (l : List ByteArray) (hl : l.length ≤ 1000000) : ∀ (d i k : Nat), d = l.length - i → i ≤ l.length → d + 1 ≤ k → escutcheonbook_SameTexts.l0 k l l (i : Int) = some true
  | 0, i, k, hd, hi, hk => by
    obtain ⟨k, rfl⟩ : ∃ j, k = j + 1 := ⟨k - 1, by omega⟩
    rw [escutcheonbook_SameTexts.l0, if_neg (by omega)]
  | d + 1, i, k, hd, hi, hk => by
    obtain ⟨k, rfl⟩ : ∃ j, k = j + 1 := ⟨k - 1, by omega⟩
    rw [escutcheonbook_SameTexts.l0, if_pos (by omega), if_pos (by omega), if_pos (by omega), if_pos rfl, w64 (by omega) (by omega), show (i : Int) + 1 = ((i + 1 : Nat) : Int) by omega]
    exact same_l0 l hl d (i + 1) k (by omega) (by omega) (by omega)
theorem same_f (l : List ByteArray) (hl : l.length ≤ 1000000) (k : Nat) (hk : l.length + 1 ≤ k) : escutcheonbook_SameTexts.f k l l = some true := by
  unfold escutcheonbook_SameTexts.f
  rw [if_pos rfl]
  exact same_l0 l hl l.length 0 k rfl (by omega) hk
end Go.Proofs.Ytoepiofmkjajaaa.B
/- The reference's frames. -/
namespace Go.Proofs.Ytoepiofmkjajaaa.B
open Go.RowKit Go.Proofs.Ytoepiofmkjajaaa.P Go.Proofs.YtoepiofmkjajaaaW.PrintWords Go.Proofs.YtoepiofmkjajaaaW.PrintLast Go.Proofs.YtoepiofmkjajaaaW.PrintMore
set_option linter.unusedVariables false
set_option linter.unusedSimpArgs false

theorem refs_l0 (n : Nat) : ∀ (s : ByteArray) (out : List ByteArray) (k : Nat), s.size ≤ n → s.size ≤ 1000000 → out.length + s.size < 8000000000000 → 2 * n + 12 ≤ k →
    escutcheonref1_Frames.l0 k s out = some (out ++ (fr s).1, (fr s).2.1, (fr s).2.2) := by
  induction n with
  | zero =>
    intro s out k hn hs ho hk
    obtain ⟨k, rfl⟩ : ∃ j, k = j + 1 := ⟨k - 1, by omega⟩
    rw [escutcheonref1_Frames.l0, if_neg (by omega), fr_short s (by omega), List.append_nil]
  | succ n ih =>
    intro s out k hn hs ho hk
    obtain ⟨k, rfl⟩ : ∃ j, k = j + 1 + 1 := ⟨k - 2, by omega⟩
    by_cases h2 : s.size < 2
    · rw [escutcheonref1_Frames.l0, if_neg (by omega), fr_short s h2, List.append_nil]
    · have hb := hd_bd s
      have hw : wrap64 (hd s) = hd s := w64 (by omega) (by omega)
      have hw2 : wrap64 (2 + hd s) = 2 + hd s := w64 (by omega) (by omega)
      have key : escutcheonref1_Frames.l0 (k + 1 + 1) s out = escutcheonref1_Frames.j1 (k + 1) s out (hd s) (!decide (Fits s)) := by
        rw [escutcheonref1_Frames.l0, if_pos (by omega), if_pos (by omega), if_pos (by omega), refBig_two s (by omega) (by omega) (k + 1) (by omega), Option.bind_some, hw]
        by_cases h0 : hd s = 0
        · rw [if_pos h0, decide_eq_false (show ¬ Fits s by unfold Fits; omega)]; rfl
        · rw [if_neg h0]
          by_cases hf : Fits s
          · have hf' : 1 ≤ hd s ∧ hd s ≤ 2200 := hf
            rw [decide_eq_true hf, decide_eq_false (show ¬ hd s > 2200 by omega)]; rfl
          · rw [decide_eq_false hf, decide_eq_true (show hd s > 2200 by unfold Fits at hf; omega)]; rfl
      rw [key, fr_of s h2, escutcheonref1_Frames.j1, hw2]
      by_cases hf : Fits s
      · have hf' : 1 ≤ hd s ∧ hd s ≤ 2200 := hf
        have hfe : fe s = 2 + (hd s).toNat := rfl
        rw [decide_eq_true hf, if_neg (by decide), if_pos hf]
        by_cases hw : s.size < fe s
        · rw [if_pos (by omega), if_pos hw, List.append_nil]
        · have hl := rest_lt s hf h2
          rw [if_neg (by omega), if_neg hw, if_pos (by omega), if_pos (by omega), if_pos (by omega), if_pos (by omega), show ((2 + hd s) : Int).toNat = fe s by omega, ih _ _ k (by omega) (by omega) (by rw [List.length_append, List.length_singleton]; omega) (by omega), List.append_assoc]
          rfl
      · rw [decide_eq_false hf, if_pos (by decide), if_neg hf, List.append_nil]
theorem refs_f (s : ByteArray) (hs : s.size ≤ 1000000) (k : Nat) (hk : 2 * s.size + 12 ≤ k) : escutcheonref1_Frames.f k s = some (fr s) := by
  unfold escutcheonref1_Frames.f
  rw [refs_l0 s.size s [] k (Nat.le_refl _) hs (by simp; omega) hk, List.nil_append]
theorem fr_count (n : Nat) : ∀ (s : ByteArray), s.size ≤ n → (fr s).1.length ≤ s.size := by
  induction n with
  | zero => intro s hn; rw [fr_short s (by omega)]; exact Nat.zero_le _
  | succ n ih =>
    intro s hn
    by_cases h2 : s.size < 2
    · rw [fr_short s h2]; exact Nat.zero_le _
    · rw [fr_of s h2]
      by_cases hf : Fits s
      · rw [if_pos hf]
        by_cases hw : s.size < fe s
        · rw [if_pos hw]; exact Nat.zero_le _
        · rw [if_neg hw]
          have hl := rest_lt s hf h2
          have := ih (s.extract (fe s) s.size) (by omega)
          rw [List.length_cons]
          omega
      · rw [if_neg hf]; exact Nat.zero_le _
end Go.Proofs.Ytoepiofmkjajaaa.B
/- A Book that has lists of texts alone: its functions on other kinds do nothing. -/
namespace Go.Proofs.Ytoepiofmkjajaaa.P
open Go.RowKit Go.Proofs.YtoepiofmkjajaaaW.PrintWords Go.Proofs.YtoepiofmkjajaaaW.PrintLast Go.Proofs.YtoepiofmkjajaaaW.PrintMore
set_option linter.unusedVariables false
set_option linter.unusedSimpArgs false

/-- A Book's block: its two lists of texts; of all else there is none. -/
def BookAt (W : World) (g : Nat) (vt vu : Value) : Prop := W.heap[g]? = some (.cells #[vt, vu, .slice none 0 0, .slice none 0 0, .slice none 0 0, .slice none 0 0, .slice none 0 0, .slice none 0 0, .slice none 0 0, .slice none 0 0, .slice none 0 0, .slice none 0 0, .slice none 0 0, .slice none 0 0] 52 (0, 0))
theorem BookAt.cell {W : World} {g : Nat} {vt vu : Value} (h : BookAt W g vt vu) (j : Nat) (hj : 2 ≤ j) (hj2 : j < 14) : W.cell? ⟨g, j, none⟩ = some (.slice none 0 0) := by
  have h1 := blk_cell h j
  have : j = 2 ∨ j = 3 ∨ j = 4 ∨ j = 5 ∨ j = 6 ∨ j = 7 ∨ j = 8 ∨ j = 9 ∨ j = 10 ∨ j = 11 ∨ j = 12 ∨ j = 13 := by omega
  rcases this with rfl | rfl | rfl | rfl | rfl | rfl | rfl | rfl | rfl | rfl | rfl | rfl <;> exact h1.trans rfl
set_option maxHeartbeats 2000000 in
set_option maxRecDepth 100000 in
theorem Book_stillInts.calls (g : Nat) (vt vu : Value) (w : World) (hb : BookAt w g vt vu) : Calls Try.prog 26 #[.pointer (some ⟨g, 0, none⟩)] w fun e w' => e = .returned (.bool true) ∧ Drawn0 w w' := by
  have hc := hb.cell 2 (by decide) (by decide)
  go_enter Try.func26, Try.ntmps26
  go_wp2
  go_loopw [3] (fun v3 wr => v3 = .int .i64 0 ∧ Drawn0 w wr) (fun _ _ => 0)
  case atStart => exact ⟨rfl, Drawn0.refl _⟩
  case round =>
    obtain ⟨rfl, ⟨m, rfl⟩⟩ := hrel
    go_wp2
    go_ret
    exact ⟨rfl, by repeat (first | exact Drawn0.refl _ | apply Drawn0.step)⟩
set_option maxHeartbeats 2000000 in
set_option maxRecDepth 100000 in
theorem Book_putInts.calls (g : Nat) (vt vu : Value) (w : World) (hb : BookAt w g vt vu) : Calls Try.prog 34 #[.pointer (some ⟨g, 0, none⟩)] w fun e w' => e = .returned (.tuple #[]) ∧ Drawn0 w w' := by
  have hc := hb.cell 2 (by decide) (by decide)
  go_enter Try.func34, Try.ntmps34
  go_wp2
  go_loopw [2] (fun v2 wr => v2 = .int .i64 0 ∧ Drawn0 w wr) (fun _ _ => 0)
  case atStart => exact ⟨rfl, Drawn0.refl _⟩
  case round =>
    obtain ⟨rfl, ⟨m, rfl⟩⟩ := hrel
    go_wp2
    first | go_end0 | ((try simp only [Exit.inBlock, Exit.then]); refine bodyPost_ret (results_none rfl _ _ _) rfl ?_)
    exact ⟨rfl, by repeat (first | exact Drawn0.refl _ | apply Drawn0.step)⟩
set_option maxHeartbeats 2000000 in
set_option maxRecDepth 100000 in
theorem Book_growInts.calls (g : Nat) (vt vu : Value) (w : World) (hb : BookAt w g vt vu) : Calls Try.prog 40 #[.pointer (some ⟨g, 0, none⟩)] w fun e w' => e = .returned (.slice none 0 0) ∧ Drawn0 w w' := by
  have hc := hb.cell 2 (by decide) (by decide)
  go_enter Try.func40, Try.ntmps40
  go_wp2
  go_loopw [3, 4] (fun v3 v4 wr => v3 = .slice none 0 0 ∧ v4 = .int .i64 0 ∧ Drawn0 w wr) (fun _ _ _ => 0)
  case atStart => exact ⟨rfl, rfl, Drawn0.refl _⟩
  case round =>
    obtain ⟨rfl, rfl, ⟨m, rfl⟩⟩ := hrel
    go_wp2
    go_ret
    exact ⟨rfl, by repeat (first | exact Drawn0.refl _ | apply Drawn0.step)⟩
set_option maxHeartbeats 2000000 in
set_option maxRecDepth 100000 in
theorem Book_stillRules.calls (g : Nat) (vt vu : Value) (w : World) (hb : BookAt w g vt vu) : Calls Try.prog 27 #[.pointer (some ⟨g, 0, none⟩)] w fun e w' => e = .returned (.bool true) ∧ Drawn0 w w' := by
  have hc := hb.cell 4 (by decide) (by decide)
  go_enter Try.func27, Try.ntmps27
  go_wp2
  go_loopw [3] (fun v3 wr => v3 = .int .i64 0 ∧ Drawn0 w wr) (fun _ _ => 0)
  case atStart => exact ⟨rfl, Drawn0.refl _⟩
  case round =>
    obtain ⟨rfl, ⟨m, rfl⟩⟩ := hrel
    go_wp2
    go_ret
    exact ⟨rfl, by repeat (first | exact Drawn0.refl _ | apply Drawn0.step)⟩
set_option maxHeartbeats 2000000 in
set_option maxRecDepth 100000 in
theorem Book_putRules.calls (g : Nat) (vt vu : Value) (w : World) (hb : BookAt w g vt vu) : Calls Try.prog 35 #[.pointer (some ⟨g, 0, none⟩)] w fun e w' => e = .returned (.tuple #[]) ∧ Drawn0 w w' := by
  have hc := hb.cell 4 (by decide) (by decide)
  go_enter Try.func35, Try.ntmps35
  go_wp2
  go_loopw [2] (fun v2 wr => v2 = .int .i64 0 ∧ Drawn0 w wr) (fun _ _ => 0)
  case atStart => exact ⟨rfl, Drawn0.refl _⟩
  case round =>
    obtain ⟨rfl, ⟨m, rfl⟩⟩ := hrel
    go_wp2
    first | go_end0 | ((try simp only [Exit.inBlock, Exit.then]); refine bodyPost_ret (results_none rfl _ _ _) rfl ?_)
    exact ⟨rfl, by repeat (first | exact Drawn0.refl _ | apply Drawn0.step)⟩
set_option maxHeartbeats 2000000 in
set_option maxRecDepth 100000 in
theorem Book_growRules.calls (g : Nat) (vt vu : Value) (w : World) (hb : BookAt w g vt vu) : Calls Try.prog 41 #[.pointer (some ⟨g, 0, none⟩)] w fun e w' => e = .returned (.slice none 0 0) ∧ Drawn0 w w' := by
  have hc := hb.cell 4 (by decide) (by decide)
  go_enter Try.func41, Try.ntmps41
  go_wp2
  go_loopw [3, 4] (fun v3 v4 wr => v3 = .slice none 0 0 ∧ v4 = .int .i64 0 ∧ Drawn0 w wr) (fun _ _ _ => 0)
  case atStart => exact ⟨rfl, rfl, Drawn0.refl _⟩
  case round =>
    obtain ⟨rfl, rfl, ⟨m, rfl⟩⟩ := hrel
    go_wp2
    go_ret
    exact ⟨rfl, by repeat (first | exact Drawn0.refl _ | apply Drawn0.step)⟩
set_option maxHeartbeats 2000000 in
set_option maxRecDepth 100000 in
theorem Book_stillNotes.calls (g : Nat) (vt vu : Value) (w : World) (hb : BookAt w g vt vu) : Calls Try.prog 28 #[.pointer (some ⟨g, 0, none⟩)] w fun e w' => e = .returned (.bool true) ∧ Drawn0 w w' := by
  have hc := hb.cell 6 (by decide) (by decide)
  go_enter Try.func28, Try.ntmps28
  go_wp2
  go_loopw [3] (fun v3 wr => v3 = .int .i64 0 ∧ Drawn0 w wr) (fun _ _ => 0)
  case atStart => exact ⟨rfl, Drawn0.refl _⟩
  case round =>
    obtain ⟨rfl, ⟨m, rfl⟩⟩ := hrel
    go_wp2
    go_ret
    exact ⟨rfl, by repeat (first | exact Drawn0.refl _ | apply Drawn0.step)⟩
set_option maxHeartbeats 2000000 in
set_option maxRecDepth 100000 in
theorem Book_putNotes.calls (g : Nat) (vt vu : Value) (w : World) (hb : BookAt w g vt vu) : Calls Try.prog 36 #[.pointer (some ⟨g, 0, none⟩)] w fun e w' => e = .returned (.tuple #[]) ∧ Drawn0 w w' := by
  have hc := hb.cell 6 (by decide) (by decide)
  go_enter Try.func36, Try.ntmps36
  go_wp2
  go_loopw [2] (fun v2 wr => v2 = .int .i64 0 ∧ Drawn0 w wr) (fun _ _ => 0)
  case atStart => exact ⟨rfl, Drawn0.refl _⟩
  case round =>
    obtain ⟨rfl, ⟨m, rfl⟩⟩ := hrel
    go_wp2
    first | go_end0 | ((try simp only [Exit.inBlock, Exit.then]); refine bodyPost_ret (results_none rfl _ _ _) rfl ?_)
    exact ⟨rfl, by repeat (first | exact Drawn0.refl _ | apply Drawn0.step)⟩
set_option maxHeartbeats 2000000 in
set_option maxRecDepth 100000 in
theorem Book_growNotes.calls (g : Nat) (vt vu : Value) (w : World) (hb : BookAt w g vt vu) : Calls Try.prog 42 #[.pointer (some ⟨g, 0, none⟩)] w fun e w' => e = .returned (.slice none 0 0) ∧ Drawn0 w w' := by
  have hc := hb.cell 6 (by decide) (by decide)
  go_enter Try.func42, Try.ntmps42
  go_wp2
  go_loopw [3, 4] (fun v3 v4 wr => v3 = .slice none 0 0 ∧ v4 = .int .i64 0 ∧ Drawn0 w wr) (fun _ _ _ => 0)
  case atStart => exact ⟨rfl, rfl, Drawn0.refl _⟩
  case round =>
    obtain ⟨rfl, rfl, ⟨m, rfl⟩⟩ := hrel
    go_wp2
    go_ret
    exact ⟨rfl, by repeat (first | exact Drawn0.refl _ | apply Drawn0.step)⟩
set_option maxHeartbeats 2000000 in
set_option maxRecDepth 100000 in
theorem Book_stillItems.calls (g : Nat) (vt vu : Value) (w : World) (hb : BookAt w g vt vu) : Calls Try.prog 29 #[.pointer (some ⟨g, 0, none⟩)] w fun e w' => e = .returned (.bool true) ∧ Drawn0 w w' := by
  have hc := hb.cell 8 (by decide) (by decide)
  go_enter Try.func29, Try.ntmps29
  go_wp2
  go_loopw [3] (fun v3 wr => v3 = .int .i64 0 ∧ Drawn0 w wr) (fun _ _ => 0)
  case atStart => exact ⟨rfl, Drawn0.refl _⟩
  case round =>
    obtain ⟨rfl, ⟨m, rfl⟩⟩ := hrel
    go_wp2
    go_ret
    exact ⟨rfl, by repeat (first | exact Drawn0.refl _ | apply Drawn0.step)⟩
set_option maxHeartbeats 2000000 in
set_option maxRecDepth 100000 in
theorem Book_putItems.calls (g : Nat) (vt vu : Value) (w : World) (hb : BookAt w g vt vu) : Calls Try.prog 37 #[.pointer (some ⟨g, 0, none⟩)] w fun e w' => e = .returned (.tuple #[]) ∧ Drawn0 w w' := by
  have hc := hb.cell 8 (by decide) (by decide)
  go_enter Try.func37, Try.ntmps37
  go_wp2
  go_loopw [2] (fun v2 wr => v2 = .int .i64 0 ∧ Drawn0 w wr) (fun _ _ => 0)
  case atStart => exact ⟨rfl, Drawn0.refl _⟩
  case round =>
    obtain ⟨rfl, ⟨m, rfl⟩⟩ := hrel
    go_wp2
    first | go_end0 | ((try simp only [Exit.inBlock, Exit.then]); refine bodyPost_ret (results_none rfl _ _ _) rfl ?_)
    exact ⟨rfl, by repeat (first | exact Drawn0.refl _ | apply Drawn0.step)⟩
set_option maxHeartbeats 2000000 in
set_option maxRecDepth 100000 in
theorem Book_growItems.calls (g : Nat) (vt vu : Value) (w : World) (hb : BookAt w g vt vu) : Calls Try.prog 43 #[.pointer (some ⟨g, 0, none⟩)] w fun e w' => e = .returned (.slice none 0 0) ∧ Drawn0 w w' := by
  have hc := hb.cell 8 (by decide) (by decide)
  go_enter Try.func43, Try.ntmps43
  go_wp2
  go_loopw [3, 4] (fun v3 v4 wr => v3 = .slice none 0 0 ∧ v4 = .int .i64 0 ∧ Drawn0 w wr) (fun _ _ _ => 0)
  case atStart => exact ⟨rfl, rfl, Drawn0.refl _⟩
  case round =>
    obtain ⟨rfl, rfl, ⟨m, rfl⟩⟩ := hrel
    go_wp2
    go_ret
    exact ⟨rfl, by repeat (first | exact Drawn0.refl _ | apply Drawn0.step)⟩
set_option maxHeartbeats 2000000 in
set_option maxRecDepth 100000 in
theorem Book_stillCommands.calls (g : Nat) (vt vu : Value) (w : World) (hb : BookAt w g vt vu) : Calls Try.prog 30 #[.pointer (some ⟨g, 0, none⟩)] w fun e w' => e = .returned (.bool true) ∧ Drawn0 w w' := by
  have hc := hb.cell 10 (by decide) (by decide)
  go_enter Try.func30, Try.ntmps30
  go_wp2
  go_loopw [3] (fun v3 wr => v3 = .int .i64 0 ∧ Drawn0 w wr) (fun _ _ => 0)
  case atStart => exact ⟨rfl, Drawn0.refl _⟩
  case round =>
    obtain ⟨rfl, ⟨m, rfl⟩⟩ := hrel
    go_wp2
    go_ret
    exact ⟨rfl, by repeat (first | exact Drawn0.refl _ | apply Drawn0.step)⟩
set_option maxHeartbeats 2000000 in
set_option maxRecDepth 100000 in
theorem Book_putCommands.calls (g : Nat) (vt vu : Value) (w : World) (hb : BookAt w g vt vu) : Calls Try.prog 38 #[.pointer (some ⟨g, 0, none⟩)] w fun e w' => e = .returned (.tuple #[]) ∧ Drawn0 w w' := by
  have hc := hb.cell 10 (by decide) (by decide)
  go_enter Try.func38, Try.ntmps38
  go_wp2
  go_loopw [2] (fun v2 wr => v2 = .int .i64 0 ∧ Drawn0 w wr) (fun _ _ => 0)
  case atStart => exact ⟨rfl, Drawn0.refl _⟩
  case round =>
    obtain ⟨rfl, ⟨m, rfl⟩⟩ := hrel
    go_wp2
    first | go_end0 | ((try simp only [Exit.inBlock, Exit.then]); refine bodyPost_ret (results_none rfl _ _ _) rfl ?_)
    exact ⟨rfl, by repeat (first | exact Drawn0.refl _ | apply Drawn0.step)⟩
set_option maxHeartbeats 2000000 in
set_option maxRecDepth 100000 in
theorem Book_growCommands.calls (g : Nat) (vt vu : Value) (w : World) (hb : BookAt w g vt vu) : Calls Try.prog 44 #[.pointer (some ⟨g, 0, none⟩)] w fun e w' => e = .returned (.slice none 0 0) ∧ Drawn0 w w' := by
  have hc := hb.cell 10 (by decide) (by decide)
  go_enter Try.func44, Try.ntmps44
  go_wp2
  go_loopw [3, 4] (fun v3 v4 wr => v3 = .slice none 0 0 ∧ v4 = .int .i64 0 ∧ Drawn0 w wr) (fun _ _ _ => 0)
  case atStart => exact ⟨rfl, rfl, Drawn0.refl _⟩
  case round =>
    obtain ⟨rfl, rfl, ⟨m, rfl⟩⟩ := hrel
    go_wp2
    go_ret
    exact ⟨rfl, by repeat (first | exact Drawn0.refl _ | apply Drawn0.step)⟩
set_option maxHeartbeats 2000000 in
set_option maxRecDepth 100000 in
theorem Book_stillReplies.calls (g : Nat) (vt vu : Value) (w : World) (hb : BookAt w g vt vu) : Calls Try.prog 31 #[.pointer (some ⟨g, 0, none⟩)] w fun e w' => e = .returned (.bool true) ∧ Drawn0 w w' := by
  have hc := hb.cell 12 (by decide) (by decide)
  go_enter Try.func31, Try.ntmps31
  go_wp2
  go_loopw [3] (fun v3 wr => v3 = .int .i64 0 ∧ Drawn0 w wr) (fun _ _ => 0)
  case atStart => exact ⟨rfl, Drawn0.refl _⟩
  case round =>
    obtain ⟨rfl, ⟨m, rfl⟩⟩ := hrel
    go_wp2
    go_ret
    exact ⟨rfl, by repeat (first | exact Drawn0.refl _ | apply Drawn0.step)⟩
set_option maxHeartbeats 2000000 in
set_option maxRecDepth 100000 in
theorem Book_putReplies.calls (g : Nat) (vt vu : Value) (w : World) (hb : BookAt w g vt vu) : Calls Try.prog 32 #[.pointer (some ⟨g, 0, none⟩)] w fun e w' => e = .returned (.tuple #[]) ∧ Drawn0 w w' := by
  have hc := hb.cell 12 (by decide) (by decide)
  go_enter Try.func32, Try.ntmps32
  go_wp2
  go_loopw [2] (fun v2 wr => v2 = .int .i64 0 ∧ Drawn0 w wr) (fun _ _ => 0)
  case atStart => exact ⟨rfl, Drawn0.refl _⟩
  case round =>
    obtain ⟨rfl, ⟨m, rfl⟩⟩ := hrel
    go_wp2
    first | go_end0 | ((try simp only [Exit.inBlock, Exit.then]); refine bodyPost_ret (results_none rfl _ _ _) rfl ?_)
    exact ⟨rfl, by repeat (first | exact Drawn0.refl _ | apply Drawn0.step)⟩
set_option maxHeartbeats 2000000 in
set_option maxRecDepth 100000 in
theorem Book_growReplies.calls (g : Nat) (vt vu : Value) (w : World) (hb : BookAt w g vt vu) : Calls Try.prog 45 #[.pointer (some ⟨g, 0, none⟩)] w fun e w' => e = .returned (.slice none 0 0) ∧ Drawn0 w w' := by
  have hc := hb.cell 12 (by decide) (by decide)
  go_enter Try.func45, Try.ntmps45
  go_wp2
  go_loopw [3, 4] (fun v3 v4 wr => v3 = .slice none 0 0 ∧ v4 = .int .i64 0 ∧ Drawn0 w wr) (fun _ _ _ => 0)
  case atStart => exact ⟨rfl, rfl, Drawn0.refl _⟩
  case round =>
    obtain ⟨rfl, rfl, ⟨m, rfl⟩⟩ := hrel
    go_wp2
    go_ret
    exact ⟨rfl, by repeat (first | exact Drawn0.refl _ | apply Drawn0.step)⟩
end Go.Proofs.Ytoepiofmkjajaaa.P
/- A Book that keeps lists of texts: what is told of its memory, and what leaves that as it is. -/
namespace Go.Proofs.Ytoepiofmkjajaaa.P
open Go.RowKit Go.Proofs.YtoepiofmkjajaaaW.PrintWords Go.Proofs.YtoepiofmkjajaaaW.PrintLast Go.Proofs.YtoepiofmkjajaaaW.PrintMore
set_option linter.unusedVariables false
set_option linter.unusedSimpArgs false

/-- A slice's head. -/
abbrev Hdr := Option Addr × Nat × Nat
def hv (h : Hdr) : Value := .slice h.1 h.2.1 h.2.2
def KH : Kd Hdr := Kd.scalar hv (fun _ => rfl)
def h0 : Hdr := (none, 0, 0)
def hAt (hs : List Hdr) (i : Nat) : Hdr := hs.getD i h0
def lAt (ls : List (List ByteArray)) (i : Nat) : List ByteArray := ls.getD i []
/-- The rows behind heads. -/
def RowsAt (B : Nat) (W : World) (hs : List Hdr) (ls : List (List ByteArray)) : Prop := hs.length = ls.length ∧ ∀ i, i < ls.length → Kd.R Kd.string 9 W B (fun _ => True) (hv (hAt hs i)) (lAt ls i)
/-- No two of them share a block. -/
def Sep (hs : List Hdr) : Prop := ∀ i j k, i < hs.length → j < hs.length → i ≠ j → (hv (hAt hs i)).ownBlock = some k → (hv (hAt hs j)).ownBlock ≠ some k
def Under (N : Nat) (hs : List Hdr) : Prop := ∀ i k, i < hs.length → (hv (hAt hs i)).ownBlock = some k → k < N
def IsBook (B N : Nat) (W : World) (g : Nat) (ls : List (List ByteArray)) : Prop :=
  ∃ vt vu hs us, BookAt W g vt vu ∧ B ≤ g ∧ KH.R 35 W B (fun _ => True) vt hs ∧ KH.R 35 W B (fun _ => True) vu us ∧ RowsAt B W hs ls ∧ RowsAt B W us ls ∧ Sep hs ∧ Under N hs ∧ (∀ k, vt.ownBlock = some k → vu.ownBlock ≠ some k)
section
variable {α : Type} {d : Kd α} {e : Nat} {W W' : World} {B : Nat} {ok ok' : Nat → Prop} {v : Value} {xs : List α}
theorem R_same (h : d.R e W B ok v xs) (hm : ∀ (k : Nat) (q : TypeId) (cs : Array Value), q ∈ e :: d.E → W.heap[k]? = some (Obj.cells cs q (0, 0)) → W'.heap[k]? = W.heap[k]?) : d.R e W' B ok v xs :=
  Kd.R_mono (Kd.R_move (Kd.R_bound h) (fun k hk => by obtain ⟨_, _, _, q, hq, cs, hc⟩ := hk; exact hm k q cs hq hc)) (fun _ hk => hk.1)
end
theorem KH_ok {W : World} {B e : Nat} {ok ok' : Nat → Prop} {v : Value} {hs : List Hdr} (h : KH.R e W B ok v hs) (ho : ∀ k, v.ownBlock = some k → ok' k) : KH.R e W B ok' v hs := ⟨ho, h.2⟩
theorem str_ok {W : World} {B e : Nat} {ok ok' : Nat → Prop} {v : Value} {l : List ByteArray} (h : Kd.R Kd.string e W B ok v l) (ho : ∀ k, v.ownBlock = some k → ok' k) : Kd.R Kd.string e W B ok' v l := ⟨ho, h.2⟩
/-- What a Book's memory is made of stays. -/
def Mv (W W' : World) : Prop := ∀ (k : Nat) (cs : Array Value) (q : TypeId), W.heap[k]? = some (Obj.cells cs q (0, 0)) → (q = 9 ∨ q = 35 ∨ q = 52) → W'.heap[k]? = W.heap[k]?
/-- All but a Book's own stays. -/
def Mv34 (W W' : World) : Prop := ∀ (k : Nat) (cs : Array Value) (q : TypeId), W.heap[k]? = some (Obj.cells cs q (0, 0)) → q ≠ 35 → q ≠ 52 → W'.heap[k]? = W.heap[k]?
theorem RowsAt.mv {B : Nat} {W W' : World} {hs : List Hdr} {ls : List (List ByteArray)} (h : RowsAt B W hs ls) (hm : Mv W W') : RowsAt B W' hs ls :=
  ⟨h.1, fun i hi => R_same (h.2 i hi) (fun k q cs hq hc => hm k cs q hc (.inl (by simpa [Kd.string, Kd.scalar] using hq)))⟩
theorem KH_mv {B : Nat} {W W' : World} {v : Value} {hs : List Hdr} (h : KH.R 35 W B (fun _ => True) v hs) (hm : Mv W W') : KH.R 35 W' B (fun _ => True) v hs :=
  R_same h (fun k q cs hq hc => hm k cs q hc (.inr (.inl (by simpa [KH, Kd.scalar] using hq))))
theorem IsBook.mv {B N : Nat} {W W' : World} {g : Nat} {ls : List (List ByteArray)} (h : IsBook B N W g ls) (hm : Mv W W') : IsBook B N W' g ls := by
  obtain ⟨vt, vu, hs, us, h1, h2, h3, h4, h5, h6, h7, h8, h9⟩ := h
  exact ⟨vt, vu, hs, us, (hm g _ 52 h1 (.inr (.inr rfl))).trans h1, h2, KH_mv h3 hm, KH_mv h4 hm, h5.mv hm, h6.mv hm, h7, h8, h9⟩
theorem Mv.below {W W' : World} (h : Below W.heap.size W W') : Mv W W' := fun k cs q hc _ => h.block k (blk_lt hc)
theorem Mv.keep {W W' : World} {g34 : Nat} {cs : Array Value} {fr : Nat × Nat} (h : KeepBut W W' g34 none) (hb : W.heap[g34]? = some (.cells cs 34 fr)) : Mv W W' := by
  intro k cs' q hc hq
  refine h.2 k (blk_lt hc) ?_ (by simp)
  rintro rfl
  rw [hc] at hb
  injection hb with hb
  injection hb with _ hb
  rcases hq with rfl | rfl | rfl <;> exact absurd hb (by decide)
theorem IsBook.under {B N N' : Nat} {W : World} {g : Nat} {ls : List (List ByteArray)} (h : IsBook B N W g ls) (hn : N ≤ N') : IsBook B N' W g ls := by
  obtain ⟨vt, vu, hs, us, h1, h2, h3, h4, h5, h6, h7, h8, h9⟩ := h
  exact ⟨vt, vu, hs, us, h1, h2, h3, h4, h5, h6, h7, fun i k hi hk => Nat.lt_of_lt_of_le (h8 i k hi hk) hn, h9⟩
theorem hAt_app (hs : List Hdr) (x : Hdr) (i : Nat) : hAt (hs ++ [x]) i = if i < hs.length then hAt hs i else if i = hs.length then x else h0 := by
  unfold hAt
  rw [List.getD_eq_getElem?_getD, List.getD_eq_getElem?_getD]
  by_cases h : i < hs.length
  · rw [if_pos h, List.getElem?_append_left h]
  · rw [if_neg h, List.getElem?_append_right (by omega)]
    by_cases h2 : i = hs.length
    · rw [if_pos h2, h2, Nat.sub_self]; rfl
    · rw [if_neg h2, List.getElem?_eq_none (by simp; omega)]; rfl
theorem lAt_app (ls : List (List ByteArray)) (x : List ByteArray) (i : Nat) : lAt (ls ++ [x]) i = if i < ls.length then lAt ls i else if i = ls.length then x else [] := by
  unfold lAt
  rw [List.getD_eq_getElem?_getD, List.getD_eq_getElem?_getD]
  by_cases h : i < ls.length
  · rw [if_pos h, List.getElem?_append_left h]
  · rw [if_neg h, List.getElem?_append_right (by omega)]
    by_cases h2 : i = ls.length
    · rw [if_pos h2, h2, Nat.sub_self]; rfl
    · rw [if_neg h2, List.getElem?_eq_none (by simp; omega)]; rfl
theorem RowsAt.app {B : Nat} {W : World} {hs : List Hdr} {ls : List (List ByteArray)} (h : RowsAt B W hs ls) {x : Hdr} {l : List ByteArray} (hx : Kd.R Kd.string 9 W B (fun _ => True) (hv x) l) : RowsAt B W (hs ++ [x]) (ls ++ [l]) := by
  refine ⟨by rw [List.length_append, List.length_append, h.1]; rfl, fun i hi => ?_⟩
  rw [List.length_append, List.length_singleton] at hi
  rw [hAt_app, lAt_app, h.1]
  by_cases h1 : i < ls.length
  · rw [if_pos h1, if_pos h1]; exact h.2 i h1
  · have h2 : i = ls.length := by omega
    rw [if_neg h1, if_neg h1, if_pos h2, if_pos h2]; exact hx
theorem Sep.app {N : Nat} {hs : List Hdr} (h : Sep hs) (hu : Under N hs) {x : Hdr} (hx : ∀ k, (hv x).ownBlock = some k → N ≤ k) : Sep (hs ++ [x]) := by
  intro i j k hi hj hij h1 h2
  rw [List.length_append, List.length_singleton] at hi hj
  rw [hAt_app] at h1 h2
  by_cases a : i < hs.length
  · rw [if_pos a] at h1
    by_cases b : j < hs.length
    · rw [if_pos b] at h2
      exact h i j k a b hij h1 h2
    · rw [if_neg b, if_pos (by omega)] at h2
      have := hu i k a h1
      have := hx k h2
      omega
  · rw [if_neg a, if_pos (by omega)] at h1
    have b : j < hs.length := by omega
    rw [if_pos b] at h2
    have := hu j k b h2
    have := hx k h1
    omega
theorem Under.app {N N' : Nat} {hs : List Hdr} (hu : Under N hs) (hn : N ≤ N') {x : Hdr} (hx : ∀ k, (hv x).ownBlock = some k → k < N') : Under N' (hs ++ [x]) := by
  intro i k hi hk
  rw [List.length_append, List.length_singleton] at hi
  rw [hAt_app] at hk
  by_cases a : i < hs.length
  · rw [if_pos a] at hk
    exact Nat.lt_of_lt_of_le (hu i k a hk) hn
  · rw [if_neg a, if_pos (by omega)] at hk
    exact hx k hk
theorem RowsAt.under {B : Nat} {W : World} {hs : List Hdr} {ls : List (List ByteArray)} (h : RowsAt B W hs ls) : Under W.heap.size hs := by
  intro i k hi hk
  obtain ⟨inner, ho⟩ := Kd.R_own (h.2 i (h.1 ▸ hi))
  exact own_lt ho k hk
/-- A Book's own: its block, its two rows of heads. -/
def BookP (B : Nat) (W : World) (g : Nat) (vt vu : Value) (hs us : List Hdr) : Prop :=
  BookAt W g vt vu ∧ B ≤ g ∧ KH.R 35 W B (fun _ => True) vt hs ∧ KH.R 35 W B (fun _ => True) vu us ∧ (∀ k, vt.ownBlock = some k → vu.ownBlock ≠ some k)
theorem BookP.mv {B : Nat} {W W' : World} {g : Nat} {vt vu : Value} {hs us : List Hdr} (h : BookP B W g vt vu hs us) (hm : Mv W W') : BookP B W' g vt vu hs us := by
  obtain ⟨h1, h2, h3, h4, h9⟩ := h
  exact ⟨(hm g _ 52 h1 (.inr (.inr rfl))).trans h1, h2, KH_mv h3 hm, KH_mv h4 hm, h9⟩
theorem mv34_grown {B : Nat} {w w3 : World} {g j : Nat} {vt u : Value} {hs : List Hdr} {cells : Array Value} (hb : w.heap[g]? = some (.cells cells 52 (0, 0))) (hv_ : KH.R 35 w B (fun _ => True) vt hs) (hg : w.grownBy w3 vt.ownBlock) : Mv34 w (w3.setCell ⟨g, j, none⟩ u) := by
  intro k cs q hc h35 h52
  have h1 : w3.heap[k]? = w.heap[k]? := hg.block k (blk_lt hc) (Kd.R_ne hv_ hc (fun e => h35 e.symm))
  have h2 : k ≠ g := by
    rintro rfl
    rw [hc] at hb
    injection hb with hb
    injection hb with _ hb
    exact h52 hb
  exact (Below.heap_setCell w3 ⟨g, j, none⟩ u k h2).trans h1
theorem Mv34.rows {B : Nat} {W W' : World} {hs : List Hdr} {ls : List (List ByteArray)} (h : RowsAt B W hs ls) (hm : Mv34 W W') : RowsAt B W' hs ls :=
  ⟨h.1, fun i hi => R_same (h.2 i hi) (fun k q cs hq hc => by
    have h9 : q = 9 := by simpa [Kd.string, Kd.scalar] using hq
    subst h9
    exact hm k cs 9 hc (by decide) (by decide))⟩
theorem Mv34.row {B : Nat} {W W' : World} {ok : Nat → Prop} {v : Value} {l : List ByteArray} (h : Kd.R Kd.string 9 W B ok v l) (hm : Mv34 W W') : Kd.R Kd.string 9 W' B ok v l :=
  R_same h (fun k q cs hq hc => by
    have h9 : q = 9 := by simpa [Kd.string, Kd.scalar] using hq
    subst h9
    exact hm k cs 9 hc (by decide) (by decide))
theorem Mv34.trans {W W1 W2 : World} (h1 : Mv34 W W1) (h2 : Mv34 W1 W2) : Mv34 W W2 := fun k cs q hc a b => (h2 k cs q ((h1 k cs q hc a b).trans hc) a b).trans (h1 k cs q hc a b)
theorem Mv34.below {W W' : World} (h : Below W.heap.size W W') : Mv34 W W' := fun k cs q hc _ _ => h.block k (blk_lt hc)
/-- The list of texts has become another one. -/
theorem BookP.set0 {B : Nat} {w w3 : World} {g : Nat} {vt vu v1 : Value} {hs us hs' : List Hdr} (h : BookP B w g vt vu hs us) (hg : w.grownBy w3 vt.ownBlock) (ho : KH.R 35 w3 B (fun _ => True) v1 hs')
    (hat : v1.ownBlock = vt.ownBlock ∨ ∃ b, v1.ownBlock = some b ∧ w.heap.size ≤ b) : BookP B (w3.setCell ⟨g, 0, none⟩ v1) g v1 vu hs' us ∧ Mv34 w (w3.setCell ⟨g, 0, none⟩ v1) := by
  obtain ⟨h1, h2, h3, h4, h9⟩ := h
  have hb3 : BookAt w3 g vt vu := blk_grown h1 hg (Kd.R_ne h3 h1 (by decide))
  refine ⟨⟨?_, h2, ?_, ?_, ?_⟩, mv34_grown h1 h3 hg⟩
  · have := blk_set hb3 0 v1
    simpa [BookAt] using this
  · exact Kd.R_set ho hb3 (by simp [KH, Kd.scalar]) 0 v1
  · have h5 : KH.R 35 w B (fun k => some k ≠ vt.ownBlock) vu us := KH_ok h4 (fun k hk e => h9 k e.symm hk)
    have h6 := Kd.R_grown h5 hg (fun k hk => hk)
    exact KH_ok (Kd.R_set h6 hb3 (by simp [KH, Kd.scalar]) 0 v1) (fun _ _ => trivial)
  · intro k hk e
    rcases hat with hat | ⟨b, hb, hlt⟩
    · exact h9 k (hat ▸ hk) e
    · have : b = k := by rw [hb] at hk; exact Option.some.inj hk
      obtain ⟨inner, hi⟩ := Kd.R_own h4
      have := own_lt hi k e
      omega
theorem BookP.set1 {B : Nat} {w w3 : World} {g : Nat} {vt vu v1 : Value} {hs us us' : List Hdr} (h : BookP B w g vt vu hs us) (hg : w.grownBy w3 vu.ownBlock) (ho : KH.R 35 w3 B (fun _ => True) v1 us')
    (hat : v1.ownBlock = vu.ownBlock ∨ ∃ b, v1.ownBlock = some b ∧ w.heap.size ≤ b) : BookP B (w3.setCell ⟨g, 1, none⟩ v1) g vt v1 hs us' ∧ Mv34 w (w3.setCell ⟨g, 1, none⟩ v1) := by
  obtain ⟨h1, h2, h3, h4, h9⟩ := h
  have hb3 : BookAt w3 g vt vu := blk_grown h1 hg (Kd.R_ne h4 h1 (by decide))
  refine ⟨⟨?_, h2, ?_, ?_, ?_⟩, mv34_grown h1 h4 hg⟩
  · have := blk_set hb3 1 v1
    simpa [BookAt] using this
  · have h5 : KH.R 35 w B (fun k => some k ≠ vu.ownBlock) vt hs := KH_ok h3 (fun k hk e => h9 k hk e.symm)
    have h6 := Kd.R_grown h5 hg (fun k hk => hk)
    exact KH_ok (Kd.R_set h6 hb3 (by simp [KH, Kd.scalar]) 1 v1) (fun _ _ => trivial)
  · exact Kd.R_set ho hb3 (by simp [KH, Kd.scalar]) 1 v1
  · intro k hk e
    rcases hat with hat | ⟨b, hb, hlt⟩
    · exact h9 k hk (hat ▸ e)
    · have : b = k := by rw [hb] at e; exact Option.some.inj e
      obtain ⟨inner, hi⟩ := Kd.R_own h3
      have := own_lt hi k hk
      omega
end Go.Proofs.Ytoepiofmkjajaaa.P
/- Words for regions that draw their order (the same as in the other seats). -/
namespace Go.Proofs.Ytoepiofmkjajaaa.P
open Go.RowKit Go.Proofs.YtoepiofmkjajaaaW.PrintWords Go.Proofs.YtoepiofmkjajaaaW.PrintLast Go.Proofs.YtoepiofmkjajaaaW.PrintMore
set_option linter.unusedVariables false
set_option linter.unusedSimpArgs false
/-! Regions that draw their order, with two kinds of facts: T stays behind every operation, S behind those that are not of ds. -/
section
variable {P : Program} {ops : Array Oper} {Q : Exit → Act → World → Prop} {md : Region.Mode} {T S : World → Prop} {ds : List Nat}
def tw (P : Program) (md : Region.Mode) (ops : Array Oper) (Q : Exit → Act → World → Prop) (T S : World → Prop) (ds : List Nat) : Nat → Array Bool → Act → World → Prop
  | 0, listed, a, w => Region.ready md ops listed = [] ∧ Q .normal a w
  | fuel + 1, listed, a, w =>
    (Region.ready md ops listed = [] → Q .normal a w) ∧
    ∀ i ∈ Region.ready md ops listed, wpOp P ops Q i (fun a' w' => ((T w → T w') ∧ (i ∉ ds → S w → S w')) ∧ tw P md ops Q T S ds fuel (listed.setIfInBounds i true) a' w') a w
theorem tw_any_of : ∀ (fuel : Nat) (listed : Array Bool) (a : Act) (w : World), tw P md ops Q T S ds fuel listed a w → wpAny P md ops Q fuel listed a w
  | 0, _, _, _, h => h
  | fuel + 1, _, _, _, h => ⟨h.1, fun i hi => wpOp_mono (fun a' w' h' => tw_any_of fuel _ a' w' h'.2) (h.2 i hi)⟩
theorem tw_first {U : World → Prop} {i : Nat} {oi : Oper} {v : Value} (hi : ops[i]? = some oi) (hsel : ∀ (j : Nat) (o : Oper) cs b, ops[j]? = some o → o.op ≠ .select cs b)
    (hQ : ∀ c a w, Q (.panic c) (a.put oi.dst v) w → Q (.panic c) a w) (n : Nat) :
    ∀ (fuel : Nat) (listed : Array Bool) (a : Act) (w : World),
      (∀ j oj, ops[j]? = some oj → j ≠ i → listed.getD j true = false → (∀ e ∈ oj.after, Region.binds md e = true → e.on ≠ i) → oi.apart ops oj = true) →
      ListedClosed md ops listed → ((∀ w w', (T w → T w') → U w → U w') ∨ ((∀ w w', (S w → S w') → U w → U w') ∧ ∀ d ∈ ds, listed.getD d true = false → Region.reachB md ops i n d = true)) →
      i ∈ Region.ready md ops listed → YieldsIf P ops U oi v a → U w →
      tw P md ops Q T S ds fuel (listed.setIfInBounds i true) (a.put oi.dst v) w → tw P md ops Q T S ds (fuel + 1) listed a w := by
  intro fuel
  induction fuel with
  | zero =>
    intro listed a w _ _ _ hr hy hS H
    refine ⟨fun h => (by rw [h] at hr; cases hr), fun j hj => ?_⟩
    by_cases hji : j = i
    · subst hji; exact hy.wpOp hi hS ⟨⟨fun h => h, fun _ h => h⟩, H⟩
    · have := ready_mono hj hji
      rw [H.1] at this
      cases this
  | succ fuel ih =>
    intro listed a w hfree hc hd hr hy hS H
    refine ⟨fun h => (by rw [h] at hr; cases hr), fun j hj => ?_⟩
    by_cases hji : j = i
    · subst hji; exact hy.wpOp hi hS ⟨⟨fun h => h, fun _ h => h⟩, H⟩
    · have h1 := H.2 j (ready_mono hj hji)
      obtain ⟨hjun, oj, hoj, hall⟩ := mem_ready.1 hj
      have hiun := (mem_ready.1 hr).1
      have hnot : ∀ e ∈ oj.after, Region.binds md e = true → e.on ≠ i := fun e he hb heq => by
        have h1 := hall e he hb
        rw [heq] at h1
        rcases Nat.lt_or_ge i listed.size with h' | h'
        · simp [h'] at hiun h1; rw [hiun] at h1; cases h1
        · simp [Array.getElem?_eq_none h'] at h1
      have keep : ∀ w', ((T w → T w') ∧ (j ∉ ds → S w → S w')) → U w → U w' := by
        intro w' hk
        rcases hd with h | ⟨h, hd⟩
        · exact h _ _ hk.1
        · exact h _ _ (hk.2 (fun hm => Region.reach_not_ready hc (hd j hm hjun) hiun hj))
      have h2 := wpOp_putIf hoj (hfree j oj hoj hji hjun hnot) (fun cs b => hsel i oi cs b hi) (fun cs b => hsel j oj cs b hoj) hQ hy h1
      have hfree' : ∀ k ok, ops[k]? = some ok → k ≠ i → (listed.setIfInBounds j true).getD k true = false →
          (∀ e ∈ ok.after, Region.binds md e = true → e.on ≠ i) → oi.apart ops ok = true := fun k ok hk hki hun hno => by
        refine hfree k ok hk hki ?_ hno
        by_cases hjk : j = k
        · subst hjk; exact hjun
        · rw [getD_set_ne true hjk] at hun; exact hun
      have hd' : ((∀ w w', (T w → T w') → U w → U w') ∨ ((∀ w w', (S w → S w') → U w → U w') ∧ ∀ d ∈ ds, (listed.setIfInBounds j true).getD d true = false → Region.reachB md ops i n d = true)) := by
        refine hd.imp id (fun hh => ⟨hh.1, fun d hm hun => hh.2 d hm ?_⟩)
        by_cases hjk : j = d
        · subst hjk; exact hjun
        · rw [getD_set_ne true hjk] at hun; exact hun
      refine wpOp_mono (fun a' w' h3 => ⟨h3.2.1, ih (listed.setIfInBounds j true) a' w' hfree' (hc.set hj) hd' (ready_mono hr (Ne.symm hji)) h3.1 (keep w' h3.2.1 hS) ?_⟩) h2
      rw [Array.setIfInBounds_comm _ _ hji]
      exact h3.2.2
theorem tw_anyway {i : Nat} {oi : Oper} {v : Value} (hi : ops[i]? = some oi) (hsel : ∀ (j : Nat) (o : Oper) cs b, ops[j]? = some o → o.op ≠ .select cs b)
    (hQ : ∀ c a w, Q (.panic c) (a.put oi.dst v) w → Q (.panic c) a w) :
    ∀ (fuel : Nat) (listed : Array Bool) (a : Act) (w : World),
      (∀ j oj, ops[j]? = some oj → j ≠ i → listed.getD j true = false → (∀ e ∈ oj.after, Region.binds md e = true → e.on ≠ i) → oi.apart ops oj = true) →
      i ∈ Region.ready md ops listed → Yields P ops oi v a →
      tw P md ops Q T S ds fuel (listed.setIfInBounds i true) (a.put oi.dst v) w → tw P md ops Q T S ds (fuel + 1) listed a w := by
  intro fuel
  induction fuel with
  | zero =>
    intro listed a w _ hr hy H
    refine ⟨fun h => (by rw [h] at hr; cases hr), fun j hj => ?_⟩
    by_cases hji : j = i
    · subst hji; exact (hy.yieldsIf (S := fun _ => True)).wpOp hi trivial ⟨⟨fun h => h, fun _ h => h⟩, H⟩
    · have := ready_mono hj hji
      rw [H.1] at this
      cases this
  | succ fuel ih =>
    intro listed a w hfree hr hy H
    refine ⟨fun h => (by rw [h] at hr; cases hr), fun j hj => ?_⟩
    by_cases hji : j = i
    · subst hji; exact (hy.yieldsIf (S := fun _ => True)).wpOp hi trivial ⟨⟨fun h => h, fun _ h => h⟩, H⟩
    · have h1 := H.2 j (ready_mono hj hji)
      obtain ⟨hjun, oj, hoj, hall⟩ := mem_ready.1 hj
      have hiun := (mem_ready.1 hr).1
      have hnot : ∀ e ∈ oj.after, Region.binds md e = true → e.on ≠ i := fun e he hb heq => by
        have h1 := hall e he hb
        rw [heq] at h1
        rcases Nat.lt_or_ge i listed.size with h' | h'
        · simp [h'] at hiun h1; rw [hiun] at h1; cases h1
        · simp [Array.getElem?_eq_none h'] at h1
      have h2 := wpOp_put hoj (hfree j oj hoj hji hjun hnot) (fun cs b => hsel i oi cs b hi) (fun cs b => hsel j oj cs b hoj) hQ hy h1
      have hfree' : ∀ k ok, ops[k]? = some ok → k ≠ i → (listed.setIfInBounds j true).getD k true = false →
          (∀ e ∈ ok.after, Region.binds md e = true → e.on ≠ i) → oi.apart ops ok = true := fun k ok hk hki hun hno => by
        refine hfree k ok hk hki ?_ hno
        by_cases hjk : j = k
        · subst hjk; exact hjun
        · rw [getD_set_ne true hjk] at hun; exact hun
      refine wpOp_mono (fun a' w' h3 => ⟨h3.2.1, ih (listed.setIfInBounds j true) a' w' hfree' (ready_mono hr (Ne.symm hji)) h3.1 ?_⟩) h2
      rw [Array.setIfInBounds_comm _ _ hji]
      exact h3.2.2
theorem tw_start {id n : Nat} {a : Act} {w : World} (l : Array Bool) (hm : P.follows .mixedOrders = true) (hn : ops.size = n) (hl : Array.replicate n false = l) (hT : T w.drew) (hS : S w.drew)
    (h : T w.drew → S w.drew → tw P .any ops Q T S ds n l a w.drew) : (Code.region id ops true).wp P Q a w := by
  subst hn
  subst hl
  exact wp_region_any hm (tw_any_of _ _ _ _ (h hT hS))
theorem tw_pure {i : Nat} {N : Option Tmp} {oi : Oper} {v : Value} {fuel : Nat} {l : Array Bool} {a : Act} {w : World} (l' : Array Bool) (hi : ops[i]? = some oi) (hN : oi.dst = N) (hc : anyB md ops l l' i = true)
    (hQ : ∀ c a w, Q (.panic c) (a.put oi.dst v) w → Q (.panic c) a w) (hy : Yields P ops oi v a) {a' : Act} (ha : a.put N v = a')
    (h : tw P md ops Q T S ds fuel l' a' w) : tw P md ops Q T S ds (fuel + 1) l a w := by
  subst ha
  subst hN
  simp only [anyB, Bool.and_eq_true, beq_iff_eq] at hc
  obtain ⟨⟨⟨h1, h2⟩, h3⟩, h6⟩ := hc
  subst h6
  exact tw_anyway hi (Region.noSelect_spec h1) hQ fuel l a w (Region.free_spec hi h2) (by simpa using h3) hy h
/-- A load of what stays behind every operation. -/
theorem tw_takeT {i : Nat} {N : Option Tmp} {oi : Oper} {v : Value} {fuel : Nat} {l : Array Bool} {a : Act} {w : World} (l' : Array Bool) (hi : ops[i]? = some oi) (hN : oi.dst = N) (hc : takeB md ops [] l l' i = true)
    (hQ : ∀ c a w, Q (.panic c) (a.put oi.dst v) w → Q (.panic c) a w) (hy : YieldsIf P ops T oi v a) (hT : T w) {a' : Act} (ha : a.put N v = a')
    (h : tw P md ops Q T S ds fuel l' a' w) : tw P md ops Q T S ds (fuel + 1) l a w := by
  subst ha
  subst hN
  simp only [takeB, Bool.and_eq_true, beq_iff_eq] at hc
  obtain ⟨⟨⟨⟨⟨h1, h2⟩, h3⟩, h4⟩, h5⟩, h6⟩ := hc
  subst h6
  exact tw_first hi (Region.noSelect_spec h1) hQ ops.size fuel l a w (Region.free_spec hi h2) (Region.closedB_spec h4) (Or.inl fun _ _ h => h) (by simpa using h3) hy hT h
/-- A load of what stays till the operations of ds, which wait for it. -/
theorem tw_takeS {i : Nat} {N : Option Tmp} {oi : Oper} {v : Value} {fuel : Nat} {l : Array Bool} {a : Act} {w : World} (l' : Array Bool) (hi : ops[i]? = some oi) (hN : oi.dst = N) (hc : takeB md ops ds l l' i = true)
    (hQ : ∀ c a w, Q (.panic c) (a.put oi.dst v) w → Q (.panic c) a w) (hy : YieldsIf P ops S oi v a) (hS : S w) {a' : Act} (ha : a.put N v = a')
    (h : tw P md ops Q T S ds fuel l' a' w) : tw P md ops Q T S ds (fuel + 1) l a w := by
  subst ha
  subst hN
  simp only [takeB, Bool.and_eq_true, beq_iff_eq] at hc
  obtain ⟨⟨⟨⟨⟨h1, h2⟩, h3⟩, h4⟩, h5⟩, h6⟩ := hc
  subst h6
  exact tw_first hi (Region.noSelect_spec h1) hQ ops.size fuel l a w (Region.free_spec hi h2) (Region.closedB_spec h4) (Or.inr ⟨fun _ _ h => h, fun d hm hun => by have := List.all_eq_true.1 h5 d hm; rw [hun] at this; simpa using this⟩) (by simpa using h3) hy hS h
theorem tw_ready {i : Nat} {oi : Oper} {fuel : Nat} {l : Array Bool} {a : Act} {w : World} (hi : ops[i]? = some oi) (hr : Region.ready md ops l = [i])
    (h : wpOp P ops Q i (fun a' w' => ((T w → T w') ∧ (i ∉ ds → S w → S w')) ∧ tw P md ops Q T S ds fuel (l.setIfInBounds i true) a' w') a w) : tw P md ops Q T S ds (fuel + 1) l a w :=
  ⟨fun h0 => (by rw [hr] at h0; cases h0), fun j hj => by rw [hr] at hj; cases (List.mem_singleton.mp hj); exact h⟩
theorem tw_one {i : Nat} {N : Option Tmp} {oi : Oper} {fuel : Nat} {l : Array Bool} {a : Act} {w : World} (l' : Array Bool) (hi : ops[i]? = some oi) (hN : oi.dst = N) (hc : readyB md ops l l' i = true)
    (h : ∀ K : Act → World → Prop, Shut (∀ a' w', T w' → S w' → (T w' → S w' → tw P md ops Q T S ds fuel l' a' w') → K a' w') → if Region.wanted oi (yielded ops a.tmps) = true then Oper.wp P oi a w K Q else K (a.put N undef) w) :
    tw P md ops Q T S ds (fuel + 1) l a w := by
  subst hN
  simp only [readyB, Bool.and_eq_true, beq_iff_eq] at hc
  obtain ⟨h1, h2⟩ := hc
  subst h2
  exact tw_ready hi h1 (wpOp_step hi (fun K' hK => h K' (fun a w hT hS hW => hK a w ⟨⟨fun _ => hT, fun _ _ => hS⟩, hW hT hS⟩)))
theorem tw_last {i : Nat} {N : Option Tmp} {oi : Oper} {fuel : Nat} {l : Array Bool} {a : Act} {w : World} (l' : Array Bool) (hi : ops[i]? = some oi) (hN : oi.dst = N) (hc : readyB md ops l l' i = true) (hd : i ∈ ds)
    (h : ∀ K : Act → World → Prop, Shut (∀ a' w', T w' → (T w' → tw P md ops Q T S ds fuel l' a' w') → K a' w') → if Region.wanted oi (yielded ops a.tmps) = true then Oper.wp P oi a w K Q else K (a.put N undef) w) :
    tw P md ops Q T S ds (fuel + 1) l a w := by
  subst hN
  simp only [readyB, Bool.and_eq_true, beq_iff_eq] at hc
  obtain ⟨h1, h2⟩ := hc
  subst h2
  exact tw_ready hi h1 (wpOp_step hi (fun K' hK => h K' (fun a w hT hW => hK a w ⟨⟨fun _ => hT, fun hn => absurd hd hn⟩, hW hT⟩)))
theorem tw_done {l : Array Bool} {a : Act} {w : World} {n : Nat} (hr : (Region.ready md ops l == []) = true) (h : Q .normal a w) : tw P md ops Q T S ds n l a w := by
  have hr : Region.ready md ops l = [] := by simpa using hr
  cases n with
  | zero => exact ⟨hr, h⟩
  | succ n => exact ⟨fun _ => h, by rw [hr]; simp⟩
theorem tw_norm {fuel : Nat} {l : Array Bool} {a a' : Act} {w : World} (ha : a = a') (h : tw P md ops Q T S ds fuel l a' w) : tw P md ops Q T S ds fuel l a w := by
  subst ha
  exact h
end
end Go.Proofs.Ytoepiofmkjajaaa.P
/- Marks, as plain lists. -/
namespace Go.Proofs.Ytoepiofmkjajaaa.P
open Go.RowKit Go.Proofs.YtoepiofmkjajaaaW.PrintWords Go.Proofs.YtoepiofmkjajaaaW.PrintLast Go.Proofs.YtoepiofmkjajaaaW.PrintMore
set_option linter.unusedVariables false
set_option linter.unusedSimpArgs false

def nm (i k : Int) : ByteArray := (escutcheonbook_name.f i k).getD ByteArray.empty
theorem name_f (i k : Int) : escutcheonbook_name.f i k = some (nm i k) := rfl
def mk (i : Int) (f n : Nat) : List ByteArray := (List.range' f n).map (fun (k : Nat) => nm i (k : Int))
theorem mk_length (i : Int) (f n : Nat) : (mk i f n).length = n := by simp [mk]
theorem mk_app (i : Int) (f n m : Nat) : mk i f n ++ mk i (f + n) m = mk i f (n + m) := by
  unfold mk
  rw [← List.map_append, List.range'_append_1]
theorem mark_l0 (i : Int) (F n : Nat) (hb : F + n ≤ 4000000) : ∀ (d g x : Nat) (acc : List ByteArray), x + d = F + n → d + 1 ≤ g → acc.length + d ≤ 4000000 → escutcheonbook_markTexts.l0 g i (F : Int) (n : Int) acc (x : Int) = some (acc ++ mk i x d)
  | 0, g, x, acc, h1, h2, h3 => by
    obtain ⟨g, rfl⟩ : ∃ j, g = j + 1 := ⟨g - 1, by omega⟩
    have hw : wrap64 ((F : Int) + (n : Int)) = ((F + n : Nat) : Int) := by unfold wrap64; omega
    rw [escutcheonbook_markTexts.l0, hw, if_neg (by omega)]
    simp [mk]
  | d + 1, g, x, acc, h1, h2, h3 => by
    obtain ⟨g, rfl⟩ : ∃ j, g = j + 1 := ⟨g - 1, by omega⟩
    have hw : wrap64 ((F : Int) + (n : Int)) = ((F + n : Nat) : Int) := by unfold wrap64; omega
    have hx : wrap64 ((x : Int) + 1) = ((x + 1 : Nat) : Int) := by unfold wrap64; omega
    rw [escutcheonbook_markTexts.l0, hw, if_pos (by omega), name_f, Option.bind_some, if_pos (by omega), hx, mark_l0 i F n hb d g (x + 1) (acc ++ [nm i x]) (by omega) (by omega) (by rw [List.length_append, List.length_singleton]; omega)]
    unfold mk
    rw [List.range'_succ, List.map_cons, List.append_assoc]
    rfl
theorem mark_f (i : Int) (F n k : Nat) (hb : F + n ≤ 4000000) (hk : n + 1 ≤ k) : escutcheonbook_markTexts.f k i (F : Int) (n : Int) = some (mk i F n) := by
  unfold escutcheonbook_markTexts.f
  rw [mark_l0 i F n hb n k F [] rfl hk (by simp; omega), List.nil_append]
end Go.Proofs.Ytoepiofmkjajaaa.P
/- A Book is told one more list of texts. -/
namespace Go.Proofs.Ytoepiofmkjajaaa.P
open Go.RowKit Go.Proofs.YtoepiofmkjajaaaW.PrintWords Go.Proofs.YtoepiofmkjajaaaW.PrintLast Go.Proofs.YtoepiofmkjajaaaW.PrintMore
set_option linter.unusedVariables false
set_option linter.unusedSimpArgs false

theorem BookInfo35 : (Try.prog.info? 35).map (fun i => (i.zero, i.size, i.bytes)) = some (some (.slice none 0 0), KH.sz, 24) := by kernel_rfl
section
variable {P : Program} {ops : Array Oper} {Q : Exit → Act → World → Prop}
theorem book_val_ {oi : Oper} {N : Option Tmp} {a : Act} {w w1 : World} {v : Value} {K : Act → World → Prop} (hw : Region.wanted oi (yielded ops a.tmps) = true) (hN : oi.dst = N) (hrun : (execOp a.eval oi).run P w = .ok (.value v) w1)
    (h : K (a.put N v) w1) : if Region.wanted oi (yielded ops a.tmps) = true then Oper.wp P oi a w K Q else K (a.put N undef) w := by
  rw [if_pos hw]
  unfold Oper.wp
  rw [hrun]
  subst hN
  exact h
end
theorem Mv34.row' {B N : Nat} {W W' : World} {v : Value} {l : List ByteArray} (hm : Mv34 W W') (h : Kd.R Kd.string 9 W B (fun _ => True) v l) : Kd.R Kd.string 9 W' B (fun _ => True) v l := Mv34.row h hm
theorem copy_f (l : List ByteArray) (h : l.length < 1000000) : escutcheonbook_copyTexts.f l = some l := by
  unfold escutcheonbook_copyTexts.f
  rw [if_pos (by simp; omega), List.nil_append]
set_option maxHeartbeats 4000000 in
set_option maxRecDepth 100000 in
theorem Book_Texts.calls (N g : Nat) (ls : List (List ByteArray)) (A : Option Addr) (c : Nat) (l : List ByteArray) (w0 w : World) (hI : IsBook w0.heap.size N w g ls) (hB : Below w0.heap.size w0 w) (hR : Kd.R Kd.string 9 w N (fun _ => True) (.slice A l.length c) l)
    (hN : w0.heap.size ≤ N) (hls : ls.length < 250) (hll : l.length < 1000000) :
    Calls Try.prog 15 #[.pointer (some ⟨g, 0, none⟩), .slice A l.length c] w fun e w' => e = .returned (.tuple #[]) ∧ IsBook w0.heap.size w'.heap.size w' g (ls ++ [l]) ∧ Below w0.heap.size w0 w' ∧ Mv34 w w' := by
  obtain ⟨vt, vu, hs, us, h1, h2, h3, h4, h5, h6, h7, h8, h9⟩ := hI
  have hhl : hs.length = ls.length := h5.1
  have hul : us.length = ls.length := h6.1
  obtain ⟨At, ct, e1⟩ := Kd.R_slice h3
  obtain ⟨Au, cu, e2⟩ := Kd.R_slice h4
  subst e1 e2
  have hct : w.cell? ⟨g, 0, none⟩ = some (.slice At hs.length ct) := (blk_cell h1 0).trans rfl
  have hlt : decide ((hs.length : Int) < 250) = true := decide_eq_true (by omega)
  have hlt2 : decide (hs.length < 250) = true := decide_eq_true (by omega)
  have HP0 := Aside0.mk (show BookP w0.heap.size w g (.slice At hs.length ct) (.slice Au us.length cu) hs us from ⟨h1, h2, h3, h4, h9⟩)
  have H5 := Aside0.mk h5
  have H6 := Aside0.mk h6
  have H7 := Aside0.mk h7
  have H8 := Aside0.mk h8
  have HR := Aside0.mk hR
  have HB0 := Aside0.mk hB
  have HN := Aside0.mk hN
  have HCF := Aside0.mk (copy_f l hll)
  have HHL := Aside0.mk (show hs.length < 250 by omega)
  have HUL := Aside0.mk (show us.length < 250 by omega)
  clear h1 h2 h3 h4 h5 h6 h7 h8 h9 hR hB hN hll hhl hul hls
  go_enter Try.func15, Try.ntmps15
  go_wp2_with (((with_reducible refine gate_builtin (b := .append) (xs := #[.tmp 14, .tmp 16]) rfl ?_); at_builtin; refine Kd.R_append KH (w0 := w0) w0.heap.size rfl (.tmp 14) (.tmp 16) 44 35 (.slice none 0 0) 24 rfl Try.underlying44 BookInfo35 rfl (by decide) (by omega) (.slice At hs.length ct) hs (A, l.length, c) [hv (A, l.length, c)] (fun _ => True) (fun _ => False) rfl rfl ?aP (fun _ hk => hk.elim) (fun _ _ => trivial) ?aO ?aB ?aS ?aL ?_; (case aP => exact rfl); (case aO => exact HP0.out.2.2.1); (case aB => exact HB0.out); (case aS => exact HB0.out.size); (case aL => have := HHL.out; omega); intro v1 w3 ho hb hg hat; obtain ⟨A1, c1, e1⟩ := Kd.R_slice ho; rw [List.length_append, List.length_singleton] at e1; subst e1; have HX := Aside0.mk (HP0.out.set0 hg ho hat); have HB3 := Aside0.mk (hb.setCell (p := ⟨g, 0, none⟩) HP0.out.2.1 (.slice A1 (hs.length + 1) c1)); have hb3 : BookAt w3 g (.slice At hs.length ct) (.slice Au us.length cu) := blk_grown HP0.out.1 hg (Kd.R_ne HP0.out.2.2.1 HP0.out.1 (by decide)); have hc3 : w3.cell? ⟨g, 0, none⟩ = some (.slice At hs.length ct) := (blk_cell hb3 0).trans rfl; have hf3 : w3.frozen? ⟨g, 0, none⟩ = false := blk_frozen hb3 0; clear ho hb hg hat hb3))
  clear hc3 hf3 hct HP0 HB0
  generalize w3.setCell ⟨g, 0, none⟩ (.slice A1 (hs.length + 1) c1) = w4 at *
  have HP := Aside0.mk (HX.out.1.mv (Mv.below (below_drew1 (Below.refl _ w4))))
  have HM := Aside0.mk (HX.out.2.trans (Mv34.below (below_drew1 (Below.refl _ w4))))
  have HB := Aside0.mk (below_drew1 HB3.out)
  have hrd := Kd.R_reads' (HM.out.row' (N := N) (Kd.R_lower HR.out HN.out))
  have HL := Aside0.mk hrd.2.2
  have HLc := Aside0.mk hrd.2.1
  have hcu : w4.drew.cell? ⟨g, 1, none⟩ = some (.slice Au us.length cu) := (blk_cell HP.out.1 1).trans rfl
  clear HX HB3 hrd
  refine tw_start (n := 12) (T := fun _ => True) (S := fun w' => w'.cell? ⟨g, 1, none⟩ = some (.slice Au us.length cu)) (ds := [11]) #[false, false, false, false, false, false, false, false, false, false, false, false] (by kernel_rfl) rfl rfl trivial hcu (fun hHT hHS => ?_)
  generalize w4.drew = w5 at *
  refine tw_pure (i := 0) (N := some 20) (v := ?_) (a' := ?_) #[true, false, false, false, false, false, false, false, false, false, false, false] rfl rfl (by kernel_rfl) (fun _ _ _ h => h) (Or.inl ⟨by rfl, ?_⟩) ?_ ?_
  rotate_left
  · intro w'
    go_simp
    with_reducible rfl
  rotate_left
  · simp only [Act.put, List.setIfInBounds_toArray, List.set_cons_zero, List.set_cons_succ, i64_w, i32_w, IntKind.wrap_u32]
    rfl
  refine tw_pure (i := 1) (N := some 21) (v := ?_) (a' := ?_) #[true, true, false, false, false, false, false, false, false, false, false, false] rfl rfl (by kernel_rfl) (fun _ _ _ h => h) (Or.inl ⟨by rfl, ?_⟩) ?_ ?_
  rotate_left
  · intro w'
    go_simp
    with_reducible rfl
  rotate_left
  · simp only [Act.put, List.setIfInBounds_toArray, List.set_cons_zero, List.set_cons_succ, i64_w, i32_w, IntKind.wrap_u32]
    rfl
  refine tw_pure (i := 2) (N := some 22) (v := ?_) (a' := ?_) #[true, true, true, false, false, false, false, false, false, false, false, false] rfl rfl (by kernel_rfl) (fun _ _ _ h => h) (Or.inl ⟨by rfl, ?_⟩) ?_ ?_
  rotate_left
  · intro w'
    go_simp
    with_reducible rfl
  rotate_left
  · simp only [Act.put, List.setIfInBounds_toArray, List.set_cons_zero, List.set_cons_succ, i64_w, i32_w, IntKind.wrap_u32]
    rfl
  refine tw_pure (i := 3) (N := some 23) (v := ?_) (a' := ?_) #[true, true, true, true, false, false, false, false, false, false, false, false] rfl rfl (by kernel_rfl) (fun _ _ _ h => h) (Or.inl ⟨by rfl, ?_⟩) ?_ ?_
  rotate_left
  · intro w'
    go_simp
    with_reducible rfl
  rotate_left
  · simp only [Act.put, List.setIfInBounds_toArray, List.set_cons_zero, List.set_cons_succ, i64_w, i32_w, IntKind.wrap_u32]
    rfl
  refine tw_takeS (i := 4) (N := some 24) (v := ?_) (a' := ?_) #[true, true, true, true, true, false, false, false, false, false, false, false] rfl rfl (by kernel_rfl) (fun _ _ _ h => h) (Or.inl ⟨by rfl, ?_⟩) hHS ?_ ?_
  rotate_left
  · rintro w' h1_
    go_simp
    with_reducible rfl
  rotate_left
  · simp only [Act.put, List.setIfInBounds_toArray, List.set_cons_zero, List.set_cons_succ, i64_w, i32_w, IntKind.wrap_u32]
    rfl
  refine tw_pure (i := 5) (N := some 25) (v := ?_) (a' := ?_) #[true, true, true, true, true, true, false, false, false, false, false, false] rfl rfl (by kernel_rfl) (fun _ _ _ h => h) (Or.inl ⟨by rfl, ?_⟩) ?_ ?_
  rotate_left
  · intro w'
    go_simp
    with_reducible rfl
  rotate_left
  · simp only [Act.put, List.setIfInBounds_toArray, List.set_cons_zero, List.set_cons_succ, i64_w, i32_w, IntKind.wrap_u32]
    rfl
  refine tw_one (i := 6) (N := some 26) #[true, true, true, true, true, true, true, false, false, false, false, false] rfl rfl (by kernel_rfl) (fun K hK => ?_)
  refine goes_ Try.func23 (by kernel_rfl) rfl #[.slice A l.length c] (by rfl) rfl rfl (by (try simp only [List.map_toArray, List.map_cons, List.map_nil]); first | done | rfl) ?_
  with_reducible refine (escutcheonbook_copyTexts.calls A c l l _ HL.out HLc.out HCF.out).mono ?_
  rintro e_ w6 ⟨v0, rfl, hcr, hb_⟩
  refine ⟨_, rfl, ?_⟩
  obtain ⟨Ac, cc, e2⟩ := Kd.R_slice hcr
  subst e2
  have HP2 := Aside0.mk (HP.out.mv (Mv.below hb_))
  have HM2 := Aside0.mk (HM.out.trans (Mv34.below hb_))
  have HB2 := Aside0.mk (below_step HB.out hb_)
  have HC := Aside0.mk (Kd.R_lower hcr HB.out.size)
  have hcu2 : w6.cell? ⟨g, 1, none⟩ = some (.slice Au us.length cu) := (blk_cell HP2.out.1 1).trans rfl
  clear HP HM HB hcr hb_ hcu HL
  clear hHT hHS
  refine hK.out _ _ trivial hcu2 (fun hHT hHS => ?_)
  clear hK K
  refine tw_norm (a' := ?_) ?_ ?_
  rotate_left
  · show Act.put _ (some 26) _ = _
    simp only [Act.put, List.setIfInBounds_toArray, List.set_cons_zero, List.set_cons_succ, i64_w, i32_w, IntKind.wrap_u32]
    rfl
  refine tw_one (i := 7) (N := some 27) #[true, true, true, true, true, true, true, true, false, false, false, false] rfl rfl (by kernel_rfl) (fun K hK => ?_)
  refine book_val_ (v := .slice (some ⟨w6.heap.size, 0, none⟩) 1 1) (w1 := w6.alloc (.cells [hv (Ac, l.length, cc)].toArray 35)) (by rfl) rfl (by first | (go_simp; done) | (go_simp; rfl)) ?_
  have hcu3 : (w6.alloc (.cells [hv (Ac, l.length, cc)].toArray 35)).cell? ⟨g, 1, none⟩ = some (.slice Au us.length cu) := (blk_cell (blk_alloc HP2.out.1 _) 1).trans rfl
  clear hHT hHS
  refine hK.out _ _ trivial hcu3 (fun hHT hHS => ?_)
  clear hK K
  refine tw_norm (a' := ?_) ?_ ?_
  rotate_left
  · show Act.put _ (some 27) _ = _
    simp only [Act.put, List.setIfInBounds_toArray, List.set_cons_zero, List.set_cons_succ, i64_w, i32_w, IntKind.wrap_u32]
    rfl
  refine tw_one (i := 8) (N := some 28) #[true, true, true, true, true, true, true, true, true, false, false, false] rfl rfl (by kernel_rfl) (fun K hK => ?_)
  refine Kd.R_append_step KH (w0 := w0) w0.heap.size (by rfl) (.tmp 24) (.tmp 27) 44 35 (.slice none 0 0) 24 rfl Try.underlying44 BookInfo35 rfl (by decide) (by omega) (.slice Au us.length cu) us (Ac, l.length, cc) [hv (Ac, l.length, cc)] (fun _ => True) (fun _ => False) rfl rfl rfl (fun _ hk => hk.elim) (fun _ _ => trivial) HP2.out.2.2.2.1 HB2.out HB2.out.size (by have := HUL.out; omega) ?_
  intro v8 w8 ho hb hg hat
  obtain ⟨A8, c8, e8⟩ := Kd.R_slice ho
  rw [List.length_append, List.length_singleton] at e8
  subst e8
  have HX := Aside0.mk (HP2.out.set1 hg ho hat)
  have hb8 : BookAt w8 g (.slice A1 (hs.length + 1) c1) (.slice Au us.length cu) := blk_grown HP2.out.1 hg (Kd.R_ne HP2.out.2.2.2.1 HP2.out.1 (by decide))
  have HB3 := Aside0.mk (hb.setCell (p := ⟨g, 1, none⟩) HP2.out.2.1 (.slice A8 (us.length + 1) c8))
  have HM3 := Aside0.mk (HM2.out.trans HX.out.2)
  have HC3 := Aside0.mk (HX.out.2.row HC.out)
  have hcu8 : w8.cell? ⟨g, 1, none⟩ = some (.slice Au us.length cu) := (blk_cell hb8 1).trans rfl
  have hfu8 : w8.frozen? ⟨g, 1, none⟩ = false := blk_frozen hb8 1
  clear ho hb hg hat hcu2 hcu3 hb8 HP2 HM2 HB2 HC
  clear hHT hHS
  refine hK.out _ _ trivial hcu8 (fun hHT hHS => ?_)
  clear hK K
  refine tw_norm (a' := ?_) ?_ ?_
  rotate_left
  · show Act.put _ (some 28) _ = _
    simp only [Act.put, List.setIfInBounds_toArray, List.set_cons_zero, List.set_cons_succ, i64_w, i32_w, IntKind.wrap_u32]
    rfl
  refine tw_pure (i := 9) (N := some 29) (v := ?_) (a' := ?_) #[true, true, true, true, true, true, true, true, true, true, false, false] rfl rfl (by kernel_rfl) (fun _ _ _ h => h) (Or.inl ⟨by rfl, ?_⟩) ?_ ?_
  rotate_left
  · intro w'
    go_simp
    with_reducible rfl
  rotate_left
  · simp only [Act.put, List.setIfInBounds_toArray, List.set_cons_zero, List.set_cons_succ, i64_w, i32_w, IntKind.wrap_u32]
    rfl
  refine tw_pure (i := 10) (N := some 30) (v := ?_) (a' := ?_) #[true, true, true, true, true, true, true, true, true, true, true, false] rfl rfl (by kernel_rfl) (fun _ _ _ h => h) (Or.inl ⟨by rfl, ?_⟩) ?_ ?_
  rotate_left
  · intro w'
    go_simp
    with_reducible rfl
  rotate_left
  · simp only [Act.put, List.setIfInBounds_toArray, List.set_cons_zero, List.set_cons_succ, i64_w, i32_w, IntKind.wrap_u32]
    rfl
  refine tw_last (i := 11) (N := none) #[true, true, true, true, true, true, true, true, true, true, true, true] rfl rfl (by kernel_rfl) (by decide) (fun K hK => ?_)
  refine skip_ (w1 := ?_) (by rfl) rfl ?_ ?_
  rotate_left
  · first | (go_simp; rfl) | (have hSC_ := @cell_set_blk; go_simp; rfl)
  refine hK.out _ _ trivial (fun hHT => ?_)
  clear hK K
  refine tw_done (by kernel_rfl) ?_
  generalize w8.setCell ⟨g, 1, none⟩ (.slice A8 (us.length + 1) c8) = w9 at *
  first | go_end0 | ((try simp only [Exit.inBlock, Exit.then]); refine bodyPost_ret (results_none rfl _ _ _) rfl ?_)
  have hr9 : Kd.R Kd.string 9 w9 w0.heap.size (fun _ => True) (hv (A, l.length, c)) l := HM3.out.row' (N := N) (Kd.R_lower HR.out HN.out)
  obtain ⟨iR, hoR⟩ := Kd.R_own HR.out
  obtain ⟨h1, h2, h3, h4, h9⟩ := HX.out.1
  exact ⟨rfl, ⟨_, _, _, _, h1, h2, h3, h4, (HM3.out.rows H5.out).app hr9, (HM3.out.rows H6.out).app HC3.out, Sep.app H7.out H8.out (fun k hk => own_base hoR k hk), ((HM3.out.rows H5.out).app hr9).under, h9⟩, HB3.out, HM3.out⟩
end Go.Proofs.Ytoepiofmkjajaaa.P

/- A Book's lists are still what they were. -/
namespace Go.Proofs.Ytoepiofmkjajaaa.P
open Go.RowKit Go.Proofs.YtoepiofmkjajaaaW.PrintWords Go.Proofs.YtoepiofmkjajaaaW.PrintLast Go.Proofs.YtoepiofmkjajaaaW.PrintMore
set_option linter.unusedVariables false
set_option linter.unusedSimpArgs false

/-- A row's head at its place. -/
theorem KH_at {B : Nat} {W : World} {ok : Nat → Prop} {A : Option Addr} {n c : Nat} {hs : List Hdr} (h : KH.R 35 W B ok (.slice A n c) hs) (i : Nat) (h1 : i < hs.length) : ∃ ad, A = some ad ∧ W.cell? (ad.add i) = some (hv (hAt hs i)) :=
  ReadsOf.at_ (Kd.reads_of_C (enc := hv) (d := h0) (h1 := fun _ => rfl) (Kd.R_reads' h).2.2) (i : Int) (by omega) (by omega)
theorem w64_succ {i : Nat} (h : i < 4611686018427387904) : wrap64 ((i : Int) + 1) = ((i + 1 : Nat) : Int) := by unfold wrap64; omega
theorem RowsAt.at {B : Nat} {W : World} {hs : List Hdr} {ls : List (List ByteArray)} (h : RowsAt B W hs ls) (i : Nat) (hi : i < ls.length) : ∃ A c, hv (hAt hs i) = .slice A (lAt ls i).length c ∧ (lAt ls i).length ≤ c ∧ Kd.string.C W A (lAt ls i).length (lAt ls i) := by
  obtain ⟨A, c, e⟩ := Kd.R_slice (h.2 i hi)
  have hh := h.2 i hi
  rw [e] at hh
  exact ⟨A, c, e, (Kd.R_reads' hh).2.1, (Kd.R_reads' hh).2.2⟩
def Short (ls : List (List ByteArray)) : Prop := ls.length ≤ 250 ∧ ∀ l ∈ ls, l.length ≤ 1000000
theorem Short.at {ls : List (List ByteArray)} (h : Short ls) (i : Nat) : (lAt ls i).length ≤ 1000000 := by
  unfold lAt
  by_cases hi : i < ls.length
  · rw [List.getD_eq_getElem?_getD, List.getElem?_eq_getElem hi]; exact h.2 _ (List.getElem_mem hi)
  · rw [List.getD_eq_getElem?_getD, List.getElem?_eq_none (by omega)]; exact Nat.zero_le _
set_option maxHeartbeats 4000000 in
set_option maxRecDepth 100000 in
theorem Book_stillTexts.calls (g : Nat) (vt vu : Value) (hs us : List Hdr) (ls : List (List ByteArray)) (B : Nat) (w : World) (hP : BookP B w g vt vu hs us) (h5 : RowsAt B w hs ls) (h6 : RowsAt B w us ls) (hS : Short ls) :
    Calls Try.prog 25 #[.pointer (some ⟨g, 0, none⟩)] w fun e w' => e = .returned (.bool true) ∧ Drawn0 w w' := by
  obtain ⟨h1, h2, h3, h4, h9⟩ := hP
  have hhl : hs.length = ls.length := h5.1
  have hul : us.length = ls.length := h6.1
  obtain ⟨At, ct, e1⟩ := Kd.R_slice h3
  obtain ⟨Au, cu, e2⟩ := Kd.R_slice h4
  subst e1 e2
  rw [hhl] at h3 h1
  rw [hul] at h4 h1
  have hct : w.cell? ⟨g, 0, none⟩ = some (.slice At ls.length ct) := (blk_cell h1 0).trans rfl
  have hcu : w.cell? ⟨g, 1, none⟩ = some (.slice Au ls.length cu) := (blk_cell h1 1).trans rfl
  have H3 := Aside0.mk h3
  have H4 := Aside0.mk h4
  have H5 := Aside0.mk h5
  have H6 := Aside0.mk h6
  have HS := Aside0.mk hS
  have HH := Aside0.mk hhl
  have HU := Aside0.mk hul
  clear h1 h2 h3 h4 h5 h6 h9 hS hhl hul
  go_enter Try.func25, Try.ntmps25
  go_wp2
  go_loopg [3] (ls.length + 1) (fun kq v3 wr => ∃ i : Nat, v3 = .int .i64 (i : Int) ∧ Aside0 (kq + i = ls.length + 1) ∧ Aside0 (i ≤ ls.length) ∧ Drawn0 w wr)
  case atStart => exact ⟨0, rfl, ⟨by omega⟩, ⟨by omega⟩, Drawn0.refl _⟩
  case round =>
    obtain ⟨i, rfl, HK, HI, ⟨m1, rfl⟩⟩ := hrel
    cases gk with
    | zero => exact absurd HK.out (by have := HI.out; omega)
    | succ k1 =>
      by_cases hi : i < ls.length
      · have c0 : decide ((i : Int) < (ls.length : Int)) = true := decide_eq_true (by omega)
        have c1 : decide (0 ≤ (i : Int)) = true := decide_eq_true (by omega)
        have p1 := eq_true (show 0 ≤ (i : Int) by omega)
        have q1 := eq_true (show (i : Int) < (ls.length : Int) by omega)
        have q2 := eq_true hi
        have c2 : decide (i < ls.length) = true := decide_eq_true hi
        obtain ⟨ad, e, hx⟩ := KH_at H3.out i (by rw [HH.out]; exact hi)
        subst e
        obtain ⟨au, e, hy⟩ := KH_at H4.out i (by rw [HU.out]; exact hi)
        subst e
        obtain ⟨A1, c1_, e1, hl1, hr1⟩ := H5.out.at i hi
        obtain ⟨A2, c2_, e2, hl2, hr2⟩ := H6.out.at i hi
        rw [e1] at hx
        rw [e2] at hy
        have HL1 := Aside0.mk hl1
        have HR1 := Aside0.mk hr1
        have HL2 := Aside0.mk hl2
        have HR2 := Aside0.mk hr2
        have HF := Aside0.mk (Go.Proofs.Ytoepiofmkjajaaa.B.same_f (lAt ls i) (HS.out.at i) ((lAt ls i).length + 1) (Nat.le_refl _))
        have HW := Aside0.mk (w64_succ (i := i) (by have := HS.out.1; omega))
        clear hl1 hr1 hl2 hr2 e1 e2 hi
        go_wp2
        repeat (go_quiet (first | (go_at_call 13; (with_reducible refine (escutcheonbook_SameTexts.calls ((lAt ls i).length + 1) A1 c1_ (lAt ls i) A2 c2_ (lAt ls i) true _ ?s1 HL1.out ?s2 HL2.out HF.out).mono ?_); (case s1 => repeat (first | exact HR1.out | (with_reducible refine Kd.C_alloc ?_ _) | (with_reducible refine Kd.C_drewN ?_ _) | (with_reducible refine Kd.C_drew ?_))); (case s2 => repeat (first | exact HR2.out | (with_reducible refine Kd.C_alloc ?_ _) | (with_reducible refine Kd.C_drewN ?_ _) | (with_reducible refine Kd.C_drew ?_))); rintro e w' ⟨rfl, ⟨nd, rfl⟩⟩; (try first | exact ⟨rfl, _, World.drewN_drewN _ _ _⟩ | exact ⟨rfl, _, Eq.trans (World.drewN_drewN _ _ _) (congrArg (World.drewN _) (Nat.add_assoc _ _ _))⟩))); try go_wp2)
        rw [HW.out]
        go_roundg k1
        case measure => omega
        case rel => exact ⟨i + 1, rfl, ⟨by have := HK.out; omega⟩, ⟨by have := of_eq_true q2; omega⟩, by repeat (first | exact Drawn0.refl _ | apply Drawn0.step)⟩
      · have c0 : decide ((i : Int) < (ls.length : Int)) = false := decide_eq_false (by omega)
        have c2 : decide (i < ls.length) = false := decide_eq_false hi
        have q1 := eq_false (show ¬ (i : Int) < (ls.length : Int) by omega)
        have q2 := eq_false hi
        clear hi
        go_wp2
        go_ret
        exact ⟨rfl, by repeat (first | exact Drawn0.refl _ | apply Drawn0.step)⟩
end Go.Proofs.Ytoepiofmkjajaaa.P
/- A Book's lists are marked. -/
namespace Go.Proofs.Ytoepiofmkjajaaa.P
open Go.RowKit Go.Proofs.YtoepiofmkjajaaaW.PrintWords Go.Proofs.YtoepiofmkjajaaaW.PrintLast Go.Proofs.YtoepiofmkjajaaaW.PrintMore
set_option linter.unusedVariables false
set_option linter.unusedSimpArgs false

theorem lAt_set (ls : List (List ByteArray)) (i j : Nat) (x : List ByteArray) : lAt (ls.set i x) j = if i = j ∧ j < ls.length then x else lAt ls j := by
  unfold lAt
  rw [List.getD_eq_getElem?_getD, List.getD_eq_getElem?_getD, List.getElem?_set]
  by_cases h : i = j
  · subst h
    rw [if_pos rfl]
    by_cases h2 : i < ls.length
    · rw [if_pos h2, if_pos ⟨rfl, h2⟩]; rfl
    · rw [if_neg h2, if_neg (fun h => h2 h.2), List.getElem?_eq_none (by omega)]
  · rw [if_neg h, if_neg (fun h' => h h'.1)]
theorem set_lAt (ls : List (List ByteArray)) (i : Nat) (x : List ByteArray) (hi : i < ls.length) (e : lAt ls i = x) : ls.set i x = ls := by
  apply List.ext_getElem?
  intro j
  rw [List.getElem?_set]
  by_cases h : i = j
  · subst h
    rw [if_pos rfl, if_pos hi, ← e, lAt, List.getD_eq_getElem?_getD, List.getElem?_eq_getElem hi]
    rfl
  · rw [if_neg h]
def mAt (m : List ByteArray) (k : Nat) : ByteArray := m.getD k ByteArray.empty
theorem put_step (m l : List ByteArray) (k : Nat) (hk : k < m.length) (e : m.length = l.length) : (m.take k ++ l.drop k).set k (mAt m k) = m.take (k + 1) ++ l.drop (k + 1) := by
  apply List.ext_getElem?
  intro j
  rw [List.getElem?_set, List.length_append, List.length_take, List.length_drop]
  by_cases h : k = j
  · subst h
    rw [if_pos rfl, if_pos (by omega), List.getElem?_append_left (by rw [List.length_take]; omega), List.getElem?_take, if_pos (by omega), mAt, List.getD_eq_getElem?_getD, List.getElem?_eq_getElem hk]
    rfl
  · rw [if_neg h]
    by_cases h2 : j < k
    · rw [List.getElem?_append_left (by rw [List.length_take]; omega), List.getElem?_append_left (by rw [List.length_take]; omega), List.getElem?_take, List.getElem?_take, if_pos h2, if_pos (by omega)]
    · rw [List.getElem?_append_right (by rw [List.length_take]; omega), List.getElem?_append_right (by rw [List.length_take]; omega), List.length_take, List.length_take, List.getElem?_drop, List.getElem?_drop]
      congr 1
      omega
theorem RowsAt.put {B : Nat} {W : World} {hs : List Hdr} {ls : List (List ByteArray)} (h : RowsAt B W hs ls) (h7 : Sep hs) (i : Nat) (hi : i < ls.length) {b n c : Nat} (e : hv (hAt hs i) = .slice (some ⟨b, 0, none⟩) n c) (k : Nat) (x : ByteArray) :
    RowsAt B (W.setCell ⟨b, k, none⟩ (.string x)) hs (ls.set i ((lAt ls i).set k x)) := by
  refine ⟨by rw [List.length_set]; exact h.1, fun j hj => ?_⟩
  rw [List.length_set] at hj
  rw [lAt_set]
  by_cases hij : i = j
  · subst hij
    rw [if_pos ⟨rfl, hj⟩, e]
    have := h.2 i hi
    rw [e] at this
    exact (Kd.R_putg this (k : Int) x).1
  · rw [if_neg (fun h' => hij h'.1)]
    refine str_ok (ok := fun k' => k' ≠ b) (Kd.R_far (str_ok (h.2 j hj) (fun k' hk' (e2 : k' = b) => ?_)) (p := ⟨b, k, none⟩) (fun _ h' => h') (.string x)) (fun _ _ => trivial)
    subst e2
    exact h7 i j k' (h.1 ▸ hi) (h.1 ▸ hj) hij (by rw [e]; rfl) hk'
theorem BookP.put {B : Nat} {W : World} {g : Nat} {vt vu : Value} {hs us : List Hdr} (h : BookP B W g vt vu hs us) {b : Nat} {cells : Array Value} (hb : W.heap[b]? = some (.cells cells 9 (0, 0))) (k : Nat) (v : Value) : BookP B (W.setCell ⟨b, k, none⟩ v) g vt vu hs us := by
  obtain ⟨h1, h2, h3, h4, h9⟩ := h
  exact ⟨blk_far h1 (blk_ne h1 hb (by decide)) v, h2, Kd.R_set h3 hb (by simp [KH, Kd.scalar]) k v, Kd.R_set h4 hb (by simp [KH, Kd.scalar]) k v, h9⟩
/-- The first i of the lists are marked. -/
def Putd (ls ls' : List (List ByteArray)) (i : Nat) : Prop := ls'.length = ls.length ∧ ∀ j, j < ls.length → lAt ls' j = if j < i then mk (j : Int) 0 (lAt ls j).length else lAt ls j
theorem Putd.none (ls : List (List ByteArray)) : Putd ls ls 0 := ⟨rfl, fun j _ => by rw [if_neg (by omega)]⟩
theorem Putd.step {ls ls' : List (List ByteArray)} {i : Nat} (h : Putd ls ls' i) (hi : i < ls.length) : Putd ls (ls'.set i (mk (i : Int) 0 (lAt ls i).length)) (i + 1) := by
  refine ⟨by rw [List.length_set]; exact h.1, fun j hj => ?_⟩
  rw [lAt_set, h.1]
  by_cases e : i = j
  · subst e; rw [if_pos ⟨rfl, hj⟩, if_pos (by omega)]
  · rw [if_neg (fun h' => e h'.1), h.2 j hj]
    by_cases e2 : j < i
    · rw [if_pos e2, if_pos (by omega)]
    · rw [if_neg e2, if_neg (by omega)]
theorem str_at {W : World} {A : Option Addr} {n : Nat} {m : List ByteArray} (h : Kd.string.C W A n m) (k : Nat) (hk : k < n) : ∃ am, A = some am ∧ W.cell? (am.add k) = some (.string (mAt m k)) := Kd.at_string h (k : Int) (by omega) (by omega)
set_option maxHeartbeats 4000000 in
set_option maxRecDepth 100000 in
theorem Book_putTexts.calls (g : Nat) (vt vu : Value) (hs us : List Hdr) (ls : List (List ByteArray)) (w0 w : World) (hP : BookP w0.heap.size w g vt vu hs us) (h5 : RowsAt w0.heap.size w hs ls) (h7 : Sep hs) (hS : Short ls) (hB : Below w0.heap.size w0 w) :
    Calls Try.prog 33 #[.pointer (some ⟨g, 0, none⟩)] w fun e w' => e = .returned (.tuple #[]) ∧ BookP w0.heap.size w' g vt vu hs us ∧ (∃ ls', RowsAt w0.heap.size w' hs ls' ∧ Putd ls ls' ls.length) ∧ Below w0.heap.size w0 w' := by
  have hhl : hs.length = ls.length := h5.1
  obtain ⟨At, ct, e1⟩ := Kd.R_slice hP.2.2.1
  subst e1
  rw [hhl] at hP ⊢
  have hct : w.cell? ⟨g, 0, none⟩ = some (.slice At ls.length ct) := (blk_cell hP.1 0).trans rfl
  have HP := Aside0.mk hP
  have H5 := Aside0.mk (show ∃ ls', RowsAt w0.heap.size w hs ls' ∧ Putd ls ls' 0 from ⟨ls, h5, Putd.none ls⟩)
  have H7 := Aside0.mk h7
  have HS := Aside0.mk hS
  have HH := Aside0.mk hhl
  have HB := Aside0.mk hB
  clear hP h5 h7 hS hhl hB
  go_enter Try.func33, Try.ntmps33
  go_wp2
  go_loopg [2] (ls.length + 1) (fun kq v2 wr => ∃ i : Nat, v2 = .int .i64 (i : Int) ∧ Aside0 (kq + i = ls.length + 1) ∧ Aside0 (i ≤ ls.length) ∧ Aside0 (BookP w0.heap.size wr g (.slice At ls.length ct) vu hs us) ∧ Aside0 (∃ ls', RowsAt w0.heap.size wr hs ls' ∧ Putd ls ls' i) ∧ Aside0 (Below w0.heap.size w0 wr))
  case atStart => exact ⟨0, rfl, ⟨by omega⟩, ⟨by omega⟩, HP, H5, HB⟩
  case round =>
    clear hct HP H5 HB
    obtain ⟨i, rfl, HK, HI, HP, H5, HB⟩ := hrel
    cases gk with
    | zero => exact absurd HK.out (by have := HI.out; omega)
    | succ k1 =>
      have hct : wr.cell? ⟨g, 0, none⟩ = some (.slice At ls.length ct) := (blk_cell HP.out.1 0).trans rfl
      by_cases hi : i < ls.length
      · have c0 : decide ((i : Int) < (ls.length : Int)) = true := decide_eq_true (by omega)
        have c1 : decide (0 ≤ (i : Int)) = true := decide_eq_true (by omega)
        have p1 := eq_true (show 0 ≤ (i : Int) by omega)
        have q1 := eq_true (show (i : Int) < (ls.length : Int) by omega)
        have q2 := eq_true hi
        have c2 : decide (i < ls.length) = true := decide_eq_true hi
        obtain ⟨ls1, h5, hp5⟩ := H5.out
        obtain ⟨ad, e, hx⟩ := KH_at HP.out.2.2.1 i (by rw [HH.out]; exact hi)
        subst e
        have hl0 : lAt ls1 i = lAt ls i := by rw [hp5.2 i hi, if_neg (by omega)]
        obtain ⟨A1, c1_, e1, hl1, hr1⟩ := h5.at i (by rw [hp5.1]; exact hi)
        rw [hl0] at e1 hl1 hr1
        rw [e1] at hx
        have HE := Aside0.mk e1
        have H5' := Aside0.mk h5
        have HQ := Aside0.mk hp5
        have HL0 := Aside0.mk hl0
        obtain ⟨n, hn⟩ : ∃ n, n = (lAt ls i).length := ⟨_, rfl⟩
        have HN := Aside0.mk (show n ≤ 1000000 by rw [hn]; exact HS.out.at i)
        rw [← hn] at hx HE
        have Hn := Aside0.mk hn
        have HF := Aside0.mk (show escutcheonbook_markTexts.f (n + 1) (i : Int) 0 (n : Int) = some (mk (i : Int) 0 n) from mark_f (i : Int) 0 n (n + 1) (by have := HN.out; omega) (Nat.le_refl _))
        have HW := Aside0.mk (w64_succ (i := i) (by have := HS.out.1; omega))
        have HNb := Aside0.mk (show ∀ b, (hv (hAt hs i)).ownBlock = some b → b < wr.heap.size from fun b hb => Kd.R_lt (h5.2 i (by rw [hp5.1]; exact hi)) b hb)
        clear hl1 hr1 e1 hi h5 hp5 hl0 hn H5
        go_wp2_with (first | ((with_reducible refine gate_callee (f := 63) rfl ?_); refine goesL_ (some 23) rfl rfl Try.func63 (by kernel_rfl) rfl #[.int .i64 (i : Int), .int .i64 0, .int .i64 (n : Int)] rfl (by (try simp only [List.map_toArray, List.map_cons, List.map_nil]); first | done | rfl) ?_; (with_reducible refine (escutcheonbook_markTexts.calls (n + 1) (i : Int) 0 (n : Int) (mk (i : Int) 0 n) _ HF.out).mono ?_); rintro e w7 ⟨v0, rfl, ho, hb⟩; refine ⟨_, rfl, ?_⟩; obtain ⟨Am, cm, e2⟩ := Kd.R_slice ho; rw [mk_length] at e2; subst e2; have HM := Aside0.mk ho; have HB2 := Aside0.mk (below_step HB.out hb); have HP2 := Aside0.mk (HP.out.mv (Mv.below hb)); have H52 := Aside0.mk (H5'.out.mv (Mv.below hb)); have hx7 := (hb.cell (World.block_lt_of_cell? _ _ hx)).trans hx; clear ho hb hx hct HB HP H5') | (go_at_call 63; (with_reducible refine (escutcheonbook_markTexts.calls (n + 1) (i : Int) 0 (n : Int) (mk (i : Int) 0 n) _ HF.out).mono ?_); rintro e w7 ⟨v0, rfl, ho, hb⟩; obtain ⟨Am, cm, e2⟩ := Kd.R_slice ho; rw [mk_length] at e2; subst e2; have HM := Aside0.mk ho; have HB2 := Aside0.mk (below_step HB.out hb); have HP2 := Aside0.mk (HP.out.mv (Mv.below hb)); have H52 := Aside0.mk (H5'.out.mv (Mv.below hb)); have hx7 := (hb.cell (World.block_lt_of_cell? _ _ hx)).trans hx; clear ho hb hx hct HB HP H5'))
        go_loopg [4] (n + 1) (fun kq v4 wq => ∃ k : Nat, v4 = .int .i64 (k : Int) ∧ Aside0 (kq + k = n + 1) ∧ Aside0 (k ≤ n) ∧ Aside0 (BookP w0.heap.size wq g (.slice (some ad) ls.length ct) vu hs us) ∧ Aside0 (RowsAt w0.heap.size wq hs (ls1.set i ((mk (i : Int) 0 n).take k ++ (lAt ls i).drop k))) ∧ Aside0 (Below w0.heap.size w0 wq) ∧ Aside0 (Kd.R Kd.string 9 wq wr.heap.size (fun _ => True) (.slice Am n cm) (mk (i : Int) 0 n)))
        case atStart =>
          refine ⟨0, rfl, ⟨by omega⟩, ⟨Nat.zero_le _⟩, HP2, ⟨?_⟩, HB2, HM⟩
          rw [List.take_zero, List.nil_append, List.drop_zero, set_lAt ls1 i (lAt ls i) (by rw [HQ.out.1]; exact of_eq_true q2) HL0.out]
          exact H52.out
        case round =>
          clear HP2 H52 HB2 HM hx7
          obtain ⟨k, rfl, HKq, HKn, HP, H5, HB, HM⟩ := hrel
          cases gk with
          | zero => exact absurd HKq.out (by have := HKn.out; omega)
          | succ k2 =>
            by_cases hk : k < n
            · have d0 : decide ((k : Int) < (n : Int)) = true := decide_eq_true (by omega)
              have d1 : decide (0 ≤ (k : Int)) = true := decide_eq_true (by omega)
              have d2 := eq_true (show 0 ≤ (k : Int) by omega)
              have d3 := eq_true (show (k : Int) < (n : Int) by omega)
              have d4 := eq_true hk
              have d5 : decide (k < n) = true := decide_eq_true hk
              go_wp2
              have HWk := Aside0.mk (w64_succ (i := k) (by have := HN.out; omega))
              have hil : i < ls1.length := by rw [HQ.out.1]; exact of_eq_true q2
              have hL : ((mk (i : Int) 0 n).take k ++ (lAt ls i).drop k).length = n := by rw [List.length_append, List.length_take, List.length_drop, mk_length, ← Hn.out]; omega
              have HP5 := Aside0.mk (HP.out.mv (Mv.below (below_drew1 (Below.refl _ wr))))
              have H55 := Aside0.mk (H5.out.mv (Mv.below (below_drew1 (Below.refl _ wr))))
              have HB5 := Aside0.mk (below_drew1 HB.out)
              have HM5 := Aside0.mk (Kd.R_drew HM.out)
              clear HP H5 HB HM
              have hrow := H55.out.2 i (by rw [List.length_set]; exact hil)
              rw [lAt_set, if_pos ⟨rfl, hil⟩, HE.out] at hrow
              obtain ⟨b, cb, e, hb0, hbl, cells, hcells⟩ := Kd.R_form hrow (by rw [hL]; omega)
              injection e with e1 e2 e3
              subst e1
              have hcf := Kd.R_celln ByteArray.empty hrow (k : Int) (by omega) (by omega)
              obtain ⟨y5, hc5⟩ : ∃ y5, wr.drew.cell? ⟨b, k, none⟩ = some (.string y5) := ⟨_, hcf.1⟩
              have hf5 : wr.drew.frozen? ⟨b, k, none⟩ = false := hcf.2
              have hct5 : wr.drew.cell? ⟨g, 0, none⟩ = some (.slice (some ad) ls.length ct) := (blk_cell HP5.out.1 0).trans rfl
              obtain ⟨ad', e, hx5⟩ := KH_at HP5.out.2.2.1 i (by rw [HH.out]; exact of_eq_true q2)
              obtain rfl := Option.some.inj e
              rw [HE.out] at hx5
              obtain ⟨am, e, hm5⟩ := str_at (Kd.R_reads' HM5.out).2.2 k (by rw [mk_length]; exact hk)
              subst e
              have HB0 := Aside0.mk hb0
              have HCS := Aside0.mk hcells
              have HIL := Aside0.mk hil
              have HLL := Aside0.mk hL
              have HBN := Aside0.mk (HNb.out b (by rw [HE.out]; rfl))
              clear hrow hcf e hb0 hbl hcells hil hL hk e2 e3
              refine tw_start (n := 14) (T := fun _ => True) (S := fun w' => w'.cell? ⟨g, 0, none⟩ = some (.slice (some ad) ls.length ct) ∧ w'.cell? (ad.add i) = some (.slice (some ⟨b, 0, none⟩) n c1_) ∧ w'.cell? (am.add k) = some (.string (mAt (mk i 0 n) k))) (ds := [13]) #[false, false, false, false, false, false, false, false, false, false, false, false, false, false] (by kernel_rfl) rfl rfl trivial ⟨hct5, hx5, hm5⟩ (fun hHT hHS => ?_)
              generalize wr.drew = w5 at hct5 hx5 hm5 hc5 hf5 HP5 H55 HB5 HM5 HCS hHT hHS ⊢
              refine tw_pure (i := 0) (N := some 30) (v := ?_) (a' := ?_) #[true, false, false, false, false, false, false, false, false, false, false, false, false, false] rfl rfl (by kernel_rfl) (fun _ _ _ h => h) (Or.inl ⟨by rfl, ?_⟩) ?_ ?_
              rotate_left
              · intro w'
                go_simp
                with_reducible rfl
              rotate_left
              · simp only [Act.put, List.setIfInBounds_toArray, List.set_cons_zero, List.set_cons_succ, i64_w, i32_w, IntKind.wrap_u32]
                rfl
              refine tw_pure (i := 1) (N := some 31) (v := ?_) (a' := ?_) #[true, true, false, false, false, false, false, false, false, false, false, false, false, false] rfl rfl (by kernel_rfl) (fun _ _ _ h => h) (Or.inl ⟨by rfl, ?_⟩) ?_ ?_
              rotate_left
              · intro w'
                go_simp
                with_reducible rfl
              rotate_left
              · simp only [Act.put, List.setIfInBounds_toArray, List.set_cons_zero, List.set_cons_succ, i64_w, i32_w, IntKind.wrap_u32]
                rfl
              refine tw_pure (i := 2) (N := some 32) (v := ?_) (a' := ?_) #[true, true, true, false, false, false, false, false, false, false, false, false, false, false] rfl rfl (by kernel_rfl) (fun _ _ _ h => h) (Or.inl ⟨by rfl, ?_⟩) ?_ ?_
              rotate_left
              · intro w'
                go_simp
                with_reducible rfl
              rotate_left
              · simp only [Act.put, List.setIfInBounds_toArray, List.set_cons_zero, List.set_cons_succ, i64_w, i32_w, IntKind.wrap_u32]
                rfl
              refine tw_takeS (i := 3) (N := some 33) (v := ?_) (a' := ?_) #[true, true, true, true, false, false, false, false, false, false, false, false, false, false] rfl rfl (by kernel_rfl) (fun _ _ _ h => h) (Or.inl ⟨by rfl, ?_⟩) hHS ?_ ?_
              rotate_left
              · rintro w' ⟨h1_, h2_, h3_⟩
                go_simp
                with_reducible rfl
              rotate_left
              · simp only [Act.put, List.setIfInBounds_toArray, List.set_cons_zero, List.set_cons_succ, i64_w, i32_w, IntKind.wrap_u32]
                rfl
              refine tw_pure (i := 4) (N := some 34) (v := ?_) (a' := ?_) #[true, true, true, true, true, false, false, false, false, false, false, false, false, false] rfl rfl (by kernel_rfl) (fun _ _ _ h => h) (Or.inl ⟨by rfl, ?_⟩) ?_ ?_
              rotate_left
              · intro w'
                go_simp
                with_reducible rfl
              rotate_left
              · simp only [Act.put, List.setIfInBounds_toArray, List.set_cons_zero, List.set_cons_succ, i64_w, i32_w, IntKind.wrap_u32]
                rfl
              refine tw_pure (i := 5) (N := some 35) (v := ?_) (a' := ?_) #[true, true, true, true, true, true, false, false, false, false, false, false, false, false] rfl rfl (by kernel_rfl) (fun _ _ _ h => h) (Or.inl ⟨by rfl, ?_⟩) ?_ ?_
              rotate_left
              · intro w'
                go_simp
                with_reducible rfl
              rotate_left
              · simp only [Act.put, List.setIfInBounds_toArray, List.set_cons_zero, List.set_cons_succ, i64_w, i32_w, IntKind.wrap_u32]
                rfl
              refine tw_takeS (i := 6) (N := some 36) (v := ?_) (a' := ?_) #[true, true, true, true, true, true, true, false, false, false, false, false, false, false] rfl rfl (by kernel_rfl) (fun _ _ _ h => h) (Or.inl ⟨by rfl, ?_⟩) hHS ?_ ?_
              rotate_left
              · rintro w' ⟨h1_, h2_, h3_⟩
                go_simp
                with_reducible rfl
              rotate_left
              · simp only [Act.put, List.setIfInBounds_toArray, List.set_cons_zero, List.set_cons_succ, i64_w, i32_w, IntKind.wrap_u32]
                rfl
              refine tw_pure (i := 7) (N := some 37) (v := ?_) (a' := ?_) #[true, true, true, true, true, true, true, true, false, false, false, false, false, false] rfl rfl (by kernel_rfl) (fun _ _ _ h => h) (Or.inl ⟨by rfl, ?_⟩) ?_ ?_
              rotate_left
              · intro w'
                go_simp
                with_reducible rfl
              rotate_left
              · simp only [Act.put, List.setIfInBounds_toArray, List.set_cons_zero, List.set_cons_succ, i64_w, i32_w, IntKind.wrap_u32]
                rfl
              refine tw_pure (i := 8) (N := some 38) (v := ?_) (a' := ?_) #[true, true, true, true, true, true, true, true, true, false, false, false, false, false] rfl rfl (by kernel_rfl) (fun _ _ _ h => h) (Or.inl ⟨by rfl, ?_⟩) ?_ ?_
              rotate_left
              · intro w'
                go_simp
                with_reducible rfl
              rotate_left
              · simp only [Act.put, List.setIfInBounds_toArray, List.set_cons_zero, List.set_cons_succ, i64_w, i32_w, IntKind.wrap_u32]
                rfl
              refine tw_pure (i := 9) (N := some 39) (v := ?_) (a' := ?_) #[true, true, true, true, true, true, true, true, true, true, false, false, false, false] rfl rfl (by kernel_rfl) (fun _ _ _ h => h) (Or.inl ⟨by rfl, ?_⟩) ?_ ?_
              rotate_left
              · intro w'
                go_simp
                with_reducible rfl
              rotate_left
              · simp only [Act.put, List.setIfInBounds_toArray, List.set_cons_zero, List.set_cons_succ, i64_w, i32_w, IntKind.wrap_u32]
                rfl
              refine tw_pure (i := 10) (N := some 40) (v := ?_) (a' := ?_) #[true, true, true, true, true, true, true, true, true, true, true, false, false, false] rfl rfl (by kernel_rfl) (fun _ _ _ h => h) (Or.inl ⟨by rfl, ?_⟩) ?_ ?_
              rotate_left
              · intro w'
                go_simp
                with_reducible rfl
              rotate_left
              · simp only [Act.put, List.setIfInBounds_toArray, List.set_cons_zero, List.set_cons_succ, i64_w, i32_w, IntKind.wrap_u32]
                rfl
              refine tw_takeS (i := 11) (N := some 41) (v := ?_) (a' := ?_) #[true, true, true, true, true, true, true, true, true, true, true, true, false, false] rfl rfl (by kernel_rfl) (fun _ _ _ h => h) (Or.inl ⟨by rfl, ?_⟩) hHS ?_ ?_
              rotate_left
              · rintro w' ⟨h1_, h2_, h3_⟩
                go_simp
                with_reducible rfl
              rotate_left
              · simp only [Act.put, List.setIfInBounds_toArray, List.set_cons_zero, List.set_cons_succ, i64_w, i32_w, IntKind.wrap_u32]
                rfl
              refine tw_pure (i := 12) (N := some 42) (v := ?_) (a' := ?_) #[true, true, true, true, true, true, true, true, true, true, true, true, true, false] rfl rfl (by kernel_rfl) (fun _ _ _ h => h) (Or.inl ⟨by rfl, ?_⟩) ?_ ?_
              rotate_left
              · intro w'
                go_simp
                with_reducible rfl
              rotate_left
              · simp only [Act.put, List.setIfInBounds_toArray, List.set_cons_zero, List.set_cons_succ, i64_w, i32_w, IntKind.wrap_u32]
                rfl
              refine tw_last (i := 13) (N := none) #[true, true, true, true, true, true, true, true, true, true, true, true, true, true] rfl rfl (by kernel_rfl) (by decide) (fun K hK => ?_)
              refine skip_ (w1 := ?_) (by rfl) rfl ?_ ?_
              rotate_left
              · first | (go_simp; rfl) | (have hSC_ := @cell_set_blk; go_simp; rfl)
              refine hK.out _ _ trivial (fun hHT => ?_)
              clear hK K
              refine tw_done (by kernel_rfl) ?_
              have HX1 := Aside0.mk (HP5.out.put HCS.out k (.string (mAt (mk (i : Int) 0 n) k)))
              have HX2 := Aside0.mk (H55.out.put H7.out i (by rw [List.length_set]; exact HIL.out) HE.out k (mAt (mk (i : Int) 0 n) k))
              have HX3 := Aside0.mk (HB5.out.setCell (p := ⟨b, k, none⟩) HB0.out (.string (mAt (mk (i : Int) 0 n) k)))
              have HX4 := Aside0.mk (Kd.R_far (str_ok (ok' := fun k' => k' ≠ b) HM5.out (fun k' hk' (e2 : k' = b) => by have := Kd.R_base HM5.out k' hk'; have := HBN.out; omega)) (p := ⟨b, k, none⟩) (fun _ h' => h') (.string (mAt (mk (i : Int) 0 n) k)))
              clear hHT hc5 hf5 hct5 hx5 hm5 HP5 H55 HB5 HM5
              generalize w5.setCell ⟨b, k, none⟩ (.string (mAt (mk (i : Int) 0 n) k)) = w6 at HX1 HX2 HX3 HX4 ⊢
              go_wp2
              rw [HWk.out]
              go_roundg k2
              case measure => omega
              case rel =>
                refine ⟨k + 1, rfl, ⟨by have := HKq.out; omega⟩, ⟨by have := of_eq_true d4; omega⟩, HX1, ⟨?_⟩, HX3, ⟨str_ok HX4.out (fun _ _ => trivial)⟩⟩
                have h2 := HX2.out
                rw [lAt_set, if_pos ⟨rfl, HIL.out⟩, List.set_set, put_step _ _ k (by rw [mk_length]; exact of_eq_true d4) (by rw [mk_length]; exact Hn.out)] at h2
                exact h2
            · have d0 : decide ((k : Int) < (n : Int)) = false := decide_eq_false (by omega)
              have d5 : decide (k < n) = false := decide_eq_false hk
              have d3 := eq_false (show ¬ (k : Int) < (n : Int) by omega)
              have d4 := eq_false hk
              have hkn : k = n := by have := HKn.out; omega
              go_wp2
              rw [HW.out]
              go_roundg k1
              case measure => omega
              case rel =>
                refine ⟨i + 1, rfl, ⟨by have := HK.out; omega⟩, ⟨by have := of_eq_true q2; omega⟩, HP, ⟨ls1.set i (mk (i : Int) 0 n), ?_, ?_⟩, HB⟩
                · have h2 := H5.out
                  rw [hkn, List.take_of_length_le (by rw [mk_length]; exact Nat.le_refl _), List.drop_eq_nil_of_le (by rw [← Hn.out]; exact Nat.le_refl _), List.append_nil] at h2
                  exact h2
                · have := HQ.out.step (of_eq_true q2)
                  rw [← Hn.out] at this
                  exact this
      · have c0 : decide ((i : Int) < (ls.length : Int)) = false := decide_eq_false (by omega)
        have c2 : decide (i < ls.length) = false := decide_eq_false hi
        have q1 := eq_false (show ¬ (i : Int) < (ls.length : Int) by omega)
        have q2 := eq_false hi
        obtain ⟨ls1, h5, hp5⟩ := H5.out
        have hi2 : i = ls.length := by have := HI.out; omega
        go_wp2
        first | go_end0 | ((try simp only [Exit.inBlock, Exit.then]); refine bodyPost_ret (results_none rfl _ _ _) rfl ?_)
        subst hi2
        exact ⟨rfl, HP.out, ⟨ls1, h5, hp5⟩, HB.out⟩
end Go.Proofs.Ytoepiofmkjajaaa.P

/- A list of texts is grown in place, or anew: what stays. -/
namespace Go.Proofs.Ytoepiofmkjajaaa.P
open Go.RowKit Go.Proofs.YtoepiofmkjajaaaW.PrintWords Go.Proofs.YtoepiofmkjajaaaW.PrintLast Go.Proofs.YtoepiofmkjajaaaW.PrintMore
set_option linter.unusedVariables false
set_option linter.unusedSimpArgs false

theorem R_short {W : World} {B n c : Nat} {ok ok' : Nat → Prop} {A : Option Addr} {l z : List ByteArray} (h : Kd.R Kd.string 9 W B ok (.slice A n c) (l ++ z)) (hok : ∀ k, (Value.slice A l.length c).ownBlock = some k → ok' k) : Kd.R Kd.string 9 W B ok' (.slice A l.length c) l := by
  have ho := Kd.own_of_R h
  refine Kd.R_of_own (h1 := fun _ => rfl) ?_ hok
  obtain ⟨h1, h2⟩ := ho
  refine ⟨by simp [encs], ?_⟩
  rcases h2 with ⟨e, h0⟩ | ⟨g, cap, cur, e, hb, hh, hn, hc, hs, ht⟩
  · injection e with e1 e2 e3
    rw [List.length_append] at h0
    have hl : l = [] := List.eq_nil_of_length_eq_zero (by omega)
    subst e1 e3 hl
    exact .inl ⟨rfl, rfl⟩
  · injection e with e1 e2 e3
    subst e1 e3
    rw [List.length_append] at hn
    refine .inr ⟨g, c, cur, rfl, hb, hh, by omega, hc, hs, ?_⟩
    have h3 := congrArg (List.take (l.length * 1)) ht
    rw [List.take_take, encs_append, List.take_append_of_le_length (by simp [encs]), Nat.min_eq_left (by rw [List.length_append]; omega)] at h3
    exact h3.trans (List.take_of_length_le (by simp [encs]))
def Same (v : Value) (m : Nat) (v1 : Value) : Prop := ∃ (A : Option Addr) (n c : Nat), v = .slice A n c ∧ v1 = .slice A (n + m) c
/-- What an append to a row of texts leaves: it stands in the row's own block, or in a new one (and then all else is as it was). -/
theorem append_keep {W : World} {B : Nat} {v : Value} {xs ys : List ByteArray} {A : Option Addr} {m c : Nat} {ok : Nat → Prop} (ty : TypeId) (HO : Kd.R Kd.string 9 W B ok v xs) (HR : Kd.string.C W A m ys) (hm0 : 0 < m) (hfresh : ∀ k, W.heap.size ≤ k → ok k) (hbase : B ≤ W.heap.size) (hl : xs.length + m ≤ 8000000) :
    ∃ v1 w1, (Builtin.append_ #[35, 35] ty #[v, .slice A m c]).run Try.prog W = .ok v1 w1 ∧ Kd.R Kd.string 9 w1 B ok v1 (xs ++ ys) ∧ W.grownBy w1 v.ownBlock ∧ (v1.ownBlock = v.ownBlock ∨ ∃ b, v1.ownBlock = some b ∧ W.heap.size ≤ b) ∧ (Same v m v1 ∨ (W.grownBy w1 none ∧ ∃ b, v1.ownBlock = some b ∧ W.heap.size ≤ b)) := by
  have hown := Kd.own_of_R HO
  have hrd := Kd.reads_of_C (enc := Value.string) (d := ByteArray.empty) (h1 := fun _ => rfl) HR
  have hm : ys.length = m := hrd.1
  obtain ⟨ad, rfl, hcl⟩ := hrd.2.2 hm0
  obtain ⟨i0, hi, hzz⟩ := Option.map_eq_some_iff.1 info9
  simp only [Prod.mk.injEq] at hzz
  obtain ⟨hz0, hz1, hz2⟩ := hzz
  have hcells : ∀ j u, (encs Value.string ys)[j]? = some u → W.cell? (ad.add j) = some u := by
    intro j u hu
    have hj : j < ys.length := by
      rcases Nat.lt_or_ge j ys.length with h | h
      · exact h
      · simp [encs, List.getElem?_eq_none h] at hu
    rw [encs_get (d := ByteArray.empty) ys j hj] at hu
    rw [← hu]
    exact hcl j (by omega)
  have hone : ∀ u ∈ encs Value.string ys, u.oneCell' = true := by
    intro u hu
    obtain ⟨y, _, rfl⟩ := List.mem_map.1 hu
    rfl
  obtain ⟨v1, w1, hr, h2, hg, _, hat⟩ := run_append_own_at (P := Try.prog) W B 35 ty 9 i0 (.string ⟨#[]⟩) 1 16 Try.underlying35 hi hz0 hz1 hz2 rfl (by omega) v xs.length (encs Value.string xs) hown ad m c (encs Value.string ys) (by simp [encs, hm]) hcells hone (by simp only [maxLen]; omega) (by omega) hbase
  have hat' : v1.ownBlock = v.ownBlock ∨ ∃ b, v1.ownBlock = some b ∧ W.heap.size ≤ b := by
    rcases hat with hat | hat
    · exact .inl hat
    · exact .inr ⟨_, hat, Nat.le_refl _⟩
  refine ⟨v1, w1, hr, Kd.R_of_own (h1 := fun _ => rfl) (by rw [List.length_append, hm, encs_append]; exact h2) ?_, hg, hat', ?_⟩
  · intro k hk
    rcases hat' with h | ⟨b, hb, hle⟩
    · exact HO.1 k (h ▸ hk)
    · rw [hb] at hk
      injection hk with hk
      exact hfresh k (by omega)
  · rcases hown.2 with ⟨rfl, _⟩ | ⟨g, cap, cur, rfl, hb, hh, hn, hc, hs, ht⟩
    · refine .inr ⟨hg, ?_⟩
      obtain ⟨g1, c1, e1, _⟩ := h2.form (by omega)
      rcases hat with h | h
      · rw [e1] at h; cases h
      · exact ⟨_, h, Nat.le_refl _⟩
    · by_cases hroom : xs.length + m ≤ cap
      · have hrr := run_append_room_cells (P := Try.prog) W 35 ty 9 i0 Try.underlying35 hi g 0 xs.length cap ad m c (encs Value.string ys) (by simp [encs, hm, hz1]) hcells hone hroom
          (fun j hj => by
            have hj' : j < m := by rw [encs_length, hm] at hj; exact hj
            rw [blk_cell hh, Array.getElem?_eq_getElem (by rw [hs, hz1]; omega)]
            rfl) (fun j _ => blk_frozen hh _)
        rw [hr] at hrr
        injection hrr with e1 e2
        exact .inl ⟨_, _, _, rfl, e1⟩
      · have hold : ∀ j u, (encs Value.string xs)[j]? = some u → W.cell? ((⟨g, 0, none⟩ : Addr).add j) = some u := by
          intro j u hu
          rw [← ht, List.getElem?_take] at hu
          split at hu
          · rw [Addr.add_lit, Nat.zero_add, blk_cell hh]; simpa using hu
          · cases hu
        obtain ⟨v2, w2, hr2, ho2, hg2⟩ := run_append_arg_grows (P := Try.prog) W 35 ty 9 i0 (.string ⟨#[]⟩) 1 16 Try.underlying35 hi hz0 hz1 hz2 rfl (by omega) ⟨g, 0, none⟩ xs.length cap (encs Value.string xs) (by simp [encs]) hold ad m c (encs Value.string ys) (by simp [encs, hm]) hcells (by omega) (by simp only [maxLen]; omega) (by omega)
        rw [hr] at hr2
        injection hr2 with e1 e2
        subst e1 e2
        refine .inr ⟨hg2, ?_⟩
        obtain ⟨g1, c1, e1, hb1, _⟩ := ho2.form (by omega)
        exact ⟨g1, by rw [e1]; rfl, hb1⟩
section
variable {ops : Array Oper} {rest : List Oper} {o : Oper} {a : Act} {Q : Exit → Act → World → Prop}
theorem R_append_keep {w0 W : World} (B : Nat) (hgd : o.guard = none) (s x : Operand) (ho : o.op = .call { callee := .builtin .append, args := #[s, x], argTypes := #[35, 35] })
    (v : Value) (xs ys : List ByteArray) (A : Option Addr) (m c : Nat) (ok : Nat → Prop) (hs : a.eval s = v) (hx : a.eval x = .slice A m c)
    (HO : Kd.R Kd.string 9 W B ok v xs) (HR : Kd.string.C W A m ys) (hm0 : 0 < m) (hfresh : ∀ k, W.heap.size ≤ k → ok k) (HB : Below B w0 W) (hbase : B ≤ W.heap.size) (hl : xs.length + m ≤ 8000000)
    (h : ∀ v1 w1, Kd.R Kd.string 9 w1 B ok v1 (xs ++ ys) → Below B w0 w1 → W.grownBy w1 v.ownBlock → (v1.ownBlock = v.ownBlock ∨ ∃ b, v1.ownBlock = some b ∧ W.heap.size ≤ b) → (Same v m v1 ∨ (W.grownBy w1 none ∧ ∃ b, v1.ownBlock = some b ∧ W.heap.size ≤ b)) → wpList Try.prog ops Q rest (a.put o.dst v1) w1) :
    wpList Try.prog ops Q (o :: rest) a W := by
  obtain ⟨v1, w1, hr1, h1, hg, hat, hk⟩ := append_keep o.type HO HR (c := c) hm0 hfresh hbase hl
  refine wpList_plain hgd fun K hK => ?_
  unfold Oper.wp execOp
  simp only [ho, resolve, invoke, builtin, Sem.run_bind, Sem.run_pure, Result.andThen_ok, List.map_toArray, List.map_cons, List.map_nil, hs, hx, hr1]
  exact hK _ _ (h v1 w1 h1 (HB.grown hg hbase (Kd.R_base HO)) hg hat hk)
end
/-- v stands in orig's own block, or in one that is new since M. -/
def Line (M : Nat) (orig v : Value) : Prop := (∃ (A : Option Addr) (n n' c : Nat), orig = .slice A n c ∧ v = .slice A n' c) ∨ ∀ k, v.ownBlock = some k → M ≤ k
theorem Line.own {M : Nat} {orig v : Value} (h : Line M orig v) {k : Nat} (hk : v.ownBlock = some k) : orig.ownBlock = some k ∨ M ≤ k := by
  rcases h with ⟨A, n, n', c, rfl, rfl⟩ | h
  · left
    cases A with
    | none => cases hk
    | some a => exact hk
  · exact .inr (h k hk)
theorem line_step {W W1 : World} {B M m : Nat} {ok0 : Nat → Prop} {orig v v1 : Value} {l0 z ys : List ByteArray} (h0 : Kd.R Kd.string 9 W B ok0 orig l0) (hl : Line M orig v) (hM : ∀ k, orig.ownBlock = some k → k < M) (hMW : M ≤ W.heap.size)
    (h1 : Kd.R Kd.string 9 W1 B (fun _ => True) v1 (l0 ++ z ++ ys)) (hg : W.grownBy W1 v.ownBlock) (hk : Same v m v1 ∨ (W.grownBy W1 none ∧ ∃ b, v1.ownBlock = some b ∧ W.heap.size ≤ b)) : Kd.R Kd.string 9 W1 B ok0 orig l0 ∧ Line M orig v1 := by
  have far : (∀ k, orig.ownBlock = some k → some k ≠ v.ownBlock) → Kd.R Kd.string 9 W1 B ok0 orig l0 := fun hne =>
    str_ok (Kd.R_grown (str_ok (ok' := fun k => some k ≠ v.ownBlock) h0 hne) hg (fun _ hk => hk)) h0.1
  rcases hk with ⟨A, n, c, rfl, rfl⟩ | ⟨hg0, b, hb, hle⟩
  · rcases hl with ⟨A0, n0, n1, c0, rfl, e⟩ | hl
    · injection e with e1 e2 e3
      subst e1 e3
      have hn0 : n0 = l0.length := (Kd.R_reads' h0).1
      subst hn0
      rw [List.append_assoc] at h1
      exact ⟨R_short h1 h0.1, .inl ⟨A, _, _, c, rfl, rfl⟩⟩
    · refine ⟨far (fun k hk e => ?_), .inr (fun k hk => hl k (by cases A with | none => cases hk | some a => exact hk))⟩
      have := hl k e.symm
      have := hM k hk
      omega
  · refine ⟨str_ok (Kd.R_grown (str_ok (ok' := fun _ => True) h0 (fun _ _ => trivial)) hg0 (fun k _ e => by cases e)) h0.1, .inr (fun k hk => ?_)⟩
    rw [hb] at hk
    injection hk with hk
    omega
/-- What an append to a row of texts leaves of a Book's own. -/
theorem KH_grown9 {W W1 : World} {B B' : Nat} {ok ok' : Nat → Prop} {vo v : Value} {gs : List Hdr} {xs : List ByteArray} (h : KH.R 35 W B ok vo gs) (hv : Kd.R Kd.string 9 W B' ok' v xs) (hg : W.grownBy W1 v.ownBlock) : KH.R 35 W1 B ok vo gs :=
  Kd.R_over h hv (by simp [KH, Kd.scalar]) hg
theorem BookP.grown9 {W W1 : World} {B B' g : Nat} {ok' : Nat → Prop} {vt vu v : Value} {hs us : List Hdr} {xs : List ByteArray} (h : BookP B W g vt vu hs us) (hv : Kd.R Kd.string 9 W B' ok' v xs) (hg : W.grownBy W1 v.ownBlock) : BookP B W1 g vt vu hs us := by
  obtain ⟨h1, h2, h3, h4, h9⟩ := h
  exact ⟨blk_grown h1 hg (Kd.R_ne hv h1 (by decide)), h2, KH_grown9 h3 hv hg, KH_grown9 h4 hv hg, h9⟩
/-- While the lists are grown: the first i of them (gs), in blocks of their own or new ones (from N on; they lie under M). -/
def GS (B N M : Nat) (w0 W : World) (g : Nat) (vt vu : Value) (hs us : List Hdr) (ls : List (List ByteArray)) (i : Nat) (vo : Value) (gs : List Hdr) : Prop :=
  BookP B W g vt vu hs us ∧ RowsAt B W hs ls ∧ KH.R 35 W B (fun k => N ≤ k) vo gs ∧ gs.length = i ∧
  (∀ j, j < i → Kd.R Kd.string 9 W B (fun k => ((hv (hAt hs j)).ownBlock = some k ∨ N ≤ k) ∧ k < M) (hv (hAt gs j)) (mk (j : Int) 0 ((lAt ls j).length + 72))) ∧ Below w0.heap.size w0 W ∧ N ≤ M ∧ M ≤ W.heap.size
theorem GS.below {B N M g i : Nat} {w0 W W1 : World} {vt vu vo : Value} {hs us gs : List Hdr} {ls : List (List ByteArray)} (h : GS B N M w0 W g vt vu hs us ls i vo gs) (hb : Below W.heap.size W W1) : GS B N M w0 W1 g vt vu hs us ls i vo gs := by
  obtain ⟨h1, h2, h3, h4, h5, h6, h7, h8⟩ := h
  exact ⟨h1.mv (Mv.below hb), h2.mv (Mv.below hb), Kd.R_below h3 hb, h4, fun j hj => Kd.R_below (h5 j hj) hb, below_step h6 hb, h7, Nat.le_trans h8 hb.size⟩
theorem GS.lift {B N M g i : Nat} {w0 W : World} {vt vu vo : Value} {hs us gs : List Hdr} {ls : List (List ByteArray)} (h : GS B N M w0 W g vt vu hs us ls i vo gs) : GS B N W.heap.size w0 W g vt vu hs us ls i vo gs := by
  obtain ⟨h1, h2, h3, h4, h5, h6, h7, h8⟩ := h
  exact ⟨h1, h2, h3, h4, fun j hj => str_ok (h5 j hj) (fun k hk => ⟨((h5 j hj).1 k hk).1, Kd.R_lt (h5 j hj) k hk⟩), h6, Nat.le_trans h7 h8, Nat.le_refl _⟩
/-- One append to list i (it stands at v now). -/
theorem GS.step {B N M g i m : Nat} {w0 W W1 : World} {vt vu vo v v1 : Value} {hs us gs : List Hdr} {ls : List (List ByteArray)} {z ys : List ByteArray} (h : GS B N M w0 W g vt vu hs us ls i vo gs) (h7 : Sep hs) (h8 : Under N hs) (hi : i < ls.length)
    (hv0 : Kd.R Kd.string 9 W B (fun _ => True) v (lAt ls i ++ z)) (hl : Line M (hv (hAt hs i)) v) (h1 : Kd.R Kd.string 9 W1 B (fun _ => True) v1 (lAt ls i ++ z ++ ys)) (hB1 : Below w0.heap.size w0 W1) (hg : W.grownBy W1 v.ownBlock) (hk : Same v m v1 ∨ (W.grownBy W1 none ∧ ∃ b, v1.ownBlock = some b ∧ W.heap.size ≤ b)) :
    GS B N M w0 W1 g vt vu hs us ls i vo gs ∧ Line M (hv (hAt hs i)) v1 := by
  obtain ⟨a1, a2, a3, a4, a5, a6, a7, a8⟩ := h
  have hhl : hs.length = ls.length := a2.1
  obtain ⟨b1, b2⟩ := line_step (a2.2 i hi) hl (fun k hk => Nat.lt_of_lt_of_le (h8 i k (hhl ▸ hi) hk) a7) a8 h1 hg hk
  refine ⟨⟨a1.grown9 hv0 hg, ⟨a2.1, fun j hj => ?_⟩, KH_grown9 a3 hv0 hg, a4, fun j hj => ?_, hB1, a7, Nat.le_trans a8 hg.size⟩, b2⟩
  · by_cases hij : i = j
    · subst hij; exact b1
    · refine str_ok (Kd.R_grown (str_ok (ok' := fun k => some k ≠ v.ownBlock) (a2.2 j hj) (fun k hk e => ?_)) hg (fun _ hk => hk)) (fun _ _ => trivial)
      rcases hl.own e.symm with h | h
      · exact h7 i j k (hhl ▸ hi) (hhl ▸ hj) hij h hk
      · have := h8 j k (hhl ▸ hj) hk
        omega
  · refine str_ok (Kd.R_grown (str_ok (ok' := fun k => some k ≠ v.ownBlock) (a5 j hj) (fun k hk e => ?_)) hg (fun _ hk => hk)) (a5 j hj).1
    obtain ⟨c1, c2⟩ := (a5 j hj).1 k hk
    rcases hl.own e.symm with h | h
    · rcases c1 with c1 | c1
      · exact h7 i j k (hhl ▸ hi) (hhl ▸ (by omega : j < ls.length)) (by omega) h c1
      · have := h8 i k (hhl ▸ hi) h
        omega
    · omega
end Go.Proofs.Ytoepiofmkjajaaa.P
/- A Book's lists are grown. -/
namespace Go.Proofs.Ytoepiofmkjajaaa.P
open Go.RowKit Go.Proofs.YtoepiofmkjajaaaW.PrintWords Go.Proofs.YtoepiofmkjajaaaW.PrintLast Go.Proofs.YtoepiofmkjajaaaW.PrintMore
set_option linter.unusedVariables false
set_option linter.unusedSimpArgs false

theorem hAt_lt (gs : List Hdr) (x : Hdr) (j : Nat) (h : j < gs.length) : hAt (gs ++ [x]) j = hAt gs j := by rw [hAt_app, if_pos h]
theorem hAt_last (gs : List Hdr) (x : Hdr) : hAt (gs ++ [x]) gs.length = x := by rw [hAt_app, if_neg (by omega), if_pos rfl]
theorem mk_C {W : World} {B n c L : Nat} {ok : Nat → Prop} {A : Option Addr} {i : Int} (h : Kd.R Kd.string 9 W B ok (.slice A n c) (mk i L n)) : Kd.string.C W A n (mk i L n) := by
  have h2 := (Kd.R_reads' h).2.2
  rw [mk_length] at h2
  exact h2
/-- The same, with marks. -/
theorem GS.stepL {B N M g i m n L t : Nat} {w0 W W1 : World} {vt vu vo v v1 : Value} {hs us gs : List Hdr} {ls : List (List ByteArray)} (h : GS B N M w0 W g vt vu hs us ls i vo gs) (h7 : Sep hs) (h8 : Under N hs) (hi : i < ls.length) (hm : lAt ls i = mk (i : Int) 0 (lAt ls i).length) (hn : n = (lAt ls i).length) (hL : L = n + t)
    (hv0 : Kd.R Kd.string 9 W B (fun _ => True) v (mk (i : Int) 0 L)) (hl : Line M (hv (hAt hs i)) v) (h1 : Kd.R Kd.string 9 W1 B (fun _ => True) v1 (mk (i : Int) 0 L ++ mk (i : Int) L m)) (hB1 : Below w0.heap.size w0 W1) (hg : W.grownBy W1 v.ownBlock) (hk : Same v m v1 ∨ (W.grownBy W1 none ∧ ∃ b, v1.ownBlock = some b ∧ W.heap.size ≤ b)) :
    GS B N M w0 W1 g vt vu hs us ls i vo gs ∧ Line M (hv (hAt hs i)) v1 ∧ Kd.R Kd.string 9 W1 B (fun _ => True) v1 (mk (i : Int) 0 (L + m)) := by
  have e : mk (i : Int) 0 L = lAt ls i ++ mk (i : Int) n t := by
    rw [hm, ← hn, hL, ← mk_app, Nat.zero_add]
  have e2 : mk (i : Int) 0 L ++ mk (i : Int) L m = mk (i : Int) 0 (L + m) := by
    have := mk_app (i : Int) 0 L m
    rwa [Nat.zero_add] at this
  have h1' := h1
  rw [e] at hv0 h1
  obtain ⟨a, b⟩ := h.step h7 h8 hi hv0 hl h1 hB1 hg hk
  exact ⟨a, b, e2 ▸ h1'⟩
theorem GS.next {B N M g i : Nat} {w0 W W1 : World} {vt vu vo v1 : Value} {hs us gs : List Hdr} {ls : List (List ByteArray)} {x : Hdr} (h : GS B N M w0 W g vt vu hs us ls i vo gs) (hvt : ∀ k, vt.ownBlock = some k → k < N) (hvu : ∀ k, vu.ownBlock = some k → k < N)
    (hv0 : Kd.R Kd.string 9 W B (fun _ => True) (hv x) (mk (i : Int) 0 ((lAt ls i).length + 72))) (hl : Line M (hv (hAt hs i)) (hv x)) (ho : KH.R 35 W1 B (fun k => N ≤ k) v1 (gs ++ [x])) (hB1 : Below w0.heap.size w0 W1) (hg : W.grownBy W1 vo.ownBlock) :
    GS B N W1.heap.size w0 W1 g vt vu hs us ls (i + 1) v1 (gs ++ [x]) := by
  obtain ⟨a1, a2, a3, a4, a5, a6, a7, a8⟩ := h
  obtain ⟨b1, b2, b3, b4, b9⟩ := a1
  have far : ∀ {v : Value} {l : List Hdr}, KH.R 35 W B (fun _ => True) v l → (∀ k, v.ownBlock = some k → k < N) → KH.R 35 W1 B (fun _ => True) v l := fun hr hk => by
    refine KH_ok (Kd.R_grown (KH_ok (ok' := fun k => some k ≠ vo.ownBlock) hr (fun k h1 e => ?_)) hg (fun _ hk => hk)) (fun _ _ => trivial)
    have := hk k h1
    have := a3.1 k e.symm
    omega
  have over : ∀ {ok : Nat → Prop} {v : Value} {l : List ByteArray}, Kd.R Kd.string 9 W B ok v l → Kd.R Kd.string 9 W1 B ok v l := fun hr => Kd.R_over hr a3 (by simp [Kd.string, Kd.scalar]) hg
  refine ⟨⟨blk_grown b1 hg (Kd.R_ne a3 b1 (by decide)), b2, far b3 hvt, far b4 hvu, b9⟩, ⟨a2.1, fun j hj => over (a2.2 j hj)⟩, ho, by rw [List.length_append, a4]; rfl, fun j hj => ?_, hB1, Nat.le_trans a7 (Nat.le_trans a8 hg.size), Nat.le_refl _⟩
  by_cases hji : j < i
  · rw [hAt_lt gs x j (by omega)]
    exact str_ok (over (a5 j hji)) (fun k hk => ⟨((a5 j hji).1 k hk).1, Kd.R_lt (over (a5 j hji)) k hk⟩)
  · have : j = i := by omega
    subst this
    subst a4
    rw [hAt_last]
    refine str_ok (over hv0) (fun k hk => ⟨?_, Kd.R_lt (over hv0) k hk⟩)
    rcases hl.own hk with h | h
    · exact .inl h
    · exact .inr (Nat.le_trans a7 h)
theorem GS.start {B g : Nat} {w0 w : World} {vt vu : Value} {hs us : List Hdr} {ls : List (List ByteArray)} (hP : BookP B w g vt vu hs us) (h5 : RowsAt B w hs ls) (hB : Below w0.heap.size w0 w) : GS B w.heap.size w.heap.size w0 w g vt vu hs us ls 0 (.slice none 0 0) [] :=
  ⟨hP, h5, Kd.R_nil _ _ _ _ _, rfl, fun j hj => absurd hj (Nat.not_lt_zero j), hB, Nat.le_refl _, Nat.le_refl _⟩
set_option maxHeartbeats 4000000 in
set_option maxRecDepth 100000 in
theorem Book_growTexts.calls (g : Nat) (vt vu : Value) (hs us : List Hdr) (ls : List (List ByteArray)) (w0 w : World) (hP : BookP w0.heap.size w g vt vu hs us) (h5 : RowsAt w0.heap.size w hs ls) (h7 : Sep hs) (hS : Short ls) (hmk : ∀ j, j < ls.length → lAt ls j = mk (j : Int) 0 (lAt ls j).length) (hB : Below w0.heap.size w0 w) :
    Calls Try.prog 39 #[.pointer (some ⟨g, 0, none⟩)] w fun e w' => ∃ vo gs M, e = .returned vo ∧ GS w0.heap.size w.heap.size M w0 w' g vt vu hs us ls ls.length vo gs := by
  have hhl : hs.length = ls.length := h5.1
  obtain ⟨At, ct, e1⟩ := Kd.R_slice hP.2.2.1
  subst e1
  rw [hhl] at hP ⊢
  have hct : w.cell? ⟨g, 0, none⟩ = some (.slice At ls.length ct) := (blk_cell hP.1 0).trans rfl
  have HG := Aside0.mk (GS.start hP h5 hB)
  have H7 := Aside0.mk h7
  have H8 := Aside0.mk (show Under w.heap.size hs from h5.under)
  have HVT := Aside0.mk (Kd.R_lt hP.2.2.1)
  have HVU := Aside0.mk (Kd.R_lt hP.2.2.2.1)
  have HS := Aside0.mk hS
  have HH := Aside0.mk hhl
  have HMK := Aside0.mk hmk
  clear hP h5 h7 hS hhl hB hmk
  obtain ⟨N, hN⟩ : ∃ N, N = w.heap.size := ⟨_, rfl⟩
  rw [← hN] at HG H8 HVT HVU ⊢
  clear hN
  go_enter Try.func39, Try.ntmps39
  go_wp2
  go_loopg [3, 4] (ls.length + 1) (fun kq v3 v4 wr => ∃ (i : Nat) (Ao : Option Addr) (co : Nat) (gs : List Hdr), v3 = .slice Ao gs.length co ∧ v4 = .int .i64 (i : Int) ∧ Aside0 (kq + i = ls.length + 1) ∧ Aside0 (i ≤ ls.length) ∧ Aside0 (GS w0.heap.size N wr.heap.size w0 wr g (.slice At ls.length ct) vu hs us ls i (.slice Ao gs.length co) gs))
  case atStart => exact ⟨0, none, 0, [], rfl, rfl, ⟨by omega⟩, ⟨by omega⟩, ⟨HG.out.lift⟩⟩
  case round =>
    clear hct HG
    obtain ⟨i, Ao, co, gs, rfl, rfl, HK, HI, HG⟩ := hrel
    cases gk with
    | zero => exact absurd HK.out (by have := HI.out; omega)
    | succ k1 =>
      have hct : wr.cell? ⟨g, 0, none⟩ = some (.slice At ls.length ct) := (blk_cell HG.out.1.1 0).trans rfl
      by_cases hi : i < ls.length
      · have c0 : decide ((i : Int) < (ls.length : Int)) = true := decide_eq_true (by omega)
        have c1 : decide (0 ≤ (i : Int)) = true := decide_eq_true (by omega)
        have p1 := eq_true (show 0 ≤ (i : Int) by omega)
        have q1 := eq_true (show (i : Int) < (ls.length : Int) by omega)
        have q2 := eq_true hi
        have c2 : decide (i < ls.length) = true := decide_eq_true hi
        obtain ⟨ad, e, hx⟩ := KH_at HG.out.1.2.2.1 i (by rw [HH.out]; exact hi)
        subst e
        have hrow := HG.out.2.1.2 i hi
        obtain ⟨A1, c1_, e1⟩ := Kd.R_slice hrow
        rw [e1] at hx
        have HE := Aside0.mk e1
        obtain ⟨n, hn⟩ : ∃ n, n = (lAt ls i).length := ⟨_, rfl⟩
        have HN := Aside0.mk (show n ≤ 1000000 by rw [hn]; exact HS.out.at i)
        rw [← hn] at hx HE
        have Hn := Aside0.mk hn
        have Hmi := Aside0.mk (HMK.out i hi)
        have HV0 := Aside0.mk (show Kd.R Kd.string 9 wr w0.heap.size (fun _ => True) (.slice A1 n c1_) (mk (i : Int) 0 n) by
          have h := hrow
          rw [e1, Hmi.out, mk_length, ← hn] at h
          exact h)
        have HLi0 := Aside0.mk (show Line wr.heap.size (hv (hAt hs i)) (.slice A1 n c1_) from .inl ⟨A1, n, n, c1_, HE.out, rfl⟩)
        have HW := Aside0.mk (w64_succ (i := i) (by have := HS.out.1; omega))
        clear hrow e1 hi hn
        obtain ⟨M, hM⟩ : ∃ M, M = wr.heap.size := ⟨_, rfl⟩
        rw [← hM] at HG HLi0
        clear hM
        go_wp2
        go_loopg [5, 6] 13 (fun kq v5 v6 wq => ∃ (t L : Nat) (Av : Option Addr) (cv : Nat), v5 = .slice Av L cv ∧ v6 = .int .i64 (t : Int) ∧ Aside0 (kq + t = 13) ∧ Aside0 (t ≤ 12) ∧ Aside0 (L = n + t) ∧ Aside0 (GS w0.heap.size N M w0 wq g (.slice (some ad) ls.length ct) vu hs us ls i (.slice Ao gs.length co) gs) ∧ Aside0 (Kd.R Kd.string 9 wq w0.heap.size (fun _ => True) (.slice Av L cv) (mk (i : Int) 0 L)) ∧ Aside0 (Line M (hv (hAt hs i)) (.slice Av L cv)))
        case atStart => exact ⟨0, n, A1, c1_, rfl, rfl, ⟨by omega⟩, ⟨by omega⟩, ⟨rfl⟩, HG, HV0, HLi0⟩
        case round =>
          clear HG HV0 HLi0 hx hct
          obtain ⟨t, L, Av, cv, rfl, rfl, HKq, HT, HLn, HG, HV, HLi⟩ := hrel
          cases gk with
          | zero => exact absurd HKq.out (by have := HT.out; omega)
          | succ k2 =>
            by_cases ht : t < 12
            · have d0 : decide ((t : Int) < 12) = true := decide_eq_true (by omega)
              have d4 := eq_true ht
              have d5 : decide (t < 12) = true := decide_eq_true ht
              have HF := Aside0.mk (show escutcheonbook_markTexts.f 2 (i : Int) (L : Int) 1 = some (mk (i : Int) L 1) from mark_f (i : Int) L 1 2 (by have := HLn.out; have := HN.out; have := HT.out; omega) (Nat.le_refl _))
              have HWt := Aside0.mk (w64_succ (i := t) (by omega))
              clear ht
              go_wp2_with (first | ((with_reducible refine gate_callee (f := 63) rfl ?_); refine goesL_ (some 31) rfl rfl Try.func63 (by kernel_rfl) rfl #[.int .i64 (i : Int), .int .i64 (L : Int), .int .i64 1] rfl (by (try simp only [List.map_toArray, List.map_cons, List.map_nil]); first | done | rfl) ?_; (with_reducible refine (escutcheonbook_markTexts.calls 2 (i : Int) (L : Int) 1 (mk (i : Int) L 1) _ HF.out).mono ?_); rintro e w7 ⟨v0, rfl, ho, hb⟩; refine ⟨_, rfl, ?_⟩; obtain ⟨Am, cm, e2⟩ := Kd.R_slice ho; rw [mk_length] at e2; subst e2; have HC := Aside0.mk (mk_C ho); have HG2 := Aside0.mk (HG.out.below hb); have HV2 := Aside0.mk (Kd.R_below HV.out hb); clear ho hb HG HV) | (go_at_call 63; (with_reducible refine (escutcheonbook_markTexts.calls 2 (i : Int) (L : Int) 1 (mk (i : Int) L 1) _ HF.out).mono ?_); rintro e w7 ⟨v0, rfl, ho, hb⟩; obtain ⟨Am, cm, e2⟩ := Kd.R_slice ho; rw [mk_length] at e2; subst e2; have HC := Aside0.mk (mk_C ho); have HG2 := Aside0.mk (HG.out.below hb); have HV2 := Aside0.mk (Kd.R_below HV.out hb); clear ho hb HG HV) | ((with_reducible refine gate_builtin (b := .append) (xs := #[.tmp 27, .tmp 31]) rfl ?_); at_builtin; refine R_append_keep (w0 := w0) w0.heap.size rfl (.tmp 27) (.tmp 31) rfl (.slice Av L cv) (mk (i : Int) 0 L) (mk (i : Int) L 1) Am 1 cm (fun _ => True) rfl rfl HV2.out HC.out (by decide) (fun _ _ => trivial) HG2.out.2.2.2.2.2.1 HG2.out.2.2.2.2.2.1.size ?aL ?_; (case aL => have := HLn.out; have := HN.out; have := HT.out; rw [mk_length]; omega); intro v1 w8 ho hb hg hat hk; have HX := Aside0.mk (GS.stepL HG2.out H7.out H8.out (of_eq_true q2) Hmi.out Hn.out HLn.out HV2.out HLi.out ho hb hg hk); clear ho hb hg hat hk HG2 HV2 HC HLi; obtain ⟨A8, c8, e8⟩ := Kd.R_slice HX.out.2.2; rw [mk_length] at e8; subst e8))
              rw [HWt.out]
              go_roundg k2
              case measure => omega
              case rel => exact ⟨t + 1, L + 1, A8, c8, rfl, rfl, ⟨by have := HKq.out; omega⟩, ⟨by have := of_eq_true d4; omega⟩, ⟨by have := HLn.out; omega⟩, ⟨HX.out.1⟩, ⟨HX.out.2.2⟩, ⟨HX.out.2.1⟩⟩
            · have d0 : decide ((t : Int) < 12) = false := decide_eq_false (by omega)
              have d4 := eq_false ht
              have d5 : decide (t < 12) = false := decide_eq_false ht
              have HF := Aside0.mk (show escutcheonbook_markTexts.f 61 (i : Int) (L : Int) 60 = some (mk (i : Int) L 60) from mark_f (i : Int) L 60 61 (by have := HLn.out; have := HN.out; have := HT.out; omega) (Nat.le_refl _))
              have HT12 := Aside0.mk (show t = 12 by have := HT.out; omega)
              clear ht
              go_wp2_with (first | ((with_reducible refine gate_callee (f := 63) rfl ?_); refine goesL_ (some 38) rfl rfl Try.func63 (by kernel_rfl) rfl #[.int .i64 (i : Int), .int .i64 (L : Int), .int .i64 60] rfl (by (try simp only [List.map_toArray, List.map_cons, List.map_nil]); first | done | rfl) ?_; (with_reducible refine (escutcheonbook_markTexts.calls 61 (i : Int) (L : Int) 60 (mk (i : Int) L 60) _ HF.out).mono ?_); rintro e w7 ⟨v0, rfl, ho, hb⟩; refine ⟨_, rfl, ?_⟩; obtain ⟨Am, cm, e2⟩ := Kd.R_slice ho; rw [mk_length] at e2; subst e2; have HC := Aside0.mk (mk_C ho); have HG2 := Aside0.mk (HG.out.below hb); have HV2 := Aside0.mk (Kd.R_below HV.out hb); clear ho hb HG HV) | (go_at_call 63; (with_reducible refine (escutcheonbook_markTexts.calls 61 (i : Int) (L : Int) 60 (mk (i : Int) L 60) _ HF.out).mono ?_); rintro e w7 ⟨v0, rfl, ho, hb⟩; obtain ⟨Am, cm, e2⟩ := Kd.R_slice ho; rw [mk_length] at e2; subst e2; have HC := Aside0.mk (mk_C ho); have HG2 := Aside0.mk (HG.out.below hb); have HV2 := Aside0.mk (Kd.R_below HV.out hb); clear ho hb HG HV) | ((with_reducible refine gate_builtin (b := .append) (xs := #[.tmp 34, .tmp 38]) rfl ?_); at_builtin; refine R_append_keep (w0 := w0) w0.heap.size rfl (.tmp 34) (.tmp 38) rfl (.slice Av L cv) (mk (i : Int) 0 L) (mk (i : Int) L 60) Am 60 cm (fun _ => True) rfl rfl HV2.out HC.out (by decide) (fun _ _ => trivial) HG2.out.2.2.2.2.2.1 HG2.out.2.2.2.2.2.1.size ?aL ?_; (case aL => have := HLn.out; have := HN.out; have := HT.out; rw [mk_length]; omega); intro v1 w8 ho hb hg hat hk; have HX := Aside0.mk (GS.stepL HG2.out H7.out H8.out (of_eq_true q2) Hmi.out Hn.out HLn.out HV2.out HLi.out ho hb hg hk); clear ho hb hg hat hk HG2 HV2 HC HLi; obtain ⟨A8, c8, e8⟩ := Kd.R_slice HX.out.2.2; rw [mk_length] at e8; subst e8) | ((with_reducible refine gate_builtin (b := .append) (xs := #[.tmp 33, .tmp 40]) rfl ?_); at_builtin; refine Kd.R_append KH (w0 := w0) w0.heap.size rfl (.tmp 33) (.tmp 40) 44 35 (.slice none 0 0) 24 rfl Try.underlying44 BookInfo35 rfl (by decide) (by omega) (.slice Ao gs.length co) gs (A8, L + 60, c8) [hv (A8, L + 60, c8)] (fun k => N ≤ k) (fun _ => False) rfl rfl rfl (fun _ hk => hk.elim) ?aF HX.out.1.2.2.1 HX.out.1.2.2.2.2.2.1 HX.out.1.2.2.2.2.2.1.size ?aL ?_; (case aF => intro k hk; have := HX.out.1.2.2.2.2.2.2; omega); (case aL => have := HX.out.1.2.2.2.1; have := of_eq_true q2; have := HS.out.1; omega); intro v9 w9 ho hb hg hat; have HY := Aside0.mk (GS.next HX.out.1 HVT.out HVU.out (x := (A8, L + 60, c8)) (by rw [← Hn.out, show n + 72 = L + 60 by have := HLn.out; have := HT12.out; omega]; exact HX.out.2.2) HX.out.2.1 ho hb hg); obtain ⟨A9, c9, e9⟩ := Kd.R_slice ho; clear ho hb hg hat HX; subst e9))
              rw [HW.out]
              go_roundg k1
              case measure => omega
              case rel => exact ⟨i + 1, A9, c9, gs ++ [(A8, L + 60, c8)], by rw [List.length_append, List.length_singleton], rfl, ⟨by have := HK.out; omega⟩, ⟨by have := of_eq_true q2; omega⟩, HY⟩
      · have c0 : decide ((i : Int) < (ls.length : Int)) = false := decide_eq_false (by omega)
        have c2 : decide (i < ls.length) = false := decide_eq_false hi
        have q1 := eq_false (show ¬ (i : Int) < (ls.length : Int) by omega)
        have q2 := eq_false hi
        have hi2 : i = ls.length := by have := HI.out; omega
        go_wp2
        go_ret
        subst hi2
        exact ⟨_, gs, _, rfl, HG.out⟩
end Go.Proofs.Ytoepiofmkjajaaa.P

/- Heads and rows as one list of lists that is read; marked lists are marked. -/
namespace Go.Proofs.Ytoepiofmkjajaaa.P
open Go.RowKit Go.Proofs.YtoepiofmkjajaaaW.PrintWords Go.Proofs.YtoepiofmkjajaaaW.PrintLast Go.Proofs.YtoepiofmkjajaaaW.PrintMore
set_option linter.unusedVariables false
set_option linter.unusedSimpArgs false

theorem heads_C {W : World} {B n c : Nat} {ok : Nat → Prop} {A : Option Addr} {hs : List Hdr} {ls : List (List ByteArray)} (h : KH.R 35 W B ok (.slice A n c) hs) (hl : hs.length = ls.length) (hr : ∀ j, j < ls.length → ∃ okj : Nat → Prop, Kd.R Kd.string 9 W B okj (hv (hAt hs j)) (lAt ls j)) : n = ls.length ∧ ls.length ≤ c ∧ Kd.C (Kd.slice 9 Kd.string) W A ls.length ls := by
  obtain ⟨h1, h2, h3⟩ := Kd.R_reads' h
  refine ⟨h1.trans hl, by omega, rfl, by have := Kd.C_max h3; omega, fun h0 => ?_⟩
  obtain ⟨ad, e, _⟩ := KH_at h 0 (by omega)
  refine ⟨ad, e, fun j l hj => ?_⟩
  obtain ⟨hlt, hje⟩ := List.getElem?_eq_some_iff.1 hj
  obtain ⟨okj, hrj⟩ := hr j hlt
  obtain ⟨ad', e', hc⟩ := KH_at h j (by omega)
  rw [e] at e'
  obtain rfl := Option.some.inj e'
  have hlj : lAt ls j = l := by rw [lAt, List.getD_eq_getElem?_getD, hj]; rfl
  rw [hlj] at hrj
  obtain ⟨A1, c1, e1⟩ := Kd.R_slice hrj
  rw [e1] at hrj hc
  obtain ⟨_, g2, g3⟩ := Kd.R_reads' hrj
  refine ⟨[.slice A1 l.length c1], rfl, ⟨A1, c1, rfl, g2, g3⟩, fun q u hq => ?_⟩
  cases q with
  | zero =>
    obtain rfl := Option.some.inj hq
    rw [show j * (Kd.slice 9 Kd.string).sz + 0 = j from by show j * 1 + 0 = j; omega]
    exact hc
  | succ q => cases hq
theorem marked_l0 (ls : List (List ByteArray)) (hS : ls.length ≤ 1000000) (hS2 : ∀ j, (lAt ls j).length ≤ 1000000) (hm : ∀ j, j < ls.length → lAt ls j = mk (j : Int) 0 (lAt ls j).length) : ∀ (d i k : Nat), d = ls.length - i → i ≤ ls.length → d + 1000010 ≤ k → escutcheonbook_markedTexts.l0 k ls (i : Int) = some true
  | 0, i, k, hd, hi, hk => by
    obtain ⟨k, rfl⟩ : ∃ j, k = j + 1 := ⟨k - 1, by omega⟩
    rw [escutcheonbook_markedTexts.l0, if_neg (by omega)]
  | d + 1, i, k, hd, hi, hk => by
    obtain ⟨k, rfl⟩ : ∃ j, k = j + 1 := ⟨k - 1, by omega⟩
    have hrd : rd_L3 ls (i : Int) = lAt ls i := rfl
    have hml : escutcheonbook_markTexts.f k (i : Int) 0 ((lAt ls i).length : Int) = some (lAt ls i) := by
      have h := mark_f (i : Int) 0 (lAt ls i).length k (by have := hS2 i; omega) (by have := hS2 i; omega)
      exact h.trans (congrArg some (hm i (by omega)).symm)
    rw [escutcheonbook_markedTexts.l0, if_pos (by omega), if_pos (by omega), hrd, hml, Option.bind_some, Go.Proofs.Ytoepiofmkjajaaa.B.same_f _ (hS2 i) k (by have := hS2 i; omega), Option.bind_some, if_pos rfl, w64_succ (by omega)]
    exact marked_l0 ls hS hS2 hm d (i + 1) k (by omega) (by omega) (by omega)
theorem marked_f (ls : List (List ByteArray)) (hS : ls.length ≤ 1000000) (hS2 : ∀ j, (lAt ls j).length ≤ 1000000) (hm : ∀ j, j < ls.length → lAt ls j = mk (j : Int) 0 (lAt ls j).length) : escutcheonbook_markedTexts.f 2000010 ls = some true :=
  marked_l0 ls hS hS2 hm ls.length 0 2000010 rfl (Nat.zero_le _) (by omega)
/-- The grown lists. -/
def grown (ls : List (List ByteArray)) : List (List ByteArray) := (List.range ls.length).map (fun (j : Nat) => mk (j : Int) 0 ((lAt ls j).length + 72))
theorem grown_length (ls : List (List ByteArray)) : (grown ls).length = ls.length := by simp [grown]
theorem grown_at (ls : List (List ByteArray)) (j : Nat) (hj : j < ls.length) : lAt (grown ls) j = mk (j : Int) 0 ((lAt ls j).length + 72) := by
  rw [lAt, List.getD_eq_getElem?_getD, grown, List.getElem?_map, List.getElem?_range hj]
  rfl
theorem lAt_out (ls : List (List ByteArray)) (j : Nat) (hj : ls.length ≤ j) : lAt ls j = [] := by
  rw [lAt, List.getD_eq_getElem?_getD, List.getElem?_eq_none hj]; rfl
theorem grown_f (ls : List (List ByteArray)) (hS : ls.length ≤ 250) (hS2 : ∀ j, (lAt ls j).length ≤ 900000) : escutcheonbook_markedTexts.f 2000010 (grown ls) = some true := by
  refine marked_f (grown ls) (by rw [grown_length]; omega) (fun j => ?_) (fun j hj => ?_)
  · by_cases h : j < ls.length
    · rw [grown_at ls j h, mk_length]; have := hS2 j; omega
    · rw [lAt_out _ j (by rw [grown_length]; omega)]; exact Nat.zero_le _
  · rw [grown_length] at hj
    rw [grown_at ls j hj, mk_length]
theorem GS.grownC {B N M g : Nat} {w0 W : World} {vt vu : Value} {hs us gs : List Hdr} {ls : List (List ByteArray)} {A : Option Addr} {n c : Nat} (h : GS B N M w0 W g vt vu hs us ls ls.length (.slice A n c) gs) : n = (grown ls).length ∧ (grown ls).length ≤ c ∧ Kd.C (Kd.slice 9 Kd.string) W A (grown ls).length (grown ls) := by
  obtain ⟨a1, a2, a3, a4, a5, a6, a7, a8⟩ := h
  refine heads_C a3 (by rw [grown_length]; exact a4) (fun j hj => ?_)
  rw [grown_length] at hj
  rw [grown_at ls j hj]
  exact ⟨_, a5 j hj⟩
theorem GS.textsC {B N M g i : Nat} {w0 W : World} {vu vo : Value} {hs us gs : List Hdr} {ls : List (List ByteArray)} {A : Option Addr} {n c : Nat} (h : GS B N M w0 W g (.slice A n c) vu hs us ls i vo gs) : n = ls.length ∧ ls.length ≤ c ∧ Kd.C (Kd.slice 9 Kd.string) W A ls.length ls := by
  obtain ⟨a1, a2, a3, a4, a5, a6, a7, a8⟩ := h
  exact heads_C a1.2.2.1 a2.1 (fun j hj => ⟨_, a2.2 j hj⟩)
end Go.Proofs.Ytoepiofmkjajaaa.P
/- A Book's lists lie apart. -/
namespace Go.Proofs.Ytoepiofmkjajaaa.P
open Go.RowKit Go.Proofs.YtoepiofmkjajaaaW.PrintWords Go.Proofs.YtoepiofmkjajaaaW.PrintLast Go.Proofs.YtoepiofmkjajaaaW.PrintMore
set_option linter.unusedVariables false
set_option linter.unusedSimpArgs false

theorem BookP.at {B : Nat} {W : World} {g : Nat} {vt vu : Value} {hs us : List Hdr} (h : BookP B W g vt vu hs us) : BookAt W g vt vu := h.1
theorem GS.book {B N M g i : Nat} {w0 W : World} {vt vu vo : Value} {hs us gs : List Hdr} {ls : List (List ByteArray)} (h : GS B N M w0 W g vt vu hs us ls i vo gs) : BookP B W g vt vu hs us := h.1
theorem drawn_bel {w w' : World} (h : Drawn0 w w') : Below w.heap.size w w' := by
  obtain ⟨n, rfl⟩ := h
  exact pw_below_drewN (Below.refl _ _) n
abbrev St1 (w0 W : World) (g : Nat) (vt vu : Value) (hs us : List Hdr) (ls : List (List ByteArray)) : Prop := BookP w0.heap.size W g vt vu hs us ∧ RowsAt w0.heap.size W hs ls ∧ RowsAt w0.heap.size W us ls ∧ Below w0.heap.size w0 W
theorem St1.below {w0 W W1 : World} {g : Nat} {vt vu : Value} {hs us : List Hdr} {ls : List (List ByteArray)} (h : St1 w0 W g vt vu hs us ls) (hb : Below W.heap.size W W1) : St1 w0 W1 g vt vu hs us ls :=
  ⟨h.1.mv (Mv.below hb), h.2.1.mv (Mv.below hb), h.2.2.1.mv (Mv.below hb), below_step h.2.2.2 hb⟩
abbrev St2 (w0 W : World) (g : Nat) (vt vu : Value) (hs us : List Hdr) (ls : List (List ByteArray)) : Prop := BookP w0.heap.size W g vt vu hs us ∧ RowsAt w0.heap.size W hs ls ∧ Below w0.heap.size w0 W
theorem St2.mk {w0 W : World} {g : Nat} {vt vu : Value} {hs us : List Hdr} {ls : List (List ByteArray)} (a : BookP w0.heap.size W g vt vu hs us) (b : RowsAt w0.heap.size W hs ls) (c : Below w0.heap.size w0 W) : St2 w0 W g vt vu hs us ls := ⟨a, b, c⟩
theorem St2.below {w0 W W1 : World} {g : Nat} {vt vu : Value} {hs us : List Hdr} {ls : List (List ByteArray)} (h : St2 w0 W g vt vu hs us ls) (hb : Below W.heap.size W W1) : St2 w0 W1 g vt vu hs us ls :=
  ⟨h.1.mv (Mv.below hb), h.2.1.mv (Mv.below hb), below_step h.2.2 hb⟩
theorem H3ct {B N M g i : Nat} {w0 W : World} {vu vo : Value} {hs us gs : List Hdr} {ls : List (List ByteArray)} {A : Option Addr} {c : Nat} (h : GS B N M w0 W g (.slice A hs.length c) vu hs us ls i vo gs) (hl : hs.length = ls.length) : W.cell? ⟨g, 0, none⟩ = some (.slice A ls.length c) := by
  have := (blk_cell h.1.1 0)
  rw [hl] at this
  exact this.trans rfl
theorem H3tx {B N M g i : Nat} {w0 W : World} {vu vo : Value} {hs us gs : List Hdr} {ls : List (List ByteArray)} {A : Option Addr} {c : Nat} (h : GS B N M w0 W g (.slice A hs.length c) vu hs us ls i vo gs) (hl : hs.length = ls.length) : ls.length ≤ c ∧ Kd.C (Kd.slice 9 Kd.string) W A ls.length ls := h.textsC.2
theorem Putd.at {ls ls1 : List (List ByteArray)} (h : Putd ls ls1 ls.length) (j : Nat) (hj : j < ls1.length) : lAt ls1 j = mk (j : Int) 0 (lAt ls j).length := by
  rw [h.2 j (h.1 ▸ hj), if_pos (h.1 ▸ hj)]
theorem Putd.len {ls ls1 : List (List ByteArray)} (h : Putd ls ls1 ls.length) (j : Nat) : (lAt ls1 j).length = (lAt ls j).length := by
  by_cases hj : j < ls1.length
  · rw [h.at j hj, mk_length]
  · rw [lAt_out ls1 j (by omega), lAt_out ls j (by rw [← h.1]; omega)]
theorem Putd.marks {ls ls1 : List (List ByteArray)} (h : Putd ls ls1 ls.length) (j : Nat) (hj : j < ls1.length) : lAt ls1 j = mk (j : Int) 0 (lAt ls1 j).length := by
  rw [h.len j]; exact h.at j hj
theorem Putd.short {ls ls1 : List (List ByteArray)} (h : Putd ls ls1 ls.length) (hs : Short ls) : Short ls1 := by
  refine ⟨by rw [h.1]; exact hs.1, fun l hl => ?_⟩
  obtain ⟨j, hj, rfl⟩ := List.mem_iff_getElem.1 hl
  have : lAt ls1 j = ls1[j] := by rw [lAt, List.getD_eq_getElem?_getD, List.getElem?_eq_getElem hj]; rfl
  rw [← this, h.len j]
  exact hs.at j
theorem markedInts_nil (w : World) : Calls Try.prog 47 #[.slice none 0 0] w fun e w' => e = .returned (.bool true) ∧ Below w.heap.size w w' := escutcheonbook_markedInts.calls 1 none 0 [] true w (Kd.C_nil _ _) (Nat.zero_le _) rfl
theorem markedRules_nil (w : World) : Calls Try.prog 48 #[.slice none 0 0] w fun e w' => e = .returned (.bool true) ∧ Below w.heap.size w w' := escutcheonbook_markedRules.calls 1 none 0 [] true w (Kd.C_nil _ _) (Nat.zero_le _) rfl
theorem markedNotes_nil (w : World) : Calls Try.prog 49 #[.slice none 0 0] w fun e w' => e = .returned (.bool true) ∧ Below w.heap.size w w' := escutcheonbook_markedNotes.calls 1 none 0 [] true w (Kd.C_nil _ _) (Nat.zero_le _) rfl
theorem markedItems_nil (w : World) : Calls Try.prog 50 #[.slice none 0 0] w fun e w' => e = .returned (.bool true) ∧ Below w.heap.size w w' := escutcheonbook_markedItems.calls 1 none 0 [] true w (Kd.C_nil _ _) (Nat.zero_le _) rfl
theorem markedCommands_nil (w : World) : Calls Try.prog 51 #[.slice none 0 0] w fun e w' => e = .returned (.bool true) ∧ Below w.heap.size w w' := escutcheonbook_markedCommands.calls 1 none 0 [] true w (Kd.C_nil _ _) (Nat.zero_le _) rfl
theorem markedReplies_nil (w : World) : Calls Try.prog 52 #[.slice none 0 0] w fun e w' => e = .returned (.bool true) ∧ Below w.heap.size w w' := escutcheonbook_markedReplies.calls 1 none 0 [] true w (Kd.C_nil _ _) (Nat.zero_le _) rfl
set_option maxHeartbeats 8000000 in
set_option maxRecDepth 100000 in
theorem Book_Apart.calls (N g : Nat) (ls : List (List ByteArray)) (w0 w : World) (hI : IsBook w0.heap.size N w g ls) (hB : Below w0.heap.size w0 w) (hS : Short ls) (hS9 : ∀ j, (lAt ls j).length ≤ 900000) :
    Calls Try.prog 18 #[.pointer (some ⟨g, 0, none⟩)] w fun e w' => e = .returned (.bool true) ∧ Below w0.heap.size w0 w' := by
  obtain ⟨vt, vu, hs, us, h1, h2, h3, h4, h5, h6, h7, h8, h9⟩ := hI
  obtain ⟨At, ct, e1⟩ := Kd.R_slice h3
  subst e1
  have H1 := Aside0.mk (show St1 w0 w g (.slice At hs.length ct) vu hs us ls from ⟨⟨h1, h2, h3, h4, h9⟩, h5, h6, hB⟩)
  have H7 := Aside0.mk h7
  have HS := Aside0.mk hS
  have HS9 := Aside0.mk hS9
  clear h1 h2 h3 h4 h5 h6 h7 h8 h9 hS hS9 hB
  go_enter Try.func18, Try.ntmps18
  go_wp2_with (first | ((with_reducible refine gate_callee (f := 25) rfl ?_); (try (refine gate_guard (by rfl) ?_; dsimp only)); refine goesL_ (some 11) rfl rfl Try.func25 (by kernel_rfl) rfl #[.pointer (some ⟨g, 0, none⟩)] rfl (by (try simp only [List.map_toArray, List.map_cons, List.map_nil]); first | done | rfl) ?_; (with_reducible refine (Book_stillTexts.calls g _ vu hs us ls w0.heap.size _ H1.out.1 H1.out.2.1 H1.out.2.2.1 HS.out).mono ?_); rintro e w' ⟨rfl, hd⟩; refine ⟨_, rfl, ?_⟩; have n0_ := Aside0.mk (H1.out.below (drawn_bel hd)); clear H1 hd; have H1 := n0_; clear n0_) | (go_at_call 25; (with_reducible refine (Book_stillTexts.calls g _ vu hs us ls w0.heap.size _ H1.out.1 H1.out.2.1 H1.out.2.2.1 HS.out).mono ?_); rintro e w' ⟨rfl, hd⟩; have n0_ := Aside0.mk (H1.out.below (drawn_bel hd)); clear H1 hd; have H1 := n0_; clear n0_) | ((with_reducible refine gate_callee (f := 26) rfl ?_); (try (refine gate_guard (by rfl) ?_; dsimp only)); refine goesL_ (some 14) rfl rfl Try.func26 (by kernel_rfl) rfl #[.pointer (some ⟨g, 0, none⟩)] rfl (by (try simp only [List.map_toArray, List.map_cons, List.map_nil]); first | done | rfl) ?_; (with_reducible refine (Book_stillInts.calls g _ vu _ H1.out.1.at).mono ?_); rintro e w' ⟨rfl, hd⟩; refine ⟨_, rfl, ?_⟩; have n0_ := Aside0.mk (H1.out.below (drawn_bel hd)); clear H1 hd; have H1 := n0_; clear n0_) | (go_at_call 26; (with_reducible refine (Book_stillInts.calls g _ vu _ H1.out.1.at).mono ?_); rintro e w' ⟨rfl, hd⟩; have n0_ := Aside0.mk (H1.out.below (drawn_bel hd)); clear H1 hd; have H1 := n0_; clear n0_) | ((with_reducible refine gate_callee (f := 27) rfl ?_); (try (refine gate_guard (by rfl) ?_; dsimp only)); refine goesL_ (some 17) rfl rfl Try.func27 (by kernel_rfl) rfl #[.pointer (some ⟨g, 0, none⟩)] rfl (by (try simp only [List.map_toArray, List.map_cons, List.map_nil]); first | done | rfl) ?_; (with_reducible refine (Book_stillRules.calls g _ vu _ H1.out.1.at).mono ?_); rintro e w' ⟨rfl, hd⟩; refine ⟨_, rfl, ?_⟩; have n0_ := Aside0.mk (H1.out.below (drawn_bel hd)); clear H1 hd; have H1 := n0_; clear n0_) | (go_at_call 27; (with_reducible refine (Book_stillRules.calls g _ vu _ H1.out.1.at).mono ?_); rintro e w' ⟨rfl, hd⟩; have n0_ := Aside0.mk (H1.out.below (drawn_bel hd)); clear H1 hd; have H1 := n0_; clear n0_) | ((with_reducible refine gate_callee (f := 28) rfl ?_); (try (refine gate_guard (by rfl) ?_; dsimp only)); refine goesL_ (some 20) rfl rfl Try.func28 (by kernel_rfl) rfl #[.pointer (some ⟨g, 0, none⟩)] rfl (by (try simp only [List.map_toArray, List.map_cons, List.map_nil]); first | done | rfl) ?_; (with_reducible refine (Book_stillNotes.calls g _ vu _ H1.out.1.at).mono ?_); rintro e w' ⟨rfl, hd⟩; refine ⟨_, rfl, ?_⟩; have n0_ := Aside0.mk (H1.out.below (drawn_bel hd)); clear H1 hd; have H1 := n0_; clear n0_) | (go_at_call 28; (with_reducible refine (Book_stillNotes.calls g _ vu _ H1.out.1.at).mono ?_); rintro e w' ⟨rfl, hd⟩; have n0_ := Aside0.mk (H1.out.below (drawn_bel hd)); clear H1 hd; have H1 := n0_; clear n0_) | ((with_reducible refine gate_callee (f := 29) rfl ?_); (try (refine gate_guard (by rfl) ?_; dsimp only)); refine goesL_ (some 23) rfl rfl Try.func29 (by kernel_rfl) rfl #[.pointer (some ⟨g, 0, none⟩)] rfl (by (try simp only [List.map_toArray, List.map_cons, List.map_nil]); first | done | rfl) ?_; (with_reducible refine (Book_stillItems.calls g _ vu _ H1.out.1.at).mono ?_); rintro e w' ⟨rfl, hd⟩; refine ⟨_, rfl, ?_⟩; have n0_ := Aside0.mk (H1.out.below (drawn_bel hd)); clear H1 hd; have H1 := n0_; clear n0_) | (go_at_call 29; (with_reducible refine (Book_stillItems.calls g _ vu _ H1.out.1.at).mono ?_); rintro e w' ⟨rfl, hd⟩; have n0_ := Aside0.mk (H1.out.below (drawn_bel hd)); clear H1 hd; have H1 := n0_; clear n0_) | ((with_reducible refine gate_callee (f := 30) rfl ?_); (try (refine gate_guard (by rfl) ?_; dsimp only)); refine goesL_ (some 26) rfl rfl Try.func30 (by kernel_rfl) rfl #[.pointer (some ⟨g, 0, none⟩)] rfl (by (try simp only [List.map_toArray, List.map_cons, List.map_nil]); first | done | rfl) ?_; (with_reducible refine (Book_stillCommands.calls g _ vu _ H1.out.1.at).mono ?_); rintro e w' ⟨rfl, hd⟩; refine ⟨_, rfl, ?_⟩; have n0_ := Aside0.mk (H1.out.below (drawn_bel hd)); clear H1 hd; have H1 := n0_; clear n0_) | (go_at_call 30; (with_reducible refine (Book_stillCommands.calls g _ vu _ H1.out.1.at).mono ?_); rintro e w' ⟨rfl, hd⟩; have n0_ := Aside0.mk (H1.out.below (drawn_bel hd)); clear H1 hd; have H1 := n0_; clear n0_) | ((with_reducible refine gate_callee (f := 31) rfl ?_); (try (refine gate_guard (by rfl) ?_; dsimp only)); refine goesL_ (some 29) rfl rfl Try.func31 (by kernel_rfl) rfl #[.pointer (some ⟨g, 0, none⟩)] rfl (by (try simp only [List.map_toArray, List.map_cons, List.map_nil]); first | done | rfl) ?_; (with_reducible refine (Book_stillReplies.calls g _ vu _ H1.out.1.at).mono ?_); rintro e w' ⟨rfl, hd⟩; refine ⟨_, rfl, ?_⟩; have n0_ := Aside0.mk (H1.out.below (drawn_bel hd)); clear H1 hd; have H1 := n0_; clear n0_) | (go_at_call 31; (with_reducible refine (Book_stillReplies.calls g _ vu _ H1.out.1.at).mono ?_); rintro e w' ⟨rfl, hd⟩; have n0_ := Aside0.mk (H1.out.below (drawn_bel hd)); clear H1 hd; have H1 := n0_; clear n0_) | ((with_reducible refine gate_callee (f := 32) rfl ?_); (try (refine gate_guard (by rfl) ?_; dsimp only)); refine goesL_ (some 32) rfl rfl Try.func32 (by kernel_rfl) rfl #[.pointer (some ⟨g, 0, none⟩)] rfl (by (try simp only [List.map_toArray, List.map_cons, List.map_nil]); first | done | rfl) ?_; (with_reducible refine (Book_putReplies.calls g _ vu _ H1.out.1.at).mono ?_); rintro e w' ⟨rfl, hd⟩; refine ⟨_, rfl, ?_⟩; have n0_ := Aside0.mk (H1.out.below (drawn_bel hd)); clear H1 hd; have H1 := n0_; clear n0_) | (go_at_call 32; (with_reducible refine (Book_putReplies.calls g _ vu _ H1.out.1.at).mono ?_); rintro e w' ⟨rfl, hd⟩; have n0_ := Aside0.mk (H1.out.below (drawn_bel hd)); clear H1 hd; have H1 := n0_; clear n0_) | ((with_reducible refine gate_callee (f := 33) rfl ?_); (try (refine gate_guard (by rfl) ?_; dsimp only)); refine goesL_ (some 34) rfl rfl Try.func33 (by kernel_rfl) rfl #[.pointer (some ⟨g, 0, none⟩)] rfl (by (try simp only [List.map_toArray, List.map_cons, List.map_nil]); first | done | rfl) ?_; (with_reducible refine (Book_putTexts.calls g _ vu hs us ls w0 _ H1.out.1 H1.out.2.1 H7.out HS.out H1.out.2.2.2).mono ?_); rintro e w' ⟨rfl, hP, ⟨ls1, h5, hpd⟩, hb⟩; refine ⟨_, rfl, ?_⟩; have H2 := Aside0.mk (St2.mk hP h5 hb); have HLn := Aside0.mk h5.1; have HPd := Aside0.mk hpd; clear H1 hP h5 hpd hb) | (go_at_call 33; (with_reducible refine (Book_putTexts.calls g _ vu hs us ls w0 _ H1.out.1 H1.out.2.1 H7.out HS.out H1.out.2.2.2).mono ?_); rintro e w' ⟨rfl, hP, ⟨ls1, h5, hpd⟩, hb⟩; have H2 := Aside0.mk (St2.mk hP h5 hb); have HLn := Aside0.mk h5.1; have HPd := Aside0.mk hpd; clear H1 hP h5 hpd hb))
  go_wp2_with (first | ((with_reducible refine gate_callee (f := 34) rfl ?_); (try (refine gate_guard (by rfl) ?_; dsimp only)); refine goesL_ (some 36) rfl rfl Try.func34 (by kernel_rfl) rfl #[.pointer (some ⟨g, 0, none⟩)] rfl (by (try simp only [List.map_toArray, List.map_cons, List.map_nil]); first | done | rfl) ?_; (with_reducible refine (Book_putInts.calls g _ vu _ H2.out.1.at).mono ?_); rintro e w' ⟨rfl, hd⟩; refine ⟨_, rfl, ?_⟩; have n0_ := Aside0.mk (H2.out.below (drawn_bel hd)); clear H2 hd; have H2 := n0_; clear n0_) | (go_at_call 34; (with_reducible refine (Book_putInts.calls g _ vu _ H2.out.1.at).mono ?_); rintro e w' ⟨rfl, hd⟩; have n0_ := Aside0.mk (H2.out.below (drawn_bel hd)); clear H2 hd; have H2 := n0_; clear n0_) | ((with_reducible refine gate_callee (f := 35) rfl ?_); (try (refine gate_guard (by rfl) ?_; dsimp only)); refine goesL_ (some 38) rfl rfl Try.func35 (by kernel_rfl) rfl #[.pointer (some ⟨g, 0, none⟩)] rfl (by (try simp only [List.map_toArray, List.map_cons, List.map_nil]); first | done | rfl) ?_; (with_reducible refine (Book_putRules.calls g _ vu _ H2.out.1.at).mono ?_); rintro e w' ⟨rfl, hd⟩; refine ⟨_, rfl, ?_⟩; have n0_ := Aside0.mk (H2.out.below (drawn_bel hd)); clear H2 hd; have H2 := n0_; clear n0_) | (go_at_call 35; (with_reducible refine (Book_putRules.calls g _ vu _ H2.out.1.at).mono ?_); rintro e w' ⟨rfl, hd⟩; have n0_ := Aside0.mk (H2.out.below (drawn_bel hd)); clear H2 hd; have H2 := n0_; clear n0_) | ((with_reducible refine gate_callee (f := 36) rfl ?_); (try (refine gate_guard (by rfl) ?_; dsimp only)); refine goesL_ (some 40) rfl rfl Try.func36 (by kernel_rfl) rfl #[.pointer (some ⟨g, 0, none⟩)] rfl (by (try simp only [List.map_toArray, List.map_cons, List.map_nil]); first | done | rfl) ?_; (with_reducible refine (Book_putNotes.calls g _ vu _ H2.out.1.at).mono ?_); rintro e w' ⟨rfl, hd⟩; refine ⟨_, rfl, ?_⟩; have n0_ := Aside0.mk (H2.out.below (drawn_bel hd)); clear H2 hd; have H2 := n0_; clear n0_) | (go_at_call 36; (with_reducible refine (Book_putNotes.calls g _ vu _ H2.out.1.at).mono ?_); rintro e w' ⟨rfl, hd⟩; have n0_ := Aside0.mk (H2.out.below (drawn_bel hd)); clear H2 hd; have H2 := n0_; clear n0_) | ((with_reducible refine gate_callee (f := 37) rfl ?_); (try (refine gate_guard (by rfl) ?_; dsimp only)); refine goesL_ (some 42) rfl rfl Try.func37 (by kernel_rfl) rfl #[.pointer (some ⟨g, 0, none⟩)] rfl (by (try simp only [List.map_toArray, List.map_cons, List.map_nil]); first | done | rfl) ?_; (with_reducible refine (Book_putItems.calls g _ vu _ H2.out.1.at).mono ?_); rintro e w' ⟨rfl, hd⟩; refine ⟨_, rfl, ?_⟩; have n0_ := Aside0.mk (H2.out.below (drawn_bel hd)); clear H2 hd; have H2 := n0_; clear n0_) | (go_at_call 37; (with_reducible refine (Book_putItems.calls g _ vu _ H2.out.1.at).mono ?_); rintro e w' ⟨rfl, hd⟩; have n0_ := Aside0.mk (H2.out.below (drawn_bel hd)); clear H2 hd; have H2 := n0_; clear n0_) | ((with_reducible refine gate_callee (f := 38) rfl ?_); (try (refine gate_guard (by rfl) ?_; dsimp only)); refine goesL_ (some 44) rfl rfl Try.func38 (by kernel_rfl) rfl #[.pointer (some ⟨g, 0, none⟩)] rfl (by (try simp only [List.map_toArray, List.map_cons, List.map_nil]); first | done | rfl) ?_; (with_reducible refine (Book_putCommands.calls g _ vu _ H2.out.1.at).mono ?_); rintro e w' ⟨rfl, hd⟩; refine ⟨_, rfl, ?_⟩; have n0_ := Aside0.mk (H2.out.below (drawn_bel hd)); clear H2 hd; have H2 := n0_; clear n0_) | (go_at_call 38; (with_reducible refine (Book_putCommands.calls g _ vu _ H2.out.1.at).mono ?_); rintro e w' ⟨rfl, hd⟩; have n0_ := Aside0.mk (H2.out.below (drawn_bel hd)); clear H2 hd; have H2 := n0_; clear n0_) | ((with_reducible refine gate_callee (f := 39) rfl ?_); (try (refine gate_guard (by rfl) ?_; dsimp only)); refine goesL_ (some 46) rfl rfl Try.func39 (by kernel_rfl) rfl #[.pointer (some ⟨g, 0, none⟩)] rfl (by (try simp only [List.map_toArray, List.map_cons, List.map_nil]); first | done | rfl) ?_; (with_reducible refine (Book_growTexts.calls g _ vu hs us ls1 w0 _ H2.out.1 H2.out.2.1 H7.out (HPd.out.short HS.out) HPd.out.marks H2.out.2.2).mono ?_); rintro e w' ⟨vo, gs, M, rfl, hG⟩; refine ⟨_, rfl, ?_⟩; obtain ⟨Ao, co, eo⟩ := Kd.R_slice hG.2.2.1; rw [show gs.length = (grown ls1).length from hG.2.2.2.1.trans (grown_length ls1).symm] at eo; subst eo; have H3 := Aside0.mk hG; clear H2 hG; have hct := H3ct H3.out HLn.out; have hc2 := H3.out.1.1.cell 2 (by decide) (by decide); have hc4 := H3.out.1.1.cell 4 (by decide) (by decide); have hc6 := H3.out.1.1.cell 6 (by decide) (by decide); have hc8 := H3.out.1.1.cell 8 (by decide) (by decide); have hc10 := H3.out.1.1.cell 10 (by decide) (by decide); have hc12 := H3.out.1.1.cell 12 (by decide) (by decide)) | (go_at_call 39; (with_reducible refine (Book_growTexts.calls g _ vu hs us ls1 w0 _ H2.out.1 H2.out.2.1 H7.out (HPd.out.short HS.out) HPd.out.marks H2.out.2.2).mono ?_); rintro e w' ⟨vo, gs, M, rfl, hG⟩; obtain ⟨Ao, co, eo⟩ := Kd.R_slice hG.2.2.1; rw [show gs.length = (grown ls1).length from hG.2.2.2.1.trans (grown_length ls1).symm] at eo; subst eo; have H3 := Aside0.mk hG; clear H2 hG; have hct := H3ct H3.out HLn.out; have hc2 := H3.out.1.1.cell 2 (by decide) (by decide); have hc4 := H3.out.1.1.cell 4 (by decide) (by decide); have hc6 := H3.out.1.1.cell 6 (by decide) (by decide); have hc8 := H3.out.1.1.cell 8 (by decide) (by decide); have hc10 := H3.out.1.1.cell 10 (by decide) (by decide); have hc12 := H3.out.1.1.cell 12 (by decide) (by decide)) | ((with_reducible refine gate_callee (f := 40) rfl ?_); (try (refine gate_guard (by rfl) ?_; dsimp only)); refine goesL_ (some 48) rfl rfl Try.func40 (by kernel_rfl) rfl #[.pointer (some ⟨g, 0, none⟩)] rfl (by (try simp only [List.map_toArray, List.map_cons, List.map_nil]); first | done | rfl) ?_; (with_reducible refine (Book_growInts.calls g _ vu _ H3.out.book.at).mono ?_); rintro e w' ⟨rfl, hd⟩; refine ⟨_, rfl, ?_⟩; have n0_ := Aside0.mk (H3.out.below (drawn_bel hd)); (try clear hct hc2 hc4 hc6 hc8 hc10 hc12); clear H3 hd; have H3 := n0_; clear n0_; have hct := H3ct H3.out HLn.out; have hc2 := H3.out.1.1.cell 2 (by decide) (by decide); have hc4 := H3.out.1.1.cell 4 (by decide) (by decide); have hc6 := H3.out.1.1.cell 6 (by decide) (by decide); have hc8 := H3.out.1.1.cell 8 (by decide) (by decide); have hc10 := H3.out.1.1.cell 10 (by decide) (by decide); have hc12 := H3.out.1.1.cell 12 (by decide) (by decide)) | (go_at_call 40; (with_reducible refine (Book_growInts.calls g _ vu _ H3.out.book.at).mono ?_); rintro e w' ⟨rfl, hd⟩; have n0_ := Aside0.mk (H3.out.below (drawn_bel hd)); (try clear hct hc2 hc4 hc6 hc8 hc10 hc12); clear H3 hd; have H3 := n0_; clear n0_; have hct := H3ct H3.out HLn.out; have hc2 := H3.out.1.1.cell 2 (by decide) (by decide); have hc4 := H3.out.1.1.cell 4 (by decide) (by decide); have hc6 := H3.out.1.1.cell 6 (by decide) (by decide); have hc8 := H3.out.1.1.cell 8 (by decide) (by decide); have hc10 := H3.out.1.1.cell 10 (by decide) (by decide); have hc12 := H3.out.1.1.cell 12 (by decide) (by decide)) | ((with_reducible refine gate_callee (f := 41) rfl ?_); (try (refine gate_guard (by rfl) ?_; dsimp only)); refine goesL_ (some 50) rfl rfl Try.func41 (by kernel_rfl) rfl #[.pointer (some ⟨g, 0, none⟩)] rfl (by (try simp only [List.map_toArray, List.map_cons, List.map_nil]); first | done | rfl) ?_; (with_reducible refine (Book_growRules.calls g _ vu _ H3.out.book.at).mono ?_); rintro e w' ⟨rfl, hd⟩; refine ⟨_, rfl, ?_⟩; have n0_ := Aside0.mk (H3.out.below (drawn_bel hd)); (try clear hct hc2 hc4 hc6 hc8 hc10 hc12); clear H3 hd; have H3 := n0_; clear n0_; have hct := H3ct H3.out HLn.out; have hc2 := H3.out.1.1.cell 2 (by decide) (by decide); have hc4 := H3.out.1.1.cell 4 (by decide) (by decide); have hc6 := H3.out.1.1.cell 6 (by decide) (by decide); have hc8 := H3.out.1.1.cell 8 (by decide) (by decide); have hc10 := H3.out.1.1.cell 10 (by decide) (by decide); have hc12 := H3.out.1.1.cell 12 (by decide) (by decide)) | (go_at_call 41; (with_reducible refine (Book_growRules.calls g _ vu _ H3.out.book.at).mono ?_); rintro e w' ⟨rfl, hd⟩; have n0_ := Aside0.mk (H3.out.below (drawn_bel hd)); (try clear hct hc2 hc4 hc6 hc8 hc10 hc12); clear H3 hd; have H3 := n0_; clear n0_; have hct := H3ct H3.out HLn.out; have hc2 := H3.out.1.1.cell 2 (by decide) (by decide); have hc4 := H3.out.1.1.cell 4 (by decide) (by decide); have hc6 := H3.out.1.1.cell 6 (by decide) (by decide); have hc8 := H3.out.1.1.cell 8 (by decide) (by decide); have hc10 := H3.out.1.1.cell 10 (by decide) (by decide); have hc12 := H3.out.1.1.cell 12 (by decide) (by decide)) | ((with_reducible refine gate_callee (f := 42) rfl ?_); (try (refine gate_guard (by rfl) ?_; dsimp only)); refine goesL_ (some 52) rfl rfl Try.func42 (by kernel_rfl) rfl #[.pointer (some ⟨g, 0, none⟩)] rfl (by (try simp only [List.map_toArray, List.map_cons, List.map_nil]); first | done | rfl) ?_; (with_reducible refine (Book_growNotes.calls g _ vu _ H3.out.book.at).mono ?_); rintro e w' ⟨rfl, hd⟩; refine ⟨_, rfl, ?_⟩; have n0_ := Aside0.mk (H3.out.below (drawn_bel hd)); (try clear hct hc2 hc4 hc6 hc8 hc10 hc12); clear H3 hd; have H3 := n0_; clear n0_; have hct := H3ct H3.out HLn.out; have hc2 := H3.out.1.1.cell 2 (by decide) (by decide); have hc4 := H3.out.1.1.cell 4 (by decide) (by decide); have hc6 := H3.out.1.1.cell 6 (by decide) (by decide); have hc8 := H3.out.1.1.cell 8 (by decide) (by decide); have hc10 := H3.out.1.1.cell 10 (by decide) (by decide); have hc12 := H3.out.1.1.cell 12 (by decide) (by decide)) | (go_at_call 42; (with_reducible refine (Book_growNotes.calls g _ vu _ H3.out.book.at).mono ?_); rintro e w' ⟨rfl, hd⟩; have n0_ := Aside0.mk (H3.out.below (drawn_bel hd)); (try clear hct hc2 hc4 hc6 hc8 hc10 hc12); clear H3 hd; have H3 := n0_; clear n0_; have hct := H3ct H3.out HLn.out; have hc2 := H3.out.1.1.cell 2 (by decide) (by decide); have hc4 := H3.out.1.1.cell 4 (by decide) (by decide); have hc6 := H3.out.1.1.cell 6 (by decide) (by decide); have hc8 := H3.out.1.1.cell 8 (by decide) (by decide); have hc10 := H3.out.1.1.cell 10 (by decide) (by decide); have hc12 := H3.out.1.1.cell 12 (by decide) (by decide)) | ((with_reducible refine gate_callee (f := 43) rfl ?_); (try (refine gate_guard (by rfl) ?_; dsimp only)); refine goesL_ (some 54) rfl rfl Try.func43 (by kernel_rfl) rfl #[.pointer (some ⟨g, 0, none⟩)] rfl (by (try simp only [List.map_toArray, List.map_cons, List.map_nil]); first | done | rfl) ?_; (with_reducible refine (Book_growItems.calls g _ vu _ H3.out.book.at).mono ?_); rintro e w' ⟨rfl, hd⟩; refine ⟨_, rfl, ?_⟩; have n0_ := Aside0.mk (H3.out.below (drawn_bel hd)); (try clear hct hc2 hc4 hc6 hc8 hc10 hc12); clear H3 hd; have H3 := n0_; clear n0_; have hct := H3ct H3.out HLn.out; have hc2 := H3.out.1.1.cell 2 (by decide) (by decide); have hc4 := H3.out.1.1.cell 4 (by decide) (by decide); have hc6 := H3.out.1.1.cell 6 (by decide) (by decide); have hc8 := H3.out.1.1.cell 8 (by decide) (by decide); have hc10 := H3.out.1.1.cell 10 (by decide) (by decide); have hc12 := H3.out.1.1.cell 12 (by decide) (by decide)) | (go_at_call 43; (with_reducible refine (Book_growItems.calls g _ vu _ H3.out.book.at).mono ?_); rintro e w' ⟨rfl, hd⟩; have n0_ := Aside0.mk (H3.out.below (drawn_bel hd)); (try clear hct hc2 hc4 hc6 hc8 hc10 hc12); clear H3 hd; have H3 := n0_; clear n0_; have hct := H3ct H3.out HLn.out; have hc2 := H3.out.1.1.cell 2 (by decide) (by decide); have hc4 := H3.out.1.1.cell 4 (by decide) (by decide); have hc6 := H3.out.1.1.cell 6 (by decide) (by decide); have hc8 := H3.out.1.1.cell 8 (by decide) (by decide); have hc10 := H3.out.1.1.cell 10 (by decide) (by decide); have hc12 := H3.out.1.1.cell 12 (by decide) (by decide)) | ((with_reducible refine gate_callee (f := 44) rfl ?_); (try (refine gate_guard (by rfl) ?_; dsimp only)); refine goesL_ (some 56) rfl rfl Try.func44 (by kernel_rfl) rfl #[.pointer (some ⟨g, 0, none⟩)] rfl (by (try simp only [List.map_toArray, List.map_cons, List.map_nil]); first | done | rfl) ?_; (with_reducible refine (Book_growCommands.calls g _ vu _ H3.out.book.at).mono ?_); rintro e w' ⟨rfl, hd⟩; refine ⟨_, rfl, ?_⟩; have n0_ := Aside0.mk (H3.out.below (drawn_bel hd)); (try clear hct hc2 hc4 hc6 hc8 hc10 hc12); clear H3 hd; have H3 := n0_; clear n0_; have hct := H3ct H3.out HLn.out; have hc2 := H3.out.1.1.cell 2 (by decide) (by decide); have hc4 := H3.out.1.1.cell 4 (by decide) (by decide); have hc6 := H3.out.1.1.cell 6 (by decide) (by decide); have hc8 := H3.out.1.1.cell 8 (by decide) (by decide); have hc10 := H3.out.1.1.cell 10 (by decide) (by decide); have hc12 := H3.out.1.1.cell 12 (by decide) (by decide)) | (go_at_call 44; (with_reducible refine (Book_growCommands.calls g _ vu _ H3.out.book.at).mono ?_); rintro e w' ⟨rfl, hd⟩; have n0_ := Aside0.mk (H3.out.below (drawn_bel hd)); (try clear hct hc2 hc4 hc6 hc8 hc10 hc12); clear H3 hd; have H3 := n0_; clear n0_; have hct := H3ct H3.out HLn.out; have hc2 := H3.out.1.1.cell 2 (by decide) (by decide); have hc4 := H3.out.1.1.cell 4 (by decide) (by decide); have hc6 := H3.out.1.1.cell 6 (by decide) (by decide); have hc8 := H3.out.1.1.cell 8 (by decide) (by decide); have hc10 := H3.out.1.1.cell 10 (by decide) (by decide); have hc12 := H3.out.1.1.cell 12 (by decide) (by decide)) | ((with_reducible refine gate_callee (f := 45) rfl ?_); (try (refine gate_guard (by rfl) ?_; dsimp only)); refine goesL_ (some 58) rfl rfl Try.func45 (by kernel_rfl) rfl #[.pointer (some ⟨g, 0, none⟩)] rfl (by (try simp only [List.map_toArray, List.map_cons, List.map_nil]); first | done | rfl) ?_; (with_reducible refine (Book_growReplies.calls g _ vu _ H3.out.book.at).mono ?_); rintro e w' ⟨rfl, hd⟩; refine ⟨_, rfl, ?_⟩; have n0_ := Aside0.mk (H3.out.below (drawn_bel hd)); (try clear hct hc2 hc4 hc6 hc8 hc10 hc12); clear H3 hd; have H3 := n0_; clear n0_; have hct := H3ct H3.out HLn.out; have hc2 := H3.out.1.1.cell 2 (by decide) (by decide); have hc4 := H3.out.1.1.cell 4 (by decide) (by decide); have hc6 := H3.out.1.1.cell 6 (by decide) (by decide); have hc8 := H3.out.1.1.cell 8 (by decide) (by decide); have hc10 := H3.out.1.1.cell 10 (by decide) (by decide); have hc12 := H3.out.1.1.cell 12 (by decide) (by decide)) | (go_at_call 45; (with_reducible refine (Book_growReplies.calls g _ vu _ H3.out.book.at).mono ?_); rintro e w' ⟨rfl, hd⟩; have n0_ := Aside0.mk (H3.out.below (drawn_bel hd)); (try clear hct hc2 hc4 hc6 hc8 hc10 hc12); clear H3 hd; have H3 := n0_; clear n0_; have hct := H3ct H3.out HLn.out; have hc2 := H3.out.1.1.cell 2 (by decide) (by decide); have hc4 := H3.out.1.1.cell 4 (by decide) (by decide); have hc6 := H3.out.1.1.cell 6 (by decide) (by decide); have hc8 := H3.out.1.1.cell 8 (by decide) (by decide); have hc10 := H3.out.1.1.cell 10 (by decide) (by decide); have hc12 := H3.out.1.1.cell 12 (by decide) (by decide)))
  have HF2 := Aside0.mk (marked_f ls1 (by have := (HPd.out.short HS.out).1; omega) (fun j => (HPd.out.short HS.out).at j) HPd.out.marks)
  have HF1 := Aside0.mk (grown_f ls1 (HPd.out.short HS.out).1 (fun j => by rw [HPd.out.len j]; exact HS9.out j))
  go_wp2_with (first | ((with_reducible refine gate_callee (f := 46) rfl ?_); (try (refine gate_guard (by rfl) ?_; dsimp only)); refine goesL_ (some 60) rfl rfl Try.func46 (by kernel_rfl) rfl #[.slice Ao (grown ls1).length co] rfl (by (try simp only [List.map_toArray, List.map_cons, List.map_nil]); first | done | rfl) ?_; (with_reducible refine (escutcheonbook_markedTexts.calls 2000010 Ao co (grown ls1) true _ H3.out.grownC.2.2 H3.out.grownC.2.1 HF1.out).mono ?_); rintro e w' ⟨rfl, hd⟩; refine ⟨_, rfl, ?_⟩; have n0_ := Aside0.mk (H3.out.below hd); (try clear hct hc2 hc4 hc6 hc8 hc10 hc12); clear H3 hd; have H3 := n0_; clear n0_; have hct := H3ct H3.out HLn.out; have hc2 := H3.out.1.1.cell 2 (by decide) (by decide); have hc4 := H3.out.1.1.cell 4 (by decide) (by decide); have hc6 := H3.out.1.1.cell 6 (by decide) (by decide); have hc8 := H3.out.1.1.cell 8 (by decide) (by decide); have hc10 := H3.out.1.1.cell 10 (by decide) (by decide); have hc12 := H3.out.1.1.cell 12 (by decide) (by decide)) | (go_at_call 46; (with_reducible refine (escutcheonbook_markedTexts.calls 2000010 Ao co (grown ls1) true _ H3.out.grownC.2.2 H3.out.grownC.2.1 HF1.out).mono ?_); rintro e w' ⟨rfl, hd⟩; have n0_ := Aside0.mk (H3.out.below hd); (try clear hct hc2 hc4 hc6 hc8 hc10 hc12); clear H3 hd; have H3 := n0_; clear n0_; have hct := H3ct H3.out HLn.out; have hc2 := H3.out.1.1.cell 2 (by decide) (by decide); have hc4 := H3.out.1.1.cell 4 (by decide) (by decide); have hc6 := H3.out.1.1.cell 6 (by decide) (by decide); have hc8 := H3.out.1.1.cell 8 (by decide) (by decide); have hc10 := H3.out.1.1.cell 10 (by decide) (by decide); have hc12 := H3.out.1.1.cell 12 (by decide) (by decide)) | ((with_reducible refine gate_callee (f := 46) rfl ?_); (try (refine gate_guard (by rfl) ?_; dsimp only)); refine goesL_ (some 66) rfl rfl Try.func46 (by kernel_rfl) rfl #[.slice At ls1.length ct] rfl (by (try simp only [List.map_toArray, List.map_cons, List.map_nil]); first | done | rfl) ?_; (with_reducible refine (escutcheonbook_markedTexts.calls 2000010 At ct ls1 true _ (H3tx H3.out HLn.out).2 (H3tx H3.out HLn.out).1 HF2.out).mono ?_); rintro e w' ⟨rfl, hd⟩; refine ⟨_, rfl, ?_⟩; have n0_ := Aside0.mk (H3.out.below hd); (try clear hct hc2 hc4 hc6 hc8 hc10 hc12); clear H3 hd; have H3 := n0_; clear n0_; have hct := H3ct H3.out HLn.out; have hc2 := H3.out.1.1.cell 2 (by decide) (by decide); have hc4 := H3.out.1.1.cell 4 (by decide) (by decide); have hc6 := H3.out.1.1.cell 6 (by decide) (by decide); have hc8 := H3.out.1.1.cell 8 (by decide) (by decide); have hc10 := H3.out.1.1.cell 10 (by decide) (by decide); have hc12 := H3.out.1.1.cell 12 (by decide) (by decide)) | (go_at_call 46; (with_reducible refine (escutcheonbook_markedTexts.calls 2000010 At ct ls1 true _ (H3tx H3.out HLn.out).2 (H3tx H3.out HLn.out).1 HF2.out).mono ?_); rintro e w' ⟨rfl, hd⟩; have n0_ := Aside0.mk (H3.out.below hd); (try clear hct hc2 hc4 hc6 hc8 hc10 hc12); clear H3 hd; have H3 := n0_; clear n0_; have hct := H3ct H3.out HLn.out; have hc2 := H3.out.1.1.cell 2 (by decide) (by decide); have hc4 := H3.out.1.1.cell 4 (by decide) (by decide); have hc6 := H3.out.1.1.cell 6 (by decide) (by decide); have hc8 := H3.out.1.1.cell 8 (by decide) (by decide); have hc10 := H3.out.1.1.cell 10 (by decide) (by decide); have hc12 := H3.out.1.1.cell 12 (by decide) (by decide)) | ((with_reducible refine gate_callee (f := 47) rfl ?_); (try (refine gate_guard (by rfl) ?_; dsimp only)); refine goesL_ (some 70) rfl rfl Try.func47 (by kernel_rfl) rfl #[.slice none 0 0] rfl (by (try simp only [List.map_toArray, List.map_cons, List.map_nil]); first | done | rfl) ?_; (with_reducible refine (markedInts_nil _).mono ?_); rintro e w' ⟨rfl, hd⟩; refine ⟨_, rfl, ?_⟩; have n0_ := Aside0.mk (H3.out.below hd); (try clear hct hc2 hc4 hc6 hc8 hc10 hc12); clear H3 hd; have H3 := n0_; clear n0_; have hct := H3ct H3.out HLn.out; have hc2 := H3.out.1.1.cell 2 (by decide) (by decide); have hc4 := H3.out.1.1.cell 4 (by decide) (by decide); have hc6 := H3.out.1.1.cell 6 (by decide) (by decide); have hc8 := H3.out.1.1.cell 8 (by decide) (by decide); have hc10 := H3.out.1.1.cell 10 (by decide) (by decide); have hc12 := H3.out.1.1.cell 12 (by decide) (by decide)) | (go_at_call 47; (with_reducible refine (markedInts_nil _).mono ?_); rintro e w' ⟨rfl, hd⟩; have n0_ := Aside0.mk (H3.out.below hd); (try clear hct hc2 hc4 hc6 hc8 hc10 hc12); clear H3 hd; have H3 := n0_; clear n0_; have hct := H3ct H3.out HLn.out; have hc2 := H3.out.1.1.cell 2 (by decide) (by decide); have hc4 := H3.out.1.1.cell 4 (by decide) (by decide); have hc6 := H3.out.1.1.cell 6 (by decide) (by decide); have hc8 := H3.out.1.1.cell 8 (by decide) (by decide); have hc10 := H3.out.1.1.cell 10 (by decide) (by decide); have hc12 := H3.out.1.1.cell 12 (by decide) (by decide)) | ((with_reducible refine gate_callee (f := 47) rfl ?_); (try (refine gate_guard (by rfl) ?_; dsimp only)); refine goesL_ (some 77) rfl rfl Try.func47 (by kernel_rfl) rfl #[.slice none 0 0] rfl (by (try simp only [List.map_toArray, List.map_cons, List.map_nil]); first | done | rfl) ?_; (with_reducible refine (markedInts_nil _).mono ?_); rintro e w' ⟨rfl, hd⟩; refine ⟨_, rfl, ?_⟩; have n0_ := Aside0.mk (H3.out.below hd); (try clear hct hc2 hc4 hc6 hc8 hc10 hc12); clear H3 hd; have H3 := n0_; clear n0_; have hct := H3ct H3.out HLn.out; have hc2 := H3.out.1.1.cell 2 (by decide) (by decide); have hc4 := H3.out.1.1.cell 4 (by decide) (by decide); have hc6 := H3.out.1.1.cell 6 (by decide) (by decide); have hc8 := H3.out.1.1.cell 8 (by decide) (by decide); have hc10 := H3.out.1.1.cell 10 (by decide) (by decide); have hc12 := H3.out.1.1.cell 12 (by decide) (by decide)) | (go_at_call 47; (with_reducible refine (markedInts_nil _).mono ?_); rintro e w' ⟨rfl, hd⟩; have n0_ := Aside0.mk (H3.out.below hd); (try clear hct hc2 hc4 hc6 hc8 hc10 hc12); clear H3 hd; have H3 := n0_; clear n0_; have hct := H3ct H3.out HLn.out; have hc2 := H3.out.1.1.cell 2 (by decide) (by decide); have hc4 := H3.out.1.1.cell 4 (by decide) (by decide); have hc6 := H3.out.1.1.cell 6 (by decide) (by decide); have hc8 := H3.out.1.1.cell 8 (by decide) (by decide); have hc10 := H3.out.1.1.cell 10 (by decide) (by decide); have hc12 := H3.out.1.1.cell 12 (by decide) (by decide)) | ((with_reducible refine gate_callee (f := 48) rfl ?_); (try (refine gate_guard (by rfl) ?_; dsimp only)); refine goesL_ (some 81) rfl rfl Try.func48 (by kernel_rfl) rfl #[.slice none 0 0] rfl (by (try simp only [List.map_toArray, List.map_cons, List.map_nil]); first | done | rfl) ?_; (with_reducible refine (markedRules_nil _).mono ?_); rintro e w' ⟨rfl, hd⟩; refine ⟨_, rfl, ?_⟩; have n0_ := Aside0.mk (H3.out.below hd); (try clear hct hc2 hc4 hc6 hc8 hc10 hc12); clear H3 hd; have H3 := n0_; clear n0_; have hct := H3ct H3.out HLn.out; have hc2 := H3.out.1.1.cell 2 (by decide) (by decide); have hc4 := H3.out.1.1.cell 4 (by decide) (by decide); have hc6 := H3.out.1.1.cell 6 (by decide) (by decide); have hc8 := H3.out.1.1.cell 8 (by decide) (by decide); have hc10 := H3.out.1.1.cell 10 (by decide) (by decide); have hc12 := H3.out.1.1.cell 12 (by decide) (by decide)) | (go_at_call 48; (with_reducible refine (markedRules_nil _).mono ?_); rintro e w' ⟨rfl, hd⟩; have n0_ := Aside0.mk (H3.out.below hd); (try clear hct hc2 hc4 hc6 hc8 hc10 hc12); clear H3 hd; have H3 := n0_; clear n0_; have hct := H3ct H3.out HLn.out; have hc2 := H3.out.1.1.cell 2 (by decide) (by decide); have hc4 := H3.out.1.1.cell 4 (by decide) (by decide); have hc6 := H3.out.1.1.cell 6 (by decide) (by decide); have hc8 := H3.out.1.1.cell 8 (by decide) (by decide); have hc10 := H3.out.1.1.cell 10 (by decide) (by decide); have hc12 := H3.out.1.1.cell 12 (by decide) (by decide)) | ((with_reducible refine gate_callee (f := 48) rfl ?_); (try (refine gate_guard (by rfl) ?_; dsimp only)); refine goesL_ (some 88) rfl rfl Try.func48 (by kernel_rfl) rfl #[.slice none 0 0] rfl (by (try simp only [List.map_toArray, List.map_cons, List.map_nil]); first | done | rfl) ?_; (with_reducible refine (markedRules_nil _).mono ?_); rintro e w' ⟨rfl, hd⟩; refine ⟨_, rfl, ?_⟩; have n0_ := Aside0.mk (H3.out.below hd); (try clear hct hc2 hc4 hc6 hc8 hc10 hc12); clear H3 hd; have H3 := n0_; clear n0_; have hct := H3ct H3.out HLn.out; have hc2 := H3.out.1.1.cell 2 (by decide) (by decide); have hc4 := H3.out.1.1.cell 4 (by decide) (by decide); have hc6 := H3.out.1.1.cell 6 (by decide) (by decide); have hc8 := H3.out.1.1.cell 8 (by decide) (by decide); have hc10 := H3.out.1.1.cell 10 (by decide) (by decide); have hc12 := H3.out.1.1.cell 12 (by decide) (by decide)) | (go_at_call 48; (with_reducible refine (markedRules_nil _).mono ?_); rintro e w' ⟨rfl, hd⟩; have n0_ := Aside0.mk (H3.out.below hd); (try clear hct hc2 hc4 hc6 hc8 hc10 hc12); clear H3 hd; have H3 := n0_; clear n0_; have hct := H3ct H3.out HLn.out; have hc2 := H3.out.1.1.cell 2 (by decide) (by decide); have hc4 := H3.out.1.1.cell 4 (by decide) (by decide); have hc6 := H3.out.1.1.cell 6 (by decide) (by decide); have hc8 := H3.out.1.1.cell 8 (by decide) (by decide); have hc10 := H3.out.1.1.cell 10 (by decide) (by decide); have hc12 := H3.out.1.1.cell 12 (by decide) (by decide)) | ((with_reducible refine gate_callee (f := 49) rfl ?_); (try (refine gate_guard (by rfl) ?_; dsimp only)); refine goesL_ (some 92) rfl rfl Try.func49 (by kernel_rfl) rfl #[.slice none 0 0] rfl (by (try simp only [List.map_toArray, List.map_cons, List.map_nil]); first | done | rfl) ?_; (with_reducible refine (markedNotes_nil _).mono ?_); rintro e w' ⟨rfl, hd⟩; refine ⟨_, rfl, ?_⟩; have n0_ := Aside0.mk (H3.out.below hd); (try clear hct hc2 hc4 hc6 hc8 hc10 hc12); clear H3 hd; have H3 := n0_; clear n0_; have hct := H3ct H3.out HLn.out; have hc2 := H3.out.1.1.cell 2 (by decide) (by decide); have hc4 := H3.out.1.1.cell 4 (by decide) (by decide); have hc6 := H3.out.1.1.cell 6 (by decide) (by decide); have hc8 := H3.out.1.1.cell 8 (by decide) (by decide); have hc10 := H3.out.1.1.cell 10 (by decide) (by decide); have hc12 := H3.out.1.1.cell 12 (by decide) (by decide)) | (go_at_call 49; (with_reducible refine (markedNotes_nil _).mono ?_); rintro e w' ⟨rfl, hd⟩; have n0_ := Aside0.mk (H3.out.below hd); (try clear hct hc2 hc4 hc6 hc8 hc10 hc12); clear H3 hd; have H3 := n0_; clear n0_; have hct := H3ct H3.out HLn.out; have hc2 := H3.out.1.1.cell 2 (by decide) (by decide); have hc4 := H3.out.1.1.cell 4 (by decide) (by decide); have hc6 := H3.out.1.1.cell 6 (by decide) (by decide); have hc8 := H3.out.1.1.cell 8 (by decide) (by decide); have hc10 := H3.out.1.1.cell 10 (by decide) (by decide); have hc12 := H3.out.1.1.cell 12 (by decide) (by decide)) | ((with_reducible refine gate_callee (f := 49) rfl ?_); (try (refine gate_guard (by rfl) ?_; dsimp only)); refine goesL_ (some 99) rfl rfl Try.func49 (by kernel_rfl) rfl #[.slice none 0 0] rfl (by (try simp only [List.map_toArray, List.map_cons, List.map_nil]); first | done | rfl) ?_; (with_reducible refine (markedNotes_nil _).mono ?_); rintro e w' ⟨rfl, hd⟩; refine ⟨_, rfl, ?_⟩; have n0_ := Aside0.mk (H3.out.below hd); (try clear hct hc2 hc4 hc6 hc8 hc10 hc12); clear H3 hd; have H3 := n0_; clear n0_; have hct := H3ct H3.out HLn.out; have hc2 := H3.out.1.1.cell 2 (by decide) (by decide); have hc4 := H3.out.1.1.cell 4 (by decide) (by decide); have hc6 := H3.out.1.1.cell 6 (by decide) (by decide); have hc8 := H3.out.1.1.cell 8 (by decide) (by decide); have hc10 := H3.out.1.1.cell 10 (by decide) (by decide); have hc12 := H3.out.1.1.cell 12 (by decide) (by decide)) | (go_at_call 49; (with_reducible refine (markedNotes_nil _).mono ?_); rintro e w' ⟨rfl, hd⟩; have n0_ := Aside0.mk (H3.out.below hd); (try clear hct hc2 hc4 hc6 hc8 hc10 hc12); clear H3 hd; have H3 := n0_; clear n0_; have hct := H3ct H3.out HLn.out; have hc2 := H3.out.1.1.cell 2 (by decide) (by decide); have hc4 := H3.out.1.1.cell 4 (by decide) (by decide); have hc6 := H3.out.1.1.cell 6 (by decide) (by decide); have hc8 := H3.out.1.1.cell 8 (by decide) (by decide); have hc10 := H3.out.1.1.cell 10 (by decide) (by decide); have hc12 := H3.out.1.1.cell 12 (by decide) (by decide)) | ((with_reducible refine gate_callee (f := 50) rfl ?_); (try (refine gate_guard (by rfl) ?_; dsimp only)); refine goesL_ (some 103) rfl rfl Try.func50 (by kernel_rfl) rfl #[.slice none 0 0] rfl (by (try simp only [List.map_toArray, List.map_cons, List.map_nil]); first | done | rfl) ?_; (with_reducible refine (markedItems_nil _).mono ?_); rintro e w' ⟨rfl, hd⟩; refine ⟨_, rfl, ?_⟩; have n0_ := Aside0.mk (H3.out.below hd); (try clear hct hc2 hc4 hc6 hc8 hc10 hc12); clear H3 hd; have H3 := n0_; clear n0_; have hct := H3ct H3.out HLn.out; have hc2 := H3.out.1.1.cell 2 (by decide) (by decide); have hc4 := H3.out.1.1.cell 4 (by decide) (by decide); have hc6 := H3.out.1.1.cell 6 (by decide) (by decide); have hc8 := H3.out.1.1.cell 8 (by decide) (by decide); have hc10 := H3.out.1.1.cell 10 (by decide) (by decide); have hc12 := H3.out.1.1.cell 12 (by decide) (by decide)) | (go_at_call 50; (with_reducible refine (markedItems_nil _).mono ?_); rintro e w' ⟨rfl, hd⟩; have n0_ := Aside0.mk (H3.out.below hd); (try clear hct hc2 hc4 hc6 hc8 hc10 hc12); clear H3 hd; have H3 := n0_; clear n0_; have hct := H3ct H3.out HLn.out; have hc2 := H3.out.1.1.cell 2 (by decide) (by decide); have hc4 := H3.out.1.1.cell 4 (by decide) (by decide); have hc6 := H3.out.1.1.cell 6 (by decide) (by decide); have hc8 := H3.out.1.1.cell 8 (by decide) (by decide); have hc10 := H3.out.1.1.cell 10 (by decide) (by decide); have hc12 := H3.out.1.1.cell 12 (by decide) (by decide)) | ((with_reducible refine gate_callee (f := 50) rfl ?_); (try (refine gate_guard (by rfl) ?_; dsimp only)); refine goesL_ (some 110) rfl rfl Try.func50 (by kernel_rfl) rfl #[.slice none 0 0] rfl (by (try simp only [List.map_toArray, List.map_cons, List.map_nil]); first | done | rfl) ?_; (with_reducible refine (markedItems_nil _).mono ?_); rintro e w' ⟨rfl, hd⟩; refine ⟨_, rfl, ?_⟩; have n0_ := Aside0.mk (H3.out.below hd); (try clear hct hc2 hc4 hc6 hc8 hc10 hc12); clear H3 hd; have H3 := n0_; clear n0_; have hct := H3ct H3.out HLn.out; have hc2 := H3.out.1.1.cell 2 (by decide) (by decide); have hc4 := H3.out.1.1.cell 4 (by decide) (by decide); have hc6 := H3.out.1.1.cell 6 (by decide) (by decide); have hc8 := H3.out.1.1.cell 8 (by decide) (by decide); have hc10 := H3.out.1.1.cell 10 (by decide) (by decide); have hc12 := H3.out.1.1.cell 12 (by decide) (by decide)) | (go_at_call 50; (with_reducible refine (markedItems_nil _).mono ?_); rintro e w' ⟨rfl, hd⟩; have n0_ := Aside0.mk (H3.out.below hd); (try clear hct hc2 hc4 hc6 hc8 hc10 hc12); clear H3 hd; have H3 := n0_; clear n0_; have hct := H3ct H3.out HLn.out; have hc2 := H3.out.1.1.cell 2 (by decide) (by decide); have hc4 := H3.out.1.1.cell 4 (by decide) (by decide); have hc6 := H3.out.1.1.cell 6 (by decide) (by decide); have hc8 := H3.out.1.1.cell 8 (by decide) (by decide); have hc10 := H3.out.1.1.cell 10 (by decide) (by decide); have hc12 := H3.out.1.1.cell 12 (by decide) (by decide)) | ((with_reducible refine gate_callee (f := 51) rfl ?_); (try (refine gate_guard (by rfl) ?_; dsimp only)); refine goesL_ (some 114) rfl rfl Try.func51 (by kernel_rfl) rfl #[.slice none 0 0] rfl (by (try simp only [List.map_toArray, List.map_cons, List.map_nil]); first | done | rfl) ?_; (with_reducible refine (markedCommands_nil _).mono ?_); rintro e w' ⟨rfl, hd⟩; refine ⟨_, rfl, ?_⟩; have n0_ := Aside0.mk (H3.out.below hd); (try clear hct hc2 hc4 hc6 hc8 hc10 hc12); clear H3 hd; have H3 := n0_; clear n0_; have hct := H3ct H3.out HLn.out; have hc2 := H3.out.1.1.cell 2 (by decide) (by decide); have hc4 := H3.out.1.1.cell 4 (by decide) (by decide); have hc6 := H3.out.1.1.cell 6 (by decide) (by decide); have hc8 := H3.out.1.1.cell 8 (by decide) (by decide); have hc10 := H3.out.1.1.cell 10 (by decide) (by decide); have hc12 := H3.out.1.1.cell 12 (by decide) (by decide)) | (go_at_call 51; (with_reducible refine (markedCommands_nil _).mono ?_); rintro e w' ⟨rfl, hd⟩; have n0_ := Aside0.mk (H3.out.below hd); (try clear hct hc2 hc4 hc6 hc8 hc10 hc12); clear H3 hd; have H3 := n0_; clear n0_; have hct := H3ct H3.out HLn.out; have hc2 := H3.out.1.1.cell 2 (by decide) (by decide); have hc4 := H3.out.1.1.cell 4 (by decide) (by decide); have hc6 := H3.out.1.1.cell 6 (by decide) (by decide); have hc8 := H3.out.1.1.cell 8 (by decide) (by decide); have hc10 := H3.out.1.1.cell 10 (by decide) (by decide); have hc12 := H3.out.1.1.cell 12 (by decide) (by decide)) | ((with_reducible refine gate_callee (f := 51) rfl ?_); (try (refine gate_guard (by rfl) ?_; dsimp only)); refine goesL_ (some 121) rfl rfl Try.func51 (by kernel_rfl) rfl #[.slice none 0 0] rfl (by (try simp only [List.map_toArray, List.map_cons, List.map_nil]); first | done | rfl) ?_; (with_reducible refine (markedCommands_nil _).mono ?_); rintro e w' ⟨rfl, hd⟩; refine ⟨_, rfl, ?_⟩; have n0_ := Aside0.mk (H3.out.below hd); (try clear hct hc2 hc4 hc6 hc8 hc10 hc12); clear H3 hd; have H3 := n0_; clear n0_; have hct := H3ct H3.out HLn.out; have hc2 := H3.out.1.1.cell 2 (by decide) (by decide); have hc4 := H3.out.1.1.cell 4 (by decide) (by decide); have hc6 := H3.out.1.1.cell 6 (by decide) (by decide); have hc8 := H3.out.1.1.cell 8 (by decide) (by decide); have hc10 := H3.out.1.1.cell 10 (by decide) (by decide); have hc12 := H3.out.1.1.cell 12 (by decide) (by decide)) | (go_at_call 51; (with_reducible refine (markedCommands_nil _).mono ?_); rintro e w' ⟨rfl, hd⟩; have n0_ := Aside0.mk (H3.out.below hd); (try clear hct hc2 hc4 hc6 hc8 hc10 hc12); clear H3 hd; have H3 := n0_; clear n0_; have hct := H3ct H3.out HLn.out; have hc2 := H3.out.1.1.cell 2 (by decide) (by decide); have hc4 := H3.out.1.1.cell 4 (by decide) (by decide); have hc6 := H3.out.1.1.cell 6 (by decide) (by decide); have hc8 := H3.out.1.1.cell 8 (by decide) (by decide); have hc10 := H3.out.1.1.cell 10 (by decide) (by decide); have hc12 := H3.out.1.1.cell 12 (by decide) (by decide)) | ((with_reducible refine gate_callee (f := 52) rfl ?_); (try (refine gate_guard (by rfl) ?_; dsimp only)); refine goesL_ (some 125) rfl rfl Try.func52 (by kernel_rfl) rfl #[.slice none 0 0] rfl (by (try simp only [List.map_toArray, List.map_cons, List.map_nil]); first | done | rfl) ?_; (with_reducible refine (markedReplies_nil _).mono ?_); rintro e w' ⟨rfl, hd⟩; refine ⟨_, rfl, ?_⟩; have n0_ := Aside0.mk (H3.out.below hd); (try clear hct hc2 hc4 hc6 hc8 hc10 hc12); clear H3 hd; have H3 := n0_; clear n0_; have hct := H3ct H3.out HLn.out; have hc2 := H3.out.1.1.cell 2 (by decide) (by decide); have hc4 := H3.out.1.1.cell 4 (by decide) (by decide); have hc6 := H3.out.1.1.cell 6 (by decide) (by decide); have hc8 := H3.out.1.1.cell 8 (by decide) (by decide); have hc10 := H3.out.1.1.cell 10 (by decide) (by decide); have hc12 := H3.out.1.1.cell 12 (by decide) (by decide)) | (go_at_call 52; (with_reducible refine (markedReplies_nil _).mono ?_); rintro e w' ⟨rfl, hd⟩; have n0_ := Aside0.mk (H3.out.below hd); (try clear hct hc2 hc4 hc6 hc8 hc10 hc12); clear H3 hd; have H3 := n0_; clear n0_; have hct := H3ct H3.out HLn.out; have hc2 := H3.out.1.1.cell 2 (by decide) (by decide); have hc4 := H3.out.1.1.cell 4 (by decide) (by decide); have hc6 := H3.out.1.1.cell 6 (by decide) (by decide); have hc8 := H3.out.1.1.cell 8 (by decide) (by decide); have hc10 := H3.out.1.1.cell 10 (by decide) (by decide); have hc12 := H3.out.1.1.cell 12 (by decide) (by decide)) | ((with_reducible refine gate_callee (f := 52) rfl ?_); (try (refine gate_guard (by rfl) ?_; dsimp only)); refine goesL_ (some 132) rfl rfl Try.func52 (by kernel_rfl) rfl #[.slice none 0 0] rfl (by (try simp only [List.map_toArray, List.map_cons, List.map_nil]); first | done | rfl) ?_; (with_reducible refine (markedReplies_nil _).mono ?_); rintro e w' ⟨rfl, hd⟩; refine ⟨_, rfl, ?_⟩; have n0_ := Aside0.mk (H3.out.below hd); (try clear hct hc2 hc4 hc6 hc8 hc10 hc12); clear H3 hd; have H3 := n0_; clear n0_; have hct := H3ct H3.out HLn.out; have hc2 := H3.out.1.1.cell 2 (by decide) (by decide); have hc4 := H3.out.1.1.cell 4 (by decide) (by decide); have hc6 := H3.out.1.1.cell 6 (by decide) (by decide); have hc8 := H3.out.1.1.cell 8 (by decide) (by decide); have hc10 := H3.out.1.1.cell 10 (by decide) (by decide); have hc12 := H3.out.1.1.cell 12 (by decide) (by decide)) | (go_at_call 52; (with_reducible refine (markedReplies_nil _).mono ?_); rintro e w' ⟨rfl, hd⟩; have n0_ := Aside0.mk (H3.out.below hd); (try clear hct hc2 hc4 hc6 hc8 hc10 hc12); clear H3 hd; have H3 := n0_; clear n0_; have hct := H3ct H3.out HLn.out; have hc2 := H3.out.1.1.cell 2 (by decide) (by decide); have hc4 := H3.out.1.1.cell 4 (by decide) (by decide); have hc6 := H3.out.1.1.cell 6 (by decide) (by decide); have hc8 := H3.out.1.1.cell 8 (by decide) (by decide); have hc10 := H3.out.1.1.cell 10 (by decide) (by decide); have hc12 := H3.out.1.1.cell 12 (by decide) (by decide)))
  go_ret
  exact ⟨rfl, H3.out.2.2.2.2.2.1⟩
end Go.Proofs.Ytoepiofmkjajaaa.P

/- One step of the law: what the Reader answers and what the reference answers. -/
namespace Go.Proofs.Ytoepiofmkjajaaa.P
open Go.RowKit Go.Proofs.YtoepiofmkjajaaaW.PrintWords Go.Proofs.YtoepiofmkjajaaaW.PrintLast Go.Proofs.YtoepiofmkjajaaaW.PrintMore
set_option linter.unusedVariables false
set_option linter.unusedSimpArgs false

theorem fr_ended (n : Nat) : ∀ (s : ByteArray), s.size ≤ n → (B.fr s).2.2 = true → (B.fr s).2.1 = (⟨#[]⟩ : ByteArray) := by
  induction n with
  | zero => intro s hn h; rw [B.fr_short s (by omega)] at h; cases h
  | succ n ih =>
    intro s hn h
    by_cases h2 : s.size < 2
    · rw [B.fr_short s h2] at h; cases h
    · rw [B.fr_of s h2] at h ⊢
      by_cases hf : B.Fits s
      · rw [if_pos hf] at h ⊢
        by_cases hw : s.size < B.fe s
        · rw [if_pos hw] at h; cases h
        · rw [if_neg hw] at h ⊢
          have hl := B.rest_lt s hf h2
          dsimp only at h ⊢
          exact ih (s.extract (B.fe s) s.size) (by omega) h
      · rw [if_neg hf]
theorem step_f (s b : ByteArray) (c : Int) (h : s.size + b.size ≤ 200000) : ∃ (fs : List ByteArray) (rest : ByteArray) (d ok : Bool) (c' : Int), ok = !d ∧ frame_Reader_Feed.f 500000 s false c b = some (fs, ok, rest, d, c') ∧ escutcheonref1_Frames.f 500000 (s ++ b) = some (fs, rest, d) ∧
    fs.length ≤ s.size + b.size ∧ rest.size ≤ s.size + b.size ∧ (d = true → rest = (⟨#[]⟩ : ByteArray)) ∧ escutcheonbook_SameTexts.f 500000 fs fs = some true := by
  obtain ⟨c', hc⟩ := B.feed_f s b c 500000 (by omega) (by omega)
  have hz := B.size_app s b
  have h1 := B.fr_count (s ++ b).size (s ++ b) (Nat.le_refl _)
  have h2 := B.rest_le (s ++ b).size (s ++ b) (Nat.le_refl _)
  exact ⟨_, _, _, _, c', rfl, hc, B.refs_f (s ++ b) (by omega) 500000 (by omega), by omega, by omega, fr_ended (s ++ b).size (s ++ b) (Nat.le_refl _), B.same_f _ (by omega) 500000 (by omega)⟩
set_option maxHeartbeats 2000000 in
set_option maxRecDepth 100000 in
theorem Feed_nil (b : ByteArray) (w : World) : Calls Try.prog 12 #[.pointer none, .string b] w fun e w' => e = .returned (.tuple #[.slice none 0 0, .bool false]) ∧ Below w.heap.size w w' := by
  go_enter Try.func12, Try.ntmps12
  go_wp2
  go_ret2
  exact ⟨rfl, Below.refl _ _⟩
set_option maxHeartbeats 2000000 in
set_option maxRecDepth 100000 in
theorem Dead_nil (w : World) : Calls Try.prog 16 #[.pointer none] w fun e w' => e = .returned (.bool true) ∧ Below w.heap.size w w' := by
  go_enter Try.func16, Try.ntmps16
  go_wp2
  go_ret
  exact ⟨rfl, Below.refl _ _⟩
set_option maxHeartbeats 2000000 in
set_option maxRecDepth 100000 in
theorem Waits_nil (w : World) : Calls Try.prog 14 #[.pointer none] w fun e w' => e = .returned (.int .i64 0) ∧ Below w.heap.size w w' := by
  go_enter Try.func14, Try.ntmps14
  go_wp2
  go_ret
  exact ⟨rfl, Below.refl _ _⟩
theorem IsS34.mv34 {w0 W W' : World} {g : Nat} {f0 : ByteArray} {f1 : Bool} {f2 : Int} (h : IsS34 w0 W g f0 f1 f2) (hm : Mv34 W W') : IsS34 w0 W' g f0 f1 f2 := ⟨(hm g _ 34 h.1 (by decide) (by decide)).trans h.1, h.2⟩
theorem IsS34.bl {w0 W W' : World} {g : Nat} {f0 : ByteArray} {f1 : Bool} {f2 : Int} (h : IsS34 w0 W g f0 f1 f2) (hb : Below W.heap.size W W') : IsS34 w0 W' g f0 f1 f2 := ⟨blk_below h.1 hb, h.2⟩
theorem IsBook.start {w0 W : World} {g : Nat} (N : Nat) (h : W.heap[g]? = some (.cells #[.slice none 0 0, .slice none 0 0, .slice none 0 0, .slice none 0 0, .slice none 0 0, .slice none 0 0, .slice none 0 0, .slice none 0 0, .slice none 0 0, .slice none 0 0, .slice none 0 0, .slice none 0 0, .slice none 0 0, .slice none 0 0] 52 (0, 0))) (hg : w0.heap.size ≤ g) : IsBook w0.heap.size N W g [] :=
  ⟨.slice none 0 0, .slice none 0 0, [], [], h, hg, Kd.R_nil _ _ _ _ _, Kd.R_nil _ _ _ _ _, ⟨rfl, fun i hi => absurd hi (Nat.not_lt_zero i)⟩, ⟨rfl, fun i hi => absurd hi (Nat.not_lt_zero i)⟩, fun i j k hi => absurd hi (Nat.not_lt_zero i), fun i k hi => absurd hi (Nat.not_lt_zero i), fun k hk => by cases hk⟩
/-- What the law knows ahead of each part: left, dead; the Reader's state; the Book's lists. -/
def Small (ls : List (List ByteArray)) (i : Nat) (s s' : ByteArray) (dead : Bool) : Prop := ls.length = i ∧ (∀ x ∈ ls, x.length ≤ 200000) ∧ s.size ≤ 3000 * i ∧ (dead = false → s' = s) ∧ (dead = true → s' = (⟨#[]⟩ : ByteArray))
theorem Small.short {ls : List (List ByteArray)} {i : Nat} {s s' : ByteArray} {dead : Bool} (h : Small ls i s s' dead) (hi : i ≤ 40) : Short ls ∧ ∀ j, (lAt ls j).length ≤ 900000 := by
  refine ⟨⟨by rw [h.1]; omega, fun l hl => by have := h.2.1 l hl; omega⟩, fun j => ?_⟩
  by_cases hj : j < ls.length
  · have e : lAt ls j = ls[j] := by rw [lAt, List.getD_eq_getElem?_getD, List.getElem?_eq_getElem hj]; rfl
    have := h.2.1 ls[j] (List.getElem_mem hj)
    rw [e]; omega
  · rw [lAt_out ls j (by omega)]; exact Nat.zero_le _
theorem Small.next {ls : List (List ByteArray)} {i : Nat} {s s' s1 s1' : ByteArray} {dead dead1 : Bool} {x : List ByteArray} (h : Small ls i s s' dead) (hx : x.length ≤ 200000) (hs : s1.size ≤ 3000 * (i + 1)) (h1 : dead1 = false → s1' = s1) (h2 : dead1 = true → s1' = (⟨#[]⟩ : ByteArray)) : Small (ls ++ [x]) (i + 1) s1 s1' dead1 := by
  refine ⟨by rw [List.length_append, h.1]; rfl, fun y hy => ?_, hs, h1, h2⟩
  rcases List.mem_append.1 hy with hy | hy
  · exact h.2.1 y hy
  · rw [List.mem_singleton.1 hy]; exact hx
end Go.Proofs.Ytoepiofmkjajaaa.P
/- The law FrameTells, walked. -/
namespace Go.Proofs.Ytoepiofmkjajaaa.P
open Go.RowKit Go.Proofs.YtoepiofmkjajaaaW.PrintWords Go.Proofs.YtoepiofmkjajaaaW.PrintLast Go.Proofs.YtoepiofmkjajaaaW.PrintMore
set_option linter.unusedVariables false
set_option linter.unusedSimpArgs false

theorem R_keep34 {W W' : World} {B g : Nat} {ok : Nat → Prop} {cs : Array Value} {v : Value} {l : List ByteArray} (h : Kd.R Kd.string 9 W B ok v l) (hk : KeepBut W W' g none) (hb : W.heap[g]? = some (.cells cs 34 (0, 0))) : Kd.R Kd.string 9 W' B ok v l :=
  R_same h (fun k q cs' hq hc => Mv.keep hk hb k cs' q hc (.inl (by simpa [Kd.string, Kd.scalar] using hq)))
theorem dead_f (s : ByteArray) (d : Bool) (c : Int) : frame_Reader_Dead.f s d c = some (d, s, d, c) := rfl
theorem waits_f (s : ByteArray) (d : Bool) (c : Int) : frame_Reader_Waits.f s d c = some ((s.size : Int), s, d, c) := rfl
set_option maxHeartbeats 16000000 in
set_option maxRecDepth 100000 in
theorem FrameTells.calls (A0 : Option Addr) (c0 : Nat) (l : List ByteArray) (w : World) (hr : Kd.C Kd.string w A0 l.length l) (hc : l.length ≤ c0) :
    Calls Try.prog 6 #[.slice A0 l.length c0] w fun e w' => e = .returned (.bool true) ∧ Below w.heap.size w w' := by
  have hu34 := Try.underlying34
  have hu52 := Try.underlying52
  have HR0 := Aside0.mk hr
  clear hr hc
  have HB := Aside0.mk (Below.refl w.heap.size w)
  have HA := Aside0.mk (Go.Proofs.Ytoepiofmkjajaaa.B.alive_k 40 (Nat.le_refl _))
  go_enter Try.func6, Try.ntmps6
  by_cases h40 : 40 < l.length
  · have e0 : decide (40 < (l.length : Int)) = true := decide_eq_true (by omega)
    have e1 : decide (40 < l.length) = true := decide_eq_true h40
    have e2 := eq_true h40
    clear h40
    go_wp2_with (first | ((with_reducible refine gate_callee (f := 9) rfl ?_); (try (refine gate_guard (by rfl) ?_; dsimp only)); refine goesL_ (some 18) rfl rfl Try.func9 (by kernel_rfl) rfl #[] rfl (by (try simp only [List.map_toArray, List.map_cons, List.map_nil]); first | done | rfl) ?_; (with_reducible refine (escutcheonlaw9_alive.calls 40 true _ HA.out).mono ?_); rintro e w8 ⟨rfl, hb⟩; refine ⟨_, rfl, ?_⟩; have n0_ := Aside0.mk (below_step HB.out hb); clear HB hb; have HB := n0_; clear n0_) | (go_at_call 9; (with_reducible refine (escutcheonlaw9_alive.calls 40 true _ HA.out).mono ?_); rintro e w8 ⟨rfl, hb⟩; have n0_ := Aside0.mk (below_step HB.out hb); clear HB hb; have HB := n0_; clear n0_))
    go_wp2_with (first | ((with_reducible refine gate_callee (f := 9) rfl ?_); (try (refine gate_guard (by rfl) ?_; dsimp only)); refine goesL_ (some 21) rfl rfl Try.func9 (by kernel_rfl) rfl #[] rfl (by (try simp only [List.map_toArray, List.map_cons, List.map_nil]); first | done | rfl) ?_; (with_reducible refine (escutcheonlaw9_alive.calls 40 true _ HA.out).mono ?_); rintro e w8 ⟨rfl, hb⟩; refine ⟨_, rfl, ?_⟩; have n0_ := Aside0.mk (below_step HB.out hb); clear HB hb; have HB := n0_; clear n0_) | (go_at_call 9; (with_reducible refine (escutcheonlaw9_alive.calls 40 true _ HA.out).mono ?_); rintro e w8 ⟨rfl, hb⟩; have n0_ := Aside0.mk (below_step HB.out hb); clear HB hb; have HB := n0_; clear n0_))
    go_ret
    exact ⟨rfl, HB.out⟩
  · have e0 : decide (40 < (l.length : Int)) = false := decide_eq_false (by omega)
    have e1 : decide (40 < l.length) = false := decide_eq_false h40
    have e2 := eq_false h40
    have HL40 := Aside0.mk (show l.length ≤ 40 by omega)
    clear h40
    go_wp2_with (first | ((with_reducible refine gate_callee (f := 9) rfl ?_); (try (refine gate_guard (by rfl) ?_; dsimp only)); refine goesL_ (some 18) rfl rfl Try.func9 (by kernel_rfl) rfl #[] rfl (by (try simp only [List.map_toArray, List.map_cons, List.map_nil]); first | done | rfl) ?_; (with_reducible refine (escutcheonlaw9_alive.calls 40 true _ HA.out).mono ?_); rintro e w8 ⟨rfl, hb⟩; refine ⟨_, rfl, ?_⟩; have n0_ := Aside0.mk (below_step HB.out hb); clear HB hb; have HB := n0_; clear n0_) | (go_at_call 9; (with_reducible refine (escutcheonlaw9_alive.calls 40 true _ HA.out).mono ?_); rintro e w8 ⟨rfl, hb⟩; have n0_ := Aside0.mk (below_step HB.out hb); clear HB hb; have HB := n0_; clear n0_) | ((with_reducible refine gate_dst (N := 23) rfl ?_); (try (refine gate_guard (by rfl) ?_; dsimp only)); refine box_event ?hg (N := 23) ?hd (cs := #[.string (⟨#[]⟩ : ByteArray), .bool false, .int .i64 0]) (t := 34) ?hr ?_; (case hd => rfl); (case hg => rfl); (case hr => first | (go_simp; done) | (go_simp; rfl)); intro gr hg w12 hbox hb; have HI := Aside0.mk (show IsS34 w w12 gr (⟨#[]⟩ : ByteArray) false 0 from ⟨hbox, by rw [hg]; exact HB.out.size⟩); have n0_ := Aside0.mk (below_step HB.out hb); clear HB hb hbox hg; have HB := n0_; clear n0_) | ((with_reducible refine gate_dst (N := 25) rfl ?_); (try (refine gate_guard (by rfl) ?_; dsimp only)); refine box_event ?hg (N := 25) ?hd (cs := #[.slice none 0 0, .slice none 0 0, .slice none 0 0, .slice none 0 0, .slice none 0 0, .slice none 0 0, .slice none 0 0, .slice none 0 0, .slice none 0 0, .slice none 0 0, .slice none 0 0, .slice none 0 0, .slice none 0 0, .slice none 0 0]) (t := 52) ?hr ?_; (case hd => rfl); (case hg => rfl); (case hr => first | (go_simp; done) | (go_simp; rfl)); intro gk hg w13 hbox hb; have HK := Aside0.mk (IsBook.start (w0 := w) w13.heap.size hbox (by rw [hg]; exact HB.out.size)); have n1_ := Aside0.mk (HI.out.bl hb); have n0_ := Aside0.mk (below_step HB.out hb); clear HB HI hb hbox hg; have HB := n0_; have HI := n1_; clear n0_ n1_))
    clear e0 e1 e2
    go_loopg [4, 5, 7] (l.length + 1) (fun kq v4 v5 v7 wr => ∃ (i : Nat) (s s' : ByteArray) (dead : Bool) (c1 : Int) (ls : List (List ByteArray)), v4 = .string s ∧ v5 = .bool dead ∧ v7 = .int .i64 (i : Int) ∧ Aside0 (kq + i = l.length + 1) ∧ Aside0 (i ≤ l.length) ∧ Aside0 (IsS34 w wr gr s' dead c1) ∧ Aside0 (IsBook w.heap.size wr.heap.size wr gk ls) ∧ Aside0 (Below w.heap.size w wr) ∧ Aside0 (Small ls i s s' dead))
    case atStart => exact ⟨0, ⟨#[]⟩, ⟨#[]⟩, false, 0, [], rfl, rfl, rfl, ⟨by omega⟩, ⟨Nat.zero_le _⟩, HI, HK, HB, ⟨⟨rfl, fun x hx => (by cases hx), Nat.zero_le _, fun _ => rfl, fun _ => rfl⟩⟩⟩
    case round =>
      clear HI HK HB
      obtain ⟨i, s, s', dead, c1, ls, rfl, rfl, rfl, HG, HI0, HI, HK, HB, HSL⟩ := hrel
      cases gk with
      | zero => exact absurd HG.out (by have := HI0.out; omega)
      | succ k1 =>
        by_cases hi : i < l.length
        · have d0 : decide ((i : Int) < (l.length : Int)) = true := decide_eq_true (by omega)
          have d1 : decide (0 ≤ (i : Int)) = true := decide_eq_true (by omega)
          have d2 : decide (i < l.length) = true := decide_eq_true hi
          have p1 := eq_true (show 0 ≤ (i : Int) by omega)
          have q1 := eq_true (show (i : Int) < (l.length : Int) by omega)
          have q2 := eq_true hi
          obtain ⟨ad, e, hx0⟩ := str_at HR0.out i hi
          subst e
          obtain ⟨b, hb⟩ : ∃ b, b = mAt l i := ⟨_, rfl⟩
          rw [← hb] at hx0
          have HX0 := Aside0.mk hx0
          have HW := Aside0.mk (w64_succ (i := i) (by have := HL40.out; omega))
          have HLS := Aside0.mk (show ls.length < 250 by have := HSL.out.1; have := HL40.out; omega)
          clear hx0 hb hi
          have hx := (HB.out.cell (World.block_lt_of_cell? w _ HX0.out)).trans HX0.out
          by_cases hbig : 3000 < b.size
          · have g0 : decide (3000 < (b.size : Int)) = true := decide_eq_true (by omega)
            have g1 : decide (3000 < b.size) = true := decide_eq_true hbig
            have g2 := eq_true hbig
            clear hbig
            go_wp2
            go_ret
            exact ⟨rfl, HB.out⟩
          · have g0 : decide (3000 < (b.size : Int)) = false := decide_eq_false (by omega)
            have g1 : decide (3000 < b.size) = false := decide_eq_false hbig
            have g2 := eq_false hbig
            have HBS := Aside0.mk (show b.size ≤ 3000 by omega)
            clear hbig
            cases dead
            case true =>
              have hz : s'.size = 0 := by rw [HSL.out.2.2.2.2 rfl]; rfl
              obtain ⟨fs, hfs⟩ : ∃ fs : List ByteArray, fs = [] := ⟨[], rfl⟩
              obtain ⟨c2, hc2⟩ : ∃ c2, frame_Reader_Feed.f 500000 s' true c1 b = some (fs, false, s', true, c2) := ⟨c1, by rw [hfs]; exact Go.Proofs.Ytoepiofmkjajaaa.B.feed_dead _ _ _ _⟩
              have HF := Aside0.mk hc2
              have hl0 : fs.length = 0 := by rw [hfs]; rfl
              have HLR := Aside0.mk (show fs.length < 1000000 by omega)
              have l1 : decide (0 < (fs.length : Int)) = false := decide_eq_false (by omega)
              have l2 : decide (0 < fs.length) = false := decide_eq_false (by omega)
              have HZ := Aside0.mk hz
              have HLZ := Aside0.mk hl0
              clear hfs hc2 hl0
              go_wp2_with (first | ((with_reducible refine gate_callee (f := 12) rfl ?_); (try (refine gate_guard (by rfl) ?_; dsimp only)); refine goesL_ (some 44) rfl rfl Try.func12 (by kernel_rfl) rfl #[.pointer (some ⟨gr, 0, none⟩), .string b] rfl (by (try simp only [List.map_toArray, List.map_cons, List.map_nil]); first | done | rfl) ?_; (with_reducible refine (frame_Reader_Feed.calls 500000 gr s' true c1 b fs false s' true c2 w _ HI.out HB.out HF.out).mono ?_); rintro e w14 ⟨v0, rfl, ho, hi, hb, hk⟩; refine ⟨_, rfl, ?_⟩; have HK2 := Aside0.mk (HK.out.mv (Mv.keep hk HI.out.1)); have HN := Aside0.mk HB.out.size; obtain ⟨Aa, ca, ea⟩ := Kd.R_slice ho; subst ea; have HR2 := Aside0.mk ho; have HI2 := Aside0.mk hi; have HB2 := Aside0.mk hb; clear ho hi hb hk HK HI HB hx) | (go_at_call 12; (with_reducible refine (frame_Reader_Feed.calls 500000 gr s' true c1 b fs false s' true c2 w _ HI.out HB.out HF.out).mono ?_); rintro e w14 ⟨v0, rfl, ho, hi, hb, hk⟩; have HK2 := Aside0.mk (HK.out.mv (Mv.keep hk HI.out.1)); have HN := Aside0.mk HB.out.size; obtain ⟨Aa, ca, ea⟩ := Kd.R_slice ho; subst ea; have HR2 := Aside0.mk ho; have HI2 := Aside0.mk hi; have HB2 := Aside0.mk hb; clear ho hi hb hk HK HI HB hx) | ((with_reducible refine gate_callee (f := 15) rfl ?_); (try (refine gate_guard (by rfl) ?_; dsimp only)); refine goesL_ (some 49) rfl rfl Try.func15 (by kernel_rfl) rfl #[.pointer (some ⟨gk, 0, none⟩), .slice Aa fs.length ca] rfl (by (try simp only [List.map_toArray, List.map_cons, List.map_nil]); first | done | rfl) ?_; (with_reducible refine (Book_Texts.calls _ gk ls Aa ca fs w _ HK2.out HB2.out HR2.out HN.out HLS.out HLR.out).mono ?_); rintro e w15 ⟨rfl, hbk, hb, hm⟩; refine ⟨_, rfl, ?_⟩; have HK := Aside0.mk hbk; have HB := Aside0.mk hb; have HI := Aside0.mk (HI2.out.mv34 hm); have HR := Aside0.mk (Mv34.row HR2.out hm); clear hbk hb hm HK2 HB2 HI2 HR2 HN; have hx := (HB.out.cell (World.block_lt_of_cell? w _ HX0.out)).trans HX0.out) | (go_at_call 15; (with_reducible refine (Book_Texts.calls _ gk ls Aa ca fs w _ HK2.out HB2.out HR2.out HN.out HLS.out HLR.out).mono ?_); rintro e w15 ⟨rfl, hbk, hb, hm⟩; have HK := Aside0.mk hbk; have HB := Aside0.mk hb; have HI := Aside0.mk (HI2.out.mv34 hm); have HR := Aside0.mk (Mv34.row HR2.out hm); clear hbk hb hm HK2 HB2 HI2 HR2 HN; have hx := (HB.out.cell (World.block_lt_of_cell? w _ HX0.out)).trans HX0.out) | ((with_reducible refine gate_callee (f := 16) rfl ?_); (try (refine gate_guard (by rfl) ?_; dsimp only)); refine goesL_ (some 59) rfl rfl Try.func16 (by kernel_rfl) rfl #[.pointer (some ⟨gr, 0, none⟩)] rfl (by (try simp only [List.map_toArray, List.map_cons, List.map_nil]); first | done | rfl) ?_; (with_reducible refine (frame_Reader_Dead.calls gr s' true c2 true s' true c2 w _ HI.out HB.out (dead_f _ _ _)).mono ?_); rintro e w16 ⟨rfl, hi, hb, hk⟩; refine ⟨_, rfl, ?_⟩; have n0_ := Aside0.mk ((HK.out.mv (Mv.keep hk HI.out.1)).under hk.1); have n1_ := Aside0.mk (R_keep34 HR.out hk HI.out.1); clear HK HR HI HB; have HK := n0_; have HR := n1_; have HI := Aside0.mk hi; have HB := Aside0.mk hb; clear n0_ n1_ hi hb hk; (try clear hx)) | (go_at_call 16; (with_reducible refine (frame_Reader_Dead.calls gr s' true c2 true s' true c2 w _ HI.out HB.out (dead_f _ _ _)).mono ?_); rintro e w16 ⟨rfl, hi, hb, hk⟩; have n0_ := Aside0.mk ((HK.out.mv (Mv.keep hk HI.out.1)).under hk.1); have n1_ := Aside0.mk (R_keep34 HR.out hk HI.out.1); clear HK HR HI HB; have HK := n0_; have HR := n1_; have HI := Aside0.mk hi; have HB := Aside0.mk hb; clear n0_ n1_ hi hb hk; (try clear hx)) | ((with_reducible refine gate_callee (f := 14) rfl ?_); (try (refine gate_guard (by rfl) ?_; dsimp only)); refine goesL_ (some 64) rfl rfl Try.func14 (by kernel_rfl) rfl #[.pointer (some ⟨gr, 0, none⟩)] rfl (by (try simp only [List.map_toArray, List.map_cons, List.map_nil]); first | done | rfl) ?_; (with_reducible refine (frame_Reader_Waits.calls gr s' true c2 (s'.size : Int) s' true c2 w _ HI.out HB.out (waits_f _ _ _)).mono ?_); rintro e w17 ⟨rfl, hi, hb, hk⟩; refine ⟨_, rfl, ?_⟩; have n0_ := Aside0.mk ((HK.out.mv (Mv.keep hk HI.out.1)).under hk.1); have n1_ := Aside0.mk (R_keep34 HR.out hk HI.out.1); clear HK HR HI HB; have HK := n0_; have HR := n1_; have HI := Aside0.mk hi; have HB := Aside0.mk hb; clear n0_ n1_ hi hb hk; (try clear hx)) | (go_at_call 14; (with_reducible refine (frame_Reader_Waits.calls gr s' true c2 (s'.size : Int) s' true c2 w _ HI.out HB.out (waits_f _ _ _)).mono ?_); rintro e w17 ⟨rfl, hi, hb, hk⟩; have n0_ := Aside0.mk ((HK.out.mv (Mv.keep hk HI.out.1)).under hk.1); have n1_ := Aside0.mk (R_keep34 HR.out hk HI.out.1); clear HK HR HI HB; have HK := n0_; have HR := n1_; have HI := Aside0.mk hi; have HB := Aside0.mk hb; clear n0_ n1_ hi hb hk; (try clear hx)))
              rw [HW.out]
              go_roundg k1
              case measure => omega
              case rel => exact ⟨i + 1, s, s', true, c2, ls ++ [fs], rfl, rfl, rfl, ⟨by have := HG.out; omega⟩, ⟨by have := of_eq_true q2; omega⟩, HI, HK, HB, ⟨HSL.out.next (by have := HLZ.out; omega) (by have := HSL.out.2.2.1; omega) (fun h => by cases h) HSL.out.2.2.2.2⟩⟩
            case false =>
              obtain rfl : s' = s := HSL.out.2.2.2.1 rfl
              obtain ⟨fs, rest, d, ok, c2, hok, hf, hfr, hl1, hl2, hd0, hsm⟩ := step_f s' b c1 (by have := HSL.out.2.2.1; have := HBS.out; have := HL40.out; have := of_eq_true q2; omega)
              have HLR := Aside0.mk (show fs.length < 1000000 by have := HSL.out.2.2.1; have := HBS.out; have := HL40.out; have := of_eq_true q2; omega)
              have HFL := Aside0.mk (show fs.length ≤ 200000 by have := HSL.out.2.2.1; have := HBS.out; have := HL40.out; have := of_eq_true q2; omega)
              have HRS := Aside0.mk (show rest.size ≤ 3000 * (i + 1) by have := HSL.out.2.2.1; have := HBS.out; omega)
              have HD0 := Aside0.mk hd0
              have HSm := Aside0.mk hsm
              clear hl1 hl2 hd0 hsm
              have hsz : s'.size + b.size ≤ 9223372036854775807 := by have := HSL.out.2.2.1; have := HBS.out; have := HL40.out; have := of_eq_true q2; omega
              cases d
              case false =>
                obtain rfl : ok = true := hok
                have HF := Aside0.mk hf
                have HFr := Aside0.mk hfr
                clear hf hfr
                go_wp2_with (first | ((with_reducible refine gate_callee (f := 12) rfl ?_); (try (refine gate_guard (by rfl) ?_; dsimp only)); refine goesL_ (some 44) rfl rfl Try.func12 (by kernel_rfl) rfl #[.pointer (some ⟨gr, 0, none⟩), .string b] rfl (by (try simp only [List.map_toArray, List.map_cons, List.map_nil]); first | done | rfl) ?_; (with_reducible refine (frame_Reader_Feed.calls 500000 gr s' false c1 b fs true rest false c2 w _ HI.out HB.out HF.out).mono ?_); rintro e w14 ⟨v0, rfl, ho, hi, hb, hk⟩; refine ⟨_, rfl, ?_⟩; have HK2 := Aside0.mk (HK.out.mv (Mv.keep hk HI.out.1)); have HN := Aside0.mk HB.out.size; obtain ⟨Aa, ca, ea⟩ := Kd.R_slice ho; subst ea; have HR2 := Aside0.mk ho; have HI2 := Aside0.mk hi; have HB2 := Aside0.mk hb; clear ho hi hb hk HK HI HB hx) | (go_at_call 12; (with_reducible refine (frame_Reader_Feed.calls 500000 gr s' false c1 b fs true rest false c2 w _ HI.out HB.out HF.out).mono ?_); rintro e w14 ⟨v0, rfl, ho, hi, hb, hk⟩; have HK2 := Aside0.mk (HK.out.mv (Mv.keep hk HI.out.1)); have HN := Aside0.mk HB.out.size; obtain ⟨Aa, ca, ea⟩ := Kd.R_slice ho; subst ea; have HR2 := Aside0.mk ho; have HI2 := Aside0.mk hi; have HB2 := Aside0.mk hb; clear ho hi hb hk HK HI HB hx) | ((with_reducible refine gate_callee (f := 15) rfl ?_); (try (refine gate_guard (by rfl) ?_; dsimp only)); refine goesL_ (some 49) rfl rfl Try.func15 (by kernel_rfl) rfl #[.pointer (some ⟨gk, 0, none⟩), .slice Aa fs.length ca] rfl (by (try simp only [List.map_toArray, List.map_cons, List.map_nil]); first | done | rfl) ?_; (with_reducible refine (Book_Texts.calls _ gk ls Aa ca fs w _ HK2.out HB2.out HR2.out HN.out HLS.out HLR.out).mono ?_); rintro e w15 ⟨rfl, hbk, hb, hm⟩; refine ⟨_, rfl, ?_⟩; have HK := Aside0.mk hbk; have HB := Aside0.mk hb; have HI := Aside0.mk (HI2.out.mv34 hm); have HR := Aside0.mk (Mv34.row HR2.out hm); clear hbk hb hm HK2 HB2 HI2 HR2 HN; have hx := (HB.out.cell (World.block_lt_of_cell? w _ HX0.out)).trans HX0.out) | (go_at_call 15; (with_reducible refine (Book_Texts.calls _ gk ls Aa ca fs w _ HK2.out HB2.out HR2.out HN.out HLS.out HLR.out).mono ?_); rintro e w15 ⟨rfl, hbk, hb, hm⟩; have HK := Aside0.mk hbk; have HB := Aside0.mk hb; have HI := Aside0.mk (HI2.out.mv34 hm); have HR := Aside0.mk (Mv34.row HR2.out hm); clear hbk hb hm HK2 HB2 HI2 HR2 HN; have hx := (HB.out.cell (World.block_lt_of_cell? w _ HX0.out)).trans HX0.out) | ((with_reducible refine gate_callee (f := 17) rfl ?_); (try (refine gate_guard (by rfl) ?_; dsimp only)); refine goesL_ (some 74) rfl rfl Try.func17 (by kernel_rfl) rfl #[.string (s' ++ b)] rfl (by (try simp only [List.map_toArray, List.map_cons, List.map_nil]); first | done | rfl) ?_; (with_reducible refine (escutcheonref1_Frames.calls 500000 (s' ++ b) fs rest false _ HFr.out).mono ?_); rintro e w18 ⟨v0, rfl, ho, hb⟩; refine ⟨_, rfl, ?_⟩; obtain ⟨Aw, cw, ew⟩ := Kd.R_slice ho; subst ew; have n0_ := Aside0.mk ((HK.out.mv (Mv.below hb)).under hb.size); have n2_ := Aside0.mk (Kd.R_below HR.out hb); have n3_ := Aside0.mk (HI.out.bl hb); have n4_ := Aside0.mk (below_step HB.out hb); have HRW := Aside0.mk ho; clear HK HR HI HB ho hb hx; have HK := n0_; have HR := n2_; have HI := n3_; have HB := n4_; clear n0_ n2_ n3_ n4_) | (go_at_call 17; (with_reducible refine (escutcheonref1_Frames.calls 500000 (s' ++ b) fs rest false _ HFr.out).mono ?_); rintro e w18 ⟨v0, rfl, ho, hb⟩; obtain ⟨Aw, cw, ew⟩ := Kd.R_slice ho; subst ew; have n0_ := Aside0.mk ((HK.out.mv (Mv.below hb)).under hb.size); have n2_ := Aside0.mk (Kd.R_below HR.out hb); have n3_ := Aside0.mk (HI.out.bl hb); have n4_ := Aside0.mk (below_step HB.out hb); have HRW := Aside0.mk ho; clear HK HR HI HB ho hb hx; have HK := n0_; have HR := n2_; have HI := n3_; have HB := n4_; clear n0_ n2_ n3_ n4_) | ((with_reducible refine gate_callee (f := 13) rfl ?_); (try (refine gate_guard (by rfl) ?_; dsimp only)); refine goesL_ (some 84) rfl rfl Try.func13 (by kernel_rfl) rfl #[.slice Aa fs.length ca, .slice Aw fs.length cw] rfl (by (try simp only [List.map_toArray, List.map_cons, List.map_nil]); first | done | rfl) ?_; (with_reducible refine (escutcheonbook_SameTexts.calls 500000 Aa ca fs Aw cw fs true _ (Kd.R_reads' HR.out).2.2 (Kd.R_reads' HR.out).2.1 (Kd.R_reads' HRW.out).2.2 (Kd.R_reads' HRW.out).2.1 HSm.out).mono ?_); rintro e w19 ⟨rfl, hd⟩; refine ⟨_, rfl, ?_⟩; have hb := drawn_bel hd; have n0_ := Aside0.mk ((HK.out.mv (Mv.below hb)).under hb.size); have n2_ := Aside0.mk (Kd.R_below HR.out hb); have n3_ := Aside0.mk (HI.out.bl hb); have n4_ := Aside0.mk (below_step HB.out hb); clear HK HR HI HB hb hd HRW; have HK := n0_; have HR := n2_; have HI := n3_; have HB := n4_; clear n0_ n2_ n3_ n4_) | (go_at_call 13; (with_reducible refine (escutcheonbook_SameTexts.calls 500000 Aa ca fs Aw cw fs true _ (Kd.R_reads' HR.out).2.2 (Kd.R_reads' HR.out).2.1 (Kd.R_reads' HRW.out).2.2 (Kd.R_reads' HRW.out).2.1 HSm.out).mono ?_); rintro e w19 ⟨rfl, hd⟩; have hb := drawn_bel hd; have n0_ := Aside0.mk ((HK.out.mv (Mv.below hb)).under hb.size); have n2_ := Aside0.mk (Kd.R_below HR.out hb); have n3_ := Aside0.mk (HI.out.bl hb); have n4_ := Aside0.mk (below_step HB.out hb); clear HK HR HI HB hb hd HRW; have HK := n0_; have HR := n2_; have HI := n3_; have HB := n4_; clear n0_ n2_ n3_ n4_) | ((with_reducible refine gate_callee (f := 16) rfl ?_); (try (refine gate_guard (by rfl) ?_; dsimp only)); refine goesL_ (some 89) rfl rfl Try.func16 (by kernel_rfl) rfl #[.pointer (some ⟨gr, 0, none⟩)] rfl (by (try simp only [List.map_toArray, List.map_cons, List.map_nil]); first | done | rfl) ?_; (with_reducible refine (frame_Reader_Dead.calls gr rest false c2 false rest false c2 w _ HI.out HB.out (dead_f _ _ _)).mono ?_); rintro e w16 ⟨rfl, hi, hb, hk⟩; refine ⟨_, rfl, ?_⟩; have n0_ := Aside0.mk ((HK.out.mv (Mv.keep hk HI.out.1)).under hk.1); have n1_ := Aside0.mk (R_keep34 HR.out hk HI.out.1); clear HK HR HI HB; have HK := n0_; have HR := n1_; have HI := Aside0.mk hi; have HB := Aside0.mk hb; clear n0_ n1_ hi hb hk; (try clear hx)) | (go_at_call 16; (with_reducible refine (frame_Reader_Dead.calls gr rest false c2 false rest false c2 w _ HI.out HB.out (dead_f _ _ _)).mono ?_); rintro e w16 ⟨rfl, hi, hb, hk⟩; have n0_ := Aside0.mk ((HK.out.mv (Mv.keep hk HI.out.1)).under hk.1); have n1_ := Aside0.mk (R_keep34 HR.out hk HI.out.1); clear HK HR HI HB; have HK := n0_; have HR := n1_; have HI := Aside0.mk hi; have HB := Aside0.mk hb; clear n0_ n1_ hi hb hk; (try clear hx)) | ((with_reducible refine gate_callee (f := 14) rfl ?_); (try (refine gate_guard (by rfl) ?_; dsimp only)); refine goesL_ (some 95) rfl rfl Try.func14 (by kernel_rfl) rfl #[.pointer (some ⟨gr, 0, none⟩)] rfl (by (try simp only [List.map_toArray, List.map_cons, List.map_nil]); first | done | rfl) ?_; (with_reducible refine (frame_Reader_Waits.calls gr rest false c2 (rest.size : Int) rest false c2 w _ HI.out HB.out (waits_f _ _ _)).mono ?_); rintro e w17 ⟨rfl, hi, hb, hk⟩; refine ⟨_, rfl, ?_⟩; have n0_ := Aside0.mk ((HK.out.mv (Mv.keep hk HI.out.1)).under hk.1); have n1_ := Aside0.mk (R_keep34 HR.out hk HI.out.1); clear HK HR HI HB; have HK := n0_; have HR := n1_; have HI := Aside0.mk hi; have HB := Aside0.mk hb; clear n0_ n1_ hi hb hk; (try clear hx)) | (go_at_call 14; (with_reducible refine (frame_Reader_Waits.calls gr rest false c2 (rest.size : Int) rest false c2 w _ HI.out HB.out (waits_f _ _ _)).mono ?_); rintro e w17 ⟨rfl, hi, hb, hk⟩; have n0_ := Aside0.mk ((HK.out.mv (Mv.keep hk HI.out.1)).under hk.1); have n1_ := Aside0.mk (R_keep34 HR.out hk HI.out.1); clear HK HR HI HB; have HK := n0_; have HR := n1_; have HI := Aside0.mk hi; have HB := Aside0.mk hb; clear n0_ n1_ hi hb hk; (try clear hx)))
                rw [HW.out]
                go_roundg k1
                case measure => omega
                case rel => exact ⟨i + 1, rest, rest, false, c2, ls ++ [fs], rfl, rfl, rfl, ⟨by have := HG.out; omega⟩, ⟨by have := of_eq_true q2; omega⟩, HI, HK, HB, ⟨HSL.out.next HFL.out HRS.out (fun _ => rfl) (by first | exact HD0.out | exact fun _ => HD0.out trivial)⟩⟩
              case true =>
                obtain rfl : ok = false := hok
                have HF := Aside0.mk hf
                have HFr := Aside0.mk hfr
                clear hf hfr
                go_wp2_with (first | ((with_reducible refine gate_callee (f := 12) rfl ?_); (try (refine gate_guard (by rfl) ?_; dsimp only)); refine goesL_ (some 44) rfl rfl Try.func12 (by kernel_rfl) rfl #[.pointer (some ⟨gr, 0, none⟩), .string b] rfl (by (try simp only [List.map_toArray, List.map_cons, List.map_nil]); first | done | rfl) ?_; (with_reducible refine (frame_Reader_Feed.calls 500000 gr s' false c1 b fs false rest true c2 w _ HI.out HB.out HF.out).mono ?_); rintro e w14 ⟨v0, rfl, ho, hi, hb, hk⟩; refine ⟨_, rfl, ?_⟩; have HK2 := Aside0.mk (HK.out.mv (Mv.keep hk HI.out.1)); have HN := Aside0.mk HB.out.size; obtain ⟨Aa, ca, ea⟩ := Kd.R_slice ho; subst ea; have HR2 := Aside0.mk ho; have HI2 := Aside0.mk hi; have HB2 := Aside0.mk hb; clear ho hi hb hk HK HI HB hx) | (go_at_call 12; (with_reducible refine (frame_Reader_Feed.calls 500000 gr s' false c1 b fs false rest true c2 w _ HI.out HB.out HF.out).mono ?_); rintro e w14 ⟨v0, rfl, ho, hi, hb, hk⟩; have HK2 := Aside0.mk (HK.out.mv (Mv.keep hk HI.out.1)); have HN := Aside0.mk HB.out.size; obtain ⟨Aa, ca, ea⟩ := Kd.R_slice ho; subst ea; have HR2 := Aside0.mk ho; have HI2 := Aside0.mk hi; have HB2 := Aside0.mk hb; clear ho hi hb hk HK HI HB hx) | ((with_reducible refine gate_callee (f := 15) rfl ?_); (try (refine gate_guard (by rfl) ?_; dsimp only)); refine goesL_ (some 49) rfl rfl Try.func15 (by kernel_rfl) rfl #[.pointer (some ⟨gk, 0, none⟩), .slice Aa fs.length ca] rfl (by (try simp only [List.map_toArray, List.map_cons, List.map_nil]); first | done | rfl) ?_; (with_reducible refine (Book_Texts.calls _ gk ls Aa ca fs w _ HK2.out HB2.out HR2.out HN.out HLS.out HLR.out).mono ?_); rintro e w15 ⟨rfl, hbk, hb, hm⟩; refine ⟨_, rfl, ?_⟩; have HK := Aside0.mk hbk; have HB := Aside0.mk hb; have HI := Aside0.mk (HI2.out.mv34 hm); have HR := Aside0.mk (Mv34.row HR2.out hm); clear hbk hb hm HK2 HB2 HI2 HR2 HN; have hx := (HB.out.cell (World.block_lt_of_cell? w _ HX0.out)).trans HX0.out) | (go_at_call 15; (with_reducible refine (Book_Texts.calls _ gk ls Aa ca fs w _ HK2.out HB2.out HR2.out HN.out HLS.out HLR.out).mono ?_); rintro e w15 ⟨rfl, hbk, hb, hm⟩; have HK := Aside0.mk hbk; have HB := Aside0.mk hb; have HI := Aside0.mk (HI2.out.mv34 hm); have HR := Aside0.mk (Mv34.row HR2.out hm); clear hbk hb hm HK2 HB2 HI2 HR2 HN; have hx := (HB.out.cell (World.block_lt_of_cell? w _ HX0.out)).trans HX0.out) | ((with_reducible refine gate_callee (f := 17) rfl ?_); (try (refine gate_guard (by rfl) ?_; dsimp only)); refine goesL_ (some 74) rfl rfl Try.func17 (by kernel_rfl) rfl #[.string (s' ++ b)] rfl (by (try simp only [List.map_toArray, List.map_cons, List.map_nil]); first | done | rfl) ?_; (with_reducible refine (escutcheonref1_Frames.calls 500000 (s' ++ b) fs rest true _ HFr.out).mono ?_); rintro e w18 ⟨v0, rfl, ho, hb⟩; refine ⟨_, rfl, ?_⟩; obtain ⟨Aw, cw, ew⟩ := Kd.R_slice ho; subst ew; have n0_ := Aside0.mk ((HK.out.mv (Mv.below hb)).under hb.size); have n2_ := Aside0.mk (Kd.R_below HR.out hb); have n3_ := Aside0.mk (HI.out.bl hb); have n4_ := Aside0.mk (below_step HB.out hb); have HRW := Aside0.mk ho; clear HK HR HI HB ho hb hx; have HK := n0_; have HR := n2_; have HI := n3_; have HB := n4_; clear n0_ n2_ n3_ n4_) | (go_at_call 17; (with_reducible refine (escutcheonref1_Frames.calls 500000 (s' ++ b) fs rest true _ HFr.out).mono ?_); rintro e w18 ⟨v0, rfl, ho, hb⟩; obtain ⟨Aw, cw, ew⟩ := Kd.R_slice ho; subst ew; have n0_ := Aside0.mk ((HK.out.mv (Mv.below hb)).under hb.size); have n2_ := Aside0.mk (Kd.R_below HR.out hb); have n3_ := Aside0.mk (HI.out.bl hb); have n4_ := Aside0.mk (below_step HB.out hb); have HRW := Aside0.mk ho; clear HK HR HI HB ho hb hx; have HK := n0_; have HR := n2_; have HI := n3_; have HB := n4_; clear n0_ n2_ n3_ n4_) | ((with_reducible refine gate_callee (f := 13) rfl ?_); (try (refine gate_guard (by rfl) ?_; dsimp only)); refine goesL_ (some 84) rfl rfl Try.func13 (by kernel_rfl) rfl #[.slice Aa fs.length ca, .slice Aw fs.length cw] rfl (by (try simp only [List.map_toArray, List.map_cons, List.map_nil]); first | done | rfl) ?_; (with_reducible refine (escutcheonbook_SameTexts.calls 500000 Aa ca fs Aw cw fs true _ (Kd.R_reads' HR.out).2.2 (Kd.R_reads' HR.out).2.1 (Kd.R_reads' HRW.out).2.2 (Kd.R_reads' HRW.out).2.1 HSm.out).mono ?_); rintro e w19 ⟨rfl, hd⟩; refine ⟨_, rfl, ?_⟩; have hb := drawn_bel hd; have n0_ := Aside0.mk ((HK.out.mv (Mv.below hb)).under hb.size); have n2_ := Aside0.mk (Kd.R_below HR.out hb); have n3_ := Aside0.mk (HI.out.bl hb); have n4_ := Aside0.mk (below_step HB.out hb); clear HK HR HI HB hb hd HRW; have HK := n0_; have HR := n2_; have HI := n3_; have HB := n4_; clear n0_ n2_ n3_ n4_) | (go_at_call 13; (with_reducible refine (escutcheonbook_SameTexts.calls 500000 Aa ca fs Aw cw fs true _ (Kd.R_reads' HR.out).2.2 (Kd.R_reads' HR.out).2.1 (Kd.R_reads' HRW.out).2.2 (Kd.R_reads' HRW.out).2.1 HSm.out).mono ?_); rintro e w19 ⟨rfl, hd⟩; have hb := drawn_bel hd; have n0_ := Aside0.mk ((HK.out.mv (Mv.below hb)).under hb.size); have n2_ := Aside0.mk (Kd.R_below HR.out hb); have n3_ := Aside0.mk (HI.out.bl hb); have n4_ := Aside0.mk (below_step HB.out hb); clear HK HR HI HB hb hd HRW; have HK := n0_; have HR := n2_; have HI := n3_; have HB := n4_; clear n0_ n2_ n3_ n4_) | ((with_reducible refine gate_callee (f := 16) rfl ?_); (try (refine gate_guard (by rfl) ?_; dsimp only)); refine goesL_ (some 89) rfl rfl Try.func16 (by kernel_rfl) rfl #[.pointer (some ⟨gr, 0, none⟩)] rfl (by (try simp only [List.map_toArray, List.map_cons, List.map_nil]); first | done | rfl) ?_; (with_reducible refine (frame_Reader_Dead.calls gr rest true c2 true rest true c2 w _ HI.out HB.out (dead_f _ _ _)).mono ?_); rintro e w16 ⟨rfl, hi, hb, hk⟩; refine ⟨_, rfl, ?_⟩; have n0_ := Aside0.mk ((HK.out.mv (Mv.keep hk HI.out.1)).under hk.1); have n1_ := Aside0.mk (R_keep34 HR.out hk HI.out.1); clear HK HR HI HB; have HK := n0_; have HR := n1_; have HI := Aside0.mk hi; have HB := Aside0.mk hb; clear n0_ n1_ hi hb hk; (try clear hx)) | (go_at_call 16; (with_reducible refine (frame_Reader_Dead.calls gr rest true c2 true rest true c2 w _ HI.out HB.out (dead_f _ _ _)).mono ?_); rintro e w16 ⟨rfl, hi, hb, hk⟩; have n0_ := Aside0.mk ((HK.out.mv (Mv.keep hk HI.out.1)).under hk.1); have n1_ := Aside0.mk (R_keep34 HR.out hk HI.out.1); clear HK HR HI HB; have HK := n0_; have HR := n1_; have HI := Aside0.mk hi; have HB := Aside0.mk hb; clear n0_ n1_ hi hb hk; (try clear hx)) | ((with_reducible refine gate_callee (f := 14) rfl ?_); (try (refine gate_guard (by rfl) ?_; dsimp only)); refine goesL_ (some 95) rfl rfl Try.func14 (by kernel_rfl) rfl #[.pointer (some ⟨gr, 0, none⟩)] rfl (by (try simp only [List.map_toArray, List.map_cons, List.map_nil]); first | done | rfl) ?_; (with_reducible refine (frame_Reader_Waits.calls gr rest true c2 (rest.size : Int) rest true c2 w _ HI.out HB.out (waits_f _ _ _)).mono ?_); rintro e w17 ⟨rfl, hi, hb, hk⟩; refine ⟨_, rfl, ?_⟩; have n0_ := Aside0.mk ((HK.out.mv (Mv.keep hk HI.out.1)).under hk.1); have n1_ := Aside0.mk (R_keep34 HR.out hk HI.out.1); clear HK HR HI HB; have HK := n0_; have HR := n1_; have HI := Aside0.mk hi; have HB := Aside0.mk hb; clear n0_ n1_ hi hb hk; (try clear hx)) | (go_at_call 14; (with_reducible refine (frame_Reader_Waits.calls gr rest true c2 (rest.size : Int) rest true c2 w _ HI.out HB.out (waits_f _ _ _)).mono ?_); rintro e w17 ⟨rfl, hi, hb, hk⟩; have n0_ := Aside0.mk ((HK.out.mv (Mv.keep hk HI.out.1)).under hk.1); have n1_ := Aside0.mk (R_keep34 HR.out hk HI.out.1); clear HK HR HI HB; have HK := n0_; have HR := n1_; have HI := Aside0.mk hi; have HB := Aside0.mk hb; clear n0_ n1_ hi hb hk; (try clear hx)))
                rw [HW.out]
                go_roundg k1
                case measure => omega
                case rel => exact ⟨i + 1, rest, rest, true, c2, ls ++ [fs], rfl, rfl, rfl, ⟨by have := HG.out; omega⟩, ⟨by have := of_eq_true q2; omega⟩, HI, HK, HB, ⟨HSL.out.next HFL.out HRS.out (fun _ => rfl) (by first | exact HD0.out | exact fun _ => HD0.out trivial)⟩⟩
        · have d0 : decide ((i : Int) < (l.length : Int)) = false := decide_eq_false (by omega)
          have d2 : decide (i < l.length) = false := decide_eq_false hi
          have q1 := eq_false (show ¬ (i : Int) < (l.length : Int) by omega)
          have q2 := eq_false hi
          have HL40' := Aside0.mk (show i ≤ 40 by have := HI0.out; have := HL40.out; omega)
          clear hi
          go_wp2_with (first | ((with_reducible refine gate_callee (f := 12) rfl ?_); (try (refine gate_guard (by rfl) ?_; dsimp only)); refine goesL_ (some 102) rfl rfl Try.func12 (by kernel_rfl) rfl #[.pointer none, .string ⟨#[120]⟩] rfl (by (try simp only [List.map_toArray, List.map_cons, List.map_nil]); first | done | rfl) ?_; (with_reducible refine (Feed_nil _ _).mono ?_); rintro e w20 ⟨rfl, hb⟩; refine ⟨_, rfl, ?_⟩; have n0_ := Aside0.mk ((HK.out.mv (Mv.below hb)).under hb.size); have n4_ := Aside0.mk (below_step HB.out hb); clear HK HB hb; have HK := n0_; have HB := n4_; clear n0_ n4_) | (go_at_call 12; (with_reducible refine (Feed_nil _ _).mono ?_); rintro e w20 ⟨rfl, hb⟩; have n0_ := Aside0.mk ((HK.out.mv (Mv.below hb)).under hb.size); have n4_ := Aside0.mk (below_step HB.out hb); clear HK HB hb; have HK := n0_; have HB := n4_; clear n0_ n4_) | ((with_reducible refine gate_callee (f := 16) rfl ?_); (try (refine gate_guard (by rfl) ?_; dsimp only)); refine goesL_ (some 114) rfl rfl Try.func16 (by kernel_rfl) rfl #[.pointer none] rfl (by (try simp only [List.map_toArray, List.map_cons, List.map_nil]); first | done | rfl) ?_; (with_reducible refine (Dead_nil _).mono ?_); rintro e w21 ⟨rfl, hb⟩; refine ⟨_, rfl, ?_⟩; have n0_ := Aside0.mk ((HK.out.mv (Mv.below hb)).under hb.size); have n4_ := Aside0.mk (below_step HB.out hb); clear HK HB hb; have HK := n0_; have HB := n4_; clear n0_ n4_) | (go_at_call 16; (with_reducible refine (Dead_nil _).mono ?_); rintro e w21 ⟨rfl, hb⟩; have n0_ := Aside0.mk ((HK.out.mv (Mv.below hb)).under hb.size); have n4_ := Aside0.mk (below_step HB.out hb); clear HK HB hb; have HK := n0_; have HB := n4_; clear n0_ n4_) | ((with_reducible refine gate_callee (f := 14) rfl ?_); (try (refine gate_guard (by rfl) ?_; dsimp only)); refine goesL_ (some 118) rfl rfl Try.func14 (by kernel_rfl) rfl #[.pointer none] rfl (by (try simp only [List.map_toArray, List.map_cons, List.map_nil]); first | done | rfl) ?_; (with_reducible refine (Waits_nil _).mono ?_); rintro e w22 ⟨rfl, hb⟩; refine ⟨_, rfl, ?_⟩; have n0_ := Aside0.mk ((HK.out.mv (Mv.below hb)).under hb.size); have n4_ := Aside0.mk (below_step HB.out hb); clear HK HB hb; have HK := n0_; have HB := n4_; clear n0_ n4_) | (go_at_call 14; (with_reducible refine (Waits_nil _).mono ?_); rintro e w22 ⟨rfl, hb⟩; have n0_ := Aside0.mk ((HK.out.mv (Mv.below hb)).under hb.size); have n4_ := Aside0.mk (below_step HB.out hb); clear HK HB hb; have HK := n0_; have HB := n4_; clear n0_ n4_) | ((with_reducible refine gate_callee (f := 18) rfl ?_); (try (refine gate_guard (by rfl) ?_; dsimp only)); refine goesL_ (some 123) rfl rfl Try.func18 (by kernel_rfl) rfl #[.pointer (some ⟨gk, 0, none⟩)] rfl (by (try simp only [List.map_toArray, List.map_cons, List.map_nil]); first | done | rfl) ?_; (with_reducible refine (Book_Apart.calls _ gk ls w _ HK.out HB.out (HSL.out.short HL40'.out).1 (HSL.out.short HL40'.out).2).mono ?_); rintro e w23 ⟨rfl, hb⟩; refine ⟨_, rfl, ?_⟩; have HE := Aside0.mk hb; clear HK HB hb) | (go_at_call 18; (with_reducible refine (Book_Apart.calls _ gk ls w _ HK.out HB.out (HSL.out.short HL40'.out).1 (HSL.out.short HL40'.out).2).mono ?_); rintro e w23 ⟨rfl, hb⟩; have HE := Aside0.mk hb; clear HK HB hb))
          go_ret
          exact ⟨rfl, HE.out⟩
end Go.Proofs.Ytoepiofmkjajaaa.P

