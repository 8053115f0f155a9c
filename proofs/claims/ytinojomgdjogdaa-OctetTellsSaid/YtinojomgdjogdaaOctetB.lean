/- What octet's functions come to, as plain equations on lists of bytes. -/
import Derived.Test.YtinojomgdjogdaaBits
import Derived.Test.YtinojomgdjogdaaPx
namespace Go.Proofs.Ytinojomgdjogdaa.B
open Go.RowKit Go.Proofs.Ytinojomgdjogdaa.P Go.Proofs.YtinojomgdjogdaaW.PrintWords Go.Proofs.YtinojomgdjogdaaW.PrintLast Go.Proofs.YtinojomgdjogdaaW.PrintMore

/-! Xor -/
def xorL (a b : ByteArray) : List Int := (List.range (min a.size b.size)).map fun j : Nat => Go.bits .xor .u8 (bt a (j : Int)) (bt b (j : Int))
theorem xor_l0 (a b : ByteArray) (ha : a.size ≤ 140737488351232) (xs : List Int) (hl : xs.length = min a.size b.size) (d : Nat) : ∀ (k i : Nat), i ≤ xs.length → xs.length - i = d → d < k →
    octet_Xor.l0 k a b ((List.range i).map (fun j : Nat => Go.bits .xor .u8 (bt a (j : Int)) (bt b (j : Int))) ++ xs.drop i) (xs.length : Int) (i : Int) = some (strOfNums (xorL a b)) := by
  induction d with
  | zero =>
    intro k i h1 h2 h3
    obtain ⟨k, rfl⟩ : ∃ m, k = m + 1 := ⟨k - 1, by omega⟩
    simp only [octet_Xor.l0]
    rw [if_neg (by omega)]
    have : i = xs.length := by omega
    subst this
    rw [List.drop_length, List.append_nil, hl]; rfl
  | succ d ih =>
    intro k i h1 h2 h3
    obtain ⟨k, rfl⟩ : ∃ m, k = m + 1 := ⟨k - 1, by omega⟩
    simp only [octet_Xor.l0]
    have hlen := fill_len (fun j : Nat => Go.bits .xor .u8 (bt a (j : Int)) (bt b (j : Int))) xs i h1
    rw [if_pos (by omega), if_pos (by omega), if_pos (by omega), if_pos (by omega), if_pos (by rw [hlen]; omega)]
    rw [Int.toNat_natCast, fill_front _ _ _ (by omega), wrap64_succ (n := xs.length) (by omega) (by omega)]
    exact ih k (i + 1) (by omega) (by omega) (by omega)
theorem xor_f (a b : ByteArray) (ha : a.size ≤ 140737488351232) (k : Nat) (hk : min a.size b.size < k) : octet_Xor.f k a b = some (strOfNums (xorL a b)) := by
  unfold octet_Xor.f
  have hm : mn (a.size : Int) (b.size : Int) = ((min a.size b.size : Nat) : Int) := by unfold mn; split <;> omega
  rw [hm, if_pos (by omega), Int.toNat_natCast, if_pos (by omega)]
  simp only [Option.bind_some]
  have := xor_l0 a b ha (List.replicate (min a.size b.size) 0) (by simp) (min a.size b.size) k 0 (by omega) (by simp) hk
  simpa using this
theorem refXor_l0 (a b : ByteArray) (ha : a.size ≤ 140737488351232) (xs : List Int) (hl : xs.length = min a.size b.size) (d : Nat) : ∀ (k i : Nat), i ≤ xs.length → xs.length - i = d → d < k →
    escutcheonref1_Xor.l0 k a b (xs.length : Int) ((List.range i).map (fun j : Nat => Go.bits .xor .u8 (bt a (j : Int)) (bt b (j : Int))) ++ xs.drop i) (i : Int) = some (strOfNums (xorL a b)) := by
  induction d with
  | zero =>
    intro k i h1 h2 h3
    obtain ⟨k, rfl⟩ : ∃ m, k = m + 1 := ⟨k - 1, by omega⟩
    simp only [escutcheonref1_Xor.l0]
    rw [if_neg (by omega)]
    have : i = xs.length := by omega
    subst this
    rw [List.drop_length, List.append_nil, hl]; rfl
  | succ d ih =>
    intro k i h1 h2 h3
    obtain ⟨k, rfl⟩ : ∃ m, k = m + 1 := ⟨k - 1, by omega⟩
    simp only [escutcheonref1_Xor.l0]
    have hlen := fill_len (fun j : Nat => Go.bits .xor .u8 (bt a (j : Int)) (bt b (j : Int))) xs i h1
    rw [if_pos (by omega), if_pos (by omega), if_pos (by omega), if_pos (by omega), if_pos (by rw [hlen]; omega)]
    rw [Int.toNat_natCast, fill_front _ _ _ (by omega), wrap64_succ (n := xs.length) (by omega) (by omega)]
    exact ih k (i + 1) (by omega) (by omega) (by omega)
theorem refXor_f (a b : ByteArray) (ha : a.size ≤ 140737488351232) (k : Nat) (hk : min a.size b.size < k) : escutcheonref1_Xor.f k a b = some (strOfNums (xorL a b)) := by
  unfold escutcheonref1_Xor.f
  have hm : mn (a.size : Int) (b.size : Int) = ((min a.size b.size : Nat) : Int) := by unfold mn; split <;> omega
  rw [hm, if_pos (by omega), Int.toNat_natCast, if_pos (by omega)]
  have := refXor_l0 a b ha (List.replicate (min a.size b.size) 0) (by simp) (min a.size b.size) k 0 (by omega) (by simp) hk
  simpa using this
/-- Xored, as bytes. -/
theorem L_xor (a b : ByteArray) : L (strOfNums (xorL a b)) = List.zipWith (· ^^^ ·) (L a) (L b) := by
  rw [L_nums, xorL, List.map_map]
  apply List.ext_getElem
  · simp [List.length_zipWith, L_len]
  · intro i h1 h2
    simp only [List.getElem_map, List.getElem_range, Function.comp, List.getElem_zipWith]
    rw [xor8_bt]
    have ha : i < (L a).length := by simp [List.length_zipWith] at h2; omega
    have hb : i < (L b).length := by simp [List.length_zipWith] at h2; omega
    rw [Int.toNat_natCast, Int.toNat_natCast, List.getElem?_eq_getElem ha, List.getElem?_eq_getElem hb]
    simp
theorem size_xor (a b : ByteArray) : (strOfNums (xorL a b)).size = min a.size b.size := by rw [size_nums]; simp [xorL]

/-! Numbers as bytes -/
def bigL (v : Int) (n : Nat) : List Int := (List.range n).map fun j => v / 256 ^ (n - 1 - j) % 256
def littleL (v : Int) (n : Nat) : List Int := (List.range n).map fun j => v / 256 ^ j % 256
theorem bigL_len (v : Int) (n : Nat) : (bigL v n).length = n := by simp [bigL]
theorem littleL_len (v : Int) (n : Nat) : (littleL v n).length = n := by simp [littleL]
theorem bigL_get (v : Int) (n j : Nat) (h : j < n) : (bigL v n).getD j 0 = v / 256 ^ (n - 1 - j) % 256 := by
  simp [bigL, List.getD_eq_getElem?_getD, h]
theorem littleL_get (v : Int) (n j : Nat) (h : j < n) : (littleL v n).getD j 0 = v / 256 ^ j % 256 := by
  simp [littleL, List.getD_eq_getElem?_getD, h]
theorem bigL_rev (v : Int) (n : Nat) : bigL v n = (littleL v n).reverse := by
  apply List.ext_getElem
  · simp [bigL_len, littleL_len]
  · intro i h1 h2
    simp [bigL, littleL]
theorem bigL_range (v : Int) (n : Nat) : ∀ x ∈ bigL v n, 0 ≤ x ∧ x ≤ 255 := by
  intro x hx
  simp only [bigL, List.mem_map, List.mem_range] at hx
  obtain ⟨j, _, rfl⟩ := hx
  omega
theorem littleL_range (v : Int) (n : Nat) : ∀ x ∈ littleL v n, 0 ≤ x ∧ x ≤ 255 := by
  intro x hx
  simp only [littleL, List.mem_map, List.mem_range] at hx
  obtain ⟨j, _, rfl⟩ := hx
  omega
theorem putBig_l0 (v : Int) (n : Nat) (hn : n ≤ 8) (xs : List Int) (hl : xs.length = n) (d : Nat) : ∀ (k i : Nat), i ≤ n → n - i = d → d < k →
    octet_PutBig.l0 k v (n : Int) (xs.take (n - i) ++ (bigL v n).drop (n - i)) (n : Int) (i : Int) = some (strOfNums (bigL v n)) := by
  induction d with
  | zero =>
    intro k i h1 h2 h3
    obtain ⟨k, rfl⟩ : ∃ m, k = m + 1 := ⟨k - 1, by omega⟩
    simp only [octet_PutBig.l0]
    rw [if_neg (by omega)]
    have : i = n := by omega
    subst this
    rw [Nat.sub_self, List.take_zero, List.drop_zero, List.nil_append]
  | succ d ih =>
    intro k i h1 h2 h3
    obtain ⟨k, rfl⟩ : ∃ m, k = m + 1 := ⟨k - 1, by omega⟩
    simp only [octet_PutBig.l0]
    have hlen := fill_back_len (bigL v n) xs (n - i) (by rw [bigL_len, hl]) (by omega)
    rw [w64 (n := 8 * (i : Int)) (by omega) (by omega), w64 (n := (n : Int) - 1) (by omega) (by omega), w64 (n := (n : Int) - 1 - i) (by omega) (by omega), hlen]
    rw [if_pos (by omega), if_pos (by omega), if_pos (by omega), if_pos (by omega), wrap64_succ (n := n) (by omega) (by omega)]
    have e1 : ((n : Int) - 1 - i).toNat = n - (i + 1) := by omega
    have e2 : n - i = n - (i + 1) + 1 := by omega
    have e3 : shr .u64 v (8 * (i : Int)) % 256 = (bigL v n).getD (n - (i + 1)) 0 := by
      rw [bigL_get _ _ _ (by omega), shr64 _ _ (by omega)]
      congr 3; omega
    rw [e1, e3, e2, fill_back _ _ _ (by rw [bigL_len, hl]) (by omega)]
    exact ih k (i + 1) (by omega) (by omega) (by omega)
theorem putBig_f (v : Int) (n : Nat) (h1 : 1 ≤ n) (h8 : n ≤ 8) (k : Nat) (hk : n + 1 < k) : octet_PutBig.f k v (n : Int) = some (strOfNums (bigL v n)) := by
  obtain ⟨k, rfl⟩ : ∃ m, k = m + 1 := ⟨k - 1, by omega⟩
  unfold octet_PutBig.f
  rw [if_neg (by omega)]
  simp only [octet_PutBig.j0]
  rw [if_neg (by simp; omega), if_pos (by omega), Int.toNat_natCast, if_pos (by omega)]
  simp only [Option.bind_some, List.length_replicate]
  have := putBig_l0 v n h8 (List.replicate n 0) (by simp) n k 0 (by omega) (by omega) (by omega)
  rw [Nat.sub_zero, List.take_of_length_le (by simp), List.drop_of_length_le (by rw [bigL_len]; omega), List.append_nil] at this
  exact this
theorem putBig_out (v n : Int) (h : n < 1 ∨ n > 8) (k : Nat) : octet_PutBig.f (k + 1) v n = some (⟨#[]⟩ : ByteArray) := by
  unfold octet_PutBig.f
  simp only [octet_PutBig.j0]
  split
  · rfl
  · rw [if_pos (by simp; omega)]
theorem putLittle_l0 (v : Int) (n : Nat) (hn : n ≤ 8) (xs : List Int) (hl : xs.length = n) (d : Nat) : ∀ (k i : Nat), i ≤ n → n - i = d → d < k →
    octet_PutLittle.l0 k v ((List.range i).map (fun j => v / 256 ^ j % 256) ++ xs.drop i) (n : Int) (i : Int) = some (strOfNums (littleL v n)) := by
  induction d with
  | zero =>
    intro k i h1 h2 h3
    obtain ⟨k, rfl⟩ : ∃ m, k = m + 1 := ⟨k - 1, by omega⟩
    simp only [octet_PutLittle.l0]
    rw [if_neg (by omega)]
    have : i = n := by omega
    subst this
    rw [← hl, List.drop_length, List.append_nil]; rfl
  | succ d ih =>
    intro k i h1 h2 h3
    obtain ⟨k, rfl⟩ : ∃ m, k = m + 1 := ⟨k - 1, by omega⟩
    simp only [octet_PutLittle.l0]
    have hlen := fill_len (fun j => v / 256 ^ j % 256) xs i (by omega)
    rw [w64 (n := 8 * (i : Int)) (by omega) (by omega), hlen]
    rw [if_pos (by omega), if_pos (by omega), if_pos (by omega), if_pos (by omega), wrap64_succ (n := n) (by omega) (by omega), shr64 _ _ (by omega), Int.toNat_natCast, fill_front (fun j => v / 256 ^ j % 256) _ _ (by omega)]
    exact ih k (i + 1) (by omega) (by omega) (by omega)
theorem putLittle_f (v : Int) (n : Nat) (h1 : 1 ≤ n) (h8 : n ≤ 8) (k : Nat) (hk : n + 1 < k) : octet_PutLittle.f k v (n : Int) = some (strOfNums (littleL v n)) := by
  obtain ⟨k, rfl⟩ : ∃ m, k = m + 1 := ⟨k - 1, by omega⟩
  unfold octet_PutLittle.f
  rw [if_neg (by omega)]
  simp only [octet_PutLittle.j0]
  rw [if_neg (by simp; omega), if_pos (by omega), Int.toNat_natCast, if_pos (by omega)]
  simp only [Option.bind_some, List.length_replicate]
  have := putLittle_l0 v n h8 (List.replicate n 0) (by simp) n k 0 (by omega) (by omega) (by omega)
  simpa using this
theorem putLittle_out (v n : Int) (h : n < 1 ∨ n > 8) (k : Nat) : octet_PutLittle.f (k + 1) v n = some (⟨#[]⟩ : ByteArray) := by
  unfold octet_PutLittle.f
  simp only [octet_PutLittle.j0]
  split
  · rfl
  · rw [if_pos (by simp; omega)]

/-! Bytes as numbers -/
def num (l : List UInt8) : Int := l.foldl (fun v c => v * 256 + (c.toNat : Int)) 0
theorem num_snoc (l : List UInt8) (c : UInt8) : num (l ++ [c]) = num l * 256 + (c.toNat : Int) := by simp [num, List.foldl_append]
theorem snoc_ind {α : Type} {motive : List α → Prop} (h0 : motive []) (hs : ∀ l c, motive l → motive (l ++ [c])) (l : List α) : motive l := by
  rw [← l.reverse_reverse]
  induction l.reverse with
  | nil => exact h0
  | cons c r ih => rw [List.reverse_cons]; exact hs _ _ ih
theorem pow256_le {a b : Nat} (h : a ≤ b) : (256 : Int) ^ a ≤ 256 ^ b := by
  have h2 : ((256 ^ a : Nat) : Int) ≤ ((256 ^ b : Nat) : Int) := Int.ofNat_le.2 (Nat.pow_le_pow_right (n := 256) (by decide) h)
  rw [Int.natCast_pow, Int.natCast_pow] at h2
  exact h2
theorem num_bd (l : List UInt8) : 0 ≤ num l ∧ num l < 256 ^ l.length := by
  induction l using snoc_ind with
  | h0 => exact ⟨by decide, by decide⟩
  | hs l c ih =>
    rw [num_snoc, List.length_append, List.length_singleton, Int.pow_succ]
    have := c.toNat_lt
    omega
theorem bigF_num (l : List UInt8) (h : l.length ≤ 8) : octet_Big.bigF l = num l := by
  induction l using snoc_ind with
  | h0 => rfl
  | hs l c ih =>
    rw [List.length_append, List.length_singleton] at h
    have hb := num_bd l
    have h7 : (256 : Int) ^ l.length ≤ 256 ^ 7 := pow256_le (by omega)
    have := c.toNat_lt
    unfold octet_Big.bigF at ih ⊢
    rw [List.foldl_append, ih (by omega)]
    simp only [List.foldl_cons, List.foldl_nil]
    rw [or_byte _ _ hb.1 (by omega) (by omega), num_snoc]
theorem big_f (b : ByteArray) (hb : b.size ≤ 140737488351232) : octet_Big.f b = some (num ((L b).drop (b.size - 8))) := by
  unfold octet_Big.f
  rw [if_pos (by omega)]
  have e : (b.extract (b.size - 8) b.size).data.toList = (L b).drop (b.size - 8) := by
    have := L_ext_ b (b.size - 8) b.size
    rw [show (b.extract (b.size - 8) b.size).data.toList = L (b.extract (b.size - 8) b.size) from rfl, this, ← L_len, List.take_length]
  rw [e, bigF_num _ (by rw [List.length_drop, L_len]; omega)]
theorem little_l0 (b : ByteArray) (d : Nat) : ∀ (k : Nat) (l : List UInt8), d ≤ b.size → d ≤ 8 → l = ((L b).take 8).reverse.take (min b.size 8 - d) → d ≤ min b.size 8 → d < k →
    octet_Little.l0 k b (num l) ((d : Int) - 1) = some (num ((L b).take 8).reverse) := by
  induction d with
  | zero =>
    intro k l h0 h1 h2 h3 h4
    obtain ⟨k, rfl⟩ : ∃ m, k = m + 1 := ⟨k - 1, by omega⟩
    simp only [octet_Little.l0]
    rw [if_neg (by omega), h2, List.take_of_length_le (by simp [L_len]; omega)]
  | succ d ih =>
    intro k l h0 h1 h2 h3 h4
    obtain ⟨k, rfl⟩ : ∃ m, k = m + 1 := ⟨k - 1, by omega⟩
    simp only [octet_Little.l0]
    have hll : l.length = min b.size 8 - (d + 1) := by rw [h2, List.length_take, List.length_reverse, List.length_take, L_len]; omega
    have hb := num_bd l
    have h7 : (256 : Int) ^ l.length ≤ 256 ^ 7 := pow256_le (by omega)
    have hr := bt_range b (((d + 1 : Nat) : Int) - 1)
    rw [if_pos (by omega), if_pos (by omega), if_pos (by omega), or_byte _ _ hb.1 (by omega) hr, w64 (by omega) (by omega)]
    have hd : d < ((L b).take 8).length := by rw [List.length_take, L_len]; omega
    have hrev : ((L b).take 8).reverse.take (min b.size 8 - d) = l ++ [((L b).take 8)[d]] := by
      have e : min b.size 8 - d = (min b.size 8 - (d + 1)) + 1 := by omega
      have hlt : min b.size 8 - (d + 1) < ((L b).take 8).reverse.length := by rw [List.length_reverse, List.length_take, L_len]; omega
      rw [e, List.take_succ_eq_append_getElem hlt, ← h2]
      congr 2
      rw [List.getElem_reverse]
      congr 1
      rw [List.length_take, L_len]; omega
    have hbt : bt b (((d + 1 : Nat) : Int) - 1) = ((((L b).take 8)[d]).toNat : Int) := by
      have e : (((d + 1 : Nat) : Int) - 1).toNat = d := by omega
      rw [bt_L, e, List.getElem_take, List.getElem?_eq_getElem (by rw [L_len]; omega)]; rfl
    rw [hbt, ← num_snoc, ← hrev]
    have e2 : ((d + 1 : Nat) : Int) - 1 - 1 = (d : Int) - 1 := by omega
    rw [e2]
    exact ih k _ (by omega) (by omega) rfl (by omega) (by omega)
theorem little_f (b : ByteArray) (k : Nat) (hk : 8 < k) : octet_Little.f k b = some (num ((L b).take 8).reverse) := by
  unfold octet_Little.f
  have hm : mn (b.size : Int) 8 = ((min b.size 8 : Nat) : Int) := by unfold mn; split <;> omega
  rw [hm]
  have := little_l0 b (min b.size 8) k [] (by omega) (by omega) (by rw [Nat.sub_self]; rfl) (Nat.le_refl _) (by omega)
  exact this
end Go.Proofs.Ytinojomgdjogdaa.B
