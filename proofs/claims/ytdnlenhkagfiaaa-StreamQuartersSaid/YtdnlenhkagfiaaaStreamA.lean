/- What octet's functions and the document's come to, as plain equations, and turned words. No condition. -/
import Derived.Test.YtdnlenhkagfiaaaBits
import Derived.Test.YtdnlenhkagfiaaaPx1
import Derived.Test.YtdnlenhkagfiaaaPx2
import Derived.Test.YtdnlenhkagfiaaaPx4
import Derived.Test.YtdnlenhkagfiaaaPx5
import Derived.Test.YtdnlenhkagfiaaaPx6
import Derived.Test.YtdnlenhkagfiaaaPx7
import Derived.Test.YtdnlenhkagfiaaaPx9
namespace Go.Proofs.Ytdnlenhkagfiaaa.B
open Go.RowKit Go.Proofs.Ytdnlenhkagfiaaa.P Go.Proofs.YtdnlenhkagfiaaaW.PrintWords Go.Proofs.YtdnlenhkagfiaaaW.PrintLast Go.Proofs.YtdnlenhkagfiaaaW.PrintMore
set_option linter.unusedVariables false
set_option linter.unusedSimpArgs false

def rotl (x : Int) (s : Nat) : Int := (((BitVec.ofInt 32 x).rotateLeft s).toNat : Int)
theorem rotl_range (x : Int) (s : Nat) : 0 ≤ rotl x s ∧ rotl x s ≤ 4294967295 := by
  unfold rotl
  have := ((BitVec.ofInt 32 x).rotateLeft s).isLt
  omega
theorem ofInt_rotl (x : Int) (s : Nat) : BitVec.ofInt 32 (rotl x s) = (BitVec.ofInt 32 x).rotateLeft s := by
  unfold rotl
  apply BitVec.eq_of_toNat_eq
  rw [BitVec.ofInt_natCast, BitVec.toNat_ofNat, Nat.mod_eq_of_lt (BitVec.isLt _)]
theorem rotl_mod (x : Int) (s : Nat) : rotl x (s % 32) = rotl x s := by
  unfold rotl
  rw [BitVec.rotateLeft_mod_eq_rotateLeft]
theorem rotl_zero (x : Int) (h : 0 ≤ x ∧ x ≤ 4294967295) : rotl x 0 = x := by
  unfold rotl
  rw [BitVec.rotateLeft_eq_rotateLeftAux_of_lt (by decide)]
  obtain ⟨n, rfl⟩ := Int.eq_ofNat_of_zero_le h.1
  have hn : n < 2 ^ 32 := by omega
  have e : (BitVec.ofInt 32 ((n : Nat) : Int)).rotateLeftAux 0 = BitVec.ofNat 32 n := by
    apply BitVec.eq_of_getLsbD_eq
    intro i hi
    simp [BitVec.rotateLeftAux]
  rw [e, BitVec.toNat_ofNat, Nat.mod_eq_of_lt hn]
theorem rotl_add (x : Int) (s t : Nat) : rotl (rotl x s) t = rotl x (s + t) := by
  unfold rotl
  rw [show BitVec.ofInt 32 ((((BitVec.ofInt 32 x).rotateLeft s).toNat : Nat) : Int) = (BitVec.ofInt 32 x).rotateLeft s from ofInt_rotl x s]
  congr 2
  apply BitVec.eq_of_getLsbD_eq
  intro i hi
  simp only [BitVec.getLsbD_rotateLeft, Bool.cond_decide]
  have hs : s % 32 < 32 := Nat.mod_lt _ (by decide)
  have ht : t % 32 < 32 := Nat.mod_lt _ (by decide)
  have hst : (s + t) % 32 = (s % 32 + t % 32) % 32 := Nat.add_mod s t 32
  rw [hst]
  generalize s % 32 = a at *
  generalize t % 32 = b at *
  have dt : ∀ {p : Prop} [Decidable p] {c : Bool}, p → (decide p && c) = c := fun h => by simp [h]
  by_cases hab : a + b < 32
  · rw [Nat.mod_eq_of_lt hab]
    by_cases h1 : i < b
    · have h2 : ¬ (32 - b + i < a) := by omega
      rw [if_pos h1, if_neg h2, if_pos (show i < a + b by omega), dt (by omega)]
      congr 1; omega
    · rw [if_neg h1, dt hi]
      by_cases h2 : i - b < a
      · rw [if_pos h2, if_pos (show i < a + b by omega)]
        congr 1; omega
      · rw [if_neg h2, if_neg (show ¬ i < a + b by omega), dt (by omega), dt hi]
        congr 1; omega
  · have hm : (a + b) % 32 = a + b - 32 := by rw [Nat.mod_eq_sub_mod (by omega), Nat.mod_eq_of_lt (by omega)]
    rw [hm]
    by_cases h1 : i < b
    · rw [if_pos h1]
      by_cases h2 : 32 - b + i < a
      · rw [if_pos h2, if_pos (show i < a + b - 32 by omega)]
        congr 1; omega
      · rw [if_neg h2, if_neg (show ¬ i < a + b - 32 by omega), dt (by omega), dt hi]
        congr 1; omega
    · rw [if_neg h1, dt hi, if_pos (show i - b < a by omega), if_neg (show ¬ i < a + b - 32 by omega), dt hi]
      congr 1; omega
theorem shift_rot (x : Int) (s : Nat) (hs : s < 32) (hx : 0 ≤ x ∧ x ≤ 4294967295) : Go.bits .or .u32 (shl .u32 x s) (shr .u32 x (32 - (s : Int))) = rotl x s := by
  obtain ⟨n, rfl⟩ := Int.eq_ofNat_of_zero_le hx.1
  have hn : n < 2 ^ 32 := by omega
  unfold shl shr
  have e1 : min ((s : Int)).toNat IntKind.u32.bits = s := by
    have : IntKind.u32.bits = 32 := rfl
    omega
  have e2 : min (32 - (s : Int)).toNat IntKind.u32.bits = 32 - s := by
    have : IntKind.u32.bits = 32 := rfl
    omega
  rw [e1, e2, IntKind.wrap_u32]
  have c1 : ((n : Int) * 2 ^ s) % 4294967296 = ((n * 2 ^ s % 2 ^ 32 : Nat) : Int) := by
    rw [Int.natCast_emod, Int.natCast_mul, Int.natCast_pow]; rfl
  have c2 : (n : Int) / 2 ^ (32 - s) = ((n / 2 ^ (32 - s) : Nat) : Int) := by
    rw [Int.natCast_ediv, Int.natCast_pow]; rfl
  rw [c1, c2]
  have l1 : n * 2 ^ s % 2 ^ 32 < 2 ^ 32 := Nat.mod_lt _ (by decide)
  have l2 : n / 2 ^ (32 - s) < 2 ^ 32 := Nat.lt_of_le_of_lt (Nat.div_le_self _ _) hn
  rw [(bits_nat .u32 32 (by decide) wraps_u32 _ _ l1 l2).2]
  unfold rotl
  congr 1
  have hv : BitVec.ofInt 32 ((n : Nat) : Int) = BitVec.ofNat 32 n := by simp
  rw [hv, BitVec.rotateLeft_def, Nat.mod_eq_of_lt hs, BitVec.toNat_or, BitVec.toNat_shiftLeft, BitVec.toNat_ushiftRight, BitVec.toNat_ofNat, Nat.mod_eq_of_lt hn, Nat.shiftLeft_eq, Nat.shiftRight_eq_div_pow]
theorem left_f (x n : Int) (hx : 0 ≤ x ∧ x ≤ 4294967295) (hn : -4611686018427387904 ≤ n ∧ n ≤ 4611686018427387904) : octet_Left.f x n = some (rotl x (n % 32).toNat) := by
  unfold octet_Left.f bits_RotateLeft32.f
  have ht := tmod_pos (a := n) (b := 32) (by decide)
  rw [w64 (n := n.tmod 32 + 32) (by omega) (by omega)]
  have e : (n.tmod 32 + 32).tmod 32 = n % 32 := by
    rw [Int.tmod_eq_emod_of_nonneg (by omega), Int.add_emod_right]
    have h1 := Int.mul_tdiv_add_tmod n 32
    omega
  have hm : 0 ≤ n % 32 ∧ n % 32 < 32 := by omega
  rw [e, wu64 (by omega) (by omega), and31 _ (by omega) (by omega)]
  have e2 : n % 32 % 32 = n % 32 := by omega
  rw [e2, wu64 (by omega) (by omega), if_pos (by omega), if_pos (by omega)]
  simp only [Option.bind_some]
  obtain ⟨s, hs⟩ : ∃ s : Nat, n % 32 = s := ⟨(n % 32).toNat, by omega⟩
  rw [hs, shift_rot x s (by omega) hx, Int.toNat_natCast]
def xorL (a b : ByteArray) : List Int := (List.range (min a.size b.size)).map fun j : Nat => Go.bits .xor .u8 (bt a (j : Int)) (bt b (j : Int))
theorem xor_l0 (a b : ByteArray) (ha : a.size ≤ 140737488351232) (xs : List Int) (hl : xs.length = min a.size b.size) (d : Nat) : ∀ (k i : Nat), i ≤ xs.length → xs.length - i = d → d < k →
    octet_Xor.l0 k a b ((List.range i).map (fun j : Nat => Go.bits .xor .u8 (bt a (j : Int)) (bt b (j : Int))) ++ xs.drop i) (xs.length : Int) (i : Int) = some (strOfNums (xorL a b)) := by
  induction d with
  | zero =>
    intro k i h1 h2 h3
    obtain ⟨k, rfl⟩ : ∃ m, k = m + 1 := ⟨k - 1, by omega⟩
    simp only [octet_Xor.l0]
    rw [if_neg (by omega)]
    have : i = xs.length := by omega
    subst this
    rw [List.drop_length, List.append_nil, hl]; rfl
  | succ d ih =>
    intro k i h1 h2 h3
    obtain ⟨k, rfl⟩ : ∃ m, k = m + 1 := ⟨k - 1, by omega⟩
    simp only [octet_Xor.l0]
    have hlen := fill_len (fun j : Nat => Go.bits .xor .u8 (bt a (j : Int)) (bt b (j : Int))) xs i h1
    rw [if_pos (by omega), if_pos (by omega), if_pos (by omega), if_pos (by omega), if_pos (by rw [hlen]; omega)]
    rw [Int.toNat_natCast, fill_front _ _ _ (by omega), wrap64_succ (n := xs.length) (by omega) (by omega)]
    exact ih k (i + 1) (by omega) (by omega) (by omega)
theorem xor_f (a b : ByteArray) (ha : a.size ≤ 140737488351232) (k : Nat) (hk : min a.size b.size < k) : octet_Xor.f k a b = some (strOfNums (xorL a b)) := by
  unfold octet_Xor.f
  have hm : mn (a.size : Int) (b.size : Int) = ((min a.size b.size : Nat) : Int) := by unfold mn; split <;> omega
  rw [hm, if_pos (by omega), Int.toNat_natCast, if_pos (by omega)]
  simp only [Option.bind_some]
  have := xor_l0 a b ha (List.replicate (min a.size b.size) 0) (by simp) (min a.size b.size) k 0 (by omega) (by simp) hk
  simpa using this
theorem refXor_l0 (a b : ByteArray) (ha : a.size ≤ 140737488351232) (xs : List Int) (hl : xs.length = min a.size b.size) (d : Nat) : ∀ (k i : Nat), i ≤ xs.length → xs.length - i = d → d < k →
    escutcheonref1_Xor.l0 k a b (xs.length : Int) ((List.range i).map (fun j : Nat => Go.bits .xor .u8 (bt a (j : Int)) (bt b (j : Int))) ++ xs.drop i) (i : Int) = some (strOfNums (xorL a b)) := by
  induction d with
  | zero =>
    intro k i h1 h2 h3
    obtain ⟨k, rfl⟩ : ∃ m, k = m + 1 := ⟨k - 1, by omega⟩
    simp only [escutcheonref1_Xor.l0]
    rw [if_neg (by omega)]
    have : i = xs.length := by omega
    subst this
    rw [List.drop_length, List.append_nil, hl]; rfl
  | succ d ih =>
    intro k i h1 h2 h3
    obtain ⟨k, rfl⟩ : ∃ m, k = m + 1 := ⟨k - 1, by omega⟩
    simp only [escutcheonref1_Xor.l0]
    have hlen := fill_len (fun j : Nat => Go.bits .xor .u8 (bt a (j : Int)) (bt b (j : Int))) xs i h1
    rw [if_pos (by omega), if_pos (by omega), if_pos (by omega), if_pos (by omega), if_pos (by rw [hlen]; omega)]
    rw [Int.toNat_natCast, fill_front _ _ _ (by omega), wrap64_succ (n := xs.length) (by omega) (by omega)]
    exact ih k (i + 1) (by omega) (by omega) (by omega)
theorem refXor_f (a b : ByteArray) (ha : a.size ≤ 140737488351232) (k : Nat) (hk : min a.size b.size < k) : escutcheonref1_Xor.f k a b = some (strOfNums (xorL a b)) := by
  unfold escutcheonref1_Xor.f
  have hm : mn (a.size : Int) (b.size : Int) = ((min a.size b.size : Nat) : Int) := by unfold mn; split <;> omega
  rw [hm, if_pos (by omega), Int.toNat_natCast, if_pos (by omega)]
  have := refXor_l0 a b ha (List.replicate (min a.size b.size) 0) (by simp) (min a.size b.size) k 0 (by omega) (by simp) hk
  simpa using this
theorem L_xor (a b : ByteArray) : L (strOfNums (xorL a b)) = List.zipWith (· ^^^ ·) (L a) (L b) := by
  rw [L_nums, xorL, List.map_map]
  apply List.ext_getElem
  · simp [List.length_zipWith, L_len]
  · intro i h1 h2
    simp only [List.getElem_map, List.getElem_range, Function.comp, List.getElem_zipWith]
    rw [xor8_bt]
    have ha : i < (L a).length := by simp [List.length_zipWith] at h2; omega
    have hb : i < (L b).length := by simp [List.length_zipWith] at h2; omega
    rw [Int.toNat_natCast, Int.toNat_natCast, List.getElem?_eq_getElem ha, List.getElem?_eq_getElem hb]
    simp
theorem size_xor (a b : ByteArray) : (strOfNums (xorL a b)).size = min a.size b.size := by rw [size_nums]; simp [xorL]
def bigL (v : Int) (n : Nat) : List Int := (List.range n).map fun j => v / 256 ^ (n - 1 - j) % 256
def littleL (v : Int) (n : Nat) : List Int := (List.range n).map fun j => v / 256 ^ j % 256
theorem bigL_len (v : Int) (n : Nat) : (bigL v n).length = n := by simp [bigL]
theorem littleL_len (v : Int) (n : Nat) : (littleL v n).length = n := by simp [littleL]
theorem bigL_get (v : Int) (n j : Nat) (h : j < n) : (bigL v n).getD j 0 = v / 256 ^ (n - 1 - j) % 256 := by
  simp [bigL, List.getD_eq_getElem?_getD, h]
theorem littleL_get (v : Int) (n j : Nat) (h : j < n) : (littleL v n).getD j 0 = v / 256 ^ j % 256 := by
  simp [littleL, List.getD_eq_getElem?_getD, h]
theorem bigL_rev (v : Int) (n : Nat) : bigL v n = (littleL v n).reverse := by
  apply List.ext_getElem
  · simp [bigL_len, littleL_len]
  · intro i h1 h2
    simp [bigL, littleL]
theorem littleL_range (v : Int) (n : Nat) : ∀ x ∈ littleL v n, 0 ≤ x ∧ x ≤ 255 := by
  intro x hx
  simp only [littleL, List.mem_map, List.mem_range] at hx
  obtain ⟨j, _, rfl⟩ := hx
  omega
theorem putLittle_l0 (v : Int) (n : Nat) (hn : n ≤ 8) (xs : List Int) (hl : xs.length = n) (d : Nat) : ∀ (k i : Nat), i ≤ n → n - i = d → d < k →
    octet_PutLittle.l0 k v ((List.range i).map (fun j => v / 256 ^ j % 256) ++ xs.drop i) (n : Int) (i : Int) = some (strOfNums (littleL v n)) := by
  induction d with
  | zero =>
    intro k i h1 h2 h3
    obtain ⟨k, rfl⟩ : ∃ m, k = m + 1 := ⟨k - 1, by omega⟩
    simp only [octet_PutLittle.l0]
    rw [if_neg (by omega)]
    have : i = n := by omega
    subst this
    rw [← hl, List.drop_length, List.append_nil]; rfl
  | succ d ih =>
    intro k i h1 h2 h3
    obtain ⟨k, rfl⟩ : ∃ m, k = m + 1 := ⟨k - 1, by omega⟩
    simp only [octet_PutLittle.l0]
    have hlen := fill_len (fun j => v / 256 ^ j % 256) xs i (by omega)
    rw [w64 (n := 8 * (i : Int)) (by omega) (by omega), hlen]
    rw [if_pos (by omega), if_pos (by omega), if_pos (by omega), if_pos (by omega), wrap64_succ (n := n) (by omega) (by omega), shr64 _ _ (by omega), Int.toNat_natCast, fill_front (fun j => v / 256 ^ j % 256) _ _ (by omega)]
    exact ih k (i + 1) (by omega) (by omega) (by omega)
theorem putLittle_f (v : Int) (n : Nat) (h1 : 1 ≤ n) (h8 : n ≤ 8) (k : Nat) (hk : n + 1 < k) : octet_PutLittle.f k v (n : Int) = some (strOfNums (littleL v n)) := by
  obtain ⟨k, rfl⟩ : ∃ m, k = m + 1 := ⟨k - 1, by omega⟩
  unfold octet_PutLittle.f
  rw [if_neg (by omega)]
  simp only [octet_PutLittle.j0]
  rw [if_neg (by simp; omega), if_pos (by omega), Int.toNat_natCast, if_pos (by omega)]
  simp only [Option.bind_some, List.length_replicate]
  have := putLittle_l0 v n h8 (List.replicate n 0) (by simp) n k 0 (by omega) (by omega) (by omega)
  simpa using this
def num (l : List UInt8) : Int := l.foldl (fun v c => v * 256 + (c.toNat : Int)) 0
theorem num_snoc (l : List UInt8) (c : UInt8) : num (l ++ [c]) = num l * 256 + (c.toNat : Int) := by simp [num, List.foldl_append]
theorem snoc_ind {α : Type} {motive : List α → Prop} (h0 : motive []) (hs : ∀ l c, motive l → motive (l ++ [c])) (l : List α) : motive l := by
  rw [← l.reverse_reverse]
  induction l.reverse with
  | nil => exact h0
  | cons c r ih => rw [List.reverse_cons]; exact hs _ _ ih
theorem pow256_le {a b : Nat} (h : a ≤ b) : (256 : Int) ^ a ≤ 256 ^ b := by
  have h2 : ((256 ^ a : Nat) : Int) ≤ ((256 ^ b : Nat) : Int) := Int.ofNat_le.2 (Nat.pow_le_pow_right (n := 256) (by decide) h)
  rw [Int.natCast_pow, Int.natCast_pow] at h2
  exact h2
theorem num_bd (l : List UInt8) : 0 ≤ num l ∧ num l < 256 ^ l.length := by
  induction l using snoc_ind with
  | h0 => exact ⟨by decide, by decide⟩
  | hs l c ih =>
    rw [num_snoc, List.length_append, List.length_singleton, Int.pow_succ]
    have := c.toNat_lt
    omega
theorem little_l0 (b : ByteArray) (d : Nat) : ∀ (k : Nat) (l : List UInt8), d ≤ b.size → d ≤ 8 → l = ((L b).take 8).reverse.take (min b.size 8 - d) → d ≤ min b.size 8 → d < k →
    octet_Little.l0 k b (num l) ((d : Int) - 1) = some (num ((L b).take 8).reverse) := by
  induction d with
  | zero =>
    intro k l h0 h1 h2 h3 h4
    obtain ⟨k, rfl⟩ : ∃ m, k = m + 1 := ⟨k - 1, by omega⟩
    simp only [octet_Little.l0]
    rw [if_neg (by omega), h2, List.take_of_length_le (by simp [L_len]; omega)]
  | succ d ih =>
    intro k l h0 h1 h2 h3 h4
    obtain ⟨k, rfl⟩ : ∃ m, k = m + 1 := ⟨k - 1, by omega⟩
    simp only [octet_Little.l0]
    have hll : l.length = min b.size 8 - (d + 1) := by rw [h2, List.length_take, List.length_reverse, List.length_take, L_len]; omega
    have hb := num_bd l
    have h7 : (256 : Int) ^ l.length ≤ 256 ^ 7 := pow256_le (by omega)
    have hr := bt_range b (((d + 1 : Nat) : Int) - 1)
    rw [if_pos (by omega), if_pos (by omega), if_pos (by omega), or_byte _ _ hb.1 (by omega) hr, w64 (by omega) (by omega)]
    have hd : d < ((L b).take 8).length := by rw [List.length_take, L_len]; omega
    have hrev : ((L b).take 8).reverse.take (min b.size 8 - d) = l ++ [((L b).take 8)[d]] := by
      have e : min b.size 8 - d = (min b.size 8 - (d + 1)) + 1 := by omega
      have hlt : min b.size 8 - (d + 1) < ((L b).take 8).reverse.length := by rw [List.length_reverse, List.length_take, L_len]; omega
      rw [e, List.take_succ_eq_append_getElem hlt, ← h2]
      congr 2
      rw [List.getElem_reverse]
      congr 1
      rw [List.length_take, L_len]; omega
    have hbt : bt b (((d + 1 : Nat) : Int) - 1) = ((((L b).take 8)[d]).toNat : Int) := by
      have e : (((d + 1 : Nat) : Int) - 1).toNat = d := by omega
      rw [bt_L, e, List.getElem_take, List.getElem?_eq_getElem (by rw [L_len]; omega)]; rfl
    rw [hbt, ← num_snoc, ← hrev]
    have e2 : ((d + 1 : Nat) : Int) - 1 - 1 = (d : Int) - 1 := by omega
    rw [e2]
    exact ih k _ (by omega) (by omega) rfl (by omega) (by omega)
theorem little_f (b : ByteArray) (k : Nat) (hk : 8 < k) : octet_Little.f k b = some (num ((L b).take 8).reverse) := by
  unfold octet_Little.f
  have hm : mn (b.size : Int) 8 = ((min b.size 8 : Nat) : Int) := by unfold mn; split <;> omega
  rw [hm]
  have := little_l0 b (min b.size 8) k [] (by omega) (by omega) (by rw [Nat.sub_self]; rfl) (Nat.le_refl _) (by omega)
  exact this
def bytesOf (l : List Int) : List UInt8 := l.map fun n => UInt8.ofNat n.toNat
theorem bigL_succ (v : Int) (hv : 0 ≤ v) (n : Nat) : bigL v (n + 1) = bigL (v / 256) n ++ [v % 256] := by
  unfold bigL
  rw [List.range_succ, List.map_append, List.map_singleton]
  congr 1
  · apply List.map_congr_left
    intro j hj
    have hj' : j < n := by simpa using hj
    have e : n + 1 - 1 - j = (n - 1 - j) + 1 := by omega
    rw [e, Int.pow_succ, Int.mul_comm, ← Int.ediv_ediv_of_nonneg (by decide)]
  · have e : n + 1 - 1 - n = 0 := by omega
    rw [e, Int.pow_zero, Int.ediv_one]
theorem split_mod (v p : Int) (hv : 0 ≤ v) (hp : 0 < p) : v / 256 % p * 256 + v % 256 = v % (p * 256) := by
  have h1 := Int.mul_ediv_add_emod v 256
  have h2 := Int.mul_ediv_add_emod (v / 256) p
  have h3 := Int.emod_nonneg (v / 256) (show p ≠ 0 by omega)
  have h4 := Int.emod_lt_of_pos (v / 256) hp
  have h5 : v = p * 256 * (v / 256 / p) + (v / 256 % p * 256 + v % 256) := by
    have e : p * 256 * (v / 256 / p) = 256 * (p * (v / 256 / p)) := by rw [Int.mul_comm p 256, Int.mul_assoc]
    rw [e]; omega
  have h6 : v / 256 % p * 256 + v % 256 < p * 256 := by omega
  conv => rhs; rw [h5]
  rw [Int.mul_add_emod_self_left, Int.emod_eq_of_lt (by omega) h6]
theorem num_big (n : Nat) : ∀ v : Int, 0 ≤ v → num (bytesOf (bigL v n)) = v % 256 ^ n := by
  induction n with
  | zero => intro v _; rw [Int.pow_zero, Int.emod_one]; rfl
  | succ n ih =>
    intro v hv
    rw [bigL_succ v hv, bytesOf, List.map_append, List.map_singleton, num_snoc, ← bytesOf, ih _ (by omega)]
    have e : ((UInt8.ofNat (v % 256).toNat).toNat : Int) = v % 256 := by
      simp only [UInt8.toNat_ofNat']; omega
    have hp : (0 : Int) < 256 ^ n := Int.pow_pos (by decide)
    rw [e, Int.pow_succ]
    generalize (256 : Int) ^ n = p at *
    exact split_mod v p hv hp
theorem L_big (v : Int) (n : Nat) : L (strOfNums (bigL v n)) = bytesOf (bigL v n) := L_nums _
theorem L_little (v : Int) (n : Nat) : L (strOfNums (littleL v n)) = (bytesOf (bigL v n)).reverse := by
  rw [L_nums, bigL_rev, bytesOf, List.map_reverse, List.reverse_reverse]
theorem size_little (v : Int) (n : Nat) : (strOfNums (littleL v n)).size = n := by rw [size_nums, littleL_len]
theorem little_little (v : Int) (n : Nat) (hn : n ≤ 8) (hv : 0 ≤ v) (k : Nat) (hk : 8 < k) : octet_Little.f k (strOfNums (littleL v n)) = some (v % 256 ^ n) := by
  have hl : (bytesOf (bigL v n)).reverse.length ≤ 8 := by simp [bytesOf, bigL_len]; exact hn
  rw [little_f _ _ hk, L_little, List.take_of_length_le hl, List.reverse_reverse, num_big _ _ hv]
theorem refLeft_f (x n : Int) (hx : 0 ≤ x ∧ x ≤ 4294967295) (hn : -9223372036854775808 ≤ n ∧ n ≤ 9223372036854775807) : escutcheonref1_Left.f x n = some (rotl x (n % 32).toNat) := by
  unfold escutcheonref1_Left.f
  have ht := tmod_pos (a := n) (b := 32) (by decide)
  rw [w64 (n := n.tmod 32 + 32) (by omega) (by omega)]
  have e : (n.tmod 32 + 32).tmod 32 = n % 32 := by
    rw [Int.tmod_eq_emod_of_nonneg (by omega), Int.add_emod_right]
    have h1 := Int.mul_tdiv_add_tmod n 32
    omega
  have hm : 0 ≤ n % 32 ∧ n % 32 < 32 := by omega
  rw [e, wu64 (n := n % 32) (by omega) (by omega), wu64 (by omega) (by omega)]
  obtain ⟨s, hs⟩ : ∃ s : Nat, n % 32 = s := ⟨(n % 32).toNat, by omega⟩
  rw [hs, Int.toNat_natCast]
  by_cases h0 : (s : Int) = 0
  · rw [if_pos h0, show s = 0 by omega, rotl_zero x hx]
  · rw [if_neg h0, if_pos (by omega), if_pos (by omega), shift_rot x s (by omega) hx]
theorem left_any (x n : Int) (hx : 0 ≤ x ∧ x ≤ 4294967295) (hn : -9223372036854775808 ≤ n ∧ n ≤ 9223372036854775807) : octet_Left.f x n = some (rotl x (n % 32).toNat) := by
  unfold octet_Left.f bits_RotateLeft32.f
  have ht := tmod_pos (a := n) (b := 32) (by decide)
  rw [w64 (n := n.tmod 32 + 32) (by omega) (by omega)]
  have e : (n.tmod 32 + 32).tmod 32 = n % 32 := by
    rw [Int.tmod_eq_emod_of_nonneg (by omega), Int.add_emod_right]
    have h1 := Int.mul_tdiv_add_tmod n 32
    omega
  have hm : 0 ≤ n % 32 ∧ n % 32 < 32 := by omega
  rw [e, wu64 (by omega) (by omega), and31 _ (by omega) (by omega)]
  have e2 : n % 32 % 32 = n % 32 := by omega
  rw [e2, wu64 (by omega) (by omega), if_pos (by omega), if_pos (by omega), Option.bind_some]
  obtain ⟨s, hs⟩ : ∃ s : Nat, n % 32 = s := ⟨(n % 32).toNat, by omega⟩
  rw [hs, shift_rot x s (by omega) hx, Int.toNat_natCast]
theorem div_pow (v : Int) (i : Nat) : v / 256 ^ i / 256 = v / 256 ^ (i + 1) := by
  rw [Int.pow_succ, Int.ediv_ediv_of_nonneg (Int.pow_nonneg (by decide))]
theorem div_bd (v : Int) (h : 0 ≤ v ∧ v ≤ 18446744073709551615) (i : Nat) : 0 ≤ v / 256 ^ i ∧ v / 256 ^ i ≤ 18446744073709551615 := by
  have hp : (0 : Int) < 256 ^ i := Int.pow_pos (by decide)
  refine ⟨Int.ediv_nonneg h.1 (by omega), ?_⟩
  have := Int.ediv_le_self (256 ^ i) h.1
  omega
theorem refPutLittle_l0 (v : Int) (hv : 0 ≤ v ∧ v ≤ 18446744073709551615) (n : Nat) (hn : n ≤ 8) (xs : List Int) (hl : xs.length = n) (d : Nat) : ∀ (k i : Nat), i ≤ n → n - i = d → d < k →
    escutcheonref1_PutLittle.l0 k (v / 256 ^ i) (n : Int) ((List.range i).map (fun j => v / 256 ^ j % 256) ++ xs.drop i) (i : Int) = some (strOfNums (littleL v n)) := by
  induction d with
  | zero =>
    intro k i h1 h2 h3
    obtain ⟨k, rfl⟩ : ∃ m, k = m + 1 := ⟨k - 1, by omega⟩
    simp only [escutcheonref1_PutLittle.l0]
    rw [if_neg (by omega)]
    have : i = n := by omega
    subst this
    rw [← hl, List.drop_length, List.append_nil]; rfl
  | succ d ih =>
    intro k i h1 h2 h3
    obtain ⟨k, rfl⟩ : ∃ m, k = m + 1 := ⟨k - 1, by omega⟩
    simp only [escutcheonref1_PutLittle.l0]
    have hb := div_bd v hv i
    have hlen := fill_len (fun j => v / 256 ^ j % 256) xs i (by omega)
    rw [hlen, if_pos (by omega), if_pos (by omega), if_pos (by omega), and255 _ hb.1 (by omega), Int.tdiv_eq_ediv_of_nonneg hb.1, wu64 (by omega) (by omega), wrap64_succ (n := n) (by omega) (by omega), Int.toNat_natCast, div_pow]
    have e : v / 256 ^ i % 256 % 256 = v / 256 ^ i % 256 := by omega
    rw [e, fill_front (fun j => v / 256 ^ j % 256) _ _ (by omega)]
    exact ih k (i + 1) (by omega) (by omega) (by omega)
theorem refPutLittle_f (v : Int) (hv : 0 ≤ v ∧ v ≤ 18446744073709551615) (n : Nat) (h1 : 1 ≤ n) (h8 : n ≤ 8) (k : Nat) (hk : n + 1 < k) : escutcheonref1_PutLittle.f k v (n : Int) = some (strOfNums (littleL v n)) := by
  obtain ⟨k, rfl⟩ : ∃ m, k = m + 1 := ⟨k - 1, by omega⟩
  unfold escutcheonref1_PutLittle.f
  rw [if_neg (by omega)]
  simp only [escutcheonref1_PutLittle.j0]
  rw [if_neg (by simp; omega), if_pos (by omega), Int.toNat_natCast, if_pos (by omega)]
  have := refPutLittle_l0 v hv n h8 (List.replicate n 0) (by simp) n k 0 (by omega) (by omega) (by omega)
  simpa using this
theorem plus_byte (v c : Int) (hv : 0 ≤ v) (hv2 : v < 2 ^ 56) (hc : 0 ≤ c ∧ c ≤ 255) : IntKind.u64.wrap (IntKind.u64.wrap (v * 256) + IntKind.u64.wrap c) = v * 256 + c := by
  rw [wu64 (n := v * 256) (by omega) (by omega), wu64 (n := c) (by omega) (by omega), wu64 (by omega) (by omega)]
theorem refLittle_l0 (b : ByteArray) (d : Nat) : ∀ (k : Nat) (l : List UInt8), d ≤ b.size → d ≤ 8 → l = ((L b).take 8).reverse.take (min b.size 8 - d) → d ≤ min b.size 8 → d < k →
    escutcheonref1_Little.l0 k b (num l) ((d : Int) - 1) = some (num ((L b).take 8).reverse) := by
  induction d with
  | zero =>
    intro k l h0 h1 h2 h3 h4
    obtain ⟨k, rfl⟩ : ∃ m, k = m + 1 := ⟨k - 1, by omega⟩
    simp only [escutcheonref1_Little.l0]
    rw [if_neg (by omega), h2, List.take_of_length_le (by simp [L_len]; omega)]
  | succ d ih =>
    intro k l h0 h1 h2 h3 h4
    obtain ⟨k, rfl⟩ : ∃ m, k = m + 1 := ⟨k - 1, by omega⟩
    simp only [escutcheonref1_Little.l0]
    have hll : l.length = min b.size 8 - (d + 1) := by rw [h2, List.length_take, List.length_reverse, List.length_take, L_len]; omega
    have hb := num_bd l
    have h7 : (256 : Int) ^ l.length ≤ 256 ^ 7 := pow256_le (by omega)
    have hr := bt_range b (((d + 1 : Nat) : Int) - 1)
    rw [if_pos (by omega), if_pos (by omega), if_pos (by omega), plus_byte _ _ hb.1 (by omega) hr, w64 (by omega) (by omega)]
    have hd : d < ((L b).take 8).length := by rw [List.length_take, L_len]; omega
    have hrev : ((L b).take 8).reverse.take (min b.size 8 - d) = l ++ [((L b).take 8)[d]] := by
      have e : min b.size 8 - d = (min b.size 8 - (d + 1)) + 1 := by omega
      have hlt : min b.size 8 - (d + 1) < ((L b).take 8).reverse.length := by rw [List.length_reverse, List.length_take, L_len]; omega
      rw [e, List.take_succ_eq_append_getElem hlt, ← h2]
      congr 2
      rw [List.getElem_reverse]
      congr 1
      rw [List.length_take, L_len]; omega
    have hbt : bt b (((d + 1 : Nat) : Int) - 1) = ((((L b).take 8)[d]).toNat : Int) := by
      have e : (((d + 1 : Nat) : Int) - 1).toNat = d := by omega
      rw [bt_L, e, List.getElem_take, List.getElem?_eq_getElem (by rw [L_len]; omega)]; rfl
    rw [hbt, ← num_snoc, ← hrev]
    have e2 : ((d + 1 : Nat) : Int) - 1 - 1 = (d : Int) - 1 := by omega
    rw [e2]
    exact ih k _ (by omega) (by omega) rfl (by omega) (by omega)
theorem refLittle_f (b : ByteArray) (k : Nat) (hk : 8 < k) : escutcheonref1_Little.f k b = some (num ((L b).take 8).reverse) := by
  unfold escutcheonref1_Little.f
  have hm : mn (b.size : Int) 8 = ((min b.size 8 : Nat) : Int) := by unfold mn; split <;> omega
  rw [hm]
  have := refLittle_l0 b (min b.size 8) k [] (by omega) (by omega) (by rw [Nat.sub_self]; rfl) (Nat.le_refl _) (by omega)
  exact this
end Go.Proofs.Ytdnlenhkagfiaaa.B
