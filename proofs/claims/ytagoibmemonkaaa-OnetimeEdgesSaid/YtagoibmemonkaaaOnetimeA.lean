/- octet's Little and PutLittle, Fill, alive, in the seat of onetime (out of StreamA, StreamC) -/
import Derived.Test.YtagoibmemonkaaaBase
import Derived.Test.YtagoibmemonkaaaBits
import Derived.Test.YtagoibmemonkaaaPx1
import Derived.Test.YtagoibmemonkaaaPx2
import Derived.Test.YtagoibmemonkaaaPx3
import Derived.Test.YtagoibmemonkaaaPx5
namespace Go.Proofs.Ytagoibmemonkaaa.B
open Go.RowKit Go.Proofs.Ytagoibmemonkaaa.P Go.Proofs.YtagoibmemonkaaaW.PrintWords Go.Proofs.YtagoibmemonkaaaW.PrintLast Go.Proofs.YtagoibmemonkaaaW.PrintMore
set_option linter.unusedVariables false
set_option linter.unusedSimpArgs false

def littleL (v : Int) (n : Nat) : List Int := (List.range n).map fun j => v / 256 ^ j % 256
def bigL (v : Int) (n : Nat) : List Int := (List.range n).map fun j => v / 256 ^ (n - 1 - j) % 256
theorem bigL_len (v : Int) (n : Nat) : (bigL v n).length = n := by simp [bigL]
theorem littleL_len (v : Int) (n : Nat) : (littleL v n).length = n := by simp [littleL]
theorem bigL_get (v : Int) (n j : Nat) (h : j < n) : (bigL v n).getD j 0 = v / 256 ^ (n - 1 - j) % 256 := by
  simp [bigL, List.getD_eq_getElem?_getD, h]
theorem littleL_get (v : Int) (n j : Nat) (h : j < n) : (littleL v n).getD j 0 = v / 256 ^ j % 256 := by
  simp [littleL, List.getD_eq_getElem?_getD, h]
theorem bigL_rev (v : Int) (n : Nat) : bigL v n = (littleL v n).reverse := by
  apply List.ext_getElem
  · simp [bigL_len, littleL_len]
  · intro i h1 h2
    simp [bigL, littleL]
theorem littleL_range (v : Int) (n : Nat) : ∀ x ∈ littleL v n, 0 ≤ x ∧ x ≤ 255 := by
  intro x hx
  simp only [littleL, List.mem_map, List.mem_range] at hx
  obtain ⟨j, _, rfl⟩ := hx
  omega
theorem putLittle_l0 (v : Int) (n : Nat) (hn : n ≤ 8) (xs : List Int) (hl : xs.length = n) (d : Nat) : ∀ (k i : Nat), i ≤ n → n - i = d → d < k →
    octet_PutLittle.l0 k v ((List.range i).map (fun j => v / 256 ^ j % 256) ++ xs.drop i) (n : Int) (i : Int) = some (strOfNums (littleL v n)) := by
  induction d with
  | zero =>
    intro k i h1 h2 h3
    obtain ⟨k, rfl⟩ : ∃ m, k = m + 1 := ⟨k - 1, by omega⟩
    simp only [octet_PutLittle.l0]
    rw [if_neg (by omega)]
    have : i = n := by omega
    subst this
    rw [← hl, List.drop_length, List.append_nil]; rfl
  | succ d ih =>
    intro k i h1 h2 h3
    obtain ⟨k, rfl⟩ : ∃ m, k = m + 1 := ⟨k - 1, by omega⟩
    simp only [octet_PutLittle.l0]
    have hlen := fill_len (fun j => v / 256 ^ j % 256) xs i (by omega)
    rw [w64 (n := 8 * (i : Int)) (by omega) (by omega), hlen]
    rw [if_pos (by omega), if_pos (by omega), if_pos (by omega), if_pos (by omega), wrap64_succ (n := n) (by omega) (by omega), shr64 _ _ (by omega), Int.toNat_natCast, fill_front (fun j => v / 256 ^ j % 256) _ _ (by omega)]
    exact ih k (i + 1) (by omega) (by omega) (by omega)
theorem putLittle_f (v : Int) (n : Nat) (h1 : 1 ≤ n) (h8 : n ≤ 8) (k : Nat) (hk : n + 1 < k) : octet_PutLittle.f k v (n : Int) = some (strOfNums (littleL v n)) := by
  obtain ⟨k, rfl⟩ : ∃ m, k = m + 1 := ⟨k - 1, by omega⟩
  unfold octet_PutLittle.f
  rw [if_neg (by omega)]
  simp only [octet_PutLittle.j0]
  rw [if_neg (by simp; omega), if_pos (by omega), Int.toNat_natCast, if_pos (by omega)]
  simp only [Option.bind_some, List.length_replicate]
  have := putLittle_l0 v n h8 (List.replicate n 0) (by simp) n k 0 (by omega) (by omega) (by omega)
  simpa using this
def num (l : List UInt8) : Int := l.foldl (fun v c => v * 256 + (c.toNat : Int)) 0
theorem num_snoc (l : List UInt8) (c : UInt8) : num (l ++ [c]) = num l * 256 + (c.toNat : Int) := by simp [num, List.foldl_append]
theorem snoc_ind {α : Type} {motive : List α → Prop} (h0 : motive []) (hs : ∀ l c, motive l → motive (l ++ [c])) (l : List α) : motive l := by
  rw [← l.reverse_reverse]
  induction l.reverse with
  | nil => exact h0
  | cons c r ih => rw [List.reverse_cons]; exact hs _ _ ih
theorem pow256_le {a b : Nat} (h : a ≤ b) : (256 : Int) ^ a ≤ 256 ^ b := by
  have h2 : ((256 ^ a : Nat) : Int) ≤ ((256 ^ b : Nat) : Int) := Int.ofNat_le.2 (Nat.pow_le_pow_right (n := 256) (by decide) h)
  rw [Int.natCast_pow, Int.natCast_pow] at h2
  exact h2
theorem num_bd (l : List UInt8) : 0 ≤ num l ∧ num l < 256 ^ l.length := by
  induction l using snoc_ind with
  | h0 => exact ⟨by decide, by decide⟩
  | hs l c ih =>
    rw [num_snoc, List.length_append, List.length_singleton, Int.pow_succ]
    have := c.toNat_lt
    omega
theorem little_l0 (b : ByteArray) (d : Nat) : ∀ (k : Nat) (l : List UInt8), d ≤ b.size → d ≤ 8 → l = ((L b).take 8).reverse.take (min b.size 8 - d) → d ≤ min b.size 8 → d < k →
    octet_Little.l0 k b (num l) ((d : Int) - 1) = some (num ((L b).take 8).reverse) := by
  induction d with
  | zero =>
    intro k l h0 h1 h2 h3 h4
    obtain ⟨k, rfl⟩ : ∃ m, k = m + 1 := ⟨k - 1, by omega⟩
    simp only [octet_Little.l0]
    rw [if_neg (by omega), h2, List.take_of_length_le (by simp [L_len]; omega)]
  | succ d ih =>
    intro k l h0 h1 h2 h3 h4
    obtain ⟨k, rfl⟩ : ∃ m, k = m + 1 := ⟨k - 1, by omega⟩
    simp only [octet_Little.l0]
    have hll : l.length = min b.size 8 - (d + 1) := by rw [h2, List.length_take, List.length_reverse, List.length_take, L_len]; omega
    have hb := num_bd l
    have h7 : (256 : Int) ^ l.length ≤ 256 ^ 7 := pow256_le (by omega)
    have hr := bt_range b (((d + 1 : Nat) : Int) - 1)
    rw [if_pos (by omega), if_pos (by omega), if_pos (by omega), or_byte _ _ hb.1 (by omega) hr, w64 (by omega) (by omega)]
    have hd : d < ((L b).take 8).length := by rw [List.length_take, L_len]; omega
    have hrev : ((L b).take 8).reverse.take (min b.size 8 - d) = l ++ [((L b).take 8)[d]] := by
      have e : min b.size 8 - d = (min b.size 8 - (d + 1)) + 1 := by omega
      have hlt : min b.size 8 - (d + 1) < ((L b).take 8).reverse.length := by rw [List.length_reverse, List.length_take, L_len]; omega
      rw [e, List.take_succ_eq_append_getElem hlt, ← h2]
      congr 2
      rw [List.getElem_reverse]
      congr 1
      rw [List.length_take, L_len]; omega
    have hbt : bt b (((d + 1 : Nat) : Int) - 1) = ((((L b).take 8)[d]).toNat : Int) := by
      have e : (((d + 1 : Nat) : Int) - 1).toNat = d := by omega
      rw [bt_L, e, List.getElem_take, List.getElem?_eq_getElem (by rw [L_len]; omega)]; rfl
    rw [hbt, ← num_snoc, ← hrev]
    have e2 : ((d + 1 : Nat) : Int) - 1 - 1 = (d : Int) - 1 := by omega
    rw [e2]
    exact ih k _ (by omega) (by omega) rfl (by omega) (by omega)
theorem little_f (b : ByteArray) (k : Nat) (hk : 8 < k) : octet_Little.f k b = some (num ((L b).take 8).reverse) := by
  unfold octet_Little.f
  have hm : mn (b.size : Int) 8 = ((min b.size 8 : Nat) : Int) := by unfold mn; split <;> omega
  rw [hm]
  have := little_l0 b (min b.size 8) k [] (by omega) (by omega) (by rw [Nat.sub_self]; rfl) (Nat.le_refl _) (by omega)
  exact this
def bytesOf (l : List Int) : List UInt8 := l.map fun n => UInt8.ofNat n.toNat
theorem bigL_succ (v : Int) (hv : 0 ≤ v) (n : Nat) : bigL v (n + 1) = bigL (v / 256) n ++ [v % 256] := by
  unfold bigL
  rw [List.range_succ, List.map_append, List.map_singleton]
  congr 1
  · apply List.map_congr_left
    intro j hj
    have hj' : j < n := by simpa using hj
    have e : n + 1 - 1 - j = (n - 1 - j) + 1 := by omega
    rw [e, Int.pow_succ, Int.mul_comm, ← Int.ediv_ediv_of_nonneg (by decide)]
  · have e : n + 1 - 1 - n = 0 := by omega
    rw [e, Int.pow_zero, Int.ediv_one]
theorem split_mod (v p : Int) (hv : 0 ≤ v) (hp : 0 < p) : v / 256 % p * 256 + v % 256 = v % (p * 256) := by
  have h1 := Int.mul_ediv_add_emod v 256
  have h2 := Int.mul_ediv_add_emod (v / 256) p
  have h3 := Int.emod_nonneg (v / 256) (show p ≠ 0 by omega)
  have h4 := Int.emod_lt_of_pos (v / 256) hp
  have h5 : v = p * 256 * (v / 256 / p) + (v / 256 % p * 256 + v % 256) := by
    have e : p * 256 * (v / 256 / p) = 256 * (p * (v / 256 / p)) := by rw [Int.mul_comm p 256, Int.mul_assoc]
    rw [e]; omega
  have h6 : v / 256 % p * 256 + v % 256 < p * 256 := by omega
  conv => rhs; rw [h5]
  rw [Int.mul_add_emod_self_left, Int.emod_eq_of_lt (by omega) h6]
theorem num_big (n : Nat) : ∀ v : Int, 0 ≤ v → num (bytesOf (bigL v n)) = v % 256 ^ n := by
  induction n with
  | zero => intro v _; rw [Int.pow_zero, Int.emod_one]; rfl
  | succ n ih =>
    intro v hv
    rw [bigL_succ v hv, bytesOf, List.map_append, List.map_singleton, num_snoc, ← bytesOf, ih _ (by omega)]
    have e : ((UInt8.ofNat (v % 256).toNat).toNat : Int) = v % 256 := by
      simp only [UInt8.toNat_ofNat']; omega
    have hp : (0 : Int) < 256 ^ n := Int.pow_pos (by decide)
    rw [e, Int.pow_succ]
    generalize (256 : Int) ^ n = p at *
    exact split_mod v p hv hp
theorem L_big (v : Int) (n : Nat) : L (strOfNums (bigL v n)) = bytesOf (bigL v n) := L_nums _
theorem L_little (v : Int) (n : Nat) : L (strOfNums (littleL v n)) = (bytesOf (bigL v n)).reverse := by
  rw [L_nums, bigL_rev, bytesOf, List.map_reverse, List.reverse_reverse]
theorem size_little (v : Int) (n : Nat) : (strOfNums (littleL v n)).size = n := by rw [size_nums, littleL_len]
theorem little_little (v : Int) (n : Nat) (hn : n ≤ 8) (hv : 0 ≤ v) (k : Nat) (hk : 8 < k) : octet_Little.f k (strOfNums (littleL v n)) = some (v % 256 ^ n) := by
  have hl : (bytesOf (bigL v n)).reverse.length ≤ 8 := by simp [bytesOf, bigL_len]; exact hn
  rw [little_f _ _ hk, L_little, List.take_of_length_le hl, List.reverse_reverse, num_big _ _ hv]
def fillL (s : ByteArray) (n : Nat) : List UInt8 := (L s ++ List.replicate n 0).take n
def fillS (s : ByteArray) (n : Nat) : ByteArray := ⟨(fillL s n).toArray⟩
theorem fillS_size (s : ByteArray) (n : Nat) : (fillS s n).size = n := by
  show (fillL s n).length = n
  simp [fillL]
theorem fill_l (n : Nat) (hn : n ≤ 1000) : ∀ (d : Nat) (s : ByteArray) (k : Nat), d = n - s.size → s.size ≤ 140737488351232 → d + 1 ≤ k → escutcheonlaw5_Fill.l0 k s n = some (fillS s n) := by
  intro d
  induction d with
  | zero =>
    intro s k hd hs hk
    obtain ⟨k, rfl⟩ : ∃ k', k = k' + 1 := ⟨k - 1, by omega⟩
    rw [escutcheonlaw5_Fill.l0, if_neg (by omega), if_pos (by omega), if_pos (by omega), Int.toNat_natCast]
    congr 1
    apply L_ext
    rw [L_ext_, List.drop_zero]
    show _ = fillL s n
    unfold fillL
    rw [List.take_append_of_le_length (by rw [L_len]; omega)]
  | succ d ih =>
    intro s k hd hs hk
    obtain ⟨k, rfl⟩ : ∃ k', k = k' + 1 := ⟨k - 1, by omega⟩
    have h1 : (s ++ (⟨#[0]⟩ : ByteArray)).size = s.size + 1 := by rw [size_app]; rfl
    rw [escutcheonlaw5_Fill.l0, if_pos (by omega), if_pos (by omega), ih _ k (by omega) (by omega) (by omega)]
    congr 1
    apply L_ext
    show fillL _ n = fillL s n
    unfold fillL
    rw [L_app, show L (⟨#[0]⟩ : ByteArray) = [0] from rfl, List.append_assoc, List.singleton_append, ← List.replicate_succ, List.take_append, List.take_append, List.take_replicate, List.take_replicate]
    rw [show min (n - (L s).length) (n + 1) = min (n - (L s).length) n by omega]
theorem fill_f (s : ByteArray) (n : Nat) (hn : n ≤ 1000) (hs : s.size ≤ 140737488351232) (k : Nat) (hk : n + 1 ≤ k) : escutcheonlaw5_Fill.f k s n = some (fillS s n) :=
  fill_l n hn _ s k rfl hs (by omega)

theorem alive_k (k : Nat) (h : 140 ≤ k) : escutcheonlaw6_alive.f k = some true := at_rounds escutcheonlaw6_alive.mono h (by decide +kernel)
end Go.Proofs.Ytagoibmemonkaaa.B
