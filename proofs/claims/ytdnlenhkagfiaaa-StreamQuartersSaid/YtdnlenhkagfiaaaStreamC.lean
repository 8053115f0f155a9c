/- Fill, Block, Xor and the document's Stream as plain functions. No condition. -/
import Derived.Test.YtdnlenhkagfiaaaStreamB
namespace Go.Proofs.Ytdnlenhkagfiaaa.B
open Go.RowKit Go.Proofs.Ytdnlenhkagfiaaa.P Go.Proofs.YtdnlenhkagfiaaaW.PrintWords Go.Proofs.YtdnlenhkagfiaaaW.PrintLast Go.Proofs.YtdnlenhkagfiaaaW.PrintMore
set_option linter.unusedVariables false
set_option linter.unusedSimpArgs false

theorem alive_k (k : Nat) (h : 40 ≤ k) : escutcheonlaw5_alive.f k = some true := at_rounds escutcheonlaw5_alive.mono h (by decide +kernel)
def fillL (s : ByteArray) (n : Nat) : List UInt8 := (L s ++ List.replicate n 0).take n
def fillS (s : ByteArray) (n : Nat) : ByteArray := ⟨(fillL s n).toArray⟩
theorem fillS_size (s : ByteArray) (n : Nat) : (fillS s n).size = n := by
  show (fillL s n).length = n
  simp [fillL]
theorem fill_l (n : Nat) (hn : n ≤ 1000) : ∀ (d : Nat) (s : ByteArray) (k : Nat), d = n - s.size → s.size ≤ 140737488351232 → d + 1 ≤ k → escutcheonlaw5_Fill.l0 k s n = some (fillS s n) := by
  intro d
  induction d with
  | zero =>
    intro s k hd hs hk
    obtain ⟨k, rfl⟩ : ∃ k', k = k' + 1 := ⟨k - 1, by omega⟩
    rw [escutcheonlaw5_Fill.l0, if_neg (by omega), if_pos (by omega), if_pos (by omega), Int.toNat_natCast]
    congr 1
    apply L_ext
    rw [L_ext_, List.drop_zero]
    show _ = fillL s n
    unfold fillL
    rw [List.take_append_of_le_length (by rw [L_len]; omega)]
  | succ d ih =>
    intro s k hd hs hk
    obtain ⟨k, rfl⟩ : ∃ k', k = k' + 1 := ⟨k - 1, by omega⟩
    have h1 : (s ++ (⟨#[0]⟩ : ByteArray)).size = s.size + 1 := by rw [size_app]; rfl
    rw [escutcheonlaw5_Fill.l0, if_pos (by omega), if_pos (by omega), ih _ k (by omega) (by omega) (by omega)]
    congr 1
    apply L_ext
    show fillL _ n = fillL s n
    unfold fillL
    rw [L_app, show L (⟨#[0]⟩ : ByteArray) = [0] from rfl, List.append_assoc, List.singleton_append, ← List.replicate_succ, List.take_append, List.take_append, List.take_replicate, List.take_replicate]
    rw [show min (n - (L s).length) (n + 1) = min (n - (L s).length) n by omega]
theorem fill_f (s : ByteArray) (n : Nat) (hn : n ≤ 1000) (hs : s.size ≤ 140737488351232) (k : Nat) (hk : n + 1 ≤ k) : escutcheonlaw5_Fill.f k s n = some (fillS s n) :=
  fill_l n hn _ s k rfl hs (by omega)
theorem right_f (a b : ByteArray) : stream_right.f a b = some (decide (a.size = 32 ∧ b.size = 12)) := by
  unfold stream_right.f
  by_cases h : a.size = 32
  · rw [if_pos (by omega)]
    congr 1
    by_cases h2 : b.size = 12
    · simp [h, h2]
    · rw [decide_eq_false (by omega)]; simp; omega
  · rw [if_neg (by omega), decide_eq_false (by omega)]
theorem Block_f (key : ByteArray) (c : Int) (nonce : ByteArray) (hc : R32 c) (k : Nat) (hk : 8 < k) : stream_Block.f k key c nonce = some (if key.size = 32 ∧ nonce.size = 12 then (blkS key c nonce, true) else ((⟨#[]⟩ : ByteArray), false)) := by
  unfold stream_Block.f
  rw [right_f, Option.bind_some]
  by_cases h : key.size = 32 ∧ nonce.size = 12
  · rw [if_pos (by simpa using h), if_pos h, block_f key c nonce h.1 h.2 hc k hk]; rfl
  · rw [if_neg (by simpa using h), if_neg h]
/-- Bytes hidden, block by block. -/
def xs (key nonce : ByteArray) : Nat → Int → List UInt8 → List UInt8
  | 0, _, _ => []
  | n + 1, c, l => List.zipWith (· ^^^ ·) (l.take 64) (blkL key c nonce) ++ xs key nonce n ((c + 1) % 4294967296) (l.drop 64)
theorem xs_nil (key nonce : ByteArray) : ∀ (n : Nat) (c : Int), xs key nonce n c [] = []
  | 0, _ => rfl
  | n + 1, c => by rw [xs, List.drop_nil, xs_nil key nonce n]; rfl
set_option maxHeartbeats 1000000 in
theorem go_f (key nonce : ByteArray) (hk : key.size = 32) (hn : nonce.size = 12) (k : Nat) (hf : 100 ≤ k) : ∀ (n : Nat) (c : Int) (b : ByteArray) (acc : List UInt8) (m : Nat), R32 c → b.size ≤ 64 * n → b.size ≤ 64 * m → acc.length + b.size ≤ 1000000 →
    stream_Xor.go k key nonce (n + 1) c b acc = some (acc ++ xs key nonce m c (L b)) := by
  intro n
  induction n with
  | zero =>
    intro c b acc m hc h h2 h3
    have h0 : b.size = 0 := by omega
    rw [stream_Xor.go, if_pos h0, size_zero h0, L_nil, xs_nil, List.append_nil]
  | succ n ih =>
    intro c b acc m hc h1 h2 h3
    rw [stream_Xor.go]
    by_cases h0 : b.size = 0
    · rw [if_pos h0, size_zero h0, L_nil, xs_nil, List.append_nil]
    · rw [if_neg h0]
      obtain ⟨m, rfl⟩ : ∃ m', m = m' + 1 := ⟨m - 1, by omega⟩
      have hc1 := hc.1
      have hc2 := hc.2
      have ec : (((c + 1) % 4294967296 - 1) % 4294967296) = c := by omega
      have hes : (b.extract 0 (min b.size 64)).size = min b.size 64 := by rw [size_ext]; omega
      rw [ec, block_f key c nonce hk hn hc k (by omega), Option.bind_some, xor_f _ _ (by omega) k (by rw [hes, blkS_size]; omega), Option.bind_some, if_pos (by rw [size_xor, hes, blkS_size]; omega)]
      have ht : L (strOfNums (xorL (b.extract 0 (min b.size 64)) (blkS key c nonce))) = List.zipWith (· ^^^ ·) ((L b).take 64) (blkL key c nonce) := by
        rw [L_xor, L_ext_, List.drop_zero]
        show List.zipWith _ (List.take (min b.size 64) (L b)) (blkL key c nonce) = _
        congr 1
        by_cases h : b.size ≤ 64
        · rw [show min b.size 64 = b.size by omega, List.take_of_length_le (by rw [L_len]; omega), List.take_of_length_le (by rw [L_len]; omega)]
        · rw [show min b.size 64 = 64 by omega]
      have hd : L (b.extract (min b.size 64) b.size) = (L b).drop 64 := by
        rw [L_ext_, List.take_of_length_le (by rw [L_len]; omega)]
        by_cases h : b.size ≤ 64
        · rw [List.drop_of_length_le (by rw [L_len]; omega), List.drop_of_length_le (by rw [L_len]; omega)]
        · rw [show min b.size 64 = 64 by omega]
      have hds : (b.extract (min b.size 64) b.size).size = b.size - min b.size 64 := by rw [size_ext]; omega
      have hts : (strOfNums (xorL (b.extract 0 (min b.size 64)) (blkS key c nonce))).data.toList.length = min b.size 64 := by
        have : (strOfNums (xorL (b.extract 0 (min b.size 64)) (blkS key c nonce))).size = min b.size 64 := by rw [size_xor, hes, blkS_size]; omega
        exact this
      rw [ih _ _ _ m (r32_mod _) (by rw [hds]; omega) (by rw [hds]; omega) (by rw [List.length_append, hts, hds]; omega), hd, xs, ← ht, List.append_assoc]
      rfl
def xsS (key nonce : ByteArray) (m : Nat) (c : Int) (b : ByteArray) : ByteArray := ⟨(xs key nonce m c (L b)).toArray⟩
theorem Xor_f (key : ByteArray) (c : Int) (nonce b : ByteArray) (hc : R32 c) (hb : b.size ≤ 1000) (m : Nat) (hm : b.size ≤ 64 * m) (k : Nat) (hk : 100 ≤ k) : stream_Xor.f k key c nonce b = some (if key.size = 32 ∧ nonce.size = 12 then (xsS key nonce m c b, true) else ((⟨#[]⟩ : ByteArray), false)) := by
  unfold stream_Xor.f
  rw [right_f, Option.bind_some]
  by_cases h : key.size = 32 ∧ nonce.size = 12
  · obtain ⟨k', rfl⟩ : ∃ k', k = k' + 1 := ⟨k - 1, by omega⟩
    rw [if_pos (by simpa using h), if_pos h, if_pos (by omega), go_f key nonce h.1 h.2 (k' + 1) hk k' c b [] m hc (by omega) hm (by simp; omega), List.nil_append]; rfl
  · rw [if_neg (by simpa using h), if_neg h]
theorem zip_take (l r : List UInt8) (hr : r.length = 64) : List.zipWith (· ^^^ ·) l r = List.zipWith (· ^^^ ·) (l.take 64) r := by
  have h : (List.zipWith (· ^^^ ·) l r).take 64 = List.zipWith (· ^^^ ·) (l.take 64) (r.take 64) := List.take_zipWith
  rw [List.take_of_length_le (by rw [List.length_zipWith]; omega), List.take_of_length_le (l := r) (by omega)] at h
  exact h
theorem refStream_l (key nonce b : ByteArray) (hk : key.size = 32) (hn : nonce.size = 12) (hb : b.size ≤ 1000) : ∀ (m i : Nat) (c : Int) (out : ByteArray) (k : Nat), b.size ≤ 64 * i + 64 * m → 64 * i ≤ b.size + 64 → out.size ≤ 64 * i → R32 c → 1100 + m ≤ k →
    escutcheonref1_Stream.l0 k key c nonce b out ((64 * i : Nat) : Int) = some ⟨(L out ++ xs key nonce m c ((L b).drop (64 * i))).toArray⟩ := by
  intro m
  induction m with
  | zero =>
    intro i c out k h1 h2 h3 hc hf
    obtain ⟨k, rfl⟩ : ∃ k', k = k' + 1 := ⟨k - 1, by omega⟩
    rw [escutcheonref1_Stream.l0, if_neg (by omega), xs, List.append_nil]; rfl
  | succ m ih =>
    intro i c out k h1 h2 h3 hc hf
    obtain ⟨k, rfl⟩ : ∃ k', k = k' + 1 := ⟨k - 1, by omega⟩
    rw [escutcheonref1_Stream.l0]
    by_cases h : 64 * i < b.size
    · have hes : (b.extract (64 * i) b.size).size = b.size - 64 * i := by rw [size_ext]; omega
      rw [if_pos (by omega), if_pos (by omega), if_pos (by omega), refBlock_f key c nonce hk hn k (by omega), Option.bind_some, Int.toNat_natCast, refXor_f _ _ (by omega) k (by rw [hes, blkS_size]; omega), Option.bind_some]
      have hts : (strOfNums (xorL (b.extract (64 * i) b.size) (blkS key c nonce))).size ≤ 64 := by rw [size_xor, blkS_size]; omega
      rw [if_pos (by omega), show wrap64 (((64 * i : Nat) : Int) + 64) = ((64 * (i + 1) : Nat) : Int) by rw [w64 (by omega) (by omega)]; omega, ih (i + 1) _ _ k (by omega) (by omega) (by rw [size_app]; omega) (r32_mod _) (by omega)]
      rw [L_app, xs, L_xor, L_ext_, List.take_of_length_le (by rw [L_len]; omega), List.append_assoc, List.drop_drop, show 64 * i + 64 = 64 * (i + 1) by omega]
      rw [show L (blkS key c nonce) = blkL key c nonce from rfl, zip_take _ _ (blkL_len key c nonce)]
    · rw [if_neg (by omega), List.drop_of_length_le (by rw [L_len]; omega), xs_nil, List.append_nil]; rfl
theorem refStream_f (key : ByteArray) (c : Int) (nonce b : ByteArray) (hk : key.size = 32) (hn : nonce.size = 12) (hc : R32 c) (hb : b.size ≤ 1000) (m : Nat) (hm : b.size ≤ 64 * m) (k : Nat) (hf : 1100 + m ≤ k) : escutcheonref1_Stream.f k key c nonce b = some (xsS key nonce m c b) := by
  have := refStream_l key nonce b hk hn hb m 0 c (⟨#[]⟩ : ByteArray) k (by omega) (by omega) (Nat.le_refl _) hc hf
  rw [L_nil, List.nil_append, Nat.mul_zero, List.drop_zero] at this
  exact this
theorem xor_zero (l : List UInt8) : List.zipWith (· ^^^ ·) (List.replicate l.length 0) l = l := by
  induction l with
  | nil => rfl
  | cons x l ih => rw [List.length_cons, List.replicate_succ, List.zipWith_cons_cons, ih]; simp
theorem xs_zeros (key nonce : ByteArray) : ∀ (n : Nat) (c : Int), xs key nonce n c (List.replicate (64 * n) 0) = (List.range n).flatMap (fun j : Nat => blkL key ((c + (j : Int)) % 4294967296) nonce) ∨ ¬ R32 c := by
  intro n
  induction n with
  | zero => intro c; exact Or.inl rfl
  | succ n ih =>
    intro c
    by_cases hc : R32 c
    case neg => exact Or.inr hc
    refine Or.inl ?_
    have h := (ih ((c + 1) % 4294967296)).resolve_right (fun h => h (r32_mod _))
    have hc1 := hc.1
    have hc2 := hc.2
    have e : ∀ j : Nat, ((c + 1) % 4294967296 + (j : Int)) % 4294967296 = (c + ((j + 1 : Nat) : Int)) % 4294967296 := fun j => by omega
    have e2 : (fun j : Nat => blkL key (((c + 1) % 4294967296 + (j : Int)) % 4294967296) nonce) = (fun j : Nat => blkL key ((c + ((j + 1 : Nat) : Int)) % 4294967296) nonce) := funext fun j => by rw [e j]
    have e3 : (c + ((0 : Nat) : Int)) % 4294967296 = c := by omega
    rw [e2] at h
    have e4 : List.zipWith (· ^^^ ·) (List.replicate 64 0) (blkL key c nonce) = blkL key c nonce := by
      have := xor_zero (blkL key c nonce)
      rw [blkL_len] at this; exact this
    rw [xs, List.take_replicate, List.drop_replicate, show min 64 (64 * (n + 1)) = 64 by omega, e4, show 64 * (n + 1) - 64 = 64 * n by omega, h, List.range_succ_eq_map, List.flatMap_cons, List.flatMap_map, e3]
theorem xs_len (key nonce : ByteArray) : ∀ (n : Nat) (c : Int) (l : List UInt8), l.length ≤ 64 * n → (xs key nonce n c l).length = l.length := by
  intro n
  induction n with
  | zero => intro c l h; rw [xs]; simp; omega
  | succ n ih =>
    intro c l h
    rw [xs, List.length_append, List.length_zipWith, blkL_len, List.length_take, ih _ _ (by rw [List.length_drop]; omega), List.length_drop]; omega
theorem xor_both : ∀ (a b k : List UInt8), a.length = b.length → a.length ≤ k.length → List.zipWith (· ^^^ ·) (List.zipWith (· ^^^ ·) a k) (List.zipWith (· ^^^ ·) b k) = List.zipWith (· ^^^ ·) a b
  | [], _, _, _, _ => by simp
  | x :: a, [], _, h, _ => by simp at h
  | x :: a, y :: b, [], _, h => by simp at h
  | x :: a, y :: b, z :: k, h1, h2 => by
    simp only [List.zipWith_cons_cons]
    rw [xor_both a b k (by simpa using h1) (by simpa using h2)]
    congr 1
    apply UInt8.toNat_inj.mp
    simp only [UInt8.toNat_xor]
    rw [Nat.xor_assoc, Nat.xor_comm z.toNat, Nat.xor_assoc, Nat.xor_self, Nat.xor_zero]
theorem xs_both (key nonce : ByteArray) : ∀ (n : Nat) (c : Int) (a b : List UInt8), a.length = b.length → a.length ≤ 64 * n → List.zipWith (· ^^^ ·) (xs key nonce n c a) (xs key nonce n c b) = List.zipWith (· ^^^ ·) a b := by
  intro n
  induction n with
  | zero =>
    intro c a b h h2
    rw [List.eq_nil_of_length_eq_zero (show a.length = 0 by omega)]; rfl
  | succ n ih =>
    intro c a b h h2
    rw [xs, xs, List.zipWith_append (by simp [h]), ih _ _ _ (by simp [h]) (by rw [List.length_drop]; omega), xor_both _ _ _ (by simp [h]) (by rw [blkL_len, List.length_take]; omega), ← List.zipWith_append (by simp [h]), List.take_append_drop, List.take_append_drop]
end Go.Proofs.Ytdnlenhkagfiaaa.B
