/- ChaCha20's quarter, block and stream as plain functions, the program's and the document's. No condition. -/
import Derived.Test.YtdnlenhkagfiaaaStreamA
import Derived.Test.YtdnlenhkagfiaaaPx3
import Derived.Test.YtdnlenhkagfiaaaPx8
import Derived.Test.YtdnlenhkagfiaaaPx10
namespace Go.Proofs.Ytdnlenhkagfiaaa.B
open Go.RowKit Go.Proofs.Ytdnlenhkagfiaaa.P Go.Proofs.YtdnlenhkagfiaaaW.PrintWords Go.Proofs.YtdnlenhkagfiaaaW.PrintLast Go.Proofs.YtdnlenhkagfiaaaW.PrintMore
set_option linter.unusedVariables false
set_option linter.unusedSimpArgs false

def R32 (x : Int) : Prop := 0 ≤ x ∧ x ≤ 4294967295
theorem r32_mod (x : Int) : R32 (x % 4294967296) := by unfold R32; omega
theorem xor32 (x y : Int) : R32 (Go.bits .xor .u32 x y) := by
  unfold R32
  simp only [Go.bits, IntKind.wrap_u32]
  omega
/-- A quarter round. -/
def qF (a b c d : Int) : Int × Int × Int × Int :=
  let a1 := (a + b) % 4294967296; let d1 := rotl (Go.bits .xor .u32 d a1) 16
  let c1 := (c + d1) % 4294967296; let b1 := rotl (Go.bits .xor .u32 b c1) 12
  let a2 := (a1 + b1) % 4294967296; let d2 := rotl (Go.bits .xor .u32 d1 a2) 8
  let c2 := (c1 + d2) % 4294967296; let b2 := rotl (Go.bits .xor .u32 b1 c2) 7
  (a2, b2, c2, d2)
theorem qF_r (a b c d : Int) : R32 (qF a b c d).1 ∧ R32 (qF a b c d).2.1 ∧ R32 (qF a b c d).2.2.1 ∧ R32 (qF a b c d).2.2.2 :=
  ⟨r32_mod _, rotl_range _ _, r32_mod _, rotl_range _ _⟩
theorem quarter_f (a b c d : Int) : stream_Quarter.f a b c d = some (qF a b c d) := by
  unfold stream_Quarter.f
  rw [left_any _ 16 (xor32 _ _) (by omega), Option.bind_some, left_any _ 12 (xor32 _ _) (by omega), Option.bind_some, left_any _ 8 (xor32 _ _) (by omega), Option.bind_some, left_any _ 7 (xor32 _ _) (by omega), Option.bind_some]
  rfl
theorem refQuarter_f (a b c d : Int) : escutcheonref1_Quarter.f a b c d = some (qF a b c d) := by
  unfold escutcheonref1_Quarter.f
  rw [refLeft_f _ 16 (xor32 _ _) (by omega), Option.bind_some, refLeft_f _ 12 (xor32 _ _) (by omega), Option.bind_some, refLeft_f _ 8 (xor32 _ _) (by omega), Option.bind_some, refLeft_f _ 7 (xor32 _ _) (by omega), Option.bind_some]
  rfl
/-- Four words of sixteen mixed. -/
def mixF (x : List Int) (p : Nat × Nat × Nat × Nat) : List Int :=
  let r := qF (x.getD p.1 0) (x.getD p.2.1 0) (x.getD p.2.2.1 0) (x.getD p.2.2.2 0)
  (((x.set p.1 r.1).set p.2.1 r.2.1).set p.2.2.1 r.2.2.1).set p.2.2.2 r.2.2.2
theorem mixF_len (x : List Int) (p : Nat × Nat × Nat × Nat) : (mixF x p).length = x.length := by simp [mixF]
theorem mix_f (x : List Int) (p : Nat × Nat × Nat × Nat) : stream_block.mix x p = some (mixF x p) := by
  unfold stream_block.mix
  rw [quarter_f]; rfl
theorem mixes_f : ∀ (l : List (Nat × Nat × Nat × Nat)) (x : List Int), stream_block.mixes l x = some (l.foldl mixF x)
  | [], _ => rfl
  | p :: l, x => by rw [stream_block.mixes, mix_f, Option.bind_some, mixes_f l]; rfl
theorem folds_len (l : List (Nat × Nat × Nat × Nat)) (x : List Int) : (l.foldl mixF x).length = x.length := by
  induction l generalizing x with
  | nil => rfl
  | cons p l ih => rw [List.foldl_cons, ih, mixF_len]
/-- A word of a text's bytes. -/
def wordAt (s : ByteArray) (i : Nat) : Int := num ((L (s.extract (4 * i) (4 * i + 4))).take 8).reverse % 4294967296
theorem words_f (s : ByteArray) (k : Nat) (hk : 8 < k) : ∀ (n : Nat) (acc : List Int), stream_block.words k s n acc = some (acc ++ (List.range' acc.length n).map (wordAt s))
  | 0, acc => by simp [stream_block.words]
  | n + 1, acc => by
    rw [stream_block.words, little_f _ k hk, Option.bind_some, words_f s k hk n, List.range'_succ, List.map_cons, List.length_append, List.append_assoc]
    rfl
/-- The sixteen sums as bytes. -/
def outB (first x : List Int) (i : Nat) : List UInt8 := L (strOfNums (littleL ((x.getD i 0 + first.getD i 0) % 4294967296) 4))
theorem outB_len (first x : List Int) (i : Nat) : (outB first x i).length = 4 := by unfold outB; rw [L_len, size_little]
theorem outs_f (first x : List Int) (k : Nat) (hk : 5 < k) : ∀ (n i : Nat) (acc : List UInt8), acc.length + 4 * n ≤ 1000 → stream_block.outs k first x n i acc = some (acc ++ (List.range' i n).flatMap (outB first x))
  | 0, i, acc, _ => by simp [stream_block.outs]
  | n + 1, i, acc, h => by
    have hp := putLittle_f ((x.getD i 0 + first.getD i 0) % 4294967296) 4 (by omega) (by omega) k (by omega)
    rw [show ((4 : Nat) : Int) = 4 from rfl] at hp
    have hl : (strOfNums (littleL ((x.getD i 0 + first.getD i 0) % 4294967296) 4)).size = 4 := size_little _ _
    rw [stream_block.outs, hp, Option.bind_some, if_pos (by rw [hl]; omega), outs_f first x k hk n (i + 1) _ (by
      rw [List.length_append, show (strOfNums (littleL ((x.getD i 0 + first.getD i 0) % 4294967296) 4)).data.toList.length = 4 from hl]; omega), List.range'_succ, List.flatMap_cons, List.append_assoc]
    rfl
def consts : List Int := [1634760805, 857760878, 2036477234, 1797285236]
/-- The words that a block begins with. -/
def first16 (key : ByteArray) (c : Int) (nonce : ByteArray) : List Int := consts ++ (List.range 8).map (wordAt key) ++ [c] ++ (List.range 3).map (wordAt nonce)
theorem first16_len (key : ByteArray) (c : Int) (nonce : ByteArray) : (first16 key c nonce).length = 16 := by simp [first16, consts]
/-- A block's bytes. -/
def blkL (key : ByteArray) (c : Int) (nonce : ByteArray) : List UInt8 := (List.range 16).flatMap (outB (first16 key c nonce) (stream_block.all.foldl mixF (first16 key c nonce)))
theorem flat_len (f : Nat → List UInt8) (hf : ∀ i, (f i).length = 4) (l : List Nat) : (l.flatMap f).length = 4 * l.length := by
  induction l with
  | nil => rfl
  | cons i l ih => rw [List.flatMap_cons, List.length_append, hf, ih, List.length_cons]; omega
theorem blkL_len (key : ByteArray) (c : Int) (nonce : ByteArray) : (blkL key c nonce).length = 64 := by
  unfold blkL; rw [flat_len _ (outB_len _ _)]; rfl
def blkS (key : ByteArray) (c : Int) (nonce : ByteArray) : ByteArray := ⟨(blkL key c nonce).toArray⟩
theorem blkS_size (key : ByteArray) (c : Int) (nonce : ByteArray) : (blkS key c nonce).size = 64 := blkL_len key c nonce
/-- A word of a part of a text that is put together. -/
theorem wordAt_mid (a b c : ByteArray) (i j : Nat) (ha : a.size = 4 * j) (hb : 4 * i + 4 ≤ b.size) : wordAt (a ++ b ++ c) (j + i) = wordAt b i := by
  unfold wordAt
  have : L ((a ++ b ++ c).extract (4 * (j + i)) (4 * (j + i) + 4)) = L (b.extract (4 * i) (4 * i + 4)) := by
    rw [L_ext_, L_ext_, L_app, L_app]
    have hal : (L a).length = 4 * j := by rw [L_len, ha]
    have hbl : (L b).length = b.size := L_len b
    rw [List.append_assoc, List.take_append, List.drop_append, List.length_take, hal, List.take_of_length_le (by omega), List.drop_of_length_le (by omega), List.nil_append, show 4 * (j + i) + 4 - 4 * j = 4 * i + 4 by omega, List.take_append_of_le_length (by omega), show 4 * (j + i) - min (4 * (j + i) + 4) (4 * j) = 4 * i by omega]
  rw [this]
theorem split16 (g : Nat → Int) : (List.range' 0 16).map g = (List.range 4).map g ++ (List.range 8).map (fun i => g (4 + i)) ++ [g 12] ++ (List.range 3).map (fun i => g (13 + i)) := rfl
theorem begin_size : stream_block.begin_.size = 16 := rfl
theorem word_begin (key nonce c : ByteArray) (i : Nat) (hi : i < 4) : wordAt (stream_block.begin_ ++ key ++ c ++ nonce) i = consts.getD i 0 := by
  have e := wordAt_mid (⟨#[]⟩ : ByteArray) stream_block.begin_ (key ++ c ++ nonce) i 0 rfl (by rw [begin_size]; omega)
  rw [empty_app, Nat.zero_add] at e
  have e2 : stream_block.begin_ ++ key ++ c ++ nonce = stream_block.begin_ ++ (key ++ c ++ nonce) := by apply L_ext; simp only [L_app, List.append_assoc]
  rw [e2, e]
  have : ∀ i : Fin 4, wordAt stream_block.begin_ i.val = consts.getD i.val 0 := by decide +kernel
  exact this ⟨i, hi⟩
theorem word_key (key nonce c : ByteArray) (hk : key.size = 32) (i : Nat) (hi : i < 8) : wordAt (stream_block.begin_ ++ key ++ c ++ nonce) (4 + i) = wordAt key i := by
  have e := wordAt_mid stream_block.begin_ key (c ++ nonce) i 4 begin_size (by omega)
  have e2 : stream_block.begin_ ++ key ++ c ++ nonce = stream_block.begin_ ++ key ++ (c ++ nonce) := by apply L_ext; simp only [L_app, List.append_assoc]
  rw [e2, e]
theorem word_little (c : Int) (hc : R32 c) : wordAt (strOfNums (littleL c 4)) 0 = c := by
  have hs := size_little c 4
  unfold wordAt
  have h := little_little c 4 (by omega) hc.1 9 (by omega)
  rw [little_f _ 9 (by omega)] at h
  replace h := Option.some.inj h
  rw [show (256 : Int) ^ 4 = 4294967296 by decide] at h
  have e : (strOfNums (littleL c 4)).extract (4 * 0) (4 * 0 + 4) = strOfNums (littleL c 4) := by
    apply L_ext; rw [L_ext_]; simp only [Nat.mul_zero, Nat.zero_add, List.drop_zero]; exact List.take_of_length_le (by rw [L_len, hs]; omega)
  rw [e, h]
  have h1 := hc.1
  have h2 := hc.2
  clear h e hs hc
  omega
theorem word_count (key nonce : ByteArray) (hk : key.size = 32) (c : Int) (hc : R32 c) : wordAt (stream_block.begin_ ++ key ++ strOfNums (littleL c 4) ++ nonce) 12 = c := by
  have hs := size_little c 4
  have e := wordAt_mid (stream_block.begin_ ++ key) (strOfNums (littleL c 4)) nonce 0 12 (by rw [size_app, hk, begin_size]) (by omega)
  rw [Nat.add_zero] at e
  rw [e]; exact word_little c hc
theorem word_nonce (key nonce c : ByteArray) (hk : key.size = 32) (hn : nonce.size = 12) (hs : c.size = 4) (i : Nat) (hi : i < 3) : wordAt (stream_block.begin_ ++ key ++ c ++ nonce) (13 + i) = wordAt nonce i := by
  have e := wordAt_mid (stream_block.begin_ ++ key ++ c) nonce (⟨#[]⟩ : ByteArray) i 13 (by rw [size_app, size_app, hk, hs, begin_size]) (by omega)
  rw [app_empty] at e
  exact e
theorem words_first (key : ByteArray) (c : Int) (nonce : ByteArray) (hk : key.size = 32) (hn : nonce.size = 12) (hc : R32 c) :
    (List.range' 0 16).map (wordAt (stream_block.begin_ ++ key ++ strOfNums (littleL c 4) ++ nonce)) = first16 key c nonce := by
  rw [split16, word_count key nonce hk c hc]
  unfold first16
  have h1 : (List.range 4).map (wordAt (stream_block.begin_ ++ key ++ strOfNums (littleL c 4) ++ nonce)) = consts := by
    rw [List.map_congr_left (g := fun i => consts.getD i 0) (fun i hi => word_begin key nonce _ i (by simpa using hi))]; rfl
  have h2 : (List.range 8).map (fun i => wordAt (stream_block.begin_ ++ key ++ strOfNums (littleL c 4) ++ nonce) (4 + i)) = (List.range 8).map (wordAt key) :=
    List.map_congr_left (fun i hi => word_key key nonce _ hk i (by simpa using hi))
  have h3 : (List.range 3).map (fun i => wordAt (stream_block.begin_ ++ key ++ strOfNums (littleL c 4) ++ nonce) (13 + i)) = (List.range 3).map (wordAt nonce) :=
    List.map_congr_left (fun i hi => word_nonce key nonce _ hk hn (size_little c 4) i (by simpa using hi))
  rw [h1, h2, h3]
theorem block_f (key : ByteArray) (c : Int) (nonce : ByteArray) (hk : key.size = 32) (hn : nonce.size = 12) (hc : R32 c) (k : Nat) (hf : 8 < k) : stream_block.f k key c nonce = some (blkS key c nonce) := by
  have hp := putLittle_f c 4 (by omega) (by omega) k (by omega)
  rw [show ((4 : Nat) : Int) = 4 from rfl] at hp
  have hc1 := hc.1
  have hc2 := hc.2
  unfold stream_block.f
  rw [if_pos ⟨hk, hn⟩, wu64 (by omega) (by omega), hp, Option.bind_some, if_pos (size_little _ _), words_f _ k hf, Option.bind_some, List.nil_append, List.length_nil, words_first key c nonce hk hn hc, mixes_f, Option.bind_some, outs_f _ _ k (by omega) 16 0 [] (by decide)]
  rw [List.nil_append, ← List.range_eq_range']; rfl
/-! The document's block. -/
theorem refPL (v : Int) (k : Nat) (hk : 5 < k) : escutcheonref1_PutLittle.f k (v % 4294967296) 4 = some (strOfNums (littleL (v % 4294967296) 4)) := by
  have := refPutLittle_f (v % 4294967296) (by omega) 4 (by omega) (by omega) k hk
  exact this
theorem rd_nat (l : List Int) (i : Nat) : rd l (i : Int) = l.getD i 0 := rfl
theorem ref_l4 (s x : List Int) (hs : s.length = 16) (hx : x.length = 16) : ∀ (d i : Nat) (acc : ByteArray) (k : Nat), d = 16 - i → i ≤ 16 → acc.size ≤ 1000 + 4 * i → d + 7 < k →
    escutcheonref1_Block.l4 k s x acc i = some ⟨(L acc ++ (List.range' i d).flatMap (outB s x)).toArray⟩ := by
  intro d
  induction d with
  | zero =>
    intro i acc k hd hi ha hk
    obtain ⟨k, rfl⟩ : ∃ k', k = k' + 1 := ⟨k - 1, by omega⟩
    rw [escutcheonref1_Block.l4, if_neg (by omega)]
    simp [L]
  | succ d ih =>
    intro i acc k hd hi ha hk
    obtain ⟨k, rfl⟩ : ∃ k', k = k' + 1 := ⟨k - 1, by omega⟩
    have hl := size_little ((rd x (i : Int) + rd s (i : Int)) % 4294967296) 4
    rw [escutcheonref1_Block.l4, if_pos (by omega), if_pos (by omega), if_pos (by omega), if_pos (by omega), refPL _ k (by omega), Option.bind_some, if_pos (by omega), show wrap64 ((i : Int) + 1) = ((i + 1 : Nat) : Int) by rw [w64 (by omega) (by omega)]; omega, ih (i + 1) _ k (by omega) (by omega) (by rw [size_app]; omega) (by omega), List.range'_succ, List.flatMap_cons, L_app, List.append_assoc]
    rfl
def quads : List (List Int) := [[0, 4, 8, 12], [1, 5, 9, 13], [2, 6, 10, 14], [3, 7, 11, 15], [0, 5, 10, 15], [1, 6, 11, 12], [2, 7, 8, 13], [3, 4, 9, 14]]
theorem quad_at (j : Nat) (hj : j < 8) : ∃ a b c d : Nat, stream_block.places[j]? = some (a, b, c, d) ∧ a < 16 ∧ b < 16 ∧ c < 16 ∧ d < 16 ∧ rd_L2 quads (j : Int) = [(a : Int), b, c, d] := by
  match j, hj with
  | 0, _ => exact ⟨0, 4, 8, 12, rfl, by decide, by decide, by decide, by decide, rfl⟩
  | 1, _ => exact ⟨1, 5, 9, 13, rfl, by decide, by decide, by decide, by decide, rfl⟩
  | 2, _ => exact ⟨2, 6, 10, 14, rfl, by decide, by decide, by decide, by decide, rfl⟩
  | 3, _ => exact ⟨3, 7, 11, 15, rfl, by decide, by decide, by decide, by decide, rfl⟩
  | 4, _ => exact ⟨0, 5, 10, 15, rfl, by decide, by decide, by decide, by decide, rfl⟩
  | 5, _ => exact ⟨1, 6, 11, 12, rfl, by decide, by decide, by decide, by decide, rfl⟩
  | 6, _ => exact ⟨2, 7, 8, 13, rfl, by decide, by decide, by decide, by decide, rfl⟩
  | 7, _ => exact ⟨3, 4, 9, 14, rfl, by decide, by decide, by decide, by decide, rfl⟩
theorem ref_l3 (s : List Int) (i : Int) (fin : List Int → Option ByteArray) (K : Nat) : ∀ (d j : Nat) (x : List Int) (k : Nat), d = 8 - j → j ≤ 8 → x.length = 16 → K + d + 1 ≤ k → (∀ k', K ≤ k' → ∀ y : List Int, y = (stream_block.places.drop j).foldl mixF x → escutcheonref1_Block.l2 k' s y quads (wrap64 (i + 1)) = fin y) →
    escutcheonref1_Block.l3 k s x quads i j = fin ((stream_block.places.drop j).foldl mixF x) := by
  intro d
  induction d with
  | zero =>
    intro j x k hd hj hx hk hf
    obtain ⟨k, rfl⟩ : ∃ k', k = k' + 1 := ⟨k - 1, by omega⟩
    obtain rfl : j = 8 := by omega
    rw [escutcheonref1_Block.l3, if_neg (by decide)]
    exact hf k (by omega) _ rfl
  | succ d ih =>
    intro j x k hd hj hx hk hf
    obtain ⟨k, rfl⟩ : ∃ k', k = k' + 1 := ⟨k - 1, by omega⟩
    obtain ⟨a, b, c, e, hp, ha, hb, hc, he, hq⟩ := quad_at j (by omega)
    have hdrop : stream_block.places.drop j = (a, b, c, e) :: stream_block.places.drop (j + 1) := by
      obtain ⟨hl, hg⟩ := List.getElem?_eq_some_iff.mp hp
      rw [List.drop_eq_getElem_cons hl, hg]
    have r0 : rd [(a : Int), b, c, e] 0 = (a : Int) := rfl
    have r1 : rd [(a : Int), b, c, e] 1 = (b : Int) := rfl
    have r2 : rd [(a : Int), b, c, e] 2 = (c : Int) := rfl
    have r3 : rd [(a : Int), b, c, e] 3 = (e : Int) := rfl
    have l4 : (([(a : Int), b, c, e] : List Int).length : Int) = 4 := rfl
    have hql : (quads.length : Int) = 8 := rfl
    rw [escutcheonref1_Block.l3, if_pos (by rw [hql]; omega), if_pos (by omega)]
    simp only [hq, r0, r1, r2, r3, l4]
    rw [if_pos (by decide), if_pos (by decide), if_pos (by decide), if_pos (by decide), if_pos (by omega), if_pos (by omega), if_pos (by omega), if_pos (by omega), if_pos (by omega), if_pos (by omega), if_pos (by omega), if_pos (by omega), refQuarter_f, Option.bind_some]
    simp only [Int.toNat_natCast, rd_nat]
    rw [show wrap64 ((j : Int) + 1) = ((j + 1 : Nat) : Int) by rw [w64 (by omega) (by omega)]; omega]
    rw [hdrop, List.foldl_cons]
    exact ih (j + 1) (mixF x (a, b, c, e)) k (by omega) (by omega) (by rw [mixF_len]; exact hx) (by omega) (fun k' hk' y hy => hf k' hk' y (by rw [hdrop, List.foldl_cons]; exact hy))
def times (n : Nat) : List (Nat × Nat × Nat × Nat) := (List.replicate n stream_block.places).flatten
theorem ref_l2 (s : List Int) (hs : s.length = 16) : ∀ (d i : Nat) (x : List Int) (k : Nat), d = 10 - i → i ≤ 10 → x.length = 16 → 30 + 10 * d ≤ k →
    escutcheonref1_Block.l2 k s x quads i = some ⟨((List.range 16).flatMap (outB s ((times d).foldl mixF x))).toArray⟩ := by
  intro d
  induction d with
  | zero =>
    intro i x k hd hi hx hk
    obtain ⟨k, rfl⟩ : ∃ k', k = k' + 1 := ⟨k - 1, by omega⟩
    have := ref_l4 s x hs hx 16 0 (⟨#[]⟩ : ByteArray) k (by omega) (by omega) (by decide) (by omega)
    rw [escutcheonref1_Block.l2, if_neg (by omega)]
    rw [show ((0 : Nat) : Int) = 0 from rfl] at this
    rw [this, L_nil, List.nil_append, ← List.range_eq_range']; rfl
  | succ d ih =>
    intro i x k hd hi hx hk
    obtain ⟨k, rfl⟩ : ∃ k', k = k' + 1 := ⟨k - 1, by omega⟩
    rw [escutcheonref1_Block.l2, if_pos (by omega)]
    have := ref_l3 s i (fun y => some ⟨((List.range 16).flatMap (outB s ((times d).foldl mixF y))).toArray⟩) (30 + 10 * d) 8 0 x k (by omega) (by omega) hx (by omega) (fun k' hk' y hy => by
      rw [show wrap64 ((i : Int) + 1) = ((i + 1 : Nat) : Int) by rw [w64 (by omega) (by omega)]; omega]
      exact ih (i + 1) y k' (by omega) (by omega) (by rw [hy, folds_len]; exact hx) hk')
    rw [show ((0 : Nat) : Int) = 0 from rfl] at this
    rw [this, show times (d + 1) = stream_block.places ++ times d by rw [times, List.replicate_succ, List.flatten_cons]; rfl, List.foldl_append, List.drop_zero]
theorem refWord (b : ByteArray) (i : Nat) (hi : i ≤ 100) (k : Nat) (hk : 8 < k) : ((escutcheonref1_Little.f k (b.extract ((wrap64 (4 * (i : Int))) : Int).toNat ((wrap64 ((wrap64 (4 * (i : Int))) + 4)) : Int).toNat)).bind fun t => some (t % 4294967296)) = some (wordAt b i) := by
  have e1 : wrap64 (4 * (i : Int)) = ((4 * i : Nat) : Int) := by rw [w64 (by omega) (by omega)]; omega
  have e2 : wrap64 (((4 * i : Nat) : Int) + 4) = ((4 * i + 4 : Nat) : Int) := by rw [w64 (by omega) (by omega)]; omega
  rw [e1, e2, Int.toNat_natCast, Int.toNat_natCast, refLittle_f _ k hk, Option.bind_some]; rfl
theorem ref_l1 (nonce : ByteArray) (hn : nonce.size = 12) : ∀ (d i : Nat) (x : List Int) (k : Nat), d = 3 - i → i ≤ 3 → x.length = 13 + i → 140 + d ≤ k →
    escutcheonref1_Block.l1 k nonce x i = some ⟨((List.range 16).flatMap (outB (x ++ (List.range' i d).map (wordAt nonce)) ((times 10).foldl mixF (x ++ (List.range' i d).map (wordAt nonce))))).toArray⟩ := by
  intro d
  induction d with
  | zero =>
    intro i x k hd hi hx hk
    obtain ⟨k, rfl⟩ : ∃ k', k = k' + 1 := ⟨k - 1, by omega⟩
    have := ref_l2 x (by omega) 10 0 x k (by omega) (by omega) (by omega) (by omega)
    rw [show ((0 : Nat) : Int) = 0 from rfl] at this
    rw [escutcheonref1_Block.l1, if_neg (by omega), if_pos (by simp; omega), List.nil_append]
    refine this.trans ?_
    simp
  | succ d ih =>
    intro i x k hd hi hx hk
    obtain ⟨k, rfl⟩ : ∃ k', k = k' + 1 := ⟨k - 1, by omega⟩
    have e1 : wrap64 (4 * (i : Int)) = ((4 * i : Nat) : Int) := by rw [w64 (by omega) (by omega)]; omega
    have e2 : wrap64 (((4 * i : Nat) : Int) + 4) = ((4 * i + 4 : Nat) : Int) := by rw [w64 (by omega) (by omega)]; omega
    rw [escutcheonref1_Block.l1, if_pos (by omega), e1, e2, if_pos (by omega), if_pos (by omega), if_pos (by omega), Int.toNat_natCast, Int.toNat_natCast, refLittle_f _ k (by omega), Option.bind_some, if_pos (by omega), show wrap64 ((i : Int) + 1) = ((i + 1 : Nat) : Int) by rw [w64 (by omega) (by omega)]; omega]
    have := ih (i + 1) (x ++ [wordAt nonce i]) k (by omega) (by omega) (by rw [List.length_append]; simp; omega) (by omega)
    rw [List.range'_succ, List.map_cons]
    rw [List.append_assoc, List.singleton_append] at this
    exact this
theorem ref_l0 (key : ByteArray) (c : Int) (nonce : ByteArray) (hk : key.size = 32) (hn : nonce.size = 12) : ∀ (d i : Nat) (x : List Int) (k : Nat), d = 8 - i → i ≤ 8 → x.length = 4 + i → 150 + d ≤ k →
    escutcheonref1_Block.l0 k key c nonce x i = some ⟨((List.range 16).flatMap (outB (x ++ (List.range' i d).map (wordAt key) ++ [c] ++ (List.range 3).map (wordAt nonce)) ((times 10).foldl mixF (x ++ (List.range' i d).map (wordAt key) ++ [c] ++ (List.range 3).map (wordAt nonce))))).toArray⟩ := by
  intro d
  induction d with
  | zero =>
    intro i x k hd hi hx hf
    obtain ⟨k, rfl⟩ : ∃ k', k = k' + 1 := ⟨k - 1, by omega⟩
    have := ref_l1 nonce hn 3 0 (x ++ [c]) k (by omega) (by omega) (by rw [List.length_append]; simp; omega) (by omega)
    rw [show ((0 : Nat) : Int) = 0 from rfl, ← List.range_eq_range'] at this
    rw [escutcheonref1_Block.l0, if_neg (by omega), if_pos (by omega)]
    simpa using this
  | succ d ih =>
    intro i x k hd hi hx hf
    obtain ⟨k, rfl⟩ : ∃ k', k = k' + 1 := ⟨k - 1, by omega⟩
    have e1 : wrap64 (4 * (i : Int)) = ((4 * i : Nat) : Int) := by rw [w64 (by omega) (by omega)]; omega
    have e2 : wrap64 (((4 * i : Nat) : Int) + 4) = ((4 * i + 4 : Nat) : Int) := by rw [w64 (by omega) (by omega)]; omega
    rw [escutcheonref1_Block.l0, if_pos (by omega), e1, e2, if_pos (by omega), if_pos (by omega), if_pos (by omega), Int.toNat_natCast, Int.toNat_natCast, refLittle_f _ k (by omega), Option.bind_some, if_pos (by omega), show wrap64 ((i : Int) + 1) = ((i + 1 : Nat) : Int) by rw [w64 (by omega) (by omega)]; omega]
    have := ih (i + 1) (x ++ [wordAt key i]) k (by omega) (by omega) (by rw [List.length_append]; simp; omega) (by omega)
    rw [List.range'_succ, List.map_cons]
    rw [show x ++ [wordAt key i] ++ (List.range' (i + 1) d).map (wordAt key) = x ++ wordAt key i :: (List.range' (i + 1) d).map (wordAt key) by simp] at this
    exact this
theorem refBlock_f (key : ByteArray) (c : Int) (nonce : ByteArray) (hk : key.size = 32) (hn : nonce.size = 12) (k : Nat) (hf : 200 ≤ k) : escutcheonref1_Block.f k key c nonce = some (blkS key c nonce) := by
  have := ref_l0 key c nonce hk hn 8 0 consts k (by omega) (by omega) rfl (by omega)
  rw [show ((0 : Nat) : Int) = 0 from rfl, ← List.range_eq_range'] at this
  unfold escutcheonref1_Block.f
  exact this
end Go.Proofs.Ytdnlenhkagfiaaa.B
