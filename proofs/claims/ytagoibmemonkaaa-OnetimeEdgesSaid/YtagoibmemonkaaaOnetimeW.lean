/- The reference's Tag is the program's. -/
import Derived.Test.YtagoibmemonkaaaOnetimeV
import Derived.Test.YtagoibmemonkaaaOnetimeH
import Derived.Test.YtagoibmemonkaaaPx6
namespace Go.Proofs.Ytagoibmemonkaaa.B
open Go.RowKit Go.Proofs.Ytagoibmemonkaaa.P Go.Proofs.YtagoibmemonkaaaW.PrintWords Go.Proofs.YtagoibmemonkaaaW.PrintLast Go.Proofs.YtagoibmemonkaaaW.PrintMore Go.Proofs.Ytagoibmemonkaaa.Pure
set_option linter.unusedVariables false
set_option linter.unusedSimpArgs false

theorem num_zeros : ∀ n, num (List.replicate n 0) = 0
  | 0 => rfl
  | n + 1 => by
    rw [List.replicate_succ', num_snoc, num_zeros n]
    rfl
theorem num_cut (l : List UInt8) (n : Nat) : num (l ++ List.replicate n 0).reverse = num l.reverse := by
  rw [List.reverse_append, List.reverse_replicate, num_app, num_zeros, Int.zero_mul, Int.zero_add]
/-- A block and the bit behind it, as a text. -/
def piece (b : ByteArray) : ByteArray := b.extract 0 (min b.size 16) ++ (⟨#[1]⟩ : ByteArray)
theorem piece_size (b : ByteArray) : (piece b).size = min b.size 16 + 1 := by
  unfold piece
  rw [size_app, size_ext]
  show _ + 1 = _
  omega
theorem L_chunk (b : ByteArray) : L (onetime_Tag.chunk b) = L (piece b) ++ List.replicate (16 - min b.size 16) 0 := by
  unfold onetime_Tag.chunk piece
  rw [L_mk, L_app, List.append_assoc]
  rfl
theorem N17 (l : List UInt8) (h : l.length = 17) : num l.reverse = num (l.take 8).reverse + 18446744073709551616 * num ((l.take 16).drop 8).reverse + 340282366920938463463374607431768211456 * ((l.getD 16 0).toNat : Int) := by
  have e : l.reverse = [l.getD 16 0] ++ (((l.take 16).drop 8).reverse ++ (l.take 8).reverse) := by
    rw [← List.reverse_append, show l.take 8 = (l.take 16).take 8 by rw [List.take_take]; rfl, List.take_append_drop]
    rw [show [l.getD 16 0] = [l.getD 16 0].reverse from rfl, ← List.reverse_append]
    congr 1
    conv => lhs; rw [← List.take_append_drop 16 l]
    congr 1
    rw [List.drop_eq_getElem_cons (by omega), List.drop_of_length_le (by omega), List.getD_eq_getElem?_getD, List.getElem?_eq_getElem (by omega)]
    rfl
  rw [e, num_app, num_app, List.length_append, List.length_reverse, List.length_reverse, List.length_drop, List.length_take, List.length_take, h]
  rw [show min 16 17 - 8 + min 8 17 = 16 from rfl, show min 8 17 = 8 from rfl, show (256 : Int) ^ 16 = 340282366920938463463374607431768211456 by decide, show (256 : Int) ^ 8 = 18446744073709551616 by decide]
  rw [show num [l.getD 16 0] = ((l.getD 16 0).toNat : Int) by unfold num; rw [List.foldl_cons, List.foldl_nil, Int.zero_mul, Int.zero_add]]
  omega
theorem block_val (b : ByteArray) : Norm (blockP b) ∧ val (blockP b) = RA (piece b) 0 := by
  have hs := onetime_Tag.chunk_size b
  have hl : (L (onetime_Tag.chunk b)).length = 17 := by rw [L_len, hs]
  have hbt : bt (onetime_Tag.chunk b) 16 = (((L (onetime_Tag.chunk b)).getD 16 0).toNat : Int) := by
    rw [bt_L, List.getD_eq_getElem?_getD]; rfl
  have h1 : 0 ≤ bt (onetime_Tag.chunk b) 16 ∧ bt (onetime_Tag.chunk b) 16 ≤ 1 := by
    rw [hbt, L_chunk, List.getD_eq_getElem?_getD]
    have hpl : (L (piece b)).length = min b.size 16 + 1 := by rw [L_len, piece_size]
    by_cases h : 16 ≤ b.size
    · rw [List.getElem?_append_left (by omega)]
      unfold piece
      rw [L_app, List.getElem?_append_right (by rw [L_len, size_ext]; omega), L_len, size_ext, show 16 - (min (min b.size 16) b.size - 0) = 0 by omega]
      decide
    · rw [List.getElem?_append_right (by omega), List.getElem?_replicate]
      split <;> decide
  have hw : IntKind.u64.wrap (bt (onetime_Tag.chunk b) 16) = bt (onetime_Tag.chunk b) 16 := by rw [wu64 (by omega) (by omega)]
  have hsp := split_eq (le ((onetime_Tag.chunk b).extract 0 8)) (le ((onetime_Tag.chunk b).extract 8 16)) (bt (onetime_Tag.chunk b) 16) (le_bd _) (le_bd _) h1
  unfold blockP
  rw [hw]
  refine ⟨hsp.1, ?_⟩
  rw [hsp.2]
  unfold RA
  rw [List.drop_zero, ← num_cut (L (piece b)) (16 - min b.size 16), ← L_chunk, N17 _ hl, hbt]
  unfold le
  rw [L_ext_, L_ext_, List.drop_zero, List.take_take, Nat.min_self, List.take_of_length_le (l := (List.take 16 (L (onetime_Tag.chunk b))).drop 8) (by rw [List.length_drop, List.length_take]; omega)]
theorem goP_zero (y : List Int) (n : Nat) (b : ByteArray) (s : List Int) (h : b.size = 0) : goP y n b s = s := by
  cases n with
  | zero => rfl
  | succ n => rw [goP, if_pos h]
theorem ref_loop (key b r : ByteArray) (hk : key.size = 32) (hb : b.size ≤ 1600) (hr : r.size = 16) (y : List Int) (hy : Norm y) (hyr : val y = N16 r) : ∀ (n i : Nat) (acc s : List Int), b.size - i ≤ 16 * n → i ≤ 1616 → Dg acc → acc.length = 18 → V acc < 1361129467683753853853498429727072845824 → Norm s → (∃ q : Int, V acc = val s + 1361129467683753853853498429727072845819 * q) →
    Norm (goP y n (b.extract i b.size) s) ∧ ∃ K, ∀ k, K ≤ k → escutcheonref1_Tag.l0 k key b r acc (i : Int) = some (strOfNums (littleL (val (goP y n (b.extract i b.size) s) % 1361129467683753853853498429727072845819 + RA key 16) 16))
  | n, i, acc, s, hn, hi, hd, hl, hv, hs, ⟨q, hq⟩ => by
    have hes : (b.extract i b.size).size = b.size - i := by rw [size_ext]; omega
    by_cases hend : b.size ≤ i
    · rw [goP_zero y n _ s (by omega)]
      obtain ⟨K, hK⟩ := ref_end key b r hk acc hd hl hv (i : Int) (by omega)
      exact ⟨hs, K, fun k h => by rw [hK k h, hq, Int.add_mul_emod_self_left]⟩
    · obtain ⟨n, rfl⟩ : ∃ m, n = m + 1 := ⟨n - 1, by omega⟩
      rw [goP, if_neg (by omega)]
      obtain ⟨c, hc⟩ : ∃ c, b.extract i b.size = c := ⟨_, rfl⟩
      rw [hc] at hes ⊢
      have hcl : L c = (L b).drop i := by rw [← hc, L_ext_, List.take_of_length_le (l := L b) (by rw [L_len]; exact Nat.le_refl _)]
      have hnext : c.extract (min c.size 16) c.size = b.extract (i + 16) b.size := by
        apply L_ext
        rw [L_ext_, List.take_of_length_le (l := L c) (by rw [L_len]; exact Nat.le_refl _), hcl, List.drop_drop, L_ext_, List.take_of_length_le (l := L b) (by rw [L_len]; exact Nat.le_refl _)]
        by_cases h16 : i + 16 ≤ b.size
        · congr 1; omega
        · rw [List.drop_of_length_le (by rw [L_len]; omega), List.drop_of_length_le (by rw [L_len]; omega)]
      have hpart : b.extract i (min (i + 16) b.size) ++ (⟨#[1]⟩ : ByteArray) = piece c := by
        unfold piece
        congr 1
        apply L_ext
        rw [← hc, L_ext_, L_ext_, L_ext_, List.drop_zero, List.take_of_length_le (l := L b) (i := b.size) (by rw [L_len]; exact Nat.le_refl _), List.drop_take]
        congr 1
        rw [size_ext]; omega
      rw [hnext]
      have hbv := block_val c
      obtain ⟨acc1, a1, a2, a3, a4⟩ := add_part key b r (i : Int) (piece c) (by rw [piece_size]; omega) (piece c).size 0 acc rfl (Nat.zero_le _) hl (fun j => by have := hd.get j; exact ⟨by omega, by omega, fun _ => by omega⟩)
      rw [Int.pow_zero, Int.one_mul] at a3
      obtain ⟨pr, p1, p2, p3, p4⟩ := mul_all key b r (i : Int) acc1 hr a1 a2 18 0 (List.replicate 34 0) rfl (by decide) (by simp) (fun m => by
        rw [List.getD_eq_getElem?_getD, List.getElem?_replicate]
        split <;> simp)
      rw [Int.pow_zero, Int.one_mul, List.drop_zero, V_zeros, Int.zero_add] at p3
      have hplus := plus_eq hs hbv.1
      obtain ⟨q2, t1, t2, t3⟩ := times_eq hplus.1 hy.small
      have hVa1 : V acc1 < 174224571863520493293247799005065324265472 ∧ 0 ≤ V acc1 := by
        have hpb := (num_bd (L (piece c)).reverse)
        have hpl : (L (piece c)).reverse.length ≤ 17 := by rw [List.length_reverse, L_len, piece_size]; omega
        have h17 := pow256_le hpl
        rw [show (256 : Int) ^ 17 = 87112285931760246646623899502532662132736 by decide] at h17
        have hR : RA (piece c) 0 = num (L (piece c)).reverse := rfl
        have hnn := hd.nn
        generalize (256 : Int) ^ (L (piece c)).reverse.length = p17 at *
        rw [a3, hR]
        clear hbv hplus t3 hq
        omega
      have hN16 : 0 ≤ N16 r ∧ N16 r < 340282366920938463463374607431768211456 := by
        have := num_bd (L r).reverse
        rw [List.length_reverse, L_len, hr, show (256 : Int) ^ 16 = 340282366920938463463374607431768211456 by decide] at this
        exact this
      have hprV : V pr < 256 ^ pr.length := by
        rw [p3, p1]
        have := Int.mul_le_mul (Int.le_of_lt hVa1.1) (Int.le_of_lt hN16.2) hN16.1 (by decide)
        refine Int.lt_of_le_of_lt this ?_
        decide
      obtain ⟨K1, t, f1, f2, f3, f4, q3, f5⟩ := fold_all (V pr).toNat pr (by omega) p2 (by omega) (by omega) hprV
      obtain ⟨g1, K2, g2⟩ := ref_loop key b r hk hb hr y hy hyr n (i + 16) t (onetime_number_times.f (onetime_number_plus.f s (blockP c)) y) (by omega) (by omega) f2 f3 f4 t1 (by
        refine ⟨q2 + q * N16 r - q3, ?_⟩
        have e1 : V pr = (val s + 1361129467683753853853498429727072845819 * q + val (blockP c)) * N16 r := by rw [p3, a3, hq, ← hbv.2]
        rw [hplus.2, hyr] at t3
        generalize N16 r = R at *
        generalize val s = S at *
        generalize val (blockP c) = B at *
        generalize val (onetime_number_times.f (onetime_number_plus.f s (blockP c)) y) = T at *
        generalize V t = VT at *
        generalize V pr = VP at *
        clear hprV hVa1 hN16 f4 hv hq
        grind)
      refine ⟨g1, K1 + K2 + 600, fun k h => ?_⟩
      have hps := piece_size c
      obtain ⟨k, rfl⟩ : ∃ j, k = j + 1 + 18 * 18 + 1 + (piece c).size + 1 := ⟨k - 327 - (piece c).size, by omega⟩
      have hmn : mn (wrap64 ((i : Int) + 16)) (b.size : Int) = ((min (i + 16) b.size : Nat) : Int) := by
        rw [w64 (by omega) (by omega)]
        unfold mn
        split <;> omega
      rw [escutcheonref1_Tag.l0, if_pos (by omega), if_pos (by omega), hmn, if_pos (by omega), if_pos (by omega), Int.toNat_natCast, Int.toNat_natCast, if_pos (by rw [size_ext]; omega), hpart]
      have a5 := a4 (k + 1 + 18 * 18)
      have p5 := p4 k
      rw [show ((0 : Nat) : Int) = 0 from rfl] at a5 p5
      rw [a5, p5, f1 k (by omega), Option.bind_some, w64 (by omega) (by omega), show (i : Int) + 16 = ((i + 16 : Nat) : Int) by omega]
      exact g2 k (by omega)
theorem clamp_same (key : ByteArray) : escutcheonref1_Clamp.out key = onetime_Clamp.out key := rfl
theorem yOf_val (r : ByteArray) (h : r.size = 16) : Norm (yOf r) ∧ val (yOf r) = N16 r := by
  have := split_eq (le (r.extract 0 8)) (le (r.extract 8 16)) 0 (le_bd _) (le_bd _) (by decide)
  unfold yOf
  refine ⟨this.1, ?_⟩
  rw [this.2, N16_split r h]
  omega
theorem ref_tag (key b : ByteArray) (hk : key.size = 32) (hb : b.size ≤ 1600) : ∃ K, ∀ k, K ≤ k → escutcheonref1_Tag.f k key b = some (tagP key b) := by
  obtain ⟨t, c1, c2, c3, c4, c5, c6⟩ := carry_all [] (by intro x hx; cases hx) (by decide)
  have htl : t.length = 18 := by
    have := c6 (by decide)
    simp at this
    omega
  have hrs := rOf_size key
  have hy := yOf_val (rOf key) hrs
  have hb0 : b.extract 0 b.size = b := ext_all b
  obtain ⟨g1, K, hK⟩ := ref_loop key b (rOf key) hk hb hrs (yOf (rOf key)) hy.1 hy.2 100 0 t (List.replicate 5 0) (by omega) (by omega) c2 htl (by rw [c3]; decide) norm_Z ⟨0, by rw [c3, show val (List.replicate 5 0) = 0 from rfl, Int.mul_zero]; rfl⟩
  rw [hb0] at g1 hK
  refine ⟨K + 100, fun k h => ?_⟩
  have hcl : escutcheonref1_Clamp.f key = some (rOf key) := by unfold escutcheonref1_Clamp.f; rw [if_pos (by omega)]; rfl
  unfold escutcheonref1_Tag.f
  rw [hcl, Option.bind_some, c1 k (by simp; omega), Option.bind_some, show (0 : Int) = ((0 : Nat) : Int) from rfl, hK k (by omega)]
  refine congrArg some ?_
  unfold tagP
  have hw := whole_eq _ g1
  have hlh := low_high (sumP (rOf key) b) hw.1
  have hks : key = key.extract 0 16 ++ key.extract 16 32 := by
    apply L_ext
    rw [L_app, L_ext_, L_ext_, List.drop_zero, List.take_of_length_le (l := L key) (i := 32) (by rw [L_len]; omega), List.take_append_drop]
  have h1 : key.extract 16 24 = (key.extract 16 32).extract 0 8 := by
    apply L_ext
    rw [L_ext_, L_ext_, L_ext_, List.drop_zero, List.drop_take, List.drop_take, List.take_take]
    rfl
  have h2 : key.extract 24 32 = (key.extract 16 32).extract 8 16 := by
    apply L_ext
    rw [L_ext_, L_ext_, L_ext_, List.take_of_length_le (l := (List.take 32 (L key)).drop 16) (by rw [List.length_drop, List.length_take]; omega), List.drop_drop]
  have hsz : (key.extract 16 32).size = 16 := by rw [size_ext, hk]; rfl
  have h0 := le_bd ((key.extract 16 32).extract 0 8)
  have h00 := le_bd ((key.extract 16 32).extract 8 16)
  have hl : onetime_Tag.word (onetime_Tag.low (sumP (rOf key) b)) := or64 _ _
  have hh : onetime_Tag.word (onetime_Tag.high (sumP (rOf key) b)) := or64 _ _
  unfold onetime_Tag.word at hl hh
  rw [h1, h2, finP_little]
  refine congrArg strOfNums ?_
  apply littleL_mod
  have hRA : RA key 16 = N16 (key.extract 16 32) := by
    unfold RA N16
    rw [L_ext_, List.take_of_length_le (l := L key) (i := 32) (by rw [L_len]; omega)]
  have hval : val (sumP (rOf key) b) = val (goP (yOf (rOf key)) 100 b (List.replicate 5 0)) % 1361129467683753853853498429727072845819 := hw.2
  rw [hRA, N16_split _ hsz, ← hval]
  omega
end Go.Proofs.Ytagoibmemonkaaa.B
