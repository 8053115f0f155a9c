/- The second half of a key is added at the end. -/
import Derived.Test.YtagoibmemonkaaaOnetimeC
import Derived.Test.YtagoibmemonkaaaPx13
namespace Go.Proofs.Ytagoibmemonkaaa.Pure
open Go.RowKit Go.Proofs.Ytagoibmemonkaaa.P Go.Proofs.YtagoibmemonkaaaW.PrintWords Go.Proofs.YtagoibmemonkaaaW.PrintLast Go.Proofs.YtagoibmemonkaaaW.PrintMore Go.Proofs.Ytagoibmemonkaaa.B
set_option linter.unusedVariables false
set_option linter.unusedSimpArgs false

theorem cases16 {p : Nat → Prop} (h : p 0 ∧ p 1 ∧ p 2 ∧ p 3 ∧ p 4 ∧ p 5 ∧ p 6 ∧ p 7 ∧ p 8 ∧ p 9 ∧ p 10 ∧ p 11 ∧ p 12 ∧ p 13 ∧ p 14 ∧ p 15) (j : Nat) (hj : j < 16) : p j := by
  obtain ⟨h0, h1, h2, h3, h4, h5, h6, h7, h8, h9, h10, h11, h12, h13, h14, h15⟩ := h
  have : j = 0 ∨ j = 1 ∨ j = 2 ∨ j = 3 ∨ j = 4 ∨ j = 5 ∨ j = 6 ∨ j = 7 ∨ j = 8 ∨ j = 9 ∨ j = 10 ∨ j = 11 ∨ j = 12 ∨ j = 13 ∨ j = 14 ∨ j = 15 := by omega
  rcases this with rfl | rfl | rfl | rfl | rfl | rfl | rfl | rfl | rfl | rfl | rfl | rfl | rfl | rfl | rfl | rfl <;> assumption
theorem littleL_mod (a b : Int) (h : a % 340282366920938463463374607431768211456 = b % 340282366920938463463374607431768211456) : littleL a 16 = littleL b 16 := by
  unfold littleL
  apply List.map_congr_left
  intro j hj
  refine cases16 (p := fun j => a / 256 ^ j % 256 = b / 256 ^ j % 256) ?_ j (List.mem_range.1 hj)
  simp only [Int.reducePow]
  omega
theorem little_join (u v : Int) (h0 : 0 ≤ u) (h1 : u < 18446744073709551616) : littleL u 8 ++ littleL v 8 = littleL (u + 18446744073709551616 * v) 16 := by
  have hr : List.range 16 = List.range 8 ++ (List.range 8).map (fun j => 8 + j) := rfl
  unfold littleL
  rw [hr, List.map_append, List.map_map]
  congr 1
  · apply List.map_congr_left
    intro j hj
    have hj := List.mem_range.1 hj
    refine cases16 (p := fun j => j < 8 → u / 256 ^ j % 256 = (u + 18446744073709551616 * v) / 256 ^ j % 256) ?_ j (by omega) hj
    simp only [Int.reducePow]
    omega
  · apply List.map_congr_left
    intro j hj
    have hj := List.mem_range.1 hj
    refine cases16 (p := fun j => j < 8 → v / 256 ^ j % 256 = (u + 18446744073709551616 * v) / 256 ^ (8 + j) % 256) ?_ j (by omega) hj
    simp only [Int.reducePow, Nat.reduceAdd]
    omega
theorem N16_split (s : ByteArray) (h : s.size = 16) : N16 s = le (s.extract 0 8) + 18446744073709551616 * le (s.extract 8 16) := by
  unfold N16 le
  have hl : (L s).length = 16 := by rw [L_len, h]
  rw [L_ext_, L_ext_, List.drop_zero, List.take_take, List.take_of_length_le (i := 16) (by omega)]
  rw [List.take_of_length_le (l := (L s).drop 8) (by rw [List.length_drop]; omega), Nat.min_self]
  have : (L s).reverse = ((L s).drop 8).reverse ++ ((L s).take 8).reverse := by rw [← List.reverse_append, List.take_append_drop]
  rw [this, num_app, List.length_reverse, List.length_take, hl]
  rw [show (256 : Int) ^ (min 8 16) = 18446744073709551616 by decide]
  omega
theorem N16_nums (v : Int) (h : 0 ≤ v) : N16 (strOfNums (littleL v 16)) = v % 340282366920938463463374607431768211456 := by
  unfold N16
  rw [L_little, List.reverse_reverse, num_big 16 v h]
  rfl
theorem finP_little (s : List Int) (m0 m1 : Int) : finP s m0 m1 = strOfNums (littleL ((onetime_Tag.low s + m0) % 18446744073709551616 + 18446744073709551616 * ((onetime_Tag.high s + m1 + (onetime_Tag.low s + m0) / 18446744073709551616) % 18446744073709551616)) 16) := by
  unfold finP
  rw [← nums_app, little_join _ _ (by omega) (by omega)]
def W (s : List Int) : Int := onetime_Tag.low s + 18446744073709551616 * onetime_Tag.high s
theorem N16_fin (s : List Int) (t : ByteArray) (ht : t.size = 16) : N16 (finP s (le (t.extract 0 8)) (le (t.extract 8 16))) = (W s + N16 t) % 340282366920938463463374607431768211456 := by
  have h0 := le_bd (t.extract 0 8)
  have h1 := le_bd (t.extract 8 16)
  have hl : onetime_Tag.word (onetime_Tag.low s) := or64 _ _
  have hh : onetime_Tag.word (onetime_Tag.high s) := or64 _ _
  unfold onetime_Tag.word at hl hh
  rw [finP_little, N16_nums _ (by omega), N16_split t ht]
  unfold W
  omega
theorem rOf_app (r s : ByteArray) (h : r.size = 16) : rOf (r ++ s) = rOf r := by
  show strOfNums (onetime_Clamp.out _) = strOfNums (onetime_Clamp.out _)
  congr 1
  unfold onetime_Clamp.out
  apply List.map_congr_left
  intro i hi
  have hi := List.mem_range.1 hi
  rw [bt_app_l _ _ _ (by rw [h]; simpa using hi)]
theorem ext_snd (r s : ByteArray) (h : r.size = 16) (hs : s.size = 16) (i j : Nat) (hj : j ≤ 16) : (r ++ s).extract (16 + i) (16 + j) = s.extract i j := by
  apply L_ext
  rw [L_ext_, L_ext_, L_app]
  have hl : (L r).length = 16 := by rw [L_len, h]
  apply List.ext_getElem?
  intro m
  rw [List.getElem?_drop, List.getElem?_drop, List.getElem?_take, List.getElem?_take]
  by_cases h : i + m < j
  · rw [if_pos (by omega), if_pos h, List.getElem?_append_right (by omega), hl, show 16 + i + m - 16 = i + m by omega]
  · rw [if_neg (by omega), if_neg h]
theorem N16_tag (r s b : ByteArray) (h : r.size = 16) (hs : s.size = 16) : N16 (tagP (r ++ s) b) = (W (sumP (rOf r) b) + N16 s) % 340282366920938463463374607431768211456 := by
  unfold tagP
  rw [rOf_app r s h, show (16 : Nat) = 16 + 0 from rfl, show (24 : Nat) = 16 + 8 from rfl, show (32 : Nat) = 16 + 16 from rfl, ext_snd r s h hs 0 8 (by decide), ext_snd r s h hs 8 16 (by decide)]
  exact N16_fin _ s hs
theorem OnetimeShifts : escutcheonlaw6_OnetimeShifts.Pure := by
  intro r s t b hs1 hs2 hs3 hb
  refine ⟨200, ?_⟩
  unfold escutcheonlaw6_OnetimeShifts.f
  have out : escutcheonlaw6_OnetimeShifts.j0 200 r s t b true = some true := by
    rw [escutcheonlaw6_OnetimeShifts.j0, if_pos rfl, alive_k _ (by omega)]; rfl
  by_cases c1 : (b.size : Int) > 300
  · rw [if_pos c1]; exact out
  rw [if_neg c1, alive_k _ (by omega), Option.bind_some]
  rw [show (!true) = false from rfl, escutcheonlaw6_OnetimeShifts.j0, if_neg (by decide)]
  rw [show (16 : Int) = ((16 : Nat) : Int) from rfl, fill_f r 16 (by decide) hs1 _ (by omega), Option.bind_some, fill_f s 16 (by decide) hs2 _ (by omega), Option.bind_some, fill_f t 16 (by decide) hs3 _ (by omega), Option.bind_some]
  generalize hR : fillS r 16 = R
  generalize hS : fillS s 16 = S
  generalize hT : fillS t 16 = T
  have hrs : R.size = 16 := by rw [← hR, fillS_size]
  have hss : S.size = 16 := by rw [← hS, fillS_size]
  have hts : T.size = 16 := by rw [← hT, fillS_size]
  rw [if_pos (by omega), tag_f (R ++ S) b (by rw [size_app]; omega) (by omega) _ (by omega), Option.bind_some, if_pos (by omega), tag_f (R ++ T) b (by rw [size_app]; omega) (by omega) _ (by omega), Option.bind_some]
  simp only [tagP_size]
  rw [if_pos trivial, if_pos trivial, if_pos (by decide), if_pos (by decide), sum_f _ _ (tagP_size _ _) hts _ (by omega), Option.bind_some, sum_f _ _ (tagP_size _ _) hss _ (by omega), Option.bind_some]
  rw [littleL_mod (N16 (tagP (R ++ S) b) + N16 T) (N16 (tagP (R ++ T) b) + N16 S) (by rw [N16_tag R S b hrs hss, N16_tag R T b hrs hts]; omega)]
  simp
end Go.Proofs.Ytagoibmemonkaaa.Pure
