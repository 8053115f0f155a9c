/- The reference's Tag: its end; a block's value. -/
import Derived.Test.YtagoibmemonkaaaOnetimeU
import Derived.Test.YtagoibmemonkaaaPureOnetimeShifts
namespace Go.Proofs.Ytagoibmemonkaaa.B
open Go.RowKit Go.Proofs.Ytagoibmemonkaaa.P Go.Proofs.YtagoibmemonkaaaW.PrintWords Go.Proofs.YtagoibmemonkaaaW.PrintLast Go.Proofs.YtagoibmemonkaaaW.PrintMore Go.Proofs.Ytagoibmemonkaaa.Pure
set_option linter.unusedVariables false
set_option linter.unusedSimpArgs false

theorem littleL_cons (v : Int) (h : 0 ≤ v) (n : Nat) : littleL v (n + 1) = v % 256 :: littleL (v / 256) n := by
  unfold littleL
  rw [List.range_succ_eq_map, List.map_cons, List.map_map, Int.pow_zero, Int.ediv_one]
  congr 1
  apply List.map_congr_left
  intro j _
  show v / 256 ^ (j + 1) % 256 = v / 256 / 256 ^ j % 256
  rw [Int.pow_succ, Int.mul_comm, ← Int.ediv_ediv_of_nonneg (by decide)]
theorem digits_little : ∀ (n : Nat) (t : List Int), Dg t → n ≤ t.length → t.take n = littleL (V t) n
  | 0, t, _, _ => rfl
  | n + 1, x :: l, h, hn => by
    have h1 := h x (by simp)
    have h2 : Dg l := fun y hy => h y (by simp [hy])
    have h3 := h2.nn
    rw [List.take_succ_cons, digits_little n l h2 (by simpa using hn), V, littleL_cons _ (by omega)]
    rw [show (x + 256 * V l) % 256 = x by omega, show (x + 256 * V l) / 256 = V l by omega]
theorem out_all (t : List Int) (ht : Dg t) (hl : 16 ≤ t.length) : ∀ (d i : Nat), d = 16 - i → i ≤ 16 → ∀ k, escutcheonref1_Tag.l5 (k + 1 + d) t (t.take i ++ List.replicate (16 - i) 0) (i : Int) = some (strOfNums (t.take 16))
  | 0, i, hd, hi, k => by
    obtain rfl : i = 16 := by omega
    show escutcheonref1_Tag.l5 (k + 1) t _ ((16 : Nat) : Int) = _
    rw [escutcheonref1_Tag.l5, if_neg (by omega), Nat.sub_self, List.replicate_zero, List.append_nil]
  | d + 1, i, hd, hi, k => by
    have g := ht.get i
    have hti : (t.take i).length = i := by rw [List.length_take]; omega
    have hlen : (t.take i ++ List.replicate (16 - i) (0 : Int)).length = 16 := by rw [List.length_append, hti, List.length_replicate]; omega
    have hset : (t.take i ++ List.replicate (16 - i) (0 : Int)).set i (t.getD i 0 % 256) = t.take (i + 1) ++ List.replicate (16 - (i + 1)) 0 := by
      rw [List.set_append_right i _ (by omega), hti, Nat.sub_self, show 16 - i = (16 - (i + 1)) + 1 by omega, List.replicate_succ, List.set_cons_zero, List.take_succ_eq_append_getElem (by omega), List.append_assoc, Int.emod_eq_of_lt (by omega) (by omega), List.getD_eq_getElem?_getD, List.getElem?_eq_getElem (by omega)]
      rfl
    rw [show k + 1 + (d + 1) = (k + 1 + d) + 1 by omega, escutcheonref1_Tag.l5, if_pos (by omega), if_pos (by omega), if_pos (by omega), if_pos (by omega), Int.toNat_natCast, rd_nat, hset, w64 (by omega) (by omega), show (i : Int) + 1 = ((i + 1 : Nat) : Int) by omega]
    exact out_all t ht hl d (i + 1) (by omega) (by omega) k
theorem add_key (key : ByteArray) (hk : key.size = 32) : ∀ (d i : Nat) (acc : List Int), d = 16 - i → i ≤ 16 → acc.length = 18 → (∀ j, 0 ≤ acc.getD j 0 ∧ acc.getD j 0 ≤ 510 ∧ (i ≤ j → acc.getD j 0 ≤ 255)) →
    ∃ K, ∀ k, K ≤ k → escutcheonref1_Tag.l4 k key acc (i : Int) = some (strOfNums (littleL (V acc + 256 ^ i * RA key (16 + i)) 16))
  | 0, i, acc, hd, hi, hl, hb => by
    obtain rfl : i = 16 := by omega
    have hok : Ok acc := ok_of_get (fun j => ⟨(hb j).1, by have := (hb j).2.1; omega⟩)
    obtain ⟨t, c1, c2, c3, c4, c5, c6⟩ := carry_all acc hok (by omega)
    refine ⟨100, fun k h => ?_⟩
    obtain ⟨k, rfl⟩ : ∃ j, k = j + 1 + 16 + 1 := ⟨k - 18, by omega⟩
    have ho := out_all t c2 (by omega) 16 0 rfl (by decide) k
    rw [List.take_zero, List.nil_append, Nat.sub_zero, show ((0 : Nat) : Int) = 0 from rfl] at ho
    rw [escutcheonref1_Tag.l4, if_neg (by omega), c1 _ (by omega), Option.bind_some, if_pos (by decide), ho, digits_little 16 t c2 (by omega), c3, RA_end key (16 + 16) (by omega), Int.mul_zero, Int.add_zero]
  | d + 1, i, acc, hd, hi, hl, hb => by
    have hbt := bt_range key ((16 + i : Nat) : Int)
    have hbi := hb i
    have h255 := hbi.2.2 (Nat.le_refl _)
    obtain ⟨K, hK⟩ := add_key key hk d (i + 1) (acc.set i (acc.getD i 0 + bt key ((16 + i : Nat) : Int))) (by omega) (by omega) (by rw [List.length_set]; exact hl) (by
      intro j
      by_cases hj : i = j
      · subst hj
        rw [getD_set _ _ _ (by omega)]
        exact ⟨by omega, by omega, fun h => by omega⟩
      · rw [getD_set_ne _ _ _ _ hj]
        exact ⟨(hb j).1, (hb j).2.1, fun h => (hb j).2.2 (by omega)⟩)
    refine ⟨K + 1, fun k h => ?_⟩
    obtain ⟨k, rfl⟩ : ∃ j, k = j + 1 := ⟨k - 1, by omega⟩
    have h1 := hK k (by omega)
    rw [escutcheonref1_Tag.l4, if_pos (by omega), if_pos (by omega), if_pos (by omega), w64 (n := 16 + (i : Int)) (by omega) (by omega), if_pos (by omega), if_pos (by omega), show 16 + (i : Int) = ((16 + i : Nat) : Int) by omega, Int.toNat_natCast, rd_nat, w64 (n := bt key ((16 + i : Nat) : Int)) (by omega) (by omega), w64 (n := acc.getD i 0 + bt key ((16 + i : Nat) : Int)) (by omega) (by omega), w64 (n := (i : Int) + 1) (by omega) (by omega), show (i : Int) + 1 = ((i + 1 : Nat) : Int) by omega, h1]
    congr 3
    rw [V_set _ _ _ (by omega), RA_step key (16 + i) (by omega), show 16 + (i + 1) = 16 + i + 1 by omega, Int.pow_succ]
    generalize (256 : Int) ^ i = q
    generalize RA key (16 + i + 1) = v
    generalize bt key ((16 + i : Nat) : Int) = w
    generalize acc.getD i 0 = u
    grind
theorem ref_end (key b r : ByteArray) (hk : key.size = 32) (acc : List Int) (hd : Dg acc) (hl : acc.length = 18) (hv : V acc < 1361129467683753853853498429727072845824) (e : Int) (he : (b.size : Int) ≤ e) :
    ∃ K, ∀ k, K ≤ k → escutcheonref1_Tag.l0 k key b r acc e = some (strOfNums (littleL (V acc % 1361129467683753853853498429727072845819 + RA key 16) 16)) := by
  have h0 := hd.get 0
  have hnn := hd.nn
  have hok : Ok (acc.set 0 (acc.getD 0 0 + 5)) := ok_of_get (fun j => by
    by_cases hj : 0 = j
    · subst hj
      rw [getD_set _ _ _ (by omega)]
      omega
    · rw [getD_set_ne _ _ _ _ hj]
      have := hd.get j
      omega)
  have hV5 : V (acc.set 0 (acc.getD 0 0 + 5)) = V acc + 5 := by
    rw [V_set _ _ _ (by omega), Int.pow_zero]
    omega
  obtain ⟨t, c1, c2, c3, c4, c5, c6⟩ := carry_all _ hok (by rw [List.length_set]; omega)
  rw [List.length_set] at c1 c5 c6
  rw [hV5] at c3
  have htl : t.length = 18 := by
    have := c6 (by rw [hV5, hl, show (256 : Int) ^ 18 = 22300745198530623141535718272648361505980416 by decide]; omega)
    omega
  have htop := top_eq c2 (by omega)
  rw [c3] at htop
  have d16 : t.drop 16 = [t.getD 16 0, t.getD 17 0] := by
    rw [drop_getD t 16 (by omega), drop_getD t 17 (by omega), List.drop_of_length_le (by omega)]
  have hV16 : V (t.drop 16) = t.getD 16 0 + 256 * t.getD 17 0 := by
    rw [d16]
    show t.getD 16 0 + 256 * (t.getD 17 0 + 256 * 0) = _
    omega
  rw [hV16] at htop
  have g16 := c2.get 16
  have g17 := c2.get 17
  have fin : ∀ a : List Int, Dg a → a.length = 18 → V a % 340282366920938463463374607431768211456 = V acc % 1361129467683753853853498429727072845819 % 340282366920938463463374607431768211456 → ∃ K, ∀ k, K ≤ k → escutcheonref1_Tag.j5 k key a = some (strOfNums (littleL (V acc % 1361129467683753853853498429727072845819 + RA key 16) 16)) := by
    intro a ha hal hav
    obtain ⟨K, hK⟩ := add_key key hk 16 0 a rfl (by decide) hal (fun j => by have := ha.get j; exact ⟨by omega, by omega, fun _ => by omega⟩)
    refine ⟨K + 1, fun k h => ?_⟩
    obtain ⟨k, rfl⟩ : ∃ j, k = j + 1 := ⟨k - 1, by omega⟩
    have := hK k (by omega)
    rw [show ((0 : Nat) : Int) = 0 from rfl] at this
    rw [escutcheonref1_Tag.j5, this]
    congr 2
    apply littleL_mod
    rw [Int.pow_zero, Int.one_mul, Nat.add_zero]
    omega
  have start : ∀ (k : Nat), 100 ≤ k → escutcheonref1_Tag.l0 (k + 1) key b r acc e = if t.getD 16 0 ≥ 4 then escutcheonref1_Tag.j4 k key acc t true else escutcheonref1_Tag.j4 k key acc t (decide (t.getD 17 0 > 0)) := by
    intro k h
    rw [escutcheonref1_Tag.l0, if_neg (by omega), if_pos (by rw [hl]; decide), Option.bind_some, List.nil_append, if_pos (by omega), show ((0 : Int)).toNat = 0 from rfl, show rd acc 0 = acc.getD 0 0 from rfl, w64 (n := acc.getD 0 0 + 5) (by omega) (by omega), c1 _ (by omega), Option.bind_some, if_pos (by omega), show rd t 16 = t.getD 16 0 from rfl, show rd t 17 = t.getD 17 0 from rfl]
    rw [if_pos (show (t.length : Int) > 17 by omega), if_pos (show (17 : Int) < (t.length : Int) by omega)]
  by_cases hc : t.getD 16 0 ≥ 4 ∨ t.getD 17 0 > 0
  · have hge : V acc + 5 ≥ 1361129467683753853853498429727072845824 := by omega
    have hmod : V acc % 1361129467683753853853498429727072845819 = V acc - 1361129467683753853853498429727072845819 := by
      clear htop hV16 c3 c6 hV5 hc d16
      omega
    obtain ⟨K, hK⟩ := fin t c2 htl (by rw [c3, hmod]; clear htop hV16 c3 c6 hV5 hc d16 hmod; omega)
    refine ⟨K + 102, fun k h => ?_⟩
    obtain ⟨k, rfl⟩ : ∃ j, k = j + 1 + 1 := ⟨k - 2, by omega⟩
    rw [start (k + 1) (by omega)]
    have hj : escutcheonref1_Tag.j4 (k + 1) key acc t true = escutcheonref1_Tag.j5 k key t := by rw [escutcheonref1_Tag.j4, if_pos rfl]
    split
    · rw [hj, hK k (by omega)]
    · rw [decide_eq_true (by omega), hj, hK k (by omega)]
  · obtain ⟨K, hK⟩ := fin acc hd hl (by omega)
    refine ⟨K + 102, fun k h => ?_⟩
    obtain ⟨k, rfl⟩ : ∃ j, k = j + 1 + 1 := ⟨k - 2, by omega⟩
    rw [start (k + 1) (by omega), if_neg (by omega), decide_eq_false (by omega), escutcheonref1_Tag.j4, if_neg (by decide), hK k (by omega)]
end Go.Proofs.Ytagoibmemonkaaa.B
