/- The reference's fold: a number of the same rest, below 2 to the 130th. -/
import Derived.Test.YtagoibmemonkaaaOnetimeR
namespace Go.Proofs.Ytagoibmemonkaaa.B
open Go.RowKit Go.Proofs.Ytagoibmemonkaaa.P Go.Proofs.YtagoibmemonkaaaW.PrintWords Go.Proofs.YtagoibmemonkaaaW.PrintLast Go.Proofs.YtagoibmemonkaaaW.PrintMore
set_option linter.unusedVariables false
set_option linter.unusedSimpArgs false

theorem V_set : ∀ (l : List Int) (j : Nat) (v : Int), j < l.length → V (l.set j v) = V l + 256 ^ j * (v - l.getD j 0)
  | x :: l, 0, v, _ => by
    show v + 256 * V l = x + 256 * V l + 256 ^ 0 * (v - x)
    rw [Int.pow_zero]; omega
  | x :: l, j + 1, v, h => by
    have ih := V_set l j v (by simpa using h)
    show x + 256 * V (l.set j v) = x + 256 * V l + 256 ^ (j + 1) * (v - l.getD j 0)
    rw [ih, Int.pow_succ, Int.mul_add, Int.mul_comm (256 ^ j) 256, Int.mul_assoc]
    omega
theorem dm4 {c : Int} (h : 0 ≤ c) : Int.tmod c 4 = c % 4 ∧ Int.tdiv c 4 = c / 4 := ⟨Int.tmod_eq_emod_of_nonneg h, Int.tdiv_eq_ediv_of_nonneg h⟩
theorem Dg.get {l : List Int} (h : Dg l) (i : Nat) : 0 ≤ l.getD i 0 ∧ l.getD i 0 ≤ 255 := by
  rw [List.getD_eq_getElem?_getD]
  by_cases hi : i < l.length
  · rw [List.getElem?_eq_getElem hi]; exact h _ (List.getElem_mem hi)
  · rw [List.getElem?_eq_none (by omega)]; exact ⟨by decide, by decide⟩
/-- What lies above the bit 130 at a place, five times of which goes down. -/
def part (x : List Int) (i : Nat) : Int := x.getD i 0 / 4 + x.getD (i + 1) 0 % 4 * 64
theorem part_bd {x : List Int} (hx : Dg x) (i : Nat) : 0 ≤ part x i ∧ part x i ≤ 255 := by
  have := hx.get i
  have := hx.get (i + 1)
  unfold part; omega
theorem part_V (x : List Int) (hx : Dg x) (i : Nat) (h : i < x.length) : V (x.drop i) / 4 = part x i + 256 * (V (x.drop (i + 1)) / 4) := by
  have h0 := hx.get i
  rw [drop_getD x i h, V]
  unfold part
  by_cases h1 : i + 1 < x.length
  · rw [drop_getD x (i + 1) h1, V]
    omega
  · rw [List.drop_of_length_le (by omega), V, List.getD_eq_getElem?_getD (l := x) (i := i + 1), List.getElem?_eq_none (by omega)]
    simp only [Option.getD_none]
    omega
theorem part_eq {x : List Int} (hx : Dg x) (i : Nat) : wrap64 (wrap64 (Int.tdiv (x.getD i 0) 4) + wrap64 (Int.tmod (x.getD (i + 1) 0) 4 * 64)) = part x i := by
  have g0 := hx.get i
  have g1 := hx.get (i + 1)
  unfold part
  rw [(dm4 g0.1).2, (dm4 g1.1).1, w64 (n := x.getD i 0 / 4) (by omega) (by omega), w64 (n := x.getD (i + 1) 0 % 4 * 64) (by omega) (by omega), w64 (by omega) (by omega)]
theorem part_end {x : List Int} (hx : Dg x) (i : Nat) (h : x.length ≤ i + 1) : wrap64 (Int.tdiv (x.getD i 0) 4) = part x i := by
  have g0 := hx.get i
  unfold part
  rw [(dm4 g0.1).2, w64 (n := x.getD i 0 / 4) (by omega) (by omega), List.getD_eq_getElem?_getD (l := x) (i := i + 1), List.getElem?_eq_none h]
  simp only [Option.getD_none]
  omega
theorem fold_step (x low : List Int) (hx : Dg x) (i : Nat) (h17 : 17 ≤ i) (hi : i < x.length) (hl : x.length ≤ 100) (hll : low.length = x.length) (hb : 0 ≤ low.getD (i - 16) 0 ∧ low.getD (i - 16) 0 ≤ 2000) (high : Bool) (k : Nat) :
    escutcheonref1_fold.l1 (k + 1) x high low (i : Int) = escutcheonref1_fold.l1 k x (high || decide (part x i > 0)) (low.set (i - 16) (low.getD (i - 16) 0 + 5 * part x i)) ((i + 1 : Nat) : Int) := by
  have p := part_bd hx i
  have e16 : (i : Int) - 16 = ((i - 16 : Nat) : Int) := by omega
  have e1 : (i : Int) + 1 = ((i + 1 : Nat) : Int) := by omega
  rw [escutcheonref1_fold.l1, if_pos (by omega), if_neg (by omega), if_neg (by omega), if_pos (by omega), w64 (n := (i : Int) + 1) (by omega) (by omega), w64 (n := (i : Int) - 16) (by omega) (by omega), e16, e1]
  have hpe : wrap64 (wrap64 (Int.tdiv (rd x (i : Int)) 4) + wrap64 (Int.tmod (rd x ((i + 1 : Nat) : Int)) 4 * 64)) = part x i := part_eq hx i
  simp only [hpe, rd_nat low, Int.toNat_natCast, Option.bind_some]
  have hw : wrap64 (low.getD (i - 16) 0 + wrap64 (5 * part x i)) = low.getD (i - 16) 0 + 5 * part x i := by rw [w64 (n := 5 * part x i) (by omega) (by omega), w64 (by omega) (by omega)]
  by_cases h : i + 1 < x.length
  · rw [if_pos (by omega), if_pos (by omega), if_pos (by omega), if_pos (by omega), hw]
    cases high <;> simp
  · have hpd : wrap64 (Int.tdiv (rd x (i : Int)) 4) = part x i := part_end hx i (by omega)
    simp only [hpd]
    rw [if_neg (by omega), if_pos (by omega), if_pos (by omega), hw]
    cases high <;> simp
theorem fold_first (x low : List Int) (hx : Dg x) (h18 : 18 ≤ x.length) (hl : x.length ≤ 100) (hll : low.length = x.length) (hb : 0 ≤ low.getD 0 0 ∧ low.getD 0 0 ≤ 255) (hb2 : low.getD 16 0 = 0) (k : Nat) :
    escutcheonref1_fold.l1 (k + 1) x false low ((16 : Nat) : Int) = escutcheonref1_fold.l1 k x (decide (part x 16 > 0)) ((low.set 16 (x.getD 16 0 % 4)).set 0 (low.getD 0 0 + 5 * part x 16)) ((17 : Nat) : Int) := by
  have p := part_bd hx 16
  have g := hx.get 16
  have e16 : ((16 : Nat) : Int) - 16 = ((0 : Nat) : Int) := by omega
  have e1 : ((16 : Nat) : Int) + 1 = ((17 : Nat) : Int) := by omega
  rw [escutcheonref1_fold.l1, if_pos (by omega), if_neg (by omega), if_pos (by omega), if_pos (by omega), if_pos (by omega), w64 (n := ((16 : Nat) : Int) + 1) (by omega) (by omega), w64 (n := ((16 : Nat) : Int) - 16) (by omega) (by omega), e16, e1]
  simp only [show (16 : Int).toNat = 16 from rfl, Int.toNat_natCast, Option.bind_some]
  rw [show rd low 16 = low.getD 16 0 from rfl, show rd x 16 = x.getD 16 0 from rfl, show rd x ((16 : Nat) : Int) = x.getD 16 0 from rfl, show rd x ((17 : Nat) : Int) = x.getD (16 + 1) 0 from rfl]
  rw [part_eq hx 16, hb2, (dm4 g.1).1, Int.zero_add, w64 (n := x.getD 16 0 % 4) (by omega) (by omega)]
  rw [show rd (low.set 16 (x.getD 16 0 % 4)) ((0 : Nat) : Int) = low.getD 0 0 by
    rw [rd_nat, List.getD_eq_getElem?_getD, List.getElem?_set_ne (by decide), ← List.getD_eq_getElem?_getD]]
  have hw : wrap64 (low.getD 0 0 + wrap64 (5 * part x 16)) = low.getD 0 0 + 5 * part x 16 := by rw [w64 (n := 5 * part x 16) (by omega) (by omega), w64 (by omega) (by omega)]
  rw [if_pos (by omega), if_pos (by omega), if_pos (by omega), if_pos (by omega), if_pos (by omega), hw]
  rw [if_neg (by decide)]
theorem fold_low (x : List Int) (hx : Dg x) (h18 : 18 ≤ x.length) (hl : x.length ≤ 100) : ∀ (d i k : Nat), d = 16 - i → i ≤ 16 → 
    escutcheonref1_fold.l1 (k + d) x false (x.take i ++ List.replicate (x.length - i) 0) (i : Int) = escutcheonref1_fold.l1 k x false (x.take 16 ++ List.replicate (x.length - 16) 0) ((16 : Nat) : Int)
  | 0, i, k, hd, hi => by
    obtain rfl : i = 16 := by omega
    rfl
  | d + 1, i, k, hd, hi => by
    have g := hx.get i
    have hlen : (x.take i ++ List.replicate (x.length - i) (0 : Int)).length = x.length := by rw [List.length_append, List.length_take, List.length_replicate]; omega
    rw [show k + (d + 1) = (k + d) + 1 by omega, escutcheonref1_fold.l1, if_pos (by omega), if_pos (by omega), if_pos (by omega), if_pos (by omega), Int.toNat_natCast, rd_nat, rd_nat]
    have hz : (x.take i ++ List.replicate (x.length - i) (0 : Int)).getD i 0 = 0 := by
      rw [List.getD_eq_getElem?_getD, List.getElem?_append_right (by rw [List.length_take]; omega), List.getElem?_replicate]
      split <;> rfl
    have hset : (x.take i ++ List.replicate (x.length - i) (0 : Int)).set i (x.getD i 0) = x.take (i + 1) ++ List.replicate (x.length - (i + 1)) 0 := by
      have ht : (x.take i).length = i := by rw [List.length_take]; omega
      rw [List.set_append_right i _ (by omega), ht, Nat.sub_self, show x.length - i = (x.length - (i + 1)) + 1 by omega, List.replicate_succ, List.set_cons_zero, List.take_succ_eq_append_getElem (by omega), List.append_assoc, List.getD_eq_getElem?_getD, List.getElem?_eq_getElem (by omega)]
      rfl
    rw [hz, Int.zero_add, w64 (n := x.getD i 0) (by omega) (by omega), w64 (by omega) (by omega), hset, show (i : Int) + 1 = ((i + 1 : Nat) : Int) by omega]
    exact fold_low x hx h18 hl d (i + 1) k (by omega) (by omega)
theorem getD_set_ne (o : List Int) (i j : Nat) (v : Int) (h : i ≠ j) : (o.set i v).getD j 0 = o.getD j 0 := by
  rw [List.getD_eq_getElem?_getD, List.getElem?_set_ne h, ← List.getD_eq_getElem?_getD]
theorem fold_up (x : List Int) (hx : Dg x) (hl : x.length ≤ 100) : ∀ (d i : Nat) (high : Bool) (low : List Int), d = x.length - i → 17 ≤ i → i ≤ x.length → low.length = x.length →
    (∀ j, 0 ≤ low.getD j 0 ∧ low.getD j 0 ≤ 2000 ∧ (i ≤ j + 16 → low.getD j 0 ≤ 255)) →
    ∃ low', low'.length = x.length ∧ (∀ j, 0 ≤ low'.getD j 0 ∧ low'.getD j 0 ≤ 2000) ∧ V low' = V low + 256 ^ (i - 16) * (5 * (V (x.drop i) / 4)) ∧
      ∀ k, escutcheonref1_fold.l1 (k + d) x high low (i : Int) = escutcheonref1_fold.l1 k x (high || decide (V (x.drop i) / 4 > 0)) low' ((x.length : Nat) : Int)
  | 0, i, high, low, hd, h17, hi, hll, hb => by
    obtain rfl : i = x.length := by omega
    refine ⟨low, hll, fun j => ⟨(hb j).1, (hb j).2.1⟩, ?_, ?_⟩
    · rw [List.drop_length, V, show (0 : Int) / 4 = 0 from rfl, Int.mul_zero, Int.mul_zero, Int.add_zero]
    · intro k; rw [List.drop_length, V, show decide ((0 : Int) / 4 > 0) = false from rfl, Bool.or_false]; rfl
  | d + 1, i, high, low, hd, h17, hi, hll, hb => by
    have p := part_bd hx i
    have hbi := hb (i - 16)
    have h255 := hbi.2.2 (by omega)
    have hs := fold_step x low hx i h17 (by omega) hl hll ⟨hbi.1, hbi.2.1⟩ high
    obtain ⟨low', g1, g2, g3, g4⟩ := fold_up x hx hl d (i + 1) (high || decide (part x i > 0)) (low.set (i - 16) (low.getD (i - 16) 0 + 5 * part x i)) (by omega) (by omega) (by omega) (by rw [List.length_set]; exact hll) (by
      intro j
      by_cases hj : i - 16 = j
      · subst hj
        rw [getD_set _ _ _ (by omega)]
        exact ⟨by omega, by omega, fun h => by omega⟩
      · rw [getD_set_ne _ _ _ _ hj]
        exact ⟨(hb j).1, (hb j).2.1, fun h => (hb j).2.2 (by omega)⟩)
    have hp := part_V x hx i (by omega)
    have hnn : 0 ≤ V (x.drop (i + 1)) := V_nn _ (fun y hy => (hx y (List.mem_of_mem_drop hy)).1)
    refine ⟨low', g1, g2, ?_, ?_⟩
    · rw [g3, V_set _ _ _ (by omega), hp, show i + 1 - 16 = (i - 16) + 1 by omega, Int.pow_succ]
      generalize (256 : Int) ^ (i - 16) = q
      generalize V (x.drop (i + 1)) / 4 = v
      generalize part x i = w
      generalize low.getD (i - 16) 0 = u
      grind
    · intro k; rw [show k + (d + 1) = (k + d) + 1 by omega, hs, g4, hp]
      congr 1
      have : (decide (part x i > 0) || decide (V (List.drop (i + 1) x) / 4 > 0)) = decide (part x i + 256 * (V (List.drop (i + 1) x) / 4) > 0) := by
        rw [Bool.eq_iff_iff]
        simp only [Bool.or_eq_true, decide_eq_true_eq]
        omega
      rw [Bool.or_assoc, this]
theorem V_td (x : List Int) (n : Nat) (h : n ≤ x.length) : V x = V (x.take n) + 256 ^ n * V (x.drop n) := by
  have := V_app (x.take n) (x.drop n)
  rw [List.take_append_drop, List.length_take, Nat.min_eq_left h] at this
  exact this
theorem ok_of_get {l : List Int} (h : ∀ j, 0 ≤ l.getD j 0 ∧ l.getD j 0 ≤ 2000) : Ok l := by
  intro x hx
  obtain ⟨j, hj, rfl⟩ := List.getElem_of_mem hx
  have := h j
  rw [List.getD_eq_getElem?_getD, List.getElem?_eq_getElem hj] at this
  simp only [Option.getD_some] at this
  omega
theorem Dg.take {l : List Int} (h : Dg l) (n : Nat) : Dg (l.take n) := fun x hx => h x (List.mem_of_mem_take hx)
theorem Dg.drop {l : List Int} (h : Dg l) (n : Nat) : Dg (l.drop n) := fun x hx => h x (List.mem_of_mem_drop hx)
theorem Dg.nn {l : List Int} (h : Dg l) : 0 ≤ V l := V_nn l (fun y hy => (h y hy).1)
/-- One pass of the reference's fold. -/
theorem fold_pass (x : List Int) (hx : Dg x) (h18 : 18 ≤ x.length) (hl : x.length ≤ 100) :
    ∃ low, low.length = x.length ∧ Ok low ∧ V low = V x - 1361129467683753853853498429727072845819 * (V (x.drop 16) / 4) ∧
      ∀ k, escutcheonref1_fold.l1 (k + 1 + x.length) x false (List.replicate x.length 0) 0 = escutcheonref1_fold.l1 (k + 1) x (decide (V (x.drop 16) / 4 > 0)) low ((x.length : Nat) : Int) := by
  have ht : (x.take 16).length = 16 := by rw [List.length_take]; omega
  have hlen : (x.take 16 ++ List.replicate (x.length - 16) (0 : Int)).length = x.length := by rw [List.length_append, ht, List.length_replicate]; omega
  have hg : ∀ j, (x.take 16 ++ List.replicate (x.length - 16) (0 : Int)).getD j 0 = if j < 16 then x.getD j 0 else 0 := by
    intro j
    rw [List.getD_eq_getElem?_getD]
    split
    · rw [List.getElem?_append_left (by omega), List.getElem?_take_of_lt (by omega), List.getD_eq_getElem?_getD]
    · rw [List.getElem?_append_right (by omega), List.getElem?_replicate]
      split <;> rfl
  obtain ⟨L0, hL0⟩ : ∃ l, x.take 16 ++ List.replicate (x.length - 16) (0 : Int) = l := ⟨_, rfl⟩
  have hV0 : V L0 = V (x.take 16) := by rw [← hL0, V_app, V_zeros, Int.mul_zero, Int.add_zero]
  rw [hL0] at hlen hg
  have b0 := hx.get 0
  have b16 := hx.get 16
  have p := part_bd hx 16
  have hf := fold_first x L0 hx h18 hl hlen (by rw [hg 0, if_pos (by decide)]; exact b0) (by rw [hg 16, if_neg (by decide)])
  obtain ⟨low', g1, g2, g3, g4⟩ := fold_up x hx hl (x.length - 17) 17 (decide (part x 16 > 0)) ((L0.set 16 (x.getD 16 0 % 4)).set 0 (L0.getD 0 0 + 5 * part x 16)) rfl (by decide) (by omega) (by rw [List.length_set, List.length_set]; exact hlen) (by
    intro j
    by_cases hj : 0 = j
    · subst hj
      rw [getD_set _ _ _ (by rw [List.length_set]; omega), hg 0, if_pos (by decide)]
      exact ⟨by omega, by omega, fun h => by omega⟩
    · rw [getD_set_ne _ _ _ _ hj]
      by_cases hj2 : 16 = j
      · subst hj2
        rw [getD_set _ _ _ (by omega)]
        exact ⟨by omega, by omega, fun h => by omega⟩
      · rw [getD_set_ne _ _ _ _ hj2, hg j]
        have := hx.get j
        split
        · exact ⟨by omega, by omega, fun h => by omega⟩
        · exact ⟨by omega, by omega, fun h => by omega⟩)
  have hp : V (x.drop 16) / 4 = part x 16 + 256 * (V (x.drop 17) / 4) := part_V x hx 16 (by omega)
  have hd : x.drop 16 = x.getD 16 0 :: x.drop 17 := drop_getD x 16 (by omega)
  have hnn : 0 ≤ V (x.drop 17) := (hx.drop 17).nn
  refine ⟨low', g1, ok_of_get g2, ?_, ?_⟩
  · rw [g3, V_set _ _ _ (by rw [List.length_set]; omega), V_set _ _ _ (by omega), hV0, V_td x 16 (by omega), hg 16, if_neg (by decide), getD_set_ne _ _ _ _ (by decide), hp, hd, V]
    unfold part
    rw [show (256 : Int) ^ (17 - 16) = 256 by decide, show (256 : Int) ^ 16 = 340282366920938463463374607431768211456 by decide, Int.pow_zero]
    have hm : V (x.drop 17) % 4 = x.getD 17 0 % 4 := by
      by_cases h1 : 17 < x.length
      · rw [drop_getD x 17 h1, V]; omega
      · rw [List.drop_of_length_le (by omega), V, List.getD_eq_getElem?_getD (l := x) (i := 17), List.getElem?_eq_none (by omega)]; rfl
    generalize V (x.drop 17) = v at *
    generalize x.getD 17 0 = d17 at *
    generalize x.getD 16 0 = d16 at *
    omega
  · intro k
    have hlow := fold_low x hx h18 hl 16 0 (k + 1 + x.length - 16) rfl (by decide)
    rw [List.take_zero, List.nil_append, Nat.sub_zero, show k + 1 + x.length - 16 + 16 = k + 1 + x.length by omega, show ((0 : Nat) : Int) = 0 from rfl, hL0] at hlow
    rw [hlow, show k + 1 + x.length - 16 = k + 1 + x.length - 17 + 1 by omega, hf, show k + 1 + x.length - 17 = k + 1 + (x.length - 17) by omega, g4, hp]
    congr 1
    rw [Bool.eq_iff_iff]
    simp only [Bool.or_eq_true, decide_eq_true_eq]
    omega
end Go.Proofs.Ytagoibmemonkaaa.B
