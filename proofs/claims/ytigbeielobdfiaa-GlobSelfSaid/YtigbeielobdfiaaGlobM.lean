/- What glob.Match computes: whether the text is what the pattern's parts are. No condition. -/
import Derived.Test.YtigbeielobdfiaaGlobB
import Derived.Test.YtigbeielobdfiaaPx2
namespace Go.Proofs.Ytigbeielobdfiaa.B
open Go.RowKit Go.Proofs.Ytigbeielobdfiaa.P Go.Proofs.YtigbeielobdfiaaW.PrintWords Go.Proofs.YtigbeielobdfiaaW.PrintLast
set_option linter.unusedVariables false
set_option linter.unusedSimpArgs false

theorem rdOf_nat (l : List Bool) (i : Nat) : rdOf false l (i : Int) = l.getD i false := rfl
theorem getD_set (l : List Bool) (i j : Nat) (b : Bool) (h : i < l.length) : (l.set i b).getD j false = if j = i then b else l.getD j false := by
  rw [List.getD_eq_getElem?_getD, List.getD_eq_getElem?_getD, List.getElem?_set]
  by_cases e : i = j
  · subst e; simp [h]
  · rw [if_neg e, if_neg (fun h => e h.symm)]
/-- One round of the inner loop. -/
def nx (s : ByteArray) (may next : List Bool) (x : S40) (i : Nat) : Bool :=
  if x.f0 = 42 then (may.getD i false || (decide (0 < i) && next.getD (i - 1) false))
  else if x.f0 = 63 then (decide (0 < i) && may.getD (i - 1) false)
  else (decide (0 < i) && (may.getD (i - 1) false && (bt s ((i - 1 : Nat) : Int) == x.f1)))
theorem l1_step (s : ByteArray) (hs : s.size ≤ 100000) (may next : List Bool) (l : List S40) (a b : Int) (n i : Nat) (x : S40) (k : Nat) (hn : n = s.size + 1) (hm : may.length = n) (hx : next.length = n) (hi : i < n) :
    glob_Match.l1 (k + 1) s may next l a b n i x.f0 x.f1 = glob_Match.l1 k s may (next.set i (nx s may next x i)) l a b n (i + 1 : Nat) x.f0 x.f1 := by
  have hw1 : wrap64 ((i : Int) + 1) = ((i + 1 : Nat) : Int) := by rw [w64 (by omega) (by omega)]; omega
  have hi1 : (i : Int) < (n : Int) := by omega
  have hi2 : (0 : Int) ≤ (i : Int) := by omega
  have hi3 : (i : Int) < (may.length : Int) := by rw [hm]; exact hi1
  have hi4 : (i : Int) < (next.length : Int) := by rw [hx]; exact hi1
  rw [glob_Match.l1, if_pos hi1, hw1]
  by_cases h0 : 0 < i
  · have hw0 : wrap64 ((i : Int) - 1) = ((i - 1 : Nat) : Int) := by rw [w64 (by omega) (by omega)]; omega
    have g0 : (i : Int) > 0 := by omega
    have g1 : (0 : Int) ≤ ((i - 1 : Nat) : Int) := by omega
    have g2 : ((i - 1 : Nat) : Int) < (may.length : Int) := by rw [hm]; omega
    have g3 : ((i - 1 : Nat) : Int) < (next.length : Int) := by rw [hx]; omega
    have g4 : ((i - 1 : Nat) : Int) < (s.size : Int) := by omega
    rw [hw0]
    simp only [rdOf_nat, if_pos g0, if_pos g1, if_pos g2, if_pos g3, if_pos g4, if_pos hi2, if_pos hi3, if_pos hi4, Int.toNat_natCast]
    unfold nx
    rw [decide_eq_true h0]
    by_cases h42 : x.f0 = 42
    · rw [if_pos h42, if_pos h42]
      by_cases hmay : may.getD i false = true
      · rw [if_pos hmay, hmay]; rfl
      · rw [if_neg hmay]; simp only [Bool.not_eq_true] at hmay; rw [hmay]; rfl
    · rw [if_neg h42, if_neg h42]
      by_cases h63 : x.f0 = 63
      · rw [if_pos h63, if_pos h63, Bool.true_and]
      · rw [if_neg h63, if_neg h63]
        by_cases hmay : may.getD (i - 1) false = true
        · rw [if_pos hmay, hmay]; rfl
        · rw [if_neg hmay]; simp only [Bool.not_eq_true] at hmay; rw [hmay]; rfl
  · have g0 : ¬ (i : Int) > 0 := by omega
    simp only [rdOf_nat, if_neg g0, if_pos hi2, if_pos hi3, if_pos hi4, Int.toNat_natCast]
    unfold nx
    rw [decide_eq_false h0]
    by_cases h42 : x.f0 = 42
    · rw [if_pos h42, if_pos h42]
      by_cases hmay : may.getD i false = true
      · rw [if_pos hmay, hmay]; rfl
      · rw [if_neg hmay]; simp only [Bool.not_eq_true] at hmay; rw [hmay]; rfl
    · rw [if_neg h42, if_neg h42]
      by_cases h63 : x.f0 = 63
      · rw [if_pos h63, if_pos h63, Bool.false_and]
      · rw [if_neg h63, if_neg h63, Bool.false_and]

/-- A row of marks: behind these parts. -/
def Row (pre : List S40) (s : ByteArray) (may : List Bool) : Prop := may.length = s.size + 1 ∧ ∀ j, j ≤ s.size → (may.getD j false = true ↔ Mt pre ((L s).take j))
theorem nx_row (s : ByteArray) (may next : List Bool) (pre : List S40) (x : S40) (hR : Row pre s may) (i : Nat) (hi : i ≤ s.size) (hj : ∀ j, j < i → (next.getD j false = true ↔ Mt (pre ++ [x]) ((L s).take j))) :
    nx s may next x i = true ↔ Mt (pre ++ [x]) ((L s).take i) := by
  unfold nx
  by_cases h42 : x.f0 = 42
  · rw [if_pos h42, Bool.or_eq_true, Bool.and_eq_true, decide_eq_true_eq, hR.2 i hi, row_star pre x (L s) h42 i hi]
    constructor
    · rintro (h | ⟨h0, h⟩)
      · exact ⟨i, Nat.le_refl _, h⟩
      · obtain ⟨a, ha, h⟩ := (row_star pre x _ h42 (i - 1) (by rw [L_len]; omega)).mp ((hj (i - 1) (by omega)).mp h)
        exact ⟨a, by omega, h⟩
    · rintro ⟨a, ha, h⟩
      by_cases e : a = i
      · subst e; exact Or.inl h
      · exact Or.inr ⟨by omega, (hj (i - 1) (by omega)).mpr ((row_star pre x _ h42 (i - 1) (by rw [L_len]; omega)).mpr ⟨a, by omega, h⟩)⟩
  · rw [if_neg h42]
    by_cases h63 : x.f0 = 63
    · rw [if_pos h63, Bool.and_eq_true, decide_eq_true_eq, row_one pre x (L s) h63 i hi]
      exact and_congr_right fun h0 => hR.2 (i - 1) (by omega)
    · rw [if_neg h63, Bool.and_eq_true, Bool.and_eq_true, decide_eq_true_eq, row_lit pre x (L s) h42 h63 i hi, beq_iff_eq]
      refine and_congr_right fun h0 => and_congr (hR.2 (i - 1) (by omega)) ?_
      rw [bt_L, Int.toNat_natCast, List.getD_eq_getElem?_getD]
theorem l1_all (s : ByteArray) (hs : s.size ≤ 100000) (may : List Bool) (l : List S40) (a b : Int) (pre : List S40) (x : S40) (hR : Row pre s may) : ∀ (d i : Nat) (next : List Bool) (k : Nat), d = s.size + 1 - i → i ≤ s.size + 1 → next.length = s.size + 1 →
    (∀ j, j < i → (next.getD j false = true ↔ Mt (pre ++ [x]) ((L s).take j))) →
    ∃ next', Row (pre ++ [x]) s next' ∧ glob_Match.l1 (k + d + 1) s may next l a b (s.size + 1 : Nat) i x.f0 x.f1 = glob_Match.l0 k s next' l a (wrap64 (b + 1)) := by
  intro d
  induction d with
  | zero =>
    intro i next k hd hi hl hj
    refine ⟨next, ⟨hl, fun j h => hj j (by omega)⟩, ?_⟩
    rw [glob_Match.l1, if_neg (by omega)]
  | succ d ih =>
    intro i next k hd hi hl hj
    rw [show k + (d + 1) + 1 = (k + d + 1) + 1 by omega, l1_step s hs may next l a b (s.size + 1) i x (k + d + 1) rfl hR.1 hl (by omega)]
    refine ih (i + 1) _ k (by omega) (by omega) (by rw [List.length_set]; exact hl) ?_
    intro j h
    rw [getD_set _ _ _ _ (by omega)]
    by_cases e : j = i
    · subst e; rw [if_pos rfl]; exact nx_row s may next pre x hR j (by omega) hj
    · rw [if_neg e]; exact hj j (by omega)
theorem row_start (s : ByteArray) : Row [] s ((List.replicate (s.size + 1) false).set 0 true) := by
  refine ⟨by simp, fun j hj => ?_⟩
  rw [getD_set _ _ _ _ (by simp)]
  by_cases e : j = 0
  · subst e; simp [Mt]
  · rw [if_neg e]
    constructor
    · intro h
      rw [List.getD_eq_getElem?_getD, List.getElem?_replicate] at h
      split at h <;> simp at h
    · intro h
      have h2 : ((L s).take j).length = 0 := by rw [show (L s).take j = [] from h]; rfl
      rw [List.length_take, L_len] at h2; omega
theorem l0_all (s : ByteArray) (hs : s.size ≤ 100000) (l : List S40) (hl : l.length ≤ 1000) : ∀ (d i : Nat) (may : List Bool) (k : Nat), d = l.length - i → i ≤ l.length → Row (l.take i) s may → (s.size + 3) * d + 1 ≤ k →
    ∃ b, glob_Match.l0 k s may l l.length i = some b ∧ (b = true ↔ Mt l (L s)) := by
  intro d
  induction d with
  | zero =>
    intro i may k hd hi hR hk
    obtain ⟨k, rfl⟩ : ∃ k', k = k' + 1 := ⟨k - 1, by omega⟩
    obtain rfl : i = l.length := by omega
    rw [List.take_length] at hR
    rw [glob_Match.l0, if_neg (by omega), if_pos (by omega), if_pos (by rw [hR.1]; omega)]
    refine ⟨_, rfl, ?_⟩
    rw [rdOf_nat, hR.2 s.size (Nat.le_refl _), ← L_len, List.take_length]
  | succ d ih =>
    intro i may k hd hi hR hk
    rw [Nat.mul_succ] at hk
    obtain ⟨k, rfl⟩ : ∃ k', k = k' + (s.size + 1) + 1 + 1 := ⟨k - (s.size + 3), by omega⟩
    have hw : wrap64 ((s.size : Int) + 1) = ((s.size + 1 : Nat) : Int) := by rw [w64 (by omega) (by omega)]; omega
    have hil : i < l.length := by omega
    obtain ⟨x, hx⟩ : ∃ x, l[i] = x := ⟨_, rfl⟩
    have hrd : rd_T40 l (i : Int) = x := by unfold rd_T40; rw [Int.toNat_natCast, List.getD_eq_getElem?_getD, List.getElem?_eq_getElem hil, Option.getD_some, hx]
    rw [glob_Match.l0, if_pos (by omega), if_pos (by omega), if_pos (by omega), hw, if_pos (by omega), if_pos (by rw [Int.toNat_natCast]; omega), Option.bind_some, hrd, Int.toNat_natCast, List.length_replicate]
    obtain ⟨next', hR', e⟩ := l1_all s hs may l l.length i (l.take i) x hR (s.size + 1) 0 (List.replicate (s.size + 1) false) k (by omega) (by omega) (by simp) (fun j h => by omega)
    rw [show ((0 : Nat) : Int) = 0 from rfl] at e
    rw [e, show wrap64 ((i : Int) + 1) = ((i + 1 : Nat) : Int) by rw [w64 (by omega) (by omega)]; omega]
    refine ih (i + 1) next' k (by omega) (by omega) ?_ (by omega)
    rw [List.take_succ_eq_append_getElem hil, hx]; exact hR'
/-- Whether a text is what a pattern says. -/
def G (p s : ByteArray) : Prop := ∃ l, pat p = some l ∧ Mt l (L s)
theorem pat_len {p : ByteArray} {l : List S40} (h : pat p = some l) : l.length ≤ 40 := by
  unfold pat at h
  split at h
  · have := parse_len _ _ h; rw [L_len] at this; omega
  · cases h
theorem match_f (p s : ByteArray) (hs : s.size ≤ 1000) (k : Nat) (hk : 50000 ≤ k) : ∃ b, glob_Match.f k p s = some b ∧ (b = true ↔ G p s) := by
  unfold glob_Match.f
  rw [pieces_f p k (by omega), Option.bind_some]
  unfold G
  cases hp : pat p with
  | none => exact ⟨false, by simp, by simp⟩
  | some l =>
    have hl := pat_len hp
    have hw : wrap64 ((s.size : Int) + 1) = ((s.size + 1 : Nat) : Int) := by rw [w64 (by omega) (by omega)]; omega
    simp only []
    rw [if_pos trivial, hw, if_pos (by omega), if_pos (by rw [Int.toNat_natCast]; omega), Option.bind_some, Int.toNat_natCast, if_pos (by simp)]
    obtain ⟨b, hb, e⟩ := l0_all s (by omega) l (by omega) l.length 0 _ k (by omega) (by omega) (row_start s) (by
      have : (s.size + 3) * l.length ≤ 1003 * 40 := Nat.mul_le_mul (by omega) hl
      omega)
    refine ⟨b, hb, e.trans ⟨fun h => ⟨l, rfl, h⟩, ?_⟩⟩
    rintro ⟨l', h, h2⟩
    injection h with h; rw [h]; exact h2
end Go.Proofs.Ytigbeielobdfiaa.B
