/- What a pattern of keys is and what it matches, in plain Lean. No condition. -/
import Derived.Test.YtigbeielobdfiaaBase
import Derived.Test.YtigbeielobdfiaaPx1
namespace Go.Proofs.Ytigbeielobdfiaa.B
open Go.RowKit Go.Proofs.Ytigbeielobdfiaa.P Go.Proofs.YtigbeielobdfiaaW.PrintWords Go.Proofs.YtigbeielobdfiaaW.PrintLast
set_option linter.unusedVariables false
set_option linter.unusedSimpArgs false

/-- What one part of a pattern may be. -/
def one (x : S40) (t : List UInt8) : Prop := if x.f0 = 42 then True else if x.f0 = 63 then t.length = 1 else ∃ c : UInt8, t = [c] ∧ (c.toNat : Int) = x.f1
/-- What the parts are, one behind the other. -/
def Mt : List S40 → List UInt8 → Prop
  | [], s => s = []
  | x :: l, s => ∃ t1 t2, s = t1 ++ t2 ∧ one x t1 ∧ Mt l t2
theorem Mt_app (a b : List S40) (s : List UInt8) : Mt (a ++ b) s ↔ ∃ t1 t2, s = t1 ++ t2 ∧ Mt a t1 ∧ Mt b t2 := by
  induction a generalizing s with
  | nil =>
    constructor
    · intro h; exact ⟨[], s, rfl, rfl, h⟩
    · rintro ⟨t1, t2, rfl, h1, h2⟩
      cases (show t1 = [] from h1); exact h2
  | cons x a ih =>
    simp only [List.cons_append, Mt, ih]
    constructor
    · rintro ⟨t1, t2, rfl, h1, u1, u2, rfl, h2, h3⟩
      exact ⟨t1 ++ u1, u2, by simp, ⟨t1, u1, rfl, h1, h2⟩, h3⟩
    · rintro ⟨t1, t2, rfl, ⟨u1, u2, rfl, h1, h2⟩, h3⟩
      exact ⟨u1, u2 ++ t2, by simp, h1, u2, t2, rfl, h2, h3⟩
theorem Mt_one (x : S40) (s : List UInt8) : Mt [x] s ↔ one x s := by
  constructor
  · rintro ⟨t1, t2, rfl, h, h2⟩
    cases (show t2 = [] from h2); rwa [List.append_nil]
  · intro h; exact ⟨s, [], by simp, h, rfl⟩
theorem Mt_snoc (pre : List S40) (x : S40) (s : List UInt8) (j : Nat) (hj : j ≤ s.length) : Mt (pre ++ [x]) (s.take j) ↔ ∃ i, i ≤ j ∧ Mt pre (s.take i) ∧ one x ((s.take j).drop i) := by
  rw [Mt_app]
  constructor
  · rintro ⟨t1, t2, e, h1, h2⟩
    have hl : t1.length + t2.length = j := by rw [← List.length_append, ← e, List.length_take]; omega
    refine ⟨t1.length, by omega, ?_, ?_⟩
    · have : s.take t1.length = t1 := by
        have h := congrArg (List.take t1.length) e
        rw [List.take_take, Nat.min_eq_left (by omega), List.take_left] at h
        exact h
      rwa [this]
    · rw [e, List.drop_left]; exact (Mt_one _ _).mp h2
  · rintro ⟨i, hi, h1, h2⟩
    refine ⟨s.take i, (s.take j).drop i, ?_, h1, (Mt_one _ _).mpr h2⟩
    have := List.take_append_drop i (s.take j)
    rw [List.take_take, Nat.min_eq_left hi] at this
    exact this.symm
theorem len_mid (s : List UInt8) (i j : Nat) (hj : j ≤ s.length) : ((s.take j).drop i).length = j - i := by simp; omega
theorem row_star (pre : List S40) (x : S40) (s : List UInt8) (hx : x.f0 = 42) (j : Nat) (hj : j ≤ s.length) : Mt (pre ++ [x]) (s.take j) ↔ (∃ i, i ≤ j ∧ Mt pre (s.take i)) := by
  rw [Mt_snoc pre x s j hj]
  constructor
  · rintro ⟨i, h, h1, _⟩; exact ⟨i, h, h1⟩
  · rintro ⟨i, h, h1⟩; exact ⟨i, h, h1, by unfold one; rw [if_pos hx]; trivial⟩
theorem row_one (pre : List S40) (x : S40) (s : List UInt8) (hx : x.f0 = 63) (j : Nat) (hj : j ≤ s.length) : Mt (pre ++ [x]) (s.take j) ↔ (0 < j ∧ Mt pre (s.take (j - 1))) := by
  rw [Mt_snoc pre x s j hj]
  constructor
  · rintro ⟨i, h, h1, h2⟩
    unfold one at h2
    rw [if_neg (by omega), if_pos hx, len_mid s i j hj] at h2
    exact ⟨by omega, by rw [show j - 1 = i by omega]; exact h1⟩
  · rintro ⟨h, h1⟩
    refine ⟨j - 1, by omega, h1, ?_⟩
    unfold one
    rw [if_neg (by omega), if_pos hx, len_mid s _ j hj]; omega
theorem mid_one (s : List UInt8) (j : Nat) (h0 : 0 < j) (hj : j ≤ s.length) : (s.take j).drop (j - 1) = [s[j - 1]'(by omega)] := by
  obtain ⟨i, rfl⟩ : ∃ i, j = i + 1 := ⟨j - 1, by omega⟩
  simp only [Nat.add_sub_cancel]
  rw [List.take_succ_eq_append_getElem (by omega), List.drop_left' (by simp; omega)]
theorem row_lit (pre : List S40) (x : S40) (s : List UInt8) (hx : x.f0 ≠ 42) (hx2 : x.f0 ≠ 63) (j : Nat) (hj : j ≤ s.length) : Mt (pre ++ [x]) (s.take j) ↔ (0 < j ∧ Mt pre (s.take (j - 1)) ∧ ((s.getD (j - 1) 0).toNat : Int) = x.f1) := by
  rw [Mt_snoc pre x s j hj]
  constructor
  · rintro ⟨i, h, h1, h2⟩
    unfold one at h2
    rw [if_neg hx, if_neg hx2] at h2
    obtain ⟨c, hc, hc2⟩ := h2
    have hl : j - i = 1 := by rw [← len_mid s i j hj, hc]; rfl
    obtain rfl : i = j - 1 := by omega
    rw [mid_one s j (by omega) hj] at hc
    refine ⟨by omega, h1, ?_⟩
    rw [List.getD_eq_getElem?_getD, List.getElem?_eq_getElem (by omega), Option.getD_some]
    injection hc with hc; rw [hc]; exact hc2
  · rintro ⟨h, h1, h2⟩
    refine ⟨j - 1, by omega, h1, ?_⟩
    unfold one
    rw [if_neg hx, if_neg hx2, mid_one s j h hj]
    refine ⟨_, rfl, ?_⟩
    rw [List.getD_eq_getElem?_getD, List.getElem?_eq_getElem (by omega), Option.getD_some] at h2
    exact h2

/-- The parts of a pattern; none: it may not be. -/
def parse : List UInt8 → Option (List S40)
  | [] => some []
  | [c] => if c = 42 ∨ c = 63 then some [⟨c.toNat, 0⟩] else if c = 92 then none else some [⟨92, c.toNat⟩]
  | c :: d :: l => if c = 42 ∨ c = 63 then (parse (d :: l)).map ((⟨c.toNat, 0⟩ : S40) :: ·) else if c = 92 then (parse l).map ((⟨92, d.toNat⟩ : S40) :: ·) else (parse (d :: l)).map ((⟨92, c.toNat⟩ : S40) :: ·)
theorem parse_mark (c : UInt8) (l : List UInt8) (h : c = 42 ∨ c = 63) : parse (c :: l) = (parse l).map ((⟨c.toNat, 0⟩ : S40) :: ·) := by
  cases l with
  | nil => simp [parse, h]
  | cons d l => rw [parse, if_pos h]
theorem parse_plain (c : UInt8) (l : List UInt8) (h : c ≠ 42) (h2 : c ≠ 63) (h3 : c ≠ 92) : parse (c :: l) = (parse l).map ((⟨92, c.toNat⟩ : S40) :: ·) := by
  cases l with
  | nil => simp [parse, h, h2, h3]
  | cons d l => rw [parse, if_neg (by simp [h, h2]), if_neg h3]
theorem parse_quote (d : UInt8) (l : List UInt8) : parse (92 :: d :: l) = (parse l).map ((⟨92, d.toNat⟩ : S40) :: ·) := by
  rw [parse, if_neg (by decide), if_pos rfl]
theorem parse_quote1 : parse [92] = none := by decide
theorem parse_len : ∀ (l : List UInt8) (r : List S40), parse l = some r → r.length ≤ l.length
  | [], r, h => by simp [parse] at h; subst h; simp
  | [c], r, h => by
    simp only [parse] at h
    split at h
    · injection h with h; subst h; simp
    · split at h
      · cases h
      · injection h with h; subst h; simp
  | c :: d :: l, r, h => by
    rw [parse] at h
    split at h
    · obtain ⟨r', h', rfl⟩ := Option.map_eq_some_iff.mp h
      have := parse_len (d :: l) r' h'; simp at this ⊢; omega
    · split at h
      · obtain ⟨r', h', rfl⟩ := Option.map_eq_some_iff.mp h
        have := parse_len l r' h'; simp at this ⊢; omega
      · obtain ⟨r', h', rfl⟩ := Option.map_eq_some_iff.mp h
        have := parse_len (d :: l) r' h'; simp at this ⊢; omega
def pcs (s : ByteArray) (l : List S40) (i : Nat) : List S40 × Bool :=
  match parse ((L s).drop i) with | some r => (l ++ r, true) | none => ([], false)
theorem drop_cons (s : ByteArray) (i : Nat) (h : i < s.size) : (L s).drop i = (L s)[i]'(by rw [L_len]; exact h) :: (L s).drop (i + 1) := List.drop_eq_getElem_cons (by rw [L_len]; exact h)
theorem bt_get (s : ByteArray) (i : Nat) (h : i < s.size) : bt s i = (((L s)[i]'(by rw [L_len]; exact h)).toNat : Int) := by
  rw [bt_L]; simp only [Int.toNat_natCast]; rw [List.getElem?_eq_getElem (by rw [L_len]; exact h), Option.getD_some]
theorem nat_u8 {c : UInt8} {n : Nat} (hn : n < 256) : ((c.toNat : Int) = n) ↔ c = n.toUInt8 := by
  constructor
  · intro h
    have : c.toNat = n := by omega
    rw [← this]; simp
  · rintro rfl
    simp [Nat.toUInt8, Nat.mod_eq_of_lt hn]
theorem pieces_l (s : ByteArray) (hs : s.size ≤ 40) : ∀ (m i : Nat) (l : List S40) (k : Nat), s.size - i ≤ m → i ≤ s.size → l.length ≤ i → 2 * m + 2 ≤ k → glob_pieces.l0 k s l i = some (pcs s l i) := by
  intro m
  induction m using Nat.strongRecOn with
  | ind m ih =>
  intro i l k hm hi hl hk
  obtain ⟨k, rfl⟩ : ∃ k', k = k' + 2 := ⟨k - 2, by omega⟩
  rw [glob_pieces.l0]
  by_cases h : i < s.size
  · rw [if_pos (by omega), if_pos (by omega)]
    have hb := bt_get s i h
    obtain ⟨c, hc⟩ : ∃ c, (L s)[i]'(by rw [L_len]; exact h) = c := ⟨_, rfl⟩
    rw [hc] at hb
    have hd := drop_cons s i h
    rw [hc] at hd
    have e42 : (bt s i = 42) ↔ c = 42 := by rw [hb]; exact nat_u8 (n := 42) (by decide)
    have e63 : (bt s i = 63) ↔ c = 63 := by rw [hb]; exact nat_u8 (n := 63) (by decide)
    have e92 : (bt s i = 92) ↔ c = 92 := by rw [hb]; exact nat_u8 (n := 92) (by decide)
    have hw : wrap64 ((i : Int) + 1) = ((i + 1 : Nat) : Int) := by rw [w64 (by omega) (by omega)]; omega
    have mark : (c = 42 ∨ c = 63) → glob_pieces.j1 (k + 1) s l i (bt s i) (bt s i) true = some (pcs s l i) := by
      intro hm'
      rw [glob_pieces.j1, if_pos rfl, if_pos (by omega), hw, ih (m - 1) (by omega) (i + 1) _ k (by omega) (by omega) (by simp; omega) (by omega)]
      unfold pcs
      rw [hd, parse_mark c _ hm', hb]
      cases parse (List.drop (i + 1) (L s)) <;> simp
    by_cases h42 : c = 42
    · rw [if_pos (e42.mpr h42), show ((bt s i) == 42) = true by simpa using e42.mpr h42]
      exact mark (Or.inl h42)
    · rw [if_neg (fun e => h42 (e42.mp e))]
      by_cases h63 : c = 63
      · rw [show ((bt s i) == 63) = true by simpa using e63.mpr h63]
        exact mark (Or.inr h63)
      · rw [show ((bt s i) == 63) = false by simpa using fun e => h63 (e63.mp e)]
        rw [glob_pieces.j1, if_neg (by decide)]
        by_cases h92 : c = 92
        · rw [if_pos (e92.mpr h92), hw]
          by_cases hlast : i + 1 = s.size
          · rw [if_pos (by omega)]
            unfold pcs
            rw [hd, List.drop_of_length_le (by rw [L_len]; omega), h92, parse_quote1]
          · rw [if_neg (by omega), if_pos (by omega), if_pos (by omega), if_pos (by omega)]
            have hw2 : wrap64 (((i + 1 : Nat) : Int) + 1) = ((i + 2 : Nat) : Int) := by rw [w64 (by omega) (by omega)]; omega
            have h1 : i + 1 < s.size := by omega
            rw [hw2, ih (m - 2) (by omega) (i + 2) _ k (by omega) (by omega) (by simp; omega) (by omega)]
            unfold pcs
            rw [hd, drop_cons s (i + 1) h1, h92, parse_quote, bt_get s (i + 1) h1]
            cases parse (List.drop (i + 1 + 1) (L s)) <;> simp
        · rw [if_neg (fun e => h92 (e92.mp e)), if_pos (by omega), if_pos (by omega), if_pos (by omega), hw, ih (m - 1) (by omega) (i + 1) _ k (by omega) (by omega) (by simp; omega) (by omega)]
          unfold pcs
          rw [hd, parse_plain c _ h42 h63 h92, hb]
          cases parse (List.drop (i + 1) (L s)) <;> simp
  · rw [if_neg (by omega)]
    unfold pcs
    rw [List.drop_of_length_le (by rw [L_len]; omega)]
    simp [parse]
/-- The parts of a pattern that may be. -/
def pat (p : ByteArray) : Option (List S40) := if p.size ≤ 40 then parse (L p) else none
theorem pieces_f (p : ByteArray) (k : Nat) (hk : 100 ≤ k) : glob_pieces.f k p = some (match pat p with | some r => (r, true) | none => ([], false)) := by
  unfold glob_pieces.f pat
  by_cases h : p.size ≤ 40
  · rw [if_neg (by omega), if_pos h]
    have := pieces_l p h p.size 0 [] k (by omega) (by omega) (by simp) (by omega)
    rw [show ((0 : Nat) : Int) = 0 from rfl] at this
    rw [this]
    unfold pcs
    rw [List.drop_zero]
    cases parse (L p) <;> simp
  · rw [if_pos (by omega), if_neg h]
end Go.Proofs.Ytigbeielobdfiaa.B
