/- What the document's Match and Glob compute: whether the text is what the pattern's parts are. No condition. -/
import Derived.Test.YtigbeielobdfiaaGlobL
import Derived.Test.YtigbeielobdfiaaPx5
namespace Go.Proofs.Ytigbeielobdfiaa.B
open Go.RowKit Go.Proofs.Ytigbeielobdfiaa.P Go.Proofs.YtigbeielobdfiaaW.PrintWords Go.Proofs.YtigbeielobdfiaaW.PrintLast
set_option linter.unusedVariables false
set_option linter.unusedSimpArgs false

/-- With enough rounds it says b, and b says Q. -/
def Ok (g : Nat → Option Bool) (B : Nat) (Q : Prop) : Prop := ∃ b, (∀ k, B ≤ k → g k = some b) ∧ (b = true ↔ Q)
theorem Ok.step {g h : Nat → Option Bool} {B : Nat} {Q : Prop} (H : Ok g B Q) (n : Nat) (e : ∀ k, B ≤ k → h (k + n) = g k) {B' : Nat} (hB : B + n ≤ B') : Ok h B' Q := by
  obtain ⟨b, hb, hq⟩ := H
  refine ⟨b, fun k hk => ?_, hq⟩
  obtain ⟨m, rfl⟩ : ∃ m, k = m + n := ⟨k - n, by omega⟩
  rw [e m (by omega)]; exact hb m (by omega)
/-- The part that the document reads. -/
def xp (c : UInt8) (pl : Bool) : S40 := if pl = true then ⟨92, c.toNat⟩ else if c = 42 ∨ c = 63 then ⟨c.toNat, 0⟩ else ⟨92, c.toNat⟩
theorem c_nat {c : UInt8} {n : Nat} (hn : n < 256) : ((c.toNat : Int) = n) ↔ c = n.toUInt8 := nat_u8 hn
theorem xp42 (c : UInt8) (pl : Bool) : (xp c pl).f0 = 42 ↔ (c = 42 ∧ pl = false) := by
  unfold xp
  cases pl with
  | true => rw [if_pos rfl]; simp
  | false =>
    rw [if_neg (by decide)]
    by_cases h : c = 42 ∨ c = 63
    · rw [if_pos h]
      have := c_nat (c := c) (n := 42) (by decide)
      exact (this.trans (by rfl)).trans (by simp)
    · rw [if_neg h]; simp; intro e; exact absurd (Or.inl e) h
theorem xp63 (c : UInt8) (pl : Bool) : (xp c pl).f0 = 63 ↔ (c = 63 ∧ pl = false) := by
  unfold xp
  cases pl with
  | true => rw [if_pos rfl]; simp
  | false =>
    rw [if_neg (by decide)]
    by_cases h : c = 42 ∨ c = 63
    · rw [if_pos h]
      have := c_nat (c := c) (n := 63) (by decide)
      exact (this.trans (by rfl)).trans (by simp)
    · rw [if_neg h]; simp; intro e; exact absurd (Or.inr e) h
theorem xp1 (c : UInt8) (pl : Bool) (h : ¬ (xp c pl).f0 = 42) (h2 : ¬ (xp c pl).f0 = 63) : (xp c pl).f1 = c.toNat := by
  rw [xp42] at h; rw [xp63] at h2
  unfold xp
  cases pl with
  | true => rw [if_pos rfl]
  | false =>
    rw [if_neg (by decide)]
    have h : ¬ c = 42 := fun e => h ⟨e, rfl⟩
    have h2 : ¬ c = 63 := fun e => h2 ⟨e, rfl⟩
    rw [if_neg (by rintro (e | e) <;> contradiction)]
theorem one_at (x : S40) (s : ByteArray) (k j : Nat) (hk : k ≤ j) (hj : j ≤ s.size) (h : ¬ x.f0 = 42) : one x (((L s).take j).drop k) ↔ (j = k + 1 ∧ (x.f0 = 63 ∨ (¬ x.f0 = 63 ∧ bt s k = x.f1))) := by
  unfold one
  rw [if_neg h]
  by_cases h63 : x.f0 = 63
  · rw [if_pos h63, len_mid _ _ _ (by rw [L_len]; exact hj)]
    simp [h63]; omega
  · rw [if_neg h63]
    constructor
    · rintro ⟨c, hc, h1⟩
      have hl : j - k = 1 := by rw [← len_mid (L s) k j (by rw [L_len]; exact hj), hc]; rfl
      obtain rfl : j = k + 1 := by omega
      refine ⟨rfl, Or.inr ⟨h63, ?_⟩⟩
      have := mid_one (L s) (k + 1) (by omega) (by rw [L_len]; exact hj)
      simp only [Nat.add_sub_cancel] at this
      rw [this] at hc
      injection hc with hc
      rw [bt_get s k (by omega), hc]; exact h1
    · rintro ⟨rfl, h1⟩
      have h1 : bt s k = x.f1 := by rcases h1 with h1 | h1; exact absurd h1 h63; exact h1.2
      have := mid_one (L s) (k + 1) (by omega) (by rw [L_len]; exact hj)
      simp only [Nat.add_sub_cancel] at this
      exact ⟨_, this, by rw [← h1, bt_get s k (by omega)]⟩
/-- What the row is behind the first k0 places. -/
def Inv (s : ByteArray) (may next : List Bool) (x : S40) (k0 : Nat) : Prop := next.length = s.size + 1 ∧ ∀ j, j ≤ s.size → (next.getD j false = true ↔ ∃ i, i < k0 ∧ i ≤ j ∧ may.getD i false = true ∧ one x (((L s).take j).drop i))
theorem inv_row {s : ByteArray} {may next : List Bool} {x : S40} {pre : List S40} (hR : Row pre s may) (h : Inv s may next x (s.size + 1)) : Row (pre ++ [x]) s next := by
  refine ⟨h.1, fun j hj => ?_⟩
  rw [h.2 j hj, Mt_snoc pre x (L s) j (by rw [L_len]; exact hj)]
  constructor
  · rintro ⟨i, _, h1, h2, h3⟩; exact ⟨i, h1, (hR.2 i (by omega)).mp h2, h3⟩
  · rintro ⟨i, h1, h2, h3⟩; exact ⟨i, by omega, h1, (hR.2 i (by omega)).mpr h2, h3⟩
theorem inv_no {s : ByteArray} {may next : List Bool} {x : S40} {k : Nat} (h : Inv s may next x k) (hn : ∀ j, k ≤ j → j ≤ s.size → ¬ (may.getD k false = true ∧ one x (((L s).take j).drop k))) : Inv s may next x (k + 1) := by
  refine ⟨h.1, fun j hj => (h.2 j hj).trans ⟨?_, ?_⟩⟩
  · rintro ⟨i, h1, h2⟩; exact ⟨i, by omega, h2⟩
  · rintro ⟨i, h1, h2, h3, h4⟩
    by_cases e : i = k
    · subst e; exact absurd ⟨h3, h4⟩ (hn j h2 hj)
    · exact ⟨i, by omega, h2, h3, h4⟩
theorem inv_set {s : ByteArray} {may next : List Bool} {x : S40} {k : Nat} (h : Inv s may next x k) (hk : k < s.size) (hm : may.getD k false = true) (h42 : ¬ x.f0 = 42) (h1 : x.f0 = 63 ∨ (¬ x.f0 = 63 ∧ bt s k = x.f1)) : Inv s may (next.set (k + 1) true) x (k + 1) := by
  refine ⟨by rw [List.length_set]; exact h.1, fun j hj => ?_⟩
  rw [getD_set _ _ _ _ (by rw [h.1]; omega)]
  by_cases e : j = k + 1
  · rw [if_pos e]
    simp only [true_iff]
    exact ⟨k, by omega, by omega, hm, (one_at x s k j (by omega) hj h42).mpr ⟨e, h1⟩⟩
  · rw [if_neg e, h.2 j hj]
    constructor
    · rintro ⟨i, h1, h2⟩; exact ⟨i, by omega, h2⟩
    · rintro ⟨i, h1, h2, h3, h4⟩
      by_cases e2 : i = k
      · subst e2; exact absurd ((one_at x s i j h2 hj h42).mp h4).1 e
      · exact ⟨i, by omega, h2, h3, h4⟩
theorem inv_star {s : ByteArray} {may next next' : List Bool} {x : S40} {k : Nat} (h : Inv s may next x k) (hm : may.getD k false = true) (h42 : x.f0 = 42) (hl : next'.length = s.size + 1) (h1 : ∀ j, j ≤ s.size → (next'.getD j false = true ↔ (next.getD j false = true ∨ k ≤ j))) : Inv s may next' x (k + 1) := by
  refine ⟨hl, fun j hj => ?_⟩
  rw [h1 j hj, h.2 j hj]
  constructor
  · rintro (⟨i, h1, h2⟩ | h2)
    · exact ⟨i, by omega, h2⟩
    · exact ⟨k, by omega, h2, hm, by unfold one; rw [if_pos h42]; trivial⟩
  · rintro ⟨i, h1, h2, h3, h4⟩
    by_cases e2 : i = k
    · subst e2; exact Or.inr h2
    · exact Or.inl ⟨i, by omega, h2, h3, h4⟩
theorem rl2 (p s : ByteArray) (hs : s.size ≤ 1000) (may : List Bool) (i : Int) (c : Int) (pl : Bool) (k0 : Nat) (B : Nat) (Q : Prop) : ∀ (d j : Nat) (next : List Bool), d = s.size + 1 - j → j ≤ s.size + 1 → next.length = s.size + 1 →
    (∀ next' : List Bool, next'.length = s.size + 1 → (∀ t, t ≤ s.size → (next'.getD t false = true ↔ (next.getD t false = true ∨ j ≤ t))) → Ok (fun k => escutcheonref14_Match.l1 k p s may i next' c pl (wrap64 ((k0 : Int) + 1))) B Q) →
    Ok (fun k => escutcheonref14_Match.l2 k p s may i next c pl k0 j) (B + d + 1) Q := by
  intro d
  induction d with
  | zero =>
    intro j next hd hj hl H
    refine (H next hl (fun t ht => ⟨Or.inl, fun h => h.elim id (fun h => by omega)⟩)).step 1 (fun k _ => ?_) (by omega)
    rw [escutcheonref14_Match.l2, if_neg (by omega)]
  | succ d ih =>
    intro j next hd hj hl H
    refine (ih (j + 1) (next.set j true) (by omega) (by omega) (by rw [List.length_set]; exact hl) ?_).step 1 (fun k _ => ?_) (by omega)
    · intro next' hl' h'
      refine H next' hl' (fun t ht => ?_)
      rw [h' t ht, getD_set _ _ _ _ (by omega)]
      by_cases e : t = j
      · subst e; simp
      · rw [if_neg e]
        constructor
        · rintro (h | h)
          · exact Or.inl h
          · exact Or.inr (by omega)
        · rintro (h | h)
          · exact Or.inl h
          · exact Or.inr (by omega)
    · show escutcheonref14_Match.l2 (k + 1) p s may i next c pl k0 j = _
      rw [escutcheonref14_Match.l2, if_pos (by omega), if_pos (by omega), if_pos (by omega), Int.toNat_natCast, show wrap64 ((j : Int) + 1) = ((j + 1 : Nat) : Int) by rw [w64 (by omega) (by omega)]; omega]
theorem rl1 (p s : ByteArray) (hs : s.size ≤ 1000) (may : List Bool) (hmay : may.length = s.size + 1) (i : Int) (c : UInt8) (pl : Bool) (B : Nat) (Q : Prop) : ∀ (d k0 : Nat) (next : List Bool), d = s.size + 1 - k0 → k0 ≤ s.size + 1 → Inv s may next (xp c pl) k0 →
    (∀ next' : List Bool, Inv s may next' (xp c pl) (s.size + 1) → Ok (fun k => escutcheonref14_Match.l0 k p s next' (wrap64 (i + 1))) B Q) →
    Ok (fun k => escutcheonref14_Match.l1 k p s may i next c.toNat pl k0) (B + d * (s.size + 5) + 1) Q := by
  intro d
  induction d with
  | zero =>
    intro k0 next hd hk hI H
    obtain rfl : k0 = s.size + 1 := by omega
    refine (H next hI).step 1 (fun k _ => ?_) (by omega)
    rw [escutcheonref14_Match.l1, if_neg (by omega)]
  | succ d ih =>
    intro k0 next hd hk hI H
    have hw : wrap64 ((k0 : Int) + 1) = ((k0 + 1 : Nat) : Int) := by rw [w64 (by omega) (by omega)]; omega
    rw [Nat.succ_mul]
    have hrd : rdOf false may (k0 : Int) = may.getD k0 false := rdOf_nat may k0
    have hbr := bt_range s (k0 : Int)
    have head : ∀ k, escutcheonref14_Match.l1 (k + 1) p s may i next c.toNat pl k0 = if may.getD k0 false = true then (if (c.toNat : Int) = 42 then (escutcheonref14_Match.j3 k p s may i next c.toNat pl k0 (!pl)) else (escutcheonref14_Match.j3 k p s may i next c.toNat pl k0 false)) else (escutcheonref14_Match.l1 k p s may i next c.toNat pl (k0 + 1 : Nat)) := by
      intro k
      rw [escutcheonref14_Match.l1, if_pos (by omega), if_pos (by omega), if_pos (by rw [hmay]; omega), hrd, hw]
    by_cases hm : may.getD k0 false = true
    · by_cases h42 : (xp c pl).f0 = 42
      · obtain ⟨hc, hpl⟩ := (xp42 c pl).mp h42
        subst hc; subst hpl
        have := rl2 p s hs may i ((42 : UInt8).toNat : Int) false k0 (B + d * (s.size + 5) + 1) Q (s.size + 1 - k0) k0 next rfl (by omega) hI.1 (fun next' hl' h' => by
          rw [hw]
          exact ih (k0 + 1) next' (by omega) (by omega) (inv_star hI hm h42 hl' h') H)
        refine this.step 2 (fun k _ => ?_) (by omega)
        show escutcheonref14_Match.l1 ((k + 1) + 1) p s may i next _ false k0 = _
        rw [head, if_pos hm, if_pos (by decide), escutcheonref14_Match.j3, if_pos (by decide)]
      · have hj : ∀ k, (if ((c.toNat : Nat) : Int) = 42 then (escutcheonref14_Match.j3 k p s may i next c.toNat pl k0 (!pl)) else (escutcheonref14_Match.j3 k p s may i next c.toNat pl k0 false)) = escutcheonref14_Match.j3 k p s may i next c.toNat pl k0 false := by
          intro k
          by_cases e : ((c.toNat : Nat) : Int) = 42
          · rw [if_pos e]
            have : pl = true := by
              cases pl with
              | true => rfl
              | false => exact absurd ((xp42 c false).mpr ⟨(c_nat (n := 42) (by decide)).mp e, rfl⟩) h42
            rw [this]; rfl
          · rw [if_neg e]
        have e63 : ((c.toNat : Int) = 63 ∧ pl = false) ↔ (xp c pl).f0 = 63 := by
          rw [xp63]; exact and_congr_left fun _ => c_nat (n := 63) (by decide)
        by_cases hlt : k0 < s.size
        · by_cases hyes : (xp c pl).f0 = 63 ∨ (¬ (xp c pl).f0 = 63 ∧ bt s k0 = (xp c pl).f1)
          · refine (ih (k0 + 1) _ (by omega) (by omega) (inv_set hI hlt hm h42 hyes) H).step 2 (fun k _ => ?_) (by omega)
            show escutcheonref14_Match.l1 ((k + 1) + 1) p s may i next _ pl k0 = _
            rw [head, if_pos hm, hj, escutcheonref14_Match.j3, if_neg (by decide), if_pos (by omega), hw]
            have hset : (if (0 : Int) ≤ ((k0 + 1 : Nat) : Int) then (if ((k0 + 1 : Nat) : Int) < (next.length : Int) then (escutcheonref14_Match.l1 k p s may i (next.set (((k0 + 1 : Nat) : Int)).toNat true) c.toNat pl (k0 + 1 : Nat)) else none) else none) = escutcheonref14_Match.l1 k p s may i (next.set (k0 + 1) true) c.toNat pl (k0 + 1 : Nat) := by
              rw [if_pos (by omega), if_pos (by rw [hI.1]; omega), Int.toNat_natCast]
            rw [hset]
            by_cases hc : (c.toNat : Int) = 63
            · rw [if_pos hc]
              cases pl with
              | false => rw [if_neg (by decide)]
              | true =>
                rw [if_pos rfl, if_pos (by omega)]
                have hn : ¬ (xp c true).f0 = 63 := by rw [xp63]; simp
                rcases hyes with h | h
                · exact absurd h hn
                · rw [xp1 c true h42 hn] at h; rw [if_pos h.2]
            · rw [if_neg hc, if_pos (by omega)]
              have hn : ¬ (xp c pl).f0 = 63 := by rw [← e63]; exact fun h => hc h.1
              rcases hyes with h | h
              · exact absurd h hn
              · rw [xp1 c pl h42 hn] at h; rw [if_pos h.2]
          · refine (ih (k0 + 1) next (by omega) (by omega) (inv_no hI (fun j h1 h2 h3 => hyes ((one_at _ s k0 j h1 h2 h42).mp h3.2).2)) H).step 2 (fun k _ => ?_) (by omega)
            show escutcheonref14_Match.l1 ((k + 1) + 1) p s may i next _ pl k0 = _
            have hn : ¬ (xp c pl).f0 = 63 := fun h => hyes (Or.inl h)
            have hb : ¬ bt s k0 = (c.toNat : Int) := by rw [← xp1 c pl h42 hn]; exact fun h => hyes (Or.inr ⟨hn, h⟩)
            rw [head, if_pos hm, hj, escutcheonref14_Match.j3, if_neg (by decide), if_pos (by omega), hw]
            by_cases hc : (c.toNat : Int) = 63
            · rw [if_pos hc]
              have : pl = true := by
                cases pl with
                | true => rfl
                | false => exact absurd (e63.mp ⟨hc, rfl⟩) hn
              rw [if_pos this, if_pos (by omega), if_neg hb]
            · rw [if_neg hc, if_pos (by omega), if_neg hb]
        · refine (ih (k0 + 1) next (by omega) (by omega) (inv_no hI (fun j h1 h2 h3 => by have := ((one_at _ s k0 j h1 h2 h42).mp h3.2).1; omega)) H).step 2 (fun k _ => ?_) (by omega)
          show escutcheonref14_Match.l1 ((k + 1) + 1) p s may i next _ pl k0 = _
          rw [head, if_pos hm, hj, escutcheonref14_Match.j3, if_neg (by decide), if_neg (by omega), hw]
    · refine (ih (k0 + 1) next (by omega) (by omega) (inv_no hI (fun j _ _ h => hm h.1)) H).step 1 (fun k _ => ?_) (by omega)
      show escutcheonref14_Match.l1 (k + 1) p s may i next _ pl k0 = _
      rw [head, if_neg hm]
theorem inv_start (s : ByteArray) (may : List Bool) (x : S40) : Inv s may (List.replicate (s.size + 1) false) x 0 := by
  refine ⟨by simp, fun j hj => ?_⟩
  constructor
  · intro h
    rw [List.getD_eq_getElem?_getD, List.getElem?_replicate] at h
    split at h <;> simp at h
  · rintro ⟨i, h, _⟩; omega
theorem rl0 (p s : ByteArray) (hp : p.size ≤ 1000) (hs : s.size ≤ 1000) : ∀ (m i : Nat) (pre rest : List S40) (may : List Bool), p.size - i ≤ m → i ≤ p.size → Row pre s may → parse ((L p).drop i) = some rest → Ok (fun k => escutcheonref14_Match.l0 k p s may i) (m * ((s.size + 1) * (s.size + 5) + 3) + 1) (Mt (pre ++ rest) (L s)) := by
  intro m
  induction m with
  | zero =>
    intro i pre rest may hm hi hR hr
    rw [List.drop_of_length_le (by rw [L_len]; omega)] at hr
    obtain rfl : [] = rest := by simpa [parse] using hr
    refine ⟨may.getD s.size false, fun k hk => ?_, ?_⟩
    · obtain ⟨k, rfl⟩ : ∃ k', k = k' + 1 := ⟨k - 1, by omega⟩
      show escutcheonref14_Match.l0 (k + 1) p s may i = _
      rw [escutcheonref14_Match.l0, if_neg (by omega), if_pos (by omega), if_pos (by rw [hR.1]; omega), rdOf_nat]
    · rw [hR.2 _ (Nat.le_refl _), ← L_len, List.take_length, List.append_nil]
  | succ m ih =>
    intro i pre rest may hm hi hR hr
    by_cases h : i < p.size
    case neg =>
      obtain ⟨b, hb, hq⟩ := ih i pre rest may (by omega) hi hR hr
      exact ⟨b, fun k hk => hb k (by rw [Nat.succ_mul] at hk; omega), hq⟩
    have hd := drop_cons p i h
    have hb := bt_get p i h
    obtain ⟨c, hc⟩ : ∃ c, (L p)[i]'(by rw [L_len]; exact h) = c := ⟨_, rfl⟩
    rw [hc] at hb hd
    rw [hd] at hr
    have hw : wrap64 ((i : Int) + 1) = ((i + 1 : Nat) : Int) := by rw [w64 (by omega) (by omega)]; omega
    have hw2 : wrap64 ((s.size : Int) + 1) = ((s.size + 1 : Nat) : Int) := by rw [w64 (by omega) (by omega)]; omega
    have head : ∀ k, escutcheonref14_Match.l0 (k + 1) p s may i = if (c.toNat : Int) = 92 then (if (0 : Int) ≤ ((i + 1 : Nat) : Int) then (if ((i + 1 : Nat) : Int) < (p.size : Int) then (escutcheonref14_Match.j1 k p s may (i + 1 : Nat) (List.replicate (s.size + 1) false) (bt p (i + 1 : Nat)) true) else none) else none) else (escutcheonref14_Match.j1 k p s may i (List.replicate (s.size + 1) false) c.toNat false) := by
      intro k
      rw [escutcheonref14_Match.l0, if_pos (by omega), hw2, if_pos (by omega), if_pos (by rw [Int.toNat_natCast]; omega), Option.bind_some, if_pos (by omega), hb, hw, Int.toNat_natCast]
    have go : ∀ (i' : Nat) (c' : UInt8) (pl : Bool) (rest' : List S40), i ≤ i' → i' < p.size → parse ((L p).drop (i' + 1)) = some rest' → rest = xp c' pl :: rest' → (∀ k, escutcheonref14_Match.l0 (k + 1) p s may i = escutcheonref14_Match.j1 k p s may i' (List.replicate (s.size + 1) false) c'.toNat pl) →
        Ok (fun k => escutcheonref14_Match.l0 k p s may i) ((m + 1) * ((s.size + 1) * (s.size + 5) + 3) + 1) (Mt (pre ++ rest) (L s)) := by
      intro i' c' pl rest' h1 h2 h3 h4 h5
      have := rl1 p s hs may hR.1 i' c' pl (m * ((s.size + 1) * (s.size + 5) + 3) + 1) (Mt (pre ++ rest) (L s)) (s.size + 1) 0 _ (by omega) (by omega) (inv_start s may _) (fun next' hI => by
        rw [show wrap64 ((i' : Int) + 1) = ((i' + 1 : Nat) : Int) by rw [w64 (by omega) (by omega)]; omega, h4, show pre ++ xp c' pl :: rest' = (pre ++ [xp c' pl]) ++ rest' by simp]
        exact ih (i' + 1) _ rest' next' (by omega) (by omega) (inv_row hR hI) h3)
      refine this.step 2 (fun k _ => ?_) (by
        rw [Nat.succ_mul m]
        generalize (s.size + 1) * (s.size + 5) = M
        generalize m * (M + 3) = Z
        omega)
      show escutcheonref14_Match.l0 ((k + 1) + 1) p s may i = _
      rw [h5, escutcheonref14_Match.j1]; rfl
    by_cases h92 : c = 92
    · subst h92
      by_cases hlast : i + 1 < p.size
      · rw [drop_cons p (i + 1) hlast, parse_quote] at hr
        obtain ⟨r', h', rfl⟩ := Option.map_eq_some_iff.mp hr
        refine go (i + 1) _ true r' (by omega) hlast h' (by rfl) (fun k => ?_)
        rw [head, if_pos (by decide), if_pos (by omega), if_pos (by omega), bt_get p (i + 1) hlast]
      · rw [List.drop_of_length_le (by rw [L_len]; omega), parse_quote1] at hr
        cases hr
    · have h92' : ¬ (c.toNat : Int) = 92 := fun e => h92 ((c_nat (n := 92) (by decide)).mp e)
      by_cases hmk : c = 42 ∨ c = 63
      · rw [parse_mark c _ hmk] at hr
        obtain ⟨r', h', rfl⟩ := Option.map_eq_some_iff.mp hr
        refine go i c false r' (Nat.le_refl _) h h' (by unfold xp; rw [if_neg (by decide), if_pos hmk]) (fun k => ?_)
        rw [head, if_neg h92']
      · have hmk' := hmk
        simp only [not_or] at hmk
        rw [parse_plain c _ hmk.1 hmk.2 h92] at hr
        obtain ⟨r', h', rfl⟩ := Option.map_eq_some_iff.mp hr
        refine go i c false r' (Nat.le_refl _) h h' (by unfold xp; rw [if_neg (by decide), if_neg hmk']) (fun k => ?_)
        rw [head, if_neg h92']
theorem rmatch_f (p s : ByteArray) (hs : s.size ≤ 1000) (l : List S40) (hl : pat p = some l) : Ok (fun k => escutcheonref14_Match.f k p s) (p.size * ((s.size + 1) * (s.size + 5) + 3) + 1) (Mt l (L s)) := by
  have hp : p.size ≤ 40 ∧ parse (L p) = some l := by
    unfold pat at hl
    split at hl
    · exact ⟨‹_›, hl⟩
    · cases hl
  have hw2 : wrap64 ((s.size : Int) + 1) = ((s.size + 1 : Nat) : Int) := by rw [w64 (by omega) (by omega)]; omega
  refine (rl0 p s (by omega) hs p.size 0 [] l _ (by omega) (by omega) (row_start s) (by rw [List.drop_zero]; exact hp.2)).step 0 (fun k _ => ?_) (by omega)
  show escutcheonref14_Match.f k p s = _
  rw [escutcheonref14_Match.f, hw2, if_pos (by omega), if_pos (by rw [Int.toNat_natCast]; omega), Option.bind_some, Int.toNat_natCast, if_pos (by simp)]; rfl
end Go.Proofs.Ytigbeielobdfiaa.B
