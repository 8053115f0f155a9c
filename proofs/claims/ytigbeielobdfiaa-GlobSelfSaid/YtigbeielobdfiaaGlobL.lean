/- What the laws of patterns use: alive, Right, Quote, Plain as plain functions. No condition. -/
import Derived.Test.YtigbeielobdfiaaGlobM
import Derived.Test.YtigbeielobdfiaaPx4
namespace Go.Proofs.Ytigbeielobdfiaa.B
open Go.RowKit Go.Proofs.Ytigbeielobdfiaa.P Go.Proofs.YtigbeielobdfiaaW.PrintWords Go.Proofs.YtigbeielobdfiaaW.PrintLast
set_option linter.unusedVariables false
set_option linter.unusedSimpArgs false

theorem alive_k (k : Nat) (h : 100 ≤ k) : escutcheonlaw17_alive.f k = some true := at_rounds escutcheonlaw17_alive.mono h (by decide +kernel)
theorem right_f (p : ByteArray) (k : Nat) (hk : 100 ≤ k) : glob_Right.f k p = some (pat p).isSome := by
  unfold glob_Right.f
  rw [pieces_f p k hk, Option.bind_some]
  cases pat p <;> rfl
/-- A pattern without marks: its text. -/
def lits : List S40 → Option (List UInt8)
  | [] => some []
  | x :: l => if x.f0 = 92 then (lits l).map (x.f1.toNat.toUInt8 :: ·) else none
def InR (l : List S40) : Prop := ∀ x ∈ l, (x.f0 = 42 ∨ x.f0 = 63 ∨ x.f0 = 92) ∧ x.f1 = ((x.f1.toNat.toUInt8).toNat : Int)
theorem inr_u8 (c : UInt8) : (c.toNat : Int) = (((c.toNat : Int).toNat.toUInt8).toNat : Int) := by simp
theorem parse_inr : ∀ (l : List UInt8) (r : List S40), parse l = some r → InR r
  | [], r, h => by simp [parse] at h; subst h; intro x hx; cases hx
  | [c], r, h => by
    simp only [parse] at h
    split at h
    · rename_i hc
      injection h with h; subst h; intro x hx; simp at hx; subst hx
      exact ⟨by rcases hc with rfl | rfl <;> decide, rfl⟩
    · split at h
      · cases h
      · injection h with h; subst h; intro x hx; simp at hx; subst hx
        exact ⟨Or.inr (Or.inr rfl), inr_u8 c⟩
  | c :: d :: l, r, h => by
    rw [parse] at h
    split at h
    · rename_i hc
      obtain ⟨r', h', rfl⟩ := Option.map_eq_some_iff.mp h
      intro x hx
      rcases List.mem_cons.mp hx with rfl | hx
      · exact ⟨by rcases hc with rfl | rfl <;> decide, rfl⟩
      · exact parse_inr _ _ h' x hx
    · split at h
      · obtain ⟨r', h', rfl⟩ := Option.map_eq_some_iff.mp h
        intro x hx
        rcases List.mem_cons.mp hx with rfl | hx
        · exact ⟨Or.inr (Or.inr rfl), inr_u8 d⟩
        · exact parse_inr _ _ h' x hx
      · obtain ⟨r', h', rfl⟩ := Option.map_eq_some_iff.mp h
        intro x hx
        rcases List.mem_cons.mp hx with rfl | hx
        · exact ⟨Or.inr (Or.inr rfl), inr_u8 c⟩
        · exact parse_inr _ _ h' x hx
theorem go_lits : ∀ (l : List S40) (acc : List UInt8), InR l → glob_Plain.go l acc = some (match lits l with | some t => (⟨(acc ++ t).toArray⟩, true) | none => (⟨#[]⟩, false))
  | [], acc, _ => by simp [glob_Plain.go, lits]
  | x :: l, acc, h => by
    have hx := h x (List.mem_cons_self ..)
    rw [glob_Plain.go]
    by_cases h92 : x.f0 = 92
    · rw [if_pos h92, if_pos hx.2, go_lits l _ (fun y hy => h y (List.mem_cons_of_mem _ hy))]
      simp only [lits, if_pos h92]
      cases lits l <;> simp
    · rw [if_neg h92]; simp only [lits, if_neg h92]
theorem pat_inr {p : ByteArray} {l : List S40} (h : pat p = some l) : InR l := by
  unfold pat at h
  split at h
  · exact parse_inr _ _ h
  · cases h
/-- The only text of a pattern. -/
def txt (p : ByteArray) : Option (List UInt8) := (pat p).bind lits
theorem plain_f (p : ByteArray) (k : Nat) (hk : 100 ≤ k) : glob_Plain.f k p = some (match txt p with | some t => (⟨t.toArray⟩, true) | none => (⟨#[]⟩, false)) := by
  unfold glob_Plain.f txt
  rw [pieces_f p k hk, Option.bind_some]
  cases hp : pat p with
  | none => rfl
  | some l =>
    have hl := pat_len hp
    simp only [Option.bind_some]
    rw [if_pos trivial, if_pos (by omega), go_lits l [] (pat_inr hp)]
    cases lits l <;> simp
/-- A pattern without marks says its text alone. -/
theorem Mt_lits : ∀ (l : List S40) (t s : List UInt8), InR l → lits l = some t → (Mt l s ↔ s = t)
  | [], t, s, _, h => by simp [lits] at h; subst h; rfl
  | x :: l, t, s, hr, h => by
    simp only [lits] at h
    split at h
    case isFalse => cases h
    case isTrue h92 =>
    obtain ⟨t', h', rfl⟩ := Option.map_eq_some_iff.mp h
    have hx := (hr x (List.mem_cons_self ..)).2
    have ih := fun s => Mt_lits l t' s (fun y hy => hr y (List.mem_cons_of_mem _ hy)) h'
    have ho : ∀ u, one x u ↔ u = [x.f1.toNat.toUInt8] := by
      intro u
      unfold one
      rw [if_neg (by omega), if_neg (by omega)]
      constructor
      · rintro ⟨c, rfl, hc⟩
        rw [← hc]; simp
      · rintro rfl
        exact ⟨_, rfl, hx.symm⟩
    constructor
    · rintro ⟨t1, t2, rfl, h1, h2⟩
      rw [ho] at h1; rw [ih] at h2
      subst h1; subst h2; rfl
    · rintro rfl
      exact ⟨[x.f1.toNat.toUInt8], t', rfl, (ho _).mpr rfl, (ih _).mpr rfl⟩
theorem quote_parse : ∀ (l : List UInt8), (parse (l.flatMap glob_Quote.q)).bind lits = some l
  | [] => rfl
  | c :: l => by
    have ih := quote_parse l
    rw [List.flatMap_cons]
    have fin : ∀ o : Option (List S40), o.bind lits = some l → (o.map ((⟨92, c.toNat⟩ : S40) :: ·)).bind lits = some (c :: l) := by
      intro o ho
      cases o with
      | none => cases ho
      | some r =>
        have ho : lits r = some l := ho
        simp [lits, ho]
    by_cases h : c = 42 ∨ c = 63 ∨ c = 92
    · have : glob_Quote.q c = [92, c] := by unfold glob_Quote.q; rw [if_pos h]
      rw [this, List.cons_append, List.cons_append, List.nil_append, parse_quote]
      exact fin _ ih
    · have : glob_Quote.q c = [c] := by unfold glob_Quote.q; rw [if_neg h]
      simp only [not_or] at h
      rw [this, List.cons_append, List.nil_append, parse_plain c _ h.1 h.2.1 h.2.2]
      exact fin _ ih
theorem parse_app : ∀ (l : List UInt8) (r : List S40) (m : List UInt8), parse l = some r → parse (l ++ m) = (parse m).map (r ++ ·)
  | [], r, m, h => by simp [parse] at h; subst h; cases h : parse m <;> simp [h]
  | [c], r, m, h => by
    simp only [parse] at h
    split at h
    · rename_i hc
      injection h with h; subst h
      rw [List.cons_append, List.nil_append, parse_mark c _ hc]; rfl
    · rename_i hc
      split at h
      · cases h
      · rename_i h92
        simp only [not_or] at hc
        injection h with h; subst h
        rw [List.cons_append, List.nil_append, parse_plain c _ hc.1 hc.2 h92]; rfl
  | c :: d :: l, r, m, h => by
    rw [parse] at h
    split at h
    · rename_i hc
      obtain ⟨r', h', rfl⟩ := Option.map_eq_some_iff.mp h
      have := parse_app (d :: l) r' m h'
      rw [List.cons_append, parse_mark c _ hc, this]
      cases parse m <;> simp
    · rename_i hc
      split at h
      · rename_i h92
        subst h92
        obtain ⟨r', h', rfl⟩ := Option.map_eq_some_iff.mp h
        have := parse_app l r' m h'
        rw [List.cons_append, List.cons_append, parse_quote d, this]
        cases parse m <;> simp
      · rename_i h92
        simp only [not_or] at hc
        obtain ⟨r', h', rfl⟩ := Option.map_eq_some_iff.mp h
        have := parse_app (d :: l) r' m h'
        rw [List.cons_append, parse_plain c _ hc.1 hc.2 h92, this]
        cases parse m <;> simp
def starP : S40 := ⟨42, 0⟩
def markP : S40 := ⟨63, 0⟩
theorem one_star (t : List UInt8) : one starP t := by unfold one starP; rw [if_pos rfl]; trivial
theorem one_mark (t : List UInt8) : one markP t ↔ t.length = 1 := by unfold one markP; rw [if_neg (by decide), if_pos rfl]
theorem parse_stars : ∀ n : Nat, parse (List.replicate n 42) = some (List.replicate n starP)
  | 0 => rfl
  | n + 1 => by rw [List.replicate_succ, parse_mark 42 _ (Or.inl rfl), parse_stars n]; rfl
theorem parse_marks : ∀ n : Nat, parse (List.replicate n 63) = some (List.replicate n markP)
  | 0 => rfl
  | n + 1 => by rw [List.replicate_succ, parse_mark 63 _ (Or.inr rfl), parse_marks n]; rfl
theorem Mt_stars : ∀ (n : Nat) (s : List UInt8), Mt (List.replicate (n + 1) starP) s
  | 0, s => ⟨s, [], by simp, one_star _, rfl⟩
  | n + 1, s => ⟨[], s, rfl, one_star _, Mt_stars n s⟩
theorem Mt_marks : ∀ (n : Nat) (s : List UInt8), Mt (List.replicate n markP) s ↔ s.length = n
  | 0, s => List.length_eq_zero_iff.symm
  | n + 1, s => by
    constructor
    · rintro ⟨t1, t2, rfl, h1, h2⟩
      rw [one_mark] at h1
      have := (Mt_marks n t2).mp h2
      rw [List.length_append]; omega
    · intro h
      cases s with
      | nil => cases h
      | cons c s => exact ⟨[c], s, rfl, (one_mark _).mpr rfl, (Mt_marks n s).mpr (by simpa using h)⟩
theorem Mt_app_stars (l : List S40) (n : Nat) (s : List UInt8) : Mt (l ++ List.replicate (n + 1) starP) s ↔ ∃ t1 t2, s = t1 ++ t2 ∧ Mt l t1 := by
  rw [Mt_app]
  constructor
  · rintro ⟨t1, t2, h, h1, _⟩; exact ⟨t1, t2, h, h1⟩
  · rintro ⟨t1, t2, h, h1⟩; exact ⟨t1, t2, h, h1, Mt_stars n t2⟩
theorem pat_app {p q : ByteArray} {l : List S40} (h : pat p = some l) (hs : p.size + q.size ≤ 40) : pat (p ++ q) = (pat q).map (l ++ ·) := by
  unfold pat at h ⊢
  rw [if_pos (by omega)] at h
  rw [if_pos (by rw [size_app]; omega), if_pos (by omega), L_app, parse_app _ _ _ h]
theorem beq_iff {a b : Bool} {p q : Prop} (ha : a = true ↔ p) (hb : b = true ↔ q) (h : p ↔ q) : (a == b) = true := by
  have : a = b := Bool.eq_iff_iff.mpr (ha.trans (h.trans hb.symm))
  rw [this]; exact beq_self_eq_true b
end Go.Proofs.Ytigbeielobdfiaa.B
