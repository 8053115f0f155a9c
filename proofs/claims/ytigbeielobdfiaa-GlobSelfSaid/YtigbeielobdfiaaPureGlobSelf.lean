/- A text without marks is matched by itself alone; with one put in at a place by a star there, too. -/
import Derived.Test.YtigbeielobdfiaaGlobL
import Derived.Test.YtigbeielobdfiaaPx10
namespace Go.Proofs.Ytigbeielobdfiaa.Pure
open Go.RowKit Go.Proofs.Ytigbeielobdfiaa.P Go.Proofs.YtigbeielobdfiaaW.PrintWords Go.Proofs.YtigbeielobdfiaaW.PrintLast Go.Proofs.Ytigbeielobdfiaa.B
set_option linter.unusedVariables false
set_option linter.unusedSimpArgs false

def plainC (c : UInt8) : Prop := c ≠ 42 ∧ c ≠ 63 ∧ c ≠ 92
def litP (c : UInt8) : S40 := ⟨92, c.toNat⟩
theorem parse_lit : ∀ l : List UInt8, (∀ c ∈ l, plainC c) → parse l = some (l.map litP)
  | [], _ => rfl
  | c :: l, h => by
    have hc := h c (List.mem_cons_self ..)
    rw [parse_plain c l hc.1 hc.2.1 hc.2.2, parse_lit l (fun x hx => h x (List.mem_cons_of_mem _ hx))]; rfl
theorem Mt_lit : ∀ (l s : List UInt8), Mt (l.map litP) s ↔ s = l
  | [], s => Iff.rfl
  | c :: l, s => by
    have ho : ∀ u, one (litP c) u ↔ u = [c] := by
      intro u
      unfold one litP
      rw [if_neg (show ¬ (92 : Int) = 42 by decide), if_neg (show ¬ (92 : Int) = 63 by decide)]
      constructor
      · rintro ⟨d, rfl, hd⟩
        have hd : (d.toNat : Int) = (c.toNat : Int) := hd
        rw [UInt8.toNat_inj.mp (show d.toNat = c.toNat by omega)]
      · rintro rfl; exact ⟨c, rfl, rfl⟩
    constructor
    · rintro ⟨t1, t2, rfl, h1, h2⟩
      rw [ho] at h1
      rw [Mt_lit l] at h2
      subst h1; subst h2; rfl
    · rintro rfl
      exact ⟨[c], l, rfl, (ho _).mpr rfl, (Mt_lit l l).mpr rfl⟩
theorem self_l (s : ByteArray) (hs : s.size ≤ 30) (at_ : Int) (more : ByteArray) (K : Nat) (fin : (∀ c ∈ L s, plainC c) → ∀ k, K ≤ k → escutcheonlaw17_GlobSelf.l0 k s at_ more (s.size : Nat) = some true) :
    ∀ (d i k : Nat), d = s.size - i → i ≤ s.size → (∀ c ∈ (L s).take i, plainC c) → K + d ≤ k → 0 < K → escutcheonlaw17_GlobSelf.l0 k s at_ more i = some true := by
  intro d
  induction d with
  | zero =>
    intro i k hd hi hc hk _
    obtain rfl : i = s.size := by omega
    exact fin (by rw [← L_len, List.take_length] at hc; exact hc) k (by omega)
  | succ d ih =>
    intro i k hd hi hc hk hK
    have h : i < s.size := by omega
    have hb := bt_get s i h
    obtain ⟨c, hcc⟩ : ∃ c, (L s)[i]'(by rw [L_len]; exact h) = c := ⟨_, rfl⟩
    rw [hcc] at hb
    obtain ⟨k, rfl⟩ : ∃ k', k = k' + 1 := ⟨k - 1, by omega⟩
    rw [escutcheonlaw17_GlobSelf.l0, if_pos (by omega), if_pos (by omega), hb, show wrap64 ((i : Int) + 1) = ((i + 1 : Nat) : Int) by rw [w64 (by omega) (by omega)]; omega]
    have e42 := nat_u8 (c := c) (n := 42) (by decide)
    have e63 := nat_u8 (c := c) (n := 63) (by decide)
    have e92 := nat_u8 (c := c) (n := 92) (by decide)
    by_cases c1 : (c.toNat : Int) = 42
    · rw [if_pos c1]
    rw [if_neg c1]
    by_cases c2 : (c.toNat : Int) = 63
    · rw [if_pos c2]
    rw [if_neg c2]
    by_cases c3 : (c.toNat : Int) = 92
    · rw [if_pos c3]
    rw [if_neg c3]
    refine ih (i + 1) k (by omega) (by omega) ?_ (by omega) hK
    intro x hx
    rw [List.take_succ_eq_append_getElem (by rw [L_len]; exact h), List.mem_append, hcc] at hx
    rcases hx with hx | hx
    · exact hc x hx
    · simp at hx; subst hx
      exact ⟨fun e => c1 (e42.mpr e), fun e => c2 (e63.mpr e), fun e => c3 (e92.mpr e)⟩
theorem GlobSelf : escutcheonlaw17_GlobSelf.Pure := by
  intro s at_ more hs0 hat hm0
  have hat := wf_i64 hat
  obtain ⟨K, hK⟩ : ∃ K : Nat, 60000 ≤ K := ⟨60000, Nat.le_refl _⟩
  refine ⟨K + s.size + 2, ?_⟩
  have out : escutcheonlaw17_GlobSelf.j0 (K + s.size + 2) s at_ more true = some true := by
    rw [escutcheonlaw17_GlobSelf.j0, if_pos rfl, alive_k _ (by omega)]; rfl
  unfold escutcheonlaw17_GlobSelf.f
  by_cases c0 : (s.size : Int) > 30
  · rw [if_pos c0]; exact out
  rw [if_neg c0]
  by_cases c1 : (more.size : Int) > 30
  · rw [if_pos c1]; exact out
  rw [if_neg c1, alive_k _ (by omega), Option.bind_some]
  show escutcheonlaw17_GlobSelf.j0 (K + s.size + 2) s at_ more false = some true
  rw [escutcheonlaw17_GlobSelf.j0, if_neg (by decide)]
  refine self_l s (by omega) at_ more (K + 1) ?_ s.size 0 _ (by omega) (by omega) (by simp) (by omega) (by omega)
  intro hpl k hk
  obtain ⟨k, rfl⟩ : ∃ k', k = k' + 1 := ⟨k - 1, by omega⟩
  have hw : wrap64 ((s.size : Int) + 1) = (s.size : Int) + 1 := w64 (by omega) (by omega)
  have hplc := place (a := at_) (n := (s.size : Int) + 1) (by omega) (by omega)
  have hj0 : wrap64 (wrap64 (Int.tmod at_ ((s.size : Int) + 1) + (s.size : Int)) + 1) = wrap64 (Int.tmod at_ ((s.size : Int) + 1) + ((s.size : Int) + 1)) := by
    have := tmod_pos (a := at_) (b := (s.size : Int) + 1) (by omega)
    rw [w64 (n := Int.tmod at_ ((s.size : Int) + 1) + (s.size : Int)) (by omega) (by omega), Int.add_assoc]
  rw [← hj0] at hplc
  rw [escutcheonlaw17_GlobSelf.l0, if_neg (by omega), hw]
  obtain ⟨j, hj⟩ : ∃ j, Int.tmod (wrap64 (wrap64 (Int.tmod at_ ((s.size : Int) + 1) + (s.size : Int)) + 1)) ((s.size : Int) + 1) = j := ⟨_, rfl⟩
  rw [hj] at hplc
  rw [hj]
  clear hj hj0 hw
  obtain ⟨n, rfl⟩ : ∃ n : Nat, j = n := ⟨j.toNat, by omega⟩
  obtain ⟨a, ha⟩ : ∃ a, s.extract 0 n = a := ⟨_, rfl⟩
  obtain ⟨b, hb⟩ : ∃ b, s.extract n s.size = b := ⟨_, rfl⟩
  rw [Int.toNat_natCast, ha, hb]
  have haL : L a = (L s).take n := by rw [← ha, L_ext_, List.drop_zero]
  have hbL : L b = (L s).drop n := by rw [← hb, L_ext_, ← L_len, List.take_length]
  have has : a.size = n := by rw [← L_len, haL, List.length_take, L_len]; omega
  have hbs : b.size = s.size - n := by rw [← L_len, hbL, List.length_drop, L_len]
  have pS : pat s = some ((L s).map litP) := by unfold pat; rw [if_pos (by omega)]; exact parse_lit _ hpl
  have pA : pat a = some ((L a).map litP) := by
    unfold pat; rw [if_pos (by omega)]; exact parse_lit _ (fun c hc => hpl c (by rw [haL] at hc; exact List.mem_of_mem_take hc))
  have pB : pat b = some ((L b).map litP) := by
    unfold pat; rw [if_pos (by omega)]; exact parse_lit _ (fun c hc => hpl c (by rw [hbL] at hc; exact List.mem_of_mem_drop hc))
  have p1 : pat (⟨#[42]⟩ : ByteArray) = some [starP] := by unfold pat; rw [if_pos (by decide)]; exact parse_stars 1
  have p2 : pat (⟨#[63]⟩ : ByteArray) = some [markP] := by unfold pat; rw [if_pos (by decide)]; exact parse_marks 1
  have h1 : ∀ x : UInt8, (⟨#[x]⟩ : ByteArray).size = 1 := fun _ => rfl
  have gS : ∀ t, G s t ↔ L t = L s := by
    intro t
    unfold G
    rw [pS, ← Mt_lit]
    constructor
    · rintro ⟨l, h, h2⟩; injection h with h; rw [h]; exact h2
    · intro h; exact ⟨_, rfl, h⟩
  have gM : ∀ (q t : ByteArray) (x : S40), q.size = 1 → pat q = some [x] → one x (L t) → G (a ++ q ++ b) (a ++ t ++ b) := by
    intro q t x hq hp ho
    refine ⟨(L a).map litP ++ [x] ++ (L b).map litP, ?_, ?_⟩
    · rw [pat_app (l := (L a).map litP ++ [x]) ?_ (by rw [size_app]; omega), pB]; rfl
      rw [pat_app pA (by omega), hp]; rfl
    · rw [L_app, L_app, Mt_app]
      exact ⟨_, _, rfl, (Mt_app _ _ _).mpr ⟨_, _, rfl, (Mt_lit _ _).mpr rfl, (Mt_one _ _).mpr ho⟩, (Mt_lit _ _).mpr rfl⟩
  obtain ⟨b1, e1, g1⟩ := match_f s s (by omega) k (by omega)
  obtain ⟨b2, e2, g2⟩ := match_f s (s ++ (⟨#[120]⟩ : ByteArray)) (by rw [size_app, h1]; omega) k (by omega)
  obtain ⟨b3, e3, g3⟩ := match_f (a ++ (⟨#[42]⟩ : ByteArray) ++ b) (a ++ more ++ b) (by rw [size_app, size_app]; omega) k (by omega)
  obtain ⟨b4, e4, g4⟩ := match_f (a ++ (⟨#[63]⟩ : ByteArray) ++ b) (a ++ (⟨#[121]⟩ : ByteArray) ++ b) (by rw [size_app, size_app, h1]; omega) k (by omega)
  have r2 : b2 = false := by
    cases b2 with
    | false => rfl
    | true =>
      have h := (gS _).mp (g2.mp rfl)
      have := congrArg List.length h
      rw [L_len, L_len, size_app, h1] at this; omega
  subst r2
  have r1 : b1 = true := g1.mpr ((gS s).mpr rfl)
  have r3 : b3 = true := g3.mpr (gM _ _ starP (h1 42) p1 (one_star _))
  have r4 : b4 = true := g4.mpr (gM _ _ markP (h1 63) p2 ((one_mark _).mpr rfl))
  subst r1; subst r3; subst r4
  have q1 : a.size + 1 ≤ 9223372036854775807 := by omega
  have q2 : (a ++ (⟨#[42]⟩ : ByteArray)).size + b.size ≤ 9223372036854775807 := by rw [size_app, h1]; omega
  have q3 : a.size + more.size ≤ 9223372036854775807 := by omega
  have q4 : (a ++ more).size + b.size ≤ 9223372036854775807 := by rw [size_app]; omega
  have q5 : (a ++ (⟨#[63]⟩ : ByteArray)).size + b.size ≤ 9223372036854775807 := by rw [size_app, h1]; omega
  have q6 : (a ++ (⟨#[121]⟩ : ByteArray)).size + b.size ≤ 9223372036854775807 := by rw [size_app, h1]; omega
  rw [if_neg (by omega), e1, Option.bind_some, if_pos rfl, if_pos (by omega), e2, Option.bind_some, if_pos (by decide), if_pos hplc.1, if_pos (by omega), if_pos q1, if_pos q2, if_pos q3, if_pos q4, e3, Option.bind_some, if_pos rfl, if_pos q5, if_pos q6, e4, Option.bind_some]
end Go.Proofs.Ytigbeielobdfiaa.Pure
