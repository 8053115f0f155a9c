/- Frames one behind the other; what is left is no frame. -/
import Derived.Test.YtoepiofmkjajaaaFrameB
import Derived.Test.YtoepiofmkjajaaaPx12
namespace Go.Proofs.Ytoepiofmkjajaaa.B
open Go.RowKit Go.Proofs.Ytoepiofmkjajaaa.P Go.Proofs.YtoepiofmkjajaaaW.PrintWords Go.Proofs.YtoepiofmkjajaaaW.PrintLast Go.Proofs.YtoepiofmkjajaaaW.PrintMore
set_option linter.unusedVariables false
set_option linter.unusedSimpArgs false

def cat : List ByteArray → ByteArray
  | [] => (⟨#[]⟩ : ByteArray)
  | b :: l => put b ++ cat l
theorem app_assoc_ (a b c : ByteArray) : a ++ b ++ c = a ++ (b ++ c) := by
  apply L_ext
  rw [L_app, L_app, L_app, L_app, List.append_assoc]
theorem cat_snoc (l : List ByteArray) (b : ByteArray) : cat (l ++ [b]) = cat l ++ put b := by
  induction l with
  | nil =>
    show put b ++ (⟨#[]⟩ : ByteArray) = (⟨#[]⟩ : ByteArray) ++ put b
    rw [app_empty, empty_app]
  | cons a l ih =>
    show put a ++ cat (l ++ [b]) = put a ++ cat l ++ put b
    rw [ih, app_assoc_]
def Good (l : List ByteArray) : Prop := ∀ b ∈ l, 1 ≤ b.size ∧ b.size ≤ 2200
theorem fr_cat : ∀ (l : List ByteArray), Good l → fr (cat l) = (l, (⟨#[]⟩ : ByteArray), false)
  | [], _ => fr_nil
  | b :: l, h => by
    have hb := h b (by simp)
    show fr (put b ++ cat l) = _
    rw [fr_put b _ hb.1 hb.2, fr_cat l (fun x hx => h x (by simp [hx]))]
theorem cat_size : ∀ (l : List ByteArray) (m : Nat), (∀ b ∈ l, b.size ≤ m) → (cat l).size ≤ l.length * (m + 2)
  | [], m, _ => by show 0 ≤ _; omega
  | b :: l, m, h => by
    have hb := h b (by simp)
    have ih := cat_size l m (fun x hx => h x (by simp [hx]))
    have hz := put_size b
    show (put b ++ cat l).size ≤ _
    rw [size_app, List.length_cons, Nat.add_mul]
    omega
theorem fr_dead_app (n : Nat) : ∀ (s t : ByteArray), s.size ≤ n → (fr s).2.2 = true → (fr (s ++ t)).2.2 = true := by
  induction n with
  | zero =>
    intro s t hn h
    rw [fr_short s (by omega)] at h
    cases h
  | succ n ih =>
    intro s t hn h
    by_cases h2 : s.size < 2
    · rw [fr_short s h2] at h
      cases h
    · have hz := size_app s t
      have he : fe (s ++ t) = fe s := by unfold fe; rw [hd_app s t h2]
      have hh := hd_app s t h2
      rw [fr_of s h2] at h
      rw [fr_of (s ++ t) (by omega)]
      by_cases hf : Fits s
      · have hf2 : Fits (s ++ t) := by
          have h0 : 1 ≤ hd s ∧ hd s ≤ 2200 := hf
          show 1 ≤ hd (s ++ t) ∧ hd (s ++ t) ≤ 2200
          omega
        rw [if_pos hf] at h
        rw [if_pos hf2, he]
        by_cases hw : s.size < fe s
        · rw [if_pos hw] at h
          cases h
        · rw [if_neg hw] at h
          have hl := rest_lt s hf h2
          have h3 : (s ++ t).extract (fe s) (s ++ t).size = s.extract (fe s) s.size ++ t := by
            apply L_ext
            rw [L_ext_, L_app, L_app, L_ext_, List.take_of_length_le (by rw [List.length_append, L_len, L_len]; omega), List.take_of_length_le (l := L s) (by rw [L_len]; exact Nat.le_refl _), List.drop_append_of_le_length (by rw [L_len]; omega)]
          have hlt : (s.extract (fe s) s.size).size ≤ n := by clear h; omega
          dsimp only at h
          rw [if_neg (by clear h; omega), h3]
          dsimp only
          exact ih (s.extract (fe s) s.size) t hlt h
      · have hf2 : ¬ Fits (s ++ t) := by
          have h0 : ¬ (1 ≤ hd s ∧ hd s ≤ 2200) := hf
          show ¬ (1 ≤ hd (s ++ t) ∧ hd (s ++ t) ≤ 2200)
          omega
        rw [if_neg hf2]
/-- What is left has no frame in it. -/
theorem fr_rest (n : Nat) : ∀ (s : ByteArray), s.size ≤ n → (fr s).2.2 = false → fr (fr s).2.1 = ([], (fr s).2.1, false) := by
  induction n with
  | zero =>
    intro s hn _
    rw [fr_short s (by omega)]
    exact fr_short s (by omega)
  | succ n ih =>
    intro s hn h
    by_cases h2 : s.size < 2
    · rw [fr_short s h2]
      exact fr_short s h2
    · have h0 := fr_of s h2
      by_cases hf : Fits s
      · rw [if_pos hf] at h0
        by_cases hw : s.size < fe s
        · rw [if_pos hw] at h0
          rw [h0]
          exact h0
        · rw [if_neg hw] at h0
          rw [h0] at h ⊢
          have hl := rest_lt s hf h2
          have hlt : (s.extract (fe s) s.size).size ≤ n := by clear h h0; omega
          dsimp only at h ⊢
          exact ih (s.extract (fe s) s.size) hlt h
      · rw [if_neg hf] at h0
        rw [h0] at h
        cases h
theorem rest_le (n : Nat) : ∀ (s : ByteArray), s.size ≤ n → (fr s).2.1.size ≤ s.size := by
  induction n with
  | zero =>
    intro s hn
    rw [fr_short s (by omega)]
    exact Nat.le_refl _
  | succ n ih =>
    intro s hn
    by_cases h2 : s.size < 2
    · rw [fr_short s h2]
      exact Nat.le_refl _
    · rw [fr_of s h2]
      by_cases hf : Fits s
      · rw [if_pos hf]
        by_cases hw : s.size < fe s
        · rw [if_pos hw]
          exact Nat.le_refl _
        · rw [if_neg hw]
          have hl := rest_lt s hf h2
          have := ih (s.extract (fe s) s.size) (by omega)
          show (fr (s.extract (fe s) s.size)).2.1.size ≤ _
          omega
      · rw [if_neg hf]
        exact Nat.zero_le _
theorem same_l0 (l : List ByteArray) (hl : l.length ≤ 1000000) : ∀ (d i k : Nat), d = l.length - i → i ≤ l.length → d + 1 ≤ k → escutcheonbook_SameTexts.l0 k l l (i : Int) = some true
  | 0, i, k, hd, hi, hk => by
    obtain ⟨k, rfl⟩ : ∃ j, k = j + 1 := ⟨k - 1, by omega⟩
    rw [escutcheonbook_SameTexts.l0, if_neg (by omega)]
  | d + 1, i, k, hd, hi, hk => by
    obtain ⟨k, rfl⟩ : ∃ j, k = j + 1 := ⟨k - 1, by omega⟩
    rw [escutcheonbook_SameTexts.l0, if_pos (by omega), if_pos (by omega), if_pos (by omega), if_pos rfl, w64 (by omega) (by omega), show (i : Int) + 1 = ((i + 1 : Nat) : Int) by omega]
    exact same_l0 l hl d (i + 1) k (by omega) (by omega) (by omega)
theorem same_f (l : List ByteArray) (hl : l.length ≤ 1000000) (k : Nat) (hk : l.length + 1 ≤ k) : escutcheonbook_SameTexts.f k l l = some true := by
  unfold escutcheonbook_SameTexts.f
  rw [if_pos rfl]
  exact same_l0 l hl l.length 0 k rfl (by omega) hk
end Go.Proofs.Ytoepiofmkjajaaa.B
