/- The reference's numbers in digits of 256: carry. -/
import Derived.Test.YtagoibmemonkaaaOnetimeH
import Derived.Test.YtagoibmemonkaaaPx7
import Derived.Test.YtagoibmemonkaaaPx8
import Derived.Test.YtagoibmemonkaaaPx9
namespace Go.Proofs.Ytagoibmemonkaaa.B
open Go.RowKit Go.Proofs.Ytagoibmemonkaaa.P Go.Proofs.YtagoibmemonkaaaW.PrintWords Go.Proofs.YtagoibmemonkaaaW.PrintLast Go.Proofs.YtagoibmemonkaaaW.PrintMore
set_option linter.unusedVariables false
set_option linter.unusedSimpArgs false

/-- The value of digits, the lowest first. -/
def V : List Int → Int
  | [] => 0
  | x :: l => x + 256 * V l
theorem V_app : ∀ a b : List Int, V (a ++ b) = V a + 256 ^ a.length * V b
  | [], b => by simp [V]
  | x :: a, b => by
    rw [List.cons_append, V, V, V_app a b, List.length_cons, Int.pow_succ, Int.mul_add, Int.mul_comm (256 ^ a.length) 256, Int.mul_assoc]
    omega
theorem V_zeros : ∀ n, V (List.replicate n 0) = 0
  | 0 => rfl
  | n + 1 => by rw [List.replicate_succ, V, V_zeros n]; rfl
theorem V_nn : ∀ l : List Int, (∀ x ∈ l, 0 ≤ x) → 0 ≤ V l
  | [], _ => by decide
  | x :: l, h => by
    have h1 := h x (by simp)
    have h2 := V_nn l (fun y hy => h y (by simp [hy]))
    rw [V]; omega
/-- Digits. -/
def Dg (l : List Int) : Prop := ∀ x ∈ l, 0 ≤ x ∧ x ≤ 255
theorem carry_l1 : ∀ (d : Nat) (l : List Int) (k : Nat), d = 18 - l.length → l.length ≤ 1000 → d < k → escutcheonref1_carry.l1 k l = some (l ++ List.replicate d 0)
  | 0, l, k, hd, hl, hk => by
    obtain ⟨k, rfl⟩ : ∃ k', k = k' + 1 := ⟨k - 1, by omega⟩
    rw [escutcheonref1_carry.l1, if_neg (by omega), List.replicate_zero, List.append_nil]
  | d + 1, l, k, hd, hl, hk => by
    obtain ⟨k, rfl⟩ : ∃ k', k = k' + 1 := ⟨k - 1, by omega⟩
    rw [escutcheonref1_carry.l1, if_pos (by omega), if_pos (by omega), carry_l1 d (l ++ [0]) k (by rw [List.length_append]; simp; omega) (by rw [List.length_append]; simp; omega) (by omega), List.append_assoc]
    rfl
theorem dm {c : Int} (h : 0 ≤ c) : Int.tmod c 256 = c % 256 ∧ Int.tdiv c 256 = c / 256 := ⟨Int.tmod_eq_emod_of_nonneg h, Int.tdiv_eq_ediv_of_nonneg h⟩
/-- Behind the last digit: what is left of the carry. -/
theorem carry_end (x : List Int) : ∀ (m i : Nat) (out : List Int) (c : Int) (k : Nat), x.length ≤ i → i + m ≤ 500 → 0 ≤ c → c < 256 ^ m → m ≤ 8 → out.length ≤ 500 - 8 + (8 - m) → 2 * m + 22 ≤ k →
    ∃ e, escutcheonref1_carry.l0 k x out c (i : Int) = some (out ++ e) ∧ Dg e ∧ V e = c ∧ 18 ≤ out.length + e.length ∧ e.length ≤ m + (18 - out.length)
  | 0, i, out, c, k, hi, hi5, hc, hcm, hm, ho, hk => by
    obtain ⟨k, rfl⟩ : ∃ k', k = k' + 2 := ⟨k - 2, by omega⟩
    have h0 : c = 0 := by rw [Int.pow_zero] at hcm; omega
    subst h0
    rw [escutcheonref1_carry.l0, if_neg (by omega), escutcheonref1_carry.j1, if_neg (by decide)]
    rw [carry_l1 (18 - out.length) out k rfl (by omega) (by omega)]
    exact ⟨_, rfl, fun y hy => by rw [List.eq_of_mem_replicate hy]; decide, V_zeros _, by rw [List.length_replicate]; omega, by rw [List.length_replicate]; omega⟩
  | m + 1, i, out, c, k, hi, hi5, hc, hcm, hm, ho, hk => by
    obtain ⟨k, rfl⟩ : ∃ k', k = k' + 2 := ⟨k - 2, by omega⟩
    rw [escutcheonref1_carry.l0, if_neg (by omega), escutcheonref1_carry.j1]
    by_cases h0 : c = 0
    · subst h0
      rw [if_neg (by decide), carry_l1 (18 - out.length) out k rfl (by omega) (by omega)]
      exact ⟨_, rfl, fun y hy => by rw [List.eq_of_mem_replicate hy]; decide, V_zeros _, by rw [List.length_replicate]; omega, by rw [List.length_replicate]; omega⟩
    · have hp : (256 : Int) ^ (m + 1) ≤ 256 ^ 8 := pow256_le hm
      rw [show (256 : Int) ^ 8 = 18446744073709551616 by decide] at hp
      have hlt : c / 256 < 256 ^ m := by
        rw [Int.pow_succ] at hcm
        generalize (256 : Int) ^ m = p at hcm
        omega
      have hc63 : c / 256 ≤ 72057594037927936 := by omega
      rw [if_pos (by simpa using (by omega : c > 0)), if_neg (by omega), if_pos (by omega), (dm hc).1, (dm hc).2, w64 (by omega) (by omega), w64 (by omega) (by omega), show (i : Int) + 1 = ((i + 1 : Nat) : Int) by omega]
      obtain ⟨e, h1, h2, h3, h4, h5⟩ := carry_end x m (i + 1) (out ++ [c % 256]) (c / 256) k (by omega) (by omega) (by omega) hlt (by omega) (by rw [List.length_append, List.length_singleton]; omega) (by omega)
      rw [List.length_append, List.length_singleton] at h4 h5
      refine ⟨(c % 256) :: e, by rw [h1, List.append_assoc]; rfl, ?_, by rw [V, h3]; omega, by rw [List.length_cons]; omega, by rw [List.length_cons]; omega⟩
      intro y hy
      rcases List.mem_cons.mp hy with rfl | hy
      · omega
      · exact h2 y hy
/-- Entries that are small enough. -/
def Ok (l : List Int) : Prop := ∀ x ∈ l, 0 ≤ x ∧ x ≤ 36028797018963968
theorem rd_nat (l : List Int) (i : Nat) : rd l (i : Int) = l.getD i 0 := rfl
theorem drop_getD (l : List Int) (i : Nat) (h : i < l.length) : l.drop i = l.getD i 0 :: l.drop (i + 1) := by
  rw [List.drop_eq_getElem_cons h, List.getD_eq_getElem?_getD, List.getElem?_eq_getElem h]; rfl
theorem Ok.get {l : List Int} (h : Ok l) (i : Nat) : 0 ≤ l.getD i 0 ∧ l.getD i 0 ≤ 36028797018963968 := by
  rw [List.getD_eq_getElem?_getD]
  by_cases hi : i < l.length
  · rw [List.getElem?_eq_getElem hi]; exact h _ (List.getElem_mem hi)
  · rw [List.getElem?_eq_none (by omega)]; exact ⟨by decide, by decide⟩
theorem carry_go (x : List Int) (hx : Ok x) (hl : x.length ≤ 200) : ∀ (d i : Nat) (out : List Int) (c : Int) (k : Nat), d = x.length - i → i ≤ x.length → out.length = i → 0 ≤ c → c ≤ 36028797018963968 → 2 * d + 40 ≤ k →
    ∃ e, escutcheonref1_carry.l0 k x out c (i : Int) = some (out ++ e) ∧ Dg e ∧ V e = c + V (x.drop i) ∧ 18 ≤ out.length + e.length ∧ x.length ≤ out.length + e.length ∧ out.length + e.length ≤ x.length + 26 ∧ (c + V (x.drop i) < 256 ^ (x.length - i) → out.length + e.length ≤ max 18 x.length)
  | 0, i, out, c, k, hd, hi, ho, hc, hc2, hk => by
    obtain ⟨e, h1, h2, h3, h4, h5⟩ := carry_end x 7 i out c k (by omega) (by omega) hc (by rw [show (256 : Int) ^ 7 = 72057594037927936 by decide]; omega) (by decide) (by omega) (by omega)
    refine ⟨e, h1, h2, by rw [h3, List.drop_of_length_le (by omega), V]; omega, h4, by omega, by omega, fun hs => ?_⟩
    rw [List.drop_of_length_le (by omega), V, show x.length - i = 0 by omega, Int.pow_zero] at hs
    obtain ⟨e', g1, g2, g3, g4, g5⟩ := carry_end x 0 i out c k (by omega) (by omega) hc (by rw [Int.pow_zero]; omega) (by decide) (by omega) (by omega)
    rw [h1, Option.some.injEq] at g1
    have := congrArg List.length g1
    rw [List.length_append, List.length_append] at this
    omega
  | d + 1, i, out, c, k, hd, hi, ho, hc, hc2, hk => by
    obtain ⟨k, rfl⟩ : ∃ k', k = k' + 2 := ⟨k - 2, by omega⟩
    have hg := hx.get i
    rw [escutcheonref1_carry.l0, if_pos (by omega), escutcheonref1_carry.j1, if_pos rfl, if_pos (by omega), if_pos (by omega), if_pos (by omega), rd_nat]
    rw [w64 (n := c + x.getD i 0) (by omega) (by omega), (dm (c := c + x.getD i 0) (by omega)).1, (dm (c := c + x.getD i 0) (by omega)).2, w64 (by omega) (by omega), w64 (by omega) (by omega), show (i : Int) + 1 = ((i + 1 : Nat) : Int) by omega]
    obtain ⟨e, h1, h2, h3, h4, h5, h6, h7⟩ := carry_go x hx hl d (i + 1) (out ++ [(c + x.getD i 0) % 256]) ((c + x.getD i 0) / 256) k (by omega) (by omega) (by rw [List.length_append, List.length_singleton]; omega) (by omega) (by omega) (by omega)
    rw [List.length_append, List.length_singleton] at h4 h5 h6 h7
    refine ⟨((c + x.getD i 0) % 256) :: e, by rw [h1, List.append_assoc]; rfl, ?_, ?_, by rw [List.length_cons]; omega, by rw [List.length_cons]; omega, by rw [List.length_cons]; omega, ?_⟩
    · intro y hy
      rcases List.mem_cons.mp hy with rfl | hy
      · omega
      · exact h2 y hy
    · rw [V, h3, drop_getD x i (by omega), V]; omega
    · intro hs
      rw [List.length_cons]
      have : out.length + 1 + e.length ≤ max 18 x.length := h7 (by
        rw [show x.length - i = (x.length - (i + 1)) + 1 by omega, Int.pow_succ, drop_getD x i (by omega), V] at hs
        generalize (256 : Int) ^ (x.length - (i + 1)) = p at hs ⊢
        omega)
      omega
theorem carry_R (x : List Int) (hx : Ok x) (hl : x.length ≤ 200) (k : Nat) (hk : 2 * x.length + 40 ≤ k) :
    ∃ t, escutcheonref1_carry.f k x = some t ∧ Dg t ∧ V t = V x ∧ 18 ≤ t.length ∧ x.length ≤ t.length ∧ t.length ≤ x.length + 26 ∧ (V x < 256 ^ x.length → t.length ≤ max 18 x.length) := by
  obtain ⟨e, h1, h2, h3, h4, h5, h6, h7⟩ := carry_go x hx hl x.length 0 [] 0 k (by omega) (by omega) rfl (by decide) (by decide) hk
  refine ⟨e, ?_, h2, by rw [h3, List.drop_zero]; omega, by simpa using h4, by simpa using h5, by simpa using h6, fun hs => by simpa using h7 (by rw [List.drop_zero, Nat.sub_zero]; omega)⟩
  unfold escutcheonref1_carry.f
  rw [show (0 : Int) = ((0 : Nat) : Int) from rfl] 
  exact h1
end Go.Proofs.Ytagoibmemonkaaa.B
