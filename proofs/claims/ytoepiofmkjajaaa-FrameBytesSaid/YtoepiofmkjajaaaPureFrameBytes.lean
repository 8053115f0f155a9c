/- Frames that come byte by byte are told each at its last byte. -/
import Derived.Test.YtoepiofmkjajaaaFrameB
import Derived.Test.YtoepiofmkjajaaaPx30
namespace Go.Proofs.Ytoepiofmkjajaaa.Pure
open Go.RowKit Go.Proofs.Ytoepiofmkjajaaa.P Go.Proofs.YtoepiofmkjajaaaW.PrintWords Go.Proofs.YtoepiofmkjajaaaW.PrintLast Go.Proofs.YtoepiofmkjajaaaW.PrintMore Go.Proofs.Ytoepiofmkjajaaa.B
set_option linter.unusedVariables false
set_option linter.unusedSimpArgs false

theorem ext_join (s : ByteArray) (k : Nat) : s.extract 0 k ++ s.extract k (k + 1) = s.extract 0 (k + 1) := by
  apply L_ext
  rw [L_app, L_ext_, L_ext_, L_ext_, List.drop_zero, List.drop_zero]
  have h := List.take_append_drop k ((L s).take (k + 1))
  rw [List.take_take, Nat.min_eq_left (by omega)] at h
  exact h
theorem fr_whole (b : ByteArray) (h1 : 1 ≤ b.size) (hb : b.size ≤ 2200) : fr (put b) = ([b], (⟨#[]⟩ : ByteArray), false) := by
  have := fr_put b (⟨#[]⟩ : ByteArray) h1 hb
  rw [app_empty, fr_nil] at this
  exact this
/-- Byte by byte. -/
theorem bytes_l1 (l : List ByteArray) (i : Nat) (hi : i < l.length) (hb1 : 1 ≤ (rdOf ByteArray.empty l (i : Int)).size) (hb : (rdOf ByteArray.empty l (i : Int)).size ≤ 100) : ∀ (d n k : Nat) (c : Int), d = (put (rdOf ByteArray.empty l (i : Int))).size - n → n < (put (rdOf ByteArray.empty l (i : Int))).size → d + 300 ≤ k →
    ∃ c' k', k ≤ k' + d + 1 ∧ k' ≤ k ∧ escutcheonlaw9_FrameBytes.l1 k l (i : Int) (put (rdOf ByteArray.empty l (i : Int))) (n : Int) ((put (rdOf ByteArray.empty l (i : Int))).extract 0 n) false c = escutcheonlaw9_FrameBytes.l0 k' l (wrap64 ((i : Int) + 1)) (⟨#[]⟩ : ByteArray) false c'
  | 0, n, k, c, hd, hn, hk => by omega
  | d + 1, n, k, c, hd, hn, hk => by
    have hi2 : (i : Int) < (l.length : Int) := by omega
    obtain ⟨b, hbb⟩ : ∃ b, rdOf ByteArray.empty l (i : Int) = b := ⟨_, rfl⟩
    have ih := bytes_l1 l i hi hb1 hb d
    rw [hbb] at hb1 hb hd hn ih ⊢
    have hz := put_size b
    obtain ⟨k, rfl⟩ : ∃ j, k = j + 1 := ⟨k - 1, by omega⟩
    have hzn : ((put b).extract 0 n).size = n := by rw [size_ext]; omega
    have hz1 : ((put b).extract n (n + 1)).size = 1 := by rw [size_ext]; omega
    obtain ⟨c', hc⟩ := feed_f ((put b).extract 0 n) ((put b).extract n (n + 1)) c k (by omega) (by omega)
    rw [ext_join] at hc
    rw [escutcheonlaw9_FrameBytes.l1, if_pos (by omega), if_pos (by omega), w64 (n := (n : Int) + 1) (by omega) (by omega), w64 (n := ((put b).size : Int) - 1) (by omega) (by omega), if_pos (by omega), if_pos (by omega), show (n : Int) + 1 = ((n + 1 : Nat) : Int) by omega, Int.toNat_natCast, Int.toNat_natCast, hc, Option.bind_some]
    by_cases hl : n + 1 < (put b).size
    · rw [fr_part b hb1 (by omega) (n + 1) (by omega)]
      simp only [List.length_nil, Bool.not_false, if_true]
      have hne : ((n : Int) == ((put b).size : Int) - 1) = false := by
        rw [beq_eq_false_iff_ne]; omega
      rw [hne, show ((((0 : Nat) : Int) == 1) != false) = false from rfl, if_neg (by decide), if_neg (by decide), if_pos (by omega)]
      unfold frame_Reader_Waits.f
      have hzn1 : ((put b).extract 0 (n + 1)).size = n + 1 := by rw [size_ext]; omega
      rw [Option.bind_some]
      simp only [hzn1, if_true]
      obtain ⟨c2, k2, h1, h2, h3⟩ := ih (n + 1) k c' (by omega) hl (by omega)
      exact ⟨c2, k2, by omega, by omega, h3⟩
    · have hn1 : n + 1 = (put b).size := by omega
      rw [hn1, ext_all, fr_whole b hb1 (by omega)]
      simp only [List.length_cons, List.length_nil, Bool.not_false, if_true]
      have hne : ((n : Int) == ((put b).size : Int) - 1) = true := by
        rw [beq_iff_eq]; omega
      rw [hne, show ((((0 + 1 : Nat) : Int) == 1) != true) = false from rfl, if_neg (by decide), if_pos (by decide), if_pos (by decide), if_pos (by omega), if_pos (by omega), hbb]
      rw [if_pos (show (rdOf ByteArray.empty [b] 0).toList = b.toList from rfl), if_neg (by omega)]
      obtain ⟨k, rfl⟩ : ∃ j, k = j + 1 := ⟨k - 1, by omega⟩
      rw [escutcheonlaw9_FrameBytes.l1, if_neg (by omega)]
      exact ⟨c', k, by omega, by omega, rfl⟩
theorem bytes_l0 (l : List ByteArray) (hl : l.length ≤ 6) : ∀ (d i k : Nat) (c : Int), d = l.length - i → i ≤ l.length → 400 * d + 400 ≤ k → escutcheonlaw9_FrameBytes.l0 k l (i : Int) (⟨#[]⟩ : ByteArray) false c = some true
  | 0, i, k, c, hd, hi, hk => by
    obtain ⟨k, rfl⟩ : ∃ j, k = j + 1 := ⟨k - 1, by omega⟩
    rw [escutcheonlaw9_FrameBytes.l0, if_neg (by omega)]
    unfold frame_Reader_Waits.f frame_Reader_Dead.f
    rfl
  | d + 1, i, k, c, hd, hi, hk => by
    obtain ⟨k, rfl⟩ : ∃ j, k = j + 1 + 1 + 1 := ⟨k - 3, by omega⟩
    have out : ∀ k s b c, escutcheonlaw9_FrameBytes.j2 (k + 1) l (i : Int) true s b c = some true := by
      intro k s b c
      rw [escutcheonlaw9_FrameBytes.j2, if_pos rfl]
    rw [escutcheonlaw9_FrameBytes.l0, if_pos (by omega), if_pos (by omega)]
    by_cases h1 : ((rdOf ByteArray.empty l (i : Int)).size : Int) < 1
    · rw [if_pos h1]; exact out _ _ _ _
    rw [if_neg h1]
    by_cases h2 : ((rdOf ByteArray.empty l (i : Int)).size : Int) > 100
    · rw [decide_eq_true h2]; exact out _ _ _ _
    rw [decide_eq_false h2, escutcheonlaw9_FrameBytes.j2, if_neg (by decide), if_pos (by omega), if_pos (by omega), put_f _ (by omega) _ (by omega), if_pos (by omega), Option.bind_some]
    have hz := put_size (rdOf ByteArray.empty l (i : Int))
    simp only [if_true]
    rw [w64 (by omega) (by omega), hz, show ((2 + (rdOf ByteArray.empty l (i : Int)).size : Nat) : Int) = ((rdOf ByteArray.empty l (i : Int)).size : Int) + 2 by omega, bne_self_eq_false, escutcheonlaw9_FrameBytes.j3, if_neg (by decide)]
    obtain ⟨c', k', e1, e2, e3⟩ := bytes_l1 l i (by omega) (by omega) (by omega) (put (rdOf ByteArray.empty l (i : Int))).size 0 k c (by omega) (by omega) (by omega)
    have h0 : (put (rdOf ByteArray.empty l (i : Int))).extract 0 0 = (⟨#[]⟩ : ByteArray) := size_zero (by rw [size_ext]; omega)
    rw [h0, show ((0 : Nat) : Int) = 0 from rfl] at e3
    rw [e3, w64 (by omega) (by omega), show (i : Int) + 1 = ((i + 1 : Nat) : Int) by omega]
    exact bytes_l0 l hl d (i + 1) k' c' (by omega) (by omega) (by omega)
theorem FrameBytes : escutcheonlaw9_FrameBytes.Pure := by
  intro l _ _ _
  refine ⟨10000, ?_⟩
  unfold escutcheonlaw9_FrameBytes.f
  by_cases c1 : (l.length : Int) > 6
  · rw [if_pos c1, escutcheonlaw9_FrameBytes.j0, if_pos rfl, alive_k _ (by omega)]; rfl
  rw [if_neg c1, alive_k _ (by omega), Option.bind_some, show (!true) = false from rfl, escutcheonlaw9_FrameBytes.j0, if_neg (by decide)]
  exact bytes_l0 l (by omega) l.length 0 9999 0 rfl (by omega) (by omega)
end Go.Proofs.Ytoepiofmkjajaaa.Pure
