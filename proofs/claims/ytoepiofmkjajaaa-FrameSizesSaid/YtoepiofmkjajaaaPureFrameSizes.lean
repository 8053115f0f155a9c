/- Every length that may be is read as it is laid. -/
import Derived.Test.YtoepiofmkjajaaaFrameB
import Derived.Test.YtoepiofmkjajaaaPx11
namespace Go.Proofs.Ytoepiofmkjajaaa.Pure
open Go.RowKit Go.Proofs.Ytoepiofmkjajaaa.P Go.Proofs.YtoepiofmkjajaaaW.PrintWords Go.Proofs.YtoepiofmkjajaaaW.PrintLast Go.Proofs.YtoepiofmkjajaaaW.PrintMore Go.Proofs.Ytoepiofmkjajaaa.B
set_option linter.unusedVariables false
set_option linter.unusedSimpArgs false

theorem set_same (n i : Nat) (c : Int) (h : i < n) : (List.replicate i c ++ List.replicate (n - i) (0 : Int)).set i c = List.replicate (i + 1) c ++ List.replicate (n - (i + 1)) 0 := by
  rw [List.set_append_right i _ (by rw [List.length_replicate]; exact Nat.le_refl _), List.length_replicate, Nat.sub_self, show n - i = (n - (i + 1)) + 1 by omega, List.replicate_succ, List.set_cons_zero, List.replicate_succ', List.append_assoc]
  rfl
theorem sizes_l0 (n : Nat) (h1 : 1 ≤ n) (h2 : n ≤ 2200) (c : Int) : ∀ (d i k : Nat), d = n - i → i ≤ n → d + 6000 ≤ k → escutcheonlaw9_FrameSizes.l0 k (n : Int) c (List.replicate i c ++ List.replicate (n - i) 0) (n : Int) (i : Int) = some true
  | 0, i, k, hd, hi, hk => by
    obtain rfl : i = n := by omega
    obtain ⟨k, rfl⟩ : ∃ j, k = j + 1 := ⟨k - 1, by omega⟩
    rw [Nat.sub_self, List.replicate_zero, List.append_nil, escutcheonlaw9_FrameSizes.l0, if_neg (by omega)]
    generalize hb : strOfNums (List.replicate i c) = b
    have hz : b.size = i := by rw [← hb, size_nums, List.length_replicate]
    have hp := put_size b
    have he : (⟨#[]⟩ : ByteArray).size = 0 := rfl
    rw [put_f b (by omega) k (by omega), if_pos (by omega), Option.bind_some]
    simp only
    rw [if_pos (by omega)]
    obtain ⟨c', hc⟩ := feed_f (⟨#[]⟩ : ByteArray) (put b ++ put b) 0 k (by rw [size_app]; omega) (by rw [size_app]; omega)
    rw [hc, Option.bind_some, empty_app, fr_put b _ (by omega) (by omega)]
    have h2 : fr (put b) = ([b], (⟨#[]⟩ : ByteArray), false) := by
      have := fr_put b (⟨#[]⟩ : ByteArray) (by omega) (by omega)
      rw [app_empty, fr_nil] at this
      exact this
    rw [h2]
    simp only [List.length_cons, List.length_nil, Bool.not_false, if_true]
    rw [if_pos (by decide), if_pos (by decide)]
    show (if b.toList = b.toList then (if (1 : Int) < ((0 + 1 + 1 : Nat) : Int) then (if b.toList = b.toList then some (((put b).size : Int) == wrap64 ((i : Int) + 2)) else none) else none) else none) = some true
    rw [if_pos rfl, if_pos (by decide), if_pos rfl, w64 (by omega) (by omega), hp, hz, show ((2 + i : Nat) : Int) = (i : Int) + 2 by omega]
    simp
  | d + 1, i, k, hd, hi, hk => by
    obtain ⟨k, rfl⟩ : ∃ j, k = j + 1 := ⟨k - 1, by omega⟩
    rw [escutcheonlaw9_FrameSizes.l0, if_pos (by omega), if_pos (by omega), if_pos (by rw [List.length_append, List.length_replicate, List.length_replicate]; omega), Int.toNat_natCast, set_same n i c (by omega), w64 (by omega) (by omega), show (i : Int) + 1 = ((i + 1 : Nat) : Int) by omega]
    exact sizes_l0 n h1 h2 c d (i + 1) k (by omega) (by omega) (by omega)
theorem FrameSizes : escutcheonlaw9_FrameSizes.Pure := by
  intro n c hn hc
  refine ⟨10000, ?_⟩
  unfold escutcheonlaw9_FrameSizes.f
  by_cases c1 : n < 1
  · rw [if_pos c1, escutcheonlaw9_FrameSizes.j0, if_pos rfl, alive_k _ (by omega)]; rfl
  by_cases c2 : n > 2200
  · rw [if_neg c1, if_pos c2, escutcheonlaw9_FrameSizes.j0, if_pos rfl, alive_k _ (by omega)]; rfl
  obtain ⟨n, rfl⟩ := Int.eq_ofNat_of_zero_le (show 0 ≤ n by omega)
  have h := sizes_l0 n (by omega) (by omega) c n 0 9999 rfl (by omega) (by omega)
  rw [List.replicate_zero, List.nil_append, Nat.sub_zero, show ((0 : Nat) : Int) = 0 from rfl] at h
  rw [if_neg c1, if_neg c2, alive_k _ (by omega), Option.bind_some, show (!true) = false from rfl, escutcheonlaw9_FrameSizes.j0, if_neg (by decide), if_pos (by omega), Int.toNat_natCast, if_pos (by omega), Option.bind_some, List.length_replicate]
  exact h
end Go.Proofs.Ytoepiofmkjajaaa.Pure
