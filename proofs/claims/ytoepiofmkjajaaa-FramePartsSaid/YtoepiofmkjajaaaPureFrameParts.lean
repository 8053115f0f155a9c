/- Frames that come in whatever parts are the same frames, in order. -/
import Derived.Test.YtoepiofmkjajaaaFrameC
import Derived.Test.YtoepiofmkjajaaaPx13
namespace Go.Proofs.Ytoepiofmkjajaaa.Pure
open Go.RowKit Go.Proofs.Ytoepiofmkjajaaa.P Go.Proofs.YtoepiofmkjajaaaW.PrintWords Go.Proofs.YtoepiofmkjajaaaW.PrintLast Go.Proofs.YtoepiofmkjajaaaW.PrintMore Go.Proofs.Ytoepiofmkjajaaa.B
set_option linter.unusedVariables false
set_option linter.unusedSimpArgs false

theorem cut_bd (a : Int) (n : Nat) (hn : n ≤ 1000000) : wrap64 ((n : Int) + 1) = (n : Int) + 1 ∧ 0 ≤ Int.tmod (wrap64 (wrap64 (Int.tmod a ((n : Int) + 1) + (n : Int)) + 1)) ((n : Int) + 1) ∧ Int.tmod (wrap64 (wrap64 (Int.tmod a ((n : Int) + 1) + (n : Int)) + 1)) ((n : Int) + 1) ≤ (n : Int) := by
  have h := tmod_pos (a := a) (show 0 < (n : Int) + 1 by omega)
  refine ⟨w64 (by omega) (by omega), ?_⟩
  rw [w64 (n := Int.tmod a ((n : Int) + 1) + (n : Int)) (by omega) (by omega), w64 (by omega) (by omega), Int.tmod_eq_emod_of_nonneg (by omega)]
  have h1 := Int.emod_nonneg (Int.tmod a ((n : Int) + 1) + (n : Int) + 1) (show (n : Int) + 1 ≠ 0 by omega)
  have h2 := Int.emod_lt_of_pos (Int.tmod a ((n : Int) + 1) + (n : Int) + 1) (show 0 < (n : Int) + 1 by omega)
  omega
theorem cut_app (s : ByteArray) (n : Nat) (h : n ≤ s.size) : s.extract 0 n ++ s.extract n s.size = s := by
  apply L_ext
  rw [L_app, L_ext_, L_ext_, List.drop_zero, List.take_of_length_le (l := L s) (i := s.size) (by rw [L_len]; exact Nat.le_refl _), List.take_append_drop]
/-- One part is fed. -/
theorem part_fed (l out l' : List ByteArray) (s x : ByteArray) (n : Nat) (hn : n ≤ x.size) (hs : s.size + x.size ≤ 900000) (h : fr (s ++ x) = (l', (⟨#[]⟩ : ByteArray), false)) (hl : out ++ l' = l) (c : Int) (k : Nat) (hk : 900010 ≤ k) :
    ∃ la s' l'' c', frame_Reader_Feed.f k s false c (x.extract 0 n) = some (la, true, s', false, c') ∧ s'.size + (x.extract n x.size).size ≤ 900000 ∧ fr (s' ++ x.extract n x.size) = (l'', (⟨#[]⟩ : ByteArray), false) ∧ (out ++ la) ++ l'' = l ∧ fr s' = ([], s', false) := by
  have hz := size_ext x 0 n
  have hz2 := size_ext x n x.size
  obtain ⟨c', hc⟩ := feed_f s (x.extract 0 n) c k (by omega) (by omega)
  have hall : s ++ x = (s ++ x.extract 0 n) ++ x.extract n x.size := by rw [app_assoc_, cut_app x n hn]
  have hnd : (fr (s ++ x.extract 0 n)).2.2 = false := by
    cases hd : (fr (s ++ x.extract 0 n)).2.2 with
    | false => rfl
    | true =>
      have := fr_dead_app _ _ (x.extract n x.size) (Nat.le_refl _) hd
      rw [← hall, h] at this
      cases this
  have ha := fr_app _ (s ++ x.extract 0 n) (x.extract n x.size) (Nat.le_refl _) hnd
  rw [← hall, h] at ha
  have hr := fr_rest _ (s ++ x.extract 0 n) (Nat.le_refl _) hnd
  have hle := rest_le _ (s ++ x.extract 0 n) (Nat.le_refl _)
  have hz3 := size_app s (x.extract 0 n)
  rw [hnd] at hc
  simp only [Prod.mk.injEq] at ha
  refine ⟨_, _, (fr ((fr (s ++ x.extract 0 n)).2.1 ++ x.extract n x.size)).1, c', hc, by omega, ?_, ?_, hr⟩
  · rw [ha.2]
  · rw [List.append_assoc, ← ha.1, hl]
theorem parts_l1 (l : List ByteArray) (hl : l.length ≤ 20) (cuts : List Int) (hcu : cuts.length ≤ 30) : ∀ (d i k : Nat) (x s : ByteArray) (out l' : List ByteArray) (c : Int), d = cuts.length - i → i ≤ cuts.length → 900100 + d ≤ k → s.size + x.size ≤ 900000 → fr (s ++ x) = (l', (⟨#[]⟩ : ByteArray), false) → out ++ l' = l →
    escutcheonlaw9_FrameParts.l1 k l cuts x out (i : Int) s false c = some true
  | 0, i, k, x, s, out, l', c, hd, hi, hk, hs, hf, ho => by
    obtain ⟨k, rfl⟩ : ∃ j, k = j + 1 + 1 := ⟨k - 2, by omega⟩
    obtain ⟨la, s', l'', c', h1, h2, h3, h4, h5⟩ := part_fed l out l' s x x.size (Nat.le_refl _) hs hf ho c (k + 1) (by omega)
    have hz : x.extract x.size x.size = (⟨#[]⟩ : ByteArray) := size_zero (by rw [size_ext]; omega)
    rw [hz, app_empty, h5] at h3
    simp only [Prod.mk.injEq] at h3
    obtain ⟨e1, e2, _⟩ := h3
    rw [← e1, List.append_nil] at h4
    rw [escutcheonlaw9_FrameParts.l1, if_pos (by omega), if_neg (by omega), if_pos (by omega), if_pos (by omega), Int.toNat_natCast, h1, Option.bind_some]
    simp only [if_true]
    have hlen : out.length + la.length = l.length := by rw [← h4, List.length_append]
    rw [if_pos (by omega), w64 (by omega) (by omega), escutcheonlaw9_FrameParts.l1, if_neg (by omega), h4, same_f l (by omega) k (by omega), Option.bind_some, if_pos rfl]
    unfold frame_Reader_Waits.f
    rw [Option.bind_some, e2]
    rfl
  | d + 1, i, k, x, s, out, l', c, hd, hi, hk, hs, hf, ho => by
    obtain ⟨k, rfl⟩ : ∃ j, k = j + 1 := ⟨k - 1, by omega⟩
    have hb := cut_bd (rd cuts (i : Int)) x.size (by omega)
    obtain ⟨p, hp⟩ : ∃ p, Int.tmod (wrap64 (wrap64 (Int.tmod (rd cuts (i : Int)) ((x.size : Int) + 1) + (x.size : Int)) + 1)) ((x.size : Int) + 1) = p := ⟨_, rfl⟩
    rw [hp] at hb
    rw [escutcheonlaw9_FrameParts.l1, if_pos (by omega), if_pos (by omega), if_pos (by omega), hb.1, if_neg (by omega), hp, if_pos hb.2.1, if_pos hb.2.2]
    obtain ⟨p, rfl⟩ := Int.eq_ofNat_of_zero_le hb.2.1
    obtain ⟨la, s', l'', c', h1, h2, h3, h4, h5⟩ := part_fed l out l' s x p (by omega) hs hf ho c k (by omega)
    have hlen : out.length + la.length + l''.length = l.length := by rw [← h4, List.length_append, List.length_append]
    rw [Int.toNat_natCast, h1, Option.bind_some]
    simp only [if_true]
    rw [if_pos (by omega), w64 (by omega) (by omega), show (i : Int) + 1 = ((i + 1 : Nat) : Int) by omega]
    exact parts_l1 l hl cuts hcu d (i + 1) k _ s' (out ++ la) l'' c' (by omega) (by omega) (by omega) h2 h3 h4
theorem rd_at (l : List ByteArray) (i : Nat) (h : i < l.length) : rdOf ByteArray.empty l (i : Int) = l[i] := by
  show l.getD (i : Int).toNat _ = _
  rw [Int.toNat_natCast, List.getD_eq_getElem?_getD, List.getElem?_eq_getElem h]
  rfl
theorem parts_l0 (l : List ByteArray) (hl : l.length ≤ 20) (cuts : List Int) (hcu : cuts.length ≤ 30) : ∀ (d i k : Nat), d = l.length - i → i ≤ l.length → 900200 + d ≤ k → (∀ b ∈ l.take i, 1 ≤ b.size ∧ b.size ≤ 500) → escutcheonlaw9_FrameParts.l0 k l cuts (cat (l.take i)) (i : Int) = some true
  | 0, i, k, hd, hi, hk, hg => by
    obtain ⟨k, rfl⟩ : ∃ j, k = j + 1 := ⟨k - 1, by omega⟩
    have hsz := cat_size (l.take i) 500 (fun b hb => (hg b hb).2)
    have ht : l.take i = l := List.take_of_length_le (by omega)
    have hm : (l.take i).length * (500 + 2) ≤ 20 * (500 + 2) := Nat.mul_le_mul_right _ (by rw [List.length_take]; omega)
    rw [escutcheonlaw9_FrameParts.l0, if_neg (by omega)]
    have he : (⟨#[]⟩ : ByteArray).size = 0 := rfl
    exact parts_l1 l hl cuts hcu cuts.length 0 k (cat (l.take i)) (⟨#[]⟩ : ByteArray) [] l 0 rfl (by omega) (by omega) (by omega) (by
      rw [empty_app, ht]
      rw [ht] at hg
      exact fr_cat l (fun b hb => ⟨(hg b hb).1, by have := (hg b hb).2; omega⟩)) rfl
  | d + 1, i, k, hd, hi, hk, hg => by
    obtain ⟨k, rfl⟩ : ∃ j, k = j + 1 := ⟨k - 1, by omega⟩
    have hsz := cat_size (l.take i) 500 (fun b hb => (hg b hb).2)
    have hm : (l.take i).length * (500 + 2) ≤ 20 * (500 + 2) := Nat.mul_le_mul_right _ (by rw [List.length_take]; omega)
    have hi2 : i < l.length := by omega
    rw [escutcheonlaw9_FrameParts.l0, if_pos (by omega), if_pos (by omega), rd_at l i hi2]
    obtain ⟨b, hb⟩ : ∃ b, l[i] = b := ⟨_, rfl⟩
    rw [hb]
    by_cases h5 : (b.size : Int) > 500
    · rw [if_pos h5]
    · rw [if_neg h5, put_f b (by omega) k (by omega), Option.bind_some]
      by_cases h0 : 1 ≤ b.size
      · have hz := put_size b
        rw [if_pos (show 1 ≤ b.size ∧ b.size ≤ 2200 by omega)]
        simp only [if_true]
        rw [decide_eq_true (show (b.size : Int) > 0 by omega), if_neg (show ¬ ((true != true) = true) by decide), if_pos (by omega), w64 (by omega) (by omega), show (i : Int) + 1 = ((i + 1 : Nat) : Int) by omega]
        have hs : l.take (i + 1) = l.take i ++ [b] := by rw [List.take_succ_eq_append_getElem hi2, hb]
        have := parts_l0 l hl cuts hcu d (i + 1) k (by omega) (by omega) (by omega) (by
          intro x hx
          rw [hs] at hx
          rcases List.mem_append.mp hx with hx | hx
          · exact hg x hx
          · simp at hx
            subst hx
            omega)
        rw [hs, cat_snoc] at this
        exact this
      · rw [if_neg (show ¬ (1 ≤ b.size ∧ b.size ≤ 2200) by omega)]
        simp only
        rw [decide_eq_false (show ¬ (b.size : Int) > 0 by omega)]
        simp
theorem FrameParts : escutcheonlaw9_FrameParts.Pure := by
  intro l cuts _ _ _ _ _ _
  refine ⟨1000000, ?_⟩
  unfold escutcheonlaw9_FrameParts.f
  by_cases c1 : (l.length : Int) > 20
  · rw [if_pos c1, escutcheonlaw9_FrameParts.j0, if_pos rfl, alive_k _ (by omega)]; rfl
  by_cases c2 : (cuts.length : Int) > 30
  · rw [if_neg c1, if_pos c2, escutcheonlaw9_FrameParts.j0, if_pos rfl, alive_k _ (by omega)]; rfl
  rw [if_neg c1, if_neg c2, alive_k _ (by omega), Option.bind_some, show (!true) = false from rfl, escutcheonlaw9_FrameParts.j0, if_neg (by decide)]
  exact parts_l0 l (by omega) cuts (by omega) l.length 0 999999 rfl (by omega) (by omega) (fun b hb => by simp at hb)
end Go.Proofs.Ytoepiofmkjajaaa.Pure
