/- A Reader that met a length that may not be tells no more frames. -/
import Derived.Test.YtoepiofmkjajaaaFrameB
import Derived.Test.YtoepiofmkjajaaaPx29
namespace Go.Proofs.Ytoepiofmkjajaaa.Pure
open Go.RowKit Go.Proofs.Ytoepiofmkjajaaa.P Go.Proofs.YtoepiofmkjajaaaW.PrintWords Go.Proofs.YtoepiofmkjajaaaW.PrintLast Go.Proofs.YtoepiofmkjajaaaW.PrintMore Go.Proofs.Ytoepiofmkjajaaa.B
set_option linter.unusedVariables false
set_option linter.unusedSimpArgs false

theorem fr_whole (b : ByteArray) (h1 : 1 ≤ b.size) (hb : b.size ≤ 2200) : fr (put b) = ([b], (⟨#[]⟩ : ByteArray), false) := by
  have := fr_put b (⟨#[]⟩ : ByteArray) h1 hb
  rw [app_empty, fr_nil] at this
  exact this
theorem and_1023 (v : Int) : 0 ≤ Go.bits .and .i64 v 1023 ∧ Go.bits .and .i64 v 1023 ≤ 1023 := by
  have h : (BitVec.ofInt IntKind.i64.bits v &&& BitVec.ofInt IntKind.i64.bits 1023).toNat ≤ 1023 := by
    rw [BitVec.toNat_and]
    exact Nat.le_trans Nat.and_le_right (by decide)
  simp only [Go.bits]
  rw [i64_w, w64 (by omega) (by omega)]
  omega
theorem dead_l1 (m : List ByteArray) : ∀ (d i k : Nat) (c : Int), d = m.length - i → i ≤ m.length → m.length ≤ 10 → d + 1 ≤ k → escutcheonlaw9_FrameDead.l1 k m (i : Int) (⟨#[]⟩ : ByteArray) true c = some true
  | 0, i, k, c, hd, hi, hm, hk => by
    obtain ⟨k, rfl⟩ : ∃ j, k = j + 1 := ⟨k - 1, by omega⟩
    rw [escutcheonlaw9_FrameDead.l1, if_neg (by omega)]
  | d + 1, i, k, c, hd, hi, hm, hk => by
    obtain ⟨k, rfl⟩ : ∃ j, k = j + 1 := ⟨k - 1, by omega⟩
    rw [escutcheonlaw9_FrameDead.l1, if_pos (by omega), if_pos (by omega), feed_dead, Option.bind_some]
    unfold frame_Reader_Waits.f frame_Reader_Dead.f
    simp only [Bool.false_eq_true, if_false, List.length_nil]
    rw [if_neg (by decide), Option.bind_some]
    simp only [if_true]
    rw [Option.bind_some]
    simp only
    rw [if_pos (by decide), w64 (by omega) (by omega), show (i : Int) + 1 = ((i + 1 : Nat) : Int) by omega]
    exact dead_l1 m d (i + 1) k c (by omega) (by omega) hm (by omega)
theorem dead_j3 (m : List ByteArray) (hm : m.length ≤ 10) (n : Int) (h : n = 0 ∨ (2201 ≤ n ∧ n ≤ 4000)) (c : Int) (k : Nat) (hk : 40 ≤ k) : escutcheonlaw9_FrameDead.j3 k m n (⟨#[]⟩ : ByteArray) false c = some true := by
  obtain ⟨k, rfl⟩ : ∃ j, k = j + 1 + 1 := ⟨k - 2, by omega⟩
  generalize hs : strOfNums [(n / 256) % 256, n % 256] = s
  have hz : s.size = 2 := by rw [← hs, size_nums]; rfl
  have hr : ∀ x ∈ [(n / 256) % 256, n % 256], 0 ≤ x ∧ x ≤ 255 := by
    intro x hx
    simp at hx
    omega
  have hh : hd s = n := by
    unfold hd
    rw [← hs, bt_nums _ _ hr, bt_nums _ _ hr]
    show (n / 256) % 256 * 256 + n % 256 = n
    omega
  have hf : ¬ Fits s := by
    show ¬ (1 ≤ hd s ∧ hd s ≤ 2200)
    omega
  have hfr : fr s = ([], (⟨#[]⟩ : ByteArray), true) := by rw [fr_of s (by omega), if_neg hf]
  have he : (⟨#[]⟩ : ByteArray).size = 0 := rfl
  obtain ⟨c', hc⟩ := feed_f (⟨#[]⟩ : ByteArray) s c (k + 1) (by omega) (by omega)
  rw [escutcheonlaw9_FrameDead.j3, hs, hc, Option.bind_some, empty_app, hfr]
  unfold frame_Reader_Dead.f
  simp only [Bool.not_true, Bool.false_eq_true, if_false, List.length_nil]
  rw [if_neg (by decide), Option.bind_some]
  simp only [Bool.not_true]
  rw [escutcheonlaw9_FrameDead.j4, if_neg (by decide)]
  exact dead_l1 m m.length 0 k c' rfl (by omega) hm (by omega)
theorem dead_l0 (l : List ByteArray) (hl : l.length ≤ 10) (x : Int) (hx : -9223372036854775808 ≤ x ∧ x ≤ 9223372036854775807) (m : List ByteArray) (hm : m.length ≤ 10) : ∀ (d i k : Nat) (c : Int), d = l.length - i → i ≤ l.length → 2 * d + 1000 ≤ k → escutcheonlaw9_FrameDead.l0 k l x m (i : Int) (⟨#[]⟩ : ByteArray) false c = some true
  | 0, i, k, c, hd, hi, hk => by
    obtain ⟨k, rfl⟩ : ∃ j, k = j + 1 := ⟨k - 1, by omega⟩
    rw [escutcheonlaw9_FrameDead.l0, if_neg (by omega)]
    have hb := and_1023 (x / 2)
    split
    · rw [w64 (by omega) (by omega)]
      exact dead_j3 m hm _ (by omega) c k (by omega)
    · exact dead_j3 m hm 0 (by omega) c k (by omega)
  | d + 1, i, k, c, hd, hi, hk => by
    obtain ⟨k, rfl⟩ : ∃ j, k = j + 1 + 1 := ⟨k - 2, by omega⟩
    have out : ∀ k s b c, escutcheonlaw9_FrameDead.j2 (k + 1) l x m (i : Int) true s b c = some true := by
      intro k s b c
      rw [escutcheonlaw9_FrameDead.j2, if_pos rfl]
    rw [escutcheonlaw9_FrameDead.l0, if_pos (by omega), if_pos (by omega)]
    by_cases h1 : ((rdOf ByteArray.empty l (i : Int)).size : Int) < 1
    · rw [if_pos h1]; exact out _ _ _ _
    rw [if_neg h1]
    by_cases h2 : ((rdOf ByteArray.empty l (i : Int)).size : Int) > 500
    · rw [decide_eq_true h2]; exact out _ _ _ _
    obtain ⟨b, hbb⟩ : ∃ b, rdOf ByteArray.empty l (i : Int) = b := ⟨_, rfl⟩
    rw [decide_eq_false h2, escutcheonlaw9_FrameDead.j2, if_neg (by decide), if_pos (by omega), if_pos (by omega)]
    rw [hbb] at h1 h2 ⊢
    rw [put_f _ (by omega) _ (by omega), if_pos (by omega), Option.bind_some]
    have hz := put_size b
    have he : (⟨#[]⟩ : ByteArray).size = 0 := rfl
    obtain ⟨c', hc⟩ := feed_f (⟨#[]⟩ : ByteArray) (put b) c k (by omega) (by omega)
    simp only
    rw [hc, Option.bind_some, empty_app, fr_whole b (by omega) (by omega)]
    unfold frame_Reader_Dead.f
    simp only [Bool.not_false, if_true, List.length_cons, List.length_nil]
    rw [if_pos (by decide), if_pos (by decide), if_pos (show (rdOf ByteArray.empty [b] 0).toList = b.toList from rfl), Option.bind_some]
    simp only [Bool.false_eq_true, if_false]
    rw [w64 (by omega) (by omega), show (i : Int) + 1 = ((i + 1 : Nat) : Int) by omega]
    exact dead_l0 l hl x hx m hm d (i + 1) k c' (by omega) (by omega) (by omega)
theorem FrameDead : escutcheonlaw9_FrameDead.Pure := by
  intro l x m _ _ _ hx _ _ _
  refine ⟨10000, ?_⟩
  unfold escutcheonlaw9_FrameDead.f
  by_cases c1 : (l.length : Int) > 10
  · rw [if_pos c1, escutcheonlaw9_FrameDead.j0, if_pos rfl, alive_k _ (by omega)]; rfl
  by_cases c2 : (m.length : Int) > 10
  · rw [if_neg c1, if_pos c2, escutcheonlaw9_FrameDead.j0, if_pos rfl, alive_k _ (by omega)]; rfl
  rw [if_neg c1, if_neg c2, alive_k _ (by omega), Option.bind_some, show (!true) = false from rfl, escutcheonlaw9_FrameDead.j0, if_neg (by decide)]
  exact dead_l0 l (by omega) x (wf_i64 hx) m (by omega) l.length 0 9999 0 rfl (by omega) (by omega)
end Go.Proofs.Ytoepiofmkjajaaa.Pure
