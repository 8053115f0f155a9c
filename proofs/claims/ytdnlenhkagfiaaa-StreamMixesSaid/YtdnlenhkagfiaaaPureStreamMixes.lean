/- Two texts that are hidden by the same key, nonce and counter differ as the texts do. -/
import Derived.Test.YtdnlenhkagfiaaaStreamC
import Derived.Test.YtdnlenhkagfiaaaPx14
namespace Go.Proofs.Ytdnlenhkagfiaaa.Pure
open Go.RowKit Go.Proofs.Ytdnlenhkagfiaaa.P Go.Proofs.YtdnlenhkagfiaaaW.PrintWords Go.Proofs.YtdnlenhkagfiaaaW.PrintLast Go.Proofs.YtdnlenhkagfiaaaW.PrintMore Go.Proofs.Ytdnlenhkagfiaaa.B
set_option linter.unusedVariables false
set_option linter.unusedSimpArgs false

theorem StreamMixes : escutcheonlaw5_StreamMixes.Pure := by
  intro key nonce a b c hs1 hs2 ha hb hc
  have hc : R32 c := wf_u32 hc
  obtain ⟨K, hK⟩ : ∃ K : Nat, 3000 ≤ K := ⟨3000, Nat.le_refl _⟩
  refine ⟨K + 1, ?_⟩
  have out : escutcheonlaw5_StreamMixes.j0 (K + 1) key nonce a b c true = some true := by
    rw [escutcheonlaw5_StreamMixes.j0, if_pos rfl, alive_k _ (by omega)]; rfl
  unfold escutcheonlaw5_StreamMixes.f
  by_cases c1 : (a.size : Int) = (b.size : Int)
  case neg => rw [if_neg c1]; exact out
  rw [if_pos c1]
  by_cases c2 : (a.size : Int) > 300
  · rw [if_pos c2]; exact out
  rw [if_neg c2, alive_k _ (by omega), Option.bind_some]
  show escutcheonlaw5_StreamMixes.j0 (K + 1) key nonce a b c false = some true
  have h1 := fill_f key 32 (by omega) hs1 K (by omega)
  have h2 := fill_f nonce 12 (by omega) hs2 K (by omega)
  rw [show ((32 : Nat) : Int) = 32 from rfl] at h1
  rw [show ((12 : Nat) : Int) = 12 from rfl] at h2
  have hk := fillS_size key 32
  have hno := fillS_size nonce 12
  generalize fillS key 32 = key' at *
  generalize fillS nonce 12 = nonce' at *
  have x1 := Xor_f key' c nonce' a hc (by omega) 5 (by omega) K (by omega)
  have x2 := Xor_f key' c nonce' b hc (by omega) 5 (by omega) K (by omega)
  rw [if_pos ⟨hk, hno⟩] at x1 x2
  have l1 : (xsS key' nonce' 5 c a).size = a.size := by
    show (xs _ _ _ _ _).length = _
    rw [xs_len _ _ _ _ _ (by rw [L_len]; omega), L_len]
  have l2 : (xsS key' nonce' 5 c b).size = b.size := by
    show (xs _ _ _ _ _).length = _
    rw [xs_len _ _ _ _ _ (by rw [L_len]; omega), L_len]
  have hfin : strOfNums (xorL (xsS key' nonce' 5 c a) (xsS key' nonce' 5 c b)) = strOfNums (xorL a b) := by
    apply L_ext
    rw [L_xor, L_xor]
    exact xs_both key' nonce' 5 c (L a) (L b) (by rw [L_len, L_len]; omega) (by rw [L_len]; omega)
  rw [escutcheonlaw5_StreamMixes.j0, if_neg (by decide), h1, Option.bind_some, h2, Option.bind_some, x1, Option.bind_some, x2, Option.bind_some, if_pos rfl, if_pos rfl]
  simp only []
  rw [refXor_f _ _ (by omega) K (by omega), Option.bind_some, refXor_f _ _ (by omega) K (by omega), Option.bind_some, hfin]
  simp
end Go.Proofs.Ytdnlenhkagfiaaa.Pure
