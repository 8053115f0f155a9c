/- Every quarter, every block, every bytes hidden, or that key or nonce may not be. -/
import Derived.Test.YtdnlenhkagfiaaaStreamC
import Derived.Test.YtdnlenhkagfiaaaPx11
namespace Go.Proofs.Ytdnlenhkagfiaaa.Pure
open Go.RowKit Go.Proofs.Ytdnlenhkagfiaaa.P Go.Proofs.YtdnlenhkagfiaaaW.PrintWords Go.Proofs.YtdnlenhkagfiaaaW.PrintLast Go.Proofs.YtdnlenhkagfiaaaW.PrintMore Go.Proofs.Ytdnlenhkagfiaaa.B
set_option linter.unusedVariables false
set_option linter.unusedSimpArgs false

theorem tells_j1 (key nonce b : ByteArray) (c x y z w : Int) (hb : b.size ≤ 400) (hc : R32 c) (k : Nat) (hk : 2000 ≤ k) : escutcheonlaw5_StreamTells.j1 (k + 3) key nonce b c x y z w = some true := by
  have hX := Xor_f key c nonce b hc (by omega) 7 (by omega) (k + 1) (by omega)
  have hB := Block_f key c nonce hc (k + 1) (by omega)
  rw [escutcheonlaw5_StreamTells.j1, quarter_f, Option.bind_some, refQuarter_f, Option.bind_some, if_pos rfl, if_pos rfl, if_pos rfl]
  rw [show ((qF x y z w).2.2.2 != (qF x y z w).2.2.2) = false by simp, escutcheonlaw5_StreamTells.j2, if_neg (by decide), hB, Option.bind_some, hX, Option.bind_some]
  have bad : ¬ (key.size = 32 ∧ nonce.size = 12) → escutcheonlaw5_StreamTells.j3 (k + 1) key nonce b c (⟨#[]⟩ : ByteArray) false (⟨#[]⟩ : ByteArray) false true = some true := by
    intro _
    rw [escutcheonlaw5_StreamTells.j3, if_pos rfl, if_neg (by decide), if_neg (by decide), if_pos (by rw [toList_L]; rfl), toList_L]; rfl
  by_cases h1 : key.size = 32
  · rw [if_pos (by omega)]
    by_cases h2 : nonce.size = 12
    · rw [if_pos (show key.size = 32 ∧ nonce.size = 12 from ⟨h1, h2⟩), if_pos (show key.size = 32 ∧ nonce.size = 12 from ⟨h1, h2⟩)]
      rw [show ((nonce.size : Int) != 12) = false by rw [h2]; rfl, escutcheonlaw5_StreamTells.j3, if_neg (by decide), if_pos rfl, if_pos rfl, refBlock_f key c nonce h1 h2 k (by omega), Option.bind_some, if_pos rfl, refStream_f key c nonce b h1 h2 hc (by omega) 7 (by omega) k (by omega), Option.bind_some]
      simp
    · rw [if_neg (fun h => h2 h.2), if_neg (fun h => h2 h.2)]
      rw [show ((nonce.size : Int) != 12) = true by simp; omega]
      exact bad (fun h => h2 h.2)
  · rw [if_neg (by omega), if_neg (fun h => h1 h.1), if_neg (fun h => h1 h.1)]
    exact bad (fun h => h1 h.1)
theorem StreamTells : escutcheonlaw5_StreamTells.Pure := by
  intro key nonce b c raw x y z w hs1 hs2 hs3 hc hx hy hz hw
  have hc : R32 c := wf_u32 hc
  obtain ⟨K, hK⟩ : ∃ K : Nat, 2000 ≤ K := ⟨2000, Nat.le_refl _⟩
  refine ⟨K + 4, ?_⟩
  have out : escutcheonlaw5_StreamTells.j0 (K + 4) key nonce b c raw x y z w true = some true := by
    rw [escutcheonlaw5_StreamTells.j0, if_pos rfl, alive_k _ (by omega)]; rfl
  unfold escutcheonlaw5_StreamTells.f
  by_cases c1 : (key.size : Int) > 100
  · rw [if_pos c1]; exact out
  rw [if_neg c1]
  by_cases c2 : (nonce.size : Int) > 100
  · rw [if_pos c2]; exact out
  rw [if_neg c2]
  by_cases c3 : (b.size : Int) > 400
  · rw [if_pos c3]; exact out
  rw [if_neg c3, alive_k _ (by omega), Option.bind_some]
  show escutcheonlaw5_StreamTells.j0 (K + 4) key nonce b c raw x y z w false = some true
  rw [escutcheonlaw5_StreamTells.j0, if_neg (by decide)]
  cases raw with
  | true => rw [if_pos rfl]; exact tells_j1 key nonce b c x y z w (by omega) hc K hK
  | false =>
    have h1 := fill_f key 32 (by omega) hs1 (K + 3) (by omega)
    have h2 := fill_f nonce 12 (by omega) hs2 (K + 3) (by omega)
    rw [show ((32 : Nat) : Int) = 32 from rfl] at h1
    rw [show ((12 : Nat) : Int) = 12 from rfl] at h2
    rw [if_neg (by decide), h1, Option.bind_some, h2, Option.bind_some]
    exact tells_j1 _ _ b c x y z w (by omega) hc K hK
end Go.Proofs.Ytdnlenhkagfiaaa.Pure
