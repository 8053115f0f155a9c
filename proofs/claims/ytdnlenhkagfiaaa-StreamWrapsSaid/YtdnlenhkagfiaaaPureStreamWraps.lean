/- Behind the greatest counter comes 0. -/
import Derived.Test.YtdnlenhkagfiaaaStreamC
import Derived.Test.YtdnlenhkagfiaaaPx13
namespace Go.Proofs.Ytdnlenhkagfiaaa.Pure
open Go.RowKit Go.Proofs.Ytdnlenhkagfiaaa.P Go.Proofs.YtdnlenhkagfiaaaW.PrintWords Go.Proofs.YtdnlenhkagfiaaaW.PrintLast Go.Proofs.YtdnlenhkagfiaaaW.PrintMore Go.Proofs.Ytdnlenhkagfiaaa.B
set_option linter.unusedVariables false
set_option linter.unusedSimpArgs false

theorem L_zeros (n : Nat) : L (strOfNums (List.replicate n 0)) = List.replicate n 0 := by rw [L_nums, List.map_replicate]; rfl
theorem StreamWraps : escutcheonlaw5_StreamWraps.Pure := by
  intro key nonce n hs1 hs2 hn
  have hn := wf_i64 hn
  obtain ⟨K, hK⟩ : ∃ K : Nat, 3000 ≤ K := ⟨3000, Nat.le_refl _⟩
  refine ⟨K + 1, ?_⟩
  have out : escutcheonlaw5_StreamWraps.j0 (K + 1) key nonce n true = some true := by
    rw [escutcheonlaw5_StreamWraps.j0, if_pos rfl, alive_k _ (by omega)]; rfl
  unfold escutcheonlaw5_StreamWraps.f
  by_cases c1 : n < 1
  · rw [if_pos c1]; exact out
  rw [if_neg c1]
  by_cases c2 : n > 4
  · rw [if_pos c2]; exact out
  rw [if_neg c2, alive_k _ (by omega), Option.bind_some]
  show escutcheonlaw5_StreamWraps.j0 (K + 1) key nonce n false = some true
  have h1 := fill_f key 32 (by omega) hs1 K (by omega)
  have h2 := fill_f nonce 12 (by omega) hs2 K (by omega)
  rw [show ((32 : Nat) : Int) = 32 from rfl] at h1
  rw [show ((12 : Nat) : Int) = 12 from rfl] at h2
  obtain ⟨m, rfl⟩ : ∃ m : Nat, n = ((m + 1 : Nat) : Int) := ⟨n.toNat - 1, by omega⟩
  have e1 : wrap64 (64 * ((m + 1 : Nat) : Int)) = ((64 * (m + 1) : Nat) : Int) := by rw [w64 (by omega) (by omega)]; omega
  have e2 : wrap64 (64 * wrap64 (((m + 1 : Nat) : Int) - 1)) = ((64 * m : Nat) : Int) := by rw [w64 (n := ((m + 1 : Nat) : Int) - 1) (by omega) (by omega), w64 (by omega) (by omega)]; omega
  have hz : ∀ j, (strOfNums (List.replicate j 0)).size = j := fun j => by rw [size_nums, List.length_replicate]
  have hk := fillS_size key 32
  have hno := fillS_size nonce 12
  have hm : R32 4294967295 := by unfold R32; omega
  have h0 : R32 0 := by unfold R32; omega
  generalize fillS key 32 = key' at *
  generalize fillS nonce 12 = nonce' at *
  have x1 := Xor_f key' 4294967295 nonce' (strOfNums (List.replicate (64 * (m + 1)) 0)) hm (by rw [hz]; omega) (m + 1) (by rw [hz]; omega) K (by omega)
  have x2 := Block_f key' 4294967295 nonce' hm K (by omega)
  have x3 := Xor_f key' 0 nonce' (strOfNums (List.replicate (64 * m) 0)) h0 (by rw [hz]; omega) m (by rw [hz]; omega) K (by omega)
  rw [if_pos ⟨hk, hno⟩] at x1 x2 x3
  have hsz := blkS_size key' 4294967295 nonce'
  have hxl : (xsS key' nonce' m 0 (strOfNums (List.replicate (64 * m) 0))).size = 64 * m := by
    show (xs _ _ _ _ _).length = _
    rw [xs_len _ _ _ _ _ (by rw [L_len, hz]; omega), L_len, hz]
  have hfin : xsS key' nonce' (m + 1) 4294967295 (strOfNums (List.replicate (64 * (m + 1)) 0)) = blkS key' 4294967295 nonce' ++ xsS key' nonce' m 0 (strOfNums (List.replicate (64 * m) 0)) := by
    apply L_ext
    rw [L_app]
    show xs _ _ _ _ (L _) = blkL _ _ _ ++ xs _ _ _ _ (L _)
    have e4 : List.zipWith (· ^^^ ·) (List.replicate 64 0) (blkL key' 4294967295 nonce') = blkL key' 4294967295 nonce' := by
      have := xor_zero (blkL key' 4294967295 nonce')
      rw [blkL_len] at this; exact this
    rw [L_zeros, L_zeros, xs, List.take_replicate, List.drop_replicate, show min 64 (64 * (m + 1)) = 64 by omega, e4, show 64 * (m + 1) - 64 = 64 * m by omega, show ((4294967295 : Int) + 1) % 4294967296 = 0 by decide]
  rw [escutcheonlaw5_StreamWraps.j0, if_neg (by decide), h1, Option.bind_some, h2, Option.bind_some, e1, if_pos (by omega), if_pos (by omega), Int.toNat_natCast, x1, Option.bind_some, x2, Option.bind_some, e2, if_pos (by omega), if_pos (by omega), Int.toNat_natCast, x3, Option.bind_some, if_pos rfl, if_pos rfl, if_pos rfl]
  simp only []
  rw [if_pos (by omega), hfin]
  simp
end Go.Proofs.Ytdnlenhkagfiaaa.Pure
