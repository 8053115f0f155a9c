/- Blocks one behind the other are what hides zeros. -/
import Derived.Test.YtdnlenhkagfiaaaStreamC
import Derived.Test.YtdnlenhkagfiaaaPx12
namespace Go.Proofs.Ytdnlenhkagfiaaa.Pure
open Go.RowKit Go.Proofs.Ytdnlenhkagfiaaa.P Go.Proofs.YtdnlenhkagfiaaaW.PrintWords Go.Proofs.YtdnlenhkagfiaaaW.PrintLast Go.Proofs.YtdnlenhkagfiaaaW.PrintMore Go.Proofs.Ytdnlenhkagfiaaa.B
set_option linter.unusedVariables false
set_option linter.unusedSimpArgs false

theorem L_zeros (n : Nat) : L (strOfNums (List.replicate n 0)) = List.replicate n 0 := by rw [L_nums, List.map_replicate]; rfl
theorem counts_l (key nonce : ByteArray) (hk : key.size = 32) (hn : nonce.size = 12) (c : Int) (hc : R32 c) (n : Nat) (h6 : n ≤ 6) : ∀ (d i : Nat) (all : ByteArray) (k : Nat), d = n - i → i ≤ n → L all = (List.range i).flatMap (fun j : Nat => blkL key ((c + (j : Int)) % 4294967296) nonce) → 2000 + d ≤ k →
    escutcheonlaw5_StreamCounts.l0 k key nonce c n all i = some true := by
  have flen : ∀ i : Nat, ((List.range i).flatMap (fun j : Nat => blkL key ((c + (j : Int)) % 4294967296) nonce)).length = 64 * i := by
    intro i
    induction i with
    | zero => rfl
    | succ i ih => rw [List.range_succ, List.flatMap_append, List.length_append, ih, List.flatMap_cons, List.flatMap_nil, List.append_nil, blkL_len]; omega
  intro d
  induction d with
  | zero =>
    intro i all k hd hi hall hf
    obtain ⟨k, rfl⟩ : ∃ k', k = k' + 1 := ⟨k - 1, by omega⟩
    obtain rfl : i = n := by omega
    have e : wrap64 (64 * (i : Int)) = ((64 * i : Nat) : Int) := by rw [w64 (by omega) (by omega)]; omega
    have hz : (strOfNums (List.replicate (64 * i) 0)).size = 64 * i := by rw [size_nums, List.length_replicate]
    have x1 := Xor_f key c nonce (strOfNums (List.replicate (64 * i) 0)) hc (by omega) i (by omega) k (by omega)
    rw [if_pos ⟨hk, hn⟩] at x1
    rw [escutcheonlaw5_StreamCounts.l0, if_neg (by omega), e, if_pos (by omega), if_pos (by omega), Int.toNat_natCast, x1, Option.bind_some, if_pos rfl]
    have : xsS key nonce i c (strOfNums (List.replicate (64 * i) 0)) = all := by
      apply L_ext
      show xs key nonce i c (L _) = L all
      rw [L_zeros, hall]
      exact (xs_zeros key nonce i c).resolve_right (fun h => h hc)
    simp [this]
  | succ d ih =>
    intro i all k hd hi hall hf
    obtain ⟨k, rfl⟩ : ∃ k', k = k' + 1 := ⟨k - 1, by omega⟩
    have hal : all.size = 64 * i := by rw [← L_len, hall, flen]
    have e : (c + (i : Int) % 4294967296) % 4294967296 = (c + (i : Int)) % 4294967296 := by omega
    have x2 := Block_f key ((c + (i : Int)) % 4294967296) nonce (r32_mod _) k (by omega)
    rw [if_pos ⟨hk, hn⟩] at x2
    rw [escutcheonlaw5_StreamCounts.l0, if_pos (by omega), e, x2, Option.bind_some, if_pos rfl]
    have hb := blkS_size key ((c + (i : Int)) % 4294967296) nonce
    simp only []
    rw [if_pos (by omega), if_pos (by omega), show wrap64 ((i : Int) + 1) = ((i + 1 : Nat) : Int) by rw [w64 (by omega) (by omega)]; omega]
    refine ih (i + 1) _ k (by omega) (by omega) ?_ (by omega)
    rw [L_app, hall, List.range_succ, List.flatMap_append, List.flatMap_cons, List.flatMap_nil, List.append_nil]; rfl
theorem StreamCounts : escutcheonlaw5_StreamCounts.Pure := by
  intro key nonce c n hs1 hs2 hc hn
  have hc : R32 c := wf_u32 hc
  have hn := wf_i64 hn
  obtain ⟨K, hK⟩ : ∃ K : Nat, 3000 ≤ K := ⟨3000, Nat.le_refl _⟩
  refine ⟨K + 1, ?_⟩
  have out : escutcheonlaw5_StreamCounts.j0 (K + 1) key nonce c n true = some true := by
    rw [escutcheonlaw5_StreamCounts.j0, if_pos rfl, alive_k _ (by omega)]; rfl
  unfold escutcheonlaw5_StreamCounts.f
  by_cases c1 : n < 0
  · rw [if_pos c1]; exact out
  rw [if_neg c1]
  by_cases c2 : n > 6
  · rw [if_pos c2]; exact out
  rw [if_neg c2, alive_k _ (by omega), Option.bind_some]
  show escutcheonlaw5_StreamCounts.j0 (K + 1) key nonce c n false = some true
  have h1 := fill_f key 32 (by omega) hs1 K (by omega)
  have h2 := fill_f nonce 12 (by omega) hs2 K (by omega)
  rw [show ((32 : Nat) : Int) = 32 from rfl] at h1
  rw [show ((12 : Nat) : Int) = 12 from rfl] at h2
  rw [escutcheonlaw5_StreamCounts.j0, if_neg (by decide), h1, Option.bind_some, h2, Option.bind_some]
  have := counts_l _ _ (fillS_size key 32) (fillS_size nonce 12) c hc n.toNat (by omega) n.toNat 0 (⟨#[]⟩ : ByteArray) K (by omega) (by omega) rfl (by omega)
  rw [show ((n.toNat : Nat) : Int) = n by omega] at this
  exact this
end Go.Proofs.Ytdnlenhkagfiaaa.Pure
