/- The value of a block of sixteen bytes. -/
import Derived.Test.YtagoibmemonkaaaOnetimeG
namespace Go.Proofs.Ytagoibmemonkaaa.B
open Go.RowKit Go.Proofs.Ytagoibmemonkaaa.P Go.Proofs.YtagoibmemonkaaaW.PrintWords Go.Proofs.YtagoibmemonkaaaW.PrintLast Go.Proofs.YtagoibmemonkaaaW.PrintMore
set_option linter.unusedVariables false
set_option linter.unusedSimpArgs false

theorem chunk_full (b : ByteArray) (h : b.size = 16) : onetime_Tag.chunk b = b ++ (⟨#[1]⟩ : ByteArray) := by
  apply L_ext
  rw [L_app]
  unfold onetime_Tag.chunk
  rw [show min b.size 16 = 16 by omega, L_mk]
  show L (b.extract 0 16) ++ _ = _
  rw [← h, ext_all, h]
  rfl
theorem block_full (b : ByteArray) (h : b.size = 16) : Norm (blockP b) ∧ val (blockP b) = le (b.extract 0 8) + 18446744073709551616 * le (b.extract 8 16) + 340282366920938463463374607431768211456 := by
  have hl : (L b).length = 16 := by rw [L_len, h]
  have e1 : (b ++ (⟨#[1]⟩ : ByteArray)).extract 0 8 = b.extract 0 8 := by
    apply L_ext
    rw [L_ext_, L_ext_, L_app, List.take_append_of_le_length (by omega)]
  have e2 : (b ++ (⟨#[1]⟩ : ByteArray)).extract 8 16 = b.extract 8 16 := by
    apply L_ext
    rw [L_ext_, L_ext_, L_app, List.take_append_of_le_length (by omega)]
  have e3 : bt (b ++ (⟨#[1]⟩ : ByteArray)) 16 = 1 := by
    rw [bt_app_r b _ 16 (by rw [h]; decide), h]; rfl
  unfold blockP
  rw [chunk_full b h, e1, e2, e3, show IntKind.u64.wrap 1 = 1 from rfl]
  have := split_eq (le (b.extract 0 8)) (le (b.extract 8 16)) 1 (le_bd _) (le_bd _) (by decide)
  exact ⟨this.1, by rw [this.2]; omega⟩
theorem norm_Z : Norm (List.replicate 5 0) := norm5 0 0 0 0 0 (by decide) (by decide) (by decide) (by decide) (by decide)
theorem sum_one (y : List Int) (hy : Small y) (b : ByteArray) (h : b.size = 16) : Norm (onetime_number_whole.f (goP y 100 b (List.replicate 5 0))) ∧
    val (onetime_number_whole.f (goP y 100 b (List.replicate 5 0))) = ((le (b.extract 0 8) + 18446744073709551616 * le (b.extract 8 16) + 340282366920938463463374607431768211456) * val y) % 1361129467683753853853498429727072845819 := by
  have hb := block_full b h
  have hp := plus_eq norm_Z hb.1
  rw [show val (List.replicate 5 0) = 0 from rfl, Int.zero_add, hb.2] at hp
  obtain ⟨q, hn, hq, ht⟩ := times_eq hp.1 hy
  have hg : goP y 100 b (List.replicate 5 0) = onetime_number_times.f (onetime_number_plus.f (List.replicate 5 0) (blockP b)) y := by
    rw [show (100 : Nat) = 98 + 1 + 1 from rfl, goP, if_neg (by omega), goP, if_pos (by rw [size_ext]; omega)]
  rw [hg]
  have hw := whole_eq _ hn
  refine ⟨hw.1, ?_⟩
  rw [hw.2, ← hp.2, ht, Int.add_mul_emod_self_left]
end Go.Proofs.Ytagoibmemonkaaa.B
