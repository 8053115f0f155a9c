/- Every word turned, every number as bytes, and back; every two texts xored; every digits: as the document's own answer has it. For every input. -/
import Derived.Test.YtinojomgdjogdaaOctetR
namespace Go.Proofs.Ytinojomgdjogdaa.Pure
open Go.RowKit Go.Proofs.Ytinojomgdjogdaa.P Go.Proofs.YtinojomgdjogdaaW.PrintWords Go.Proofs.YtinojomgdjogdaaW.PrintLast Go.Proofs.Ytinojomgdjogdaa.B
set_option linter.unusedVariables false
set_option linter.unusedSimpArgs false

theorem OctetTells : escutcheonlaw1_OctetTells.Pure := by
  intro x n v a b hx hn hv ha hb
  have hx := wf_u32 hx
  have hn := wf_i64 hn
  have hv := wf_u64 hv
  refine ⟨20001, ?_⟩
  have out : escutcheonlaw1_OctetTells.j0 20001 x n v a b true = some true := by
    simp only [escutcheonlaw1_OctetTells.j0]
    rw [if_pos trivial, alive_k _ (by omega)]; rfl
  unfold escutcheonlaw1_OctetTells.f
  split
  · exact out
  split
  · exact out
  rw [alive_k _ (by omega)]
  obtain ⟨K, hK⟩ : ∃ K, 20001 = K + 1 ∧ 20000 ≤ K := ⟨20000, rfl, Nat.le_refl _⟩
  rw [hK.1]
  simp only [Option.bind_some, escutcheonlaw1_OctetTells.j0]
  have hk := hK.2
  rw [if_neg (by simp), unhex_f b (by omega) _ (by omega), Option.bind_some, refUnhex_f b (by omega) _ (by omega), Option.bind_some, left_any x n hx hn, Option.bind_some, refLeft_f x n hx hn, Option.bind_some, if_pos rfl]
  have pb : octet_PutBig.f K v n = escutcheonref1_PutBig.f K v n ∧ octet_PutLittle.f K v n = escutcheonref1_PutLittle.f K v n ∧ (∃ r, octet_PutBig.f K v n = some r) ∧ (∃ r, octet_PutLittle.f K v n = some r) := by
    by_cases h : n < 1 ∨ n > 8
    · obtain ⟨K, rfl⟩ : ∃ m, K = m + 1 := ⟨K - 1, by omega⟩
      rw [putBig_out v n h, refPutBig_out v n h, putLittle_out v n h, refPutLittle_out v n h]
      exact ⟨rfl, rfl, ⟨_, rfl⟩, ⟨_, rfl⟩⟩
    · obtain ⟨m, rfl⟩ : ∃ m : Nat, n = m := ⟨n.toNat, by omega⟩
      rw [putBig_f v m (by omega) (by omega) _ (by omega), refPutBig_f v hv m (by omega) (by omega) _ (by omega), putLittle_f v m (by omega) (by omega) _ (by omega), refPutLittle_f v hv m (by omega) (by omega) _ (by omega)]
      exact ⟨rfl, rfl, ⟨_, rfl⟩, ⟨_, rfl⟩⟩
  obtain ⟨p1, p2, ⟨r1, p3⟩, ⟨r2, p4⟩⟩ := pb
  rw [← p1, p3, Option.bind_some, Option.bind_some, if_pos rfl, ← p2, p4, Option.bind_some, Option.bind_some, if_pos rfl]
  rw [big_f a ha, Option.bind_some, refBig_f a ha _ (by omega), Option.bind_some, if_pos rfl, little_f a _ (by omega), Option.bind_some, refLittle_f a _ (by omega), Option.bind_some, if_pos rfl]
  rw [xor_f a b ha _ (by omega), Option.bind_some, refXor_f a b ha _ (by omega), Option.bind_some, if_pos rfl, hex_f a (by omega), Option.bind_some, refHex_f a (by omega) _ (by omega), Option.bind_some, if_pos rfl, if_pos rfl]
  simp
end Go.Proofs.Ytinojomgdjogdaa.Pure
