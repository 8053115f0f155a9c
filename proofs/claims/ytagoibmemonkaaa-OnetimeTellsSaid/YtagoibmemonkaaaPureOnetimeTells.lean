/- Every bytes' tag, under every key, is the document's, or it may not be. -/
import Derived.Test.YtagoibmemonkaaaOnetimeW
import Derived.Test.YtagoibmemonkaaaPx10
namespace Go.Proofs.Ytagoibmemonkaaa.Pure
open Go.RowKit Go.Proofs.Ytagoibmemonkaaa.P Go.Proofs.YtagoibmemonkaaaW.PrintWords Go.Proofs.YtagoibmemonkaaaW.PrintLast Go.Proofs.YtagoibmemonkaaaW.PrintMore Go.Proofs.Ytagoibmemonkaaa.B
set_option linter.unusedVariables false
set_option linter.unusedSimpArgs false

theorem tells_j1 (key b : ByteArray) (hs : key.size ≤ 140737488351232) (hb : b.size ≤ 500) : ∃ K, ∀ k, K ≤ k → escutcheonlaw6_OnetimeTells.j1 k key b = some true := by
  by_cases hk : key.size = 32
  · obtain ⟨K, hK⟩ := ref_tag key b hk (by omega)
    refine ⟨K + 200, fun k h => ?_⟩
    obtain ⟨k, rfl⟩ : ∃ j, k = j + 1 := ⟨k - 1, by omega⟩
    have hcl : escutcheonref1_Clamp.f key = some (rOf key) := by unfold escutcheonref1_Clamp.f; rw [if_pos (by omega)]; rfl
    rw [escutcheonlaw6_OnetimeTells.j1, tag_f key b hk (by omega) k (by omega), Option.bind_some, clamp_f key hk, Option.bind_some, if_pos (by omega), if_pos rfl, if_pos rfl, hK k (by omega), Option.bind_some, if_pos rfl, hcl, Option.bind_some]
    simp
  · refine ⟨2, fun k h => ?_⟩
    obtain ⟨k, rfl⟩ : ∃ j, k = j + 1 := ⟨k - 1, by omega⟩
    have hcl : onetime_Clamp.f key = some ((⟨#[]⟩ : ByteArray), false) := by unfold onetime_Clamp.f; rw [if_neg hk, if_pos hs]
    rw [escutcheonlaw6_OnetimeTells.j1, tag_no key b hk hs k, Option.bind_some, hcl, Option.bind_some, if_neg (by omega), if_neg (by decide), if_neg (by decide), if_pos (by rw [toList_L]; rfl), toList_L]
    rfl
theorem OnetimeTells : escutcheonlaw6_OnetimeTells.Pure := by
  intro key b raw hs1 hs2
  have out : ∀ k, 200 ≤ k → escutcheonlaw6_OnetimeTells.j0 k key b raw true = some true := by
    intro k h
    obtain ⟨k, rfl⟩ : ∃ j, k = j + 1 := ⟨k - 1, by omega⟩
    rw [escutcheonlaw6_OnetimeTells.j0, if_pos rfl, alive_k _ (by omega)]; rfl
  by_cases c1 : (key.size : Int) > 100
  · refine ⟨200, ?_⟩
    unfold escutcheonlaw6_OnetimeTells.f
    rw [if_pos c1]; exact out _ (by omega)
  by_cases c2 : (b.size : Int) > 500
  · refine ⟨200, ?_⟩
    unfold escutcheonlaw6_OnetimeTells.f
    rw [if_neg c1, if_pos c2]; exact out _ (by omega)
  cases raw with
  | true =>
    obtain ⟨K, hK⟩ := tells_j1 key b hs1 (by omega)
    refine ⟨K + 200 + 1, ?_⟩
    unfold escutcheonlaw6_OnetimeTells.f
    rw [if_neg c1, if_neg c2, alive_k _ (by omega), Option.bind_some, show (!true) = false from rfl, escutcheonlaw6_OnetimeTells.j0, if_neg (by decide), if_pos rfl]
    exact hK _ (by omega)
  | false =>
    obtain ⟨K, hK⟩ := tells_j1 (fillS key 32) b (by rw [fillS_size]; decide) (by omega)
    refine ⟨K + 200 + 1, ?_⟩
    unfold escutcheonlaw6_OnetimeTells.f
    rw [if_neg c1, if_neg c2, alive_k _ (by omega), Option.bind_some, show (!true) = false from rfl, escutcheonlaw6_OnetimeTells.j0, if_neg (by decide), if_neg (by decide), show (32 : Int) = ((32 : Nat) : Int) from rfl, fill_f key 32 (by decide) hs1 _ (by omega), Option.bind_some]
    exact hK _ (by omega)
end Go.Proofs.Ytagoibmemonkaaa.Pure
