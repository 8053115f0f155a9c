/- Keys and bytes that are all ones, or nearly: the document's tag. -/
import Derived.Test.YtagoibmemonkaaaOnetimeW
import Derived.Test.YtagoibmemonkaaaPx11
namespace Go.Proofs.Ytagoibmemonkaaa.Pure
open Go.RowKit Go.Proofs.Ytagoibmemonkaaa.P Go.Proofs.YtagoibmemonkaaaW.PrintWords Go.Proofs.YtagoibmemonkaaaW.PrintLast Go.Proofs.YtagoibmemonkaaaW.PrintMore Go.Proofs.Ytagoibmemonkaaa.B
set_option linter.unusedVariables false
set_option linter.unusedSimpArgs false

theorem set_ones (n i : Nat) (h : i < n) : (List.replicate i (255 : Int) ++ List.replicate (n - i) 0).set i 255 = List.replicate (i + 1) 255 ++ List.replicate (n - (i + 1)) 0 := by
  rw [List.set_append_right i _ (by rw [List.length_replicate]; exact Nat.le_refl _), List.length_replicate, Nat.sub_self, show n - i = (n - (i + 1)) + 1 by omega, List.replicate_succ, List.set_cons_zero, List.replicate_succ', List.append_assoc]
  rfl
theorem same_tag (key b : ByteArray) (hk : key.size = 32) (hb : b.size ≤ 1600) : ∃ K, ∀ k, K ≤ k → ((onetime_Tag.f k key b).bind fun x => if x.2 = true then (escutcheonref1_Tag.f k key b).bind fun t => some (x.1.toList == t.toList) else none) = some true := by
  obtain ⟨K, hK⟩ := ref_tag key b hk hb
  refine ⟨K + 200, fun k h => ?_⟩
  rw [tag_f key b hk hb k (by omega), Option.bind_some, if_pos rfl, hK k (by omega), Option.bind_some]
  simp
theorem edges_l1 (at_ : Int) (n : Nat) (hn : n ≤ 200) (d : Int) (key : List Int) (hk : key.length = 32) : ∀ (m i : Nat), m = n - i → i ≤ n → ∃ K, ∀ k, K ≤ k → escutcheonlaw6_OnetimeEdges.l1 k at_ (n : Int) d key (List.replicate i 255 ++ List.replicate (n - i) 0) (i : Int) = some true
  | 0, i, hm, hi => by
    obtain rfl : i = n := by omega
    have hks : (strOfNums key).size = 32 := by rw [size_nums]; exact hk
    rw [Nat.sub_self, List.replicate_zero, List.append_nil]
    by_cases h0 : 0 < i
    · have hp := place (a := at_) (n := (i : Int)) (by omega) (by omega)
      obtain ⟨p, hpp⟩ : ∃ p, Int.tmod (wrap64 (Int.tmod at_ (i : Int) + (i : Int))) (i : Int) = p := ⟨_, rfl⟩
      rw [hpp] at hp
      obtain ⟨K, hK⟩ := same_tag (strOfNums key) (strOfNums ((List.replicate i (255 : Int)).set p.toNat d)) hks (by rw [size_nums, List.length_set, List.length_replicate]; omega)
      refine ⟨K + 1, fun k h => ?_⟩
      obtain ⟨k, rfl⟩ : ∃ j, k = j + 1 := ⟨k - 1, by omega⟩
      rw [escutcheonlaw6_OnetimeEdges.l1, if_neg (by omega), if_pos (by omega), if_neg (by omega), hpp, if_pos hp.1, if_pos (by rw [List.length_replicate]; exact hp.2), Option.bind_some]
      exact hK k (by omega)
    · obtain rfl : i = 0 := by omega
      obtain ⟨K, hK⟩ := same_tag (strOfNums key) (strOfNums (List.replicate 0 (255 : Int))) hks (by rw [size_nums, List.length_replicate]; omega)
      refine ⟨K + 1, fun k h => ?_⟩
      obtain ⟨k, rfl⟩ : ∃ j, k = j + 1 := ⟨k - 1, by omega⟩
      rw [escutcheonlaw6_OnetimeEdges.l1, if_neg (by omega), if_neg (by omega)]
      exact hK k (by omega)
  | m + 1, i, hm, hi => by
    obtain ⟨K, hK⟩ := edges_l1 at_ n hn d key hk m (i + 1) (by omega) (by omega)
    refine ⟨K + 1, fun k h => ?_⟩
    obtain ⟨k, rfl⟩ : ∃ j, k = j + 1 := ⟨k - 1, by omega⟩
    rw [escutcheonlaw6_OnetimeEdges.l1, if_pos (by omega), if_pos (by omega), if_pos (by rw [List.length_append, List.length_replicate, List.length_replicate]; omega), Int.toNat_natCast, set_ones n i (by omega), w64 (by omega) (by omega), show (i : Int) + 1 = ((i + 1 : Nat) : Int) by omega]
    exact hK k (by omega)
theorem edges_l0 (at_ : Int) (n : Nat) (hn : n ≤ 200) (c d : Int) : ∀ (m i : Nat), m = 32 - i → i ≤ 32 → ∃ K, ∀ k, K ≤ k → escutcheonlaw6_OnetimeEdges.l0 k at_ (n : Int) c d (List.replicate i 255 ++ List.replicate (32 - i) 0) (i : Int) = some true
  | 0, i, hm, hi => by
    obtain rfl : i = 32 := by omega
    rw [Nat.sub_self, List.replicate_zero, List.append_nil]
    have hp := place (a := at_) (n := 32) (by omega) (by omega)
    obtain ⟨p, hpp⟩ : ∃ p, Int.tmod (wrap64 (Int.tmod at_ 32 + 32)) 32 = p := ⟨_, rfl⟩
    rw [hpp] at hp
    obtain ⟨K, hK⟩ := edges_l1 at_ n hn d ((List.replicate 32 (255 : Int)).set p.toNat c) (by rw [List.length_set, List.length_replicate]) n 0 rfl (by omega)
    rw [List.replicate_zero, List.nil_append, Nat.sub_zero, show ((0 : Nat) : Int) = 0 from rfl] at hK
    refine ⟨K + 1, fun k h => ?_⟩
    obtain ⟨k, rfl⟩ : ∃ j, k = j + 1 := ⟨k - 1, by omega⟩
    rw [escutcheonlaw6_OnetimeEdges.l0, if_neg (by omega), hpp, if_pos hp.1, if_pos (by rw [List.length_replicate]; exact hp.2), if_pos (by omega), Int.toNat_natCast, if_pos (by omega)]
    exact hK k (by omega)
  | m + 1, i, hm, hi => by
    obtain ⟨K, hK⟩ := edges_l0 at_ n hn c d m (i + 1) (by omega) (by omega)
    refine ⟨K + 1, fun k h => ?_⟩
    obtain ⟨k, rfl⟩ : ∃ j, k = j + 1 := ⟨k - 1, by omega⟩
    rw [escutcheonlaw6_OnetimeEdges.l0, if_pos (by omega), if_pos (by omega), if_pos (by rw [List.length_append, List.length_replicate, List.length_replicate]; omega), Int.toNat_natCast, set_ones 32 i (by omega), w64 (by omega) (by omega), show (i : Int) + 1 = ((i + 1 : Nat) : Int) by omega]
    exact hK k (by omega)
theorem OnetimeEdges : escutcheonlaw6_OnetimeEdges.Pure := by
  intro at_ n c d h1 h2 h3 h4
  have out : ∀ k, 200 ≤ k → escutcheonlaw6_OnetimeEdges.j0 k at_ n c d true = some true := by
    intro k h
    obtain ⟨k, rfl⟩ : ∃ j, k = j + 1 := ⟨k - 1, by omega⟩
    rw [escutcheonlaw6_OnetimeEdges.j0, if_pos rfl, alive_k _ (by omega)]; rfl
  by_cases c1 : n < 0
  · refine ⟨200, ?_⟩
    unfold escutcheonlaw6_OnetimeEdges.f
    rw [if_pos c1]; exact out _ (by omega)
  by_cases c2 : n > 200
  · refine ⟨200, ?_⟩
    unfold escutcheonlaw6_OnetimeEdges.f
    rw [if_neg c1, if_pos c2]; exact out _ (by omega)
  obtain ⟨n, rfl⟩ := Int.eq_ofNat_of_zero_le (show 0 ≤ n by omega)
  obtain ⟨K, hK⟩ := edges_l0 at_ n (by omega) c d 32 0 rfl (by decide)
  rw [List.replicate_zero, List.nil_append, Nat.sub_zero, show ((0 : Nat) : Int) = 0 from rfl] at hK
  refine ⟨K + 200 + 1, ?_⟩
  unfold escutcheonlaw6_OnetimeEdges.f
  rw [if_neg c1, if_neg c2, alive_k _ (by omega), Option.bind_some, show (!true) = false from rfl, escutcheonlaw6_OnetimeEdges.j0, if_neg (by decide), if_pos (by decide)]
  exact hK _ (by omega)
end Go.Proofs.Ytagoibmemonkaaa.Pure
