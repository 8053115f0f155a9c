/- Of the first half of a key the clamped bits alone count. -/
import Derived.Test.YtagoibmemonkaaaOnetimeB
import Derived.Test.YtagoibmemonkaaaPx14
namespace Go.Proofs.Ytagoibmemonkaaa.Pure
open Go.RowKit Go.Proofs.Ytagoibmemonkaaa.P Go.Proofs.YtagoibmemonkaaaW.PrintWords Go.Proofs.YtagoibmemonkaaaW.PrintLast Go.Proofs.YtagoibmemonkaaaW.PrintMore Go.Proofs.Ytagoibmemonkaaa.B
set_option linter.unusedVariables false
set_option linter.unusedSimpArgs false

theorem and_all : ∀ v : Fin 256, (0 ≤ Go.bits .and .u8 (v.val : Int) 15 ∧ Go.bits .and .u8 (v.val : Int) 15 ≤ 255 ∧ Go.bits .and .u8 (Go.bits .and .u8 (v.val : Int) 15) 15 = Go.bits .and .u8 (v.val : Int) 15)
    ∧ 0 ≤ Go.bits .and .u8 (v.val : Int) 252 ∧ Go.bits .and .u8 (v.val : Int) 252 ≤ 255 ∧ Go.bits .and .u8 (Go.bits .and .u8 (v.val : Int) 252) 252 = Go.bits .and .u8 (v.val : Int) 252 := by decide +kernel
theorem cB_twice (i : Nat) (v : Int) (h : 0 ≤ v ∧ v ≤ 255) : (0 ≤ onetime_Clamp.cB i v ∧ onetime_Clamp.cB i v ≤ 255) ∧ onetime_Clamp.cB i (onetime_Clamp.cB i v) = onetime_Clamp.cB i v := by
  obtain ⟨n, rfl⟩ := Int.eq_ofNat_of_zero_le h.1
  have hn : n < 256 := by omega
  have ha := and_all ⟨n, hn⟩
  unfold onetime_Clamp.cB
  split
  · exact ⟨⟨ha.1.1, ha.1.2.1⟩, ha.1.2.2⟩
  · split
    · exact ⟨⟨ha.2.1, ha.2.2.1⟩, ha.2.2.2⟩
    · exact ⟨⟨by omega, by omega⟩, rfl⟩
theorem rOf_twice (key t : ByteArray) : rOf (rOf key ++ t) = rOf key := by
  show strOfNums (onetime_Clamp.out (rOf key ++ t)) = strOfNums (onetime_Clamp.out key)
  congr 1
  unfold onetime_Clamp.out
  apply List.map_congr_left
  intro i hi
  have hi := List.mem_range.1 hi
  rw [bt_app_l _ _ _ (by rw [rOf_size]; simpa using hi)]
  have hb : bt (rOf key) (i : Int) = onetime_Clamp.cB i (bt key (i : Int)) := by
    unfold rOf
    rw [bt_nums _ _ (fun x hx => by
      unfold onetime_Clamp.out at hx
      obtain ⟨j, _, rfl⟩ := List.mem_map.1 hx
      exact (cB_twice j _ (btL_range key _)).1)]
    exact onetime_Clamp.getD_out key i hi
  rw [hb]
  exact (cB_twice i _ (btL_range key _)).2
theorem OnetimeClamped : escutcheonlaw6_OnetimeClamped.Pure := by
  intro key b hs hb
  refine ⟨200, ?_⟩
  unfold escutcheonlaw6_OnetimeClamped.f
  have out : escutcheonlaw6_OnetimeClamped.j0 200 key b true = some true := by
    rw [escutcheonlaw6_OnetimeClamped.j0, if_pos rfl, alive_k _ (by omega)]; rfl
  by_cases c1 : (b.size : Int) > 300
  · rw [if_pos c1]; exact out
  rw [if_neg c1, alive_k _ (by omega), Option.bind_some]
  rw [show (!true) = false from rfl, escutcheonlaw6_OnetimeClamped.j0, if_neg (by decide), show (32 : Int) = ((32 : Nat) : Int) from rfl, fill_f key 32 (by decide) hs _ (by omega), Option.bind_some]
  generalize hK : fillS key 32 = K
  have hks : K.size = 32 := by rw [← hK, fillS_size]
  rw [clamp_f K hks, Option.bind_some, if_pos rfl]
  simp only
  rw [show (((rOf K).size : Int) != 16) = false by rw [rOf_size]; rfl, escutcheonlaw6_OnetimeClamped.j1, if_neg (by decide), tag_f K b hks (by omega) _ (by omega), Option.bind_some, if_pos (by omega)]
  have he : (K.extract 16 K.size).size = 16 := by rw [size_ext]; omega
  rw [if_pos (by rw [rOf_size, he]; omega)]
  have hs2 : (rOf K ++ K.extract 16 K.size).size = 32 := by rw [size_app, rOf_size, he]
  rw [tag_f _ b hs2 (by omega) _ (by omega), Option.bind_some, clamp_f _ hs2, Option.bind_some, if_pos rfl, if_pos rfl]
  have hx : ∀ i j : Nat, 16 ≤ i → j ≤ 32 → (rOf K ++ K.extract 16 K.size).extract i j = K.extract i j := by
    intro i j hi hj
    apply L_ext
    rw [L_ext_, L_ext_, L_app, L_ext_, hks]
    have hl : (L (rOf K)).length = 16 := by rw [L_len, rOf_size]
    have hl2 : (L K).length = 32 := by rw [L_len, hks]
    apply List.ext_getElem?
    intro m
    rw [List.getElem?_drop, List.getElem?_drop, List.getElem?_take, List.getElem?_take]
    by_cases h : i + m < j
    · rw [if_pos h, if_pos h, List.getElem?_append_right (by omega), hl, List.getElem?_drop, List.getElem?_take, if_pos (by omega), show 16 + (i + m - 16) = i + m by omega]
    · rw [if_neg h, if_neg h]
  have ht : tagP (rOf K ++ K.extract 16 K.size) b = tagP K b := by
    unfold tagP
    rw [rOf_twice, hx 16 24 (by decide) (by decide), hx 24 32 (by decide) (by decide)]
  rw [ht, if_pos rfl, if_pos rfl, rOf_twice]
  simp
end Go.Proofs.Ytagoibmemonkaaa.Pure
