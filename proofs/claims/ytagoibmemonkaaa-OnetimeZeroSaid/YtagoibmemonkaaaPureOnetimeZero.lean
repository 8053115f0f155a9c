/- Under a key whose first half is zeros every tag is its second half; no bytes have that tag under each key. -/
import Derived.Test.YtagoibmemonkaaaOnetimeB
import Derived.Test.YtagoibmemonkaaaPx12
namespace Go.Proofs.Ytagoibmemonkaaa.Pure
open Go.RowKit Go.Proofs.Ytagoibmemonkaaa.P Go.Proofs.YtagoibmemonkaaaW.PrintWords Go.Proofs.YtagoibmemonkaaaW.PrintLast Go.Proofs.YtagoibmemonkaaaW.PrintMore Go.Proofs.Ytagoibmemonkaaa.B
set_option linter.unusedVariables false
set_option linter.unusedSimpArgs false

theorem big_num (l : List UInt8) : B.bytesOf (bigL (num l) l.length) = l := by
  refine snoc_ind (motive := fun l => B.bytesOf (bigL (num l) l.length) = l) rfl ?_ l
  intro l c ih
  have hc : (c.toNat : Int) < 256 := by have := UInt8.toNat_lt c; omega
  have h0 := (num_bd l).1
  rw [List.length_append, List.length_singleton, num_snoc, bigL_succ _ (by omega)]
  rw [show (num l * 256 + (c.toNat : Int)) / 256 = num l by omega, show (num l * 256 + (c.toNat : Int)) % 256 = (c.toNat : Int) by omega]
  unfold B.bytesOf at ih ⊢
  rw [List.map_append, ih]
  simp
theorem little_le (s : ByteArray) (h : s.size = 8) : strOfNums (littleL (le s) 8) = s := by
  apply L_ext
  have hl : ((L s).take 8).reverse.length = 8 := by rw [List.length_reverse, List.length_take, L_len]; omega
  have := big_num ((L s).take 8).reverse
  rw [hl] at this
  rw [L_little, show le s = num ((L s).take 8).reverse from rfl, this, List.reverse_reverse, List.take_of_length_le (by rw [L_len]; omega)]
def Z : List Int := List.replicate 5 0
theorem Z_get (i : Nat) : Z.getD i 0 = 0 := by
  unfold Z
  rw [List.getD_eq_getElem?_getD, List.getElem?_replicate]
  split <;> rfl
theorem Z_set (i : Nat) : Z.set i 0 = Z := by
  apply List.ext_getElem?
  intro m
  rw [List.getElem?_set]
  unfold Z
  by_cases h : i = m
  · rw [if_pos h, List.getElem?_replicate, List.length_replicate]
    subst h
    split <;> rfl
  · rw [if_neg h]
theorem step_Z (x : List Int) (i j : Nat) : onetime_number_times.step x Z i j Z = Z := by
  unfold onetime_number_times.step
  rw [Z_get, Z_get, Z_get, Int.mul_zero]
  have : IntKind.u64.wrap (0 + if j ≤ i then IntKind.u64.wrap 0 else IntKind.u64.wrap (IntKind.u64.wrap 0 * 5)) = 0 := by split <;> rfl
  rw [this, Z_set]
theorem inner_Z (x : List Int) (i : Nat) : ∀ n j, onetime_number_times.inner x Z i n j Z = Z
  | 0, _ => rfl
  | n + 1, j => by rw [onetime_number_times.inner, step_Z, inner_Z x i n]
theorem outer_Z (x : List Int) : ∀ n i, onetime_number_times.outer x Z n i Z = Z
  | 0, _ => rfl
  | n + 1, i => by rw [onetime_number_times.outer, inner_Z, outer_Z x n]
theorem carry_Z : onetime_number_carry.f Z = Z := by decide +kernel
theorem times_Z (x : List Int) : onetime_number_times.f x Z = Z := by
  unfold onetime_number_times.f
  rw [show (List.replicate 5 0 : List Int) = Z from rfl, outer_Z, carry_Z]
theorem goP_Z : ∀ n b, goP Z n b Z = Z
  | 0, _ => rfl
  | n + 1, b => by
    rw [goP]
    split
    · rfl
    · rw [times_Z, goP_Z n]
theorem whole_Z : onetime_number_whole.f Z = Z := by decide +kernel
theorem fin_Z (h : ByteArray) (hs : h.size = 16) : finP Z (le (h.extract 0 8)) (le (h.extract 8 16)) = h := by
  unfold finP
  rw [show onetime_Tag.low Z = 0 by decide +kernel, show onetime_Tag.high Z = 0 by decide +kernel, Int.zero_add, Int.zero_add]
  have h1 := le_bd (h.extract 0 8)
  have h2 := le_bd (h.extract 8 16)
  rw [show le (h.extract 0 8) / 18446744073709551616 = 0 by omega, Int.add_zero, show le (h.extract 0 8) % 18446744073709551616 = le (h.extract 0 8) by omega, show le (h.extract 8 16) % 18446744073709551616 = le (h.extract 8 16) by omega]
  rw [little_le _ (by rw [size_ext]; omega), little_le _ (by rw [size_ext]; omega)]
  apply L_ext
  rw [L_app, L_ext_, L_ext_, List.drop_zero, List.take_of_length_le (i := 16) (by rw [L_len]; omega), List.take_append_drop]
theorem ext_ext (s : ByteArray) (hs : s.size = 32) (i j : Nat) (hj : j ≤ 16) : s.extract (16 + i) (16 + j) = (s.extract 16 32).extract i j := by
  apply L_ext
  rw [L_ext_, L_ext_, L_ext_]
  have hl : (L s).length = 32 := by rw [L_len, hs]
  apply List.ext_getElem?
  intro m
  rw [List.getElem?_drop, List.getElem?_drop, List.getElem?_take, List.getElem?_take]
  by_cases h : i + m < j
  · rw [if_pos (by omega), if_pos h, List.getElem?_drop, List.getElem?_take, if_pos (by omega), Nat.add_assoc]
  · rw [if_neg (by omega), if_neg h]
theorem tag_half (key b : ByteArray) (hk : key.size = 32) (h : sumP (rOf key) b = Z) : tagP key b = key.extract 16 32 := by
  unfold tagP
  rw [h, show (16 : Nat) = 16 + 0 from rfl, show (24 : Nat) = 16 + 8 from rfl, show (32 : Nat) = 16 + 16 from rfl, ext_ext key hk 0 8 (by decide), ext_ext key hk 8 16 (by decide)]
  exact fin_Z _ (by rw [size_ext]; omega)
theorem rOf_zeros (t : ByteArray) : rOf (strOfNums (List.replicate 16 0) ++ t) = strOfNums (List.replicate 16 0) := by
  show strOfNums (onetime_Clamp.out _) = _
  congr 1
  rw [show (List.replicate 16 0 : List Int) = (List.range 16).map (fun i => onetime_Clamp.cB i 0) by decide +kernel]
  unfold onetime_Clamp.out
  apply List.map_congr_left
  intro i hi
  have hi := List.mem_range.1 hi
  rw [bt_app_l _ _ _ (by rw [size_nums, List.length_map, List.length_range]; simpa using hi)]
  rw [show (List.range 16).map (fun i => onetime_Clamp.cB i 0) = (List.replicate 16 0 : List Int) by decide +kernel]
  rw [bt_nums _ _ (fun x hx => by rw [List.eq_of_mem_replicate hx]; omega)]
  rw [List.getD_eq_getElem?_getD, List.getElem?_replicate, if_pos (by simpa using hi)]
  rfl
theorem sum_zeros (t b : ByteArray) : sumP (rOf (strOfNums (List.replicate 16 0) ++ t)) b = Z := by
  unfold sumP
  rw [rOf_zeros, show yOf (strOfNums (List.replicate 16 0)) = Z by decide +kernel, show (List.replicate 5 0 : List Int) = Z from rfl, goP_Z, whole_Z]
theorem sum_none (r : ByteArray) : sumP r (⟨#[]⟩ : ByteArray) = Z := by
  unfold sumP
  rw [goP, if_pos (show (⟨#[]⟩ : ByteArray).size = 0 from rfl)]
  exact whole_Z
theorem OnetimeZero : escutcheonlaw6_OnetimeZero.Pure := by
  intro half key b hs1 hs2 hb
  refine ⟨200, ?_⟩
  unfold escutcheonlaw6_OnetimeZero.f
  have out : escutcheonlaw6_OnetimeZero.j0 200 half key b true = some true := by
    rw [escutcheonlaw6_OnetimeZero.j0, if_pos rfl, alive_k _ (by omega)]; rfl
  by_cases c1 : (b.size : Int) > 300
  · rw [if_pos c1]; exact out
  rw [if_neg c1, alive_k _ (by omega), Option.bind_some]
  rw [show (!true) = false from rfl, escutcheonlaw6_OnetimeZero.j0, if_neg (by decide)]
  rw [show (16 : Int) = ((16 : Nat) : Int) from rfl, show (32 : Int) = ((32 : Nat) : Int) from rfl, fill_f half 16 (by decide) hs1 _ (by omega), Option.bind_some, fill_f key 32 (by decide) hs2 _ (by omega), Option.bind_some, if_pos (by decide), Option.bind_some]
  generalize hH : fillS half 16 = H
  generalize hK : fillS key 32 = K
  have hhs : H.size = 16 := by rw [← hH, fillS_size]
  have hks : K.size = 32 := by rw [← hK, fillS_size]
  have hz : (strOfNums (List.replicate 16 0)).size = 16 := by rw [size_nums]; rfl
  rw [if_pos (by rw [hz, hhs]; omega)]
  have h2 : (strOfNums (List.replicate 16 0) ++ H).size = 32 := by rw [size_app, hz, hhs]
  rw [tag_f _ b h2 (by omega) _ (by omega), Option.bind_some, tag_f K _ hks (by decide) _ (by omega), Option.bind_some, if_pos rfl]
  have e1 : tagP (strOfNums (List.replicate 16 0) ++ H) b = H := by
    rw [tag_half _ _ h2 (sum_zeros H b)]
    have := ext_app_r (strOfNums (List.replicate 16 0)) H 32 (by rw [hz, hhs]; omega)
    rwa [hz] at this
  have e2 : tagP K (⟨#[]⟩ : ByteArray) = K.extract 16 32 := tag_half K _ hks (sum_none _)
  simp only [e1, e2]
  rw [if_pos trivial, if_pos trivial, if_pos (by omega), hks]
  simp
end Go.Proofs.Ytagoibmemonkaaa.Pure
