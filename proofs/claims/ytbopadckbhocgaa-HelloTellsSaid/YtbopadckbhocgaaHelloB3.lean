/- What the reference's letters come to, and that they are hello's. -/
import Derived.Test.YtbopadckbhocgaaHelloB2
import Derived.Test.YtbopadckbhocgaaPx5
import Derived.Test.YtbopadckbhocgaaPx6
import Derived.Test.YtbopadckbhocgaaPx7
namespace Go.Proofs.Ytbopadckbhocgaa.B
open Go.RowKit Go.Proofs.Ytbopadckbhocgaa.P Go.Proofs.YtbopadckbhocgaaW.PrintWords Go.Proofs.YtbopadckbhocgaaW.PrintLast
set_option linter.unusedVariables false
set_option linter.unusedSimpArgs false

theorem nums_two (x y : Int) : strOfNums [x, y] = strOfNums [x] ++ strOfNums [y] := by
  apply L_ext; rw [L_app, L_nums, L_nums, L_nums]; rfl
theorem app_assoc (a b c : ByteArray) : (a ++ b) ++ c = a ++ (b ++ c) := by
  apply L_ext; simp only [L_app, List.append_assoc]
theorem refHello_f (u n : ByteArray) : escutcheonref14_Hello.f u n = hello_PutHello.f u n := by
  rw [putHello_f]
  unfold escutcheonref14_Hello.f putHello
  by_cases h1 : n.size = 16
  · rw [if_pos (by omega)]
    by_cases h2 : u.size < 1
    · rw [if_pos (by omega), if_neg (by omega)]
    · rw [if_neg (by omega)]
      by_cases h3 : 20 < u.size
      · rw [if_pos (by omega), if_neg (by omega)]
      · rw [if_neg (by omega), if_pos (by omega)]
        have hs : ((u.size : Int)) % 256 = (u.size : Int) := by omega
        rw [hs]
        simp only [Option.bind_some, size_nums, size_app, List.length_cons, List.length_nil]
        rw [if_pos (by omega), if_pos (by omega)]
        unfold escutcheonref14_letter.f
        have h1' : (1 : Int) % 256 = 1 := rfl
        rw [h1']
        simp only [Option.bind_some, size_nums, size_app, List.length_cons, List.length_nil]
        rw [if_pos (by omega)]
        simp only [Option.bind_some]
        rw [nums_two, app_assoc, app_assoc, app_assoc]
  · rw [if_neg (by omega), if_neg (by omega)]
theorem fixed_f (k n : Int) (b : ByteArray) (hn : 0 ≤ n ∧ n ≤ 1000) (hk : 1 ≤ k ∧ k ≤ 5) : escutcheonref14_Fixed.f k n b = some (getOf k b n n) := by
  unfold escutcheonref14_Fixed.f getOf kind
  have r0 := bt_range b 0
  rw [w64 (by omega) (by omega), w64 (by omega) (by omega)]
  by_cases h : (b.size : Int) = 1 + n
  · rw [if_pos h, if_pos (by omega)]
    by_cases e : bt b 0 = k
    · rw [if_pos e, if_pos (by omega), if_pos (by rw [if_pos (by omega)]; omega)]
    · rw [if_neg e, if_neg]
      intro hh
      split at hh <;> omega
  · rw [if_neg h, if_neg (by omega)]
theorem put_of_parts (b : ByteArray) (h2 : 18 ≤ b.size) (h1 : bt b 1 = (b.size : Int) - 18) (h0 : bt b 0 = 1) : putHello (b.extract 2 (b.size - 16)) (b.extract (b.size - 16) b.size) = b := by
  unfold putHello
  rw [size_ext, app_assoc]
  have e1 : b.extract 2 (b.size - 16) ++ b.extract (b.size - 16) b.size = b.extract 2 b.size := by
    apply L_ext
    rw [L_app, L_ext_, L_ext_, L_ext_]
    have hl := L_len b
    rw [← hl, List.take_length]
    have : (List.take ((L b).length - 16) (L b)).drop 2 ++ (L b).drop ((L b).length - 16) = ((List.take ((L b).length - 16) (L b)) ++ (L b).drop ((L b).length - 16)).drop 2 := by
      rw [List.drop_append_of_le_length (by rw [List.length_take]; omega)]
    rw [this, List.take_append_drop]
  rw [e1]
  have hsz : (strOfNums [1, ((min (b.size - 16) b.size - 2 : Nat) : Int)]).size = 2 := size_nums _
  have r1 := bt_range b 1
  have hr : ∀ x ∈ [1, ((min (b.size - 16) b.size - 2 : Nat) : Int)], 0 ≤ x ∧ x ≤ 255 := by
    intro x hx; simp at hx; omega
  apply eq_of_bt
  · rw [size_app, hsz, size_ext]; omega
  · intro i hi
    rw [size_app, hsz, size_ext] at hi
    by_cases hi2 : i < 2
    · rw [bt_app_l _ _ _ (by rw [hsz]; omega), bt_nums _ _ hr]
      have : i = 0 ∨ i = 1 := by omega
      rcases this with rfl | rfl
      · exact h0.symm
      · simp only [Int.toNat_natCast, List.getD_cons_succ, List.getD_cons_zero]
        have : bt b ((1 : Nat) : Int) = bt b 1 := rfl
        rw [this]; omega
    · rw [bt_app_r _ _ _ (by rw [hsz]; omega), hsz, bt_ext _ _ _ _ (by omega)]
      congr 1
      omega
theorem refGetHello_f (k : Nat) (b : ByteArray) (hb : b.size ≤ 3000) : escutcheonref14_GetHello.f (k + 1) b = some (getHello b) := by
  unfold escutcheonref14_GetHello.f getHello
  simp only [escutcheonref14_GetHello.j0]
  have r0 := bt_range b 0
  have r1 := bt_range b 1
  rw [w64 (n := bt b 1) (by omega) (by omega), w64 (n := 18 + bt b 1) (by omega) (by omega), w64 (by omega) (by omega)]
  by_cases h2 : b.size < 2
  · rw [if_pos (by omega), if_pos trivial, if_neg (fun h => by unfold isHello at h; omega)]
  · rw [if_neg (by omega), if_pos (by omega)]
    by_cases hs : (b.size : Int) = 18 + bt b 1
    · rw [if_neg (by simp [hs]), if_pos (by omega), if_pos (by omega), if_pos (by omega), refHello_f, putHello_f]
      simp only [Option.bind_some]
      have hN : ((b.size : Int) - 16).toNat = b.size - 16 := by omega
      have hN2 : (2 + bt b 1).toNat = b.size - 16 := by omega
      rw [hN, hN2]
      simp only [size_ext]
      by_cases hu : 1 ≤ bt b 1 ∧ bt b 1 ≤ 20
      · rw [if_pos (c := min b.size b.size - _ = 16 ∧ _) (by omega), if_pos rfl]
        by_cases h0 : bt b 0 = 1
        · rw [put_of_parts b (by omega) (by omega) h0, if_pos rfl, if_pos (show isHello b by unfold isHello; omega)]
        · rw [if_neg, if_neg (fun h : isHello b => by unfold isHello at h; omega)]
          intro h
          rw [toList_inj] at h
          have := (bt_putHello (b.extract 2 (b.size - 16)) (b.extract (b.size - 16) b.size) (by rw [size_ext]; omega)).1
          simp only [] at h
          rw [h] at this
          exact h0 this
      · rw [if_neg (c := min b.size b.size - _ = 16 ∧ _) (by omega), if_neg (by simp), if_neg (fun h : isHello b => by unfold isHello at h; omega)]
    · rw [if_pos (by simpa using hs), if_neg (fun h => by unfold isHello at h; omega)]
end Go.Proofs.Ytbopadckbhocgaa.B
