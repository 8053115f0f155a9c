/- A hello whose first byte is turned is a hello just if that byte is 1; one that is cut, or longer, is none. For every user, byte and place. -/
import Derived.Test.YtbopadckbhocgaaPx4
import Derived.Test.YtbopadckbhocgaaHelloB
namespace Go.Proofs.Ytbopadckbhocgaa.Pure
open Go.RowKit Go.Proofs.Ytbopadckbhocgaa.P Go.Proofs.YtbopadckbhocgaaW.PrintWords Go.Proofs.YtbopadckbhocgaaW.PrintLast Go.Proofs.Ytbopadckbhocgaa.B

theorem alive1 : escutcheonlaw15_alive.f 1 = some true := by decide +kernel
theorem alive2 : escutcheonlaw15_alive.f 2 = some true := by decide +kernel
theorem getHello_no {b : ByteArray} (h : ¬ isHello b) : getHello b = ((⟨#[]⟩ : ByteArray), (⟨#[]⟩ : ByteArray), false) := by
  unfold getHello; rw [if_neg h]
theorem getHello_ok (b : ByteArray) : (getHello b).2.2 = decide (isHello b) := by
  unfold getHello; split <;> simp [*]

theorem HelloTurned : escutcheonlaw15_HelloTurned.Pure := by
  intro u kd cut hu hk hc
  have hk' : 0 ≤ kd ∧ kd ≤ 255 := wf_u8 hk
  refine ⟨2, ?_⟩
  unfold escutcheonlaw15_HelloTurned.f
  rw [putHello_f]
  simp only [Option.bind_some]
  have hn : (⟨#[48, 49, 50, 51, 52, 53, 54, 55, 56, 57, 97, 98, 99, 100, 101, 102]⟩ : ByteArray).size = 16 := rfl
  generalize (⟨#[48, 49, 50, 51, 52, 53, 54, 55, 56, 57, 97, 98, 99, 100, 101, 102]⟩ : ByteArray) = n at hn ⊢
  by_cases h : 1 ≤ u.size ∧ u.size ≤ 20
  · rw [if_pos (c := n.size = 16 ∧ _) ⟨hn, h⟩, if_pos rfl, alive2]
    simp only [Option.bind_some, escutcheonlaw15_HelloTurned.j0]
    obtain ⟨hb0, hb1⟩ := bt_putHello u n (by omega)
    have hsz := size_putHello u n
    have hb := isHello_put u n h hn
    generalize putHello u n = b at *
    have h1 : (strOfNums [kd]).size = 1 := size_nums _
    rw [if_neg (by simp), if_pos (by omega), if_pos (by rw [h1, size_ext]; omega), getHello_f _ _ (by rw [size_app, size_ext, h1]; omega)]
    simp only [Option.bind_some]
    have hpl := place (a := cut) (n := (b.size : Int)) (by omega) (by omega)
    generalize (wrap64 (cut.tmod (b.size : Int) + (b.size : Int))).tmod (b.size : Int) = p at *
    rw [if_neg (by omega), if_pos (by omega), if_pos (by omega), getHello_f _ _ (by rw [size_ext]; omega)]
    simp only [Option.bind_some]
    have hx : (⟨#[120]⟩ : ByteArray).size = 1 := rfl
    rw [if_pos (by omega), getHello_f _ _ (by rw [size_app]; omega)]
    simp only [Option.bind_some]
    -- the turned one
    have hts : (strOfNums [kd] ++ b.extract 1 b.size).size = b.size := by rw [size_app, h1, size_ext]; omega
    have ht0 : bt (strOfNums [kd] ++ b.extract 1 b.size) 0 = kd := by
      rw [bt_app_l _ _ _ (by rw [h1]; decide), bt_one _ hk']
    have ht1 : bt (strOfNums [kd] ++ b.extract 1 b.size) 1 = u.size := by
      rw [bt_app_r _ _ _ (by rw [h1]; decide), h1, bt_ext _ _ _ _ (by simp; omega)]
      exact hb1
    have hno : ¬ isHello (b.extract 0 p.toNat) := by
      intro hh
      unfold isHello at hh hb
      rw [size_ext] at hh
      have e : bt (b.extract 0 p.toNat) 1 = bt b 1 := bt_ext _ _ _ _ (by simp; omega)
      rw [e] at hh
      omega
    have hmore : ¬ isHello (b ++ (⟨#[120]⟩ : ByteArray)) := by
      intro hh
      unfold isHello at hh hb
      rw [size_app, hx, bt_app_l _ _ _ (by simp; omega), bt_app_l _ _ _ (by simp; omega)] at hh
      omega
    rw [getHello_no hno, getHello_no hmore, getHello_ok]
    have hif : isHello (strOfNums [kd] ++ b.extract 1 b.size) ↔ kd = 1 := by
      unfold isHello; rw [hts, ht0, ht1]; omega
    rw [if_pos (by rw [beq_iff_eq, Bool.eq_iff_iff]; simp [hif]), if_neg (by simp), if_neg (by simp), kind_f]
    simp only [Option.bind_some]
    have hkd : kind (strOfNums [kd] ++ b.extract 1 b.size) = if 1 ≤ kd ∧ kd ≤ 5 then kd else 0 := by
      unfold kind
      rw [hts, ht0]
      by_cases e : 1 ≤ kd ∧ kd ≤ 5
      · rw [if_pos (by omega), if_pos e]
      · rw [if_neg (by omega), if_neg e]
    rw [hkd, w64 (by omega) (by omega)]
    by_cases e1 : kd ≥ 1
    · rw [if_pos e1]
      by_cases e2 : kd ≤ 5
      · rw [if_pos e2, if_pos ⟨e1, e2⟩]; simp
      · rw [if_neg e2, if_neg (by omega)]
        have : ((0 : Int) == kd) = false := beq_eq_false_iff_ne.2 (by omega)
        have h2 : (kd == 0) = false := beq_eq_false_iff_ne.2 (by omega)
        rw [this, h2]; rfl
    · have : kd = 0 := by omega
      subst this; rfl
  · rw [if_neg (c := n.size = 16 ∧ _) (by omega), if_neg (by simp)]
    simp only [escutcheonlaw15_HelloTurned.j0]
    rw [if_pos trivial, alive1]; rfl
end Go.Proofs.Ytbopadckbhocgaa.Pure
