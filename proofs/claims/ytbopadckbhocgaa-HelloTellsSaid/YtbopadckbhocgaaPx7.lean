-- Written by wip/inj.py (the kit's print, with contracts typed by hand beside it).
import Derived.Test.YtbopadckbhocgaaPx0
namespace Go.Proofs.Ytbopadckbhocgaa.P
open Go.RowKit Go.Proofs.YtbopadckbhocgaaW.PrintWords Go.Proofs.YtbopadckbhocgaaW.PrintLast Go.Proofs.YtbopadckbhocgaaW.PrintMore
attribute [local go_sem] max2_int min2_int max_two min_two max_three min_three max_four min_four   -- for this text's walks alone
set_option linter.unusedVariables false
set_option linter.unusedSimpArgs false

/-! ### escutcheonref14_Fixed: function 22 -/
def escutcheonref14_Fixed.f (a0 : Int) (a1 : Int) (a2 : ByteArray) : Option (ByteArray × Bool) := if (a2.size : Int) = (wrap64 (1 + a1)) then (if 0 < (a2.size : Int) then (if (wrap64 (bt a2 0)) = a0 then (if 1 ≤ (a2.size : Int) then (some (a2.extract 1 a2.size, true)) else (none)) else (some ((⟨#[]⟩ : ByteArray), false))) else (none)) else (some ((⟨#[]⟩ : ByteArray), false))
set_option maxHeartbeats 8000000 in
set_option maxRecDepth 100000 in
theorem escutcheonref14_Fixed.calls (a0 : Int) (a1 : Int) (a2 : ByteArray) (r1 : ByteArray) (r2 : Bool) (w : World) (h : escutcheonref14_Fixed.f a0 a1 a2 = some (r1, r2)) :
    Calls Try.prog 22 #[.int .i64 a0, .int .i64 a1, .string a2] w fun e w' => e = .returned (.tuple #[.string r1, .bool r2]) ∧ Drawn0 w w' := by
  have H : (if (a2.size : Int) = (wrap64 (1 + a1)) then (if 0 < (a2.size : Int) then (if (wrap64 (bt a2 0)) = a0 then (if 1 ≤ (a2.size : Int) then (some (a2.extract 1 a2.size, true)) else (none)) else (some ((⟨#[]⟩ : ByteArray), false))) else (none)) else (some ((⟨#[]⟩ : ByteArray), false))) = some (r1, r2) := h
  clear h
  by_cases c4 : (a2.size : Int) = (wrap64 (1 + a1))
  · rw [if_pos c4] at H
    have c4b0 : ((a2.size : Int) == (wrap64 (1 + a1))) = true := beq_iff_eq.mpr c4
    have c4b1 : ((a2.size : Int) != (wrap64 (1 + a1))) = false := bne_eq_false_iff_eq.mpr c4
    clear c4
    by_cases c5 : 0 < (a2.size : Int)
    · rw [if_pos c5] at H
      have c5b0 : decide (0 < (a2.size : Int)) = true := decide_eq_true c5
      have c5b1 : decide (0 < a2.size) = true := decide_eq_true (by omega)
      clear c5
      by_cases c7 : (wrap64 (bt a2 0)) = a0
      · rw [if_pos c7] at H
        have c7b0 : ((wrap64 (bt a2 0)) == a0) = true := beq_iff_eq.mpr c7
        have c7b1 : ((wrap64 (bt a2 0)) != a0) = false := bne_eq_false_iff_eq.mpr c7
        clear c7
        by_cases c8 : 1 ≤ (a2.size : Int)
        · rw [if_pos c8] at H
          have c8b0 := eq_true c8
          have c8b1 : decide (1 ≤ (a2.size : Int)) = true := decide_eq_true c8
          clear c8
          simp only [Option.some.injEq, Prod.mk.injEq] at H
          obtain ⟨rfl, rfl⟩ := H
          have p6 : 0 ≤ (0 : Int) := (by omega)
          have q6 : 0 < a2.size := (by have : (0 : Int) < (a2.size : Int) := of_decide_eq_true (by first | (with_reducible assumption) | assumption); omega)
          have hx6 : ∀ h : 0 < a2.size, ((a2[0]'h).toNat : Int) = bt a2 0 := bt_at a2 0
          clear p6
          have qi6 : (0 < (a2.size : Int)) = True := eq_true (of_decide_eq_true (by first | (with_reducible assumption) | assumption))
          replace q6 := eq_true q6
          go_enter Try.func22, Try.ntmps22
          go_wp2
          go_ret2
          exact ⟨by first | rfl | (simp; done) | (simp [*]; done), by repeat (first | exact Drawn0.refl _ | apply Drawn0.step)⟩
        · rw [if_neg c8] at H
          exact absurd H (by simp)
      · rw [if_neg c7] at H
        have c7b0 : ((wrap64 (bt a2 0)) == a0) = false := beq_eq_false_iff_ne.mpr c7
        have c7b1 : ((wrap64 (bt a2 0)) != a0) = true := bne_iff_ne.mpr c7
        simp only [Option.some.injEq, Prod.mk.injEq] at H
        obtain ⟨rfl, rfl⟩ := H
        have p6 : 0 ≤ (0 : Int) := (by omega)
        have q6 : 0 < a2.size := (by have : (0 : Int) < (a2.size : Int) := of_decide_eq_true (by first | (with_reducible assumption) | assumption); omega)
        have hx6 : ∀ h : 0 < a2.size, ((a2[0]'h).toNat : Int) = bt a2 0 := bt_at a2 0
        clear p6
        have qi6 : (0 < (a2.size : Int)) = True := eq_true (of_decide_eq_true (by first | (with_reducible assumption) | assumption))
        replace q6 := eq_true q6
        go_enter Try.func22, Try.ntmps22
        go_wp2
        go_ret2
        exact ⟨by first | rfl | (simp; done) | (simp [*]; done), by repeat (first | exact Drawn0.refl _ | apply Drawn0.step)⟩
    · rw [if_neg c5] at H
      exact absurd H (by simp)
  · rw [if_neg c4] at H
    have c4b0 : ((a2.size : Int) == (wrap64 (1 + a1))) = false := beq_eq_false_iff_ne.mpr c4
    have c4b1 : ((a2.size : Int) != (wrap64 (1 + a1))) = true := bne_iff_ne.mpr c4
    simp only [Option.some.injEq, Prod.mk.injEq] at H
    obtain ⟨rfl, rfl⟩ := H
    go_enter Try.func22, Try.ntmps22
    go_wp2
    go_ret2
    exact ⟨by first | rfl | (simp; done) | (simp [*]; done), by repeat (first | exact Drawn0.refl _ | apply Drawn0.step)⟩

end Go.Proofs.Ytbopadckbhocgaa.P
