-- Written by wip/inj.py (the kit's print, with contracts typed by hand beside it).
import Derived.Test.YtoepiofmkjajaaaPx0
import Derived.Test.YtoepiofmkjajaaaPx2
import Derived.Test.YtoepiofmkjajaaaPx3
namespace Go.Proofs.Ytoepiofmkjajaaa.P
open Go.RowKit Go.Proofs.YtoepiofmkjajaaaW.PrintWords Go.Proofs.YtoepiofmkjajaaaW.PrintLast Go.Proofs.YtoepiofmkjajaaaW.PrintMore
attribute [local go_sem] max2_int min2_int max_two min_two max_three min_three max_four min_four   -- for this text's walks alone
set_option linter.unusedVariables false
set_option linter.unusedSimpArgs false

attribute [local go_sem high] eqA103 eqA106
/-! ### escutcheonbook_SameNotes: function 58 -/
def escutcheonbook_SameNotes.l0 : Nat → List (S103) → List (S103) → Int → Option (Bool)
  | 0, _, _, _ => none
  | k + 1, x0, x1, x5 => if x5 < (x0.length : Int) then (if 0 ≤ x5 then (if x5 < (x1.length : Int) then (if (((((rd_T103 x0 x5).f0).toList) == (((rd_T103 x1 x5).f0).toList) && (((rd_T103 x0 x5).f1) == ((rd_T103 x1 x5).f1) && ((((rd_T103 x0 x5).f2).toList) == (((rd_T103 x1 x5).f2).toList) && (((rd_T103 x0 x5).f3) == ((rd_T103 x1 x5).f3))))) = true) then (escutcheonbook_SameNotes.l0 k x0 x1 (wrap64 (x5 + 1))) else (some false)) else (none)) else (none)) else (some true)
def escutcheonbook_SameNotes.f (k : Nat) (l0 : List (S103)) (l1 : List (S103)) : Option (Bool) := if (l0.length : Int) = (l1.length : Int) then (escutcheonbook_SameNotes.l0 k l0 l1 0) else (some false)
theorem escutcheonbook_SameNotes.mono_l : ∀ k, (∀ y0 y1 y2, LeO (escutcheonbook_SameNotes.l0 k y0 y1 y2) (escutcheonbook_SameNotes.l0 (k + 1) y0 y1 y2))
  | 0 => fun _ _ _ r h => by simp [escutcheonbook_SameNotes.l0] at h
  | k + 1 => by
    have ih0 := escutcheonbook_SameNotes.mono_l k
    · intro y0 y1 y2
      unfold escutcheonbook_SameNotes.l0
      repeat' first
      | (with_reducible exact ih0 _ _ _)
      | (with_reducible exact LeO.refl _)
      | (with_reducible exact LeO.none _)
      | (with_reducible refine LeO.ite ?_ ?_)
      | (with_reducible refine LeO.bind ?_ (fun _ => ?_))
      | exact ih0 _ _ _
      | exact LeO.none _
      | refine LeO.ite ?_ ?_
      | refine LeO.bind ?_ (fun _ => ?_)
theorem escutcheonbook_SameNotes.mono : ∀ a0 a1 k, LeO (escutcheonbook_SameNotes.f k a0 a1) (escutcheonbook_SameNotes.f (k + 1) a0 a1) := by
  intro a0 a1 k
  have ih0 := escutcheonbook_SameNotes.mono_l k
  unfold escutcheonbook_SameNotes.f
  repeat' first
      | (with_reducible exact ih0 _ _ _)
      | (with_reducible exact LeO.refl _)
      | (with_reducible exact LeO.none _)
      | (with_reducible refine LeO.ite ?_ ?_)
      | (with_reducible refine LeO.bind ?_ (fun _ => ?_))
      | exact ih0 _ _ _
      | exact LeO.none _
      | refine LeO.ite ?_ ?_
      | refine LeO.bind ?_ (fun _ => ?_)
set_option maxHeartbeats 8000000 in
set_option maxRecDepth 100000 in
theorem escutcheonbook_SameNotes.calls (k : Nat) (A0 : Option Addr) (c0 : Nat) (l0 : List (S103)) (A1 : Option Addr) (c1 : Nat) (l1 : List (S103)) (r : Bool) (w : World) (hr0 : Kd.C k103 w A0 l0.length l0) (hc0 : l0.length ≤ c0) (hr1 : Kd.C k103 w A1 l1.length l1) (hc1 : l1.length ≤ c1) (h : escutcheonbook_SameNotes.f k l0 l1 = some r) :
    Calls Try.prog 58 #[.slice A0 l0.length c0, .slice A1 l1.length c1] w fun e w' => e = .returned (.bool r) ∧ Drawn0 w w' := by
  have hu103 := Try.underlying103
  have HR0 := Aside0.mk hr0
  have HC0 := Aside0.mk hc0
  clear hr0 hc0
  have HR1 := Aside0.mk hr1
  have HC1 := Aside0.mk hc1
  clear hr1 hc1
  have H : (if (l0.length : Int) = (l1.length : Int) then (escutcheonbook_SameNotes.l0 k l0 l1 0) else (some false)) = some r := h
  clear h
  by_cases c3 : (l0.length : Int) = (l1.length : Int)
  · rw [if_pos c3] at H
    have c3b0 : ((l0.length : Int) == (l1.length : Int)) = true := beq_iff_eq.mpr c3
    have c3b1 : ((l0.length : Int) != (l1.length : Int)) = false := bne_eq_false_iff_eq.mpr c3
    have c3b2 : (l0.length == l1.length) = true := by first | simpa using c3 | (simp at c3 ⊢; omega)
    clear c3
    have H' := Aside0.mk H
    clear H
    go_enter Try.func58, Try.ntmps58
    go_wp2
    repeat (go_quiet (fail); try go_wp2)
    go_loopg [5] k (fun kq v5 w' => ∃ (x5_1 : Int), v5 = .int .i64 x5_1 ∧ Aside0 (escutcheonbook_SameNotes.l0 kq l0 l1 x5_1 = some r) ∧ Aside0 (kq ≤ k) ∧ Drawn0 w w')
    case atStart => exact ⟨(0), (by first | rfl | (simp; done) | (simp [*]; done)), H', ⟨Nat.le_refl _⟩, by repeat (first | exact Drawn0.refl _ | apply Drawn0.step)⟩
    case round =>
      clear H'
      try clear c1
      try clear p2
      try clear c3
      try clear c3b0
      try clear c3b1
      try clear c3b2
      obtain ⟨x5_1, rfl, HA, HK1, ⟨m1, rfl⟩⟩ := hrel
      cases gk with
      | zero => exact absurd HA.out (by simp [escutcheonbook_SameNotes.l0])
      | succ k1 =>
        have H := HA.out
        clear HA
        simp only [escutcheonbook_SameNotes.l0] at H
        by_cases c4 : x5_1 < (l0.length : Int)
        · rw [if_pos c4] at H
          have c4b0 : decide (x5_1 < (l0.length : Int)) = true := decide_eq_true c4
          clear c4
          by_cases c5 : 0 ≤ x5_1
          · rw [if_pos c5] at H
            have c5b0 : decide (0 ≤ x5_1) = true := decide_eq_true c5
            clear c5
            by_cases c6 : x5_1 < (l1.length : Int)
            · rw [if_pos c6] at H
              have c6b0 : decide (x5_1 < (l1.length : Int)) = true := decide_eq_true c6
              clear c6
              by_cases c7 : (((((rd_T103 l0 x5_1).f0).toList) == (((rd_T103 l1 x5_1).f0).toList) && (((rd_T103 l0 x5_1).f1) == ((rd_T103 l1 x5_1).f1) && ((((rd_T103 l0 x5_1).f2).toList) == (((rd_T103 l1 x5_1).f2).toList) && (((rd_T103 l0 x5_1).f3) == ((rd_T103 l1 x5_1).f3))))) = true)
              · rw [if_pos c7] at H
                have c7b0 : ((((rd_T103 l0 x5_1).f0).toList) == (((rd_T103 l1 x5_1).f0).toList) && (((rd_T103 l0 x5_1).f1) == ((rd_T103 l1 x5_1).f1) && ((((rd_T103 l0 x5_1).f2).toList) == (((rd_T103 l1 x5_1).f2).toList) && (((rd_T103 l0 x5_1).f3) == ((rd_T103 l1 x5_1).f3))))) = true := c7
                (try (have c7b1 : decide ((((rd_T103 l0 x5_1).f0).toList) = (((rd_T103 l1 x5_1).f0).toList) && (((rd_T103 l0 x5_1).f1) == ((rd_T103 l1 x5_1).f1) && ((((rd_T103 l0 x5_1).f2).toList) == (((rd_T103 l1 x5_1).f2).toList) && (((rd_T103 l0 x5_1).f3) == ((rd_T103 l1 x5_1).f3))))) = true := by simpa using c7))
                (try (have c7b2 : ((((rd_T103 l0 x5_1).f0).toList) == (((rd_T103 l1 x5_1).f0).toList) && (((rd_T103 l0 x5_1).f1) == ((rd_T103 l1 x5_1).f1) && ((((rd_T103 l0 x5_1).f2).toList) == (((rd_T103 l1 x5_1).f2).toList) && (((rd_T103 l0 x5_1).f3) == ((rd_T103 l1 x5_1).f3))))) = true := by simpa using c7))
                clear c7
                have H' := Aside0.mk H
                clear H
                have p226 : 0 ≤ (x5_1 : Int) := of_decide_eq_true (by first | (with_reducible assumption) | assumption)
                have q226 : x5_1 < (l0.length : Int) := of_decide_eq_true (by first | (with_reducible assumption) | assumption)
                obtain ⟨ad226, e226, hx226_0, hx226_1, hx226_2, hx226_3⟩ := at_T103 HR0.out x5_1 p226 q226
                cases e226
                replace p226 := eq_true p226
                replace q226 := eq_true q226
                have p227 : 0 ≤ (x5_1 : Int) := of_decide_eq_true (by first | (with_reducible assumption) | assumption)
                have q227 : x5_1 < (l1.length : Int) := of_decide_eq_true (by first | (with_reducible assumption) | assumption)
                obtain ⟨ad227, e227, hx227_0, hx227_1, hx227_2, hx227_3⟩ := at_T103 HR1.out x5_1 p227 q227
                cases e227
                replace p227 := eq_true p227
                replace q227 := eq_true q227
                go_wp2
                repeat (go_quiet (fail); try go_wp2)
                go_roundg k1
                case measure => have := HK1.out; omega
                case rel => exact ⟨(wrap64 (x5_1 + 1)), (by first | rfl | (simp; done) | (simp [*]; done)), H', ⟨by have := HK1.out; omega⟩, by repeat (first | exact Drawn0.refl _ | apply Drawn0.step)⟩
              · rw [if_neg c7] at H
                have c7b0 : ((((rd_T103 l0 x5_1).f0).toList) == (((rd_T103 l1 x5_1).f0).toList) && (((rd_T103 l0 x5_1).f1) == ((rd_T103 l1 x5_1).f1) && ((((rd_T103 l0 x5_1).f2).toList) == (((rd_T103 l1 x5_1).f2).toList) && (((rd_T103 l0 x5_1).f3) == ((rd_T103 l1 x5_1).f3))))) = false := by simpa using c7
                (try (have c7b1 : decide ((((rd_T103 l0 x5_1).f0).toList) = (((rd_T103 l1 x5_1).f0).toList) && (((rd_T103 l0 x5_1).f1) == ((rd_T103 l1 x5_1).f1) && ((((rd_T103 l0 x5_1).f2).toList) == (((rd_T103 l1 x5_1).f2).toList) && (((rd_T103 l0 x5_1).f3) == ((rd_T103 l1 x5_1).f3))))) = false := by simpa using c7))
                (try (have c7b2 : ((((rd_T103 l0 x5_1).f0).toList) == (((rd_T103 l1 x5_1).f0).toList) && (((rd_T103 l0 x5_1).f1) == ((rd_T103 l1 x5_1).f1) && ((((rd_T103 l0 x5_1).f2).toList) == (((rd_T103 l1 x5_1).f2).toList) && (((rd_T103 l0 x5_1).f3) == ((rd_T103 l1 x5_1).f3))))) = false := by simpa using c7))
                (try (have c7b3 : ¬ ((((rd_T103 l0 x5_1).f0).toList) = (((rd_T103 l1 x5_1).f0).toList) && (((rd_T103 l0 x5_1).f1) == ((rd_T103 l1 x5_1).f1) && ((((rd_T103 l0 x5_1).f2).toList) == (((rd_T103 l1 x5_1).f2).toList) && (((rd_T103 l0 x5_1).f3) == ((rd_T103 l1 x5_1).f3))))) := by simpa using c7))
                clear c7
                obtain rfl := Option.some.inj H
                have p226 : 0 ≤ (x5_1 : Int) := of_decide_eq_true (by first | (with_reducible assumption) | assumption)
                have q226 : x5_1 < (l0.length : Int) := of_decide_eq_true (by first | (with_reducible assumption) | assumption)
                obtain ⟨ad226, e226, hx226_0, hx226_1, hx226_2, hx226_3⟩ := at_T103 HR0.out x5_1 p226 q226
                cases e226
                replace p226 := eq_true p226
                replace q226 := eq_true q226
                have p227 : 0 ≤ (x5_1 : Int) := of_decide_eq_true (by first | (with_reducible assumption) | assumption)
                have q227 : x5_1 < (l1.length : Int) := of_decide_eq_true (by first | (with_reducible assumption) | assumption)
                obtain ⟨ad227, e227, hx227_0, hx227_1, hx227_2, hx227_3⟩ := at_T103 HR1.out x5_1 p227 q227
                cases e227
                replace p227 := eq_true p227
                replace q227 := eq_true q227
                go_wp2
                repeat (go_quiet (fail); try go_wp2)
                go_ret
                exact ⟨by first | rfl | (simp; done) | (simp [*]; done), by repeat (first | exact Drawn0.refl _ | apply Drawn0.step)⟩
            · rw [if_neg c6] at H
              exact absurd H (by simp)
          · rw [if_neg c5] at H
            exact absurd H (by simp)
        · rw [if_neg c4] at H
          have c4b0 : decide (x5_1 < (l0.length : Int)) = false := decide_eq_false c4
          clear c4
          obtain rfl := Option.some.inj H
          go_wp2
          repeat (go_quiet (fail); try go_wp2)
          go_ret
          exact ⟨by first | rfl | (simp; done) | (simp [*]; done), by repeat (first | exact Drawn0.refl _ | apply Drawn0.step)⟩
  · rw [if_neg c3] at H
    have c3b0 : ((l0.length : Int) == (l1.length : Int)) = false := beq_eq_false_iff_ne.mpr c3
    have c3b1 : ((l0.length : Int) != (l1.length : Int)) = true := bne_iff_ne.mpr c3
    have c3b2 : (l0.length == l1.length) = false := by first | simpa using c3 | (simp at c3 ⊢; omega)
    obtain rfl := Option.some.inj H
    go_enter Try.func58, Try.ntmps58
    go_wp2
    repeat (go_quiet (fail); try go_wp2)
    go_ret
    exact ⟨by first | rfl | (simp; done) | (simp [*]; done), by repeat (first | exact Drawn0.refl _ | apply Drawn0.step)⟩

-- NOT PRINTED: function 28 (escutcheonbook_Book_stillNotes)

/-! ### escutcheonbook_SameItems: function 59 -/
def escutcheonbook_SameItems.l0 : Nat → List (S106) → List (S106) → Int → Option (Bool)
  | 0, _, _, _ => none
  | k + 1, x0, x1, x5 => if x5 < (x0.length : Int) then (if 0 ≤ x5 then (if x5 < (x1.length : Int) then (if (((((rd_T106 x0 x5).f0).toList) == (((rd_T106 x1 x5).f0).toList) && ((((rd_T106 x0 x5).f1).toList) == (((rd_T106 x1 x5).f1).toList) && (((rd_T106 x0 x5).f2) == ((rd_T106 x1 x5).f2) && (((rd_T106 x0 x5).f3) == ((rd_T106 x1 x5).f3))))) = true) then (escutcheonbook_SameItems.l0 k x0 x1 (wrap64 (x5 + 1))) else (some false)) else (none)) else (none)) else (some true)
def escutcheonbook_SameItems.f (k : Nat) (l0 : List (S106)) (l1 : List (S106)) : Option (Bool) := if (l0.length : Int) = (l1.length : Int) then (escutcheonbook_SameItems.l0 k l0 l1 0) else (some false)
theorem escutcheonbook_SameItems.mono_l : ∀ k, (∀ y0 y1 y2, LeO (escutcheonbook_SameItems.l0 k y0 y1 y2) (escutcheonbook_SameItems.l0 (k + 1) y0 y1 y2))
  | 0 => fun _ _ _ r h => by simp [escutcheonbook_SameItems.l0] at h
  | k + 1 => by
    have ih0 := escutcheonbook_SameItems.mono_l k
    · intro y0 y1 y2
      unfold escutcheonbook_SameItems.l0
      repeat' first
      | (with_reducible exact ih0 _ _ _)
      | (with_reducible exact LeO.refl _)
      | (with_reducible exact LeO.none _)
      | (with_reducible refine LeO.ite ?_ ?_)
      | (with_reducible refine LeO.bind ?_ (fun _ => ?_))
      | exact ih0 _ _ _
      | exact LeO.none _
      | refine LeO.ite ?_ ?_
      | refine LeO.bind ?_ (fun _ => ?_)
theorem escutcheonbook_SameItems.mono : ∀ a0 a1 k, LeO (escutcheonbook_SameItems.f k a0 a1) (escutcheonbook_SameItems.f (k + 1) a0 a1) := by
  intro a0 a1 k
  have ih0 := escutcheonbook_SameItems.mono_l k
  unfold escutcheonbook_SameItems.f
  repeat' first
      | (with_reducible exact ih0 _ _ _)
      | (with_reducible exact LeO.refl _)
      | (with_reducible exact LeO.none _)
      | (with_reducible refine LeO.ite ?_ ?_)
      | (with_reducible refine LeO.bind ?_ (fun _ => ?_))
      | exact ih0 _ _ _
      | exact LeO.none _
      | refine LeO.ite ?_ ?_
      | refine LeO.bind ?_ (fun _ => ?_)
set_option maxHeartbeats 8000000 in
set_option maxRecDepth 100000 in
theorem escutcheonbook_SameItems.calls (k : Nat) (A0 : Option Addr) (c0 : Nat) (l0 : List (S106)) (A1 : Option Addr) (c1 : Nat) (l1 : List (S106)) (r : Bool) (w : World) (hr0 : Kd.C k106 w A0 l0.length l0) (hc0 : l0.length ≤ c0) (hr1 : Kd.C k106 w A1 l1.length l1) (hc1 : l1.length ≤ c1) (h : escutcheonbook_SameItems.f k l0 l1 = some r) :
    Calls Try.prog 59 #[.slice A0 l0.length c0, .slice A1 l1.length c1] w fun e w' => e = .returned (.bool r) ∧ Drawn0 w w' := by
  have hu106 := Try.underlying106
  have HR0 := Aside0.mk hr0
  have HC0 := Aside0.mk hc0
  clear hr0 hc0
  have HR1 := Aside0.mk hr1
  have HC1 := Aside0.mk hc1
  clear hr1 hc1
  have H : (if (l0.length : Int) = (l1.length : Int) then (escutcheonbook_SameItems.l0 k l0 l1 0) else (some false)) = some r := h
  clear h
  by_cases c3 : (l0.length : Int) = (l1.length : Int)
  · rw [if_pos c3] at H
    have c3b0 : ((l0.length : Int) == (l1.length : Int)) = true := beq_iff_eq.mpr c3
    have c3b1 : ((l0.length : Int) != (l1.length : Int)) = false := bne_eq_false_iff_eq.mpr c3
    have c3b2 : (l0.length == l1.length) = true := by first | simpa using c3 | (simp at c3 ⊢; omega)
    clear c3
    have H' := Aside0.mk H
    clear H
    go_enter Try.func59, Try.ntmps59
    go_wp2
    repeat (go_quiet (fail); try go_wp2)
    go_loopg [5] k (fun kq v5 w' => ∃ (x5_1 : Int), v5 = .int .i64 x5_1 ∧ Aside0 (escutcheonbook_SameItems.l0 kq l0 l1 x5_1 = some r) ∧ Aside0 (kq ≤ k) ∧ Drawn0 w w')
    case atStart => exact ⟨(0), (by first | rfl | (simp; done) | (simp [*]; done)), H', ⟨Nat.le_refl _⟩, by repeat (first | exact Drawn0.refl _ | apply Drawn0.step)⟩
    case round =>
      clear H'
      try clear c1
      try clear p2
      try clear c3
      try clear c3b0
      try clear c3b1
      try clear c3b2
      obtain ⟨x5_1, rfl, HA, HK1, ⟨m1, rfl⟩⟩ := hrel
      cases gk with
      | zero => exact absurd HA.out (by simp [escutcheonbook_SameItems.l0])
      | succ k1 =>
        have H := HA.out
        clear HA
        simp only [escutcheonbook_SameItems.l0] at H
        by_cases c4 : x5_1 < (l0.length : Int)
        · rw [if_pos c4] at H
          have c4b0 : decide (x5_1 < (l0.length : Int)) = true := decide_eq_true c4
          clear c4
          by_cases c5 : 0 ≤ x5_1
          · rw [if_pos c5] at H
            have c5b0 : decide (0 ≤ x5_1) = true := decide_eq_true c5
            clear c5
            by_cases c6 : x5_1 < (l1.length : Int)
            · rw [if_pos c6] at H
              have c6b0 : decide (x5_1 < (l1.length : Int)) = true := decide_eq_true c6
              clear c6
              by_cases c7 : (((((rd_T106 l0 x5_1).f0).toList) == (((rd_T106 l1 x5_1).f0).toList) && ((((rd_T106 l0 x5_1).f1).toList) == (((rd_T106 l1 x5_1).f1).toList) && (((rd_T106 l0 x5_1).f2) == ((rd_T106 l1 x5_1).f2) && (((rd_T106 l0 x5_1).f3) == ((rd_T106 l1 x5_1).f3))))) = true)
              · rw [if_pos c7] at H
                have c7b0 : ((((rd_T106 l0 x5_1).f0).toList) == (((rd_T106 l1 x5_1).f0).toList) && ((((rd_T106 l0 x5_1).f1).toList) == (((rd_T106 l1 x5_1).f1).toList) && (((rd_T106 l0 x5_1).f2) == ((rd_T106 l1 x5_1).f2) && (((rd_T106 l0 x5_1).f3) == ((rd_T106 l1 x5_1).f3))))) = true := c7
                (try (have c7b1 : decide ((((rd_T106 l0 x5_1).f0).toList) = (((rd_T106 l1 x5_1).f0).toList) && ((((rd_T106 l0 x5_1).f1).toList) == (((rd_T106 l1 x5_1).f1).toList) && (((rd_T106 l0 x5_1).f2) == ((rd_T106 l1 x5_1).f2) && (((rd_T106 l0 x5_1).f3) == ((rd_T106 l1 x5_1).f3))))) = true := by simpa using c7))
                (try (have c7b2 : ((((rd_T106 l0 x5_1).f0).toList) == (((rd_T106 l1 x5_1).f0).toList) && ((((rd_T106 l0 x5_1).f1).toList) == (((rd_T106 l1 x5_1).f1).toList) && (((rd_T106 l0 x5_1).f2) == ((rd_T106 l1 x5_1).f2) && (((rd_T106 l0 x5_1).f3) == ((rd_T106 l1 x5_1).f3))))) = true := by simpa using c7))
                clear c7
                have H' := Aside0.mk H
                clear H
                have p231 : 0 ≤ (x5_1 : Int) := of_decide_eq_true (by first | (with_reducible assumption) | assumption)
                have q231 : x5_1 < (l0.length : Int) := of_decide_eq_true (by first | (with_reducible assumption) | assumption)
                obtain ⟨ad231, e231, hx231_0, hx231_1, hx231_2, hx231_3⟩ := at_T106 HR0.out x5_1 p231 q231
                cases e231
                replace p231 := eq_true p231
                replace q231 := eq_true q231
                have p232 : 0 ≤ (x5_1 : Int) := of_decide_eq_true (by first | (with_reducible assumption) | assumption)
                have q232 : x5_1 < (l1.length : Int) := of_decide_eq_true (by first | (with_reducible assumption) | assumption)
                obtain ⟨ad232, e232, hx232_0, hx232_1, hx232_2, hx232_3⟩ := at_T106 HR1.out x5_1 p232 q232
                cases e232
                replace p232 := eq_true p232
                replace q232 := eq_true q232
                go_wp2
                repeat (go_quiet (fail); try go_wp2)
                go_roundg k1
                case measure => have := HK1.out; omega
                case rel => exact ⟨(wrap64 (x5_1 + 1)), (by first | rfl | (simp; done) | (simp [*]; done)), H', ⟨by have := HK1.out; omega⟩, by repeat (first | exact Drawn0.refl _ | apply Drawn0.step)⟩
              · rw [if_neg c7] at H
                have c7b0 : ((((rd_T106 l0 x5_1).f0).toList) == (((rd_T106 l1 x5_1).f0).toList) && ((((rd_T106 l0 x5_1).f1).toList) == (((rd_T106 l1 x5_1).f1).toList) && (((rd_T106 l0 x5_1).f2) == ((rd_T106 l1 x5_1).f2) && (((rd_T106 l0 x5_1).f3) == ((rd_T106 l1 x5_1).f3))))) = false := by simpa using c7
                (try (have c7b1 : decide ((((rd_T106 l0 x5_1).f0).toList) = (((rd_T106 l1 x5_1).f0).toList) && ((((rd_T106 l0 x5_1).f1).toList) == (((rd_T106 l1 x5_1).f1).toList) && (((rd_T106 l0 x5_1).f2) == ((rd_T106 l1 x5_1).f2) && (((rd_T106 l0 x5_1).f3) == ((rd_T106 l1 x5_1).f3))))) = false := by simpa using c7))
                (try (have c7b2 : ((((rd_T106 l0 x5_1).f0).toList) == (((rd_T106 l1 x5_1).f0).toList) && ((((rd_T106 l0 x5_1).f1).toList) == (((rd_T106 l1 x5_1).f1).toList) && (((rd_T106 l0 x5_1).f2) == ((rd_T106 l1 x5_1).f2) && (((rd_T106 l0 x5_1).f3) == ((rd_T106 l1 x5_1).f3))))) = false := by simpa using c7))
                (try (have c7b3 : ¬ ((((rd_T106 l0 x5_1).f0).toList) = (((rd_T106 l1 x5_1).f0).toList) && ((((rd_T106 l0 x5_1).f1).toList) == (((rd_T106 l1 x5_1).f1).toList) && (((rd_T106 l0 x5_1).f2) == ((rd_T106 l1 x5_1).f2) && (((rd_T106 l0 x5_1).f3) == ((rd_T106 l1 x5_1).f3))))) := by simpa using c7))
                clear c7
                obtain rfl := Option.some.inj H
                have p231 : 0 ≤ (x5_1 : Int) := of_decide_eq_true (by first | (with_reducible assumption) | assumption)
                have q231 : x5_1 < (l0.length : Int) := of_decide_eq_true (by first | (with_reducible assumption) | assumption)
                obtain ⟨ad231, e231, hx231_0, hx231_1, hx231_2, hx231_3⟩ := at_T106 HR0.out x5_1 p231 q231
                cases e231
                replace p231 := eq_true p231
                replace q231 := eq_true q231
                have p232 : 0 ≤ (x5_1 : Int) := of_decide_eq_true (by first | (with_reducible assumption) | assumption)
                have q232 : x5_1 < (l1.length : Int) := of_decide_eq_true (by first | (with_reducible assumption) | assumption)
                obtain ⟨ad232, e232, hx232_0, hx232_1, hx232_2, hx232_3⟩ := at_T106 HR1.out x5_1 p232 q232
                cases e232
                replace p232 := eq_true p232
                replace q232 := eq_true q232
                go_wp2
                repeat (go_quiet (fail); try go_wp2)
                go_ret
                exact ⟨by first | rfl | (simp; done) | (simp [*]; done), by repeat (first | exact Drawn0.refl _ | apply Drawn0.step)⟩
            · rw [if_neg c6] at H
              exact absurd H (by simp)
          · rw [if_neg c5] at H
            exact absurd H (by simp)
        · rw [if_neg c4] at H
          have c4b0 : decide (x5_1 < (l0.length : Int)) = false := decide_eq_false c4
          clear c4
          obtain rfl := Option.some.inj H
          go_wp2
          repeat (go_quiet (fail); try go_wp2)
          go_ret
          exact ⟨by first | rfl | (simp; done) | (simp [*]; done), by repeat (first | exact Drawn0.refl _ | apply Drawn0.step)⟩
  · rw [if_neg c3] at H
    have c3b0 : ((l0.length : Int) == (l1.length : Int)) = false := beq_eq_false_iff_ne.mpr c3
    have c3b1 : ((l0.length : Int) != (l1.length : Int)) = true := bne_iff_ne.mpr c3
    have c3b2 : (l0.length == l1.length) = false := by first | simpa using c3 | (simp at c3 ⊢; omega)
    obtain rfl := Option.some.inj H
    go_enter Try.func59, Try.ntmps59
    go_wp2
    repeat (go_quiet (fail); try go_wp2)
    go_ret
    exact ⟨by first | rfl | (simp; done) | (simp [*]; done), by repeat (first | exact Drawn0.refl _ | apply Drawn0.step)⟩

-- NOT PRINTED: function 29 (escutcheonbook_Book_stillItems)

end Go.Proofs.Ytoepiofmkjajaaa.P
