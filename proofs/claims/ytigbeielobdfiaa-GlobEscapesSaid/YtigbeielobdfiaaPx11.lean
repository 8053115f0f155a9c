-- Written by wip/inj.py (the kit's print, with contracts typed by hand beside it).
import Derived.Test.YtigbeielobdfiaaPx0
import Derived.Test.YtigbeielobdfiaaPx1
import Derived.Test.YtigbeielobdfiaaPx2
import Derived.Test.YtigbeielobdfiaaPx4
namespace Go.Proofs.Ytigbeielobdfiaa.P
open Go.RowKit Go.Proofs.YtigbeielobdfiaaW.PrintWords Go.Proofs.YtigbeielobdfiaaW.PrintLast Go.Proofs.YtigbeielobdfiaaW.PrintMore
attribute [local go_sem] max2_int min2_int max_two min_two max_three min_three max_four min_four   -- for this text's walks alone
set_option linter.unusedVariables false
set_option linter.unusedSimpArgs false

/-! ### escutcheonlaw17_GlobEscapes: function 8 -/
def escutcheonlaw17_GlobEscapes.f (k : Nat) (a0 : Int) (a1 : Int) : Option (Bool) := (escutcheonlaw17_alive.f k).bind fun t198 => (if t198 = true then ((some (([a0] : List Int) : List Int)).bind fun y199 => (if 1 + (strOfNums y199).size ≤ 9223372036854775807 then ((glob_Plain.f k ((⟨#[92]⟩ : ByteArray) ++ (strOfNums y199))).bind fun bt202 => ((glob_Right.f k ((⟨#[92]⟩ : ByteArray) ++ (strOfNums y199))).bind fun t204 => (if t204 = true then ((glob_Match.f k ((⟨#[92]⟩ : ByteArray) ++ (strOfNums y199)) (strOfNums (([a1] : List Int)))).bind fun t208 => (if (t208 == (a0 == a1)) = true then ((glob_Match.f k ((⟨#[92]⟩ : ByteArray) ++ (strOfNums y199)) (⟨#[]⟩ : ByteArray)).bind fun t209 => (if t209 = true then (none) else (if bt202.2 = true then (if bt202.1.toList = (strOfNums (([a0] : List Int))).toList then ((glob_Right.f k (⟨#[92]⟩ : ByteArray)).bind fun t213 => (if t213 = true then (none) else ((glob_Match.f k (⟨#[92]⟩ : ByteArray) (⟨#[92]⟩ : ByteArray)).bind fun t214 => (some (!t214))))) else (none)) else (none)))) else (none))) else (none)))) else (none))) else (none))
theorem escutcheonlaw17_GlobEscapes.mono : ∀ a0 a1 k, LeO (escutcheonlaw17_GlobEscapes.f k a0 a1) (escutcheonlaw17_GlobEscapes.f (k + 1) a0 a1) := by
  intro a0 a1 k
  unfold escutcheonlaw17_GlobEscapes.f
  repeat' first
      | (with_reducible exact escutcheonlaw17_alive.mono _)
      | (with_reducible exact glob_Match.mono _ _ _)
      | (with_reducible exact glob_Plain.mono _ _)
      | (with_reducible exact glob_Right.mono _ _)
      | (with_reducible exact LeO.refl _)
      | (with_reducible exact LeO.none _)
      | (with_reducible refine LeO.ite ?_ ?_)
      | (with_reducible refine LeO.bind ?_ (fun _ => ?_))
      | exact escutcheonlaw17_alive.mono _
      | exact glob_Match.mono _ _ _
      | exact glob_Plain.mono _ _
      | exact glob_Right.mono _ _
      | exact LeO.none _
      | refine LeO.ite ?_ ?_
      | refine LeO.bind ?_ (fun _ => ?_)
set_option maxHeartbeats 8000000 in
set_option maxRecDepth 100000 in
theorem escutcheonlaw17_GlobEscapes.calls (k : Nat) (a0 : Int) (a1 : Int) (r : Bool) (w : World) (h : escutcheonlaw17_GlobEscapes.f k a0 a1 = some r) :
    Calls Try.prog 8 #[.int .u8 a0, .int .u8 a1] w fun e w' => e = .returned (.bool r) ∧ Below w.heap.size w w' := by
  have HB := Aside0.mk (Below.refl w.heap.size w)
  have H : ((escutcheonlaw17_alive.f k).bind fun t198 => (if t198 = true then ((some (([a0] : List Int) : List Int)).bind fun y199 => (if 1 + (strOfNums y199).size ≤ 9223372036854775807 then ((glob_Plain.f k ((⟨#[92]⟩ : ByteArray) ++ (strOfNums y199))).bind fun bt202 => ((glob_Right.f k ((⟨#[92]⟩ : ByteArray) ++ (strOfNums y199))).bind fun t204 => (if t204 = true then ((glob_Match.f k ((⟨#[92]⟩ : ByteArray) ++ (strOfNums y199)) (strOfNums (([a1] : List Int)))).bind fun t208 => (if (t208 == (a0 == a1)) = true then ((glob_Match.f k ((⟨#[92]⟩ : ByteArray) ++ (strOfNums y199)) (⟨#[]⟩ : ByteArray)).bind fun t209 => (if t209 = true then (none) else (if bt202.2 = true then (if bt202.1.toList = (strOfNums (([a0] : List Int))).toList then ((glob_Right.f k (⟨#[92]⟩ : ByteArray)).bind fun t213 => (if t213 = true then (none) else ((glob_Match.f k (⟨#[92]⟩ : ByteArray) (⟨#[92]⟩ : ByteArray)).bind fun t214 => (some (!t214))))) else (none)) else (none)))) else (none))) else (none)))) else (none))) else (none))) = some r := h
  clear h
  replace H := Option.bind_eq_some_iff.mp H
  obtain ⟨t198, A30, H⟩ := H
  replace H : (if t198 = true then ((some (([a0] : List Int) : List Int)).bind fun y199 => (if 1 + (strOfNums y199).size ≤ 9223372036854775807 then ((glob_Plain.f k ((⟨#[92]⟩ : ByteArray) ++ (strOfNums y199))).bind fun bt202 => ((glob_Right.f k ((⟨#[92]⟩ : ByteArray) ++ (strOfNums y199))).bind fun t204 => (if t204 = true then ((glob_Match.f k ((⟨#[92]⟩ : ByteArray) ++ (strOfNums y199)) (strOfNums (([a1] : List Int)))).bind fun t208 => (if (t208 == (a0 == a1)) = true then ((glob_Match.f k ((⟨#[92]⟩ : ByteArray) ++ (strOfNums y199)) (⟨#[]⟩ : ByteArray)).bind fun t209 => (if t209 = true then (none) else (if bt202.2 = true then (if bt202.1.toList = (strOfNums (([a0] : List Int))).toList then ((glob_Right.f k (⟨#[92]⟩ : ByteArray)).bind fun t213 => (if t213 = true then (none) else ((glob_Match.f k (⟨#[92]⟩ : ByteArray) (⟨#[92]⟩ : ByteArray)).bind fun t214 => (some (!t214))))) else (none)) else (none)))) else (none))) else (none)))) else (none))) else (none)) = some r := H
  have A3 := Aside0.mk A30
  clear A30
  by_cases c4 : t198 = true
  · subst c4
    have H1 : ((some (([a0] : List Int) : List Int)).bind fun y199 => (if 1 + (strOfNums y199).size ≤ 9223372036854775807 then ((glob_Plain.f k ((⟨#[92]⟩ : ByteArray) ++ (strOfNums y199))).bind fun bt202 => ((glob_Right.f k ((⟨#[92]⟩ : ByteArray) ++ (strOfNums y199))).bind fun t204 => (if t204 = true then ((glob_Match.f k ((⟨#[92]⟩ : ByteArray) ++ (strOfNums y199)) (strOfNums (([a1] : List Int)))).bind fun t208 => (if (t208 == (a0 == a1)) = true then ((glob_Match.f k ((⟨#[92]⟩ : ByteArray) ++ (strOfNums y199)) (⟨#[]⟩ : ByteArray)).bind fun t209 => (if t209 = true then (none) else (if bt202.2 = true then (if bt202.1.toList = (strOfNums (([a0] : List Int))).toList then ((glob_Right.f k (⟨#[92]⟩ : ByteArray)).bind fun t213 => (if t213 = true then (none) else ((glob_Match.f k (⟨#[92]⟩ : ByteArray) (⟨#[92]⟩ : ByteArray)).bind fun t214 => (some (!t214))))) else (none)) else (none)))) else (none))) else (none)))) else (none))) = some r := by rw [if_pos rfl] at H; exact H
    clear H
    have H := H1
    clear H1
    obtain ⟨y199, hy199⟩ : ∃ y_ : List Int, y_ = (([a0] : List Int)) := ⟨_, rfl⟩
    replace H : (if 1 + (strOfNums y199).size ≤ 9223372036854775807 then ((glob_Plain.f k ((⟨#[92]⟩ : ByteArray) ++ (strOfNums y199))).bind fun bt202 => ((glob_Right.f k ((⟨#[92]⟩ : ByteArray) ++ (strOfNums y199))).bind fun t204 => (if t204 = true then ((glob_Match.f k ((⟨#[92]⟩ : ByteArray) ++ (strOfNums y199)) (strOfNums (([a1] : List Int)))).bind fun t208 => (if (t208 == (a0 == a1)) = true then ((glob_Match.f k ((⟨#[92]⟩ : ByteArray) ++ (strOfNums y199)) (⟨#[]⟩ : ByteArray)).bind fun t209 => (if t209 = true then (none) else (if bt202.2 = true then (if bt202.1.toList = (strOfNums (([a0] : List Int))).toList then ((glob_Right.f k (⟨#[92]⟩ : ByteArray)).bind fun t213 => (if t213 = true then (none) else ((glob_Match.f k (⟨#[92]⟩ : ByteArray) (⟨#[92]⟩ : ByteArray)).bind fun t214 => (some (!t214))))) else (none)) else (none)))) else (none))) else (none)))) else (none)) = some r := by first | (rw [hy199]; with_reducible exact H) | (have H2_ := (Option.bind_some _ _).symm.trans H; rw [hy199]; with_reducible exact H2_) | (have H2_ := (Option.bind_some _ _).symm.trans H; with_reducible exact H2_) | with_reducible exact H | (rw [hy199]; exact H) | exact H
    have Ny199 := Aside0.mk hy199
    clear hy199
    by_cases c5 : 1 + (strOfNums y199).size ≤ 9223372036854775807
    · rw [if_pos c5] at H
      have c5b0 := eq_true c5
      have c5b1 : decide (1 + (strOfNums y199).size ≤ 9223372036854775807) = true := decide_eq_true c5
      try have c5b2 : (9223372036854775807 < 1 + (strOfNums y199).size) = False := eq_false (Nat.not_lt.2 c5)
      replace H := Option.bind_eq_some_iff.mp H
      obtain ⟨⟨t202, t203⟩, A60, H⟩ := H
      replace H : ((glob_Right.f k ((⟨#[92]⟩ : ByteArray) ++ (strOfNums y199))).bind fun t204 => (if t204 = true then ((glob_Match.f k ((⟨#[92]⟩ : ByteArray) ++ (strOfNums y199)) (strOfNums (([a1] : List Int)))).bind fun t208 => (if (t208 == (a0 == a1)) = true then ((glob_Match.f k ((⟨#[92]⟩ : ByteArray) ++ (strOfNums y199)) (⟨#[]⟩ : ByteArray)).bind fun t209 => (if t209 = true then (none) else (if t203 = true then (if t202.toList = (strOfNums (([a0] : List Int))).toList then ((glob_Right.f k (⟨#[92]⟩ : ByteArray)).bind fun t213 => (if t213 = true then (none) else ((glob_Match.f k (⟨#[92]⟩ : ByteArray) (⟨#[92]⟩ : ByteArray)).bind fun t214 => (some (!t214))))) else (none)) else (none)))) else (none))) else (none))) = some r := H
      have A6 := Aside0.mk A60
      clear A60
      replace H := Option.bind_eq_some_iff.mp H
      obtain ⟨t204, A70, H⟩ := H
      replace H : (if t204 = true then ((glob_Match.f k ((⟨#[92]⟩ : ByteArray) ++ (strOfNums y199)) (strOfNums (([a1] : List Int)))).bind fun t208 => (if (t208 == (a0 == a1)) = true then ((glob_Match.f k ((⟨#[92]⟩ : ByteArray) ++ (strOfNums y199)) (⟨#[]⟩ : ByteArray)).bind fun t209 => (if t209 = true then (none) else (if t203 = true then (if t202.toList = (strOfNums (([a0] : List Int))).toList then ((glob_Right.f k (⟨#[92]⟩ : ByteArray)).bind fun t213 => (if t213 = true then (none) else ((glob_Match.f k (⟨#[92]⟩ : ByteArray) (⟨#[92]⟩ : ByteArray)).bind fun t214 => (some (!t214))))) else (none)) else (none)))) else (none))) else (none)) = some r := H
      have A7 := Aside0.mk A70
      clear A70
      by_cases c8 : t204 = true
      · subst c8
        have H1 : ((glob_Match.f k ((⟨#[92]⟩ : ByteArray) ++ (strOfNums y199)) (strOfNums (([a1] : List Int)))).bind fun t208 => (if (t208 == (a0 == a1)) = true then ((glob_Match.f k ((⟨#[92]⟩ : ByteArray) ++ (strOfNums y199)) (⟨#[]⟩ : ByteArray)).bind fun t209 => (if t209 = true then (none) else (if t203 = true then (if t202.toList = (strOfNums (([a0] : List Int))).toList then ((glob_Right.f k (⟨#[92]⟩ : ByteArray)).bind fun t213 => (if t213 = true then (none) else ((glob_Match.f k (⟨#[92]⟩ : ByteArray) (⟨#[92]⟩ : ByteArray)).bind fun t214 => (some (!t214))))) else (none)) else (none)))) else (none))) = some r := by rw [if_pos rfl] at H; exact H
        clear H
        have H := H1
        clear H1
        obtain ⟨y205, hy205⟩ : ∃ y_ : List Int, y_ = (([a1] : List Int)) := ⟨_, rfl⟩
        replace H : ((glob_Match.f k ((⟨#[92]⟩ : ByteArray) ++ (strOfNums y199)) (strOfNums y205)).bind fun t208 => (if (t208 == (a0 == a1)) = true then ((glob_Match.f k ((⟨#[92]⟩ : ByteArray) ++ (strOfNums y199)) (⟨#[]⟩ : ByteArray)).bind fun t209 => (if t209 = true then (none) else (if t203 = true then (if t202.toList = (strOfNums (([a0] : List Int))).toList then ((glob_Right.f k (⟨#[92]⟩ : ByteArray)).bind fun t213 => (if t213 = true then (none) else ((glob_Match.f k (⟨#[92]⟩ : ByteArray) (⟨#[92]⟩ : ByteArray)).bind fun t214 => (some (!t214))))) else (none)) else (none)))) else (none))) = some r := by first | (rw [hy205]; with_reducible exact H) | (have H2_ := (Option.bind_some _ _).symm.trans H; rw [hy205]; with_reducible exact H2_) | (have H2_ := (Option.bind_some _ _).symm.trans H; with_reducible exact H2_) | with_reducible exact H | (rw [hy205]; exact H) | exact H
        have Ny205 := Aside0.mk hy205
        clear hy205
        replace H := Option.bind_eq_some_iff.mp H
        obtain ⟨t208, A90, H⟩ := H
        replace H : (if (t208 == (a0 == a1)) = true then ((glob_Match.f k ((⟨#[92]⟩ : ByteArray) ++ (strOfNums y199)) (⟨#[]⟩ : ByteArray)).bind fun t209 => (if t209 = true then (none) else (if t203 = true then (if t202.toList = (strOfNums (([a0] : List Int))).toList then ((glob_Right.f k (⟨#[92]⟩ : ByteArray)).bind fun t213 => (if t213 = true then (none) else ((glob_Match.f k (⟨#[92]⟩ : ByteArray) (⟨#[92]⟩ : ByteArray)).bind fun t214 => (some (!t214))))) else (none)) else (none)))) else (none)) = some r := H
        have A9 := Aside0.mk A90
        clear A90
        by_cases c10 : (t208 == (a0 == a1)) = true
        · rw [if_pos c10] at H
          have c10b0 : (t208 == (a0 == a1)) = true := c10
          (try (have c10b1 : decide (t208 = (a0 == a1)) = true := by simpa using c10))
          (try (have c10b2 : (t208 == (a0 == a1)) = true := by simpa using c10))
          clear c10
          replace H := Option.bind_eq_some_iff.mp H
          obtain ⟨t209, A110, H⟩ := H
          replace H : (if t209 = true then (none) else (if t203 = true then (if t202.toList = (strOfNums (([a0] : List Int))).toList then ((glob_Right.f k (⟨#[92]⟩ : ByteArray)).bind fun t213 => (if t213 = true then (none) else ((glob_Match.f k (⟨#[92]⟩ : ByteArray) (⟨#[92]⟩ : ByteArray)).bind fun t214 => (some (!t214))))) else (none)) else (none))) = some r := H
          have A11 := Aside0.mk A110
          clear A110
          by_cases c12 : t209 = true
          · subst c12
            have H1 : (none) = some r := by rw [if_pos rfl] at H; exact H
            clear H
            have H := H1
            clear H1
            exact absurd H (by simp)
          · replace c12 := Bool.eq_false_iff.mpr c12
            subst c12
            have H1 : (if t203 = true then (if t202.toList = (strOfNums (([a0] : List Int))).toList then ((glob_Right.f k (⟨#[92]⟩ : ByteArray)).bind fun t213 => (if t213 = true then (none) else ((glob_Match.f k (⟨#[92]⟩ : ByteArray) (⟨#[92]⟩ : ByteArray)).bind fun t214 => (some (!t214))))) else (none)) else (none)) = some r := by rw [if_neg (show ¬ (false = true) by decide)] at H; exact H
            clear H
            have H := H1
            clear H1
            by_cases c13 : t203 = true
            · subst c13
              have H1 : (if t202.toList = (strOfNums (([a0] : List Int))).toList then ((glob_Right.f k (⟨#[92]⟩ : ByteArray)).bind fun t213 => (if t213 = true then (none) else ((glob_Match.f k (⟨#[92]⟩ : ByteArray) (⟨#[92]⟩ : ByteArray)).bind fun t214 => (some (!t214))))) else (none)) = some r := by rw [if_pos rfl] at H; exact H
              clear H
              have H := H1
              clear H1
              obtain ⟨y210, hy210⟩ : ∃ y_ : List Int, y_ = (([a0] : List Int)) := ⟨_, rfl⟩
              replace H : (if t202.toList = (strOfNums y210).toList then ((glob_Right.f k (⟨#[92]⟩ : ByteArray)).bind fun t213 => (if t213 = true then (none) else ((glob_Match.f k (⟨#[92]⟩ : ByteArray) (⟨#[92]⟩ : ByteArray)).bind fun t214 => (some (!t214))))) else (none)) = some r := by first | (rw [hy210]; with_reducible exact H) | (have H2_ := (Option.bind_some _ _).symm.trans H; rw [hy210]; with_reducible exact H2_) | (have H2_ := (Option.bind_some _ _).symm.trans H; with_reducible exact H2_) | with_reducible exact H | (rw [hy210]; exact H) | exact H
              have Ny210 := Aside0.mk hy210
              clear hy210
              by_cases c14 : t202.toList = (strOfNums y210).toList
              · rw [if_pos c14] at H
                have c14b0 : (t202.toList == (strOfNums y210).toList) = true := beq_iff_eq.mpr c14
                have c14b1 : (t202.toList != (strOfNums y210).toList) = false := bne_eq_false_iff_eq.mpr c14
                clear c14
                replace H := Option.bind_eq_some_iff.mp H
                obtain ⟨t213, A150, H⟩ := H
                replace H : (if t213 = true then (none) else ((glob_Match.f k (⟨#[92]⟩ : ByteArray) (⟨#[92]⟩ : ByteArray)).bind fun t214 => (some (!t214)))) = some r := H
                have A15 := Aside0.mk A150
                clear A150
                by_cases c16 : t213 = true
                · subst c16
                  have H1 : (none) = some r := by rw [if_pos rfl] at H; exact H
                  clear H
                  have H := H1
                  clear H1
                  exact absurd H (by simp)
                · replace c16 := Bool.eq_false_iff.mpr c16
                  subst c16
                  have H1 : ((glob_Match.f k (⟨#[92]⟩ : ByteArray) (⟨#[92]⟩ : ByteArray)).bind fun t214 => (some (!t214))) = some r := by rw [if_neg (show ¬ (false = true) by decide)] at H; exact H
                  clear H
                  have H := H1
                  clear H1
                  replace H := Option.bind_eq_some_iff.mp H
                  obtain ⟨t214, A170, H⟩ := H
                  replace H : (some (!t214)) = some r := H
                  have A17 := Aside0.mk A170
                  clear A170
                  obtain rfl := Option.some.inj H
                  go_enter Try.func8, Try.ntmps8
                  go_wp2_with (first | ((with_reducible refine gate_callee (f := 10) rfl ?_); refine goesL_ (some 8) rfl rfl Try.func10 (by kernel_rfl) rfl #[] rfl (by (try simp only [List.map_toArray, List.map_cons, List.map_nil]); first | done | rfl | (simp only [List.length_drop, List.length_take]; rfl)) ?_; (with_reducible refine (escutcheonlaw17_alive.calls k  true _ A3.out).mono ?_); rintro e w18 ⟨rfl, hb⟩; refine ⟨_, rfl, ?_⟩; have n0_ := Aside0.mk (below_step (by repeat (first | (with_reducible first | exact HB.out | apply below_alloc | apply pw_below_drewN | apply below_drew1) | exact HB.out)) hb); clear HB; have HB := n0_; clear n0_; (try clear hb); (try clear hb2); (try clear hk); (try clear hi)) | ((with_reducible refine gate_dst (N := 11) rfl ?_); (try (refine gate_guard (by rfl) ?_; dsimp only)); refine Kd.R_lit (Kd.int .u8) _ 5 ?hg (N := 11) ?hd (xs := ([a0] : List Int)) (inner := [.int .u8 a0]) (ok := fun _ => True) (okp := fun _ => True) ?hr ?hp (fun _ hk => hk) trivial (Below.refl _ _) (Nat.le_refl _) (by simp) ?_; (case hd => rfl); (case hg => rfl); (case hr => first | (go_simp; done) | (go_simp; rfl)); (case hp => exact (Reps.one (show Kd.M (Kd.int .u8) _ _ _ a0 [.int .u8 a0] from rfl) (Reps.none _ _))); intro v200 w19 ho20 hb hg_ hnew_; clear hg_ hnew_; (first | rw [← Ny199.out] at ho20 | (simp only [Int.reduceToNat] at ho20; rw [← Ny199.out] at ho20)); have n0_ := Aside0.mk (Kd.R_lower ho20 (below_size (by repeat (first | (with_reducible first | exact HB.out | apply below_alloc | apply pw_below_drewN | apply below_drew1) | exact HB.out)))); have n1_ := Aside0.mk (below_step (by repeat (first | (with_reducible first | exact HB.out | apply below_alloc | apply pw_below_drewN | apply below_drew1) | exact HB.out)) hb); clear HB; have HO201 := n0_; have HB := n1_; clear n0_ n1_; clear hb ho20; have hcv21 := own_string (P := Try.prog) Try.underlying32 Try.underlying5 Try.underlying9 (Kd.own_of_R HO201.out)) | ((with_reducible refine gate_callee (f := 16) rfl ?_); refine goesL_ (some 16) rfl rfl Try.func16 (by kernel_rfl) rfl #[.string ((⟨#[92]⟩ : ByteArray) ++ (strOfNums y199))] rfl (by (try simp only [List.map_toArray, List.map_cons, List.map_nil]); first | done | rfl | (simp only [List.length_drop, List.length_take]; rfl)) ?_; (with_reducible refine (glob_Plain.calls k ((⟨#[92]⟩ : ByteArray) ++ (strOfNums y199)) t202 true _ A6.out).mono ?_); rintro e w22 ⟨rfl, hb⟩; refine ⟨_, rfl, ?_⟩; have n0_ := Aside0.mk (Kd.R_below (by (with_reducible repeat (first | apply Kd.R_alloc | apply Kd.R_drewN | apply Kd.R_drew)); exact HO201.out) hb); have n1_ := Aside0.mk (below_step (by repeat (first | (with_reducible first | exact HB.out | apply below_alloc | apply pw_below_drewN | apply below_drew1) | exact HB.out)) hb); clear HO201; clear HB; have HO201 := n0_; have HB := n1_; clear n0_ n1_; (try clear hb); (try clear hb2); (try clear hk); (try clear hi)) | ((with_reducible refine gate_callee (f := 12) rfl ?_); refine goesL_ (some 20) rfl rfl Try.func12 (by kernel_rfl) rfl #[.string ((⟨#[92]⟩ : ByteArray) ++ (strOfNums y199))] rfl (by (try simp only [List.map_toArray, List.map_cons, List.map_nil]); first | done | rfl | (simp only [List.length_drop, List.length_take]; rfl)) ?_; (with_reducible refine (glob_Right.calls k ((⟨#[92]⟩ : ByteArray) ++ (strOfNums y199)) true _ A7.out).mono ?_); rintro e w23 ⟨rfl, hb⟩; refine ⟨_, rfl, ?_⟩; have n0_ := Aside0.mk (Kd.R_below (by (with_reducible repeat (first | apply Kd.R_alloc | apply Kd.R_drewN | apply Kd.R_drew)); exact HO201.out) hb); have n1_ := Aside0.mk (below_step (by repeat (first | (with_reducible first | exact HB.out | apply below_alloc | apply pw_below_drewN | apply below_drew1) | exact HB.out)) hb); clear HO201; clear HB; have HO201 := n0_; have HB := n1_; clear n0_ n1_; (try clear hb); (try clear hb2); (try clear hk); (try clear hi)) | ((with_reducible refine gate_dst (N := 24) rfl ?_); (try (refine gate_guard (by rfl) ?_; dsimp only)); refine Kd.R_lit (Kd.int .u8) _ 5 ?hg (N := 24) ?hd (xs := ([a1] : List Int)) (inner := [.int .u8 a1]) (ok := fun _ => True) (okp := fun _ => True) ?hr ?hp (fun _ hk => hk) trivial (Below.refl _ _) (Nat.le_refl _) (by simp) ?_; (case hd => rfl); (case hg => rfl); (case hr => first | (go_simp; done) | (go_simp; rfl)); (case hp => exact (Reps.one (show Kd.M (Kd.int .u8) _ _ _ a1 [.int .u8 a1] from rfl) (Reps.none _ _))); intro v206 w24 ho25 hb hg_ hnew_; clear hg_ hnew_; (first | rw [← Ny205.out] at ho25 | (simp only [Int.reduceToNat] at ho25; rw [← Ny205.out] at ho25)); have n0_ := Aside0.mk (Kd.R_elder' (by (with_reducible repeat (first | apply Kd.R_alloc | apply Kd.R_drewN | apply Kd.R_drew)); exact HO201.out) (Kd.R_base ho25) hb); have n1_ := Aside0.mk (Kd.R_lower (Kd.R_new' ho25 (Kd.R_lt (by (with_reducible repeat (first | apply Kd.R_alloc | apply Kd.R_drewN | apply Kd.R_drew)); exact HO201.out))) (below_size (by repeat (first | (with_reducible first | exact HB.out | apply below_alloc | apply pw_below_drewN | apply below_drew1) | exact HB.out)))); have n2_ := Aside0.mk (below_step (by repeat (first | (with_reducible first | exact HB.out | apply below_alloc | apply pw_below_drewN | apply below_drew1) | exact HB.out)) hb); clear HO201; clear HB; have HO201 := n0_; have HO207 := n1_; have HB := n2_; clear n0_ n1_ n2_; clear hb ho25; have hcv26 := own_string (P := Try.prog) Try.underlying32 Try.underlying5 Try.underlying9 (Kd.own_of_R HO207.out)) | (go_at_call 13; (with_reducible refine (glob_Match.calls k ((⟨#[92]⟩ : ByteArray) ++ (strOfNums y199)) (strOfNums y205) t208 _ A9.out).mono ?_); rintro e w27 ⟨rfl, hb⟩; have n0_ := Aside0.mk (Kd.R_below (by (with_reducible repeat (first | apply Kd.R_alloc | apply Kd.R_drewN | apply Kd.R_drew)); exact HO201.out) hb); have n1_ := Aside0.mk (Kd.R_below (by (with_reducible repeat (first | apply Kd.R_alloc | apply Kd.R_drewN | apply Kd.R_drew)); exact HO207.out) hb); have n2_ := Aside0.mk (below_step (by repeat (first | (with_reducible first | exact HB.out | apply below_alloc | apply pw_below_drewN | apply below_drew1) | exact HB.out)) hb); clear HO201; clear HO207; clear HB; have HO201 := n0_; have HO207 := n1_; have HB := n2_; clear n0_ n1_ n2_; (try clear hb); (try clear hb2); (try clear hk); (try clear hi)) | (go_at_call 13; (with_reducible refine (glob_Match.calls k ((⟨#[92]⟩ : ByteArray) ++ (strOfNums y199)) (⟨#[]⟩ : ByteArray) false _ A11.out).mono ?_); rintro e w28 ⟨rfl, hb⟩; have n0_ := Aside0.mk (Kd.R_below (by (with_reducible repeat (first | apply Kd.R_alloc | apply Kd.R_drewN | apply Kd.R_drew)); exact HO201.out) hb); have n1_ := Aside0.mk (Kd.R_below (by (with_reducible repeat (first | apply Kd.R_alloc | apply Kd.R_drewN | apply Kd.R_drew)); exact HO207.out) hb); have n2_ := Aside0.mk (below_step (by repeat (first | (with_reducible first | exact HB.out | apply below_alloc | apply pw_below_drewN | apply below_drew1) | exact HB.out)) hb); clear HO201; clear HO207; clear HB; have HO201 := n0_; have HO207 := n1_; have HB := n2_; clear n0_ n1_ n2_; (try clear hb); (try clear hb2); (try clear hk); (try clear hi)) | ((with_reducible refine gate_dst (N := 43) rfl ?_); (try (refine gate_guard (by rfl) ?_; dsimp only)); refine Kd.R_lit (Kd.int .u8) _ 5 ?hg (N := 43) ?hd (xs := ([a0] : List Int)) (inner := [.int .u8 a0]) (ok := fun _ => True) (okp := fun _ => True) ?hr ?hp (fun _ hk => hk) trivial (Below.refl _ _) (Nat.le_refl _) (by simp) ?_; (case hd => rfl); (case hg => rfl); (case hr => first | (go_simp; done) | (go_simp; rfl)); (case hp => exact (Reps.one (show Kd.M (Kd.int .u8) _ _ _ a0 [.int .u8 a0] from rfl) (Reps.none _ _))); intro v211 w29 ho30 hb hg_ hnew_; clear hg_ hnew_; (first | rw [← Ny210.out] at ho30 | (simp only [Int.reduceToNat] at ho30; rw [← Ny210.out] at ho30)); have n0_ := Aside0.mk (Kd.R_elder' (by (with_reducible repeat (first | apply Kd.R_alloc | apply Kd.R_drewN | apply Kd.R_drew)); exact HO201.out) (Kd.R_base ho30) hb); have n1_ := Aside0.mk (Kd.R_elder' (by (with_reducible repeat (first | apply Kd.R_alloc | apply Kd.R_drewN | apply Kd.R_drew)); exact HO207.out) (Kd.R_base ho30) hb); have n2_ := Aside0.mk (Kd.R_lower (Kd.R_new' (Kd.R_new' ho30 (Kd.R_lt (by (with_reducible repeat (first | apply Kd.R_alloc | apply Kd.R_drewN | apply Kd.R_drew)); exact HO201.out))) (Kd.R_lt (by (with_reducible repeat (first | apply Kd.R_alloc | apply Kd.R_drewN | apply Kd.R_drew)); exact HO207.out))) (below_size (by repeat (first | (with_reducible first | exact HB.out | apply below_alloc | apply pw_below_drewN | apply below_drew1) | exact HB.out)))); have n3_ := Aside0.mk (below_step (by repeat (first | (with_reducible first | exact HB.out | apply below_alloc | apply pw_below_drewN | apply below_drew1) | exact HB.out)) hb); clear HO201; clear HO207; clear HB; have HO201 := n0_; have HO207 := n1_; have HO212 := n2_; have HB := n3_; clear n0_ n1_ n2_ n3_; clear hb ho30; have hcv31 := own_string (P := Try.prog) Try.underlying32 Try.underlying5 Try.underlying9 (Kd.own_of_R HO212.out)) | (go_at_call 12; (with_reducible refine (glob_Right.calls k (⟨#[92]⟩ : ByteArray) false _ A15.out).mono ?_); rintro e w32 ⟨rfl, hb⟩; have n0_ := Aside0.mk (Kd.R_below (by (with_reducible repeat (first | apply Kd.R_alloc | apply Kd.R_drewN | apply Kd.R_drew)); exact HO201.out) hb); have n1_ := Aside0.mk (Kd.R_below (by (with_reducible repeat (first | apply Kd.R_alloc | apply Kd.R_drewN | apply Kd.R_drew)); exact HO207.out) hb); have n2_ := Aside0.mk (Kd.R_below (by (with_reducible repeat (first | apply Kd.R_alloc | apply Kd.R_drewN | apply Kd.R_drew)); exact HO212.out) hb); have n3_ := Aside0.mk (below_step (by repeat (first | (with_reducible first | exact HB.out | apply below_alloc | apply pw_below_drewN | apply below_drew1) | exact HB.out)) hb); clear HO201; clear HO207; clear HO212; clear HB; have HO201 := n0_; have HO207 := n1_; have HO212 := n2_; have HB := n3_; clear n0_ n1_ n2_ n3_; (try clear hb); (try clear hb2); (try clear hk); (try clear hi)) | (go_at_call 13; (with_reducible refine (glob_Match.calls k (⟨#[92]⟩ : ByteArray) (⟨#[92]⟩ : ByteArray) t214 _ A17.out).mono ?_); rintro e w33 ⟨rfl, hb⟩; have n0_ := Aside0.mk (Kd.R_below (by (with_reducible repeat (first | apply Kd.R_alloc | apply Kd.R_drewN | apply Kd.R_drew)); exact HO201.out) hb); have n1_ := Aside0.mk (Kd.R_below (by (with_reducible repeat (first | apply Kd.R_alloc | apply Kd.R_drewN | apply Kd.R_drew)); exact HO207.out) hb); have n2_ := Aside0.mk (Kd.R_below (by (with_reducible repeat (first | apply Kd.R_alloc | apply Kd.R_drewN | apply Kd.R_drew)); exact HO212.out) hb); have n3_ := Aside0.mk (below_step (by repeat (first | (with_reducible first | exact HB.out | apply below_alloc | apply pw_below_drewN | apply below_drew1) | exact HB.out)) hb); clear HO201; clear HO207; clear HO212; clear HB; have HO201 := n0_; have HO207 := n1_; have HO212 := n2_; have HB := n3_; clear n0_ n1_ n2_ n3_; (try clear hb); (try clear hb2); (try clear hk); (try clear hi)) | (go_at_call 10; (with_reducible refine (escutcheonlaw17_alive.calls k  true _ A3.out).mono ?_); rintro e w18 ⟨rfl, hb⟩; have n0_ := Aside0.mk (below_step (by repeat (first | (with_reducible first | exact HB.out | apply below_alloc | apply pw_below_drewN | apply below_drew1) | exact HB.out)) hb); clear HB; have HB := n0_; clear n0_; (try clear hb); (try clear hb2); (try clear hk); (try clear hi)) | (go_at_call 16; (with_reducible refine (glob_Plain.calls k ((⟨#[92]⟩ : ByteArray) ++ (strOfNums y199)) t202 true _ A6.out).mono ?_); rintro e w22 ⟨rfl, hb⟩; have n0_ := Aside0.mk (Kd.R_below (by (with_reducible repeat (first | apply Kd.R_alloc | apply Kd.R_drewN | apply Kd.R_drew)); exact HO201.out) hb); have n1_ := Aside0.mk (below_step (by repeat (first | (with_reducible first | exact HB.out | apply below_alloc | apply pw_below_drewN | apply below_drew1) | exact HB.out)) hb); clear HO201; clear HB; have HO201 := n0_; have HB := n1_; clear n0_ n1_; (try clear hb); (try clear hb2); (try clear hk); (try clear hi)) | (go_at_call 12; (with_reducible refine (glob_Right.calls k ((⟨#[92]⟩ : ByteArray) ++ (strOfNums y199)) true _ A7.out).mono ?_); rintro e w23 ⟨rfl, hb⟩; have n0_ := Aside0.mk (Kd.R_below (by (with_reducible repeat (first | apply Kd.R_alloc | apply Kd.R_drewN | apply Kd.R_drew)); exact HO201.out) hb); have n1_ := Aside0.mk (below_step (by repeat (first | (with_reducible first | exact HB.out | apply below_alloc | apply pw_below_drewN | apply below_drew1) | exact HB.out)) hb); clear HO201; clear HB; have HO201 := n0_; have HB := n1_; clear n0_ n1_; (try clear hb); (try clear hb2); (try clear hk); (try clear hi)))
                  go_ret
                  exact ⟨by first | rfl | (simp [errW_none, errW_some] <;> rfl) | (simp [*, errW_none, errW_some] <;> rfl), by repeat (first | (with_reducible first | exact HB.out | apply below_alloc | apply pw_below_drewN | apply below_drew1) | exact HB.out)⟩
              · rw [if_neg c14] at H
                exact absurd H (by simp)
            · replace c13 := Bool.eq_false_iff.mpr c13
              subst c13
              have H1 : (none) = some r := by rw [if_neg (show ¬ (false = true) by decide)] at H; exact H
              clear H
              have H := H1
              clear H1
              exact absurd H (by simp)
        · rw [if_neg c10] at H
          exact absurd H (by simp)
      · replace c8 := Bool.eq_false_iff.mpr c8
        subst c8
        have H1 : (none) = some r := by rw [if_neg (show ¬ (false = true) by decide)] at H; exact H
        clear H
        have H := H1
        clear H1
        exact absurd H (by simp)
    · rw [if_neg c5] at H
      exact absurd H (by simp)
  · replace c4 := Bool.eq_false_iff.mpr c4
    subst c4
    have H1 : (none) = some r := by rw [if_neg (show ¬ (false = true) by decide)] at H; exact H
    clear H
    have H := H1
    clear H1
    exact absurd H (by simp)

/-- THE ONE PURE STATEMENT of escutcheonlaw17_GlobEscapes: yours. -/
def escutcheonlaw17_GlobEscapes.Pure : Prop := ∀ (a0 : Int) (a1 : Int), (Lit.int .u8 a0).wf = true → (Lit.int .u8 a1).wf = true → ∃ k, escutcheonlaw17_GlobEscapes.f k a0 a1 = some true
theorem escutcheonlaw17_GlobEscapes.walk (P : escutcheonlaw17_GlobEscapes.Pure) (a0 : Int) (a1 : Int) (w : World) (w0 : (Lit.int .u8 a0).wf = true) (w1 : (Lit.int .u8 a1).wf = true) :
    Calls Try.prog 8 #[.int .u8 a0, .int .u8 a1] w fun e w' => e = .returned (.bool true) ∧ Below w.heap.size w w' := by
  obtain ⟨k, h⟩ := P a0 a1 w0 w1
  refine (escutcheonlaw17_GlobEscapes.calls k a0 a1 true w h).mono ?_
  rintro e w' ⟨rfl, hd⟩
  exact ⟨rfl, hd⟩

end Go.Proofs.Ytigbeielobdfiaa.P
