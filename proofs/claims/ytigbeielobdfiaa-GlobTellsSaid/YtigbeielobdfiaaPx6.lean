-- Written by wip/inj.py (the kit's print, with contracts typed by hand beside it).
import Derived.Test.YtigbeielobdfiaaPx0
import Derived.Test.YtigbeielobdfiaaPx1
import Derived.Test.YtigbeielobdfiaaPx2
import Derived.Test.YtigbeielobdfiaaPx4
import Derived.Test.YtigbeielobdfiaaPx5
namespace Go.Proofs.Ytigbeielobdfiaa.P
open Go.RowKit Go.Proofs.YtigbeielobdfiaaW.PrintWords Go.Proofs.YtigbeielobdfiaaW.PrintLast Go.Proofs.YtigbeielobdfiaaW.PrintMore
attribute [local go_sem] max2_int min2_int max_two min_two max_three min_three max_four min_four   -- for this text's walks alone
set_option linter.unusedVariables false
set_option linter.unusedSimpArgs false

/-! ### escutcheonlaw17_GlobTells: function 3 -/
def escutcheonlaw17_GlobTells.j0 : Nat → ByteArray → ByteArray → Bool → Option (Bool)
  | 0, _, _, _ => none
  | k + 1, x0, x1, x17 => if x17 = true then ((escutcheonlaw17_alive.f k).bind fun t161 => (some t161)) else ((escutcheonref14_Glob.f k x0).bind fun t162 => ((glob_Right.f k x0).bind fun t163 => (if (t163 == t162) = true then ((glob_Match.f k x0 x1).bind fun t164 => (if t162 = true then ((escutcheonref14_Match.f k x0 x1).bind fun t165 => (some (t164 == t165))) else (some (t164 == false)))) else (none))))
def escutcheonlaw17_GlobTells.f (k : Nat) (a0 : ByteArray) (a1 : ByteArray) : Option (Bool) := if (a0.size : Int) > 100 then (escutcheonlaw17_GlobTells.j0 k a0 a1 true) else (if (a1.size : Int) > 200 then (escutcheonlaw17_GlobTells.j0 k a0 a1 true) else ((escutcheonlaw17_alive.f k).bind fun t160 => (escutcheonlaw17_GlobTells.j0 k a0 a1 (!t160))))
theorem escutcheonlaw17_GlobTells.mono_l : ∀ k, (∀ y0 y1 y2, LeO (escutcheonlaw17_GlobTells.j0 k y0 y1 y2) (escutcheonlaw17_GlobTells.j0 (k + 1) y0 y1 y2))
  | 0 => fun _ _ _ r h => by simp [escutcheonlaw17_GlobTells.j0] at h
  | k + 1 => by
    have ih0 := escutcheonlaw17_GlobTells.mono_l k
    · intro y0 y1 y2
      unfold escutcheonlaw17_GlobTells.j0
      repeat' first
      | (with_reducible exact ih0 _ _ _)
      | (with_reducible exact escutcheonlaw17_alive.mono _)
      | (with_reducible exact escutcheonref14_Glob.mono _ _)
      | (with_reducible exact escutcheonref14_Match.mono _ _ _)
      | (with_reducible exact glob_Match.mono _ _ _)
      | (with_reducible exact glob_Right.mono _ _)
      | (with_reducible exact LeO.refl _)
      | (with_reducible exact LeO.none _)
      | (with_reducible refine LeO.ite ?_ ?_)
      | (with_reducible refine LeO.bind ?_ (fun _ => ?_))
      | exact ih0 _ _ _
      | exact escutcheonlaw17_alive.mono _
      | exact escutcheonref14_Glob.mono _ _
      | exact escutcheonref14_Match.mono _ _ _
      | exact glob_Match.mono _ _ _
      | exact glob_Right.mono _ _
      | exact LeO.none _
      | refine LeO.ite ?_ ?_
      | refine LeO.bind ?_ (fun _ => ?_)
theorem escutcheonlaw17_GlobTells.mono : ∀ a0 a1 k, LeO (escutcheonlaw17_GlobTells.f k a0 a1) (escutcheonlaw17_GlobTells.f (k + 1) a0 a1) := by
  intro a0 a1 k
  have ih0 := escutcheonlaw17_GlobTells.mono_l k
  unfold escutcheonlaw17_GlobTells.f
  repeat' first
      | (with_reducible exact ih0 _ _ _)
      | (with_reducible exact escutcheonlaw17_alive.mono _)
      | (with_reducible exact escutcheonref14_Glob.mono _ _)
      | (with_reducible exact escutcheonref14_Match.mono _ _ _)
      | (with_reducible exact glob_Match.mono _ _ _)
      | (with_reducible exact glob_Right.mono _ _)
      | (with_reducible exact LeO.refl _)
      | (with_reducible exact LeO.none _)
      | (with_reducible refine LeO.ite ?_ ?_)
      | (with_reducible refine LeO.bind ?_ (fun _ => ?_))
      | exact ih0 _ _ _
      | exact escutcheonlaw17_alive.mono _
      | exact escutcheonref14_Glob.mono _ _
      | exact escutcheonref14_Match.mono _ _ _
      | exact glob_Match.mono _ _ _
      | exact glob_Right.mono _ _
      | exact LeO.none _
      | refine LeO.ite ?_ ?_
      | refine LeO.bind ?_ (fun _ => ?_)
set_option maxHeartbeats 8000000 in
set_option maxRecDepth 100000 in
theorem escutcheonlaw17_GlobTells.calls (k : Nat) (a0 : ByteArray) (a1 : ByteArray) (r : Bool) (w : World) (h : escutcheonlaw17_GlobTells.f k a0 a1 = some r) :
    Calls Try.prog 3 #[.string a0, .string a1] w fun e w' => e = .returned (.bool r) ∧ Below w.heap.size w w' := by
  have HB := Aside0.mk (Below.refl w.heap.size w)
  have H : (if (a0.size : Int) > 100 then (escutcheonlaw17_GlobTells.j0 k a0 a1 true) else (if (a1.size : Int) > 200 then (escutcheonlaw17_GlobTells.j0 k a0 a1 true) else ((escutcheonlaw17_alive.f k).bind fun t160 => (escutcheonlaw17_GlobTells.j0 k a0 a1 (!t160))))) = some r := h
  clear h
  have HC3 := Aside0.mk H
  clear H
  go_enter Try.func3, Try.ntmps3
  go_upto_region 1 with (fail)
  go_cut [17] (fun v17 wc => ∃ (kq : Nat) (x17_2 : Bool), v17 = .bool x17_2 ∧ Aside0 (escutcheonlaw17_GlobTells.j0 kq a0 a1 x17_2 = some r) ∧ Aside0 (kq ≤ k) ∧ Aside0 (Below w.heap.size w wc))
  case first =>
    have H := HC3.out
    clear HC3
    by_cases c4 : (a0.size : Int) > 100
    · rw [if_pos c4] at H
      have c4b0 : decide (100 < (a0.size : Int)) = true := decide_eq_true c4
      have c4b1 : decide (100 < a0.size) = true := decide_eq_true (by omega)
      clear c4
      (first | rw [c4b0] | (simp only [i64_w, i32_w]; rw [c4b0]) | skip)
      have H' := Aside0.mk H
      clear H
      go_wp2
      go_meet
      case rel => exact ⟨_, (true), (by first | rfl | (simp; done) | (simp [*]; done)), H', ⟨by first | omega | exact Nat.le_refl _⟩, ⟨by repeat (first | (with_reducible first | exact HB.out | apply below_alloc | apply pw_below_drewN | apply below_drew1) | exact HB.out)⟩⟩
    · rw [if_neg c4] at H
      have c4b0 : decide (100 < (a0.size : Int)) = false := decide_eq_false c4
      have c4b1 : decide (100 < a0.size) = false := decide_eq_false (by omega)
      clear c4
      (first | rw [c4b0] | (simp only [i64_w, i32_w]; rw [c4b0]) | skip)
      by_cases c5 : (a1.size : Int) > 200
      · rw [if_pos c5] at H
        have c5b0 : decide (200 < (a1.size : Int)) = true := decide_eq_true c5
        have c5b1 : decide (200 < a1.size) = true := decide_eq_true (by omega)
        clear c5
        have H' := Aside0.mk H
        clear H
        go_wp2
        go_meet
        case rel => exact ⟨_, (true), (by first | rfl | (simp; done) | (simp [*]; done)), H', ⟨by first | omega | exact Nat.le_refl _⟩, ⟨by repeat (first | (with_reducible first | exact HB.out | apply below_alloc | apply pw_below_drewN | apply below_drew1) | exact HB.out)⟩⟩
      · rw [if_neg c5] at H
        have c5b0 : decide (200 < (a1.size : Int)) = false := decide_eq_false c5
        have c5b1 : decide (200 < a1.size) = false := decide_eq_false (by omega)
        clear c5
        replace H := Option.bind_eq_some_iff.mp H
        obtain ⟨t160, A60, H⟩ := H
        replace H : (escutcheonlaw17_GlobTells.j0 k a0 a1 (!t160)) = some r := H
        have A6 := Aside0.mk A60
        clear A60
        have H' := Aside0.mk H
        clear H
        go_wp2_with (first | (go_at_call 10; (with_reducible refine (escutcheonlaw17_alive.calls k  t160 _ A6.out).mono ?_); rintro e w7 ⟨rfl, hb⟩; have n0_ := Aside0.mk (below_step (by repeat (first | (with_reducible first | exact HB.out | apply below_alloc | apply pw_below_drewN | apply below_drew1) | exact HB.out)) hb); clear HB; have HB := n0_; clear n0_; (try clear hb); (try clear hb2); (try clear hk); (try clear hi)))
        go_meet
        case rel => exact ⟨_, (!t160), (by first | rfl | (simp; done) | (simp [*]; done)), H', ⟨by first | omega | exact Nat.le_refl _⟩, ⟨by repeat (first | (with_reducible first | exact HB.out | apply below_alloc | apply pw_below_drewN | apply below_drew1) | exact HB.out)⟩⟩
  case rest =>
    clear HC3
    try clear p2
    try clear c3
    try clear c4
    try clear c4b0
    try clear c4b1
    try clear c5
    try clear c5b0
    try clear c5b1
    obtain ⟨kq, x17_2, rfl, HA, HJ2, HB⟩ := hcut
    cases kq with
    | zero => exact absurd HA.out (by simp [escutcheonlaw17_GlobTells.j0])
    | succ kj2 =>
      have H := HA.out
      clear HA
      simp only [escutcheonlaw17_GlobTells.j0] at H
      by_cases c8 : x17_2 = true
      · subst c8
        have H1 : ((escutcheonlaw17_alive.f kj2).bind fun t161 => (some t161)) = some r := by rw [if_pos rfl] at H; exact H
        clear H
        have H := H1
        clear H1
        replace H := Option.bind_eq_some_iff.mp H
        obtain ⟨t161, A90, H⟩ := H
        replace H : (some t161) = some r := H
        have A9 := Aside0.mk A90
        clear A90
        obtain rfl := Option.some.inj H
        go_wp2_with (first | ((with_reducible refine gate_callee (f := 10) rfl ?_); refine goesL_ (some 18) rfl rfl Try.func10 (by kernel_rfl) rfl #[] rfl (by (try simp only [List.map_toArray, List.map_cons, List.map_nil]); first | done | rfl | (simp only [List.length_drop, List.length_take]; rfl)) ?_; (with_reducible refine (escutcheonlaw17_alive.calls kj2  t161 _ A9.out).mono ?_); rintro e w10 ⟨rfl, hb⟩; refine ⟨_, rfl, ?_⟩; have n0_ := Aside0.mk (below_step (by repeat (first | (with_reducible first | exact HB.out | apply below_alloc | apply pw_below_drewN | apply below_drew1) | exact HB.out)) hb); clear HB; have HB := n0_; clear n0_; (try clear hb); (try clear hb2); (try clear hk); (try clear hi)))
        go_ret
        exact ⟨by first | rfl | (simp [errW_none, errW_some] <;> rfl) | (simp [*, errW_none, errW_some] <;> rfl), by repeat (first | (with_reducible first | exact HB.out | apply below_alloc | apply pw_below_drewN | apply below_drew1) | exact HB.out)⟩
      · replace c8 := Bool.eq_false_iff.mpr c8
        subst c8
        have H1 : ((escutcheonref14_Glob.f kj2 a0).bind fun t162 => ((glob_Right.f kj2 a0).bind fun t163 => (if (t163 == t162) = true then ((glob_Match.f kj2 a0 a1).bind fun t164 => (if t162 = true then ((escutcheonref14_Match.f kj2 a0 a1).bind fun t165 => (some (t164 == t165))) else (some (t164 == false)))) else (none)))) = some r := by rw [if_neg (show ¬ (false = true) by decide)] at H; exact H
        clear H
        have H := H1
        clear H1
        replace H := Option.bind_eq_some_iff.mp H
        obtain ⟨t162, A110, H⟩ := H
        replace H : ((glob_Right.f kj2 a0).bind fun t163 => (if (t163 == t162) = true then ((glob_Match.f kj2 a0 a1).bind fun t164 => (if t162 = true then ((escutcheonref14_Match.f kj2 a0 a1).bind fun t165 => (some (t164 == t165))) else (some (t164 == false)))) else (none))) = some r := H
        have A11 := Aside0.mk A110
        clear A110
        replace H := Option.bind_eq_some_iff.mp H
        obtain ⟨t163, A120, H⟩ := H
        replace H : (if (t163 == t162) = true then ((glob_Match.f kj2 a0 a1).bind fun t164 => (if t162 = true then ((escutcheonref14_Match.f kj2 a0 a1).bind fun t165 => (some (t164 == t165))) else (some (t164 == false)))) else (none)) = some r := H
        have A12 := Aside0.mk A120
        clear A120
        by_cases c13 : (t163 == t162) = true
        · rw [if_pos c13] at H
          have c13b0 : (t163 == t162) = true := c13
          (try (have c13b1 : decide (t163 = t162) = true := by simpa using c13))
          (try (have c13b2 : (t163 == t162) = true := by simpa using c13))
          clear c13
          replace H := Option.bind_eq_some_iff.mp H
          obtain ⟨t164, A140, H⟩ := H
          replace H : (if t162 = true then ((escutcheonref14_Match.f kj2 a0 a1).bind fun t165 => (some (t164 == t165))) else (some (t164 == false))) = some r := H
          have A14 := Aside0.mk A140
          clear A140
          by_cases c15 : t162 = true
          · subst c15
            have H1 : ((escutcheonref14_Match.f kj2 a0 a1).bind fun t165 => (some (t164 == t165))) = some r := by rw [if_pos rfl] at H; exact H
            clear H
            have H := H1
            clear H1
            replace H := Option.bind_eq_some_iff.mp H
            obtain ⟨t165, A160, H⟩ := H
            replace H : (some (t164 == t165)) = some r := H
            have A16 := Aside0.mk A160
            clear A160
            obtain rfl := Option.some.inj H
            go_wp2_with (first | ((with_reducible refine gate_callee (f := 11) rfl ?_); refine goesL_ (some 20) rfl rfl Try.func11 (by kernel_rfl) rfl #[.string a0] rfl (by (try simp only [List.map_toArray, List.map_cons, List.map_nil]); first | done | rfl | (simp only [List.length_drop, List.length_take]; rfl)) ?_; (with_reducible refine (escutcheonref14_Glob.calls kj2 a0 true _ A11.out).mono ?_); rintro e w' ⟨rfl, ⟨nd, rfl⟩⟩; refine ⟨_, rfl, ?_⟩) | ((with_reducible refine gate_callee (f := 12) rfl ?_); refine goesL_ (some 22) rfl rfl Try.func12 (by kernel_rfl) rfl #[.string a0] rfl (by (try simp only [List.map_toArray, List.map_cons, List.map_nil]); first | done | rfl | (simp only [List.length_drop, List.length_take]; rfl)) ?_; (with_reducible refine (glob_Right.calls kj2 a0 t163 _ A12.out).mono ?_); rintro e w17 ⟨rfl, hb⟩; refine ⟨_, rfl, ?_⟩; have n0_ := Aside0.mk (below_step (by repeat (first | (with_reducible first | exact HB.out | apply below_alloc | apply pw_below_drewN | apply below_drew1) | exact HB.out)) hb); clear HB; have HB := n0_; clear n0_; (try clear hb); (try clear hb2); (try clear hk); (try clear hi)) | (go_at_call 13; (with_reducible refine (glob_Match.calls kj2 a0 a1 t164 _ A14.out).mono ?_); rintro e w18 ⟨rfl, hb⟩; have n0_ := Aside0.mk (below_step (by repeat (first | (with_reducible first | exact HB.out | apply below_alloc | apply pw_below_drewN | apply below_drew1) | exact HB.out)) hb); clear HB; have HB := n0_; clear n0_; (try clear hb); (try clear hb2); (try clear hk); (try clear hi)) | (go_at_call 14; (with_reducible refine (escutcheonref14_Match.calls kj2 a0 a1 t165 _ A16.out).mono ?_); rintro e w19 ⟨rfl, hb⟩; have n0_ := Aside0.mk (below_step (by repeat (first | (with_reducible first | exact HB.out | apply below_alloc | apply pw_below_drewN | apply below_drew1) | exact HB.out)) hb); clear HB; have HB := n0_; clear n0_; (try clear hb); (try clear hb2); (try clear hk); (try clear hi)) | (go_at_call 11; (with_reducible refine (escutcheonref14_Glob.calls kj2 a0 true _ A11.out).mono ?_); rintro e w' ⟨rfl, ⟨nd, rfl⟩⟩) | (go_at_call 12; (with_reducible refine (glob_Right.calls kj2 a0 t163 _ A12.out).mono ?_); rintro e w17 ⟨rfl, hb⟩; have n0_ := Aside0.mk (below_step (by repeat (first | (with_reducible first | exact HB.out | apply below_alloc | apply pw_below_drewN | apply below_drew1) | exact HB.out)) hb); clear HB; have HB := n0_; clear n0_; (try clear hb); (try clear hb2); (try clear hk); (try clear hi)))
            go_ret
            exact ⟨by first | rfl | (simp [errW_none, errW_some] <;> rfl) | (simp [*, errW_none, errW_some] <;> rfl), by repeat (first | (with_reducible first | exact HB.out | apply below_alloc | apply pw_below_drewN | apply below_drew1) | exact HB.out)⟩
          · replace c15 := Bool.eq_false_iff.mpr c15
            subst c15
            have H1 : (some (t164 == false)) = some r := by rw [if_neg (show ¬ (false = true) by decide)] at H; exact H
            clear H
            have H := H1
            clear H1
            obtain rfl := Option.some.inj H
            go_wp2_with (first | ((with_reducible refine gate_callee (f := 11) rfl ?_); refine goesL_ (some 20) rfl rfl Try.func11 (by kernel_rfl) rfl #[.string a0] rfl (by (try simp only [List.map_toArray, List.map_cons, List.map_nil]); first | done | rfl | (simp only [List.length_drop, List.length_take]; rfl)) ?_; (with_reducible refine (escutcheonref14_Glob.calls kj2 a0 false _ A11.out).mono ?_); rintro e w' ⟨rfl, ⟨nd, rfl⟩⟩; refine ⟨_, rfl, ?_⟩) | ((with_reducible refine gate_callee (f := 12) rfl ?_); refine goesL_ (some 22) rfl rfl Try.func12 (by kernel_rfl) rfl #[.string a0] rfl (by (try simp only [List.map_toArray, List.map_cons, List.map_nil]); first | done | rfl | (simp only [List.length_drop, List.length_take]; rfl)) ?_; (with_reducible refine (glob_Right.calls kj2 a0 t163 _ A12.out).mono ?_); rintro e w20 ⟨rfl, hb⟩; refine ⟨_, rfl, ?_⟩; have n0_ := Aside0.mk (below_step (by repeat (first | (with_reducible first | exact HB.out | apply below_alloc | apply pw_below_drewN | apply below_drew1) | exact HB.out)) hb); clear HB; have HB := n0_; clear n0_; (try clear hb); (try clear hb2); (try clear hk); (try clear hi)) | (go_at_call 13; (with_reducible refine (glob_Match.calls kj2 a0 a1 t164 _ A14.out).mono ?_); rintro e w21 ⟨rfl, hb⟩; have n0_ := Aside0.mk (below_step (by repeat (first | (with_reducible first | exact HB.out | apply below_alloc | apply pw_below_drewN | apply below_drew1) | exact HB.out)) hb); clear HB; have HB := n0_; clear n0_; (try clear hb); (try clear hb2); (try clear hk); (try clear hi)) | (go_at_call 11; (with_reducible refine (escutcheonref14_Glob.calls kj2 a0 false _ A11.out).mono ?_); rintro e w' ⟨rfl, ⟨nd, rfl⟩⟩) | (go_at_call 12; (with_reducible refine (glob_Right.calls kj2 a0 t163 _ A12.out).mono ?_); rintro e w20 ⟨rfl, hb⟩; have n0_ := Aside0.mk (below_step (by repeat (first | (with_reducible first | exact HB.out | apply below_alloc | apply pw_below_drewN | apply below_drew1) | exact HB.out)) hb); clear HB; have HB := n0_; clear n0_; (try clear hb); (try clear hb2); (try clear hk); (try clear hi)))
            go_ret
            exact ⟨by first | rfl | (simp [errW_none, errW_some] <;> rfl) | (simp [*, errW_none, errW_some] <;> rfl), by repeat (first | (with_reducible first | exact HB.out | apply below_alloc | apply pw_below_drewN | apply below_drew1) | exact HB.out)⟩
        · rw [if_neg c13] at H
          exact absurd H (by simp)

/-- THE ONE PURE STATEMENT of escutcheonlaw17_GlobTells: yours. -/
def escutcheonlaw17_GlobTells.Pure : Prop := ∀ (a0 : ByteArray) (a1 : ByteArray), a0.size ≤ 140737488351232 → a1.size ≤ 140737488351232 → ∃ k, escutcheonlaw17_GlobTells.f k a0 a1 = some true
theorem escutcheonlaw17_GlobTells.walk (P : escutcheonlaw17_GlobTells.Pure) (a0 : ByteArray) (a1 : ByteArray) (w : World) (w0 : a0.size ≤ 140737488351232) (w1 : a1.size ≤ 140737488351232) :
    Calls Try.prog 3 #[.string a0, .string a1] w fun e w' => e = .returned (.bool true) ∧ Below w.heap.size w w' := by
  obtain ⟨k, h⟩ := P a0 a1 w0 w1
  refine (escutcheonlaw17_GlobTells.calls k a0 a1 true w h).mono ?_
  rintro e w' ⟨rfl, hd⟩
  exact ⟨rfl, hd⟩

end Go.Proofs.Ytigbeielobdfiaa.P
