-- Written by wip/inj.py (the kit's print, with contracts typed by hand beside it).
import Derived.Test.YtagoibmemonkaaaPx0
import Derived.Test.YtagoibmemonkaaaPx3
import Derived.Test.YtagoibmemonkaaaPx5
import Derived.Test.YtagoibmemonkaaaPx12
namespace Go.Proofs.Ytagoibmemonkaaa.P
open Go.RowKit Go.Proofs.YtagoibmemonkaaaW.PrintWords Go.Proofs.YtagoibmemonkaaaW.PrintLast Go.Proofs.YtagoibmemonkaaaW.PrintMore
attribute [local go_sem] max2_int min2_int max_two min_two max_three min_three max_four min_four   -- for this text's walks alone
set_option linter.unusedVariables false
set_option linter.unusedSimpArgs false

/-! ### escutcheonlaw6_OnetimeShifts: function 6 -/
def escutcheonlaw6_OnetimeShifts.j0 : Nat → ByteArray → ByteArray → ByteArray → ByteArray → Bool → Option (Bool)
  | 0, _, _, _, _, _ => none
  | k + 1, x0, x1, x2, x3, x19 => if x19 = true then ((escutcheonlaw6_alive.f k).bind fun t236 => (some t236)) else ((escutcheonlaw5_Fill.f k x0 16).bind fun t237 => ((escutcheonlaw5_Fill.f k x1 16).bind fun t238 => ((escutcheonlaw5_Fill.f k x2 16).bind fun t239 => (if t237.size + t238.size ≤ 9223372036854775807 then ((onetime_Tag.f k (t237 ++ t238) x3).bind fun bt240 => (if t237.size + t239.size ≤ 9223372036854775807 then ((onetime_Tag.f k (t237 ++ t239) x3).bind fun bt242 => (if bt240.2 = true then (if bt242.2 = true then (if (bt240.1.size : Int) = 16 then (if (bt242.1.size : Int) = 16 then ((escutcheonlaw6_sum.f k bt240.1 t239).bind fun t244 => ((escutcheonlaw6_sum.f k bt242.1 t238).bind fun t245 => (some (t244.toList == t245.toList)))) else (none)) else (none)) else (none)) else (none))) else (none))) else (none)))))
def escutcheonlaw6_OnetimeShifts.f (k : Nat) (a0 : ByteArray) (a1 : ByteArray) (a2 : ByteArray) (a3 : ByteArray) : Option (Bool) := if (a3.size : Int) > 300 then (escutcheonlaw6_OnetimeShifts.j0 k a0 a1 a2 a3 true) else ((escutcheonlaw6_alive.f k).bind fun t235 => (escutcheonlaw6_OnetimeShifts.j0 k a0 a1 a2 a3 (!t235)))
theorem escutcheonlaw6_OnetimeShifts.mono_l : ∀ k, (∀ y0 y1 y2 y3 y4, LeO (escutcheonlaw6_OnetimeShifts.j0 k y0 y1 y2 y3 y4) (escutcheonlaw6_OnetimeShifts.j0 (k + 1) y0 y1 y2 y3 y4))
  | 0 => fun _ _ _ _ _ r h => by simp [escutcheonlaw6_OnetimeShifts.j0] at h
  | k + 1 => by
    have ih0 := escutcheonlaw6_OnetimeShifts.mono_l k
    · intro y0 y1 y2 y3 y4
      unfold escutcheonlaw6_OnetimeShifts.j0
      repeat' first
      | (with_reducible exact ih0 _ _ _ _ _)
      | (with_reducible exact escutcheonlaw5_Fill.mono _ _ _)
      | (with_reducible exact escutcheonlaw6_alive.mono _)
      | (with_reducible exact escutcheonlaw6_sum.mono _ _ _)
      | (with_reducible exact onetime_Tag.mono _ _ _)
      | (with_reducible exact LeO.refl _)
      | (with_reducible exact LeO.none _)
      | (with_reducible refine LeO.ite ?_ ?_)
      | (with_reducible refine LeO.bind ?_ (fun _ => ?_))
      | exact ih0 _ _ _ _ _
      | exact escutcheonlaw5_Fill.mono _ _ _
      | exact escutcheonlaw6_alive.mono _
      | exact escutcheonlaw6_sum.mono _ _ _
      | exact onetime_Tag.mono _ _ _
      | exact LeO.none _
      | refine LeO.ite ?_ ?_
      | refine LeO.bind ?_ (fun _ => ?_)
theorem escutcheonlaw6_OnetimeShifts.mono : ∀ a0 a1 a2 a3 k, LeO (escutcheonlaw6_OnetimeShifts.f k a0 a1 a2 a3) (escutcheonlaw6_OnetimeShifts.f (k + 1) a0 a1 a2 a3) := by
  intro a0 a1 a2 a3 k
  have ih0 := escutcheonlaw6_OnetimeShifts.mono_l k
  unfold escutcheonlaw6_OnetimeShifts.f
  repeat' first
      | (with_reducible exact ih0 _ _ _ _ _)
      | (with_reducible exact escutcheonlaw5_Fill.mono _ _ _)
      | (with_reducible exact escutcheonlaw6_alive.mono _)
      | (with_reducible exact escutcheonlaw6_sum.mono _ _ _)
      | (with_reducible exact onetime_Tag.mono _ _ _)
      | (with_reducible exact LeO.refl _)
      | (with_reducible exact LeO.none _)
      | (with_reducible refine LeO.ite ?_ ?_)
      | (with_reducible refine LeO.bind ?_ (fun _ => ?_))
      | exact ih0 _ _ _ _ _
      | exact escutcheonlaw5_Fill.mono _ _ _
      | exact escutcheonlaw6_alive.mono _
      | exact escutcheonlaw6_sum.mono _ _ _
      | exact onetime_Tag.mono _ _ _
      | exact LeO.none _
      | refine LeO.ite ?_ ?_
      | refine LeO.bind ?_ (fun _ => ?_)
set_option maxHeartbeats 8000000 in
set_option maxRecDepth 100000 in
theorem escutcheonlaw6_OnetimeShifts.calls (k : Nat) (a0 : ByteArray) (a1 : ByteArray) (a2 : ByteArray) (a3 : ByteArray) (r : Bool) (w : World) (h : escutcheonlaw6_OnetimeShifts.f k a0 a1 a2 a3 = some r) :
    Calls Try.prog 6 #[.string a0, .string a1, .string a2, .string a3] w fun e w' => e = .returned (.bool r) ∧ Below w.heap.size w w' := by
  have HB := Aside0.mk (Below.refl w.heap.size w)
  have H : (if (a3.size : Int) > 300 then (escutcheonlaw6_OnetimeShifts.j0 k a0 a1 a2 a3 true) else ((escutcheonlaw6_alive.f k).bind fun t235 => (escutcheonlaw6_OnetimeShifts.j0 k a0 a1 a2 a3 (!t235)))) = some r := h
  clear h
  have HC5 := Aside0.mk H
  clear H
  go_enter Try.func6, Try.ntmps6
  go_upto_region 1 with (fail)
  go_cut [19] (fun v19 wc => ∃ (kq : Nat) (x19_4 : Bool), v19 = .bool x19_4 ∧ Aside0 (escutcheonlaw6_OnetimeShifts.j0 kq a0 a1 a2 a3 x19_4 = some r) ∧ Aside0 (kq ≤ k) ∧ Aside0 (Below w.heap.size w wc))
  case first =>
    have H := HC5.out
    clear HC5
    by_cases c6 : (a3.size : Int) > 300
    · rw [if_pos c6] at H
      have c6b0 : decide (300 < (a3.size : Int)) = true := decide_eq_true c6
      have c6b1 : decide (300 < a3.size) = true := decide_eq_true (by omega)
      clear c6
      (first | rw [c6b0] | (simp only [i64_w, i32_w]; rw [c6b0]) | skip)
      have H' := Aside0.mk H
      clear H
      go_wp2
      go_meet
      case rel => exact ⟨_, (true), (by first | rfl | (simp; done) | (simp [*]; done)), H', ⟨by first | omega | exact Nat.le_refl _⟩, ⟨by repeat (first | (with_reducible first | exact HB.out | apply below_alloc | apply pw_below_drewN | apply below_drew1) | exact HB.out)⟩⟩
    · rw [if_neg c6] at H
      have c6b0 : decide (300 < (a3.size : Int)) = false := decide_eq_false c6
      have c6b1 : decide (300 < a3.size) = false := decide_eq_false (by omega)
      clear c6
      (first | rw [c6b0] | (simp only [i64_w, i32_w]; rw [c6b0]) | skip)
      replace H := Option.bind_eq_some_iff.mp H
      obtain ⟨t235, A70, H⟩ := H
      replace H : (escutcheonlaw6_OnetimeShifts.j0 k a0 a1 a2 a3 (!t235)) = some r := H
      have A7 := Aside0.mk A70
      clear A70
      have H' := Aside0.mk H
      clear H
      go_wp2_with (first | (go_at_call 9; (with_reducible refine (escutcheonlaw6_alive.calls k  t235 _ A7.out).mono ?_); rintro e w8 ⟨rfl, hb⟩; have n0_ := Aside0.mk (below_step (by repeat (first | (with_reducible first | exact HB.out | apply below_alloc | apply pw_below_drewN | apply below_drew1) | exact HB.out)) hb); clear HB; have HB := n0_; clear n0_; (try clear hb); (try clear hb2); (try clear hk); (try clear hi)))
      go_meet
      case rel => exact ⟨_, (!t235), (by first | rfl | (simp; done) | (simp [*]; done)), H', ⟨by first | omega | exact Nat.le_refl _⟩, ⟨by repeat (first | (with_reducible first | exact HB.out | apply below_alloc | apply pw_below_drewN | apply below_drew1) | exact HB.out)⟩⟩
  case rest =>
    clear HC5
    try clear p2
    try clear c6
    try clear c6b0
    try clear c6b1
    obtain ⟨kq, x19_4, rfl, HA, HJ4, HB⟩ := hcut
    cases kq with
    | zero => exact absurd HA.out (by simp [escutcheonlaw6_OnetimeShifts.j0])
    | succ kj4 =>
      have H := HA.out
      clear HA
      simp only [escutcheonlaw6_OnetimeShifts.j0] at H
      by_cases c9 : x19_4 = true
      · subst c9
        have H1 : ((escutcheonlaw6_alive.f kj4).bind fun t236 => (some t236)) = some r := by rw [if_pos rfl] at H; exact H
        clear H
        have H := H1
        clear H1
        replace H := Option.bind_eq_some_iff.mp H
        obtain ⟨t236, A100, H⟩ := H
        replace H : (some t236) = some r := H
        have A10 := Aside0.mk A100
        clear A100
        obtain rfl := Option.some.inj H
        go_wp2_with (first | ((with_reducible refine gate_callee (f := 9) rfl ?_); refine goesL_ (some 20) rfl rfl Try.func9 (by kernel_rfl) rfl #[] rfl (by (try simp only [List.map_toArray, List.map_cons, List.map_nil]); first | done | rfl | (simp only [List.length_drop, List.length_take]; rfl)) ?_; (with_reducible refine (escutcheonlaw6_alive.calls kj4  t236 _ A10.out).mono ?_); rintro e w11 ⟨rfl, hb⟩; refine ⟨_, rfl, ?_⟩; have n0_ := Aside0.mk (below_step (by repeat (first | (with_reducible first | exact HB.out | apply below_alloc | apply pw_below_drewN | apply below_drew1) | exact HB.out)) hb); clear HB; have HB := n0_; clear n0_; (try clear hb); (try clear hb2); (try clear hk); (try clear hi)))
        go_ret
        exact ⟨by first | rfl | (simp [errW_none, errW_some] <;> rfl) | (simp [*, errW_none, errW_some] <;> rfl), by repeat (first | (with_reducible first | exact HB.out | apply below_alloc | apply pw_below_drewN | apply below_drew1) | exact HB.out)⟩
      · replace c9 := Bool.eq_false_iff.mpr c9
        subst c9
        have H1 : ((escutcheonlaw5_Fill.f kj4 a0 16).bind fun t237 => ((escutcheonlaw5_Fill.f kj4 a1 16).bind fun t238 => ((escutcheonlaw5_Fill.f kj4 a2 16).bind fun t239 => (if t237.size + t238.size ≤ 9223372036854775807 then ((onetime_Tag.f kj4 (t237 ++ t238) a3).bind fun bt240 => (if t237.size + t239.size ≤ 9223372036854775807 then ((onetime_Tag.f kj4 (t237 ++ t239) a3).bind fun bt242 => (if bt240.2 = true then (if bt242.2 = true then (if (bt240.1.size : Int) = 16 then (if (bt242.1.size : Int) = 16 then ((escutcheonlaw6_sum.f kj4 bt240.1 t239).bind fun t244 => ((escutcheonlaw6_sum.f kj4 bt242.1 t238).bind fun t245 => (some (t244.toList == t245.toList)))) else (none)) else (none)) else (none)) else (none))) else (none))) else (none))))) = some r := by rw [if_neg (show ¬ (false = true) by decide)] at H; exact H
        clear H
        have H := H1
        clear H1
        replace H := Option.bind_eq_some_iff.mp H
        obtain ⟨t237, A120, H⟩ := H
        replace H : ((escutcheonlaw5_Fill.f kj4 a1 16).bind fun t238 => ((escutcheonlaw5_Fill.f kj4 a2 16).bind fun t239 => (if t237.size + t238.size ≤ 9223372036854775807 then ((onetime_Tag.f kj4 (t237 ++ t238) a3).bind fun bt240 => (if t237.size + t239.size ≤ 9223372036854775807 then ((onetime_Tag.f kj4 (t237 ++ t239) a3).bind fun bt242 => (if bt240.2 = true then (if bt242.2 = true then (if (bt240.1.size : Int) = 16 then (if (bt242.1.size : Int) = 16 then ((escutcheonlaw6_sum.f kj4 bt240.1 t239).bind fun t244 => ((escutcheonlaw6_sum.f kj4 bt242.1 t238).bind fun t245 => (some (t244.toList == t245.toList)))) else (none)) else (none)) else (none)) else (none))) else (none))) else (none)))) = some r := H
        have A12 := Aside0.mk A120
        clear A120
        replace H := Option.bind_eq_some_iff.mp H
        obtain ⟨t238, A130, H⟩ := H
        replace H : ((escutcheonlaw5_Fill.f kj4 a2 16).bind fun t239 => (if t237.size + t238.size ≤ 9223372036854775807 then ((onetime_Tag.f kj4 (t237 ++ t238) a3).bind fun bt240 => (if t237.size + t239.size ≤ 9223372036854775807 then ((onetime_Tag.f kj4 (t237 ++ t239) a3).bind fun bt242 => (if bt240.2 = true then (if bt242.2 = true then (if (bt240.1.size : Int) = 16 then (if (bt242.1.size : Int) = 16 then ((escutcheonlaw6_sum.f kj4 bt240.1 t239).bind fun t244 => ((escutcheonlaw6_sum.f kj4 bt242.1 t238).bind fun t245 => (some (t244.toList == t245.toList)))) else (none)) else (none)) else (none)) else (none))) else (none))) else (none))) = some r := H
        have A13 := Aside0.mk A130
        clear A130
        replace H := Option.bind_eq_some_iff.mp H
        obtain ⟨t239, A140, H⟩ := H
        replace H : (if t237.size + t238.size ≤ 9223372036854775807 then ((onetime_Tag.f kj4 (t237 ++ t238) a3).bind fun bt240 => (if t237.size + t239.size ≤ 9223372036854775807 then ((onetime_Tag.f kj4 (t237 ++ t239) a3).bind fun bt242 => (if bt240.2 = true then (if bt242.2 = true then (if (bt240.1.size : Int) = 16 then (if (bt242.1.size : Int) = 16 then ((escutcheonlaw6_sum.f kj4 bt240.1 t239).bind fun t244 => ((escutcheonlaw6_sum.f kj4 bt242.1 t238).bind fun t245 => (some (t244.toList == t245.toList)))) else (none)) else (none)) else (none)) else (none))) else (none))) else (none)) = some r := H
        have A14 := Aside0.mk A140
        clear A140
        by_cases c15 : t237.size + t238.size ≤ 9223372036854775807
        · rw [if_pos c15] at H
          have c15b0 := eq_true c15
          have c15b1 : decide (t237.size + t238.size ≤ 9223372036854775807) = true := decide_eq_true c15
          try have c15b2 : (9223372036854775807 < t237.size + t238.size) = False := eq_false (Nat.not_lt.2 c15)
          replace H := Option.bind_eq_some_iff.mp H
          obtain ⟨⟨t240, t241⟩, A160, H⟩ := H
          replace H : (if t237.size + t239.size ≤ 9223372036854775807 then ((onetime_Tag.f kj4 (t237 ++ t239) a3).bind fun bt242 => (if t241 = true then (if bt242.2 = true then (if (t240.size : Int) = 16 then (if (bt242.1.size : Int) = 16 then ((escutcheonlaw6_sum.f kj4 t240 t239).bind fun t244 => ((escutcheonlaw6_sum.f kj4 bt242.1 t238).bind fun t245 => (some (t244.toList == t245.toList)))) else (none)) else (none)) else (none)) else (none))) else (none)) = some r := H
          have A16 := Aside0.mk A160
          clear A160
          by_cases c17 : t237.size + t239.size ≤ 9223372036854775807
          · rw [if_pos c17] at H
            have c17b0 := eq_true c17
            have c17b1 : decide (t237.size + t239.size ≤ 9223372036854775807) = true := decide_eq_true c17
            try have c17b2 : (9223372036854775807 < t237.size + t239.size) = False := eq_false (Nat.not_lt.2 c17)
            replace H := Option.bind_eq_some_iff.mp H
            obtain ⟨⟨t242, t243⟩, A180, H⟩ := H
            replace H : (if t241 = true then (if t243 = true then (if (t240.size : Int) = 16 then (if (t242.size : Int) = 16 then ((escutcheonlaw6_sum.f kj4 t240 t239).bind fun t244 => ((escutcheonlaw6_sum.f kj4 t242 t238).bind fun t245 => (some (t244.toList == t245.toList)))) else (none)) else (none)) else (none)) else (none)) = some r := H
            have A18 := Aside0.mk A180
            clear A180
            by_cases c19 : t241 = true
            · subst c19
              have H1 : (if t243 = true then (if (t240.size : Int) = 16 then (if (t242.size : Int) = 16 then ((escutcheonlaw6_sum.f kj4 t240 t239).bind fun t244 => ((escutcheonlaw6_sum.f kj4 t242 t238).bind fun t245 => (some (t244.toList == t245.toList)))) else (none)) else (none)) else (none)) = some r := by rw [if_pos rfl] at H; exact H
              clear H
              have H := H1
              clear H1
              by_cases c20 : t243 = true
              · subst c20
                have H1 : (if (t240.size : Int) = 16 then (if (t242.size : Int) = 16 then ((escutcheonlaw6_sum.f kj4 t240 t239).bind fun t244 => ((escutcheonlaw6_sum.f kj4 t242 t238).bind fun t245 => (some (t244.toList == t245.toList)))) else (none)) else (none)) = some r := by rw [if_pos rfl] at H; exact H
                clear H
                have H := H1
                clear H1
                by_cases c21 : (t240.size : Int) = 16
                · rw [if_pos c21] at H
                  have c21b0 : ((t240.size : Int) == 16) = true := beq_iff_eq.mpr c21
                  have c21b1 : ((t240.size : Int) != 16) = false := bne_eq_false_iff_eq.mpr c21
                  clear c21
                  by_cases c22 : (t242.size : Int) = 16
                  · rw [if_pos c22] at H
                    have c22b0 : ((t242.size : Int) == 16) = true := beq_iff_eq.mpr c22
                    have c22b1 : ((t242.size : Int) != 16) = false := bne_eq_false_iff_eq.mpr c22
                    clear c22
                    replace H := Option.bind_eq_some_iff.mp H
                    obtain ⟨t244, A230, H⟩ := H
                    replace H : ((escutcheonlaw6_sum.f kj4 t242 t238).bind fun t245 => (some (t244.toList == t245.toList))) = some r := H
                    have A23 := Aside0.mk A230
                    clear A230
                    replace H := Option.bind_eq_some_iff.mp H
                    obtain ⟨t245, A240, H⟩ := H
                    replace H : (some (t244.toList == t245.toList)) = some r := H
                    have A24 := Aside0.mk A240
                    clear A240
                    obtain rfl := Option.some.inj H
                    go_wp2_with (first | ((with_reducible refine gate_callee (f := 10) rfl ?_); refine goesL_ (some 22) rfl rfl Try.func10 (by kernel_rfl) rfl #[.string a0, .int .i64 16] rfl (by (try simp only [List.map_toArray, List.map_cons, List.map_nil]); first | done | rfl | (simp only [List.length_drop, List.length_take]; rfl)) ?_; (with_reducible refine (escutcheonlaw5_Fill.calls kj4 a0 16 t237 _ A12.out).mono ?_); rintro e w' ⟨rfl, ⟨nd, rfl⟩⟩; refine ⟨_, rfl, ?_⟩) | ((with_reducible refine gate_callee (f := 10) rfl ?_); refine goesL_ (some 24) rfl rfl Try.func10 (by kernel_rfl) rfl #[.string a1, .int .i64 16] rfl (by (try simp only [List.map_toArray, List.map_cons, List.map_nil]); first | done | rfl | (simp only [List.length_drop, List.length_take]; rfl)) ?_; (with_reducible refine (escutcheonlaw5_Fill.calls kj4 a1 16 t238 _ A13.out).mono ?_); rintro e w' ⟨rfl, ⟨nd, rfl⟩⟩; refine ⟨_, rfl, ?_⟩) | ((with_reducible refine gate_callee (f := 10) rfl ?_); refine goesL_ (some 26) rfl rfl Try.func10 (by kernel_rfl) rfl #[.string a2, .int .i64 16] rfl (by (try simp only [List.map_toArray, List.map_cons, List.map_nil]); first | done | rfl | (simp only [List.length_drop, List.length_take]; rfl)) ?_; (with_reducible refine (escutcheonlaw5_Fill.calls kj4 a2 16 t239 _ A14.out).mono ?_); rintro e w' ⟨rfl, ⟨nd, rfl⟩⟩; refine ⟨_, rfl, ?_⟩) | ((with_reducible refine gate_callee (f := 11) rfl ?_); refine goesL_ (some 32) rfl rfl Try.func11 (by kernel_rfl) rfl #[.string (t237 ++ t238), .string a3] rfl (by (try simp only [List.map_toArray, List.map_cons, List.map_nil]); first | done | rfl | (simp only [List.length_drop, List.length_take]; rfl)) ?_; (with_reducible refine (onetime_Tag.calls kj4 (t237 ++ t238) a3 t240 true _ A16.out).mono ?_); rintro e w25 ⟨rfl, hb⟩; refine ⟨_, rfl, ?_⟩; have n0_ := Aside0.mk (below_step (by repeat (first | (with_reducible first | exact HB.out | apply below_alloc | apply pw_below_drewN | apply below_drew1) | exact HB.out)) hb); clear HB; have HB := n0_; clear n0_; (try clear hb); (try clear hb2); (try clear hk); (try clear hi)) | ((with_reducible refine gate_callee (f := 11) rfl ?_); refine goesL_ (some 40) rfl rfl Try.func11 (by kernel_rfl) rfl #[.string (t237 ++ t239), .string a3] rfl (by (try simp only [List.map_toArray, List.map_cons, List.map_nil]); first | done | rfl | (simp only [List.length_drop, List.length_take]; rfl)) ?_; (with_reducible refine (onetime_Tag.calls kj4 (t237 ++ t239) a3 t242 true _ A18.out).mono ?_); rintro e w26 ⟨rfl, hb⟩; refine ⟨_, rfl, ?_⟩; have n0_ := Aside0.mk (below_step (by repeat (first | (with_reducible first | exact HB.out | apply below_alloc | apply pw_below_drewN | apply below_drew1) | exact HB.out)) hb); clear HB; have HB := n0_; clear n0_; (try clear hb); (try clear hb2); (try clear hk); (try clear hi)) | (go_at_call 15; (with_reducible refine (escutcheonlaw6_sum.calls kj4 t240 t239 t244 _ A23.out).mono ?_); rintro e w27 ⟨rfl, hb⟩; have n0_ := Aside0.mk (below_step (by repeat (first | (with_reducible first | exact HB.out | apply below_alloc | apply pw_below_drewN | apply below_drew1) | exact HB.out)) hb); clear HB; have HB := n0_; clear n0_; (try clear hb); (try clear hb2); (try clear hk); (try clear hi)) | (go_at_call 15; (with_reducible refine (escutcheonlaw6_sum.calls kj4 t242 t238 t245 _ A24.out).mono ?_); rintro e w28 ⟨rfl, hb⟩; have n0_ := Aside0.mk (below_step (by repeat (first | (with_reducible first | exact HB.out | apply below_alloc | apply pw_below_drewN | apply below_drew1) | exact HB.out)) hb); clear HB; have HB := n0_; clear n0_; (try clear hb); (try clear hb2); (try clear hk); (try clear hi)) | (go_at_call 10; (with_reducible refine (escutcheonlaw5_Fill.calls kj4 a0 16 t237 _ A12.out).mono ?_); rintro e w' ⟨rfl, ⟨nd, rfl⟩⟩) | (go_at_call 10; (with_reducible refine (escutcheonlaw5_Fill.calls kj4 a1 16 t238 _ A13.out).mono ?_); rintro e w' ⟨rfl, ⟨nd, rfl⟩⟩) | (go_at_call 10; (with_reducible refine (escutcheonlaw5_Fill.calls kj4 a2 16 t239 _ A14.out).mono ?_); rintro e w' ⟨rfl, ⟨nd, rfl⟩⟩) | (go_at_call 11; (with_reducible refine (onetime_Tag.calls kj4 (t237 ++ t238) a3 t240 true _ A16.out).mono ?_); rintro e w25 ⟨rfl, hb⟩; have n0_ := Aside0.mk (below_step (by repeat (first | (with_reducible first | exact HB.out | apply below_alloc | apply pw_below_drewN | apply below_drew1) | exact HB.out)) hb); clear HB; have HB := n0_; clear n0_; (try clear hb); (try clear hb2); (try clear hk); (try clear hi)) | (go_at_call 11; (with_reducible refine (onetime_Tag.calls kj4 (t237 ++ t239) a3 t242 true _ A18.out).mono ?_); rintro e w26 ⟨rfl, hb⟩; have n0_ := Aside0.mk (below_step (by repeat (first | (with_reducible first | exact HB.out | apply below_alloc | apply pw_below_drewN | apply below_drew1) | exact HB.out)) hb); clear HB; have HB := n0_; clear n0_; (try clear hb); (try clear hb2); (try clear hk); (try clear hi)))
                    go_ret
                    exact ⟨by first | rfl | (simp [errW_none, errW_some] <;> rfl) | (simp [*, errW_none, errW_some] <;> rfl), by repeat (first | (with_reducible first | exact HB.out | apply below_alloc | apply pw_below_drewN | apply below_drew1) | exact HB.out)⟩
                  · rw [if_neg c22] at H
                    exact absurd H (by simp)
                · rw [if_neg c21] at H
                  exact absurd H (by simp)
              · replace c20 := Bool.eq_false_iff.mpr c20
                subst c20
                have H1 : (none) = some r := by rw [if_neg (show ¬ (false = true) by decide)] at H; exact H
                clear H
                have H := H1
                clear H1
                exact absurd H (by simp)
            · replace c19 := Bool.eq_false_iff.mpr c19
              subst c19
              have H1 : (none) = some r := by rw [if_neg (show ¬ (false = true) by decide)] at H; exact H
              clear H
              have H := H1
              clear H1
              exact absurd H (by simp)
          · rw [if_neg c17] at H
            exact absurd H (by simp)
        · rw [if_neg c15] at H
          exact absurd H (by simp)

/-- THE ONE PURE STATEMENT of escutcheonlaw6_OnetimeShifts: yours. -/
def escutcheonlaw6_OnetimeShifts.Pure : Prop := ∀ (a0 : ByteArray) (a1 : ByteArray) (a2 : ByteArray) (a3 : ByteArray), a0.size ≤ 140737488351232 → a1.size ≤ 140737488351232 → a2.size ≤ 140737488351232 → a3.size ≤ 140737488351232 → ∃ k, escutcheonlaw6_OnetimeShifts.f k a0 a1 a2 a3 = some true
theorem escutcheonlaw6_OnetimeShifts.walk (P : escutcheonlaw6_OnetimeShifts.Pure) (a0 : ByteArray) (a1 : ByteArray) (a2 : ByteArray) (a3 : ByteArray) (w : World) (w0 : a0.size ≤ 140737488351232) (w1 : a1.size ≤ 140737488351232) (w2 : a2.size ≤ 140737488351232) (w3 : a3.size ≤ 140737488351232) :
    Calls Try.prog 6 #[.string a0, .string a1, .string a2, .string a3] w fun e w' => e = .returned (.bool true) ∧ Below w.heap.size w w' := by
  obtain ⟨k, h⟩ := P a0 a1 a2 a3 w0 w1 w2 w3
  refine (escutcheonlaw6_OnetimeShifts.calls k a0 a1 a2 a3 true w h).mono ?_
  rintro e w' ⟨rfl, hd⟩
  exact ⟨rfl, hd⟩

end Go.Proofs.Ytagoibmemonkaaa.P
