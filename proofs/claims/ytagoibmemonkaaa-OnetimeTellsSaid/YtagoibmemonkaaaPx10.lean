-- Written by wip/inj.py (the kit's print, with contracts typed by hand beside it).
import Derived.Test.YtagoibmemonkaaaPx0
import Derived.Test.YtagoibmemonkaaaPx1
import Derived.Test.YtagoibmemonkaaaPx3
import Derived.Test.YtagoibmemonkaaaPx5
import Derived.Test.YtagoibmemonkaaaPx6
import Derived.Test.YtagoibmemonkaaaPx9
namespace Go.Proofs.Ytagoibmemonkaaa.P
open Go.RowKit Go.Proofs.YtagoibmemonkaaaW.PrintWords Go.Proofs.YtagoibmemonkaaaW.PrintLast Go.Proofs.YtagoibmemonkaaaW.PrintMore
attribute [local go_sem] max2_int min2_int max_two min_two max_three min_three max_four min_four   -- for this text's walks alone
set_option linter.unusedVariables false
set_option linter.unusedSimpArgs false

/-! ### escutcheonlaw6_OnetimeTells: function 3 -/
mutual
def escutcheonlaw6_OnetimeTells.j0 : Nat → ByteArray → ByteArray → Bool → Bool → Option (Bool)
  | 0, _, _, _, _ => none
  | k + 1, x0, x1, x2, x22 => if x22 = true then ((escutcheonlaw6_alive.f k).bind fun t194 => (some t194)) else (if x2 = true then (escutcheonlaw6_OnetimeTells.j1 k x0 x1) else ((escutcheonlaw5_Fill.f k x0 32).bind fun t195 => (escutcheonlaw6_OnetimeTells.j1 k t195 x1)))
def escutcheonlaw6_OnetimeTells.j1 : Nat → ByteArray → ByteArray → Option (Bool)
  | 0, _, _ => none
  | k + 1, x0, x1 => (onetime_Tag.f k x0 x1).bind fun bt196 => ((onetime_Clamp.f x0).bind fun bt198 => (if (x0.size : Int) = 32 then (if bt196.2 = true then (if bt198.2 = true then ((escutcheonref1_Tag.f k x0 x1).bind fun t200 => (if bt196.1.toList = t200.toList then ((escutcheonref1_Clamp.f x0).bind fun t201 => (some (bt198.1.toList == t201.toList))) else (none))) else (none)) else (none)) else (if bt196.2 = true then (none) else (if bt198.2 = true then (none) else (if bt196.1.toList = ([] : List UInt8) then (some (bt198.1.toList == ([] : List UInt8))) else (none))))))
end
def escutcheonlaw6_OnetimeTells.f (k : Nat) (a0 : ByteArray) (a1 : ByteArray) (a2 : Bool) : Option (Bool) := if (a0.size : Int) > 100 then (escutcheonlaw6_OnetimeTells.j0 k a0 a1 a2 true) else (if (a1.size : Int) > 500 then (escutcheonlaw6_OnetimeTells.j0 k a0 a1 a2 true) else ((escutcheonlaw6_alive.f k).bind fun t193 => (escutcheonlaw6_OnetimeTells.j0 k a0 a1 a2 (!t193))))
theorem escutcheonlaw6_OnetimeTells.mono_l : ∀ k, (∀ y0 y1 y2 y3, LeO (escutcheonlaw6_OnetimeTells.j0 k y0 y1 y2 y3) (escutcheonlaw6_OnetimeTells.j0 (k + 1) y0 y1 y2 y3)) ∧ (∀ y0 y1, LeO (escutcheonlaw6_OnetimeTells.j1 k y0 y1) (escutcheonlaw6_OnetimeTells.j1 (k + 1) y0 y1))
  | 0 => ⟨fun _ _ _ _ r h => by simp [escutcheonlaw6_OnetimeTells.j0] at h, fun _ _ r h => by simp [escutcheonlaw6_OnetimeTells.j1] at h⟩
  | k + 1 => by
    obtain ⟨ih0, ih1⟩ := escutcheonlaw6_OnetimeTells.mono_l k
    refine ⟨?_, ?_⟩
    · intro y0 y1 y2 y3
      unfold escutcheonlaw6_OnetimeTells.j0
      repeat' first
      | (with_reducible exact ih0 _ _ _ _)
      | (with_reducible exact ih1 _ _)
      | (with_reducible exact escutcheonlaw5_Fill.mono _ _ _)
      | (with_reducible exact escutcheonlaw6_alive.mono _)
      | (with_reducible exact escutcheonref1_Tag.mono _ _ _)
      | (with_reducible exact onetime_Tag.mono _ _ _)
      | (with_reducible exact LeO.refl _)
      | (with_reducible exact LeO.none _)
      | (with_reducible refine LeO.ite ?_ ?_)
      | (with_reducible refine LeO.bind ?_ (fun _ => ?_))
      | exact ih0 _ _ _ _
      | exact ih1 _ _
      | exact escutcheonlaw5_Fill.mono _ _ _
      | exact escutcheonlaw6_alive.mono _
      | exact escutcheonref1_Tag.mono _ _ _
      | exact onetime_Tag.mono _ _ _
      | exact LeO.none _
      | refine LeO.ite ?_ ?_
      | refine LeO.bind ?_ (fun _ => ?_)
    · intro y0 y1
      unfold escutcheonlaw6_OnetimeTells.j1
      repeat' first
      | (with_reducible exact ih0 _ _ _ _)
      | (with_reducible exact ih1 _ _)
      | (with_reducible exact escutcheonlaw5_Fill.mono _ _ _)
      | (with_reducible exact escutcheonlaw6_alive.mono _)
      | (with_reducible exact escutcheonref1_Tag.mono _ _ _)
      | (with_reducible exact onetime_Tag.mono _ _ _)
      | (with_reducible exact LeO.refl _)
      | (with_reducible exact LeO.none _)
      | (with_reducible refine LeO.ite ?_ ?_)
      | (with_reducible refine LeO.bind ?_ (fun _ => ?_))
      | exact ih0 _ _ _ _
      | exact ih1 _ _
      | exact escutcheonlaw5_Fill.mono _ _ _
      | exact escutcheonlaw6_alive.mono _
      | exact escutcheonref1_Tag.mono _ _ _
      | exact onetime_Tag.mono _ _ _
      | exact LeO.none _
      | refine LeO.ite ?_ ?_
      | refine LeO.bind ?_ (fun _ => ?_)
theorem escutcheonlaw6_OnetimeTells.mono : ∀ a0 a1 a2 k, LeO (escutcheonlaw6_OnetimeTells.f k a0 a1 a2) (escutcheonlaw6_OnetimeTells.f (k + 1) a0 a1 a2) := by
  intro a0 a1 a2 k
  obtain ⟨ih0, ih1⟩ := escutcheonlaw6_OnetimeTells.mono_l k
  unfold escutcheonlaw6_OnetimeTells.f
  repeat' first
      | (with_reducible exact ih0 _ _ _ _)
      | (with_reducible exact ih1 _ _)
      | (with_reducible exact escutcheonlaw5_Fill.mono _ _ _)
      | (with_reducible exact escutcheonlaw6_alive.mono _)
      | (with_reducible exact escutcheonref1_Tag.mono _ _ _)
      | (with_reducible exact onetime_Tag.mono _ _ _)
      | (with_reducible exact LeO.refl _)
      | (with_reducible exact LeO.none _)
      | (with_reducible refine LeO.ite ?_ ?_)
      | (with_reducible refine LeO.bind ?_ (fun _ => ?_))
      | exact ih0 _ _ _ _
      | exact ih1 _ _
      | exact escutcheonlaw5_Fill.mono _ _ _
      | exact escutcheonlaw6_alive.mono _
      | exact escutcheonref1_Tag.mono _ _ _
      | exact onetime_Tag.mono _ _ _
      | exact LeO.none _
      | refine LeO.ite ?_ ?_
      | refine LeO.bind ?_ (fun _ => ?_)
set_option maxHeartbeats 8000000 in
set_option maxRecDepth 100000 in
theorem escutcheonlaw6_OnetimeTells.calls (k : Nat) (a0 : ByteArray) (a1 : ByteArray) (a2 : Bool) (r : Bool) (w : World) (h : escutcheonlaw6_OnetimeTells.f k a0 a1 a2 = some r) :
    Calls Try.prog 3 #[.string a0, .string a1, .bool a2] w fun e w' => e = .returned (.bool r) ∧ Below w.heap.size w w' := by
  have HB := Aside0.mk (Below.refl w.heap.size w)
  have H : (if (a0.size : Int) > 100 then (escutcheonlaw6_OnetimeTells.j0 k a0 a1 a2 true) else (if (a1.size : Int) > 500 then (escutcheonlaw6_OnetimeTells.j0 k a0 a1 a2 true) else ((escutcheonlaw6_alive.f k).bind fun t193 => (escutcheonlaw6_OnetimeTells.j0 k a0 a1 a2 (!t193))))) = some r := h
  clear h
  have HC4 := Aside0.mk H
  clear H
  go_enter Try.func3, Try.ntmps3
  go_upto_region 1 with (fail)
  go_cut [22] (fun v22 wc => ∃ (kq : Nat) (x22_3 : Bool), v22 = .bool x22_3 ∧ Aside0 (escutcheonlaw6_OnetimeTells.j0 kq a0 a1 a2 x22_3 = some r) ∧ Aside0 (kq ≤ k) ∧ Aside0 (Below w.heap.size w wc))
  case first =>
    have H := HC4.out
    clear HC4
    by_cases c5 : (a0.size : Int) > 100
    · rw [if_pos c5] at H
      have c5b0 : decide (100 < (a0.size : Int)) = true := decide_eq_true c5
      have c5b1 : decide (100 < a0.size) = true := decide_eq_true (by omega)
      clear c5
      (first | rw [c5b0] | (simp only [i64_w, i32_w]; rw [c5b0]) | skip)
      have H' := Aside0.mk H
      clear H
      go_wp2
      go_meet
      case rel => exact ⟨_, (true), (by first | rfl | (simp; done) | (simp [*]; done)), H', ⟨by first | omega | exact Nat.le_refl _⟩, ⟨by repeat (first | (with_reducible first | exact HB.out | apply below_alloc | apply pw_below_drewN | apply below_drew1) | exact HB.out)⟩⟩
    · rw [if_neg c5] at H
      have c5b0 : decide (100 < (a0.size : Int)) = false := decide_eq_false c5
      have c5b1 : decide (100 < a0.size) = false := decide_eq_false (by omega)
      clear c5
      (first | rw [c5b0] | (simp only [i64_w, i32_w]; rw [c5b0]) | skip)
      by_cases c6 : (a1.size : Int) > 500
      · rw [if_pos c6] at H
        have c6b0 : decide (500 < (a1.size : Int)) = true := decide_eq_true c6
        have c6b1 : decide (500 < a1.size) = true := decide_eq_true (by omega)
        clear c6
        have H' := Aside0.mk H
        clear H
        go_wp2
        go_meet
        case rel => exact ⟨_, (true), (by first | rfl | (simp; done) | (simp [*]; done)), H', ⟨by first | omega | exact Nat.le_refl _⟩, ⟨by repeat (first | (with_reducible first | exact HB.out | apply below_alloc | apply pw_below_drewN | apply below_drew1) | exact HB.out)⟩⟩
      · rw [if_neg c6] at H
        have c6b0 : decide (500 < (a1.size : Int)) = false := decide_eq_false c6
        have c6b1 : decide (500 < a1.size) = false := decide_eq_false (by omega)
        clear c6
        replace H := Option.bind_eq_some_iff.mp H
        obtain ⟨t193, A70, H⟩ := H
        replace H : (escutcheonlaw6_OnetimeTells.j0 k a0 a1 a2 (!t193)) = some r := H
        have A7 := Aside0.mk A70
        clear A70
        have H' := Aside0.mk H
        clear H
        go_wp2_with (first | (go_at_call 9; (with_reducible refine (escutcheonlaw6_alive.calls k  t193 _ A7.out).mono ?_); rintro e w8 ⟨rfl, hb⟩; have n0_ := Aside0.mk (below_step (by repeat (first | (with_reducible first | exact HB.out | apply below_alloc | apply pw_below_drewN | apply below_drew1) | exact HB.out)) hb); clear HB; have HB := n0_; clear n0_; (try clear hb); (try clear hb2); (try clear hk); (try clear hi)))
        go_meet
        case rel => exact ⟨_, (!t193), (by first | rfl | (simp; done) | (simp [*]; done)), H', ⟨by first | omega | exact Nat.le_refl _⟩, ⟨by repeat (first | (with_reducible first | exact HB.out | apply below_alloc | apply pw_below_drewN | apply below_drew1) | exact HB.out)⟩⟩
  case rest =>
    clear HC4
    try clear p2
    try clear c3
    try clear c5
    try clear c5b0
    try clear c5b1
    try clear c6
    try clear c6b0
    try clear c6b1
    obtain ⟨kq, x22_3, rfl, HA, HJ3, HB⟩ := hcut
    cases kq with
    | zero => exact absurd HA.out (by simp [escutcheonlaw6_OnetimeTells.j0])
    | succ kj3 =>
      have H := HA.out
      clear HA
      simp only [escutcheonlaw6_OnetimeTells.j0] at H
      by_cases c9 : x22_3 = true
      · subst c9
        have H1 : ((escutcheonlaw6_alive.f kj3).bind fun t194 => (some t194)) = some r := by rw [if_pos rfl] at H; exact H
        clear H
        have H := H1
        clear H1
        replace H := Option.bind_eq_some_iff.mp H
        obtain ⟨t194, A100, H⟩ := H
        replace H : (some t194) = some r := H
        have A10 := Aside0.mk A100
        clear A100
        obtain rfl := Option.some.inj H
        go_wp2_with (first | ((with_reducible refine gate_callee (f := 9) rfl ?_); refine goesL_ (some 23) rfl rfl Try.func9 (by kernel_rfl) rfl #[] rfl (by (try simp only [List.map_toArray, List.map_cons, List.map_nil]); first | done | rfl | (simp only [List.length_drop, List.length_take]; rfl)) ?_; (with_reducible refine (escutcheonlaw6_alive.calls kj3  t194 _ A10.out).mono ?_); rintro e w11 ⟨rfl, hb⟩; refine ⟨_, rfl, ?_⟩; have n0_ := Aside0.mk (below_step (by repeat (first | (with_reducible first | exact HB.out | apply below_alloc | apply pw_below_drewN | apply below_drew1) | exact HB.out)) hb); clear HB; have HB := n0_; clear n0_; (try clear hb); (try clear hb2); (try clear hk); (try clear hi)))
        go_ret
        exact ⟨by first | rfl | (simp [errW_none, errW_some] <;> rfl) | (simp [*, errW_none, errW_some] <;> rfl), by repeat (first | (with_reducible first | exact HB.out | apply below_alloc | apply pw_below_drewN | apply below_drew1) | exact HB.out)⟩
      · replace c9 := Bool.eq_false_iff.mpr c9
        subst c9
        have H1 : (if a2 = true then (escutcheonlaw6_OnetimeTells.j1 kj3 a0 a1) else ((escutcheonlaw5_Fill.f kj3 a0 32).bind fun t195 => (escutcheonlaw6_OnetimeTells.j1 kj3 t195 a1))) = some r := by rw [if_neg (show ¬ (false = true) by decide)] at H; exact H
        clear H
        have H := H1
        clear H1
        have HC12 := Aside0.mk H
        clear H
        go_upto_if 25 with (fail)
        go_cut [0] (fun v0 wc => ∃ (kq : Nat) (x0_11 : ByteArray), v0 = .string x0_11 ∧ Aside0 (escutcheonlaw6_OnetimeTells.j1 kq x0_11 a1 = some r) ∧ Aside0 (kq ≤ kj3) ∧ Aside0 (Below w.heap.size w wc))
        case first =>
          have H := HC12.out
          clear HC12
          by_cases c13 : a2 = true
          · subst c13
            have H1 : (escutcheonlaw6_OnetimeTells.j1 kj3 a0 a1) = some r := by rw [if_pos rfl] at H; exact H
            clear H
            have H := H1
            clear H1
            have H' := Aside0.mk H
            clear H
            go_wp2
            go_meet
            case rel => exact ⟨_, (a0), (by first | rfl | (simp; done) | (simp [*]; done)), H', ⟨by have := HJ3.out; first | omega | exact Nat.le_refl _⟩, ⟨by repeat (first | (with_reducible first | exact HB.out | apply below_alloc | apply pw_below_drewN | apply below_drew1) | exact HB.out)⟩⟩
          · replace c13 := Bool.eq_false_iff.mpr c13
            subst c13
            have H1 : ((escutcheonlaw5_Fill.f kj3 a0 32).bind fun t195 => (escutcheonlaw6_OnetimeTells.j1 kj3 t195 a1)) = some r := by rw [if_neg (show ¬ (false = true) by decide)] at H; exact H
            clear H
            have H := H1
            clear H1
            replace H := Option.bind_eq_some_iff.mp H
            obtain ⟨t195, A140, H⟩ := H
            replace H : (escutcheonlaw6_OnetimeTells.j1 kj3 t195 a1) = some r := H
            have A14 := Aside0.mk A140
            clear A140
            have H' := Aside0.mk H
            clear H
            go_wp2_with (first | ((with_reducible refine gate_callee (f := 10) rfl ?_); refine goesL_ (some 27) rfl rfl Try.func10 (by kernel_rfl) rfl #[.string a0, .int .i64 32] rfl (by (try simp only [List.map_toArray, List.map_cons, List.map_nil]); first | done | rfl | (simp only [List.length_drop, List.length_take]; rfl)) ?_; (with_reducible refine (escutcheonlaw5_Fill.calls kj3 a0 32 t195 _ A14.out).mono ?_); rintro e w' ⟨rfl, ⟨nd, rfl⟩⟩; refine ⟨_, rfl, ?_⟩))
            go_meet
            case rel => exact ⟨_, (t195), (by first | rfl | (simp; done) | (simp [*]; done)), H', ⟨by have := HJ3.out; first | omega | exact Nat.le_refl _⟩, ⟨by repeat (first | (with_reducible first | exact HB.out | apply below_alloc | apply pw_below_drewN | apply below_drew1) | exact HB.out)⟩⟩
        case rest =>
          clear HC12
          try clear c1
          try clear p2
          try clear c3
          try clear c5
          try clear c5b0
          try clear c5b1
          try clear c6
          try clear c6b0
          try clear c6b1
          try clear c9
          try clear c10
          try clear c13
          try clear p2
          obtain ⟨kq, x0_11, rfl, HA, HJ11, HB⟩ := hcut
          cases kq with
          | zero => exact absurd HA.out (by simp [escutcheonlaw6_OnetimeTells.j1])
          | succ kj11 =>
            have H := HA.out
            clear HA
            simp only [escutcheonlaw6_OnetimeTells.j1] at H
            replace H := Option.bind_eq_some_iff.mp H
            obtain ⟨⟨t196, t197⟩, A150, H⟩ := H
            replace H : ((onetime_Clamp.f x0_11).bind fun bt198 => (if (x0_11.size : Int) = 32 then (if t197 = true then (if bt198.2 = true then ((escutcheonref1_Tag.f kj11 x0_11 a1).bind fun t200 => (if t196.toList = t200.toList then ((escutcheonref1_Clamp.f x0_11).bind fun t201 => (some (bt198.1.toList == t201.toList))) else (none))) else (none)) else (none)) else (if t197 = true then (none) else (if bt198.2 = true then (none) else (if t196.toList = ([] : List UInt8) then (some (bt198.1.toList == ([] : List UInt8))) else (none)))))) = some r := H
            have A15 := Aside0.mk A150
            clear A150
            replace H := Option.bind_eq_some_iff.mp H
            obtain ⟨⟨t198, t199⟩, A160, H⟩ := H
            replace H : (if (x0_11.size : Int) = 32 then (if t197 = true then (if t199 = true then ((escutcheonref1_Tag.f kj11 x0_11 a1).bind fun t200 => (if t196.toList = t200.toList then ((escutcheonref1_Clamp.f x0_11).bind fun t201 => (some (t198.toList == t201.toList))) else (none))) else (none)) else (none)) else (if t197 = true then (none) else (if t199 = true then (none) else (if t196.toList = ([] : List UInt8) then (some (t198.toList == ([] : List UInt8))) else (none))))) = some r := H
            have A16 := Aside0.mk A160
            clear A160
            by_cases c17 : (x0_11.size : Int) = 32
            · rw [if_pos c17] at H
              have c17b0 : ((x0_11.size : Int) == 32) = true := beq_iff_eq.mpr c17
              have c17b1 : ((x0_11.size : Int) != 32) = false := bne_eq_false_iff_eq.mpr c17
              clear c17
              by_cases c18 : t197 = true
              · subst c18
                have H1 : (if t199 = true then ((escutcheonref1_Tag.f kj11 x0_11 a1).bind fun t200 => (if t196.toList = t200.toList then ((escutcheonref1_Clamp.f x0_11).bind fun t201 => (some (t198.toList == t201.toList))) else (none))) else (none)) = some r := by rw [if_pos rfl] at H; exact H
                clear H
                have H := H1
                clear H1
                by_cases c19 : t199 = true
                · subst c19
                  have H1 : ((escutcheonref1_Tag.f kj11 x0_11 a1).bind fun t200 => (if t196.toList = t200.toList then ((escutcheonref1_Clamp.f x0_11).bind fun t201 => (some (t198.toList == t201.toList))) else (none))) = some r := by rw [if_pos rfl] at H; exact H
                  clear H
                  have H := H1
                  clear H1
                  replace H := Option.bind_eq_some_iff.mp H
                  obtain ⟨t200, A200, H⟩ := H
                  replace H : (if t196.toList = t200.toList then ((escutcheonref1_Clamp.f x0_11).bind fun t201 => (some (t198.toList == t201.toList))) else (none)) = some r := H
                  have A20 := Aside0.mk A200
                  clear A200
                  by_cases c21 : t196.toList = t200.toList
                  · rw [if_pos c21] at H
                    have c21b0 : (t196.toList == t200.toList) = true := beq_iff_eq.mpr c21
                    have c21b1 : (t196.toList != t200.toList) = false := bne_eq_false_iff_eq.mpr c21
                    clear c21
                    replace H := Option.bind_eq_some_iff.mp H
                    obtain ⟨t201, A220, H⟩ := H
                    replace H : (some (t198.toList == t201.toList)) = some r := H
                    have A22 := Aside0.mk A220
                    clear A220
                    obtain rfl := Option.some.inj H
                    go_wp2_with (first | ((with_reducible refine gate_callee (f := 11) rfl ?_); refine goesL_ (some 31) rfl rfl Try.func11 (by kernel_rfl) rfl #[.string x0_11, .string a1] rfl (by (try simp only [List.map_toArray, List.map_cons, List.map_nil]); first | done | rfl | (simp only [List.length_drop, List.length_take]; rfl)) ?_; (with_reducible refine (onetime_Tag.calls kj11 x0_11 a1 t196 true _ A15.out).mono ?_); rintro e w23 ⟨rfl, hb⟩; refine ⟨_, rfl, ?_⟩; have n0_ := Aside0.mk (below_step (by repeat (first | (with_reducible first | exact HB.out | apply below_alloc | apply pw_below_drewN | apply below_drew1) | exact HB.out)) hb); clear HB; have HB := n0_; clear n0_; (try clear hb); (try clear hb2); (try clear hk); (try clear hi)) | ((with_reducible refine gate_callee (f := 12) rfl ?_); refine goesL_ (some 36) rfl rfl Try.func12 (by kernel_rfl) rfl #[.string x0_11] rfl (by (try simp only [List.map_toArray, List.map_cons, List.map_nil]); first | done | rfl | (simp only [List.length_drop, List.length_take]; rfl)) ?_; (with_reducible refine (onetime_Clamp.calls x0_11 t198 true _ A16.out).mono ?_); rintro e w24 ⟨rfl, hb⟩; refine ⟨_, rfl, ?_⟩; have n0_ := Aside0.mk (below_step (by repeat (first | (with_reducible first | exact HB.out | apply below_alloc | apply pw_below_drewN | apply below_drew1) | exact HB.out)) hb); clear HB; have HB := n0_; clear n0_; (try clear hb); (try clear hb2); (try clear hk); (try clear hi)) | (go_at_call 13; (with_reducible refine (escutcheonref1_Tag.calls kj11 x0_11 a1 t200 _ A20.out).mono ?_); rintro e w25 ⟨rfl, hb⟩; have n0_ := Aside0.mk (below_step (by repeat (first | (with_reducible first | exact HB.out | apply below_alloc | apply pw_below_drewN | apply below_drew1) | exact HB.out)) hb); clear HB; have HB := n0_; clear n0_; (try clear hb); (try clear hb2); (try clear hk); (try clear hi)) | (go_at_call 14; (with_reducible refine (escutcheonref1_Clamp.calls x0_11 t201 _ A22.out).mono ?_); rintro e w26 ⟨rfl, hb⟩; have n0_ := Aside0.mk (below_step (by repeat (first | (with_reducible first | exact HB.out | apply below_alloc | apply pw_below_drewN | apply below_drew1) | exact HB.out)) hb); clear HB; have HB := n0_; clear n0_; (try clear hb); (try clear hb2); (try clear hk); (try clear hi)) | (go_at_call 11; (with_reducible refine (onetime_Tag.calls kj11 x0_11 a1 t196 true _ A15.out).mono ?_); rintro e w23 ⟨rfl, hb⟩; have n0_ := Aside0.mk (below_step (by repeat (first | (with_reducible first | exact HB.out | apply below_alloc | apply pw_below_drewN | apply below_drew1) | exact HB.out)) hb); clear HB; have HB := n0_; clear n0_; (try clear hb); (try clear hb2); (try clear hk); (try clear hi)) | (go_at_call 12; (with_reducible refine (onetime_Clamp.calls x0_11 t198 true _ A16.out).mono ?_); rintro e w24 ⟨rfl, hb⟩; have n0_ := Aside0.mk (below_step (by repeat (first | (with_reducible first | exact HB.out | apply below_alloc | apply pw_below_drewN | apply below_drew1) | exact HB.out)) hb); clear HB; have HB := n0_; clear n0_; (try clear hb); (try clear hb2); (try clear hk); (try clear hi)))
                    go_ret
                    exact ⟨by first | rfl | (simp [errW_none, errW_some] <;> rfl) | (simp [*, errW_none, errW_some] <;> rfl), by repeat (first | (with_reducible first | exact HB.out | apply below_alloc | apply pw_below_drewN | apply below_drew1) | exact HB.out)⟩
                  · rw [if_neg c21] at H
                    exact absurd H (by simp)
                · replace c19 := Bool.eq_false_iff.mpr c19
                  subst c19
                  have H1 : (none) = some r := by rw [if_neg (show ¬ (false = true) by decide)] at H; exact H
                  clear H
                  have H := H1
                  clear H1
                  exact absurd H (by simp)
              · replace c18 := Bool.eq_false_iff.mpr c18
                subst c18
                have H1 : (none) = some r := by rw [if_neg (show ¬ (false = true) by decide)] at H; exact H
                clear H
                have H := H1
                clear H1
                exact absurd H (by simp)
            · rw [if_neg c17] at H
              have c17b0 : ((x0_11.size : Int) == 32) = false := beq_eq_false_iff_ne.mpr c17
              have c17b1 : ((x0_11.size : Int) != 32) = true := bne_iff_ne.mpr c17
              by_cases c27 : t197 = true
              · subst c27
                have H1 : (none) = some r := by rw [if_pos rfl] at H; exact H
                clear H
                have H := H1
                clear H1
                exact absurd H (by simp)
              · replace c27 := Bool.eq_false_iff.mpr c27
                subst c27
                have H1 : (if t199 = true then (none) else (if t196.toList = ([] : List UInt8) then (some (t198.toList == ([] : List UInt8))) else (none))) = some r := by rw [if_neg (show ¬ (false = true) by decide)] at H; exact H
                clear H
                have H := H1
                clear H1
                by_cases c28 : t199 = true
                · subst c28
                  have H1 : (none) = some r := by rw [if_pos rfl] at H; exact H
                  clear H
                  have H := H1
                  clear H1
                  exact absurd H (by simp)
                · replace c28 := Bool.eq_false_iff.mpr c28
                  subst c28
                  have H1 : (if t196.toList = ([] : List UInt8) then (some (t198.toList == ([] : List UInt8))) else (none)) = some r := by rw [if_neg (show ¬ (false = true) by decide)] at H; exact H
                  clear H
                  have H := H1
                  clear H1
                  by_cases c29 : t196.toList = ([] : List UInt8)
                  · rw [if_pos c29] at H
                    have c29b0 : (t196.toList == ([] : List UInt8)) = true := beq_iff_eq.mpr c29
                    have c29b1 : (t196.toList != ([] : List UInt8)) = false := bne_eq_false_iff_eq.mpr c29
                    clear c29
                    obtain rfl := Option.some.inj H
                    go_wp2_with (first | ((with_reducible refine gate_callee (f := 11) rfl ?_); refine goesL_ (some 31) rfl rfl Try.func11 (by kernel_rfl) rfl #[.string x0_11, .string a1] rfl (by (try simp only [List.map_toArray, List.map_cons, List.map_nil]); first | done | rfl | (simp only [List.length_drop, List.length_take]; rfl)) ?_; (with_reducible refine (onetime_Tag.calls kj11 x0_11 a1 t196 false _ A15.out).mono ?_); rintro e w30 ⟨rfl, hb⟩; refine ⟨_, rfl, ?_⟩; have n0_ := Aside0.mk (below_step (by repeat (first | (with_reducible first | exact HB.out | apply below_alloc | apply pw_below_drewN | apply below_drew1) | exact HB.out)) hb); clear HB; have HB := n0_; clear n0_; (try clear hb); (try clear hb2); (try clear hk); (try clear hi)) | ((with_reducible refine gate_callee (f := 12) rfl ?_); refine goesL_ (some 36) rfl rfl Try.func12 (by kernel_rfl) rfl #[.string x0_11] rfl (by (try simp only [List.map_toArray, List.map_cons, List.map_nil]); first | done | rfl | (simp only [List.length_drop, List.length_take]; rfl)) ?_; (with_reducible refine (onetime_Clamp.calls x0_11 t198 false _ A16.out).mono ?_); rintro e w31 ⟨rfl, hb⟩; refine ⟨_, rfl, ?_⟩; have n0_ := Aside0.mk (below_step (by repeat (first | (with_reducible first | exact HB.out | apply below_alloc | apply pw_below_drewN | apply below_drew1) | exact HB.out)) hb); clear HB; have HB := n0_; clear n0_; (try clear hb); (try clear hb2); (try clear hk); (try clear hi)))
                    go_ret
                    exact ⟨by first | rfl | (simp [errW_none, errW_some] <;> rfl) | (simp [*, errW_none, errW_some] <;> rfl), by repeat (first | (with_reducible first | exact HB.out | apply below_alloc | apply pw_below_drewN | apply below_drew1) | exact HB.out)⟩
                  · rw [if_neg c29] at H
                    exact absurd H (by simp)

/-- THE ONE PURE STATEMENT of escutcheonlaw6_OnetimeTells: yours. -/
def escutcheonlaw6_OnetimeTells.Pure : Prop := ∀ (a0 : ByteArray) (a1 : ByteArray) (a2 : Bool), a0.size ≤ 140737488351232 → a1.size ≤ 140737488351232 → ∃ k, escutcheonlaw6_OnetimeTells.f k a0 a1 a2 = some true
theorem escutcheonlaw6_OnetimeTells.walk (P : escutcheonlaw6_OnetimeTells.Pure) (a0 : ByteArray) (a1 : ByteArray) (a2 : Bool) (w : World) (w0 : a0.size ≤ 140737488351232) (w1 : a1.size ≤ 140737488351232) :
    Calls Try.prog 3 #[.string a0, .string a1, .bool a2] w fun e w' => e = .returned (.bool true) ∧ Below w.heap.size w w' := by
  obtain ⟨k, h⟩ := P a0 a1 a2 w0 w1
  refine (escutcheonlaw6_OnetimeTells.calls k a0 a1 a2 true w h).mono ?_
  rintro e w' ⟨rfl, hd⟩
  exact ⟨rfl, hd⟩

end Go.Proofs.Ytagoibmemonkaaa.P
