-- Written by wip/inj.py (the kit's print, with contracts typed by hand beside it).
import Derived.Test.YtinojomgdjogdaaPx0
import Derived.Test.YtinojomgdjogdaaPx1
import Derived.Test.YtinojomgdjogdaaPx2
import Derived.Test.YtinojomgdjogdaaPx3
import Derived.Test.YtinojomgdjogdaaPx4
import Derived.Test.YtinojomgdjogdaaPx5
import Derived.Test.YtinojomgdjogdaaPx6
import Derived.Test.YtinojomgdjogdaaPx12
import Derived.Test.YtinojomgdjogdaaPx13
import Derived.Test.YtinojomgdjogdaaPx14
import Derived.Test.YtinojomgdjogdaaPx15
import Derived.Test.YtinojomgdjogdaaPx16
namespace Go.Proofs.Ytinojomgdjogdaa.P
open Go.RowKit Go.Proofs.YtinojomgdjogdaaW.PrintWords Go.Proofs.YtinojomgdjogdaaW.PrintLast Go.Proofs.YtinojomgdjogdaaW.PrintMore
attribute [local go_sem] max2_int min2_int max_two min_two max_three min_three max_four min_four   -- for this text's walks alone
set_option linter.unusedVariables false
set_option linter.unusedSimpArgs false

/-! ### escutcheonlaw1_OctetTells: function 6 -/
def escutcheonlaw1_OctetTells.j0 : Nat → Int → Int → Int → ByteArray → ByteArray → Bool → Option (Bool)
  | 0, _, _, _, _, _, _ => none
  | k + 1, x0, x1, x2, x3, x4, x26 => if x26 = true then ((escutcheonlaw1_alive.f k).bind fun t199 => (some t199)) else ((octet_Unhex.f k x4).bind fun bt200 => ((escutcheonref1_Unhex.f k x4).bind fun bt202 => ((octet_Left.f x0 x1).bind fun t204 => ((escutcheonref1_Left.f x0 x1).bind fun t205 => (if t204 = t205 then ((octet_PutBig.f k x2 x1).bind fun t206 => ((escutcheonref1_PutBig.f k x2 x1).bind fun t207 => (if t206.toList = t207.toList then ((octet_PutLittle.f k x2 x1).bind fun t208 => ((escutcheonref1_PutLittle.f k x2 x1).bind fun t209 => (if t208.toList = t209.toList then ((octet_Big.f x3).bind fun t210 => ((escutcheonref1_Big.f k x3).bind fun t211 => (if t210 = t211 then ((octet_Little.f k x3).bind fun t212 => ((escutcheonref1_Little.f k x3).bind fun t213 => (if t212 = t213 then ((octet_Xor.f k x3 x4).bind fun t214 => ((escutcheonref1_Xor.f k x3 x4).bind fun t215 => (if t214.toList = t215.toList then ((octet_Hex.f x3).bind fun t216 => ((escutcheonref1_Hex.f k x3).bind fun t217 => (if t216.toList = t217.toList then (if bt200.1.toList = bt202.1.toList then (some (bt200.2 == bt202.2)) else (none)) else (none)))) else (none)))) else (none)))) else (none)))) else (none)))) else (none)))) else (none))))))
def escutcheonlaw1_OctetTells.f (k : Nat) (a0 : Int) (a1 : Int) (a2 : Int) (a3 : ByteArray) (a4 : ByteArray) : Option (Bool) := if (a3.size : Int) > 500 then (escutcheonlaw1_OctetTells.j0 k a0 a1 a2 a3 a4 true) else (if (a4.size : Int) > 500 then (escutcheonlaw1_OctetTells.j0 k a0 a1 a2 a3 a4 true) else ((escutcheonlaw1_alive.f k).bind fun t198 => (escutcheonlaw1_OctetTells.j0 k a0 a1 a2 a3 a4 (!t198))))
theorem escutcheonlaw1_OctetTells.mono_l : ∀ k, (∀ y0 y1 y2 y3 y4 y5, LeO (escutcheonlaw1_OctetTells.j0 k y0 y1 y2 y3 y4 y5) (escutcheonlaw1_OctetTells.j0 (k + 1) y0 y1 y2 y3 y4 y5))
  | 0 => fun _ _ _ _ _ _ r h => by simp [escutcheonlaw1_OctetTells.j0] at h
  | k + 1 => by
    have ih0 := escutcheonlaw1_OctetTells.mono_l k
    · intro y0 y1 y2 y3 y4 y5
      unfold escutcheonlaw1_OctetTells.j0
      repeat' first
      | (with_reducible exact ih0 _ _ _ _ _ _)
      | (with_reducible exact escutcheonlaw1_alive.mono _)
      | (with_reducible exact escutcheonref1_Big.mono _ _)
      | (with_reducible exact escutcheonref1_Hex.mono _ _)
      | (with_reducible exact escutcheonref1_Little.mono _ _)
      | (with_reducible exact escutcheonref1_PutBig.mono _ _ _)
      | (with_reducible exact escutcheonref1_PutLittle.mono _ _ _)
      | (with_reducible exact escutcheonref1_Unhex.mono _ _)
      | (with_reducible exact escutcheonref1_Xor.mono _ _ _)
      | (with_reducible exact octet_Little.mono _ _)
      | (with_reducible exact octet_PutBig.mono _ _ _)
      | (with_reducible exact octet_PutLittle.mono _ _ _)
      | (with_reducible exact octet_Unhex.mono _ _)
      | (with_reducible exact octet_Xor.mono _ _ _)
      | (with_reducible exact LeO.refl _)
      | (with_reducible exact LeO.none _)
      | (with_reducible refine LeO.ite ?_ ?_)
      | (with_reducible refine LeO.bind ?_ (fun _ => ?_))
      | exact ih0 _ _ _ _ _ _
      | exact escutcheonlaw1_alive.mono _
      | exact escutcheonref1_Big.mono _ _
      | exact escutcheonref1_Hex.mono _ _
      | exact escutcheonref1_Little.mono _ _
      | exact escutcheonref1_PutBig.mono _ _ _
      | exact escutcheonref1_PutLittle.mono _ _ _
      | exact escutcheonref1_Unhex.mono _ _
      | exact escutcheonref1_Xor.mono _ _ _
      | exact octet_Little.mono _ _
      | exact octet_PutBig.mono _ _ _
      | exact octet_PutLittle.mono _ _ _
      | exact octet_Unhex.mono _ _
      | exact octet_Xor.mono _ _ _
      | exact LeO.none _
      | refine LeO.ite ?_ ?_
      | refine LeO.bind ?_ (fun _ => ?_)
theorem escutcheonlaw1_OctetTells.mono : ∀ a0 a1 a2 a3 a4 k, LeO (escutcheonlaw1_OctetTells.f k a0 a1 a2 a3 a4) (escutcheonlaw1_OctetTells.f (k + 1) a0 a1 a2 a3 a4) := by
  intro a0 a1 a2 a3 a4 k
  have ih0 := escutcheonlaw1_OctetTells.mono_l k
  unfold escutcheonlaw1_OctetTells.f
  repeat' first
      | (with_reducible exact ih0 _ _ _ _ _ _)
      | (with_reducible exact escutcheonlaw1_alive.mono _)
      | (with_reducible exact escutcheonref1_Big.mono _ _)
      | (with_reducible exact escutcheonref1_Hex.mono _ _)
      | (with_reducible exact escutcheonref1_Little.mono _ _)
      | (with_reducible exact escutcheonref1_PutBig.mono _ _ _)
      | (with_reducible exact escutcheonref1_PutLittle.mono _ _ _)
      | (with_reducible exact escutcheonref1_Unhex.mono _ _)
      | (with_reducible exact escutcheonref1_Xor.mono _ _ _)
      | (with_reducible exact octet_Little.mono _ _)
      | (with_reducible exact octet_PutBig.mono _ _ _)
      | (with_reducible exact octet_PutLittle.mono _ _ _)
      | (with_reducible exact octet_Unhex.mono _ _)
      | (with_reducible exact octet_Xor.mono _ _ _)
      | (with_reducible exact LeO.refl _)
      | (with_reducible exact LeO.none _)
      | (with_reducible refine LeO.ite ?_ ?_)
      | (with_reducible refine LeO.bind ?_ (fun _ => ?_))
      | exact ih0 _ _ _ _ _ _
      | exact escutcheonlaw1_alive.mono _
      | exact escutcheonref1_Big.mono _ _
      | exact escutcheonref1_Hex.mono _ _
      | exact escutcheonref1_Little.mono _ _
      | exact escutcheonref1_PutBig.mono _ _ _
      | exact escutcheonref1_PutLittle.mono _ _ _
      | exact escutcheonref1_Unhex.mono _ _
      | exact escutcheonref1_Xor.mono _ _ _
      | exact octet_Little.mono _ _
      | exact octet_PutBig.mono _ _ _
      | exact octet_PutLittle.mono _ _ _
      | exact octet_Unhex.mono _ _
      | exact octet_Xor.mono _ _ _
      | exact LeO.none _
      | refine LeO.ite ?_ ?_
      | refine LeO.bind ?_ (fun _ => ?_)
set_option maxHeartbeats 8000000 in
set_option maxRecDepth 100000 in
theorem escutcheonlaw1_OctetTells.calls (k : Nat) (a0 : Int) (a1 : Int) (a2 : Int) (a3 : ByteArray) (a4 : ByteArray) (r : Bool) (w : World) (h : escutcheonlaw1_OctetTells.f k a0 a1 a2 a3 a4 = some r) :
    Calls Try.prog 6 #[.int .u32 a0, .int .i64 a1, .int .u64 a2, .string a3, .string a4] w fun e w' => e = .returned (.bool r) ∧ Below w.heap.size w w' := by
  have HB := Aside0.mk (Below.refl w.heap.size w)
  have H : (if (a3.size : Int) > 500 then (escutcheonlaw1_OctetTells.j0 k a0 a1 a2 a3 a4 true) else (if (a4.size : Int) > 500 then (escutcheonlaw1_OctetTells.j0 k a0 a1 a2 a3 a4 true) else ((escutcheonlaw1_alive.f k).bind fun t198 => (escutcheonlaw1_OctetTells.j0 k a0 a1 a2 a3 a4 (!t198))))) = some r := h
  clear h
  have HC6 := Aside0.mk H
  clear H
  go_enter Try.func6, Try.ntmps6
  go_upto_region 1 with (fail)
  go_cut [26] (fun v26 wc => ∃ (kq : Nat) (x26_5 : Bool), v26 = .bool x26_5 ∧ Aside0 (escutcheonlaw1_OctetTells.j0 kq a0 a1 a2 a3 a4 x26_5 = some r) ∧ Aside0 (kq ≤ k) ∧ Aside0 (Below w.heap.size w wc))
  case first =>
    have H := HC6.out
    clear HC6
    by_cases c7 : (a3.size : Int) > 500
    · rw [if_pos c7] at H
      have c7b0 : decide (500 < (a3.size : Int)) = true := decide_eq_true c7
      have c7b1 : decide (500 < a3.size) = true := decide_eq_true (by omega)
      clear c7
      (first | rw [c7b0] | (simp only [i64_w, i32_w]; rw [c7b0]) | skip)
      have H' := Aside0.mk H
      clear H
      go_wp2
      go_meet
      case rel => exact ⟨_, (true), (by first | rfl | (simp; done) | (simp [*]; done)), H', ⟨by first | omega | exact Nat.le_refl _⟩, ⟨by repeat (first | (with_reducible first | exact HB.out | apply below_alloc | apply pw_below_drewN | apply below_drew1) | exact HB.out)⟩⟩
    · rw [if_neg c7] at H
      have c7b0 : decide (500 < (a3.size : Int)) = false := decide_eq_false c7
      have c7b1 : decide (500 < a3.size) = false := decide_eq_false (by omega)
      clear c7
      (first | rw [c7b0] | (simp only [i64_w, i32_w]; rw [c7b0]) | skip)
      by_cases c8 : (a4.size : Int) > 500
      · rw [if_pos c8] at H
        have c8b0 : decide (500 < (a4.size : Int)) = true := decide_eq_true c8
        have c8b1 : decide (500 < a4.size) = true := decide_eq_true (by omega)
        clear c8
        have H' := Aside0.mk H
        clear H
        go_wp2
        go_meet
        case rel => exact ⟨_, (true), (by first | rfl | (simp; done) | (simp [*]; done)), H', ⟨by first | omega | exact Nat.le_refl _⟩, ⟨by repeat (first | (with_reducible first | exact HB.out | apply below_alloc | apply pw_below_drewN | apply below_drew1) | exact HB.out)⟩⟩
      · rw [if_neg c8] at H
        have c8b0 : decide (500 < (a4.size : Int)) = false := decide_eq_false c8
        have c8b1 : decide (500 < a4.size) = false := decide_eq_false (by omega)
        clear c8
        replace H := Option.bind_eq_some_iff.mp H
        obtain ⟨t198, A90, H⟩ := H
        replace H : (escutcheonlaw1_OctetTells.j0 k a0 a1 a2 a3 a4 (!t198)) = some r := H
        have A9 := Aside0.mk A90
        clear A90
        have H' := Aside0.mk H
        clear H
        go_wp2_with (first | (go_at_call 9; (with_reducible refine (escutcheonlaw1_alive.calls k  t198 _ A9.out).mono ?_); rintro e w10 ⟨rfl, hb⟩; have n0_ := Aside0.mk (below_step (by repeat (first | (with_reducible first | exact HB.out | apply below_alloc | apply pw_below_drewN | apply below_drew1) | exact HB.out)) hb); clear HB; have HB := n0_; clear n0_; (try clear hb); (try clear hb2); (try clear hk); (try clear hi)))
        go_meet
        case rel => exact ⟨_, (!t198), (by first | rfl | (simp; done) | (simp [*]; done)), H', ⟨by first | omega | exact Nat.le_refl _⟩, ⟨by repeat (first | (with_reducible first | exact HB.out | apply below_alloc | apply pw_below_drewN | apply below_drew1) | exact HB.out)⟩⟩
  case rest =>
    clear HC6
    try clear p2
    try clear c6
    try clear c7
    try clear c7b0
    try clear c7b1
    try clear c8
    try clear c8b0
    try clear c8b1
    obtain ⟨kq, x26_5, rfl, HA, HJ5, HB⟩ := hcut
    cases kq with
    | zero => exact absurd HA.out (by simp [escutcheonlaw1_OctetTells.j0])
    | succ kj5 =>
      have H := HA.out
      clear HA
      simp only [escutcheonlaw1_OctetTells.j0] at H
      by_cases c11 : x26_5 = true
      · subst c11
        have H1 : ((escutcheonlaw1_alive.f kj5).bind fun t199 => (some t199)) = some r := by rw [if_pos rfl] at H; exact H
        clear H
        have H := H1
        clear H1
        replace H := Option.bind_eq_some_iff.mp H
        obtain ⟨t199, A120, H⟩ := H
        replace H : (some t199) = some r := H
        have A12 := Aside0.mk A120
        clear A120
        obtain rfl := Option.some.inj H
        go_wp2_with (first | ((with_reducible refine gate_callee (f := 9) rfl ?_); refine goesL_ (some 27) rfl rfl Try.func9 (by kernel_rfl) rfl #[] rfl (by (try simp only [List.map_toArray, List.map_cons, List.map_nil]); first | done | rfl | (simp only [List.length_drop, List.length_take]; rfl)) ?_; (with_reducible refine (escutcheonlaw1_alive.calls kj5  t199 _ A12.out).mono ?_); rintro e w13 ⟨rfl, hb⟩; refine ⟨_, rfl, ?_⟩; have n0_ := Aside0.mk (below_step (by repeat (first | (with_reducible first | exact HB.out | apply below_alloc | apply pw_below_drewN | apply below_drew1) | exact HB.out)) hb); clear HB; have HB := n0_; clear n0_; (try clear hb); (try clear hb2); (try clear hk); (try clear hi)))
        go_ret
        exact ⟨by first | rfl | (simp [errW_none, errW_some] <;> rfl) | (simp [*, errW_none, errW_some] <;> rfl), by repeat (first | (with_reducible first | exact HB.out | apply below_alloc | apply pw_below_drewN | apply below_drew1) | exact HB.out)⟩
      · replace c11 := Bool.eq_false_iff.mpr c11
        subst c11
        have H1 : ((octet_Unhex.f kj5 a4).bind fun bt200 => ((escutcheonref1_Unhex.f kj5 a4).bind fun bt202 => ((octet_Left.f a0 a1).bind fun t204 => ((escutcheonref1_Left.f a0 a1).bind fun t205 => (if t204 = t205 then ((octet_PutBig.f kj5 a2 a1).bind fun t206 => ((escutcheonref1_PutBig.f kj5 a2 a1).bind fun t207 => (if t206.toList = t207.toList then ((octet_PutLittle.f kj5 a2 a1).bind fun t208 => ((escutcheonref1_PutLittle.f kj5 a2 a1).bind fun t209 => (if t208.toList = t209.toList then ((octet_Big.f a3).bind fun t210 => ((escutcheonref1_Big.f kj5 a3).bind fun t211 => (if t210 = t211 then ((octet_Little.f kj5 a3).bind fun t212 => ((escutcheonref1_Little.f kj5 a3).bind fun t213 => (if t212 = t213 then ((octet_Xor.f kj5 a3 a4).bind fun t214 => ((escutcheonref1_Xor.f kj5 a3 a4).bind fun t215 => (if t214.toList = t215.toList then ((octet_Hex.f a3).bind fun t216 => ((escutcheonref1_Hex.f kj5 a3).bind fun t217 => (if t216.toList = t217.toList then (if bt200.1.toList = bt202.1.toList then (some (bt200.2 == bt202.2)) else (none)) else (none)))) else (none)))) else (none)))) else (none)))) else (none)))) else (none)))) else (none)))))) = some r := by rw [if_neg (show ¬ (false = true) by decide)] at H; exact H
        clear H
        have H := H1
        clear H1
        replace H := Option.bind_eq_some_iff.mp H
        obtain ⟨⟨t200, t201⟩, A140, H⟩ := H
        replace H : ((escutcheonref1_Unhex.f kj5 a4).bind fun bt202 => ((octet_Left.f a0 a1).bind fun t204 => ((escutcheonref1_Left.f a0 a1).bind fun t205 => (if t204 = t205 then ((octet_PutBig.f kj5 a2 a1).bind fun t206 => ((escutcheonref1_PutBig.f kj5 a2 a1).bind fun t207 => (if t206.toList = t207.toList then ((octet_PutLittle.f kj5 a2 a1).bind fun t208 => ((escutcheonref1_PutLittle.f kj5 a2 a1).bind fun t209 => (if t208.toList = t209.toList then ((octet_Big.f a3).bind fun t210 => ((escutcheonref1_Big.f kj5 a3).bind fun t211 => (if t210 = t211 then ((octet_Little.f kj5 a3).bind fun t212 => ((escutcheonref1_Little.f kj5 a3).bind fun t213 => (if t212 = t213 then ((octet_Xor.f kj5 a3 a4).bind fun t214 => ((escutcheonref1_Xor.f kj5 a3 a4).bind fun t215 => (if t214.toList = t215.toList then ((octet_Hex.f a3).bind fun t216 => ((escutcheonref1_Hex.f kj5 a3).bind fun t217 => (if t216.toList = t217.toList then (if t200.toList = bt202.1.toList then (some (t201 == bt202.2)) else (none)) else (none)))) else (none)))) else (none)))) else (none)))) else (none)))) else (none)))) else (none))))) = some r := H
        have A14 := Aside0.mk A140
        clear A140
        replace H := Option.bind_eq_some_iff.mp H
        obtain ⟨⟨t202, t203⟩, A150, H⟩ := H
        replace H : ((octet_Left.f a0 a1).bind fun t204 => ((escutcheonref1_Left.f a0 a1).bind fun t205 => (if t204 = t205 then ((octet_PutBig.f kj5 a2 a1).bind fun t206 => ((escutcheonref1_PutBig.f kj5 a2 a1).bind fun t207 => (if t206.toList = t207.toList then ((octet_PutLittle.f kj5 a2 a1).bind fun t208 => ((escutcheonref1_PutLittle.f kj5 a2 a1).bind fun t209 => (if t208.toList = t209.toList then ((octet_Big.f a3).bind fun t210 => ((escutcheonref1_Big.f kj5 a3).bind fun t211 => (if t210 = t211 then ((octet_Little.f kj5 a3).bind fun t212 => ((escutcheonref1_Little.f kj5 a3).bind fun t213 => (if t212 = t213 then ((octet_Xor.f kj5 a3 a4).bind fun t214 => ((escutcheonref1_Xor.f kj5 a3 a4).bind fun t215 => (if t214.toList = t215.toList then ((octet_Hex.f a3).bind fun t216 => ((escutcheonref1_Hex.f kj5 a3).bind fun t217 => (if t216.toList = t217.toList then (if t200.toList = t202.toList then (some (t201 == t203)) else (none)) else (none)))) else (none)))) else (none)))) else (none)))) else (none)))) else (none)))) else (none)))) = some r := H
        have A15 := Aside0.mk A150
        clear A150
        replace H := Option.bind_eq_some_iff.mp H
        obtain ⟨t204, A160, H⟩ := H
        replace H : ((escutcheonref1_Left.f a0 a1).bind fun t205 => (if t204 = t205 then ((octet_PutBig.f kj5 a2 a1).bind fun t206 => ((escutcheonref1_PutBig.f kj5 a2 a1).bind fun t207 => (if t206.toList = t207.toList then ((octet_PutLittle.f kj5 a2 a1).bind fun t208 => ((escutcheonref1_PutLittle.f kj5 a2 a1).bind fun t209 => (if t208.toList = t209.toList then ((octet_Big.f a3).bind fun t210 => ((escutcheonref1_Big.f kj5 a3).bind fun t211 => (if t210 = t211 then ((octet_Little.f kj5 a3).bind fun t212 => ((escutcheonref1_Little.f kj5 a3).bind fun t213 => (if t212 = t213 then ((octet_Xor.f kj5 a3 a4).bind fun t214 => ((escutcheonref1_Xor.f kj5 a3 a4).bind fun t215 => (if t214.toList = t215.toList then ((octet_Hex.f a3).bind fun t216 => ((escutcheonref1_Hex.f kj5 a3).bind fun t217 => (if t216.toList = t217.toList then (if t200.toList = t202.toList then (some (t201 == t203)) else (none)) else (none)))) else (none)))) else (none)))) else (none)))) else (none)))) else (none)))) else (none))) = some r := H
        have A16 := Aside0.mk A160
        clear A160
        replace H := Option.bind_eq_some_iff.mp H
        obtain ⟨t205, A170, H⟩ := H
        replace H : (if t204 = t205 then ((octet_PutBig.f kj5 a2 a1).bind fun t206 => ((escutcheonref1_PutBig.f kj5 a2 a1).bind fun t207 => (if t206.toList = t207.toList then ((octet_PutLittle.f kj5 a2 a1).bind fun t208 => ((escutcheonref1_PutLittle.f kj5 a2 a1).bind fun t209 => (if t208.toList = t209.toList then ((octet_Big.f a3).bind fun t210 => ((escutcheonref1_Big.f kj5 a3).bind fun t211 => (if t210 = t211 then ((octet_Little.f kj5 a3).bind fun t212 => ((escutcheonref1_Little.f kj5 a3).bind fun t213 => (if t212 = t213 then ((octet_Xor.f kj5 a3 a4).bind fun t214 => ((escutcheonref1_Xor.f kj5 a3 a4).bind fun t215 => (if t214.toList = t215.toList then ((octet_Hex.f a3).bind fun t216 => ((escutcheonref1_Hex.f kj5 a3).bind fun t217 => (if t216.toList = t217.toList then (if t200.toList = t202.toList then (some (t201 == t203)) else (none)) else (none)))) else (none)))) else (none)))) else (none)))) else (none)))) else (none)))) else (none)) = some r := H
        have A17 := Aside0.mk A170
        clear A170
        by_cases c18 : t204 = t205
        · rw [if_pos c18] at H
          have c18b0 : (t204 == t205) = true := beq_iff_eq.mpr c18
          have c18b1 : (t204 != t205) = false := bne_eq_false_iff_eq.mpr c18
          clear c18
          replace H := Option.bind_eq_some_iff.mp H
          obtain ⟨t206, A190, H⟩ := H
          replace H : ((escutcheonref1_PutBig.f kj5 a2 a1).bind fun t207 => (if t206.toList = t207.toList then ((octet_PutLittle.f kj5 a2 a1).bind fun t208 => ((escutcheonref1_PutLittle.f kj5 a2 a1).bind fun t209 => (if t208.toList = t209.toList then ((octet_Big.f a3).bind fun t210 => ((escutcheonref1_Big.f kj5 a3).bind fun t211 => (if t210 = t211 then ((octet_Little.f kj5 a3).bind fun t212 => ((escutcheonref1_Little.f kj5 a3).bind fun t213 => (if t212 = t213 then ((octet_Xor.f kj5 a3 a4).bind fun t214 => ((escutcheonref1_Xor.f kj5 a3 a4).bind fun t215 => (if t214.toList = t215.toList then ((octet_Hex.f a3).bind fun t216 => ((escutcheonref1_Hex.f kj5 a3).bind fun t217 => (if t216.toList = t217.toList then (if t200.toList = t202.toList then (some (t201 == t203)) else (none)) else (none)))) else (none)))) else (none)))) else (none)))) else (none)))) else (none))) = some r := H
          have A19 := Aside0.mk A190
          clear A190
          replace H := Option.bind_eq_some_iff.mp H
          obtain ⟨t207, A200, H⟩ := H
          replace H : (if t206.toList = t207.toList then ((octet_PutLittle.f kj5 a2 a1).bind fun t208 => ((escutcheonref1_PutLittle.f kj5 a2 a1).bind fun t209 => (if t208.toList = t209.toList then ((octet_Big.f a3).bind fun t210 => ((escutcheonref1_Big.f kj5 a3).bind fun t211 => (if t210 = t211 then ((octet_Little.f kj5 a3).bind fun t212 => ((escutcheonref1_Little.f kj5 a3).bind fun t213 => (if t212 = t213 then ((octet_Xor.f kj5 a3 a4).bind fun t214 => ((escutcheonref1_Xor.f kj5 a3 a4).bind fun t215 => (if t214.toList = t215.toList then ((octet_Hex.f a3).bind fun t216 => ((escutcheonref1_Hex.f kj5 a3).bind fun t217 => (if t216.toList = t217.toList then (if t200.toList = t202.toList then (some (t201 == t203)) else (none)) else (none)))) else (none)))) else (none)))) else (none)))) else (none)))) else (none)) = some r := H
          have A20 := Aside0.mk A200
          clear A200
          by_cases c21 : t206.toList = t207.toList
          · rw [if_pos c21] at H
            have c21b0 : (t206.toList == t207.toList) = true := beq_iff_eq.mpr c21
            have c21b1 : (t206.toList != t207.toList) = false := bne_eq_false_iff_eq.mpr c21
            clear c21
            replace H := Option.bind_eq_some_iff.mp H
            obtain ⟨t208, A220, H⟩ := H
            replace H : ((escutcheonref1_PutLittle.f kj5 a2 a1).bind fun t209 => (if t208.toList = t209.toList then ((octet_Big.f a3).bind fun t210 => ((escutcheonref1_Big.f kj5 a3).bind fun t211 => (if t210 = t211 then ((octet_Little.f kj5 a3).bind fun t212 => ((escutcheonref1_Little.f kj5 a3).bind fun t213 => (if t212 = t213 then ((octet_Xor.f kj5 a3 a4).bind fun t214 => ((escutcheonref1_Xor.f kj5 a3 a4).bind fun t215 => (if t214.toList = t215.toList then ((octet_Hex.f a3).bind fun t216 => ((escutcheonref1_Hex.f kj5 a3).bind fun t217 => (if t216.toList = t217.toList then (if t200.toList = t202.toList then (some (t201 == t203)) else (none)) else (none)))) else (none)))) else (none)))) else (none)))) else (none))) = some r := H
            have A22 := Aside0.mk A220
            clear A220
            replace H := Option.bind_eq_some_iff.mp H
            obtain ⟨t209, A230, H⟩ := H
            replace H : (if t208.toList = t209.toList then ((octet_Big.f a3).bind fun t210 => ((escutcheonref1_Big.f kj5 a3).bind fun t211 => (if t210 = t211 then ((octet_Little.f kj5 a3).bind fun t212 => ((escutcheonref1_Little.f kj5 a3).bind fun t213 => (if t212 = t213 then ((octet_Xor.f kj5 a3 a4).bind fun t214 => ((escutcheonref1_Xor.f kj5 a3 a4).bind fun t215 => (if t214.toList = t215.toList then ((octet_Hex.f a3).bind fun t216 => ((escutcheonref1_Hex.f kj5 a3).bind fun t217 => (if t216.toList = t217.toList then (if t200.toList = t202.toList then (some (t201 == t203)) else (none)) else (none)))) else (none)))) else (none)))) else (none)))) else (none)) = some r := H
            have A23 := Aside0.mk A230
            clear A230
            by_cases c24 : t208.toList = t209.toList
            · rw [if_pos c24] at H
              have c24b0 : (t208.toList == t209.toList) = true := beq_iff_eq.mpr c24
              have c24b1 : (t208.toList != t209.toList) = false := bne_eq_false_iff_eq.mpr c24
              clear c24
              replace H := Option.bind_eq_some_iff.mp H
              obtain ⟨t210, A250, H⟩ := H
              replace H : ((escutcheonref1_Big.f kj5 a3).bind fun t211 => (if t210 = t211 then ((octet_Little.f kj5 a3).bind fun t212 => ((escutcheonref1_Little.f kj5 a3).bind fun t213 => (if t212 = t213 then ((octet_Xor.f kj5 a3 a4).bind fun t214 => ((escutcheonref1_Xor.f kj5 a3 a4).bind fun t215 => (if t214.toList = t215.toList then ((octet_Hex.f a3).bind fun t216 => ((escutcheonref1_Hex.f kj5 a3).bind fun t217 => (if t216.toList = t217.toList then (if t200.toList = t202.toList then (some (t201 == t203)) else (none)) else (none)))) else (none)))) else (none)))) else (none))) = some r := H
              have A25 := Aside0.mk A250
              clear A250
              replace H := Option.bind_eq_some_iff.mp H
              obtain ⟨t211, A260, H⟩ := H
              replace H : (if t210 = t211 then ((octet_Little.f kj5 a3).bind fun t212 => ((escutcheonref1_Little.f kj5 a3).bind fun t213 => (if t212 = t213 then ((octet_Xor.f kj5 a3 a4).bind fun t214 => ((escutcheonref1_Xor.f kj5 a3 a4).bind fun t215 => (if t214.toList = t215.toList then ((octet_Hex.f a3).bind fun t216 => ((escutcheonref1_Hex.f kj5 a3).bind fun t217 => (if t216.toList = t217.toList then (if t200.toList = t202.toList then (some (t201 == t203)) else (none)) else (none)))) else (none)))) else (none)))) else (none)) = some r := H
              have A26 := Aside0.mk A260
              clear A260
              by_cases c27 : t210 = t211
              · rw [if_pos c27] at H
                have c27b0 : (t210 == t211) = true := beq_iff_eq.mpr c27
                have c27b1 : (t210 != t211) = false := bne_eq_false_iff_eq.mpr c27
                clear c27
                replace H := Option.bind_eq_some_iff.mp H
                obtain ⟨t212, A280, H⟩ := H
                replace H : ((escutcheonref1_Little.f kj5 a3).bind fun t213 => (if t212 = t213 then ((octet_Xor.f kj5 a3 a4).bind fun t214 => ((escutcheonref1_Xor.f kj5 a3 a4).bind fun t215 => (if t214.toList = t215.toList then ((octet_Hex.f a3).bind fun t216 => ((escutcheonref1_Hex.f kj5 a3).bind fun t217 => (if t216.toList = t217.toList then (if t200.toList = t202.toList then (some (t201 == t203)) else (none)) else (none)))) else (none)))) else (none))) = some r := H
                have A28 := Aside0.mk A280
                clear A280
                replace H := Option.bind_eq_some_iff.mp H
                obtain ⟨t213, A290, H⟩ := H
                replace H : (if t212 = t213 then ((octet_Xor.f kj5 a3 a4).bind fun t214 => ((escutcheonref1_Xor.f kj5 a3 a4).bind fun t215 => (if t214.toList = t215.toList then ((octet_Hex.f a3).bind fun t216 => ((escutcheonref1_Hex.f kj5 a3).bind fun t217 => (if t216.toList = t217.toList then (if t200.toList = t202.toList then (some (t201 == t203)) else (none)) else (none)))) else (none)))) else (none)) = some r := H
                have A29 := Aside0.mk A290
                clear A290
                by_cases c30 : t212 = t213
                · rw [if_pos c30] at H
                  have c30b0 : (t212 == t213) = true := beq_iff_eq.mpr c30
                  have c30b1 : (t212 != t213) = false := bne_eq_false_iff_eq.mpr c30
                  clear c30
                  replace H := Option.bind_eq_some_iff.mp H
                  obtain ⟨t214, A310, H⟩ := H
                  replace H : ((escutcheonref1_Xor.f kj5 a3 a4).bind fun t215 => (if t214.toList = t215.toList then ((octet_Hex.f a3).bind fun t216 => ((escutcheonref1_Hex.f kj5 a3).bind fun t217 => (if t216.toList = t217.toList then (if t200.toList = t202.toList then (some (t201 == t203)) else (none)) else (none)))) else (none))) = some r := H
                  have A31 := Aside0.mk A310
                  clear A310
                  replace H := Option.bind_eq_some_iff.mp H
                  obtain ⟨t215, A320, H⟩ := H
                  replace H : (if t214.toList = t215.toList then ((octet_Hex.f a3).bind fun t216 => ((escutcheonref1_Hex.f kj5 a3).bind fun t217 => (if t216.toList = t217.toList then (if t200.toList = t202.toList then (some (t201 == t203)) else (none)) else (none)))) else (none)) = some r := H
                  have A32 := Aside0.mk A320
                  clear A320
                  by_cases c33 : t214.toList = t215.toList
                  · rw [if_pos c33] at H
                    have c33b0 : (t214.toList == t215.toList) = true := beq_iff_eq.mpr c33
                    have c33b1 : (t214.toList != t215.toList) = false := bne_eq_false_iff_eq.mpr c33
                    clear c33
                    replace H := Option.bind_eq_some_iff.mp H
                    obtain ⟨t216, A340, H⟩ := H
                    replace H : ((escutcheonref1_Hex.f kj5 a3).bind fun t217 => (if t216.toList = t217.toList then (if t200.toList = t202.toList then (some (t201 == t203)) else (none)) else (none))) = some r := H
                    have A34 := Aside0.mk A340
                    clear A340
                    replace H := Option.bind_eq_some_iff.mp H
                    obtain ⟨t217, A350, H⟩ := H
                    replace H : (if t216.toList = t217.toList then (if t200.toList = t202.toList then (some (t201 == t203)) else (none)) else (none)) = some r := H
                    have A35 := Aside0.mk A350
                    clear A350
                    by_cases c36 : t216.toList = t217.toList
                    · rw [if_pos c36] at H
                      have c36b0 : (t216.toList == t217.toList) = true := beq_iff_eq.mpr c36
                      have c36b1 : (t216.toList != t217.toList) = false := bne_eq_false_iff_eq.mpr c36
                      clear c36
                      by_cases c37 : t200.toList = t202.toList
                      · rw [if_pos c37] at H
                        have c37b0 : (t200.toList == t202.toList) = true := beq_iff_eq.mpr c37
                        have c37b1 : (t200.toList != t202.toList) = false := bne_eq_false_iff_eq.mpr c37
                        clear c37
                        obtain rfl := Option.some.inj H
                        go_wp2_with (first | ((with_reducible refine gate_callee (f := 12) rfl ?_); refine goesL_ (some 30) rfl rfl Try.func12 (by kernel_rfl) rfl #[.string a4] rfl (by (try simp only [List.map_toArray, List.map_cons, List.map_nil]); first | done | rfl | (simp only [List.length_drop, List.length_take]; rfl)) ?_; (with_reducible refine (octet_Unhex.calls kj5 a4 t200 t201 _ A14.out).mono ?_); rintro e w38 ⟨rfl, hb⟩; refine ⟨_, rfl, ?_⟩; have n0_ := Aside0.mk (below_step (by repeat (first | (with_reducible first | exact HB.out | apply below_alloc | apply pw_below_drewN | apply below_drew1) | exact HB.out)) hb); clear HB; have HB := n0_; clear n0_; (try clear hb); (try clear hb2); (try clear hk); (try clear hi)) | ((with_reducible refine gate_callee (f := 14) rfl ?_); refine goesL_ (some 35) rfl rfl Try.func14 (by kernel_rfl) rfl #[.string a4] rfl (by (try simp only [List.map_toArray, List.map_cons, List.map_nil]); first | done | rfl | (simp only [List.length_drop, List.length_take]; rfl)) ?_; (with_reducible refine (escutcheonref1_Unhex.calls kj5 a4 t202 t203 _ A15.out).mono ?_); rintro e w39 ⟨rfl, hb⟩; refine ⟨_, rfl, ?_⟩; have n0_ := Aside0.mk (below_step (by repeat (first | (with_reducible first | exact HB.out | apply below_alloc | apply pw_below_drewN | apply below_drew1) | exact HB.out)) hb); clear HB; have HB := n0_; clear n0_; (try clear hb); (try clear hb2); (try clear hk); (try clear hi)) | ((with_reducible refine gate_callee (f := 13) rfl ?_); refine goesL_ (some 40) rfl rfl Try.func13 (by kernel_rfl) rfl #[.int .u32 a0, .int .i64 a1] rfl (by (try simp only [List.map_toArray, List.map_cons, List.map_nil]); first | done | rfl | (simp only [List.length_drop, List.length_take]; rfl)) ?_; (with_reducible refine (octet_Left.calls a0 a1 t204 _ A16.out).mono ?_); rintro e w' ⟨rfl, ⟨nd, rfl⟩⟩; refine ⟨_, rfl, ?_⟩) | ((with_reducible refine gate_callee (f := 15) rfl ?_); refine goesL_ (some 43) rfl rfl Try.func15 (by kernel_rfl) rfl #[.int .u32 a0, .int .i64 a1] rfl (by (try simp only [List.map_toArray, List.map_cons, List.map_nil]); first | done | rfl | (simp only [List.length_drop, List.length_take]; rfl)) ?_; (with_reducible refine (escutcheonref1_Left.calls a0 a1 t205 _ A17.out).mono ?_); rintro e w' ⟨rfl, ⟨nd, rfl⟩⟩; refine ⟨_, rfl, ?_⟩) | (go_at_call 16; (with_reducible refine (octet_PutBig.calls kj5 a2 a1 t206 _ A19.out).mono ?_); rintro e w40 ⟨rfl, hb⟩; have n0_ := Aside0.mk (below_step (by repeat (first | (with_reducible first | exact HB.out | apply below_alloc | apply pw_below_drewN | apply below_drew1) | exact HB.out)) hb); clear HB; have HB := n0_; clear n0_; (try clear hb); (try clear hb2); (try clear hk); (try clear hi)) | (go_at_call 17; (with_reducible refine (escutcheonref1_PutBig.calls kj5 a2 a1 t207 _ A20.out).mono ?_); rintro e w41 ⟨rfl, hb⟩; have n0_ := Aside0.mk (below_step (by repeat (first | (with_reducible first | exact HB.out | apply below_alloc | apply pw_below_drewN | apply below_drew1) | exact HB.out)) hb); clear HB; have HB := n0_; clear n0_; (try clear hb); (try clear hb2); (try clear hk); (try clear hi)) | (go_at_call 18; (with_reducible refine (octet_PutLittle.calls kj5 a2 a1 t208 _ A22.out).mono ?_); rintro e w42 ⟨rfl, hb⟩; have n0_ := Aside0.mk (below_step (by repeat (first | (with_reducible first | exact HB.out | apply below_alloc | apply pw_below_drewN | apply below_drew1) | exact HB.out)) hb); clear HB; have HB := n0_; clear n0_; (try clear hb); (try clear hb2); (try clear hk); (try clear hi)) | (go_at_call 19; (with_reducible refine (escutcheonref1_PutLittle.calls kj5 a2 a1 t209 _ A23.out).mono ?_); rintro e w43 ⟨rfl, hb⟩; have n0_ := Aside0.mk (below_step (by repeat (first | (with_reducible first | exact HB.out | apply below_alloc | apply pw_below_drewN | apply below_drew1) | exact HB.out)) hb); clear HB; have HB := n0_; clear n0_; (try clear hb); (try clear hb2); (try clear hk); (try clear hi)) | (go_at_call 20; (with_reducible refine (octet_Big.calls a3 t210 _ A25.out).mono ?_); rintro e w44 ⟨rfl, hb⟩; have n0_ := Aside0.mk (below_step (by repeat (first | (with_reducible first | exact HB.out | apply below_alloc | apply pw_below_drewN | apply below_drew1) | exact HB.out)) hb); clear HB; have HB := n0_; clear n0_; (try clear hb); (try clear hb2); (try clear hk); (try clear hi)) | (go_at_call 21; (with_reducible refine (escutcheonref1_Big.calls kj5 a3 t211 _ A26.out).mono ?_); rintro e w45 ⟨rfl, hb⟩; have n0_ := Aside0.mk (below_step (by repeat (first | (with_reducible first | exact HB.out | apply below_alloc | apply pw_below_drewN | apply below_drew1) | exact HB.out)) hb); clear HB; have HB := n0_; clear n0_; (try clear hb); (try clear hb2); (try clear hk); (try clear hi)) | (go_at_call 22; (with_reducible refine (octet_Little.calls kj5 a3 t212 _ A28.out).mono ?_); rintro e w46 ⟨rfl, hb⟩; have n0_ := Aside0.mk (below_step (by repeat (first | (with_reducible first | exact HB.out | apply below_alloc | apply pw_below_drewN | apply below_drew1) | exact HB.out)) hb); clear HB; have HB := n0_; clear n0_; (try clear hb); (try clear hb2); (try clear hk); (try clear hi)) | (go_at_call 23; (with_reducible refine (escutcheonref1_Little.calls kj5 a3 t213 _ A29.out).mono ?_); rintro e w47 ⟨rfl, hb⟩; have n0_ := Aside0.mk (below_step (by repeat (first | (with_reducible first | exact HB.out | apply below_alloc | apply pw_below_drewN | apply below_drew1) | exact HB.out)) hb); clear HB; have HB := n0_; clear n0_; (try clear hb); (try clear hb2); (try clear hk); (try clear hi)) | (go_at_call 10; (with_reducible refine (octet_Xor.calls kj5 a3 a4 t214 _ A31.out).mono ?_); rintro e w48 ⟨rfl, hb⟩; have n0_ := Aside0.mk (below_step (by repeat (first | (with_reducible first | exact HB.out | apply below_alloc | apply pw_below_drewN | apply below_drew1) | exact HB.out)) hb); clear HB; have HB := n0_; clear n0_; (try clear hb); (try clear hb2); (try clear hk); (try clear hi)) | (go_at_call 24; (with_reducible refine (escutcheonref1_Xor.calls kj5 a3 a4 t215 _ A32.out).mono ?_); rintro e w49 ⟨rfl, hb⟩; have n0_ := Aside0.mk (below_step (by repeat (first | (with_reducible first | exact HB.out | apply below_alloc | apply pw_below_drewN | apply below_drew1) | exact HB.out)) hb); clear HB; have HB := n0_; clear n0_; (try clear hb); (try clear hb2); (try clear hk); (try clear hi)) | (go_at_call 11; (with_reducible refine (octet_Hex.calls a3 t216 _ A34.out).mono ?_); rintro e w50 ⟨rfl, hb⟩; have n0_ := Aside0.mk (below_step (by repeat (first | (with_reducible first | exact HB.out | apply below_alloc | apply pw_below_drewN | apply below_drew1) | exact HB.out)) hb); clear HB; have HB := n0_; clear n0_; (try clear hb); (try clear hb2); (try clear hk); (try clear hi)) | (go_at_call 25; (with_reducible refine (escutcheonref1_Hex.calls kj5 a3 t217 _ A35.out).mono ?_); rintro e w51 ⟨rfl, hb⟩; have n0_ := Aside0.mk (below_step (by repeat (first | (with_reducible first | exact HB.out | apply below_alloc | apply pw_below_drewN | apply below_drew1) | exact HB.out)) hb); clear HB; have HB := n0_; clear n0_; (try clear hb); (try clear hb2); (try clear hk); (try clear hi)) | (go_at_call 12; (with_reducible refine (octet_Unhex.calls kj5 a4 t200 t201 _ A14.out).mono ?_); rintro e w38 ⟨rfl, hb⟩; have n0_ := Aside0.mk (below_step (by repeat (first | (with_reducible first | exact HB.out | apply below_alloc | apply pw_below_drewN | apply below_drew1) | exact HB.out)) hb); clear HB; have HB := n0_; clear n0_; (try clear hb); (try clear hb2); (try clear hk); (try clear hi)) | (go_at_call 14; (with_reducible refine (escutcheonref1_Unhex.calls kj5 a4 t202 t203 _ A15.out).mono ?_); rintro e w39 ⟨rfl, hb⟩; have n0_ := Aside0.mk (below_step (by repeat (first | (with_reducible first | exact HB.out | apply below_alloc | apply pw_below_drewN | apply below_drew1) | exact HB.out)) hb); clear HB; have HB := n0_; clear n0_; (try clear hb); (try clear hb2); (try clear hk); (try clear hi)) | (go_at_call 13; (with_reducible refine (octet_Left.calls a0 a1 t204 _ A16.out).mono ?_); rintro e w' ⟨rfl, ⟨nd, rfl⟩⟩) | (go_at_call 15; (with_reducible refine (escutcheonref1_Left.calls a0 a1 t205 _ A17.out).mono ?_); rintro e w' ⟨rfl, ⟨nd, rfl⟩⟩))
                        go_ret
                        exact ⟨by first | rfl | (simp [errW_none, errW_some] <;> rfl) | (simp [*, errW_none, errW_some] <;> rfl), by repeat (first | (with_reducible first | exact HB.out | apply below_alloc | apply pw_below_drewN | apply below_drew1) | exact HB.out)⟩
                      · rw [if_neg c37] at H
                        exact absurd H (by simp)
                    · rw [if_neg c36] at H
                      exact absurd H (by simp)
                  · rw [if_neg c33] at H
                    exact absurd H (by simp)
                · rw [if_neg c30] at H
                  exact absurd H (by simp)
              · rw [if_neg c27] at H
                exact absurd H (by simp)
            · rw [if_neg c24] at H
              exact absurd H (by simp)
          · rw [if_neg c21] at H
            exact absurd H (by simp)
        · rw [if_neg c18] at H
          exact absurd H (by simp)

/-- THE ONE PURE STATEMENT of escutcheonlaw1_OctetTells: yours. -/
def escutcheonlaw1_OctetTells.Pure : Prop := ∀ (a0 : Int) (a1 : Int) (a2 : Int) (a3 : ByteArray) (a4 : ByteArray), (Lit.int .u32 a0).wf = true → (Lit.int .i64 a1).wf = true → (Lit.int .u64 a2).wf = true → a3.size ≤ 140737488351232 → a4.size ≤ 140737488351232 → ∃ k, escutcheonlaw1_OctetTells.f k a0 a1 a2 a3 a4 = some true
theorem escutcheonlaw1_OctetTells.walk (P : escutcheonlaw1_OctetTells.Pure) (a0 : Int) (a1 : Int) (a2 : Int) (a3 : ByteArray) (a4 : ByteArray) (w : World) (w0 : (Lit.int .u32 a0).wf = true) (w1 : (Lit.int .i64 a1).wf = true) (w2 : (Lit.int .u64 a2).wf = true) (w3 : a3.size ≤ 140737488351232) (w4 : a4.size ≤ 140737488351232) :
    Calls Try.prog 6 #[.int .u32 a0, .int .i64 a1, .int .u64 a2, .string a3, .string a4] w fun e w' => e = .returned (.bool true) ∧ Below w.heap.size w w' := by
  obtain ⟨k, h⟩ := P a0 a1 a2 a3 a4 w0 w1 w2 w3 w4
  refine (escutcheonlaw1_OctetTells.calls k a0 a1 a2 a3 a4 true w h).mono ?_
  rintro e w' ⟨rfl, hd⟩
  exact ⟨rfl, hd⟩

end Go.Proofs.Ytinojomgdjogdaa.P
