-- Written by wip/inj.py (the kit's print, with contracts typed by hand beside it).
import Derived.Test.YtdnlenhkagfiaaaPx0
import Derived.Test.YtdnlenhkagfiaaaPx1
import Derived.Test.YtdnlenhkagfiaaaPx4
import Derived.Test.YtdnlenhkagfiaaaPx6
namespace Go.Proofs.Ytdnlenhkagfiaaa.P
open Go.RowKit Go.Proofs.YtdnlenhkagfiaaaW.PrintWords Go.Proofs.YtdnlenhkagfiaaaW.PrintLast Go.Proofs.YtdnlenhkagfiaaaW.PrintMore
attribute [local go_sem] max2_int min2_int max_two min_two max_three min_three max_four min_four   -- for this text's walks alone
set_option linter.unusedVariables false
set_option linter.unusedSimpArgs false

/-! ### escutcheonlaw5_StreamWraps: function 6 -/
def escutcheonlaw5_StreamWraps.j0 : Nat → ByteArray → ByteArray → Int → Bool → Option (Bool)
  | 0, _, _, _, _ => none
  | k + 1, x0, x1, x2, x22 => if x22 = true then ((escutcheonlaw5_alive.f k).bind fun t241 => (some t241)) else ((escutcheonlaw5_Fill.f k x0 32).bind fun t242 => ((escutcheonlaw5_Fill.f k x1 12).bind fun t243 => (if 0 ≤ (wrap64 (64 * x2)) then (if (wrap64 (64 * x2) : Int).toNat ≤ 281474976710656 then ((stream_Xor.f k t242 4294967295 t243 (strOfNums (List.replicate (wrap64 (64 * x2) : Int).toNat 0))).bind fun bt247 => ((stream_Block.f k t242 4294967295 t243).bind fun bt249 => (if 0 ≤ (wrap64 (64 * (wrap64 (x2 - 1)))) then (if (wrap64 (64 * (wrap64 (x2 - 1))) : Int).toNat ≤ 281474976710656 then ((stream_Xor.f k t242 0 t243 (strOfNums (List.replicate (wrap64 (64 * (wrap64 (x2 - 1))) : Int).toNat 0))).bind fun bt254 => (if bt247.2 = true then (if bt249.2 = true then (if bt254.2 = true then (if bt249.1.size + bt254.1.size ≤ 9223372036854775807 then (some (bt247.1.toList == (bt249.1 ++ bt254.1).toList)) else (none)) else (none)) else (none)) else (none))) else (none)) else (none)))) else (none)) else (none))))
def escutcheonlaw5_StreamWraps.f (k : Nat) (a0 : ByteArray) (a1 : ByteArray) (a2 : Int) : Option (Bool) := if a2 < 1 then (escutcheonlaw5_StreamWraps.j0 k a0 a1 a2 true) else (if a2 > 4 then (escutcheonlaw5_StreamWraps.j0 k a0 a1 a2 true) else ((escutcheonlaw5_alive.f k).bind fun t240 => (escutcheonlaw5_StreamWraps.j0 k a0 a1 a2 (!t240))))
theorem escutcheonlaw5_StreamWraps.mono_l : ∀ k, (∀ y0 y1 y2 y3, LeO (escutcheonlaw5_StreamWraps.j0 k y0 y1 y2 y3) (escutcheonlaw5_StreamWraps.j0 (k + 1) y0 y1 y2 y3))
  | 0 => fun _ _ _ _ r h => by simp [escutcheonlaw5_StreamWraps.j0] at h
  | k + 1 => by
    have ih0 := escutcheonlaw5_StreamWraps.mono_l k
    · intro y0 y1 y2 y3
      unfold escutcheonlaw5_StreamWraps.j0
      repeat' first
      | (with_reducible exact ih0 _ _ _ _)
      | (with_reducible exact escutcheonlaw5_Fill.mono _ _ _)
      | (with_reducible exact escutcheonlaw5_alive.mono _)
      | (with_reducible exact stream_Block.mono _ _ _ _)
      | (with_reducible exact stream_Xor.mono _ _ _ _ _)
      | (with_reducible exact LeO.refl _)
      | (with_reducible exact LeO.none _)
      | (with_reducible refine LeO.ite ?_ ?_)
      | (with_reducible refine LeO.bind ?_ (fun _ => ?_))
      | exact ih0 _ _ _ _
      | exact escutcheonlaw5_Fill.mono _ _ _
      | exact escutcheonlaw5_alive.mono _
      | exact stream_Block.mono _ _ _ _
      | exact stream_Xor.mono _ _ _ _ _
      | exact LeO.none _
      | refine LeO.ite ?_ ?_
      | refine LeO.bind ?_ (fun _ => ?_)
theorem escutcheonlaw5_StreamWraps.mono : ∀ a0 a1 a2 k, LeO (escutcheonlaw5_StreamWraps.f k a0 a1 a2) (escutcheonlaw5_StreamWraps.f (k + 1) a0 a1 a2) := by
  intro a0 a1 a2 k
  have ih0 := escutcheonlaw5_StreamWraps.mono_l k
  unfold escutcheonlaw5_StreamWraps.f
  repeat' first
      | (with_reducible exact ih0 _ _ _ _)
      | (with_reducible exact escutcheonlaw5_Fill.mono _ _ _)
      | (with_reducible exact escutcheonlaw5_alive.mono _)
      | (with_reducible exact stream_Block.mono _ _ _ _)
      | (with_reducible exact stream_Xor.mono _ _ _ _ _)
      | (with_reducible exact LeO.refl _)
      | (with_reducible exact LeO.none _)
      | (with_reducible refine LeO.ite ?_ ?_)
      | (with_reducible refine LeO.bind ?_ (fun _ => ?_))
      | exact ih0 _ _ _ _
      | exact escutcheonlaw5_Fill.mono _ _ _
      | exact escutcheonlaw5_alive.mono _
      | exact stream_Block.mono _ _ _ _
      | exact stream_Xor.mono _ _ _ _ _
      | exact LeO.none _
      | refine LeO.ite ?_ ?_
      | refine LeO.bind ?_ (fun _ => ?_)
set_option maxHeartbeats 8000000 in
set_option maxRecDepth 100000 in
theorem escutcheonlaw5_StreamWraps.calls (k : Nat) (a0 : ByteArray) (a1 : ByteArray) (a2 : Int) (r : Bool) (w : World) (h : escutcheonlaw5_StreamWraps.f k a0 a1 a2 = some r) :
    Calls Try.prog 6 #[.string a0, .string a1, .int .i64 a2] w fun e w' => e = .returned (.bool r) ∧ Below w.heap.size w w' := by
  have HB := Aside0.mk (Below.refl w.heap.size w)
  have H : (if a2 < 1 then (escutcheonlaw5_StreamWraps.j0 k a0 a1 a2 true) else (if a2 > 4 then (escutcheonlaw5_StreamWraps.j0 k a0 a1 a2 true) else ((escutcheonlaw5_alive.f k).bind fun t240 => (escutcheonlaw5_StreamWraps.j0 k a0 a1 a2 (!t240))))) = some r := h
  clear h
  have HC4 := Aside0.mk H
  clear H
  go_enter Try.func6, Try.ntmps6
  go_upto_region 1 with (fail)
  go_cut [22] (fun v22 wc => ∃ (kq : Nat) (x22_3 : Bool), v22 = .bool x22_3 ∧ Aside0 (escutcheonlaw5_StreamWraps.j0 kq a0 a1 a2 x22_3 = some r) ∧ Aside0 (kq ≤ k) ∧ Aside0 (Below w.heap.size w wc))
  case first =>
    have H := HC4.out
    clear HC4
    by_cases c5 : a2 < 1
    · rw [if_pos c5] at H
      have c5b0 : decide (a2 < 1) = true := decide_eq_true c5
      clear c5
      (first | rw [c5b0] | (simp only [i64_w, i32_w]; rw [c5b0]) | skip)
      have H' := Aside0.mk H
      clear H
      go_wp2
      go_meet
      case rel => exact ⟨_, (true), (by first | rfl | (simp; done) | (simp [*]; done)), H', ⟨by first | omega | exact Nat.le_refl _⟩, ⟨by repeat (first | (with_reducible first | exact HB.out | apply below_alloc | apply pw_below_drewN | apply below_drew1) | exact HB.out)⟩⟩
    · rw [if_neg c5] at H
      have c5b0 : decide (a2 < 1) = false := decide_eq_false c5
      clear c5
      (first | rw [c5b0] | (simp only [i64_w, i32_w]; rw [c5b0]) | skip)
      by_cases c6 : a2 > 4
      · rw [if_pos c6] at H
        have c6b0 : decide (4 < a2) = true := decide_eq_true c6
        clear c6
        have H' := Aside0.mk H
        clear H
        go_wp2
        go_meet
        case rel => exact ⟨_, (true), (by first | rfl | (simp; done) | (simp [*]; done)), H', ⟨by first | omega | exact Nat.le_refl _⟩, ⟨by repeat (first | (with_reducible first | exact HB.out | apply below_alloc | apply pw_below_drewN | apply below_drew1) | exact HB.out)⟩⟩
      · rw [if_neg c6] at H
        have c6b0 : decide (4 < a2) = false := decide_eq_false c6
        clear c6
        replace H := Option.bind_eq_some_iff.mp H
        obtain ⟨t240, A70, H⟩ := H
        replace H : (escutcheonlaw5_StreamWraps.j0 k a0 a1 a2 (!t240)) = some r := H
        have A7 := Aside0.mk A70
        clear A70
        have H' := Aside0.mk H
        clear H
        go_wp2_with (first | (go_at_call 8; (with_reducible refine (escutcheonlaw5_alive.calls k  t240 _ A7.out).mono ?_); rintro e w8 ⟨rfl, hb⟩; have n0_ := Aside0.mk (below_step (by repeat (first | (with_reducible first | exact HB.out | apply below_alloc | apply pw_below_drewN | apply below_drew1) | exact HB.out)) hb); clear HB; have HB := n0_; clear n0_; (try clear hb); (try clear hb2); (try clear hk); (try clear hi)))
        go_meet
        case rel => exact ⟨_, (!t240), (by first | rfl | (simp; done) | (simp [*]; done)), H', ⟨by first | omega | exact Nat.le_refl _⟩, ⟨by repeat (first | (with_reducible first | exact HB.out | apply below_alloc | apply pw_below_drewN | apply below_drew1) | exact HB.out)⟩⟩
  case rest =>
    clear HC4
    try clear p2
    try clear c5
    try clear c5b0
    try clear c6
    try clear c6b0
    obtain ⟨kq, x22_3, rfl, HA, HJ3, HB⟩ := hcut
    cases kq with
    | zero => exact absurd HA.out (by simp [escutcheonlaw5_StreamWraps.j0])
    | succ kj3 =>
      have H := HA.out
      clear HA
      simp only [escutcheonlaw5_StreamWraps.j0] at H
      by_cases c9 : x22_3 = true
      · subst c9
        have H1 : ((escutcheonlaw5_alive.f kj3).bind fun t241 => (some t241)) = some r := by rw [if_pos rfl] at H; exact H
        clear H
        have H := H1
        clear H1
        replace H := Option.bind_eq_some_iff.mp H
        obtain ⟨t241, A100, H⟩ := H
        replace H : (some t241) = some r := H
        have A10 := Aside0.mk A100
        clear A100
        obtain rfl := Option.some.inj H
        go_wp2_with (first | ((with_reducible refine gate_callee (f := 8) rfl ?_); refine goesL_ (some 23) rfl rfl Try.func8 (by kernel_rfl) rfl #[] rfl (by (try simp only [List.map_toArray, List.map_cons, List.map_nil]); first | done | rfl | (simp only [List.length_drop, List.length_take]; rfl)) ?_; (with_reducible refine (escutcheonlaw5_alive.calls kj3  t241 _ A10.out).mono ?_); rintro e w11 ⟨rfl, hb⟩; refine ⟨_, rfl, ?_⟩; have n0_ := Aside0.mk (below_step (by repeat (first | (with_reducible first | exact HB.out | apply below_alloc | apply pw_below_drewN | apply below_drew1) | exact HB.out)) hb); clear HB; have HB := n0_; clear n0_; (try clear hb); (try clear hb2); (try clear hk); (try clear hi)))
        go_ret
        exact ⟨by first | rfl | (simp [errW_none, errW_some] <;> rfl) | (simp [*, errW_none, errW_some] <;> rfl), by repeat (first | (with_reducible first | exact HB.out | apply below_alloc | apply pw_below_drewN | apply below_drew1) | exact HB.out)⟩
      · replace c9 := Bool.eq_false_iff.mpr c9
        subst c9
        have H1 : ((escutcheonlaw5_Fill.f kj3 a0 32).bind fun t242 => ((escutcheonlaw5_Fill.f kj3 a1 12).bind fun t243 => (if 0 ≤ (wrap64 (64 * a2)) then (if (wrap64 (64 * a2) : Int).toNat ≤ 281474976710656 then ((stream_Xor.f kj3 t242 4294967295 t243 (strOfNums (List.replicate (wrap64 (64 * a2) : Int).toNat 0))).bind fun bt247 => ((stream_Block.f kj3 t242 4294967295 t243).bind fun bt249 => (if 0 ≤ (wrap64 (64 * (wrap64 (a2 - 1)))) then (if (wrap64 (64 * (wrap64 (a2 - 1))) : Int).toNat ≤ 281474976710656 then ((stream_Xor.f kj3 t242 0 t243 (strOfNums (List.replicate (wrap64 (64 * (wrap64 (a2 - 1))) : Int).toNat 0))).bind fun bt254 => (if bt247.2 = true then (if bt249.2 = true then (if bt254.2 = true then (if bt249.1.size + bt254.1.size ≤ 9223372036854775807 then (some (bt247.1.toList == (bt249.1 ++ bt254.1).toList)) else (none)) else (none)) else (none)) else (none))) else (none)) else (none)))) else (none)) else (none)))) = some r := by rw [if_neg (show ¬ (false = true) by decide)] at H; exact H
        clear H
        have H := H1
        clear H1
        replace H := Option.bind_eq_some_iff.mp H
        obtain ⟨t242, A120, H⟩ := H
        replace H : ((escutcheonlaw5_Fill.f kj3 a1 12).bind fun t243 => (if 0 ≤ (wrap64 (64 * a2)) then (if (wrap64 (64 * a2) : Int).toNat ≤ 281474976710656 then ((stream_Xor.f kj3 t242 4294967295 t243 (strOfNums (List.replicate (wrap64 (64 * a2) : Int).toNat 0))).bind fun bt247 => ((stream_Block.f kj3 t242 4294967295 t243).bind fun bt249 => (if 0 ≤ (wrap64 (64 * (wrap64 (a2 - 1)))) then (if (wrap64 (64 * (wrap64 (a2 - 1))) : Int).toNat ≤ 281474976710656 then ((stream_Xor.f kj3 t242 0 t243 (strOfNums (List.replicate (wrap64 (64 * (wrap64 (a2 - 1))) : Int).toNat 0))).bind fun bt254 => (if bt247.2 = true then (if bt249.2 = true then (if bt254.2 = true then (if bt249.1.size + bt254.1.size ≤ 9223372036854775807 then (some (bt247.1.toList == (bt249.1 ++ bt254.1).toList)) else (none)) else (none)) else (none)) else (none))) else (none)) else (none)))) else (none)) else (none))) = some r := H
        have A12 := Aside0.mk A120
        clear A120
        replace H := Option.bind_eq_some_iff.mp H
        obtain ⟨t243, A130, H⟩ := H
        replace H : (if 0 ≤ (wrap64 (64 * a2)) then (if (wrap64 (64 * a2) : Int).toNat ≤ 281474976710656 then ((stream_Xor.f kj3 t242 4294967295 t243 (strOfNums (List.replicate (wrap64 (64 * a2) : Int).toNat 0))).bind fun bt247 => ((stream_Block.f kj3 t242 4294967295 t243).bind fun bt249 => (if 0 ≤ (wrap64 (64 * (wrap64 (a2 - 1)))) then (if (wrap64 (64 * (wrap64 (a2 - 1))) : Int).toNat ≤ 281474976710656 then ((stream_Xor.f kj3 t242 0 t243 (strOfNums (List.replicate (wrap64 (64 * (wrap64 (a2 - 1))) : Int).toNat 0))).bind fun bt254 => (if bt247.2 = true then (if bt249.2 = true then (if bt254.2 = true then (if bt249.1.size + bt254.1.size ≤ 9223372036854775807 then (some (bt247.1.toList == (bt249.1 ++ bt254.1).toList)) else (none)) else (none)) else (none)) else (none))) else (none)) else (none)))) else (none)) else (none)) = some r := H
        have A13 := Aside0.mk A130
        clear A130
        obtain ⟨ji14, hji14⟩ : ∃ j_ : Int, (wrap64 (64 * a2)) = j_ := ⟨_, rfl⟩
        replace H : (if 0 ≤ (ji14) then (if (ji14 : Int).toNat ≤ 281474976710656 then ((stream_Xor.f kj3 t242 4294967295 t243 (strOfNums (List.replicate (ji14 : Int).toNat 0))).bind fun bt247 => ((stream_Block.f kj3 t242 4294967295 t243).bind fun bt249 => (if 0 ≤ (wrap64 (64 * (wrap64 (a2 - 1)))) then (if (wrap64 (64 * (wrap64 (a2 - 1))) : Int).toNat ≤ 281474976710656 then ((stream_Xor.f kj3 t242 0 t243 (strOfNums (List.replicate (wrap64 (64 * (wrap64 (a2 - 1))) : Int).toNat 0))).bind fun bt254 => (if bt247.2 = true then (if bt249.2 = true then (if bt254.2 = true then (if bt249.1.size + bt254.1.size ≤ 9223372036854775807 then (some (bt247.1.toList == (bt249.1 ++ bt254.1).toList)) else (none)) else (none)) else (none)) else (none))) else (none)) else (none)))) else (none)) else (none)) = some r := by first | (rw [hji14] at H; exact H) | (simp only [hji14] at H ⊢; exact H)
        (try rw [hji14] at A12)
        (try rw [hji14] at A13)
        have hji14w : (IntKind.i64.wrap (64 * a2)) = ji14 := (i64_w _).trans hji14
        by_cases c15 : 0 ≤ (ji14)
        · rw [if_pos c15] at H
          have c15b0 := eq_true c15
          have c15b1 : decide (0 ≤ (ji14)) = true := decide_eq_true c15
          clear c15
          by_cases c16 : (ji14 : Int).toNat ≤ 281474976710656
          · rw [if_pos c16] at H
            have c16b0 := eq_true c16
            have c16b1 : decide ((ji14 : Int).toNat ≤ 281474976710656) = true := decide_eq_true c16
            clear c16
            obtain ⟨y244, hy244⟩ : ∃ y_ : List Int, y_ = (List.replicate (ji14 : Int).toNat 0) := ⟨_, rfl⟩
            replace H : ((stream_Xor.f kj3 t242 4294967295 t243 (strOfNums y244)).bind fun bt247 => ((stream_Block.f kj3 t242 4294967295 t243).bind fun bt249 => (if 0 ≤ (wrap64 (64 * (wrap64 (a2 - 1)))) then (if (wrap64 (64 * (wrap64 (a2 - 1))) : Int).toNat ≤ 281474976710656 then ((stream_Xor.f kj3 t242 0 t243 (strOfNums (List.replicate (wrap64 (64 * (wrap64 (a2 - 1))) : Int).toNat 0))).bind fun bt254 => (if bt247.2 = true then (if bt249.2 = true then (if bt254.2 = true then (if bt249.1.size + bt254.1.size ≤ 9223372036854775807 then (some (bt247.1.toList == (bt249.1 ++ bt254.1).toList)) else (none)) else (none)) else (none)) else (none))) else (none)) else (none)))) = some r := by first | (rw [hy244]; with_reducible exact H) | (have H2_ := (Option.bind_some _ _).symm.trans H; rw [hy244]; with_reducible exact H2_) | (have H2_ := (Option.bind_some _ _).symm.trans H; with_reducible exact H2_) | with_reducible exact H | (rw [hy244]; exact H) | exact H
            have Ny244 := Aside0.mk hy244
            clear hy244
            replace H := Option.bind_eq_some_iff.mp H
            obtain ⟨⟨t247, t248⟩, A170, H⟩ := H
            replace H : ((stream_Block.f kj3 t242 4294967295 t243).bind fun bt249 => (if 0 ≤ (wrap64 (64 * (wrap64 (a2 - 1)))) then (if (wrap64 (64 * (wrap64 (a2 - 1))) : Int).toNat ≤ 281474976710656 then ((stream_Xor.f kj3 t242 0 t243 (strOfNums (List.replicate (wrap64 (64 * (wrap64 (a2 - 1))) : Int).toNat 0))).bind fun bt254 => (if t248 = true then (if bt249.2 = true then (if bt254.2 = true then (if bt249.1.size + bt254.1.size ≤ 9223372036854775807 then (some (t247.toList == (bt249.1 ++ bt254.1).toList)) else (none)) else (none)) else (none)) else (none))) else (none)) else (none))) = some r := H
            have A17 := Aside0.mk A170
            clear A170
            replace H := Option.bind_eq_some_iff.mp H
            obtain ⟨⟨t249, t250⟩, A180, H⟩ := H
            replace H : (if 0 ≤ (wrap64 (64 * (wrap64 (a2 - 1)))) then (if (wrap64 (64 * (wrap64 (a2 - 1))) : Int).toNat ≤ 281474976710656 then ((stream_Xor.f kj3 t242 0 t243 (strOfNums (List.replicate (wrap64 (64 * (wrap64 (a2 - 1))) : Int).toNat 0))).bind fun bt254 => (if t248 = true then (if t250 = true then (if bt254.2 = true then (if t249.size + bt254.1.size ≤ 9223372036854775807 then (some (t247.toList == (t249 ++ bt254.1).toList)) else (none)) else (none)) else (none)) else (none))) else (none)) else (none)) = some r := H
            have A18 := Aside0.mk A180
            clear A180
            obtain ⟨ji19, hji19⟩ : ∃ j_ : Int, (wrap64 (64 * (wrap64 (a2 - 1)))) = j_ := ⟨_, rfl⟩
            replace H : (if 0 ≤ (ji19) then (if (ji19 : Int).toNat ≤ 281474976710656 then ((stream_Xor.f kj3 t242 0 t243 (strOfNums (List.replicate (ji19 : Int).toNat 0))).bind fun bt254 => (if t248 = true then (if t250 = true then (if bt254.2 = true then (if t249.size + bt254.1.size ≤ 9223372036854775807 then (some (t247.toList == (t249 ++ bt254.1).toList)) else (none)) else (none)) else (none)) else (none))) else (none)) else (none)) = some r := by first | (rw [hji19] at H; exact H) | (simp only [hji19] at H ⊢; exact H)
            (try rw [hji19] at A12)
            (try rw [hji19] at A13)
            (try rw [hji19] at A17)
            (try rw [hji19] at A18)
            have hji19w : (IntKind.i64.wrap (64 * (wrap64 (a2 - 1)))) = ji19 := (i64_w _).trans hji19
            by_cases c20 : 0 ≤ (ji19)
            · rw [if_pos c20] at H
              have c20b0 := eq_true c20
              have c20b1 : decide (0 ≤ (ji19)) = true := decide_eq_true c20
              clear c20
              by_cases c21 : (ji19 : Int).toNat ≤ 281474976710656
              · rw [if_pos c21] at H
                have c21b0 := eq_true c21
                have c21b1 : decide ((ji19 : Int).toNat ≤ 281474976710656) = true := decide_eq_true c21
                clear c21
                obtain ⟨y251, hy251⟩ : ∃ y_ : List Int, y_ = (List.replicate (ji19 : Int).toNat 0) := ⟨_, rfl⟩
                replace H : ((stream_Xor.f kj3 t242 0 t243 (strOfNums y251)).bind fun bt254 => (if t248 = true then (if t250 = true then (if bt254.2 = true then (if t249.size + bt254.1.size ≤ 9223372036854775807 then (some (t247.toList == (t249 ++ bt254.1).toList)) else (none)) else (none)) else (none)) else (none))) = some r := by first | (rw [hy251]; with_reducible exact H) | (have H2_ := (Option.bind_some _ _).symm.trans H; rw [hy251]; with_reducible exact H2_) | (have H2_ := (Option.bind_some _ _).symm.trans H; with_reducible exact H2_) | with_reducible exact H | (rw [hy251]; exact H) | exact H
                have Ny251 := Aside0.mk hy251
                clear hy251
                replace H := Option.bind_eq_some_iff.mp H
                obtain ⟨⟨t254, t255⟩, A220, H⟩ := H
                replace H : (if t248 = true then (if t250 = true then (if t255 = true then (if t249.size + t254.size ≤ 9223372036854775807 then (some (t247.toList == (t249 ++ t254).toList)) else (none)) else (none)) else (none)) else (none)) = some r := H
                have A22 := Aside0.mk A220
                clear A220
                by_cases c23 : t248 = true
                · subst c23
                  have H1 : (if t250 = true then (if t255 = true then (if t249.size + t254.size ≤ 9223372036854775807 then (some (t247.toList == (t249 ++ t254).toList)) else (none)) else (none)) else (none)) = some r := by rw [if_pos rfl] at H; exact H
                  clear H
                  have H := H1
                  clear H1
                  by_cases c24 : t250 = true
                  · subst c24
                    have H1 : (if t255 = true then (if t249.size + t254.size ≤ 9223372036854775807 then (some (t247.toList == (t249 ++ t254).toList)) else (none)) else (none)) = some r := by rw [if_pos rfl] at H; exact H
                    clear H
                    have H := H1
                    clear H1
                    by_cases c25 : t255 = true
                    · subst c25
                      have H1 : (if t249.size + t254.size ≤ 9223372036854775807 then (some (t247.toList == (t249 ++ t254).toList)) else (none)) = some r := by rw [if_pos rfl] at H; exact H
                      clear H
                      have H := H1
                      clear H1
                      by_cases c26 : t249.size + t254.size ≤ 9223372036854775807
                      · rw [if_pos c26] at H
                        have c26b0 := eq_true c26
                        have c26b1 : decide (t249.size + t254.size ≤ 9223372036854775807) = true := decide_eq_true c26
                        try have c26b2 : (9223372036854775807 < t249.size + t254.size) = False := eq_false (Nat.not_lt.2 c26)
                        obtain rfl := Option.some.inj H
                        go_wp2_with (first | ((with_reducible refine gate_callee (f := 11) rfl ?_); refine goesL_ (some 25) rfl rfl Try.func11 (by kernel_rfl) rfl #[.string a0, .int .i64 32] rfl (by (try simp only [List.map_toArray, List.map_cons, List.map_nil]); first | done | rfl | (simp only [List.length_drop, List.length_take]; rfl)) ?_; (with_reducible refine (escutcheonlaw5_Fill.calls kj3 a0 32 t242 _ A12.out).mono ?_); rintro e w' ⟨rfl, ⟨nd, rfl⟩⟩; refine ⟨_, rfl, ?_⟩) | ((with_reducible refine gate_callee (f := 11) rfl ?_); refine goesL_ (some 27) rfl rfl Try.func11 (by kernel_rfl) rfl #[.string a1, .int .i64 12] rfl (by (try simp only [List.map_toArray, List.map_cons, List.map_nil]); first | done | rfl | (simp only [List.length_drop, List.length_take]; rfl)) ?_; (with_reducible refine (escutcheonlaw5_Fill.calls kj3 a1 12 t243 _ A13.out).mono ?_); rintro e w' ⟨rfl, ⟨nd, rfl⟩⟩; refine ⟨_, rfl, ?_⟩) | ((with_reducible refine gate_dst (N := 33) rfl ?_); refine Kd.R_make (Kd.int .u8) _ 5 rfl (N := 33) rfl 35 _ _ rfl ji14 rfl rfl Try.underlying35 (.int .u8 0) 1 info5 rfl (by decide) (by omega) 0 (ok := fun _ => True) (okp := fun _ => True) rfl (fun _ hk => hk) trivial (of_decide_eq_true (by first | (with_reducible assumption) | assumption)) (Nat.le_trans (Nat.mul_le_mul_right _ (of_decide_eq_true (by first | (with_reducible assumption) | assumption) : ji14.toNat ≤ 281474976710656)) (by omega)) (Below.refl _ _) (Nat.le_refl _) ?_; intro v245 w27 ho28 hb hg_ hnew_; clear hg_ hnew_; (first | rw [← Ny244.out] at ho28 | (simp only [Int.reduceToNat] at ho28; rw [← Ny244.out] at ho28)); have n0_ := Aside0.mk (Kd.R_lower ho28 (below_size (by repeat (first | (with_reducible first | exact HB.out | apply below_alloc | apply pw_below_drewN | apply below_drew1) | exact HB.out)))); have n1_ := Aside0.mk (below_step (by repeat (first | (with_reducible first | exact HB.out | apply below_alloc | apply pw_below_drewN | apply below_drew1) | exact HB.out)) hb); clear HB; have HO246 := n0_; have HB := n1_; clear n0_ n1_; clear hb ho28; have hcv29 := own_string (P := Try.prog) Try.underlying35 Try.underlying5 Try.underlying9 (Kd.own_of_R HO246.out)) | ((with_reducible refine gate_callee (f := 14) rfl ?_); refine goesL_ (some 35) rfl rfl Try.func14 (by kernel_rfl) rfl #[.string t242, .int .u32 4294967295, .string t243, .string (strOfNums y244)] rfl (by (try simp only [List.map_toArray, List.map_cons, List.map_nil]); first | done | rfl | (simp only [List.length_drop, List.length_take]; rfl)) ?_; (with_reducible refine (stream_Xor.calls kj3 t242 4294967295 t243 (strOfNums y244) t247 true _ A17.out).mono ?_); rintro e w30 ⟨rfl, hb⟩; refine ⟨_, rfl, ?_⟩; have n0_ := Aside0.mk (Kd.R_below (by (with_reducible repeat (first | apply Kd.R_alloc | apply Kd.R_drewN | apply Kd.R_drew)); exact HO246.out) hb); have n1_ := Aside0.mk (below_step (by repeat (first | (with_reducible first | exact HB.out | apply below_alloc | apply pw_below_drewN | apply below_drew1) | exact HB.out)) hb); clear HO246; clear HB; have HO246 := n0_; have HB := n1_; clear n0_ n1_; (try clear hb); (try clear hb2); (try clear hk); (try clear hi)) | ((with_reducible refine gate_callee (f := 13) rfl ?_); refine goesL_ (some 41) rfl rfl Try.func13 (by kernel_rfl) rfl #[.string t242, .int .u32 4294967295, .string t243] rfl (by (try simp only [List.map_toArray, List.map_cons, List.map_nil]); first | done | rfl | (simp only [List.length_drop, List.length_take]; rfl)) ?_; (with_reducible refine (stream_Block.calls kj3 t242 4294967295 t243 t249 true _ A18.out).mono ?_); rintro e w31 ⟨rfl, hb⟩; refine ⟨_, rfl, ?_⟩; have n0_ := Aside0.mk (Kd.R_below (by (with_reducible repeat (first | apply Kd.R_alloc | apply Kd.R_drewN | apply Kd.R_drew)); exact HO246.out) hb); have n1_ := Aside0.mk (below_step (by repeat (first | (with_reducible first | exact HB.out | apply below_alloc | apply pw_below_drewN | apply below_drew1) | exact HB.out)) hb); clear HO246; clear HB; have HO246 := n0_; have HB := n1_; clear n0_ n1_; (try clear hb); (try clear hb2); (try clear hk); (try clear hi)) | ((with_reducible refine gate_dst (N := 50) rfl ?_); refine Kd.R_make (Kd.int .u8) _ 5 rfl (N := 50) rfl 35 _ _ rfl ji19 rfl rfl Try.underlying35 (.int .u8 0) 1 info5 rfl (by decide) (by omega) 0 (ok := fun _ => True) (okp := fun _ => True) rfl (fun _ hk => hk) trivial (of_decide_eq_true (by first | (with_reducible assumption) | assumption)) (Nat.le_trans (Nat.mul_le_mul_right _ (of_decide_eq_true (by first | (with_reducible assumption) | assumption) : ji19.toNat ≤ 281474976710656)) (by omega)) (Below.refl _ _) (Nat.le_refl _) ?_; intro v252 w32 ho33 hb hg_ hnew_; clear hg_ hnew_; (first | rw [← Ny251.out] at ho33 | (simp only [Int.reduceToNat] at ho33; rw [← Ny251.out] at ho33)); have n0_ := Aside0.mk (Kd.R_elder' (by (with_reducible repeat (first | apply Kd.R_alloc | apply Kd.R_drewN | apply Kd.R_drew)); exact HO246.out) (Kd.R_base ho33) hb); have n1_ := Aside0.mk (Kd.R_lower (Kd.R_new' ho33 (Kd.R_lt (by (with_reducible repeat (first | apply Kd.R_alloc | apply Kd.R_drewN | apply Kd.R_drew)); exact HO246.out))) (below_size (by repeat (first | (with_reducible first | exact HB.out | apply below_alloc | apply pw_below_drewN | apply below_drew1) | exact HB.out)))); have n2_ := Aside0.mk (below_step (by repeat (first | (with_reducible first | exact HB.out | apply below_alloc | apply pw_below_drewN | apply below_drew1) | exact HB.out)) hb); clear HO246; clear HB; have HO246 := n0_; have HO253 := n1_; have HB := n2_; clear n0_ n1_ n2_; clear hb ho33; have hcv34 := own_string (P := Try.prog) Try.underlying35 Try.underlying5 Try.underlying9 (Kd.own_of_R HO253.out)) | ((with_reducible refine gate_callee (f := 14) rfl ?_); refine goesL_ (some 52) rfl rfl Try.func14 (by kernel_rfl) rfl #[.string t242, .int .u32 0, .string t243, .string (strOfNums y251)] rfl (by (try simp only [List.map_toArray, List.map_cons, List.map_nil]); first | done | rfl | (simp only [List.length_drop, List.length_take]; rfl)) ?_; (with_reducible refine (stream_Xor.calls kj3 t242 0 t243 (strOfNums y251) t254 true _ A22.out).mono ?_); rintro e w35 ⟨rfl, hb⟩; refine ⟨_, rfl, ?_⟩; have n0_ := Aside0.mk (Kd.R_below (by (with_reducible repeat (first | apply Kd.R_alloc | apply Kd.R_drewN | apply Kd.R_drew)); exact HO246.out) hb); have n1_ := Aside0.mk (Kd.R_below (by (with_reducible repeat (first | apply Kd.R_alloc | apply Kd.R_drewN | apply Kd.R_drew)); exact HO253.out) hb); have n2_ := Aside0.mk (below_step (by repeat (first | (with_reducible first | exact HB.out | apply below_alloc | apply pw_below_drewN | apply below_drew1) | exact HB.out)) hb); clear HO246; clear HO253; clear HB; have HO246 := n0_; have HO253 := n1_; have HB := n2_; clear n0_ n1_ n2_; (try clear hb); (try clear hb2); (try clear hk); (try clear hi)))
                        go_ret
                        exact ⟨by first | rfl | (simp [errW_none, errW_some] <;> rfl) | (simp only [← hji14, ← hji19]; first | rfl | (simp [errW_none, errW_some] <;> rfl)) | (simp [*, errW_none, errW_some] <;> rfl), by repeat (first | (with_reducible first | exact HB.out | apply below_alloc | apply pw_below_drewN | apply below_drew1) | exact HB.out)⟩
                      · rw [if_neg c26] at H
                        exact absurd H (by simp)
                    · replace c25 := Bool.eq_false_iff.mpr c25
                      subst c25
                      have H1 : (none) = some r := by rw [if_neg (show ¬ (false = true) by decide)] at H; exact H
                      clear H
                      have H := H1
                      clear H1
                      exact absurd H (by simp)
                  · replace c24 := Bool.eq_false_iff.mpr c24
                    subst c24
                    have H1 : (none) = some r := by rw [if_neg (show ¬ (false = true) by decide)] at H; exact H
                    clear H
                    have H := H1
                    clear H1
                    exact absurd H (by simp)
                · replace c23 := Bool.eq_false_iff.mpr c23
                  subst c23
                  have H1 : (none) = some r := by rw [if_neg (show ¬ (false = true) by decide)] at H; exact H
                  clear H
                  have H := H1
                  clear H1
                  exact absurd H (by simp)
              · rw [if_neg c21] at H
                exact absurd H (by simp)
            · rw [if_neg c20] at H
              exact absurd H (by simp)
          · rw [if_neg c16] at H
            exact absurd H (by simp)
        · rw [if_neg c15] at H
          exact absurd H (by simp)

/-- THE ONE PURE STATEMENT of escutcheonlaw5_StreamWraps: yours. -/
def escutcheonlaw5_StreamWraps.Pure : Prop := ∀ (a0 : ByteArray) (a1 : ByteArray) (a2 : Int), a0.size ≤ 140737488351232 → a1.size ≤ 140737488351232 → (Lit.int .i64 a2).wf = true → ∃ k, escutcheonlaw5_StreamWraps.f k a0 a1 a2 = some true
theorem escutcheonlaw5_StreamWraps.walk (P : escutcheonlaw5_StreamWraps.Pure) (a0 : ByteArray) (a1 : ByteArray) (a2 : Int) (w : World) (w0 : a0.size ≤ 140737488351232) (w1 : a1.size ≤ 140737488351232) (w2 : (Lit.int .i64 a2).wf = true) :
    Calls Try.prog 6 #[.string a0, .string a1, .int .i64 a2] w fun e w' => e = .returned (.bool true) ∧ Below w.heap.size w w' := by
  obtain ⟨k, h⟩ := P a0 a1 a2 w0 w1 w2
  refine (escutcheonlaw5_StreamWraps.calls k a0 a1 a2 true w h).mono ?_
  rintro e w' ⟨rfl, hd⟩
  exact ⟨rfl, hd⟩

end Go.Proofs.Ytdnlenhkagfiaaa.P
