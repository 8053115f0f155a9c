-- Written by wip/inj.py (the kit's print, with contracts typed by hand beside it).
import Derived.Test.YtdnlenhkagfiaaaPx0
import Derived.Test.YtdnlenhkagfiaaaPx1
import Derived.Test.YtdnlenhkagfiaaaPx4
import Derived.Test.YtdnlenhkagfiaaaPx6
import Derived.Test.YtdnlenhkagfiaaaPx9
namespace Go.Proofs.Ytdnlenhkagfiaaa.P
open Go.RowKit Go.Proofs.YtdnlenhkagfiaaaW.PrintWords Go.Proofs.YtdnlenhkagfiaaaW.PrintLast Go.Proofs.YtdnlenhkagfiaaaW.PrintMore
attribute [local go_sem] max2_int min2_int max_two min_two max_three min_three max_four min_four   -- for this text's walks alone
set_option linter.unusedVariables false
set_option linter.unusedSimpArgs false

/-! ### escutcheonlaw5_StreamMixes: function 7 -/
def escutcheonlaw5_StreamMixes.j0 : Nat → ByteArray → ByteArray → ByteArray → ByteArray → Int → Bool → Option (Bool)
  | 0, _, _, _, _, _, _ => none
  | k + 1, x0, x1, x2, x3, x4, x28 => if x28 = true then ((escutcheonlaw5_alive.f k).bind fun t257 => (some t257)) else ((escutcheonlaw5_Fill.f k x0 32).bind fun t258 => ((escutcheonlaw5_Fill.f k x1 12).bind fun t259 => ((stream_Xor.f k t258 x4 t259 x2).bind fun bt260 => ((stream_Xor.f k t258 x4 t259 x3).bind fun bt262 => (if bt260.2 = true then (if bt262.2 = true then ((escutcheonref1_Xor.f k bt260.1 bt262.1).bind fun t264 => ((escutcheonref1_Xor.f k x2 x3).bind fun t265 => (some (t264.toList == t265.toList)))) else (none)) else (none))))))
def escutcheonlaw5_StreamMixes.f (k : Nat) (a0 : ByteArray) (a1 : ByteArray) (a2 : ByteArray) (a3 : ByteArray) (a4 : Int) : Option (Bool) := if (a2.size : Int) = (a3.size : Int) then (if (a2.size : Int) > 300 then (escutcheonlaw5_StreamMixes.j0 k a0 a1 a2 a3 a4 true) else ((escutcheonlaw5_alive.f k).bind fun t256 => (escutcheonlaw5_StreamMixes.j0 k a0 a1 a2 a3 a4 (!t256)))) else (escutcheonlaw5_StreamMixes.j0 k a0 a1 a2 a3 a4 true)
theorem escutcheonlaw5_StreamMixes.mono_l : ∀ k, (∀ y0 y1 y2 y3 y4 y5, LeO (escutcheonlaw5_StreamMixes.j0 k y0 y1 y2 y3 y4 y5) (escutcheonlaw5_StreamMixes.j0 (k + 1) y0 y1 y2 y3 y4 y5))
  | 0 => fun _ _ _ _ _ _ r h => by simp [escutcheonlaw5_StreamMixes.j0] at h
  | k + 1 => by
    have ih0 := escutcheonlaw5_StreamMixes.mono_l k
    · intro y0 y1 y2 y3 y4 y5
      unfold escutcheonlaw5_StreamMixes.j0
      repeat' first
      | (with_reducible exact ih0 _ _ _ _ _ _)
      | (with_reducible exact escutcheonlaw5_Fill.mono _ _ _)
      | (with_reducible exact escutcheonlaw5_alive.mono _)
      | (with_reducible exact escutcheonref1_Xor.mono _ _ _)
      | (with_reducible exact stream_Xor.mono _ _ _ _ _)
      | (with_reducible exact LeO.refl _)
      | (with_reducible exact LeO.none _)
      | (with_reducible refine LeO.ite ?_ ?_)
      | (with_reducible refine LeO.bind ?_ (fun _ => ?_))
      | exact ih0 _ _ _ _ _ _
      | exact escutcheonlaw5_Fill.mono _ _ _
      | exact escutcheonlaw5_alive.mono _
      | exact escutcheonref1_Xor.mono _ _ _
      | exact stream_Xor.mono _ _ _ _ _
      | exact LeO.none _
      | refine LeO.ite ?_ ?_
      | refine LeO.bind ?_ (fun _ => ?_)
theorem escutcheonlaw5_StreamMixes.mono : ∀ a0 a1 a2 a3 a4 k, LeO (escutcheonlaw5_StreamMixes.f k a0 a1 a2 a3 a4) (escutcheonlaw5_StreamMixes.f (k + 1) a0 a1 a2 a3 a4) := by
  intro a0 a1 a2 a3 a4 k
  have ih0 := escutcheonlaw5_StreamMixes.mono_l k
  unfold escutcheonlaw5_StreamMixes.f
  repeat' first
      | (with_reducible exact ih0 _ _ _ _ _ _)
      | (with_reducible exact escutcheonlaw5_Fill.mono _ _ _)
      | (with_reducible exact escutcheonlaw5_alive.mono _)
      | (with_reducible exact escutcheonref1_Xor.mono _ _ _)
      | (with_reducible exact stream_Xor.mono _ _ _ _ _)
      | (with_reducible exact LeO.refl _)
      | (with_reducible exact LeO.none _)
      | (with_reducible refine LeO.ite ?_ ?_)
      | (with_reducible refine LeO.bind ?_ (fun _ => ?_))
      | exact ih0 _ _ _ _ _ _
      | exact escutcheonlaw5_Fill.mono _ _ _
      | exact escutcheonlaw5_alive.mono _
      | exact escutcheonref1_Xor.mono _ _ _
      | exact stream_Xor.mono _ _ _ _ _
      | exact LeO.none _
      | refine LeO.ite ?_ ?_
      | refine LeO.bind ?_ (fun _ => ?_)
set_option maxHeartbeats 8000000 in
set_option maxRecDepth 100000 in
theorem escutcheonlaw5_StreamMixes.calls (k : Nat) (a0 : ByteArray) (a1 : ByteArray) (a2 : ByteArray) (a3 : ByteArray) (a4 : Int) (r : Bool) (w : World) (h : escutcheonlaw5_StreamMixes.f k a0 a1 a2 a3 a4 = some r) :
    Calls Try.prog 7 #[.string a0, .string a1, .string a2, .string a3, .int .u32 a4] w fun e w' => e = .returned (.bool r) ∧ Below w.heap.size w w' := by
  have HB := Aside0.mk (Below.refl w.heap.size w)
  have H : (if (a2.size : Int) = (a3.size : Int) then (if (a2.size : Int) > 300 then (escutcheonlaw5_StreamMixes.j0 k a0 a1 a2 a3 a4 true) else ((escutcheonlaw5_alive.f k).bind fun t256 => (escutcheonlaw5_StreamMixes.j0 k a0 a1 a2 a3 a4 (!t256)))) else (escutcheonlaw5_StreamMixes.j0 k a0 a1 a2 a3 a4 true)) = some r := h
  clear h
  have HC6 := Aside0.mk H
  clear H
  go_enter Try.func7, Try.ntmps7
  go_upto_region 1 with (fail)
  go_cut [28] (fun v28 wc => ∃ (kq : Nat) (x28_5 : Bool), v28 = .bool x28_5 ∧ Aside0 (escutcheonlaw5_StreamMixes.j0 kq a0 a1 a2 a3 a4 x28_5 = some r) ∧ Aside0 (kq ≤ k) ∧ Aside0 (Below w.heap.size w wc))
  case first =>
    have H := HC6.out
    clear HC6
    by_cases c7 : (a2.size : Int) = (a3.size : Int)
    · rw [if_pos c7] at H
      have c7b0 : ((a2.size : Int) == (a3.size : Int)) = true := beq_iff_eq.mpr c7
      have c7b1 : ((a2.size : Int) != (a3.size : Int)) = false := bne_eq_false_iff_eq.mpr c7
      have c7b2 : (a2.size == a3.size) = true := by first | simpa using c7 | (simp at c7 ⊢; omega)
      clear c7
      (first | rw [c7b0] | (simp only [i64_w, i32_w]; rw [c7b0]) | skip)
      by_cases c8 : (a2.size : Int) > 300
      · rw [if_pos c8] at H
        have c8b0 : decide (300 < (a2.size : Int)) = true := decide_eq_true c8
        have c8b1 : decide (300 < a2.size) = true := decide_eq_true (by omega)
        clear c8
        have H' := Aside0.mk H
        clear H
        go_wp2
        go_meet
        case rel => exact ⟨_, (true), (by first | rfl | (simp; done) | (simp [*]; done)), H', ⟨by first | omega | exact Nat.le_refl _⟩, ⟨by repeat (first | (with_reducible first | exact HB.out | apply below_alloc | apply pw_below_drewN | apply below_drew1) | exact HB.out)⟩⟩
      · rw [if_neg c8] at H
        have c8b0 : decide (300 < (a2.size : Int)) = false := decide_eq_false c8
        have c8b1 : decide (300 < a2.size) = false := decide_eq_false (by omega)
        clear c8
        replace H := Option.bind_eq_some_iff.mp H
        obtain ⟨t256, A90, H⟩ := H
        replace H : (escutcheonlaw5_StreamMixes.j0 k a0 a1 a2 a3 a4 (!t256)) = some r := H
        have A9 := Aside0.mk A90
        clear A90
        have H' := Aside0.mk H
        clear H
        go_wp2_with (first | (go_at_call 8; (with_reducible refine (escutcheonlaw5_alive.calls k  t256 _ A9.out).mono ?_); rintro e w10 ⟨rfl, hb⟩; have n0_ := Aside0.mk (below_step (by repeat (first | (with_reducible first | exact HB.out | apply below_alloc | apply pw_below_drewN | apply below_drew1) | exact HB.out)) hb); clear HB; have HB := n0_; clear n0_; (try clear hb); (try clear hb2); (try clear hk); (try clear hi)))
        go_meet
        case rel => exact ⟨_, (!t256), (by first | rfl | (simp; done) | (simp [*]; done)), H', ⟨by first | omega | exact Nat.le_refl _⟩, ⟨by repeat (first | (with_reducible first | exact HB.out | apply below_alloc | apply pw_below_drewN | apply below_drew1) | exact HB.out)⟩⟩
    · rw [if_neg c7] at H
      have c7b0 : ((a2.size : Int) == (a3.size : Int)) = false := beq_eq_false_iff_ne.mpr c7
      have c7b1 : ((a2.size : Int) != (a3.size : Int)) = true := bne_iff_ne.mpr c7
      have c7b2 : (a2.size == a3.size) = false := by first | simpa using c7 | (simp at c7 ⊢; omega)
      (first | rw [c7b0] | (simp only [i64_w, i32_w]; rw [c7b0]) | skip)
      have H' := Aside0.mk H
      clear H
      go_wp2
      go_meet
      case rel => exact ⟨_, (true), (by first | rfl | (simp; done) | (simp [*]; done)), H', ⟨by first | omega | exact Nat.le_refl _⟩, ⟨by repeat (first | (with_reducible first | exact HB.out | apply below_alloc | apply pw_below_drewN | apply below_drew1) | exact HB.out)⟩⟩
  case rest =>
    clear HC6
    try clear p2
    try clear c7
    try clear c7b0
    try clear c7b1
    try clear c7b2
    try clear c8
    try clear c8b0
    try clear c8b1
    obtain ⟨kq, x28_5, rfl, HA, HJ5, HB⟩ := hcut
    cases kq with
    | zero => exact absurd HA.out (by simp [escutcheonlaw5_StreamMixes.j0])
    | succ kj5 =>
      have H := HA.out
      clear HA
      simp only [escutcheonlaw5_StreamMixes.j0] at H
      by_cases c11 : x28_5 = true
      · subst c11
        have H1 : ((escutcheonlaw5_alive.f kj5).bind fun t257 => (some t257)) = some r := by rw [if_pos rfl] at H; exact H
        clear H
        have H := H1
        clear H1
        replace H := Option.bind_eq_some_iff.mp H
        obtain ⟨t257, A120, H⟩ := H
        replace H : (some t257) = some r := H
        have A12 := Aside0.mk A120
        clear A120
        obtain rfl := Option.some.inj H
        go_wp2_with (first | ((with_reducible refine gate_callee (f := 8) rfl ?_); refine goesL_ (some 29) rfl rfl Try.func8 (by kernel_rfl) rfl #[] rfl (by (try simp only [List.map_toArray, List.map_cons, List.map_nil]); first | done | rfl | (simp only [List.length_drop, List.length_take]; rfl)) ?_; (with_reducible refine (escutcheonlaw5_alive.calls kj5  t257 _ A12.out).mono ?_); rintro e w13 ⟨rfl, hb⟩; refine ⟨_, rfl, ?_⟩; have n0_ := Aside0.mk (below_step (by repeat (first | (with_reducible first | exact HB.out | apply below_alloc | apply pw_below_drewN | apply below_drew1) | exact HB.out)) hb); clear HB; have HB := n0_; clear n0_; (try clear hb); (try clear hb2); (try clear hk); (try clear hi)))
        go_ret
        exact ⟨by first | rfl | (simp [errW_none, errW_some] <;> rfl) | (simp [*, errW_none, errW_some] <;> rfl), by repeat (first | (with_reducible first | exact HB.out | apply below_alloc | apply pw_below_drewN | apply below_drew1) | exact HB.out)⟩
      · replace c11 := Bool.eq_false_iff.mpr c11
        subst c11
        have H1 : ((escutcheonlaw5_Fill.f kj5 a0 32).bind fun t258 => ((escutcheonlaw5_Fill.f kj5 a1 12).bind fun t259 => ((stream_Xor.f kj5 t258 a4 t259 a2).bind fun bt260 => ((stream_Xor.f kj5 t258 a4 t259 a3).bind fun bt262 => (if bt260.2 = true then (if bt262.2 = true then ((escutcheonref1_Xor.f kj5 bt260.1 bt262.1).bind fun t264 => ((escutcheonref1_Xor.f kj5 a2 a3).bind fun t265 => (some (t264.toList == t265.toList)))) else (none)) else (none)))))) = some r := by rw [if_neg (show ¬ (false = true) by decide)] at H; exact H
        clear H
        have H := H1
        clear H1
        replace H := Option.bind_eq_some_iff.mp H
        obtain ⟨t258, A140, H⟩ := H
        replace H : ((escutcheonlaw5_Fill.f kj5 a1 12).bind fun t259 => ((stream_Xor.f kj5 t258 a4 t259 a2).bind fun bt260 => ((stream_Xor.f kj5 t258 a4 t259 a3).bind fun bt262 => (if bt260.2 = true then (if bt262.2 = true then ((escutcheonref1_Xor.f kj5 bt260.1 bt262.1).bind fun t264 => ((escutcheonref1_Xor.f kj5 a2 a3).bind fun t265 => (some (t264.toList == t265.toList)))) else (none)) else (none))))) = some r := H
        have A14 := Aside0.mk A140
        clear A140
        replace H := Option.bind_eq_some_iff.mp H
        obtain ⟨t259, A150, H⟩ := H
        replace H : ((stream_Xor.f kj5 t258 a4 t259 a2).bind fun bt260 => ((stream_Xor.f kj5 t258 a4 t259 a3).bind fun bt262 => (if bt260.2 = true then (if bt262.2 = true then ((escutcheonref1_Xor.f kj5 bt260.1 bt262.1).bind fun t264 => ((escutcheonref1_Xor.f kj5 a2 a3).bind fun t265 => (some (t264.toList == t265.toList)))) else (none)) else (none)))) = some r := H
        have A15 := Aside0.mk A150
        clear A150
        replace H := Option.bind_eq_some_iff.mp H
        obtain ⟨⟨t260, t261⟩, A160, H⟩ := H
        replace H : ((stream_Xor.f kj5 t258 a4 t259 a3).bind fun bt262 => (if t261 = true then (if bt262.2 = true then ((escutcheonref1_Xor.f kj5 t260 bt262.1).bind fun t264 => ((escutcheonref1_Xor.f kj5 a2 a3).bind fun t265 => (some (t264.toList == t265.toList)))) else (none)) else (none))) = some r := H
        have A16 := Aside0.mk A160
        clear A160
        replace H := Option.bind_eq_some_iff.mp H
        obtain ⟨⟨t262, t263⟩, A170, H⟩ := H
        replace H : (if t261 = true then (if t263 = true then ((escutcheonref1_Xor.f kj5 t260 t262).bind fun t264 => ((escutcheonref1_Xor.f kj5 a2 a3).bind fun t265 => (some (t264.toList == t265.toList)))) else (none)) else (none)) = some r := H
        have A17 := Aside0.mk A170
        clear A170
        by_cases c18 : t261 = true
        · subst c18
          have H1 : (if t263 = true then ((escutcheonref1_Xor.f kj5 t260 t262).bind fun t264 => ((escutcheonref1_Xor.f kj5 a2 a3).bind fun t265 => (some (t264.toList == t265.toList)))) else (none)) = some r := by rw [if_pos rfl] at H; exact H
          clear H
          have H := H1
          clear H1
          by_cases c19 : t263 = true
          · subst c19
            have H1 : ((escutcheonref1_Xor.f kj5 t260 t262).bind fun t264 => ((escutcheonref1_Xor.f kj5 a2 a3).bind fun t265 => (some (t264.toList == t265.toList)))) = some r := by rw [if_pos rfl] at H; exact H
            clear H
            have H := H1
            clear H1
            replace H := Option.bind_eq_some_iff.mp H
            obtain ⟨t264, A200, H⟩ := H
            replace H : ((escutcheonref1_Xor.f kj5 a2 a3).bind fun t265 => (some (t264.toList == t265.toList))) = some r := H
            have A20 := Aside0.mk A200
            clear A200
            replace H := Option.bind_eq_some_iff.mp H
            obtain ⟨t265, A210, H⟩ := H
            replace H : (some (t264.toList == t265.toList)) = some r := H
            have A21 := Aside0.mk A210
            clear A210
            obtain rfl := Option.some.inj H
            go_wp2_with (first | ((with_reducible refine gate_callee (f := 11) rfl ?_); refine goesL_ (some 31) rfl rfl Try.func11 (by kernel_rfl) rfl #[.string a0, .int .i64 32] rfl (by (try simp only [List.map_toArray, List.map_cons, List.map_nil]); first | done | rfl | (simp only [List.length_drop, List.length_take]; rfl)) ?_; (with_reducible refine (escutcheonlaw5_Fill.calls kj5 a0 32 t258 _ A14.out).mono ?_); rintro e w' ⟨rfl, ⟨nd, rfl⟩⟩; refine ⟨_, rfl, ?_⟩) | ((with_reducible refine gate_callee (f := 11) rfl ?_); refine goesL_ (some 33) rfl rfl Try.func11 (by kernel_rfl) rfl #[.string a1, .int .i64 12] rfl (by (try simp only [List.map_toArray, List.map_cons, List.map_nil]); first | done | rfl | (simp only [List.length_drop, List.length_take]; rfl)) ?_; (with_reducible refine (escutcheonlaw5_Fill.calls kj5 a1 12 t259 _ A15.out).mono ?_); rintro e w' ⟨rfl, ⟨nd, rfl⟩⟩; refine ⟨_, rfl, ?_⟩) | ((with_reducible refine gate_callee (f := 14) rfl ?_); refine goesL_ (some 39) rfl rfl Try.func14 (by kernel_rfl) rfl #[.string t258, .int .u32 a4, .string t259, .string a2] rfl (by (try simp only [List.map_toArray, List.map_cons, List.map_nil]); first | done | rfl | (simp only [List.length_drop, List.length_take]; rfl)) ?_; (with_reducible refine (stream_Xor.calls kj5 t258 a4 t259 a2 t260 true _ A16.out).mono ?_); rintro e w22 ⟨rfl, hb⟩; refine ⟨_, rfl, ?_⟩; have n0_ := Aside0.mk (below_step (by repeat (first | (with_reducible first | exact HB.out | apply below_alloc | apply pw_below_drewN | apply below_drew1) | exact HB.out)) hb); clear HB; have HB := n0_; clear n0_; (try clear hb); (try clear hb2); (try clear hk); (try clear hi)) | ((with_reducible refine gate_callee (f := 14) rfl ?_); refine goesL_ (some 47) rfl rfl Try.func14 (by kernel_rfl) rfl #[.string t258, .int .u32 a4, .string t259, .string a3] rfl (by (try simp only [List.map_toArray, List.map_cons, List.map_nil]); first | done | rfl | (simp only [List.length_drop, List.length_take]; rfl)) ?_; (with_reducible refine (stream_Xor.calls kj5 t258 a4 t259 a3 t262 true _ A17.out).mono ?_); rintro e w23 ⟨rfl, hb⟩; refine ⟨_, rfl, ?_⟩; have n0_ := Aside0.mk (below_step (by repeat (first | (with_reducible first | exact HB.out | apply below_alloc | apply pw_below_drewN | apply below_drew1) | exact HB.out)) hb); clear HB; have HB := n0_; clear n0_; (try clear hb); (try clear hb2); (try clear hk); (try clear hi)) | (go_at_call 17; (with_reducible refine (escutcheonref1_Xor.calls kj5 t260 t262 t264 _ A20.out).mono ?_); rintro e w24 ⟨rfl, hb⟩; have n0_ := Aside0.mk (below_step (by repeat (first | (with_reducible first | exact HB.out | apply below_alloc | apply pw_below_drewN | apply below_drew1) | exact HB.out)) hb); clear HB; have HB := n0_; clear n0_; (try clear hb); (try clear hb2); (try clear hk); (try clear hi)) | (go_at_call 17; (with_reducible refine (escutcheonref1_Xor.calls kj5 a2 a3 t265 _ A21.out).mono ?_); rintro e w25 ⟨rfl, hb⟩; have n0_ := Aside0.mk (below_step (by repeat (first | (with_reducible first | exact HB.out | apply below_alloc | apply pw_below_drewN | apply below_drew1) | exact HB.out)) hb); clear HB; have HB := n0_; clear n0_; (try clear hb); (try clear hb2); (try clear hk); (try clear hi)) | (go_at_call 11; (with_reducible refine (escutcheonlaw5_Fill.calls kj5 a0 32 t258 _ A14.out).mono ?_); rintro e w' ⟨rfl, ⟨nd, rfl⟩⟩) | (go_at_call 11; (with_reducible refine (escutcheonlaw5_Fill.calls kj5 a1 12 t259 _ A15.out).mono ?_); rintro e w' ⟨rfl, ⟨nd, rfl⟩⟩) | (go_at_call 14; (with_reducible refine (stream_Xor.calls kj5 t258 a4 t259 a2 t260 true _ A16.out).mono ?_); rintro e w22 ⟨rfl, hb⟩; have n0_ := Aside0.mk (below_step (by repeat (first | (with_reducible first | exact HB.out | apply below_alloc | apply pw_below_drewN | apply below_drew1) | exact HB.out)) hb); clear HB; have HB := n0_; clear n0_; (try clear hb); (try clear hb2); (try clear hk); (try clear hi)) | (go_at_call 14; (with_reducible refine (stream_Xor.calls kj5 t258 a4 t259 a3 t262 true _ A17.out).mono ?_); rintro e w23 ⟨rfl, hb⟩; have n0_ := Aside0.mk (below_step (by repeat (first | (with_reducible first | exact HB.out | apply below_alloc | apply pw_below_drewN | apply below_drew1) | exact HB.out)) hb); clear HB; have HB := n0_; clear n0_; (try clear hb); (try clear hb2); (try clear hk); (try clear hi)))
            go_ret
            exact ⟨by first | rfl | (simp [errW_none, errW_some] <;> rfl) | (simp [*, errW_none, errW_some] <;> rfl), by repeat (first | (with_reducible first | exact HB.out | apply below_alloc | apply pw_below_drewN | apply below_drew1) | exact HB.out)⟩
          · replace c19 := Bool.eq_false_iff.mpr c19
            subst c19
            have H1 : (none) = some r := by rw [if_neg (show ¬ (false = true) by decide)] at H; exact H
            clear H
            have H := H1
            clear H1
            exact absurd H (by simp)
        · replace c18 := Bool.eq_false_iff.mpr c18
          subst c18
          have H1 : (none) = some r := by rw [if_neg (show ¬ (false = true) by decide)] at H; exact H
          clear H
          have H := H1
          clear H1
          exact absurd H (by simp)

/-- THE ONE PURE STATEMENT of escutcheonlaw5_StreamMixes: yours. -/
def escutcheonlaw5_StreamMixes.Pure : Prop := ∀ (a0 : ByteArray) (a1 : ByteArray) (a2 : ByteArray) (a3 : ByteArray) (a4 : Int), a0.size ≤ 140737488351232 → a1.size ≤ 140737488351232 → a2.size ≤ 140737488351232 → a3.size ≤ 140737488351232 → (Lit.int .u32 a4).wf = true → ∃ k, escutcheonlaw5_StreamMixes.f k a0 a1 a2 a3 a4 = some true
theorem escutcheonlaw5_StreamMixes.walk (P : escutcheonlaw5_StreamMixes.Pure) (a0 : ByteArray) (a1 : ByteArray) (a2 : ByteArray) (a3 : ByteArray) (a4 : Int) (w : World) (w0 : a0.size ≤ 140737488351232) (w1 : a1.size ≤ 140737488351232) (w2 : a2.size ≤ 140737488351232) (w3 : a3.size ≤ 140737488351232) (w4 : (Lit.int .u32 a4).wf = true) :
    Calls Try.prog 7 #[.string a0, .string a1, .string a2, .string a3, .int .u32 a4] w fun e w' => e = .returned (.bool true) ∧ Below w.heap.size w w' := by
  obtain ⟨k, h⟩ := P a0 a1 a2 a3 a4 w0 w1 w2 w3 w4
  refine (escutcheonlaw5_StreamMixes.calls k a0 a1 a2 a3 a4 true w h).mono ?_
  rintro e w' ⟨rfl, hd⟩
  exact ⟨rfl, hd⟩

end Go.Proofs.Ytdnlenhkagfiaaa.P
