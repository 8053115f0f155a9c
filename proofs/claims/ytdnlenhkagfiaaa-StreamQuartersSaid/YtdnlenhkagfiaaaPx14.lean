-- Written by wip/inj.py (the kit's print, with contracts typed by hand beside it).
import Derived.Test.YtdnlenhkagfiaaaPx0
import Derived.Test.YtdnlenhkagfiaaaPx1
import Derived.Test.YtdnlenhkagfiaaaPx4
import Derived.Test.YtdnlenhkagfiaaaPx6
import Derived.Test.YtdnlenhkagfiaaaPx9
namespace Go.Proofs.Ytdnlenhkagfiaaa.P
open Go.RowKit Go.Proofs.YtdnlenhkagfiaaaW.PrintWords Go.Proofs.YtdnlenhkagfiaaaW.PrintLast Go.Proofs.YtdnlenhkagfiaaaW.PrintMore
attribute [local go_sem] max2_int min2_int max_two min_two max_three min_three max_four min_four   -- for this text's walks alone
set_option linter.unusedVariables false
set_option linter.unusedSimpArgs false

/-! ### escutcheonlaw5_StreamMixes: function 7 -/
def escutcheonlaw5_StreamMixes.j0 : Nat → ByteArray → ByteArray → ByteArray → ByteArray → Int → Bool → Option (Bool)
  | 0, _, _, _, _, _, _ => none
  | k + 1, x0, x1, x2, x3, x4, x28 => if x28 = true then ((escutcheonlaw5_alive.f k).bind fun t252 => (some t252)) else ((escutcheonlaw5_Fill.f k x0 32).bind fun t253 => ((escutcheonlaw5_Fill.f k x1 12).bind fun t254 => ((stream_Xor.f k t253 x4 t254 x2).bind fun bt255 => ((stream_Xor.f k t253 x4 t254 x3).bind fun bt257 => (if bt255.2 = true then (if bt257.2 = true then ((escutcheonref1_Xor.f k bt255.1 bt257.1).bind fun t259 => ((escutcheonref1_Xor.f k x2 x3).bind fun t260 => (some (t259.toList == t260.toList)))) else (none)) else (none))))))
def escutcheonlaw5_StreamMixes.f (k : Nat) (a0 : ByteArray) (a1 : ByteArray) (a2 : ByteArray) (a3 : ByteArray) (a4 : Int) : Option (Bool) := if (a2.size : Int) = (a3.size : Int) then (if (a2.size : Int) > 300 then (escutcheonlaw5_StreamMixes.j0 k a0 a1 a2 a3 a4 true) else ((escutcheonlaw5_alive.f k).bind fun t251 => (escutcheonlaw5_StreamMixes.j0 k a0 a1 a2 a3 a4 (!t251)))) else (escutcheonlaw5_StreamMixes.j0 k a0 a1 a2 a3 a4 true)
theorem escutcheonlaw5_StreamMixes.mono_l : ∀ k, (∀ y0 y1 y2 y3 y4 y5, LeO (escutcheonlaw5_StreamMixes.j0 k y0 y1 y2 y3 y4 y5) (escutcheonlaw5_StreamMixes.j0 (k + 1) y0 y1 y2 y3 y4 y5))
  | 0 => fun _ _ _ _ _ _ r h => by simp [escutcheonlaw5_StreamMixes.j0] at h
  | k + 1 => by
    have ih0 := escutcheonlaw5_StreamMixes.mono_l k
    · intro y0 y1 y2 y3 y4 y5
      unfold escutcheonlaw5_StreamMixes.j0
      repeat' first
      | (with_reducible exact ih0 _ _ _ _ _ _)
      | (with_reducible exact escutcheonlaw5_Fill.mono _ _ _)
      | (with_reducible exact escutcheonlaw5_alive.mono _)
      | (with_reducible exact escutcheonref1_Xor.mono _ _ _)
      | (with_reducible exact stream_Xor.mono _ _ _ _ _)
      | (with_reducible exact LeO.refl _)
      | (with_reducible exact LeO.none _)
      | (with_reducible refine LeO.ite ?_ ?_)
      | (with_reducible refine LeO.bind ?_ (fun _ => ?_))
      | exact ih0 _ _ _ _ _ _
      | exact escutcheonlaw5_Fill.mono _ _ _
      | exact escutcheonlaw5_alive.mono _
      | exact escutcheonref1_Xor.mono _ _ _
      | exact stream_Xor.mono _ _ _ _ _
      | exact LeO.none _
      | refine LeO.ite ?_ ?_
      | refine LeO.bind ?_ (fun _ => ?_)
theorem escutcheonlaw5_StreamMixes.mono : ∀ a0 a1 a2 a3 a4 k, LeO (escutcheonlaw5_StreamMixes.f k a0 a1 a2 a3 a4) (escutcheonlaw5_StreamMixes.f (k + 1) a0 a1 a2 a3 a4) := by
  intro a0 a1 a2 a3 a4 k
  have ih0 := escutcheonlaw5_StreamMixes.mono_l k
  unfold escutcheonlaw5_StreamMixes.f
  repeat' first
      | (with_reducible exact ih0 _ _ _ _ _ _)
      | (with_reducible exact escutcheonlaw5_Fill.mono _ _ _)
      | (with_reducible exact escutcheonlaw5_alive.mono _)
      | (with_reducible exact escutcheonref1_Xor.mono _ _ _)
      | (with_reducible exact stream_Xor.mono _ _ _ _ _)
      | (with_reducible exact LeO.refl _)
      | (with_reducible exact LeO.none _)
      | (with_reducible refine LeO.ite ?_ ?_)
      | (with_reducible refine LeO.bind ?_ (fun _ => ?_))
      | exact ih0 _ _ _ _ _ _
      | exact escutcheonlaw5_Fill.mono _ _ _
      | exact escutcheonlaw5_alive.mono _
      | exact escutcheonref1_Xor.mono _ _ _
      | exact stream_Xor.mono _ _ _ _ _
      | exact LeO.none _
      | refine LeO.ite ?_ ?_
      | refine LeO.bind ?_ (fun _ => ?_)
set_option maxHeartbeats 8000000 in
set_option maxRecDepth 100000 in
theorem escutcheonlaw5_StreamMixes.calls (k : Nat) (a0 : ByteArray) (a1 : ByteArray) (a2 : ByteArray) (a3 : ByteArray) (a4 : Int) (r : Bool) (w : World) (h : escutcheonlaw5_StreamMixes.f k a0 a1 a2 a3 a4 = some r) :
    Calls Try.prog 7 #[.string a0, .string a1, .string a2, .string a3, .int .u32 a4] w fun e w' => e = .returned (.bool r) ∧ Below w.heap.size w w' := by
  have HB := Aside0.mk (Below.refl w.heap.size w)
  have H : (if (a2.size : Int) = (a3.size : Int) then (if (a2.size : Int) > 300 then (escutcheonlaw5_StreamMixes.j0 k a0 a1 a2 a3 a4 true) else ((escutcheonlaw5_alive.f k).bind fun t251 => (escutcheonlaw5_StreamMixes.j0 k a0 a1 a2 a3 a4 (!t251)))) else (escutcheonlaw5_StreamMixes.j0 k a0 a1 a2 a3 a4 true)) = some r := h
  clear h
  have HC6 := Aside0.mk H
  clear H
  go_enter Try.func7, Try.ntmps7
  go_upto_region 1 with (fail)
  go_cut [28] (fun v28 wc => ∃ (kq : Nat) (x28_5 : Bool), v28 = .bool x28_5 ∧ Aside0 (escutcheonlaw5_StreamMixes.j0 kq a0 a1 a2 a3 a4 x28_5 = some r) ∧ Aside0 (kq ≤ k) ∧ Aside0 (Below w.heap.size w wc))
  case first =>
    have H := HC6.out
    clear HC6
    by_cases c7 : (a2.size : Int) = (a3.size : Int)
    · rw [if_pos c7] at H
      have c7b0 : ((a2.size : Int) == (a3.size : Int)) = true := beq_iff_eq.mpr c7
      have c7b1 : ((a2.size : Int) != (a3.size : Int)) = false := bne_eq_false_iff_eq.mpr c7
      have c7b2 : (a2.size == a3.size) = true := by first | simpa using c7 | (simp at c7 ⊢; omega)
      clear c7
      (first | rw [c7b0] | (simp only [i64_w, i32_w]; rw [c7b0]) | skip)
      by_cases c8 : (a2.size : Int) > 300
      · rw [if_pos c8] at H
        have c8b0 : decide (300 < (a2.size : Int)) = true := decide_eq_true c8
        have c8b1 : decide (300 < a2.size) = true := decide_eq_true (by omega)
        clear c8
        have H' := Aside0.mk H
        clear H
        go_wp2
        go_meet
        case rel => exact ⟨_, (true), (by first | rfl | (simp; done) | (simp [*]; done)), H', ⟨by first | omega | exact Nat.le_refl _⟩, ⟨by repeat (first | (with_reducible first | exact HB.out | apply below_alloc | apply pw_below_drewN | apply below_drew1) | exact HB.out)⟩⟩
      · rw [if_neg c8] at H
        have c8b0 : decide (300 < (a2.size : Int)) = false := decide_eq_false c8
        have c8b1 : decide (300 < a2.size) = false := decide_eq_false (by omega)
        clear c8
        replace H := Option.bind_eq_some_iff.mp H
        obtain ⟨t251, A90, H⟩ := H
        replace H : (escutcheonlaw5_StreamMixes.j0 k a0 a1 a2 a3 a4 (!t251)) = some r := H
        have A9 := Aside0.mk A90
        clear A90
        have H' := Aside0.mk H
        clear H
        go_wp2_with (first | (go_at_call 8; (with_reducible refine (escutcheonlaw5_alive.calls k  t251 _ A9.out).mono ?_); rintro e w10 ⟨rfl, hb⟩; have n0_ := Aside0.mk (below_step (by repeat (first | (with_reducible first | exact HB.out | apply below_alloc | apply pw_below_drewN | apply below_drew1) | exact HB.out)) hb); clear HB; have HB := n0_; clear n0_; (try clear hb); (try clear hb2); (try clear hk); (try clear hi)))
        go_meet
        case rel => exact ⟨_, (!t251), (by first | rfl | (simp; done) | (simp [*]; done)), H', ⟨by first | omega | exact Nat.le_refl _⟩, ⟨by repeat (first | (with_reducible first | exact HB.out | apply below_alloc | apply pw_below_drewN | apply below_drew1) | exact HB.out)⟩⟩
    · rw [if_neg c7] at H
      have c7b0 : ((a2.size : Int) == (a3.size : Int)) = false := beq_eq_false_iff_ne.mpr c7
      have c7b1 : ((a2.size : Int) != (a3.size : Int)) = true := bne_iff_ne.mpr c7
      have c7b2 : (a2.size == a3.size) = false := by first | simpa using c7 | (simp at c7 ⊢; omega)
      (first | rw [c7b0] | (simp only [i64_w, i32_w]; rw [c7b0]) | skip)
      have H' := Aside0.mk H
      clear H
      go_wp2
      go_meet
      case rel => exact ⟨_, (true), (by first | rfl | (simp; done) | (simp [*]; done)), H', ⟨by first | omega | exact Nat.le_refl _⟩, ⟨by repeat (first | (with_reducible first | exact HB.out | apply below_alloc | apply pw_below_drewN | apply below_drew1) | exact HB.out)⟩⟩
  case rest =>
    clear HC6
    try clear p2
    try clear c7
    try clear c7b0
    try clear c7b1
    try clear c7b2
    try clear c8
    try clear c8b0
    try clear c8b1
    obtain ⟨kq, x28_5, rfl, HA, HJ5, HB⟩ := hcut
    cases kq with
    | zero => exact absurd HA.out (by simp [escutcheonlaw5_StreamMixes.j0])
    | succ kj5 =>
      have H := HA.out
      clear HA
      simp only [escutcheonlaw5_StreamMixes.j0] at H
      by_cases c11 : x28_5 = true
      · subst c11
        have H1 : ((escutcheonlaw5_alive.f kj5).bind fun t252 => (some t252)) = some r := by rw [if_pos rfl] at H; exact H
        clear H
        have H := H1
        clear H1
        replace H := Option.bind_eq_some_iff.mp H
        obtain ⟨t252, A120, H⟩ := H
        replace H : (some t252) = some r := H
        have A12 := Aside0.mk A120
        clear A120
        obtain rfl := Option.some.inj H
        go_wp2_with (first | ((with_reducible refine gate_callee (f := 8) rfl ?_); refine goesL_ (some 29) rfl rfl Try.func8 (by kernel_rfl) rfl #[] rfl (by (try simp only [List.map_toArray, List.map_cons, List.map_nil]); first | done | rfl | (simp only [List.length_drop, List.length_take]; rfl)) ?_; (with_reducible refine (escutcheonlaw5_alive.calls kj5  t252 _ A12.out).mono ?_); rintro e w13 ⟨rfl, hb⟩; refine ⟨_, rfl, ?_⟩; have n0_ := Aside0.mk (below_step (by repeat (first | (with_reducible first | exact HB.out | apply below_alloc | apply pw_below_drewN | apply below_drew1) | exact HB.out)) hb); clear HB; have HB := n0_; clear n0_; (try clear hb); (try clear hb2); (try clear hk); (try clear hi)))
        go_ret
        exact ⟨by first | rfl | (simp [errW_none, errW_some] <;> rfl) | (simp [*, errW_none, errW_some] <;> rfl), by repeat (first | (with_reducible first | exact HB.out | apply below_alloc | apply pw_below_drewN | apply below_drew1) | exact HB.out)⟩
      · replace c11 := Bool.eq_false_iff.mpr c11
        subst c11
        have H1 : ((escutcheonlaw5_Fill.f kj5 a0 32).bind fun t253 => ((escutcheonlaw5_Fill.f kj5 a1 12).bind fun t254 => ((stream_Xor.f kj5 t253 a4 t254 a2).bind fun bt255 => ((stream_Xor.f kj5 t253 a4 t254 a3).bind fun bt257 => (if bt255.2 = true then (if bt257.2 = true then ((escutcheonref1_Xor.f kj5 bt255.1 bt257.1).bind fun t259 => ((escutcheonref1_Xor.f kj5 a2 a3).bind fun t260 => (some (t259.toList == t260.toList)))) else (none)) else (none)))))) = some r := by rw [if_neg (show ¬ (false = true) by decide)] at H; exact H
        clear H
        have H := H1
        clear H1
        replace H := Option.bind_eq_some_iff.mp H
        obtain ⟨t253, A140, H⟩ := H
        replace H : ((escutcheonlaw5_Fill.f kj5 a1 12).bind fun t254 => ((stream_Xor.f kj5 t253 a4 t254 a2).bind fun bt255 => ((stream_Xor.f kj5 t253 a4 t254 a3).bind fun bt257 => (if bt255.2 = true then (if bt257.2 = true then ((escutcheonref1_Xor.f kj5 bt255.1 bt257.1).bind fun t259 => ((escutcheonref1_Xor.f kj5 a2 a3).bind fun t260 => (some (t259.toList == t260.toList)))) else (none)) else (none))))) = some r := H
        have A14 := Aside0.mk A140
        clear A140
        replace H := Option.bind_eq_some_iff.mp H
        obtain ⟨t254, A150, H⟩ := H
        replace H : ((stream_Xor.f kj5 t253 a4 t254 a2).bind fun bt255 => ((stream_Xor.f kj5 t253 a4 t254 a3).bind fun bt257 => (if bt255.2 = true then (if bt257.2 = true then ((escutcheonref1_Xor.f kj5 bt255.1 bt257.1).bind fun t259 => ((escutcheonref1_Xor.f kj5 a2 a3).bind fun t260 => (some (t259.toList == t260.toList)))) else (none)) else (none)))) = some r := H
        have A15 := Aside0.mk A150
        clear A150
        replace H := Option.bind_eq_some_iff.mp H
        obtain ⟨⟨t255, t256⟩, A160, H⟩ := H
        replace H : ((stream_Xor.f kj5 t253 a4 t254 a3).bind fun bt257 => (if t256 = true then (if bt257.2 = true then ((escutcheonref1_Xor.f kj5 t255 bt257.1).bind fun t259 => ((escutcheonref1_Xor.f kj5 a2 a3).bind fun t260 => (some (t259.toList == t260.toList)))) else (none)) else (none))) = some r := H
        have A16 := Aside0.mk A160
        clear A160
        replace H := Option.bind_eq_some_iff.mp H
        obtain ⟨⟨t257, t258⟩, A170, H⟩ := H
        replace H : (if t256 = true then (if t258 = true then ((escutcheonref1_Xor.f kj5 t255 t257).bind fun t259 => ((escutcheonref1_Xor.f kj5 a2 a3).bind fun t260 => (some (t259.toList == t260.toList)))) else (none)) else (none)) = some r := H
        have A17 := Aside0.mk A170
        clear A170
        by_cases c18 : t256 = true
        · subst c18
          have H1 : (if t258 = true then ((escutcheonref1_Xor.f kj5 t255 t257).bind fun t259 => ((escutcheonref1_Xor.f kj5 a2 a3).bind fun t260 => (some (t259.toList == t260.toList)))) else (none)) = some r := by rw [if_pos rfl] at H; exact H
          clear H
          have H := H1
          clear H1
          by_cases c19 : t258 = true
          · subst c19
            have H1 : ((escutcheonref1_Xor.f kj5 t255 t257).bind fun t259 => ((escutcheonref1_Xor.f kj5 a2 a3).bind fun t260 => (some (t259.toList == t260.toList)))) = some r := by rw [if_pos rfl] at H; exact H
            clear H
            have H := H1
            clear H1
            replace H := Option.bind_eq_some_iff.mp H
            obtain ⟨t259, A200, H⟩ := H
            replace H : ((escutcheonref1_Xor.f kj5 a2 a3).bind fun t260 => (some (t259.toList == t260.toList))) = some r := H
            have A20 := Aside0.mk A200
            clear A200
            replace H := Option.bind_eq_some_iff.mp H
            obtain ⟨t260, A210, H⟩ := H
            replace H : (some (t259.toList == t260.toList)) = some r := H
            have A21 := Aside0.mk A210
            clear A210
            obtain rfl := Option.some.inj H
            go_wp2_with (first | ((with_reducible refine gate_callee (f := 11) rfl ?_); refine goesL_ (some 31) rfl rfl Try.func11 (by kernel_rfl) rfl #[.string a0, .int .i64 32] rfl (by (try simp only [List.map_toArray, List.map_cons, List.map_nil]); first | done | rfl | (simp only [List.length_drop, List.length_take]; rfl)) ?_; (with_reducible refine (escutcheonlaw5_Fill.calls kj5 a0 32 t253 _ A14.out).mono ?_); rintro e w' ⟨rfl, ⟨nd, rfl⟩⟩; refine ⟨_, rfl, ?_⟩) | ((with_reducible refine gate_callee (f := 11) rfl ?_); refine goesL_ (some 33) rfl rfl Try.func11 (by kernel_rfl) rfl #[.string a1, .int .i64 12] rfl (by (try simp only [List.map_toArray, List.map_cons, List.map_nil]); first | done | rfl | (simp only [List.length_drop, List.length_take]; rfl)) ?_; (with_reducible refine (escutcheonlaw5_Fill.calls kj5 a1 12 t254 _ A15.out).mono ?_); rintro e w' ⟨rfl, ⟨nd, rfl⟩⟩; refine ⟨_, rfl, ?_⟩) | ((with_reducible refine gate_callee (f := 14) rfl ?_); refine goesL_ (some 39) rfl rfl Try.func14 (by kernel_rfl) rfl #[.string t253, .int .u32 a4, .string t254, .string a2] rfl (by (try simp only [List.map_toArray, List.map_cons, List.map_nil]); first | done | rfl | (simp only [List.length_drop, List.length_take]; rfl)) ?_; (with_reducible refine (stream_Xor.calls kj5 t253 a4 t254 a2 t255 true _ A16.out).mono ?_); rintro e w22 ⟨rfl, hb⟩; refine ⟨_, rfl, ?_⟩; have n0_ := Aside0.mk (below_step (by repeat (first | (with_reducible first | exact HB.out | apply below_alloc | apply pw_below_drewN | apply below_drew1) | exact HB.out)) hb); clear HB; have HB := n0_; clear n0_; (try clear hb); (try clear hb2); (try clear hk); (try clear hi)) | ((with_reducible refine gate_callee (f := 14) rfl ?_); refine goesL_ (some 47) rfl rfl Try.func14 (by kernel_rfl) rfl #[.string t253, .int .u32 a4, .string t254, .string a3] rfl (by (try simp only [List.map_toArray, List.map_cons, List.map_nil]); first | done | rfl | (simp only [List.length_drop, List.length_take]; rfl)) ?_; (with_reducible refine (stream_Xor.calls kj5 t253 a4 t254 a3 t257 true _ A17.out).mono ?_); rintro e w23 ⟨rfl, hb⟩; refine ⟨_, rfl, ?_⟩; have n0_ := Aside0.mk (below_step (by repeat (first | (with_reducible first | exact HB.out | apply below_alloc | apply pw_below_drewN | apply below_drew1) | exact HB.out)) hb); clear HB; have HB := n0_; clear n0_; (try clear hb); (try clear hb2); (try clear hk); (try clear hi)) | (go_at_call 17; (with_reducible refine (escutcheonref1_Xor.calls kj5 t255 t257 t259 _ A20.out).mono ?_); rintro e w24 ⟨rfl, hb⟩; have n0_ := Aside0.mk (below_step (by repeat (first | (with_reducible first | exact HB.out | apply below_alloc | apply pw_below_drewN | apply below_drew1) | exact HB.out)) hb); clear HB; have HB := n0_; clear n0_; (try clear hb); (try clear hb2); (try clear hk); (try clear hi)) | (go_at_call 17; (with_reducible refine (escutcheonref1_Xor.calls kj5 a2 a3 t260 _ A21.out).mono ?_); rintro e w25 ⟨rfl, hb⟩; have n0_ := Aside0.mk (below_step (by repeat (first | (with_reducible first | exact HB.out | apply below_alloc | apply pw_below_drewN | apply below_drew1) | exact HB.out)) hb); clear HB; have HB := n0_; clear n0_; (try clear hb); (try clear hb2); (try clear hk); (try clear hi)) | (go_at_call 11; (with_reducible refine (escutcheonlaw5_Fill.calls kj5 a0 32 t253 _ A14.out).mono ?_); rintro e w' ⟨rfl, ⟨nd, rfl⟩⟩) | (go_at_call 11; (with_reducible refine (escutcheonlaw5_Fill.calls kj5 a1 12 t254 _ A15.out).mono ?_); rintro e w' ⟨rfl, ⟨nd, rfl⟩⟩) | (go_at_call 14; (with_reducible refine (stream_Xor.calls kj5 t253 a4 t254 a2 t255 true _ A16.out).mono ?_); rintro e w22 ⟨rfl, hb⟩; have n0_ := Aside0.mk (below_step (by repeat (first | (with_reducible first | exact HB.out | apply below_alloc | apply pw_below_drewN | apply below_drew1) | exact HB.out)) hb); clear HB; have HB := n0_; clear n0_; (try clear hb); (try clear hb2); (try clear hk); (try clear hi)) | (go_at_call 14; (with_reducible refine (stream_Xor.calls kj5 t253 a4 t254 a3 t257 true _ A17.out).mono ?_); rintro e w23 ⟨rfl, hb⟩; have n0_ := Aside0.mk (below_step (by repeat (first | (with_reducible first | exact HB.out | apply below_alloc | apply pw_below_drewN | apply below_drew1) | exact HB.out)) hb); clear HB; have HB := n0_; clear n0_; (try clear hb); (try clear hb2); (try clear hk); (try clear hi)))
            go_ret
            exact ⟨by first | rfl | (simp [errW_none, errW_some] <;> rfl) | (simp [*, errW_none, errW_some] <;> rfl), by repeat (first | (with_reducible first | exact HB.out | apply below_alloc | apply pw_below_drewN | apply below_drew1) | exact HB.out)⟩
          · replace c19 := Bool.eq_false_iff.mpr c19
            subst c19
            have H1 : (none) = some r := by rw [if_neg (show ¬ (false = true) by decide)] at H; exact H
            clear H
            have H := H1
            clear H1
            exact absurd H (by simp)
        · replace c18 := Bool.eq_false_iff.mpr c18
          subst c18
          have H1 : (none) = some r := by rw [if_neg (show ¬ (false = true) by decide)] at H; exact H
          clear H
          have H := H1
          clear H1
          exact absurd H (by simp)

/-- THE ONE PURE STATEMENT of escutcheonlaw5_StreamMixes: yours. -/
def escutcheonlaw5_StreamMixes.Pure : Prop := ∀ (a0 : ByteArray) (a1 : ByteArray) (a2 : ByteArray) (a3 : ByteArray) (a4 : Int), a0.size ≤ 140737488351232 → a1.size ≤ 140737488351232 → a2.size ≤ 140737488351232 → a3.size ≤ 140737488351232 → (Lit.int .u32 a4).wf = true → ∃ k, escutcheonlaw5_StreamMixes.f k a0 a1 a2 a3 a4 = some true
theorem escutcheonlaw5_StreamMixes.walk (P : escutcheonlaw5_StreamMixes.Pure) (a0 : ByteArray) (a1 : ByteArray) (a2 : ByteArray) (a3 : ByteArray) (a4 : Int) (w : World) (w0 : a0.size ≤ 140737488351232) (w1 : a1.size ≤ 140737488351232) (w2 : a2.size ≤ 140737488351232) (w3 : a3.size ≤ 140737488351232) (w4 : (Lit.int .u32 a4).wf = true) :
    Calls Try.prog 7 #[.string a0, .string a1, .string a2, .string a3, .int .u32 a4] w fun e w' => e = .returned (.bool true) ∧ Below w.heap.size w w' := by
  obtain ⟨k, h⟩ := P a0 a1 a2 a3 a4 w0 w1 w2 w3 w4
  refine (escutcheonlaw5_StreamMixes.calls k a0 a1 a2 a3 a4 true w h).mono ?_
  rintro e w' ⟨rfl, hd⟩
  exact ⟨rfl, hd⟩

/-! ### escutcheonlaw5_StreamQuarters: function 3 (by hand) -/
def escutcheonlaw5_StreamQuarters.f (k : Nat) (a b c d : Int) : Option Bool := (escutcheonlaw5_alive.f k).bind fun al => if al = true then (stream_Quarter.f a b c d).bind fun r =>
  (escutcheonref1_Left.f r.2.1 (-7)).bind fun t1 => (escutcheonref1_Left.f r.2.2.2 (-8)).bind fun t2 =>
  (escutcheonref1_Left.f (Go.bits .xor .u32 t1 r.2.2.1) (-12)).bind fun t3 => (escutcheonref1_Left.f (Go.bits .xor .u32 t2 r.1) (-16)).bind fun t4 =>
  some (((r.1 - Go.bits .xor .u32 t1 r.2.2.1) % 4294967296 - Go.bits .xor .u32 t3 ((r.2.2.1 - r.2.2.2) % 4294967296)) % 4294967296 == a && (Go.bits .xor .u32 t3 ((r.2.2.1 - r.2.2.2) % 4294967296) == b && (((r.2.2.1 - r.2.2.2) % 4294967296 - Go.bits .xor .u32 t2 r.1) % 4294967296 == c && Go.bits .xor .u32 t4 ((r.1 - Go.bits .xor .u32 t1 r.2.2.1) % 4294967296) == d))) else none
def escutcheonlaw5_StreamQuarters.Pure : Prop := ∀ (a b c d : Int), (Lit.int .u32 a).wf = true → (Lit.int .u32 b).wf = true → (Lit.int .u32 c).wf = true → (Lit.int .u32 d).wf = true → ∃ k, escutcheonlaw5_StreamQuarters.f k a b c d = some true
set_option maxHeartbeats 4000000 in
set_option maxRecDepth 100000 in
theorem escutcheonlaw5_StreamQuarters.walk (P : escutcheonlaw5_StreamQuarters.Pure) (a b c d : Int) (w : World) (w0 : (Lit.int .u32 a).wf = true) (w1 : (Lit.int .u32 b).wf = true) (w2 : (Lit.int .u32 c).wf = true) (w3 : (Lit.int .u32 d).wf = true) :
    Calls Try.prog 3 #[.int .u32 a, .int .u32 b, .int .u32 c, .int .u32 d] w fun e w' => e = .returned (.bool true) ∧ Below w.heap.size w w' := by
  obtain ⟨k, h⟩ := P a b c d w0 w1 w2 w3
  clear w0 w1 w2 w3 P
  unfold escutcheonlaw5_StreamQuarters.f at h
  obtain ⟨al, ha, h1⟩ := Option.bind_eq_some_iff.mp h
  cases al with
  | false => rw [if_neg (by decide)] at h1; cases h1
  | true =>
  rw [if_pos rfl] at h1
  obtain ⟨⟨r1, r2, r3, r4⟩, hq, h2⟩ := Option.bind_eq_some_iff.mp h1
  obtain ⟨t1, ht1, h3⟩ := Option.bind_eq_some_iff.mp h2
  obtain ⟨t2, ht2, h4⟩ := Option.bind_eq_some_iff.mp h3
  obtain ⟨t3, ht3, h5⟩ := Option.bind_eq_some_iff.mp h4
  obtain ⟨t4, ht4, h6⟩ := Option.bind_eq_some_iff.mp h5
  have h7 := Option.some.inj h6
  rw [Bool.and_eq_true, Bool.and_eq_true, Bool.and_eq_true] at h7
  obtain ⟨e1, e2, e3, e4⟩ := h7
  have HA := Lib.hid ha
  have HQ := Lib.hid hq
  have H1 := Lib.hid ht1
  have H2 := Lib.hid ht2
  have H3 := Lib.hid ht3
  have H4 := Lib.hid ht4
  clear h h1 h2 h3 h4 h5 h6 ha hq ht1 ht2 ht3 ht4
  have f1 := e1
  have f3 := e3
  simp only [Int.emod_sub_emod] at f1 f3
  have E := Lib.hid (And.intro e1 (And.intro e2 (And.intro e3 e4)))
  have E' := Lib.hid (And.intro f1 f3)
  clear e1 e2 e3 e4 f1 f3
  go_enter Try.func3, Try.ntmps3
  go_wp2_with fail
  refine (escutcheonlaw5_alive.calls k true _ HA.out).mono ?_
  rintro e_ w1 ⟨rfl, hb1⟩
  go_wp2_with fail
  refine (stream_Quarter.calls _ _ _ _ r1 r2 r3 r4 _ HQ.out).mono ?_
  rintro e_ w_ ⟨rfl, ⟨n1, rfl⟩⟩
  go_wp2_with fail
  refine (escutcheonref1_Left.calls _ _ t1 _ H1.out).mono ?_
  rintro e_ w_ ⟨rfl, ⟨n2, rfl⟩⟩
  go_wp2_with fail
  refine (escutcheonref1_Left.calls _ _ t2 _ H2.out).mono ?_
  rintro e_ w_ ⟨rfl, ⟨n3, rfl⟩⟩
  go_wp2_with fail
  refine (escutcheonref1_Left.calls _ _ t3 _ H3.out).mono ?_
  rintro e_ w_ ⟨rfl, ⟨n4, rfl⟩⟩
  go_wp2_with fail
  refine (escutcheonref1_Left.calls _ _ t4 _ H4.out).mono ?_
  rintro e_ w_ ⟨rfl, ⟨n5, rfl⟩⟩
  have e1 := E.out.1
  have e2 := E.out.2.1
  have e3 := E.out.2.2.1
  have e4 := E.out.2.2.2
  have f1 := E'.out.1
  have f3 := E'.out.2
  clear E E'
  go_wp2_with fail
  go_ret
  exact ⟨rfl, by repeat (first | exact hb1 | apply pw_below_drewN)⟩


end Go.Proofs.Ytdnlenhkagfiaaa.P
