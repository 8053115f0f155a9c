-- Written by wip/inj.py (the kit's print, with contracts typed by hand beside it).
import Derived.Test.YtdnlenhkagfiaaaPx0
import Derived.Test.YtdnlenhkagfiaaaPx1
import Derived.Test.YtdnlenhkagfiaaaPx4
import Derived.Test.YtdnlenhkagfiaaaPx6
import Derived.Test.YtdnlenhkagfiaaaPx8
import Derived.Test.YtdnlenhkagfiaaaPx10
namespace Go.Proofs.Ytdnlenhkagfiaaa.P
open Go.RowKit Go.Proofs.YtdnlenhkagfiaaaW.PrintWords Go.Proofs.YtdnlenhkagfiaaaW.PrintLast Go.Proofs.YtdnlenhkagfiaaaW.PrintMore
attribute [local go_sem] max2_int min2_int max_two min_two max_three min_three max_four min_four   -- for this text's walks alone
set_option linter.unusedVariables false
set_option linter.unusedSimpArgs false

/-! ### escutcheonlaw5_StreamTells: function 4 -/
mutual
def escutcheonlaw5_StreamTells.j0 : Nat → ByteArray → ByteArray → ByteArray → Int → Bool → Int → Int → Int → Int → Bool → Option (Bool)
  | 0, _, _, _, _, _, _, _, _, _, _ => none
  | k + 1, x0, x1, x2, x3, x4, x5, x6, x7, x8, x47 => if x47 = true then ((escutcheonlaw5_alive.f k).bind fun t207 => (some t207)) else (if x4 = true then (escutcheonlaw5_StreamTells.j1 k x0 x1 x2 x3 x5 x6 x7 x8) else ((escutcheonlaw5_Fill.f k x0 32).bind fun t208 => ((escutcheonlaw5_Fill.f k x1 12).bind fun t209 => (escutcheonlaw5_StreamTells.j1 k t208 t209 x2 x3 x5 x6 x7 x8))))
def escutcheonlaw5_StreamTells.j1 : Nat → ByteArray → ByteArray → ByteArray → Int → Int → Int → Int → Int → Option (Bool)
  | 0, _, _, _, _, _, _, _, _ => none
  | k + 1, x0, x1, x2, x3, x5, x6, x7, x8 => (stream_Quarter.f x5 x6 x7 x8).bind fun bt210 => ((escutcheonref1_Quarter.f x5 x6 x7 x8).bind fun bt214 => (if bt210.1 = bt214.1 then (if bt210.2.1 = bt214.2.1 then (if bt210.2.2.1 = bt214.2.2.1 then (escutcheonlaw5_StreamTells.j2 k x0 x1 x2 x3 (bt210.2.2.2 != bt214.2.2.2)) else (none)) else (none)) else (none)))
def escutcheonlaw5_StreamTells.j2 : Nat → ByteArray → ByteArray → ByteArray → Int → Bool → Option (Bool)
  | 0, _, _, _, _, _ => none
  | k + 1, x0, x1, x2, x3, x92 => if x92 = true then (none) else ((stream_Block.f k x0 x3 x1).bind fun bt218 => ((stream_Xor.f k x0 x3 x1 x2).bind fun bt220 => (if (x0.size : Int) = 32 then (escutcheonlaw5_StreamTells.j3 k x0 x1 x2 x3 bt218.1 bt218.2 bt220.1 bt220.2 ((x1.size : Int) != 12)) else (escutcheonlaw5_StreamTells.j3 k x0 x1 x2 x3 bt218.1 bt218.2 bt220.1 bt220.2 true))))
def escutcheonlaw5_StreamTells.j3 : Nat → ByteArray → ByteArray → ByteArray → Int → ByteArray → Bool → ByteArray → Bool → Bool → Option (Bool)
  | 0, _, _, _, _, _, _, _, _, _ => none
  | k + 1, x0, x1, x2, x3, x27, x28, x29, x30, x115 => if x115 = true then (if x28 = true then (none) else (if x30 = true then (none) else (if x27.toList = ([] : List UInt8) then (some (x29.toList == ([] : List UInt8))) else (none)))) else (if x28 = true then (if x30 = true then ((escutcheonref1_Block.f k x0 x3 x1).bind fun t222 => (if x27.toList = t222.toList then ((escutcheonref1_Stream.f k x0 x3 x1 x2).bind fun t223 => (some (x29.toList == t223.toList))) else (none))) else (none)) else (none))
end
def escutcheonlaw5_StreamTells.f (k : Nat) (a0 : ByteArray) (a1 : ByteArray) (a2 : ByteArray) (a3 : Int) (a4 : Bool) (a5 : Int) (a6 : Int) (a7 : Int) (a8 : Int) : Option (Bool) := if (a0.size : Int) > 100 then (escutcheonlaw5_StreamTells.j0 k a0 a1 a2 a3 a4 a5 a6 a7 a8 true) else (if (a1.size : Int) > 100 then (escutcheonlaw5_StreamTells.j0 k a0 a1 a2 a3 a4 a5 a6 a7 a8 true) else (if (a2.size : Int) > 400 then (escutcheonlaw5_StreamTells.j0 k a0 a1 a2 a3 a4 a5 a6 a7 a8 true) else ((escutcheonlaw5_alive.f k).bind fun t206 => (escutcheonlaw5_StreamTells.j0 k a0 a1 a2 a3 a4 a5 a6 a7 a8 (!t206)))))
theorem escutcheonlaw5_StreamTells.mono_l : ∀ k, (∀ y0 y1 y2 y3 y4 y5 y6 y7 y8 y9, LeO (escutcheonlaw5_StreamTells.j0 k y0 y1 y2 y3 y4 y5 y6 y7 y8 y9) (escutcheonlaw5_StreamTells.j0 (k + 1) y0 y1 y2 y3 y4 y5 y6 y7 y8 y9)) ∧ (∀ y0 y1 y2 y3 y4 y5 y6 y7, LeO (escutcheonlaw5_StreamTells.j1 k y0 y1 y2 y3 y4 y5 y6 y7) (escutcheonlaw5_StreamTells.j1 (k + 1) y0 y1 y2 y3 y4 y5 y6 y7)) ∧ (∀ y0 y1 y2 y3 y4, LeO (escutcheonlaw5_StreamTells.j2 k y0 y1 y2 y3 y4) (escutcheonlaw5_StreamTells.j2 (k + 1) y0 y1 y2 y3 y4)) ∧ (∀ y0 y1 y2 y3 y4 y5 y6 y7 y8, LeO (escutcheonlaw5_StreamTells.j3 k y0 y1 y2 y3 y4 y5 y6 y7 y8) (escutcheonlaw5_StreamTells.j3 (k + 1) y0 y1 y2 y3 y4 y5 y6 y7 y8))
  | 0 => ⟨fun _ _ _ _ _ _ _ _ _ _ r h => by simp [escutcheonlaw5_StreamTells.j0] at h, fun _ _ _ _ _ _ _ _ r h => by simp [escutcheonlaw5_StreamTells.j1] at h, fun _ _ _ _ _ r h => by simp [escutcheonlaw5_StreamTells.j2] at h, fun _ _ _ _ _ _ _ _ _ r h => by simp [escutcheonlaw5_StreamTells.j3] at h⟩
  | k + 1 => by
    obtain ⟨ih0, ih1, ih2, ih3⟩ := escutcheonlaw5_StreamTells.mono_l k
    refine ⟨?_, ?_, ?_, ?_⟩
    · intro y0 y1 y2 y3 y4 y5 y6 y7 y8 y9
      unfold escutcheonlaw5_StreamTells.j0
      repeat' first
      | (with_reducible exact ih0 _ _ _ _ _ _ _ _ _ _)
      | (with_reducible exact ih1 _ _ _ _ _ _ _ _)
      | (with_reducible exact ih2 _ _ _ _ _)
      | (with_reducible exact ih3 _ _ _ _ _ _ _ _ _)
      | (with_reducible exact escutcheonlaw5_Fill.mono _ _ _)
      | (with_reducible exact escutcheonlaw5_alive.mono _)
      | (with_reducible exact escutcheonref1_Block.mono _ _ _ _)
      | (with_reducible exact escutcheonref1_Stream.mono _ _ _ _ _)
      | (with_reducible exact stream_Block.mono _ _ _ _)
      | (with_reducible exact stream_Xor.mono _ _ _ _ _)
      | (with_reducible exact LeO.refl _)
      | (with_reducible exact LeO.none _)
      | (with_reducible refine LeO.ite ?_ ?_)
      | (with_reducible refine LeO.bind ?_ (fun _ => ?_))
      | exact ih0 _ _ _ _ _ _ _ _ _ _
      | exact ih1 _ _ _ _ _ _ _ _
      | exact ih2 _ _ _ _ _
      | exact ih3 _ _ _ _ _ _ _ _ _
      | exact escutcheonlaw5_Fill.mono _ _ _
      | exact escutcheonlaw5_alive.mono _
      | exact escutcheonref1_Block.mono _ _ _ _
      | exact escutcheonref1_Stream.mono _ _ _ _ _
      | exact stream_Block.mono _ _ _ _
      | exact stream_Xor.mono _ _ _ _ _
      | exact LeO.none _
      | refine LeO.ite ?_ ?_
      | refine LeO.bind ?_ (fun _ => ?_)
    · intro y0 y1 y2 y3 y4 y5 y6 y7
      unfold escutcheonlaw5_StreamTells.j1
      repeat' first
      | (with_reducible exact ih0 _ _ _ _ _ _ _ _ _ _)
      | (with_reducible exact ih1 _ _ _ _ _ _ _ _)
      | (with_reducible exact ih2 _ _ _ _ _)
      | (with_reducible exact ih3 _ _ _ _ _ _ _ _ _)
      | (with_reducible exact escutcheonlaw5_Fill.mono _ _ _)
      | (with_reducible exact escutcheonlaw5_alive.mono _)
      | (with_reducible exact escutcheonref1_Block.mono _ _ _ _)
      | (with_reducible exact escutcheonref1_Stream.mono _ _ _ _ _)
      | (with_reducible exact stream_Block.mono _ _ _ _)
      | (with_reducible exact stream_Xor.mono _ _ _ _ _)
      | (with_reducible exact LeO.refl _)
      | (with_reducible exact LeO.none _)
      | (with_reducible refine LeO.ite ?_ ?_)
      | (with_reducible refine LeO.bind ?_ (fun _ => ?_))
      | exact ih0 _ _ _ _ _ _ _ _ _ _
      | exact ih1 _ _ _ _ _ _ _ _
      | exact ih2 _ _ _ _ _
      | exact ih3 _ _ _ _ _ _ _ _ _
      | exact escutcheonlaw5_Fill.mono _ _ _
      | exact escutcheonlaw5_alive.mono _
      | exact escutcheonref1_Block.mono _ _ _ _
      | exact escutcheonref1_Stream.mono _ _ _ _ _
      | exact stream_Block.mono _ _ _ _
      | exact stream_Xor.mono _ _ _ _ _
      | exact LeO.none _
      | refine LeO.ite ?_ ?_
      | refine LeO.bind ?_ (fun _ => ?_)
    · intro y0 y1 y2 y3 y4
      unfold escutcheonlaw5_StreamTells.j2
      repeat' first
      | (with_reducible exact ih0 _ _ _ _ _ _ _ _ _ _)
      | (with_reducible exact ih1 _ _ _ _ _ _ _ _)
      | (with_reducible exact ih2 _ _ _ _ _)
      | (with_reducible exact ih3 _ _ _ _ _ _ _ _ _)
      | (with_reducible exact escutcheonlaw5_Fill.mono _ _ _)
      | (with_reducible exact escutcheonlaw5_alive.mono _)
      | (with_reducible exact escutcheonref1_Block.mono _ _ _ _)
      | (with_reducible exact escutcheonref1_Stream.mono _ _ _ _ _)
      | (with_reducible exact stream_Block.mono _ _ _ _)
      | (with_reducible exact stream_Xor.mono _ _ _ _ _)
      | (with_reducible exact LeO.refl _)
      | (with_reducible exact LeO.none _)
      | (with_reducible refine LeO.ite ?_ ?_)
      | (with_reducible refine LeO.bind ?_ (fun _ => ?_))
      | exact ih0 _ _ _ _ _ _ _ _ _ _
      | exact ih1 _ _ _ _ _ _ _ _
      | exact ih2 _ _ _ _ _
      | exact ih3 _ _ _ _ _ _ _ _ _
      | exact escutcheonlaw5_Fill.mono _ _ _
      | exact escutcheonlaw5_alive.mono _
      | exact escutcheonref1_Block.mono _ _ _ _
      | exact escutcheonref1_Stream.mono _ _ _ _ _
      | exact stream_Block.mono _ _ _ _
      | exact stream_Xor.mono _ _ _ _ _
      | exact LeO.none _
      | refine LeO.ite ?_ ?_
      | refine LeO.bind ?_ (fun _ => ?_)
    · intro y0 y1 y2 y3 y4 y5 y6 y7 y8
      unfold escutcheonlaw5_StreamTells.j3
      repeat' first
      | (with_reducible exact ih0 _ _ _ _ _ _ _ _ _ _)
      | (with_reducible exact ih1 _ _ _ _ _ _ _ _)
      | (with_reducible exact ih2 _ _ _ _ _)
      | (with_reducible exact ih3 _ _ _ _ _ _ _ _ _)
      | (with_reducible exact escutcheonlaw5_Fill.mono _ _ _)
      | (with_reducible exact escutcheonlaw5_alive.mono _)
      | (with_reducible exact escutcheonref1_Block.mono _ _ _ _)
      | (with_reducible exact escutcheonref1_Stream.mono _ _ _ _ _)
      | (with_reducible exact stream_Block.mono _ _ _ _)
      | (with_reducible exact stream_Xor.mono _ _ _ _ _)
      | (with_reducible exact LeO.refl _)
      | (with_reducible exact LeO.none _)
      | (with_reducible refine LeO.ite ?_ ?_)
      | (with_reducible refine LeO.bind ?_ (fun _ => ?_))
      | exact ih0 _ _ _ _ _ _ _ _ _ _
      | exact ih1 _ _ _ _ _ _ _ _
      | exact ih2 _ _ _ _ _
      | exact ih3 _ _ _ _ _ _ _ _ _
      | exact escutcheonlaw5_Fill.mono _ _ _
      | exact escutcheonlaw5_alive.mono _
      | exact escutcheonref1_Block.mono _ _ _ _
      | exact escutcheonref1_Stream.mono _ _ _ _ _
      | exact stream_Block.mono _ _ _ _
      | exact stream_Xor.mono _ _ _ _ _
      | exact LeO.none _
      | refine LeO.ite ?_ ?_
      | refine LeO.bind ?_ (fun _ => ?_)
theorem escutcheonlaw5_StreamTells.mono : ∀ a0 a1 a2 a3 a4 a5 a6 a7 a8 k, LeO (escutcheonlaw5_StreamTells.f k a0 a1 a2 a3 a4 a5 a6 a7 a8) (escutcheonlaw5_StreamTells.f (k + 1) a0 a1 a2 a3 a4 a5 a6 a7 a8) := by
  intro a0 a1 a2 a3 a4 a5 a6 a7 a8 k
  obtain ⟨ih0, ih1, ih2, ih3⟩ := escutcheonlaw5_StreamTells.mono_l k
  unfold escutcheonlaw5_StreamTells.f
  repeat' first
      | (with_reducible exact ih0 _ _ _ _ _ _ _ _ _ _)
      | (with_reducible exact ih1 _ _ _ _ _ _ _ _)
      | (with_reducible exact ih2 _ _ _ _ _)
      | (with_reducible exact ih3 _ _ _ _ _ _ _ _ _)
      | (with_reducible exact escutcheonlaw5_Fill.mono _ _ _)
      | (with_reducible exact escutcheonlaw5_alive.mono _)
      | (with_reducible exact escutcheonref1_Block.mono _ _ _ _)
      | (with_reducible exact escutcheonref1_Stream.mono _ _ _ _ _)
      | (with_reducible exact stream_Block.mono _ _ _ _)
      | (with_reducible exact stream_Xor.mono _ _ _ _ _)
      | (with_reducible exact LeO.refl _)
      | (with_reducible exact LeO.none _)
      | (with_reducible refine LeO.ite ?_ ?_)
      | (with_reducible refine LeO.bind ?_ (fun _ => ?_))
      | exact ih0 _ _ _ _ _ _ _ _ _ _
      | exact ih1 _ _ _ _ _ _ _ _
      | exact ih2 _ _ _ _ _
      | exact ih3 _ _ _ _ _ _ _ _ _
      | exact escutcheonlaw5_Fill.mono _ _ _
      | exact escutcheonlaw5_alive.mono _
      | exact escutcheonref1_Block.mono _ _ _ _
      | exact escutcheonref1_Stream.mono _ _ _ _ _
      | exact stream_Block.mono _ _ _ _
      | exact stream_Xor.mono _ _ _ _ _
      | exact LeO.none _
      | refine LeO.ite ?_ ?_
      | refine LeO.bind ?_ (fun _ => ?_)
set_option maxHeartbeats 8000000 in
set_option maxRecDepth 100000 in
theorem escutcheonlaw5_StreamTells.calls (k : Nat) (a0 : ByteArray) (a1 : ByteArray) (a2 : ByteArray) (a3 : Int) (a4 : Bool) (a5 : Int) (a6 : Int) (a7 : Int) (a8 : Int) (r : Bool) (w : World) (h : escutcheonlaw5_StreamTells.f k a0 a1 a2 a3 a4 a5 a6 a7 a8 = some r) :
    Calls Try.prog 4 #[.string a0, .string a1, .string a2, .int .u32 a3, .bool a4, .int .u32 a5, .int .u32 a6, .int .u32 a7, .int .u32 a8] w fun e w' => e = .returned (.bool r) ∧ Below w.heap.size w w' := by
  have HB := Aside0.mk (Below.refl w.heap.size w)
  have H : (if (a0.size : Int) > 100 then (escutcheonlaw5_StreamTells.j0 k a0 a1 a2 a3 a4 a5 a6 a7 a8 true) else (if (a1.size : Int) > 100 then (escutcheonlaw5_StreamTells.j0 k a0 a1 a2 a3 a4 a5 a6 a7 a8 true) else (if (a2.size : Int) > 400 then (escutcheonlaw5_StreamTells.j0 k a0 a1 a2 a3 a4 a5 a6 a7 a8 true) else ((escutcheonlaw5_alive.f k).bind fun t206 => (escutcheonlaw5_StreamTells.j0 k a0 a1 a2 a3 a4 a5 a6 a7 a8 (!t206)))))) = some r := h
  clear h
  have HC10 := Aside0.mk H
  clear H
  go_enter Try.func4, Try.ntmps4
  go_upto_region 1 with (fail)
  go_cut [47] (fun v47 wc => ∃ (kq : Nat) (x47_9 : Bool), v47 = .bool x47_9 ∧ Aside0 (escutcheonlaw5_StreamTells.j0 kq a0 a1 a2 a3 a4 a5 a6 a7 a8 x47_9 = some r) ∧ Aside0 (kq ≤ k) ∧ Aside0 (Below w.heap.size w wc))
  case first =>
    have H := HC10.out
    clear HC10
    by_cases c11 : (a0.size : Int) > 100
    · rw [if_pos c11] at H
      have c11b0 : decide (100 < (a0.size : Int)) = true := decide_eq_true c11
      have c11b1 : decide (100 < a0.size) = true := decide_eq_true (by omega)
      clear c11
      (first | rw [c11b0] | (simp only [i64_w, i32_w]; rw [c11b0]) | skip)
      have H' := Aside0.mk H
      clear H
      go_wp2
      go_meet
      case rel => exact ⟨_, (true), (by first | rfl | (simp; done) | (simp [*]; done)), H', ⟨by first | omega | exact Nat.le_refl _⟩, ⟨by repeat (first | (with_reducible first | exact HB.out | apply below_alloc | apply pw_below_drewN | apply below_drew1) | exact HB.out)⟩⟩
    · rw [if_neg c11] at H
      have c11b0 : decide (100 < (a0.size : Int)) = false := decide_eq_false c11
      have c11b1 : decide (100 < a0.size) = false := decide_eq_false (by omega)
      clear c11
      (first | rw [c11b0] | (simp only [i64_w, i32_w]; rw [c11b0]) | skip)
      by_cases c12 : (a1.size : Int) > 100
      · rw [if_pos c12] at H
        have c12b0 : decide (100 < (a1.size : Int)) = true := decide_eq_true c12
        have c12b1 : decide (100 < a1.size) = true := decide_eq_true (by omega)
        clear c12
        have H' := Aside0.mk H
        clear H
        go_wp2
        go_meet
        case rel => exact ⟨_, (true), (by first | rfl | (simp; done) | (simp [*]; done)), H', ⟨by first | omega | exact Nat.le_refl _⟩, ⟨by repeat (first | (with_reducible first | exact HB.out | apply below_alloc | apply pw_below_drewN | apply below_drew1) | exact HB.out)⟩⟩
      · rw [if_neg c12] at H
        have c12b0 : decide (100 < (a1.size : Int)) = false := decide_eq_false c12
        have c12b1 : decide (100 < a1.size) = false := decide_eq_false (by omega)
        clear c12
        by_cases c13 : (a2.size : Int) > 400
        · rw [if_pos c13] at H
          have c13b0 : decide (400 < (a2.size : Int)) = true := decide_eq_true c13
          have c13b1 : decide (400 < a2.size) = true := decide_eq_true (by omega)
          clear c13
          have H' := Aside0.mk H
          clear H
          go_wp2
          go_meet
          case rel => exact ⟨_, (true), (by first | rfl | (simp; done) | (simp [*]; done)), H', ⟨by first | omega | exact Nat.le_refl _⟩, ⟨by repeat (first | (with_reducible first | exact HB.out | apply below_alloc | apply pw_below_drewN | apply below_drew1) | exact HB.out)⟩⟩
        · rw [if_neg c13] at H
          have c13b0 : decide (400 < (a2.size : Int)) = false := decide_eq_false c13
          have c13b1 : decide (400 < a2.size) = false := decide_eq_false (by omega)
          clear c13
          replace H := Option.bind_eq_some_iff.mp H
          obtain ⟨t206, A140, H⟩ := H
          replace H : (escutcheonlaw5_StreamTells.j0 k a0 a1 a2 a3 a4 a5 a6 a7 a8 (!t206)) = some r := H
          have A14 := Aside0.mk A140
          clear A140
          have H' := Aside0.mk H
          clear H
          go_wp2_with (first | (go_at_call 8; (with_reducible refine (escutcheonlaw5_alive.calls k  t206 _ A14.out).mono ?_); rintro e w15 ⟨rfl, hb⟩; have n0_ := Aside0.mk (below_step (by repeat (first | (with_reducible first | exact HB.out | apply below_alloc | apply pw_below_drewN | apply below_drew1) | exact HB.out)) hb); clear HB; have HB := n0_; clear n0_; (try clear hb); (try clear hb2); (try clear hk); (try clear hi)))
          go_meet
          case rel => exact ⟨_, (!t206), (by first | rfl | (simp; done) | (simp [*]; done)), H', ⟨by first | omega | exact Nat.le_refl _⟩, ⟨by repeat (first | (with_reducible first | exact HB.out | apply below_alloc | apply pw_below_drewN | apply below_drew1) | exact HB.out)⟩⟩
  case rest =>
    clear HC10
    try clear c1
    try clear p2
    try clear c4
    try clear c11
    try clear c11b0
    try clear c11b1
    try clear c12
    try clear c12b0
    try clear c12b1
    try clear c13
    try clear c13b0
    try clear c13b1
    obtain ⟨kq, x47_9, rfl, HA, HJ9, HB⟩ := hcut
    cases kq with
    | zero => exact absurd HA.out (by simp [escutcheonlaw5_StreamTells.j0])
    | succ kj9 =>
      have H := HA.out
      clear HA
      simp only [escutcheonlaw5_StreamTells.j0] at H
      by_cases c16 : x47_9 = true
      · subst c16
        have H1 : ((escutcheonlaw5_alive.f kj9).bind fun t207 => (some t207)) = some r := by rw [if_pos rfl] at H; exact H
        clear H
        have H := H1
        clear H1
        replace H := Option.bind_eq_some_iff.mp H
        obtain ⟨t207, A170, H⟩ := H
        replace H : (some t207) = some r := H
        have A17 := Aside0.mk A170
        clear A170
        obtain rfl := Option.some.inj H
        go_wp2_with (first | ((with_reducible refine gate_callee (f := 8) rfl ?_); refine goesL_ (some 48) rfl rfl Try.func8 (by kernel_rfl) rfl #[] rfl (by (try simp only [List.map_toArray, List.map_cons, List.map_nil]); first | done | rfl | (simp only [List.length_drop, List.length_take]; rfl)) ?_; (with_reducible refine (escutcheonlaw5_alive.calls kj9  t207 _ A17.out).mono ?_); rintro e w18 ⟨rfl, hb⟩; refine ⟨_, rfl, ?_⟩; have n0_ := Aside0.mk (below_step (by repeat (first | (with_reducible first | exact HB.out | apply below_alloc | apply pw_below_drewN | apply below_drew1) | exact HB.out)) hb); clear HB; have HB := n0_; clear n0_; (try clear hb); (try clear hb2); (try clear hk); (try clear hi)))
        go_ret
        exact ⟨by first | rfl | (simp [errW_none, errW_some] <;> rfl) | (simp [*, errW_none, errW_some] <;> rfl), by repeat (first | (with_reducible first | exact HB.out | apply below_alloc | apply pw_below_drewN | apply below_drew1) | exact HB.out)⟩
      · replace c16 := Bool.eq_false_iff.mpr c16
        subst c16
        have H1 : (if a4 = true then (escutcheonlaw5_StreamTells.j1 kj9 a0 a1 a2 a3 a5 a6 a7 a8) else ((escutcheonlaw5_Fill.f kj9 a0 32).bind fun t208 => ((escutcheonlaw5_Fill.f kj9 a1 12).bind fun t209 => (escutcheonlaw5_StreamTells.j1 kj9 t208 t209 a2 a3 a5 a6 a7 a8)))) = some r := by rw [if_neg (show ¬ (false = true) by decide)] at H; exact H
        clear H
        have H := H1
        clear H1
        have HC19 := Aside0.mk H
        clear H
        go_upto_if 50 with (fail)
        go_cut [0, 1] (fun v0 v1 wc => ∃ (kq : Nat) (x0_18 : ByteArray) (x1_18 : ByteArray), v0 = .string x0_18 ∧ v1 = .string x1_18 ∧ Aside0 (escutcheonlaw5_StreamTells.j1 kq x0_18 x1_18 a2 a3 a5 a6 a7 a8 = some r) ∧ Aside0 (kq ≤ kj9) ∧ Aside0 (Below w.heap.size w wc))
        case first =>
          have H := HC19.out
          clear HC19
          by_cases c20 : a4 = true
          · subst c20
            have H1 : (escutcheonlaw5_StreamTells.j1 kj9 a0 a1 a2 a3 a5 a6 a7 a8) = some r := by rw [if_pos rfl] at H; exact H
            clear H
            have H := H1
            clear H1
            have H' := Aside0.mk H
            clear H
            go_wp2
            go_meet
            case rel => exact ⟨_, (a0), (a1), (by first | rfl | (simp; done) | (simp [*]; done)), (by first | rfl | (simp; done) | (simp [*]; done)), H', ⟨by have := HJ9.out; first | omega | exact Nat.le_refl _⟩, ⟨by repeat (first | (with_reducible first | exact HB.out | apply below_alloc | apply pw_below_drewN | apply below_drew1) | exact HB.out)⟩⟩
          · replace c20 := Bool.eq_false_iff.mpr c20
            subst c20
            have H1 : ((escutcheonlaw5_Fill.f kj9 a0 32).bind fun t208 => ((escutcheonlaw5_Fill.f kj9 a1 12).bind fun t209 => (escutcheonlaw5_StreamTells.j1 kj9 t208 t209 a2 a3 a5 a6 a7 a8))) = some r := by rw [if_neg (show ¬ (false = true) by decide)] at H; exact H
            clear H
            have H := H1
            clear H1
            replace H := Option.bind_eq_some_iff.mp H
            obtain ⟨t208, A210, H⟩ := H
            replace H : ((escutcheonlaw5_Fill.f kj9 a1 12).bind fun t209 => (escutcheonlaw5_StreamTells.j1 kj9 t208 t209 a2 a3 a5 a6 a7 a8)) = some r := H
            have A21 := Aside0.mk A210
            clear A210
            replace H := Option.bind_eq_some_iff.mp H
            obtain ⟨t209, A220, H⟩ := H
            replace H : (escutcheonlaw5_StreamTells.j1 kj9 t208 t209 a2 a3 a5 a6 a7 a8) = some r := H
            have A22 := Aside0.mk A220
            clear A220
            have H' := Aside0.mk H
            clear H
            go_wp2_with (first | ((with_reducible refine gate_callee (f := 11) rfl ?_); refine goesL_ (some 52) rfl rfl Try.func11 (by kernel_rfl) rfl #[.string a0, .int .i64 32] rfl (by (try simp only [List.map_toArray, List.map_cons, List.map_nil]); first | done | rfl | (simp only [List.length_drop, List.length_take]; rfl)) ?_; (with_reducible refine (escutcheonlaw5_Fill.calls kj9 a0 32 t208 _ A21.out).mono ?_); rintro e w' ⟨rfl, ⟨nd, rfl⟩⟩; refine ⟨_, rfl, ?_⟩) | ((with_reducible refine gate_callee (f := 11) rfl ?_); refine goesL_ (some 54) rfl rfl Try.func11 (by kernel_rfl) rfl #[.string a1, .int .i64 12] rfl (by (try simp only [List.map_toArray, List.map_cons, List.map_nil]); first | done | rfl | (simp only [List.length_drop, List.length_take]; rfl)) ?_; (with_reducible refine (escutcheonlaw5_Fill.calls kj9 a1 12 t209 _ A22.out).mono ?_); rintro e w' ⟨rfl, ⟨nd, rfl⟩⟩; refine ⟨_, rfl, ?_⟩))
            go_meet
            case rel => exact ⟨_, (t208), (t209), (by first | rfl | (simp; done) | (simp [*]; done)), (by first | rfl | (simp; done) | (simp [*]; done)), H', ⟨by have := HJ9.out; first | omega | exact Nat.le_refl _⟩, ⟨by repeat (first | (with_reducible first | exact HB.out | apply below_alloc | apply pw_below_drewN | apply below_drew1) | exact HB.out)⟩⟩
        case rest =>
          clear HC19
          try clear c1
          try clear c2
          try clear p2
          try clear c4
          try clear c8
          try clear c11
          try clear c11b0
          try clear c11b1
          try clear c12
          try clear c12b0
          try clear c12b1
          try clear c13
          try clear c13b0
          try clear c13b1
          try clear c16
          try clear c20
          try clear p2
          obtain ⟨kq, x0_18, x1_18, rfl, rfl, HA, HJ18, HB⟩ := hcut
          cases kq with
          | zero => exact absurd HA.out (by simp [escutcheonlaw5_StreamTells.j1])
          | succ kj18 =>
            have H := HA.out
            clear HA
            simp only [escutcheonlaw5_StreamTells.j1] at H
            replace H := Option.bind_eq_some_iff.mp H
            obtain ⟨⟨t210, t211, t212, t213⟩, A230, H⟩ := H
            replace H : ((escutcheonref1_Quarter.f a5 a6 a7 a8).bind fun bt214 => (if t210 = bt214.1 then (if t211 = bt214.2.1 then (if t212 = bt214.2.2.1 then (escutcheonlaw5_StreamTells.j2 kj18 x0_18 x1_18 a2 a3 (t213 != bt214.2.2.2)) else (none)) else (none)) else (none))) = some r := H
            have A23 := Aside0.mk A230
            clear A230
            replace H := Option.bind_eq_some_iff.mp H
            obtain ⟨⟨t214, t215, t216, t217⟩, A240, H⟩ := H
            replace H : (if t210 = t214 then (if t211 = t215 then (if t212 = t216 then (escutcheonlaw5_StreamTells.j2 kj18 x0_18 x1_18 a2 a3 (t213 != t217)) else (none)) else (none)) else (none)) = some r := H
            have A24 := Aside0.mk A240
            clear A240
            have HC25 := Aside0.mk H
            clear H
            go_upto_region 7 with (first | ((with_reducible refine gate_callee (f := 9) rfl ?_); refine goesL_ (some 60) rfl rfl Try.func9 (by kernel_rfl) rfl #[.int .u32 a5, .int .u32 a6, .int .u32 a7, .int .u32 a8] rfl (by (try simp only [List.map_toArray, List.map_cons, List.map_nil]); first | done | rfl | (simp only [List.length_drop, List.length_take]; rfl)) ?_; (with_reducible refine (stream_Quarter.calls a5 a6 a7 a8 t210 t211 t212 t213 _ A23.out).mono ?_); rintro e w' ⟨rfl, ⟨nd, rfl⟩⟩; refine ⟨_, rfl, ?_⟩) | ((with_reducible refine gate_callee (f := 12) rfl ?_); refine goesL_ (some 70) rfl rfl Try.func12 (by kernel_rfl) rfl #[.int .u32 a5, .int .u32 a6, .int .u32 a7, .int .u32 a8] rfl (by (try simp only [List.map_toArray, List.map_cons, List.map_nil]); first | done | rfl | (simp only [List.length_drop, List.length_take]; rfl)) ?_; (with_reducible refine (escutcheonref1_Quarter.calls a5 a6 a7 a8 t214 t215 t216 t217 _ A24.out).mono ?_); rintro e w' ⟨rfl, ⟨nd, rfl⟩⟩; refine ⟨_, rfl, ?_⟩))
            (try simp only [Act.put, List.setIfInBounds_toArray, List.set_cons_zero, List.set_cons_succ])
            go_cut [92] (fun v92 wc => ∃ (kq : Nat) (x92_24 : Bool), v92 = .bool x92_24 ∧ Aside0 (escutcheonlaw5_StreamTells.j2 kq x0_18 x1_18 a2 a3 x92_24 = some r) ∧ Aside0 (kq ≤ kj18) ∧ Aside0 (Below w.heap.size w wc))
            case first =>
              have H := HC25.out
              clear HC25
              by_cases c26 : t210 = t214
              · rw [if_pos c26] at H
                have c26b0 : (t210 == t214) = true := beq_iff_eq.mpr c26
                have c26b1 : (t210 != t214) = false := bne_eq_false_iff_eq.mpr c26
                clear c26
                (first | rw [c26b0] | (simp only [i64_w, i32_w]; rw [c26b0]) | skip)
                by_cases c27 : t211 = t215
                · rw [if_pos c27] at H
                  have c27b0 : (t211 == t215) = true := beq_iff_eq.mpr c27
                  have c27b1 : (t211 != t215) = false := bne_eq_false_iff_eq.mpr c27
                  clear c27
                  by_cases c28 : t212 = t216
                  · rw [if_pos c28] at H
                    have c28b0 : (t212 == t216) = true := beq_iff_eq.mpr c28
                    have c28b1 : (t212 != t216) = false := bne_eq_false_iff_eq.mpr c28
                    clear c28
                    have H' := Aside0.mk H
                    clear H
                    go_wp2
                    go_meet
                    case rel => exact ⟨_, ((t213 != t217)), (by first | rfl | (simp; done) | (simp [*]; done)), H', ⟨by have := HJ9.out; have := HJ18.out; first | omega | exact Nat.le_refl _⟩, ⟨by repeat (first | (with_reducible first | exact HB.out | apply below_alloc | apply pw_below_drewN | apply below_drew1) | exact HB.out)⟩⟩
                  · rw [if_neg c28] at H
                    exact absurd H (by simp)
                · rw [if_neg c27] at H
                  exact absurd H (by simp)
              · rw [if_neg c26] at H
                exact absurd H (by simp)
            case rest =>
              clear HC25
              try clear c1
              try clear c2
              try clear p2
              try clear c4
              try clear c8
              try clear c9
              try clear c11
              try clear c11b0
              try clear c11b1
              try clear c12
              try clear c12b0
              try clear c12b1
              try clear c13
              try clear c13b0
              try clear c13b1
              try clear c16
              try clear c20
              try clear c26
              try clear c26b0
              try clear c26b1
              try clear c27
              try clear c27b0
              try clear c27b1
              try clear c28
              try clear c28b0
              try clear c28b1
              try clear p2
              obtain ⟨kq, x92_24, rfl, HA, HJ24, HB⟩ := hcut
              cases kq with
              | zero => exact absurd HA.out (by simp [escutcheonlaw5_StreamTells.j2])
              | succ kj24 =>
                have H := HA.out
                clear HA
                simp only [escutcheonlaw5_StreamTells.j2] at H
                by_cases c29 : x92_24 = true
                · subst c29
                  have H1 : (none) = some r := by rw [if_pos rfl] at H; exact H
                  clear H
                  have H := H1
                  clear H1
                  exact absurd H (by simp)
                · replace c29 := Bool.eq_false_iff.mpr c29
                  subst c29
                  have H1 : ((stream_Block.f kj24 x0_18 a3 x1_18).bind fun bt218 => ((stream_Xor.f kj24 x0_18 a3 x1_18 a2).bind fun bt220 => (if (x0_18.size : Int) = 32 then (escutcheonlaw5_StreamTells.j3 kj24 x0_18 x1_18 a2 a3 bt218.1 bt218.2 bt220.1 bt220.2 ((x1_18.size : Int) != 12)) else (escutcheonlaw5_StreamTells.j3 kj24 x0_18 x1_18 a2 a3 bt218.1 bt218.2 bt220.1 bt220.2 true)))) = some r := by rw [if_neg (show ¬ (false = true) by decide)] at H; exact H
                  clear H
                  have H := H1
                  clear H1
                  replace H := Option.bind_eq_some_iff.mp H
                  obtain ⟨⟨t218, t219⟩, A300, H⟩ := H
                  replace H : ((stream_Xor.f kj24 x0_18 a3 x1_18 a2).bind fun bt220 => (if (x0_18.size : Int) = 32 then (escutcheonlaw5_StreamTells.j3 kj24 x0_18 x1_18 a2 a3 t218 t219 bt220.1 bt220.2 ((x1_18.size : Int) != 12)) else (escutcheonlaw5_StreamTells.j3 kj24 x0_18 x1_18 a2 a3 t218 t219 bt220.1 bt220.2 true))) = some r := H
                  have A30 := Aside0.mk A300
                  clear A300
                  replace H := Option.bind_eq_some_iff.mp H
                  obtain ⟨⟨t220, t221⟩, A310, H⟩ := H
                  replace H : (if (x0_18.size : Int) = 32 then (escutcheonlaw5_StreamTells.j3 kj24 x0_18 x1_18 a2 a3 t218 t219 t220 t221 ((x1_18.size : Int) != 12)) else (escutcheonlaw5_StreamTells.j3 kj24 x0_18 x1_18 a2 a3 t218 t219 t220 t221 true)) = some r := H
                  have A31 := Aside0.mk A310
                  clear A310
                  have HC32 := Aside0.mk H
                  clear H
                  go_upto_region 11 with (first | ((with_reducible refine gate_callee (f := 13) rfl ?_); refine goesL_ (some 97) rfl rfl Try.func13 (by kernel_rfl) rfl #[.string x0_18, .int .u32 a3, .string x1_18] rfl (by (try simp only [List.map_toArray, List.map_cons, List.map_nil]); first | done | rfl | (simp only [List.length_drop, List.length_take]; rfl)) ?_; (with_reducible refine (stream_Block.calls kj24 x0_18 a3 x1_18 t218 t219 _ A30.out).mono ?_); rintro e w33 ⟨rfl, hb⟩; refine ⟨_, rfl, ?_⟩; have n0_ := Aside0.mk (below_step (by repeat (first | (with_reducible first | exact HB.out | apply below_alloc | apply pw_below_drewN | apply below_drew1) | exact HB.out)) hb); clear HB; have HB := n0_; clear n0_; (try clear hb); (try clear hb2); (try clear hk); (try clear hi)) | ((with_reducible refine gate_callee (f := 14) rfl ?_); refine goesL_ (some 105) rfl rfl Try.func14 (by kernel_rfl) rfl #[.string x0_18, .int .u32 a3, .string x1_18, .string a2] rfl (by (try simp only [List.map_toArray, List.map_cons, List.map_nil]); first | done | rfl | (simp only [List.length_drop, List.length_take]; rfl)) ?_; (with_reducible refine (stream_Xor.calls kj24 x0_18 a3 x1_18 a2 t220 t221 _ A31.out).mono ?_); rintro e w34 ⟨rfl, hb⟩; refine ⟨_, rfl, ?_⟩; have n0_ := Aside0.mk (below_step (by repeat (first | (with_reducible first | exact HB.out | apply below_alloc | apply pw_below_drewN | apply below_drew1) | exact HB.out)) hb); clear HB; have HB := n0_; clear n0_; (try clear hb); (try clear hb2); (try clear hk); (try clear hi)))
                  (try simp only [Act.put, List.setIfInBounds_toArray, List.set_cons_zero, List.set_cons_succ])
                  go_cut [115] (fun v115 wc => ∃ (kq : Nat) (x115_31 : Bool), v115 = .bool x115_31 ∧ Aside0 (escutcheonlaw5_StreamTells.j3 kq x0_18 x1_18 a2 a3 t218 t219 t220 t221 x115_31 = some r) ∧ Aside0 (kq ≤ kj24) ∧ Aside0 (Below w.heap.size w wc))
                  case first =>
                    have H := HC32.out
                    clear HC32
                    by_cases c35 : (x0_18.size : Int) = 32
                    · rw [if_pos c35] at H
                      have c35b0 : ((x0_18.size : Int) == 32) = true := beq_iff_eq.mpr c35
                      have c35b1 : ((x0_18.size : Int) != 32) = false := bne_eq_false_iff_eq.mpr c35
                      clear c35
                      (first | rw [c35b0] | (simp only [i64_w, i32_w]; rw [c35b0]) | skip)
                      have H' := Aside0.mk H
                      clear H
                      go_wp2
                      go_meet
                      case rel => exact ⟨_, (((x1_18.size : Int) != 12)), (by first | rfl | (simp; done) | (simp [*]; done)), H', ⟨by have := HJ9.out; have := HJ18.out; have := HJ24.out; first | omega | exact Nat.le_refl _⟩, ⟨by repeat (first | (with_reducible first | exact HB.out | apply below_alloc | apply pw_below_drewN | apply below_drew1) | exact HB.out)⟩⟩
                    · rw [if_neg c35] at H
                      have c35b0 : ((x0_18.size : Int) == 32) = false := beq_eq_false_iff_ne.mpr c35
                      have c35b1 : ((x0_18.size : Int) != 32) = true := bne_iff_ne.mpr c35
                      (first | rw [c35b0] | (simp only [i64_w, i32_w]; rw [c35b0]) | skip)
                      have H' := Aside0.mk H
                      clear H
                      go_wp2
                      go_meet
                      case rel => exact ⟨_, (true), (by first | rfl | (simp; done) | (simp [*]; done)), H', ⟨by have := HJ9.out; have := HJ18.out; have := HJ24.out; first | omega | exact Nat.le_refl _⟩, ⟨by repeat (first | (with_reducible first | exact HB.out | apply below_alloc | apply pw_below_drewN | apply below_drew1) | exact HB.out)⟩⟩
                  case rest =>
                    clear HC32
                    try clear c1
                    try clear c2
                    try clear p2
                    try clear c3
                    try clear c4
                    try clear c8
                    try clear c9
                    try clear c11
                    try clear c11b0
                    try clear c11b1
                    try clear c12
                    try clear c12b0
                    try clear c12b1
                    try clear c13
                    try clear c13b0
                    try clear c13b1
                    try clear c14
                    try clear c16
                    try clear c20
                    try clear c26
                    try clear c26b0
                    try clear c26b1
                    try clear c27
                    try clear c27b0
                    try clear c27b1
                    try clear c28
                    try clear c28b0
                    try clear c28b1
                    try clear c29
                    try clear c35
                    try clear c35b0
                    try clear c35b1
                    try clear p2
                    obtain ⟨kq, x115_31, rfl, HA, HJ31, HB⟩ := hcut
                    cases kq with
                    | zero => exact absurd HA.out (by simp [escutcheonlaw5_StreamTells.j3])
                    | succ kj31 =>
                      have H := HA.out
                      clear HA
                      simp only [escutcheonlaw5_StreamTells.j3] at H
                      by_cases c36 : x115_31 = true
                      · subst c36
                        have H1 : (if t219 = true then (none) else (if t221 = true then (none) else (if t218.toList = ([] : List UInt8) then (some (t220.toList == ([] : List UInt8))) else (none)))) = some r := by rw [if_pos rfl] at H; exact H
                        clear H
                        have H := H1
                        clear H1
                        by_cases c37 : t219 = true
                        · subst c37
                          have H1 : (none) = some r := by rw [if_pos rfl] at H; exact H
                          clear H
                          have H := H1
                          clear H1
                          exact absurd H (by simp)
                        · replace c37 := Bool.eq_false_iff.mpr c37
                          subst c37
                          have H1 : (if t221 = true then (none) else (if t218.toList = ([] : List UInt8) then (some (t220.toList == ([] : List UInt8))) else (none))) = some r := by rw [if_neg (show ¬ (false = true) by decide)] at H; exact H
                          clear H
                          have H := H1
                          clear H1
                          by_cases c38 : t221 = true
                          · subst c38
                            have H1 : (none) = some r := by rw [if_pos rfl] at H; exact H
                            clear H
                            have H := H1
                            clear H1
                            exact absurd H (by simp)
                          · replace c38 := Bool.eq_false_iff.mpr c38
                            subst c38
                            have H1 : (if t218.toList = ([] : List UInt8) then (some (t220.toList == ([] : List UInt8))) else (none)) = some r := by rw [if_neg (show ¬ (false = true) by decide)] at H; exact H
                            clear H
                            have H := H1
                            clear H1
                            by_cases c39 : t218.toList = ([] : List UInt8)
                            · rw [if_pos c39] at H
                              have c39b0 : (t218.toList == ([] : List UInt8)) = true := beq_iff_eq.mpr c39
                              have c39b1 : (t218.toList != ([] : List UInt8)) = false := bne_eq_false_iff_eq.mpr c39
                              clear c39
                              obtain rfl := Option.some.inj H
                              go_wp2
                              go_ret
                              exact ⟨by first | rfl | (simp [errW_none, errW_some] <;> rfl) | (simp [*, errW_none, errW_some] <;> rfl), by repeat (first | (with_reducible first | exact HB.out | apply below_alloc | apply pw_below_drewN | apply below_drew1) | exact HB.out)⟩
                            · rw [if_neg c39] at H
                              exact absurd H (by simp)
                      · replace c36 := Bool.eq_false_iff.mpr c36
                        subst c36
                        have H1 : (if t219 = true then (if t221 = true then ((escutcheonref1_Block.f kj31 x0_18 a3 x1_18).bind fun t222 => (if t218.toList = t222.toList then ((escutcheonref1_Stream.f kj31 x0_18 a3 x1_18 a2).bind fun t223 => (some (t220.toList == t223.toList))) else (none))) else (none)) else (none)) = some r := by rw [if_neg (show ¬ (false = true) by decide)] at H; exact H
                        clear H
                        have H := H1
                        clear H1
                        by_cases c40 : t219 = true
                        · subst c40
                          have H1 : (if t221 = true then ((escutcheonref1_Block.f kj31 x0_18 a3 x1_18).bind fun t222 => (if t218.toList = t222.toList then ((escutcheonref1_Stream.f kj31 x0_18 a3 x1_18 a2).bind fun t223 => (some (t220.toList == t223.toList))) else (none))) else (none)) = some r := by rw [if_pos rfl] at H; exact H
                          clear H
                          have H := H1
                          clear H1
                          by_cases c41 : t221 = true
                          · subst c41
                            have H1 : ((escutcheonref1_Block.f kj31 x0_18 a3 x1_18).bind fun t222 => (if t218.toList = t222.toList then ((escutcheonref1_Stream.f kj31 x0_18 a3 x1_18 a2).bind fun t223 => (some (t220.toList == t223.toList))) else (none))) = some r := by rw [if_pos rfl] at H; exact H
                            clear H
                            have H := H1
                            clear H1
                            replace H := Option.bind_eq_some_iff.mp H
                            obtain ⟨t222, A420, H⟩ := H
                            replace H : (if t218.toList = t222.toList then ((escutcheonref1_Stream.f kj31 x0_18 a3 x1_18 a2).bind fun t223 => (some (t220.toList == t223.toList))) else (none)) = some r := H
                            have A42 := Aside0.mk A420
                            clear A420
                            by_cases c43 : t218.toList = t222.toList
                            · rw [if_pos c43] at H
                              have c43b0 : (t218.toList == t222.toList) = true := beq_iff_eq.mpr c43
                              have c43b1 : (t218.toList != t222.toList) = false := bne_eq_false_iff_eq.mpr c43
                              clear c43
                              replace H := Option.bind_eq_some_iff.mp H
                              obtain ⟨t223, A440, H⟩ := H
                              replace H : (some (t220.toList == t223.toList)) = some r := H
                              have A44 := Aside0.mk A440
                              clear A440
                              obtain rfl := Option.some.inj H
                              go_wp2_with (first | (go_at_call 15; (with_reducible refine (escutcheonref1_Block.calls kj31 x0_18 a3 x1_18 t222 _ A42.out).mono ?_); rintro e w45 ⟨rfl, hb⟩; have n0_ := Aside0.mk (below_step (by repeat (first | (with_reducible first | exact HB.out | apply below_alloc | apply pw_below_drewN | apply below_drew1) | exact HB.out)) hb); clear HB; have HB := n0_; clear n0_; (try clear hb); (try clear hb2); (try clear hk); (try clear hi)) | (go_at_call 16; (with_reducible refine (escutcheonref1_Stream.calls kj31 x0_18 a3 x1_18 a2 t223 _ A44.out).mono ?_); rintro e w46 ⟨rfl, hb⟩; have n0_ := Aside0.mk (below_step (by repeat (first | (with_reducible first | exact HB.out | apply below_alloc | apply pw_below_drewN | apply below_drew1) | exact HB.out)) hb); clear HB; have HB := n0_; clear n0_; (try clear hb); (try clear hb2); (try clear hk); (try clear hi)))
                              go_ret
                              exact ⟨by first | rfl | (simp [errW_none, errW_some] <;> rfl) | (simp [*, errW_none, errW_some] <;> rfl), by repeat (first | (with_reducible first | exact HB.out | apply below_alloc | apply pw_below_drewN | apply below_drew1) | exact HB.out)⟩
                            · rw [if_neg c43] at H
                              exact absurd H (by simp)
                          · replace c41 := Bool.eq_false_iff.mpr c41
                            subst c41
                            have H1 : (none) = some r := by rw [if_neg (show ¬ (false = true) by decide)] at H; exact H
                            clear H
                            have H := H1
                            clear H1
                            exact absurd H (by simp)
                        · replace c40 := Bool.eq_false_iff.mpr c40
                          subst c40
                          have H1 : (none) = some r := by rw [if_neg (show ¬ (false = true) by decide)] at H; exact H
                          clear H
                          have H := H1
                          clear H1
                          exact absurd H (by simp)

/-- THE ONE PURE STATEMENT of escutcheonlaw5_StreamTells: yours. -/
def escutcheonlaw5_StreamTells.Pure : Prop := ∀ (a0 : ByteArray) (a1 : ByteArray) (a2 : ByteArray) (a3 : Int) (a4 : Bool) (a5 : Int) (a6 : Int) (a7 : Int) (a8 : Int), a0.size ≤ 140737488351232 → a1.size ≤ 140737488351232 → a2.size ≤ 140737488351232 → (Lit.int .u32 a3).wf = true → (Lit.int .u32 a5).wf = true → (Lit.int .u32 a6).wf = true → (Lit.int .u32 a7).wf = true → (Lit.int .u32 a8).wf = true → ∃ k, escutcheonlaw5_StreamTells.f k a0 a1 a2 a3 a4 a5 a6 a7 a8 = some true
theorem escutcheonlaw5_StreamTells.walk (P : escutcheonlaw5_StreamTells.Pure) (a0 : ByteArray) (a1 : ByteArray) (a2 : ByteArray) (a3 : Int) (a4 : Bool) (a5 : Int) (a6 : Int) (a7 : Int) (a8 : Int) (w : World) (w0 : a0.size ≤ 140737488351232) (w1 : a1.size ≤ 140737488351232) (w2 : a2.size ≤ 140737488351232) (w3 : (Lit.int .u32 a3).wf = true) (w5 : (Lit.int .u32 a5).wf = true) (w6 : (Lit.int .u32 a6).wf = true) (w7 : (Lit.int .u32 a7).wf = true) (w8 : (Lit.int .u32 a8).wf = true) :
    Calls Try.prog 4 #[.string a0, .string a1, .string a2, .int .u32 a3, .bool a4, .int .u32 a5, .int .u32 a6, .int .u32 a7, .int .u32 a8] w fun e w' => e = .returned (.bool true) ∧ Below w.heap.size w w' := by
  obtain ⟨k, h⟩ := P a0 a1 a2 a3 a4 a5 a6 a7 a8 w0 w1 w2 w3 w5 w6 w7 w8
  refine (escutcheonlaw5_StreamTells.calls k a0 a1 a2 a3 a4 a5 a6 a7 a8 true w h).mono ?_
  rintro e w' ⟨rfl, hd⟩
  exact ⟨rfl, hd⟩

end Go.Proofs.Ytdnlenhkagfiaaa.P
