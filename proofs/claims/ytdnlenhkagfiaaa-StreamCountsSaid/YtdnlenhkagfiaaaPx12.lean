-- Written by wip/inj.py (the kit's print, with contracts typed by hand beside it).
import Derived.Test.YtdnlenhkagfiaaaPx0
import Derived.Test.YtdnlenhkagfiaaaPx1
import Derived.Test.YtdnlenhkagfiaaaPx4
import Derived.Test.YtdnlenhkagfiaaaPx6
namespace Go.Proofs.Ytdnlenhkagfiaaa.P
open Go.RowKit Go.Proofs.YtdnlenhkagfiaaaW.PrintWords Go.Proofs.YtdnlenhkagfiaaaW.PrintLast Go.Proofs.YtdnlenhkagfiaaaW.PrintMore
attribute [local go_sem] max2_int min2_int max_two min_two max_three min_three max_four min_four   -- for this text's walks alone
set_option linter.unusedVariables false
set_option linter.unusedSimpArgs false

-- NOT PRINTED: function 3 (escutcheonlaw5_StreamQuarters)

/-! ### escutcheonlaw5_StreamCounts: function 5 -/
mutual
def escutcheonlaw5_StreamCounts.j0 : Nat → ByteArray → ByteArray → Int → Int → Bool → Option (Bool)
  | 0, _, _, _, _, _ => none
  | k + 1, x0, x1, x2, x3, x24 => if x24 = true then ((escutcheonlaw5_alive.f k).bind fun t230 => (some t230)) else ((escutcheonlaw5_Fill.f k x0 32).bind fun t231 => ((escutcheonlaw5_Fill.f k x1 12).bind fun t232 => (escutcheonlaw5_StreamCounts.l0 k t231 t232 x2 x3 (⟨#[]⟩ : ByteArray) 0)))
def escutcheonlaw5_StreamCounts.l0 : Nat → ByteArray → ByteArray → Int → Int → ByteArray → Int → Option (Bool)
  | 0, _, _, _, _, _, _ => none
  | k + 1, x0, x1, x2, x3, x9, x10 => if x10 < x3 then ((stream_Block.f k x0 ((x2 + ((x10) % 4294967296)) % 4294967296) x1).bind fun bt233 => (if bt233.2 = true then (if (bt233.1.size : Int) = 64 then (if x9.size + bt233.1.size ≤ 9223372036854775807 then (escutcheonlaw5_StreamCounts.l0 k x0 x1 x2 x3 (x9 ++ bt233.1) (wrap64 (x10 + 1))) else (none)) else (none)) else (none))) else (if 0 ≤ (wrap64 (64 * x3)) then (if (wrap64 (64 * x3) : Int).toNat ≤ 281474976710656 then ((stream_Xor.f k x0 x2 x1 (strOfNums (List.replicate (wrap64 (64 * x3) : Int).toNat 0))).bind fun bt238 => (if bt238.2 = true then (some (bt238.1.toList == x9.toList)) else (none))) else (none)) else (none))
end
def escutcheonlaw5_StreamCounts.f (k : Nat) (a0 : ByteArray) (a1 : ByteArray) (a2 : Int) (a3 : Int) : Option (Bool) := if a3 < 0 then (escutcheonlaw5_StreamCounts.j0 k a0 a1 a2 a3 true) else (if a3 > 6 then (escutcheonlaw5_StreamCounts.j0 k a0 a1 a2 a3 true) else ((escutcheonlaw5_alive.f k).bind fun t229 => (escutcheonlaw5_StreamCounts.j0 k a0 a1 a2 a3 (!t229))))
theorem escutcheonlaw5_StreamCounts.mono_l : ∀ k, (∀ y0 y1 y2 y3 y4, LeO (escutcheonlaw5_StreamCounts.j0 k y0 y1 y2 y3 y4) (escutcheonlaw5_StreamCounts.j0 (k + 1) y0 y1 y2 y3 y4)) ∧ (∀ y0 y1 y2 y3 y4 y5, LeO (escutcheonlaw5_StreamCounts.l0 k y0 y1 y2 y3 y4 y5) (escutcheonlaw5_StreamCounts.l0 (k + 1) y0 y1 y2 y3 y4 y5))
  | 0 => ⟨fun _ _ _ _ _ r h => by simp [escutcheonlaw5_StreamCounts.j0] at h, fun _ _ _ _ _ _ r h => by simp [escutcheonlaw5_StreamCounts.l0] at h⟩
  | k + 1 => by
    obtain ⟨ih0, ih1⟩ := escutcheonlaw5_StreamCounts.mono_l k
    refine ⟨?_, ?_⟩
    · intro y0 y1 y2 y3 y4
      unfold escutcheonlaw5_StreamCounts.j0
      repeat' first
      | (with_reducible exact ih0 _ _ _ _ _)
      | (with_reducible exact ih1 _ _ _ _ _ _)
      | (with_reducible exact escutcheonlaw5_Fill.mono _ _ _)
      | (with_reducible exact escutcheonlaw5_alive.mono _)
      | (with_reducible exact stream_Block.mono _ _ _ _)
      | (with_reducible exact stream_Xor.mono _ _ _ _ _)
      | (with_reducible exact LeO.refl _)
      | (with_reducible exact LeO.none _)
      | (with_reducible refine LeO.ite ?_ ?_)
      | (with_reducible refine LeO.bind ?_ (fun _ => ?_))
      | exact ih0 _ _ _ _ _
      | exact ih1 _ _ _ _ _ _
      | exact escutcheonlaw5_Fill.mono _ _ _
      | exact escutcheonlaw5_alive.mono _
      | exact stream_Block.mono _ _ _ _
      | exact stream_Xor.mono _ _ _ _ _
      | exact LeO.none _
      | refine LeO.ite ?_ ?_
      | refine LeO.bind ?_ (fun _ => ?_)
    · intro y0 y1 y2 y3 y4 y5
      unfold escutcheonlaw5_StreamCounts.l0
      repeat' first
      | (with_reducible exact ih0 _ _ _ _ _)
      | (with_reducible exact ih1 _ _ _ _ _ _)
      | (with_reducible exact escutcheonlaw5_Fill.mono _ _ _)
      | (with_reducible exact escutcheonlaw5_alive.mono _)
      | (with_reducible exact stream_Block.mono _ _ _ _)
      | (with_reducible exact stream_Xor.mono _ _ _ _ _)
      | (with_reducible exact LeO.refl _)
      | (with_reducible exact LeO.none _)
      | (with_reducible refine LeO.ite ?_ ?_)
      | (with_reducible refine LeO.bind ?_ (fun _ => ?_))
      | exact ih0 _ _ _ _ _
      | exact ih1 _ _ _ _ _ _
      | exact escutcheonlaw5_Fill.mono _ _ _
      | exact escutcheonlaw5_alive.mono _
      | exact stream_Block.mono _ _ _ _
      | exact stream_Xor.mono _ _ _ _ _
      | exact LeO.none _
      | refine LeO.ite ?_ ?_
      | refine LeO.bind ?_ (fun _ => ?_)
theorem escutcheonlaw5_StreamCounts.mono : ∀ a0 a1 a2 a3 k, LeO (escutcheonlaw5_StreamCounts.f k a0 a1 a2 a3) (escutcheonlaw5_StreamCounts.f (k + 1) a0 a1 a2 a3) := by
  intro a0 a1 a2 a3 k
  obtain ⟨ih0, ih1⟩ := escutcheonlaw5_StreamCounts.mono_l k
  unfold escutcheonlaw5_StreamCounts.f
  repeat' first
      | (with_reducible exact ih0 _ _ _ _ _)
      | (with_reducible exact ih1 _ _ _ _ _ _)
      | (with_reducible exact escutcheonlaw5_Fill.mono _ _ _)
      | (with_reducible exact escutcheonlaw5_alive.mono _)
      | (with_reducible exact stream_Block.mono _ _ _ _)
      | (with_reducible exact stream_Xor.mono _ _ _ _ _)
      | (with_reducible exact LeO.refl _)
      | (with_reducible exact LeO.none _)
      | (with_reducible refine LeO.ite ?_ ?_)
      | (with_reducible refine LeO.bind ?_ (fun _ => ?_))
      | exact ih0 _ _ _ _ _
      | exact ih1 _ _ _ _ _ _
      | exact escutcheonlaw5_Fill.mono _ _ _
      | exact escutcheonlaw5_alive.mono _
      | exact stream_Block.mono _ _ _ _
      | exact stream_Xor.mono _ _ _ _ _
      | exact LeO.none _
      | refine LeO.ite ?_ ?_
      | refine LeO.bind ?_ (fun _ => ?_)
set_option maxHeartbeats 8000000 in
set_option maxRecDepth 100000 in
theorem escutcheonlaw5_StreamCounts.calls (k : Nat) (a0 : ByteArray) (a1 : ByteArray) (a2 : Int) (a3 : Int) (r : Bool) (w : World) (h : escutcheonlaw5_StreamCounts.f k a0 a1 a2 a3 = some r) :
    Calls Try.prog 5 #[.string a0, .string a1, .int .u32 a2, .int .i64 a3] w fun e w' => e = .returned (.bool r) ∧ Below w.heap.size w w' := by
  have HB := Aside0.mk (Below.refl w.heap.size w)
  have H : (if a3 < 0 then (escutcheonlaw5_StreamCounts.j0 k a0 a1 a2 a3 true) else (if a3 > 6 then (escutcheonlaw5_StreamCounts.j0 k a0 a1 a2 a3 true) else ((escutcheonlaw5_alive.f k).bind fun t229 => (escutcheonlaw5_StreamCounts.j0 k a0 a1 a2 a3 (!t229))))) = some r := h
  clear h
  have HC5 := Aside0.mk H
  clear H
  go_enter Try.func5, Try.ntmps5
  go_upto_region 1 with (fail)
  go_cut [24] (fun v24 wc => ∃ (kq : Nat) (x24_4 : Bool), v24 = .bool x24_4 ∧ Aside0 (escutcheonlaw5_StreamCounts.j0 kq a0 a1 a2 a3 x24_4 = some r) ∧ Aside0 (kq ≤ k) ∧ Aside0 (Below w.heap.size w wc))
  case first =>
    have H := HC5.out
    clear HC5
    by_cases c6 : a3 < 0
    · rw [if_pos c6] at H
      have c6b0 : decide (a3 < 0) = true := decide_eq_true c6
      clear c6
      (first | rw [c6b0] | (simp only [i64_w, i32_w]; rw [c6b0]) | skip)
      have H' := Aside0.mk H
      clear H
      go_wp2
      go_meet
      case rel => exact ⟨_, (true), (by first | rfl | (simp; done) | (simp [*]; done)), H', ⟨by first | omega | exact Nat.le_refl _⟩, ⟨by repeat (first | (with_reducible first | exact HB.out | apply below_alloc | apply pw_below_drewN | apply below_drew1) | exact HB.out)⟩⟩
    · rw [if_neg c6] at H
      have c6b0 : decide (a3 < 0) = false := decide_eq_false c6
      clear c6
      (first | rw [c6b0] | (simp only [i64_w, i32_w]; rw [c6b0]) | skip)
      by_cases c7 : a3 > 6
      · rw [if_pos c7] at H
        have c7b0 : decide (6 < a3) = true := decide_eq_true c7
        clear c7
        have H' := Aside0.mk H
        clear H
        go_wp2
        go_meet
        case rel => exact ⟨_, (true), (by first | rfl | (simp; done) | (simp [*]; done)), H', ⟨by first | omega | exact Nat.le_refl _⟩, ⟨by repeat (first | (with_reducible first | exact HB.out | apply below_alloc | apply pw_below_drewN | apply below_drew1) | exact HB.out)⟩⟩
      · rw [if_neg c7] at H
        have c7b0 : decide (6 < a3) = false := decide_eq_false c7
        clear c7
        replace H := Option.bind_eq_some_iff.mp H
        obtain ⟨t229, A80, H⟩ := H
        replace H : (escutcheonlaw5_StreamCounts.j0 k a0 a1 a2 a3 (!t229)) = some r := H
        have A8 := Aside0.mk A80
        clear A80
        have H' := Aside0.mk H
        clear H
        go_wp2_with (first | (go_at_call 8; (with_reducible refine (escutcheonlaw5_alive.calls k  t229 _ A8.out).mono ?_); rintro e w9 ⟨rfl, hb⟩; have n0_ := Aside0.mk (below_step (by repeat (first | (with_reducible first | exact HB.out | apply below_alloc | apply pw_below_drewN | apply below_drew1) | exact HB.out)) hb); clear HB; have HB := n0_; clear n0_; (try clear hb); (try clear hb2); (try clear hk); (try clear hi)))
        go_meet
        case rel => exact ⟨_, (!t229), (by first | rfl | (simp; done) | (simp [*]; done)), H', ⟨by first | omega | exact Nat.le_refl _⟩, ⟨by repeat (first | (with_reducible first | exact HB.out | apply below_alloc | apply pw_below_drewN | apply below_drew1) | exact HB.out)⟩⟩
  case rest =>
    clear HC5
    try clear p2
    try clear c5
    try clear c6
    try clear c6b0
    try clear c7
    try clear c7b0
    obtain ⟨kq, x24_4, rfl, HA, HJ4, HB⟩ := hcut
    cases kq with
    | zero => exact absurd HA.out (by simp [escutcheonlaw5_StreamCounts.j0])
    | succ kj4 =>
      have H := HA.out
      clear HA
      simp only [escutcheonlaw5_StreamCounts.j0] at H
      by_cases c10 : x24_4 = true
      · subst c10
        have H1 : ((escutcheonlaw5_alive.f kj4).bind fun t230 => (some t230)) = some r := by rw [if_pos rfl] at H; exact H
        clear H
        have H := H1
        clear H1
        replace H := Option.bind_eq_some_iff.mp H
        obtain ⟨t230, A110, H⟩ := H
        replace H : (some t230) = some r := H
        have A11 := Aside0.mk A110
        clear A110
        obtain rfl := Option.some.inj H
        go_wp2_with (first | ((with_reducible refine gate_callee (f := 8) rfl ?_); refine goesL_ (some 25) rfl rfl Try.func8 (by kernel_rfl) rfl #[] rfl (by (try simp only [List.map_toArray, List.map_cons, List.map_nil]); first | done | rfl | (simp only [List.length_drop, List.length_take]; rfl)) ?_; (with_reducible refine (escutcheonlaw5_alive.calls kj4  t230 _ A11.out).mono ?_); rintro e w12 ⟨rfl, hb⟩; refine ⟨_, rfl, ?_⟩; have n0_ := Aside0.mk (below_step (by repeat (first | (with_reducible first | exact HB.out | apply below_alloc | apply pw_below_drewN | apply below_drew1) | exact HB.out)) hb); clear HB; have HB := n0_; clear n0_; (try clear hb); (try clear hb2); (try clear hk); (try clear hi)))
        go_ret
        exact ⟨by first | rfl | (simp [errW_none, errW_some] <;> rfl) | (simp [*, errW_none, errW_some] <;> rfl), by repeat (first | (with_reducible first | exact HB.out | apply below_alloc | apply pw_below_drewN | apply below_drew1) | exact HB.out)⟩
      · replace c10 := Bool.eq_false_iff.mpr c10
        subst c10
        have H1 : ((escutcheonlaw5_Fill.f kj4 a0 32).bind fun t231 => ((escutcheonlaw5_Fill.f kj4 a1 12).bind fun t232 => (escutcheonlaw5_StreamCounts.l0 kj4 t231 t232 a2 a3 (⟨#[]⟩ : ByteArray) 0))) = some r := by rw [if_neg (show ¬ (false = true) by decide)] at H; exact H
        clear H
        have H := H1
        clear H1
        replace H := Option.bind_eq_some_iff.mp H
        obtain ⟨t231, A130, H⟩ := H
        replace H : ((escutcheonlaw5_Fill.f kj4 a1 12).bind fun t232 => (escutcheonlaw5_StreamCounts.l0 kj4 t231 t232 a2 a3 (⟨#[]⟩ : ByteArray) 0)) = some r := H
        have A13 := Aside0.mk A130
        clear A130
        replace H := Option.bind_eq_some_iff.mp H
        obtain ⟨t232, A140, H⟩ := H
        replace H : (escutcheonlaw5_StreamCounts.l0 kj4 t231 t232 a2 a3 (⟨#[]⟩ : ByteArray) 0) = some r := H
        have A14 := Aside0.mk A140
        clear A140
        have H' := Aside0.mk H
        clear H
        go_wp2_with (first | ((with_reducible refine gate_callee (f := 11) rfl ?_); refine goesL_ (some 27) rfl rfl Try.func11 (by kernel_rfl) rfl #[.string a0, .int .i64 32] rfl (by (try simp only [List.map_toArray, List.map_cons, List.map_nil]); first | done | rfl | (simp only [List.length_drop, List.length_take]; rfl)) ?_; (with_reducible refine (escutcheonlaw5_Fill.calls kj4 a0 32 t231 _ A13.out).mono ?_); rintro e w' ⟨rfl, ⟨nd, rfl⟩⟩; refine ⟨_, rfl, ?_⟩) | ((with_reducible refine gate_callee (f := 11) rfl ?_); refine goesL_ (some 29) rfl rfl Try.func11 (by kernel_rfl) rfl #[.string a1, .int .i64 12] rfl (by (try simp only [List.map_toArray, List.map_cons, List.map_nil]); first | done | rfl | (simp only [List.length_drop, List.length_take]; rfl)) ?_; (with_reducible refine (escutcheonlaw5_Fill.calls kj4 a1 12 t232 _ A14.out).mono ?_); rintro e w' ⟨rfl, ⟨nd, rfl⟩⟩; refine ⟨_, rfl, ?_⟩))
        go_loopg [9, 10] kj4 (fun kq v9 v10 w' => ∃ (x9_2 : ByteArray) (x10_2 : Int), v9 = .string x9_2 ∧ v10 = .int .i64 x10_2 ∧ Aside0 (escutcheonlaw5_StreamCounts.l0 kq t231 t232 a2 a3 x9_2 x10_2 = some r) ∧ Aside0 (kq ≤ kj4) ∧ Aside0 (Below w.heap.size w w'))
        case atStart => exact ⟨((⟨#[]⟩ : ByteArray)), (0), (by first | rfl | (simp; done) | (simp [*]; done)), (by first | rfl | (simp; done) | (simp [*]; done)), H', ⟨Nat.le_refl _⟩, ⟨by repeat (first | (with_reducible first | exact HB.out | apply below_alloc | apply pw_below_drewN | apply below_drew1) | exact HB.out)⟩⟩
        case round =>
          clear H'
          try clear c1
          try clear p2
          try clear c5
          try clear c6
          try clear c6b0
          try clear c7
          try clear c7b0
          try clear c8
          try clear c10
          try clear c11
          try clear p2
          obtain ⟨x9_2, x10_2, rfl, rfl, HA, HK2, HB⟩ := hrel
          cases gk with
          | zero => exact absurd HA.out (by simp [escutcheonlaw5_StreamCounts.l0])
          | succ k2 =>
            have H := HA.out
            clear HA
            simp only [escutcheonlaw5_StreamCounts.l0] at H
            by_cases c15 : x10_2 < a3
            · rw [if_pos c15] at H
              have c15b0 : decide (x10_2 < a3) = true := decide_eq_true c15
              clear c15
              replace H := Option.bind_eq_some_iff.mp H
              obtain ⟨⟨t233, t234⟩, A160, H⟩ := H
              replace H : (if t234 = true then (if (t233.size : Int) = 64 then (if x9_2.size + t233.size ≤ 9223372036854775807 then (escutcheonlaw5_StreamCounts.l0 k2 t231 t232 a2 a3 (x9_2 ++ t233) (wrap64 (x10_2 + 1))) else (none)) else (none)) else (none)) = some r := H
              have A16 := Aside0.mk A160
              clear A160
              by_cases c17 : t234 = true
              · subst c17
                have H1 : (if (t233.size : Int) = 64 then (if x9_2.size + t233.size ≤ 9223372036854775807 then (escutcheonlaw5_StreamCounts.l0 k2 t231 t232 a2 a3 (x9_2 ++ t233) (wrap64 (x10_2 + 1))) else (none)) else (none)) = some r := by rw [if_pos rfl] at H; exact H
                clear H
                have H := H1
                clear H1
                by_cases c18 : (t233.size : Int) = 64
                · rw [if_pos c18] at H
                  have c18b0 : ((t233.size : Int) == 64) = true := beq_iff_eq.mpr c18
                  have c18b1 : ((t233.size : Int) != 64) = false := bne_eq_false_iff_eq.mpr c18
                  clear c18
                  by_cases c19 : x9_2.size + t233.size ≤ 9223372036854775807
                  · rw [if_pos c19] at H
                    have c19b0 := eq_true c19
                    have c19b1 : decide (x9_2.size + t233.size ≤ 9223372036854775807) = true := decide_eq_true c19
                    try have c19b2 : (9223372036854775807 < x9_2.size + t233.size) = False := eq_false (Nat.not_lt.2 c19)
                    have H' := Aside0.mk H
                    clear H
                    go_wp2_with (first | ((with_reducible refine gate_callee (f := 13) rfl ?_); refine goesL_ (some 42) rfl rfl Try.func13 (by kernel_rfl) rfl #[.string t231, .int .u32 ((a2 + ((x10_2) % 4294967296)) % 4294967296), .string t232] rfl (by (try simp only [List.map_toArray, List.map_cons, List.map_nil]); first | done | rfl | (simp only [List.length_drop, List.length_take]; rfl)) ?_; (with_reducible refine (stream_Block.calls k2 t231 ((a2 + ((x10_2) % 4294967296)) % 4294967296) t232 t233 true _ A16.out).mono ?_); rintro e w20 ⟨rfl, hb⟩; refine ⟨_, rfl, ?_⟩; have n0_ := Aside0.mk (below_step (by repeat (first | (with_reducible first | exact HB.out | apply below_alloc | apply pw_below_drewN | apply below_drew1) | exact HB.out)) hb); clear HB; have HB := n0_; clear n0_; (try clear hb); (try clear hb2); (try clear hk); (try clear hi)))
                    go_roundg k2
                    case measure => have := HJ4.out; have := HK2.out; omega
                    case rel => exact ⟨(x9_2 ++ t233), (wrap64 (x10_2 + 1)), (by first | rfl | (simp; done) | (simp [*]; done)), (by first | rfl | (simp; done) | (simp [*]; done)), H', ⟨by have := HJ4.out; have := HK2.out; omega⟩, ⟨by repeat (first | (with_reducible first | exact HB.out | apply below_alloc | apply pw_below_drewN | apply below_drew1) | exact HB.out)⟩⟩
                  · rw [if_neg c19] at H
                    exact absurd H (by simp)
                · rw [if_neg c18] at H
                  exact absurd H (by simp)
              · replace c17 := Bool.eq_false_iff.mpr c17
                subst c17
                have H1 : (none) = some r := by rw [if_neg (show ¬ (false = true) by decide)] at H; exact H
                clear H
                have H := H1
                clear H1
                exact absurd H (by simp)
            · rw [if_neg c15] at H
              have c15b0 : decide (x10_2 < a3) = false := decide_eq_false c15
              clear c15
              obtain ⟨ji21, hji21⟩ : ∃ j_ : Int, (wrap64 (64 * a3)) = j_ := ⟨_, rfl⟩
              replace H : (if 0 ≤ (ji21) then (if (ji21 : Int).toNat ≤ 281474976710656 then ((stream_Xor.f k2 t231 a2 t232 (strOfNums (List.replicate (ji21 : Int).toNat 0))).bind fun bt238 => (if bt238.2 = true then (some (bt238.1.toList == x9_2.toList)) else (none))) else (none)) else (none)) = some r := by first | (rw [hji21] at H; exact H) | (simp only [hji21] at H ⊢; exact H)
              have hji21w : (IntKind.i64.wrap (64 * a3)) = ji21 := (i64_w _).trans hji21
              by_cases c22 : 0 ≤ (ji21)
              · rw [if_pos c22] at H
                have c22b0 := eq_true c22
                have c22b1 : decide (0 ≤ (ji21)) = true := decide_eq_true c22
                clear c22
                by_cases c23 : (ji21 : Int).toNat ≤ 281474976710656
                · rw [if_pos c23] at H
                  have c23b0 := eq_true c23
                  have c23b1 : decide ((ji21 : Int).toNat ≤ 281474976710656) = true := decide_eq_true c23
                  clear c23
                  obtain ⟨y235, hy235⟩ : ∃ y_ : List Int, y_ = (List.replicate (ji21 : Int).toNat 0) := ⟨_, rfl⟩
                  replace H : ((stream_Xor.f k2 t231 a2 t232 (strOfNums y235)).bind fun bt238 => (if bt238.2 = true then (some (bt238.1.toList == x9_2.toList)) else (none))) = some r := by first | (rw [hy235]; with_reducible exact H) | (have H2_ := (Option.bind_some _ _).symm.trans H; rw [hy235]; with_reducible exact H2_) | (have H2_ := (Option.bind_some _ _).symm.trans H; with_reducible exact H2_) | with_reducible exact H | (rw [hy235]; exact H) | exact H
                  have Ny235 := Aside0.mk hy235
                  clear hy235
                  replace H := Option.bind_eq_some_iff.mp H
                  obtain ⟨⟨t238, t239⟩, A240, H⟩ := H
                  replace H : (if t239 = true then (some (t238.toList == x9_2.toList)) else (none)) = some r := H
                  have A24 := Aside0.mk A240
                  clear A240
                  by_cases c25 : t239 = true
                  · subst c25
                    have H1 : (some (t238.toList == x9_2.toList)) = some r := by rw [if_pos rfl] at H; exact H
                    clear H
                    have H := H1
                    clear H1
                    obtain rfl := Option.some.inj H
                    go_wp2_with (first | ((with_reducible refine gate_dst (N := 61) rfl ?_); (try (refine gate_guard (by rfl) ?_; dsimp only)); refine Kd.R_make (Kd.int .u8) _ 5 rfl (N := 61) rfl 35 _ _ rfl ji21 rfl rfl Try.underlying35 (.int .u8 0) 1 info5 rfl (by decide) (by omega) 0 (ok := fun _ => True) (okp := fun _ => True) rfl (fun _ hk => hk) trivial (of_decide_eq_true (by first | (with_reducible assumption) | assumption)) (Nat.le_trans (Nat.mul_le_mul_right _ (of_decide_eq_true (by first | (with_reducible assumption) | assumption) : ji21.toNat ≤ 281474976710656)) (by omega)) (Below.refl _ _) (Nat.le_refl _) ?_; intro v236 w26 ho27 hb hg_ hnew_; clear hg_ hnew_; (first | rw [← Ny235.out] at ho27 | (simp only [Int.reduceToNat] at ho27; rw [← Ny235.out] at ho27)); have n0_ := Aside0.mk (Kd.R_lower ho27 (below_size (by repeat (first | (with_reducible first | exact HB.out | apply below_alloc | apply pw_below_drewN | apply below_drew1) | exact HB.out)))); have n1_ := Aside0.mk (below_step (by repeat (first | (with_reducible first | exact HB.out | apply below_alloc | apply pw_below_drewN | apply below_drew1) | exact HB.out)) hb); clear HB; have HO237 := n0_; have HB := n1_; clear n0_ n1_; clear hb ho27; have hcv28 := own_string (P := Try.prog) Try.underlying35 Try.underlying5 Try.underlying9 (Kd.own_of_R HO237.out)) | ((with_reducible refine gate_callee (f := 14) rfl ?_); refine goesL_ (some 63) rfl rfl Try.func14 (by kernel_rfl) rfl #[.string t231, .int .u32 a2, .string t232, .string (strOfNums y235)] rfl (by (try simp only [List.map_toArray, List.map_cons, List.map_nil]); first | done | rfl | (simp only [List.length_drop, List.length_take]; rfl)) ?_; (with_reducible refine (stream_Xor.calls k2 t231 a2 t232 (strOfNums y235) t238 true _ A24.out).mono ?_); rintro e w29 ⟨rfl, hb⟩; refine ⟨_, rfl, ?_⟩; have n0_ := Aside0.mk (Kd.R_below (by (with_reducible repeat (first | apply Kd.R_alloc | apply Kd.R_drewN | apply Kd.R_drew)); exact HO237.out) hb); have n1_ := Aside0.mk (below_step (by repeat (first | (with_reducible first | exact HB.out | apply below_alloc | apply pw_below_drewN | apply below_drew1) | exact HB.out)) hb); clear HO237; clear HB; have HO237 := n0_; have HB := n1_; clear n0_ n1_; (try clear hb); (try clear hb2); (try clear hk); (try clear hi)))
                    go_ret
                    exact ⟨by first | rfl | (simp [errW_none, errW_some] <;> rfl) | (simp only [← hji21]; first | rfl | (simp [errW_none, errW_some] <;> rfl)) | (simp [*, errW_none, errW_some] <;> rfl), by repeat (first | (with_reducible first | exact HB.out | apply below_alloc | apply pw_below_drewN | apply below_drew1) | exact HB.out)⟩
                  · replace c25 := Bool.eq_false_iff.mpr c25
                    subst c25
                    have H1 : (none) = some r := by rw [if_neg (show ¬ (false = true) by decide)] at H; exact H
                    clear H
                    have H := H1
                    clear H1
                    exact absurd H (by simp)
                · rw [if_neg c23] at H
                  exact absurd H (by simp)
              · rw [if_neg c22] at H
                exact absurd H (by simp)

/-- THE ONE PURE STATEMENT of escutcheonlaw5_StreamCounts: yours. -/
def escutcheonlaw5_StreamCounts.Pure : Prop := ∀ (a0 : ByteArray) (a1 : ByteArray) (a2 : Int) (a3 : Int), a0.size ≤ 140737488351232 → a1.size ≤ 140737488351232 → (Lit.int .u32 a2).wf = true → (Lit.int .i64 a3).wf = true → ∃ k, escutcheonlaw5_StreamCounts.f k a0 a1 a2 a3 = some true
theorem escutcheonlaw5_StreamCounts.walk (P : escutcheonlaw5_StreamCounts.Pure) (a0 : ByteArray) (a1 : ByteArray) (a2 : Int) (a3 : Int) (w : World) (w0 : a0.size ≤ 140737488351232) (w1 : a1.size ≤ 140737488351232) (w2 : (Lit.int .u32 a2).wf = true) (w3 : (Lit.int .i64 a3).wf = true) :
    Calls Try.prog 5 #[.string a0, .string a1, .int .u32 a2, .int .i64 a3] w fun e w' => e = .returned (.bool true) ∧ Below w.heap.size w w' := by
  obtain ⟨k, h⟩ := P a0 a1 a2 a3 w0 w1 w2 w3
  refine (escutcheonlaw5_StreamCounts.calls k a0 a1 a2 a3 true w h).mono ?_
  rintro e w' ⟨rfl, hd⟩
  exact ⟨rfl, hd⟩

end Go.Proofs.Ytdnlenhkagfiaaa.P
