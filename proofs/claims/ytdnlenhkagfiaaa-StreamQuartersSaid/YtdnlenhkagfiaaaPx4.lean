-- Written by wip/inj.py (the kit's print, with contracts typed by hand beside it).
import Derived.Test.YtdnlenhkagfiaaaPx0
import Derived.Test.YtdnlenhkagfiaaaPx1
import Derived.Test.YtdnlenhkagfiaaaPx3
namespace Go.Proofs.Ytdnlenhkagfiaaa.P
open Go.RowKit Go.Proofs.YtdnlenhkagfiaaaW.PrintWords Go.Proofs.YtdnlenhkagfiaaaW.PrintLast Go.Proofs.YtdnlenhkagfiaaaW.PrintMore
attribute [local go_sem] max2_int min2_int max_two min_two max_three min_three max_four min_four   -- for this text's walks alone
set_option linter.unusedVariables false
set_option linter.unusedSimpArgs false

/-! ### stream_Block: function 13 -/
def stream_Block.f (k : Nat) (a0 : ByteArray) (a1 : Int) (a2 : ByteArray) : Option (ByteArray × Bool) := (stream_right.f a0 a2).bind fun t110 => (if t110 = true then ((stream_block.f k a0 a1 a2).bind fun t111 => (some (t111, true))) else (some ((⟨#[]⟩ : ByteArray), false)))
theorem stream_Block.mono : ∀ a0 a1 a2 k, LeO (stream_Block.f k a0 a1 a2) (stream_Block.f (k + 1) a0 a1 a2) := by
  intro a0 a1 a2 k
  unfold stream_Block.f
  repeat' first
      | (with_reducible exact stream_block.mono _ _ _ _)
      | (with_reducible exact LeO.refl _)
      | (with_reducible exact LeO.none _)
      | (with_reducible refine LeO.ite ?_ ?_)
      | (with_reducible refine LeO.bind ?_ (fun _ => ?_))
      | exact stream_block.mono _ _ _ _
      | exact LeO.none _
      | refine LeO.ite ?_ ?_
      | refine LeO.bind ?_ (fun _ => ?_)
set_option maxHeartbeats 8000000 in
set_option maxRecDepth 100000 in
theorem stream_Block.calls (k : Nat) (a0 : ByteArray) (a1 : Int) (a2 : ByteArray) (r1 : ByteArray) (r2 : Bool) (w : World) (h : stream_Block.f k a0 a1 a2 = some (r1, r2)) :
    Calls Try.prog 13 #[.string a0, .int .u32 a1, .string a2] w fun e w' => e = .returned (.tuple #[.string r1, .bool r2]) ∧ Below w.heap.size w w' := by
  have HB := Aside0.mk (Below.refl w.heap.size w)
  have H : ((stream_right.f a0 a2).bind fun t110 => (if t110 = true then ((stream_block.f k a0 a1 a2).bind fun t111 => (some (t111, true))) else (some ((⟨#[]⟩ : ByteArray), false)))) = some (r1, r2) := h
  clear h
  replace H := Option.bind_eq_some_iff.mp H
  obtain ⟨t110, A40, H⟩ := H
  replace H : (if t110 = true then ((stream_block.f k a0 a1 a2).bind fun t111 => (some (t111, true))) else (some ((⟨#[]⟩ : ByteArray), false))) = some (r1, r2) := H
  have A4 := Aside0.mk A40
  clear A40
  by_cases c5 : t110 = true
  · subst c5
    have H1 : ((stream_block.f k a0 a1 a2).bind fun t111 => (some (t111, true))) = some (r1, r2) := by rw [if_pos rfl] at H; exact H
    clear H
    have H := H1
    clear H1
    replace H := Option.bind_eq_some_iff.mp H
    obtain ⟨t111, A60, H⟩ := H
    replace H : (some (t111, true)) = some (r1, r2) := H
    have A6 := Aside0.mk A60
    clear A60
    simp only [Option.some.injEq, Prod.mk.injEq] at H
    obtain ⟨rfl, rfl⟩ := H
    go_enter Try.func13, Try.ntmps13
    go_wp2_with (first | ((with_reducible refine gate_callee (f := 19) rfl ?_); refine goesL_ (some 10) rfl rfl Try.func19 (by kernel_rfl) rfl #[.string a0, .string a2] rfl (by (try simp only [List.map_toArray, List.map_cons, List.map_nil]); first | done | rfl | (simp only [List.length_drop, List.length_take]; rfl)) ?_; (with_reducible refine (stream_right.calls a0 a2 true _ A4.out).mono ?_); rintro e w' ⟨rfl, ⟨nd, rfl⟩⟩; refine ⟨_, rfl, ?_⟩) | ((with_reducible refine gate_callee (f := 20) rfl ?_); refine goesL_ (some 15) rfl rfl Try.func20 (by kernel_rfl) rfl #[.string a0, .int .u32 a1, .string a2] rfl (by (try simp only [List.map_toArray, List.map_cons, List.map_nil]); first | done | rfl | (simp only [List.length_drop, List.length_take]; rfl)) ?_; (with_reducible refine (stream_block.calls k a0 a1 a2 t111 _ A6.out).mono ?_); rintro e w7 ⟨rfl, hb⟩; refine ⟨_, rfl, ?_⟩; have n0_ := Aside0.mk (below_step (by repeat (first | (with_reducible first | exact HB.out | apply below_alloc | apply pw_below_drewN | apply below_drew1) | exact HB.out)) hb); clear HB; have HB := n0_; clear n0_; (try clear hb); (try clear hb2); (try clear hk); (try clear hi)))
    go_ret2
    exact ⟨by first | rfl | (simp [errW_none, errW_some] <;> rfl) | (simp [*, errW_none, errW_some] <;> rfl), by repeat (first | (with_reducible first | exact HB.out | apply below_alloc | apply pw_below_drewN | apply below_drew1) | exact HB.out)⟩
  · replace c5 := Bool.eq_false_iff.mpr c5
    subst c5
    have H1 : (some ((⟨#[]⟩ : ByteArray), false)) = some (r1, r2) := by rw [if_neg (show ¬ (false = true) by decide)] at H; exact H
    clear H
    have H := H1
    clear H1
    simp only [Option.some.injEq, Prod.mk.injEq] at H
    obtain ⟨rfl, rfl⟩ := H
    go_enter Try.func13, Try.ntmps13
    go_wp2_with (first | ((with_reducible refine gate_callee (f := 19) rfl ?_); refine goesL_ (some 10) rfl rfl Try.func19 (by kernel_rfl) rfl #[.string a0, .string a2] rfl (by (try simp only [List.map_toArray, List.map_cons, List.map_nil]); first | done | rfl | (simp only [List.length_drop, List.length_take]; rfl)) ?_; (with_reducible refine (stream_right.calls a0 a2 false _ A4.out).mono ?_); rintro e w' ⟨rfl, ⟨nd, rfl⟩⟩; refine ⟨_, rfl, ?_⟩))
    go_ret2
    exact ⟨by first | rfl | (simp [errW_none, errW_some] <;> rfl) | (simp [*, errW_none, errW_some] <;> rfl), by repeat (first | (with_reducible first | exact HB.out | apply below_alloc | apply pw_below_drewN | apply below_drew1) | exact HB.out)⟩

/-! ### escutcheonlaw5_alive: function 8 -/
def escutcheonlaw5_alive.f (k : Nat)  : Option (Bool) := (stream_Quarter.f 286331153 16909060 2609737539 19088743).bind fun bt112 => ((escutcheonlaw5_Fill.f k (⟨#[]⟩ : ByteArray) 32).bind fun t116 => ((escutcheonlaw5_Fill.f k (⟨#[]⟩ : ByteArray) 12).bind fun t117 => ((stream_Block.f k t116 0 t117).bind fun bt118 => (if bt112.1 = 3928658676 then (if bt112.2.1 = 3407673550 then (if bt112.2.2.1 = 1166100270 then (if bt112.2.2.2 = 1484899515 then (if bt118.2 = true then (if (bt118.1.size : Int) = 64 then (if 0 ≤ 4 then (if 4 ≤ (bt118.1.size : Int) then (some ((bt118.1.extract 0 4).toList == ([118, 184, 224, 173] : List UInt8))) else (none)) else (none)) else (none)) else (none)) else (none)) else (none)) else (none)) else (none)))))
theorem escutcheonlaw5_alive.mono : ∀ k, LeO (escutcheonlaw5_alive.f k ) (escutcheonlaw5_alive.f (k + 1) ) := by
  intro  k
  unfold escutcheonlaw5_alive.f
  repeat' first
      | (with_reducible exact escutcheonlaw5_Fill.mono _ _ _)
      | (with_reducible exact stream_Block.mono _ _ _ _)
      | (with_reducible exact LeO.refl _)
      | (with_reducible exact LeO.none _)
      | (with_reducible refine LeO.ite ?_ ?_)
      | (with_reducible refine LeO.bind ?_ (fun _ => ?_))
      | exact escutcheonlaw5_Fill.mono _ _ _
      | exact stream_Block.mono _ _ _ _
      | exact LeO.none _
      | refine LeO.ite ?_ ?_
      | refine LeO.bind ?_ (fun _ => ?_)
set_option maxHeartbeats 8000000 in
set_option maxRecDepth 100000 in
theorem escutcheonlaw5_alive.calls (k : Nat)  (r : Bool) (w : World) (h : escutcheonlaw5_alive.f k  = some r) :
    Calls Try.prog 8 #[] w fun e w' => e = .returned (.bool r) ∧ Below w.heap.size w w' := by
  have HB := Aside0.mk (Below.refl w.heap.size w)
  have H : ((stream_Quarter.f 286331153 16909060 2609737539 19088743).bind fun bt112 => ((escutcheonlaw5_Fill.f k (⟨#[]⟩ : ByteArray) 32).bind fun t116 => ((escutcheonlaw5_Fill.f k (⟨#[]⟩ : ByteArray) 12).bind fun t117 => ((stream_Block.f k t116 0 t117).bind fun bt118 => (if bt112.1 = 3928658676 then (if bt112.2.1 = 3407673550 then (if bt112.2.2.1 = 1166100270 then (if bt112.2.2.2 = 1484899515 then (if bt118.2 = true then (if (bt118.1.size : Int) = 64 then (if 0 ≤ 4 then (if 4 ≤ (bt118.1.size : Int) then (some ((bt118.1.extract 0 4).toList == ([118, 184, 224, 173] : List UInt8))) else (none)) else (none)) else (none)) else (none)) else (none)) else (none)) else (none)) else (none)))))) = some r := h
  clear h
  replace H := Option.bind_eq_some_iff.mp H
  obtain ⟨⟨t112, t113, t114, t115⟩, A10, H⟩ := H
  replace H : ((escutcheonlaw5_Fill.f k (⟨#[]⟩ : ByteArray) 32).bind fun t116 => ((escutcheonlaw5_Fill.f k (⟨#[]⟩ : ByteArray) 12).bind fun t117 => ((stream_Block.f k t116 0 t117).bind fun bt118 => (if t112 = 3928658676 then (if t113 = 3407673550 then (if t114 = 1166100270 then (if t115 = 1484899515 then (if bt118.2 = true then (if (bt118.1.size : Int) = 64 then (if 0 ≤ 4 then (if 4 ≤ (bt118.1.size : Int) then (some ((bt118.1.extract 0 4).toList == ([118, 184, 224, 173] : List UInt8))) else (none)) else (none)) else (none)) else (none)) else (none)) else (none)) else (none)) else (none))))) = some r := H
  have A1 := Aside0.mk A10
  clear A10
  replace H := Option.bind_eq_some_iff.mp H
  obtain ⟨t116, A20, H⟩ := H
  replace H : ((escutcheonlaw5_Fill.f k (⟨#[]⟩ : ByteArray) 12).bind fun t117 => ((stream_Block.f k t116 0 t117).bind fun bt118 => (if t112 = 3928658676 then (if t113 = 3407673550 then (if t114 = 1166100270 then (if t115 = 1484899515 then (if bt118.2 = true then (if (bt118.1.size : Int) = 64 then (if 0 ≤ 4 then (if 4 ≤ (bt118.1.size : Int) then (some ((bt118.1.extract 0 4).toList == ([118, 184, 224, 173] : List UInt8))) else (none)) else (none)) else (none)) else (none)) else (none)) else (none)) else (none)) else (none)))) = some r := H
  have A2 := Aside0.mk A20
  clear A20
  replace H := Option.bind_eq_some_iff.mp H
  obtain ⟨t117, A30, H⟩ := H
  replace H : ((stream_Block.f k t116 0 t117).bind fun bt118 => (if t112 = 3928658676 then (if t113 = 3407673550 then (if t114 = 1166100270 then (if t115 = 1484899515 then (if bt118.2 = true then (if (bt118.1.size : Int) = 64 then (if 0 ≤ 4 then (if 4 ≤ (bt118.1.size : Int) then (some ((bt118.1.extract 0 4).toList == ([118, 184, 224, 173] : List UInt8))) else (none)) else (none)) else (none)) else (none)) else (none)) else (none)) else (none)) else (none))) = some r := H
  have A3 := Aside0.mk A30
  clear A30
  replace H := Option.bind_eq_some_iff.mp H
  obtain ⟨⟨t118, t119⟩, A40, H⟩ := H
  replace H : (if t112 = 3928658676 then (if t113 = 3407673550 then (if t114 = 1166100270 then (if t115 = 1484899515 then (if t119 = true then (if (t118.size : Int) = 64 then (if 0 ≤ 4 then (if 4 ≤ (t118.size : Int) then (some ((t118.extract 0 4).toList == ([118, 184, 224, 173] : List UInt8))) else (none)) else (none)) else (none)) else (none)) else (none)) else (none)) else (none)) else (none)) = some r := H
  have A4 := Aside0.mk A40
  clear A40
  by_cases c5 : t112 = 3928658676
  · rw [if_pos c5] at H
    have c5b0 : (t112 == 3928658676) = true := beq_iff_eq.mpr c5
    have c5b1 : (t112 != 3928658676) = false := bne_eq_false_iff_eq.mpr c5
    clear c5
    by_cases c6 : t113 = 3407673550
    · rw [if_pos c6] at H
      have c6b0 : (t113 == 3407673550) = true := beq_iff_eq.mpr c6
      have c6b1 : (t113 != 3407673550) = false := bne_eq_false_iff_eq.mpr c6
      clear c6
      by_cases c7 : t114 = 1166100270
      · rw [if_pos c7] at H
        have c7b0 : (t114 == 1166100270) = true := beq_iff_eq.mpr c7
        have c7b1 : (t114 != 1166100270) = false := bne_eq_false_iff_eq.mpr c7
        clear c7
        by_cases c8 : t115 = 1484899515
        · rw [if_pos c8] at H
          have c8b0 : (t115 == 1484899515) = true := beq_iff_eq.mpr c8
          have c8b1 : (t115 != 1484899515) = false := bne_eq_false_iff_eq.mpr c8
          clear c8
          by_cases c9 : t119 = true
          · subst c9
            have H1 : (if (t118.size : Int) = 64 then (if 0 ≤ 4 then (if 4 ≤ (t118.size : Int) then (some ((t118.extract 0 4).toList == ([118, 184, 224, 173] : List UInt8))) else (none)) else (none)) else (none)) = some r := by rw [if_pos rfl] at H; exact H
            clear H
            have H := H1
            clear H1
            by_cases c10 : (t118.size : Int) = 64
            · rw [if_pos c10] at H
              have c10b0 : ((t118.size : Int) == 64) = true := beq_iff_eq.mpr c10
              have c10b1 : ((t118.size : Int) != 64) = false := bne_eq_false_iff_eq.mpr c10
              clear c10
              by_cases c11 : 0 ≤ 4
              · rw [if_pos c11] at H
                have c11b0 := eq_true c11
                have c11b1 : decide (0 ≤ 4) = true := decide_eq_true c11
                clear c11
                by_cases c12 : 4 ≤ (t118.size : Int)
                · rw [if_pos c12] at H
                  have c12b0 := eq_true c12
                  have c12b1 : decide (4 ≤ (t118.size : Int)) = true := decide_eq_true c12
                  clear c12
                  obtain rfl := Option.some.inj H
                  go_enter Try.func8, Try.ntmps8
                  go_wp2_with (first | ((with_reducible refine gate_callee (f := 9) rfl ?_); refine goesL_ (some 8) rfl rfl Try.func9 (by kernel_rfl) rfl #[.int .u32 286331153, .int .u32 16909060, .int .u32 2609737539, .int .u32 19088743] rfl (by (try simp only [List.map_toArray, List.map_cons, List.map_nil]); first | done | rfl | (simp only [List.length_drop, List.length_take]; rfl)) ?_; (with_reducible refine (stream_Quarter.calls 286331153 16909060 2609737539 19088743 t112 t113 t114 t115 _ A1.out).mono ?_); rintro e w' ⟨rfl, ⟨nd, rfl⟩⟩; refine ⟨_, rfl, ?_⟩) | ((with_reducible refine gate_callee (f := 11) rfl ?_); refine goesL_ (some 14) rfl rfl Try.func11 (by kernel_rfl) rfl #[.string (⟨#[]⟩ : ByteArray), .int .i64 32] rfl (by (try simp only [List.map_toArray, List.map_cons, List.map_nil]); first | done | rfl | (simp only [List.length_drop, List.length_take]; rfl)) ?_; (with_reducible refine (escutcheonlaw5_Fill.calls k (⟨#[]⟩ : ByteArray) 32 t116 _ A2.out).mono ?_); rintro e w' ⟨rfl, ⟨nd, rfl⟩⟩; refine ⟨_, rfl, ?_⟩) | ((with_reducible refine gate_callee (f := 11) rfl ?_); refine goesL_ (some 15) rfl rfl Try.func11 (by kernel_rfl) rfl #[.string (⟨#[]⟩ : ByteArray), .int .i64 12] rfl (by (try simp only [List.map_toArray, List.map_cons, List.map_nil]); first | done | rfl | (simp only [List.length_drop, List.length_take]; rfl)) ?_; (with_reducible refine (escutcheonlaw5_Fill.calls k (⟨#[]⟩ : ByteArray) 12 t117 _ A3.out).mono ?_); rintro e w' ⟨rfl, ⟨nd, rfl⟩⟩; refine ⟨_, rfl, ?_⟩) | ((with_reducible refine gate_callee (f := 13) rfl ?_); refine goesL_ (some 16) rfl rfl Try.func13 (by kernel_rfl) rfl #[.string t116, .int .u32 0, .string t117] rfl (by (try simp only [List.map_toArray, List.map_cons, List.map_nil]); first | done | rfl | (simp only [List.length_drop, List.length_take]; rfl)) ?_; (with_reducible refine (stream_Block.calls k t116 0 t117 t118 true _ A4.out).mono ?_); rintro e w13 ⟨rfl, hb⟩; refine ⟨_, rfl, ?_⟩; have n0_ := Aside0.mk (below_step (by repeat (first | (with_reducible first | exact HB.out | apply below_alloc | apply pw_below_drewN | apply below_drew1) | exact HB.out)) hb); clear HB; have HB := n0_; clear n0_; (try clear hb); (try clear hb2); (try clear hk); (try clear hi)))
                  go_ret
                  exact ⟨by first | rfl | (simp [errW_none, errW_some] <;> rfl) | (simp [*, errW_none, errW_some] <;> rfl), by repeat (first | (with_reducible first | exact HB.out | apply below_alloc | apply pw_below_drewN | apply below_drew1) | exact HB.out)⟩
                · rw [if_neg c12] at H
                  exact absurd H (by simp)
              · rw [if_neg c11] at H
                exact absurd H (by simp)
            · rw [if_neg c10] at H
              exact absurd H (by simp)
          · replace c9 := Bool.eq_false_iff.mpr c9
            subst c9
            have H1 : (none) = some r := by rw [if_neg (show ¬ (false = true) by decide)] at H; exact H
            clear H
            have H := H1
            clear H1
            exact absurd H (by simp)
        · rw [if_neg c8] at H
          exact absurd H (by simp)
      · rw [if_neg c7] at H
        exact absurd H (by simp)
    · rw [if_neg c6] at H
      exact absurd H (by simp)
  · rw [if_neg c5] at H
    exact absurd H (by simp)

/-! ### escutcheonref1_Left: function 10 -/
def escutcheonref1_Left.f (a0 : Int) (a1 : Int) : Option (Int) := if (IntKind.u64.wrap (Int.tmod (wrap64 ((Int.tmod a1 32) + 32)) 32)) = 0 then (some a0) else (if 0 ≤ (IntKind.u64.wrap (Int.tmod (wrap64 ((Int.tmod a1 32) + 32)) 32)) then (if 0 ≤ (IntKind.u64.wrap (32 - (IntKind.u64.wrap (Int.tmod (wrap64 ((Int.tmod a1 32) + 32)) 32)))) then (some (Go.bits .or .u32 (shl .u32 a0 (IntKind.u64.wrap (Int.tmod (wrap64 ((Int.tmod a1 32) + 32)) 32))) (shr .u32 a0 (IntKind.u64.wrap (32 - (IntKind.u64.wrap (Int.tmod (wrap64 ((Int.tmod a1 32) + 32)) 32))))))) else (none)) else (none))
set_option maxHeartbeats 8000000 in
set_option maxRecDepth 100000 in
theorem escutcheonref1_Left.calls (a0 : Int) (a1 : Int) (r : Int) (w : World) (h : escutcheonref1_Left.f a0 a1 = some r) :
    Calls Try.prog 10 #[.int .u32 a0, .int .i64 a1] w fun e w' => e = .returned (.int .u32 r) ∧ Drawn0 w w' := by
  have H : (if (IntKind.u64.wrap (Int.tmod (wrap64 ((Int.tmod a1 32) + 32)) 32)) = 0 then (some a0) else (if 0 ≤ (IntKind.u64.wrap (Int.tmod (wrap64 ((Int.tmod a1 32) + 32)) 32)) then (if 0 ≤ (IntKind.u64.wrap (32 - (IntKind.u64.wrap (Int.tmod (wrap64 ((Int.tmod a1 32) + 32)) 32)))) then (some (Go.bits .or .u32 (shl .u32 a0 (IntKind.u64.wrap (Int.tmod (wrap64 ((Int.tmod a1 32) + 32)) 32))) (shr .u32 a0 (IntKind.u64.wrap (32 - (IntKind.u64.wrap (Int.tmod (wrap64 ((Int.tmod a1 32) + 32)) 32))))))) else (none)) else (none))) = some r := h
  clear h
  by_cases c3 : (IntKind.u64.wrap (Int.tmod (wrap64 ((Int.tmod a1 32) + 32)) 32)) = 0
  · rw [if_pos c3] at H
    have c3b0 : ((IntKind.u64.wrap (Int.tmod (wrap64 ((Int.tmod a1 32) + 32)) 32)) == 0) = true := beq_iff_eq.mpr c3
    have c3b1 : ((IntKind.u64.wrap (Int.tmod (wrap64 ((Int.tmod a1 32) + 32)) 32)) != 0) = false := bne_eq_false_iff_eq.mpr c3
    clear c3
    obtain rfl := Option.some.inj H
    go_enter Try.func10, Try.ntmps10
    go_wp2
    go_ret
    exact ⟨by first | rfl | (simp; done) | (simp [*]; done), by repeat (first | exact Drawn0.refl _ | apply Drawn0.step)⟩
  · rw [if_neg c3] at H
    have c3b0 : ((IntKind.u64.wrap (Int.tmod (wrap64 ((Int.tmod a1 32) + 32)) 32)) == 0) = false := beq_eq_false_iff_ne.mpr c3
    have c3b1 : ((IntKind.u64.wrap (Int.tmod (wrap64 ((Int.tmod a1 32) + 32)) 32)) != 0) = true := bne_iff_ne.mpr c3
    obtain ⟨ji4, hji4⟩ : ∃ j_ : Int, (IntKind.u64.wrap (Int.tmod (wrap64 ((Int.tmod a1 32) + 32)) 32)) = j_ := ⟨_, rfl⟩
    replace H : (if 0 ≤ (ji4) then (if 0 ≤ (IntKind.u64.wrap (32 - (ji4))) then (some (Go.bits .or .u32 (shl .u32 a0 (ji4)) (shr .u32 a0 (IntKind.u64.wrap (32 - (ji4)))))) else (none)) else (none)) = some r := by first | (rw [hji4] at H; exact H) | (simp only [hji4] at H ⊢; exact H)
    (try rw [hji4] at c3b0)
    (try rw [hji4] at c3b1)
    by_cases c5 : 0 ≤ (ji4)
    · rw [if_pos c5] at H
      have c5b0 := eq_true c5
      have c5b1 : decide (0 ≤ (ji4)) = true := decide_eq_true c5
      clear c5
      obtain ⟨ji6, hji6⟩ : ∃ j_ : Int, (shl .u32 a0 (ji4)) = j_ := ⟨_, rfl⟩
      replace H : (if 0 ≤ (IntKind.u64.wrap (32 - (ji4))) then (some (Go.bits .or .u32 (ji6) (shr .u32 a0 (IntKind.u64.wrap (32 - (ji4)))))) else (none)) = some r := by first | (rw [hji6] at H; exact H) | (simp only [hji6] at H ⊢; exact H)
      have hji6_ : (IntKind.u32.wrap (a0 * 2 ^ min (ji4).toNat 32)) = ji6 := hji6
      have hji6z : (ji4) ≤ 32 → (IntKind.u32.wrap (a0 * 2 ^ (ji4).toNat)) = ji6 := shl_small hji6
      obtain ⟨ji7, hji7⟩ : ∃ j_ : Int, (IntKind.u64.wrap (32 - (ji4))) = j_ := ⟨_, rfl⟩
      replace H : (if 0 ≤ (ji7) then (some (Go.bits .or .u32 (ji6) (shr .u32 a0 (ji7)))) else (none)) = some r := by first | (rw [hji7] at H; exact H) | (simp only [hji7] at H ⊢; exact H)
      by_cases c8 : 0 ≤ (ji7)
      · rw [if_pos c8] at H
        have c8b0 := eq_true c8
        have c8b1 : decide (0 ≤ (ji7)) = true := decide_eq_true c8
        clear c8
        obtain ⟨ji9, hji9⟩ : ∃ j_ : Int, (shr .u32 a0 (ji7)) = j_ := ⟨_, rfl⟩
        replace H : (some (Go.bits .or .u32 (ji6) (ji9))) = some r := by first | (rw [hji9] at H; exact H) | (simp only [hji9] at H ⊢; exact H)
        have hji9_ : (a0 / 2 ^ min (ji7).toNat 32) = ji9 := hji9
        have hji9z : (ji7) ≤ 32 → (a0 / 2 ^ (ji7).toNat) = ji9 := shr_small hji9
        obtain rfl := Option.some.inj H
        go_enter Try.func10, Try.ntmps10
        go_wp2
        go_ret
        exact ⟨by first | rfl | (simp; done) | (simp only [← hji4, ← hji6, ← hji7, ← hji9] <;> (first | rfl | simp)) | (simp [*]; done), by repeat (first | exact Drawn0.refl _ | apply Drawn0.step)⟩
      · rw [if_neg c8] at H
        exact absurd H (by simp)
    · rw [if_neg c5] at H
      exact absurd H (by simp)

/-! ### escutcheonref1_Quarter: function 12 -/
def escutcheonref1_Quarter.f (a0 : Int) (a1 : Int) (a2 : Int) (a3 : Int) : Option (Int × Int × Int × Int) := (escutcheonref1_Left.f (Go.bits .xor .u32 a3 ((a0 + a1) % 4294967296)) 16).bind fun t120 => ((escutcheonref1_Left.f (Go.bits .xor .u32 a1 ((a2 + t120) % 4294967296)) 12).bind fun t121 => ((escutcheonref1_Left.f (Go.bits .xor .u32 t120 ((((a0 + a1) % 4294967296) + t121) % 4294967296)) 8).bind fun t122 => ((escutcheonref1_Left.f (Go.bits .xor .u32 t121 ((((a2 + t120) % 4294967296) + t122) % 4294967296)) 7).bind fun t123 => (some ((((a0 + a1) % 4294967296) + t121) % 4294967296, t123, (((a2 + t120) % 4294967296) + t122) % 4294967296, t122)))))
set_option maxHeartbeats 8000000 in
set_option maxRecDepth 100000 in
theorem escutcheonref1_Quarter.calls (a0 : Int) (a1 : Int) (a2 : Int) (a3 : Int) (r1 : Int) (r2 : Int) (r3 : Int) (r4 : Int) (w : World) (h : escutcheonref1_Quarter.f a0 a1 a2 a3 = some (r1, r2, r3, r4)) :
    Calls Try.prog 12 #[.int .u32 a0, .int .u32 a1, .int .u32 a2, .int .u32 a3] w fun e w' => e = .returned (.tuple #[.int .u32 r1, .int .u32 r2, .int .u32 r3, .int .u32 r4]) ∧ Drawn0 w w' := by
  have H : ((escutcheonref1_Left.f (Go.bits .xor .u32 a3 ((a0 + a1) % 4294967296)) 16).bind fun t120 => ((escutcheonref1_Left.f (Go.bits .xor .u32 a1 ((a2 + t120) % 4294967296)) 12).bind fun t121 => ((escutcheonref1_Left.f (Go.bits .xor .u32 t120 ((((a0 + a1) % 4294967296) + t121) % 4294967296)) 8).bind fun t122 => ((escutcheonref1_Left.f (Go.bits .xor .u32 t121 ((((a2 + t120) % 4294967296) + t122) % 4294967296)) 7).bind fun t123 => (some ((((a0 + a1) % 4294967296) + t121) % 4294967296, t123, (((a2 + t120) % 4294967296) + t122) % 4294967296, t122)))))) = some (r1, r2, r3, r4) := h
  clear h
  replace H := Option.bind_eq_some_iff.mp H
  obtain ⟨t120, A50, H⟩ := H
  replace H : ((escutcheonref1_Left.f (Go.bits .xor .u32 a1 ((a2 + t120) % 4294967296)) 12).bind fun t121 => ((escutcheonref1_Left.f (Go.bits .xor .u32 t120 ((((a0 + a1) % 4294967296) + t121) % 4294967296)) 8).bind fun t122 => ((escutcheonref1_Left.f (Go.bits .xor .u32 t121 ((((a2 + t120) % 4294967296) + t122) % 4294967296)) 7).bind fun t123 => (some ((((a0 + a1) % 4294967296) + t121) % 4294967296, t123, (((a2 + t120) % 4294967296) + t122) % 4294967296, t122))))) = some (r1, r2, r3, r4) := H
  have A5 := Aside0.mk A50
  clear A50
  replace H := Option.bind_eq_some_iff.mp H
  obtain ⟨t121, A60, H⟩ := H
  replace H : ((escutcheonref1_Left.f (Go.bits .xor .u32 t120 ((((a0 + a1) % 4294967296) + t121) % 4294967296)) 8).bind fun t122 => ((escutcheonref1_Left.f (Go.bits .xor .u32 t121 ((((a2 + t120) % 4294967296) + t122) % 4294967296)) 7).bind fun t123 => (some ((((a0 + a1) % 4294967296) + t121) % 4294967296, t123, (((a2 + t120) % 4294967296) + t122) % 4294967296, t122)))) = some (r1, r2, r3, r4) := H
  have A6 := Aside0.mk A60
  clear A60
  replace H := Option.bind_eq_some_iff.mp H
  obtain ⟨t122, A70, H⟩ := H
  replace H : ((escutcheonref1_Left.f (Go.bits .xor .u32 t121 ((((a2 + t120) % 4294967296) + t122) % 4294967296)) 7).bind fun t123 => (some ((((a0 + a1) % 4294967296) + t121) % 4294967296, t123, (((a2 + t120) % 4294967296) + t122) % 4294967296, t122))) = some (r1, r2, r3, r4) := H
  have A7 := Aside0.mk A70
  clear A70
  replace H := Option.bind_eq_some_iff.mp H
  obtain ⟨t123, A80, H⟩ := H
  replace H : (some ((((a0 + a1) % 4294967296) + t121) % 4294967296, t123, (((a2 + t120) % 4294967296) + t122) % 4294967296, t122)) = some (r1, r2, r3, r4) := H
  have A8 := Aside0.mk A80
  clear A80
  simp only [Option.some.injEq, Prod.mk.injEq] at H
  obtain ⟨rfl, rfl, rfl, rfl⟩ := H
  go_enter Try.func12, Try.ntmps12
  go_wp2_with (first | ((with_reducible refine gate_callee (f := 10) rfl ?_); refine goesL_ (some 18) rfl rfl Try.func10 (by kernel_rfl) rfl #[.int .u32 (Go.bits .xor .u32 a3 ((a0 + a1) % 4294967296)), .int .i64 16] rfl (by (try simp only [List.map_toArray, List.map_cons, List.map_nil]); first | done | rfl | (simp only [List.length_drop, List.length_take]; rfl)) ?_; (with_reducible refine (escutcheonref1_Left.calls (Go.bits .xor .u32 a3 ((a0 + a1) % 4294967296)) 16 t120 _ A5.out).mono ?_); rintro e w' ⟨rfl, ⟨nd, rfl⟩⟩; refine ⟨_, rfl, ?_⟩) | ((with_reducible refine gate_callee (f := 10) rfl ?_); refine goesL_ (some 25) rfl rfl Try.func10 (by kernel_rfl) rfl #[.int .u32 (Go.bits .xor .u32 a1 ((a2 + t120) % 4294967296)), .int .i64 12] rfl (by (try simp only [List.map_toArray, List.map_cons, List.map_nil]); first | done | rfl | (simp only [List.length_drop, List.length_take]; rfl)) ?_; (with_reducible refine (escutcheonref1_Left.calls (Go.bits .xor .u32 a1 ((a2 + t120) % 4294967296)) 12 t121 _ A6.out).mono ?_); rintro e w' ⟨rfl, ⟨nd, rfl⟩⟩; refine ⟨_, rfl, ?_⟩) | ((with_reducible refine gate_callee (f := 10) rfl ?_); refine goesL_ (some 32) rfl rfl Try.func10 (by kernel_rfl) rfl #[.int .u32 (Go.bits .xor .u32 t120 ((((a0 + a1) % 4294967296) + t121) % 4294967296)), .int .i64 8] rfl (by (try simp only [List.map_toArray, List.map_cons, List.map_nil]); first | done | rfl | (simp only [List.length_drop, List.length_take]; rfl)) ?_; (with_reducible refine (escutcheonref1_Left.calls (Go.bits .xor .u32 t120 ((((a0 + a1) % 4294967296) + t121) % 4294967296)) 8 t122 _ A7.out).mono ?_); rintro e w' ⟨rfl, ⟨nd, rfl⟩⟩; refine ⟨_, rfl, ?_⟩) | ((with_reducible refine gate_callee (f := 10) rfl ?_); refine goesL_ (some 39) rfl rfl Try.func10 (by kernel_rfl) rfl #[.int .u32 (Go.bits .xor .u32 t121 ((((a2 + t120) % 4294967296) + t122) % 4294967296)), .int .i64 7] rfl (by (try simp only [List.map_toArray, List.map_cons, List.map_nil]); first | done | rfl | (simp only [List.length_drop, List.length_take]; rfl)) ?_; (with_reducible refine (escutcheonref1_Left.calls (Go.bits .xor .u32 t121 ((((a2 + t120) % 4294967296) + t122) % 4294967296)) 7 t123 _ A8.out).mono ?_); rintro e w' ⟨rfl, ⟨nd, rfl⟩⟩; refine ⟨_, rfl, ?_⟩) | ((with_reducible refine gate_callee (f := 10) rfl ?_); refine goesL_ (some 32) rfl rfl Try.func10 (by kernel_rfl) rfl #[.int .u32 (Go.bits .xor .u32 t120 ((a0 + a1 + t121) % 4294967296)), .int .i64 8] rfl (by (try simp only [List.map_toArray, List.map_cons, List.map_nil]); first | done | rfl | (simp only [List.length_drop, List.length_take]; rfl)) ?_; (with_reducible refine (escutcheonref1_Left.calls (Go.bits .xor .u32 t120 ((a0 + a1 + t121) % 4294967296)) 8 t122 _ (by simpa only [Int.emod_add_emod, Int.add_emod_emod] using A7.out)).mono ?_); rintro e w' ⟨rfl, ⟨nd, rfl⟩⟩; refine ⟨_, rfl, ?_⟩) | ((with_reducible refine gate_callee (f := 10) rfl ?_); refine goesL_ (some 39) rfl rfl Try.func10 (by kernel_rfl) rfl #[.int .u32 (Go.bits .xor .u32 t121 ((a2 + t120 + t122) % 4294967296)), .int .i64 7] rfl (by (try simp only [List.map_toArray, List.map_cons, List.map_nil]); first | done | rfl | (simp only [List.length_drop, List.length_take]; rfl)) ?_; (with_reducible refine (escutcheonref1_Left.calls (Go.bits .xor .u32 t121 ((a2 + t120 + t122) % 4294967296)) 7 t123 _ (by simpa only [Int.emod_add_emod, Int.add_emod_emod] using A8.out)).mono ?_); rintro e w' ⟨rfl, ⟨nd, rfl⟩⟩; refine ⟨_, rfl, ?_⟩))
  refine bodyPost_ret (results_list (rs := [.tmp 8, .tmp 9, .tmp 10, .tmp 11]) rfl (by simp) (.tmp (.tmp (.tmp (.tmp .nil))))) rfl ?_
  exact ⟨by first | rfl | (simp; done) | (simp [*]; done), by repeat (first | exact Drawn0.refl _ | apply Drawn0.step)⟩

end Go.Proofs.Ytdnlenhkagfiaaa.P
