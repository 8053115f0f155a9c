-- Written by wip/inj.py (the kit's print, with contracts typed by hand beside it).
import Derived.Test.YtagoibmemonkaaaPx0
import Derived.Test.YtagoibmemonkaaaPx3
import Derived.Test.YtagoibmemonkaaaPx5
import Derived.Test.YtagoibmemonkaaaPx12
namespace Go.Proofs.Ytagoibmemonkaaa.P
open Go.RowKit Go.Proofs.YtagoibmemonkaaaW.PrintWords Go.Proofs.YtagoibmemonkaaaW.PrintLast Go.Proofs.YtagoibmemonkaaaW.PrintMore
attribute [local go_sem] max2_int min2_int max_two min_two max_three min_three max_four min_four   -- for this text's walks alone
set_option linter.unusedVariables false
set_option linter.unusedSimpArgs false

/-! ### escutcheonlaw6_OnetimeOne: function 8 -/
def escutcheonlaw6_OnetimeOne.f (k : Nat) (a0 : ByteArray) (a1 : ByteArray) : Option (Bool) := (escutcheonlaw6_alive.f k).bind fun t257 => (if t257 = true then ((escutcheonlaw5_Fill.f k a0 16).bind fun t258 => ((escutcheonlaw5_Fill.f k a1 16).bind fun t259 => (if 15 ≤ 281474976710656 then ((some (List.replicate 15 0 : List Int)).bind fun y260 => (if 1 + (strOfNums y260).size ≤ 9223372036854775807 then (if ((⟨#[1]⟩ : ByteArray) ++ (strOfNums y260)).size + t258.size ≤ 9223372036854775807 then ((onetime_Tag.f k (((⟨#[1]⟩ : ByteArray) ++ (strOfNums y260)) ++ t258) t259).bind fun bt263 => (if bt263.2 = true then ((escutcheonlaw6_sum.f k t259 t258).bind fun t265 => (some (bt263.1.toList == t265.toList))) else (none))) else (none)) else (none))) else (none)))) else (none))
theorem escutcheonlaw6_OnetimeOne.mono : ∀ a0 a1 k, LeO (escutcheonlaw6_OnetimeOne.f k a0 a1) (escutcheonlaw6_OnetimeOne.f (k + 1) a0 a1) := by
  intro a0 a1 k
  unfold escutcheonlaw6_OnetimeOne.f
  repeat' first
      | (with_reducible exact escutcheonlaw5_Fill.mono _ _ _)
      | (with_reducible exact escutcheonlaw6_alive.mono _)
      | (with_reducible exact escutcheonlaw6_sum.mono _ _ _)
      | (with_reducible exact onetime_Tag.mono _ _ _)
      | (with_reducible exact LeO.refl _)
      | (with_reducible exact LeO.none _)
      | (with_reducible refine LeO.ite ?_ ?_)
      | (with_reducible refine LeO.bind ?_ (fun _ => ?_))
      | exact escutcheonlaw5_Fill.mono _ _ _
      | exact escutcheonlaw6_alive.mono _
      | exact escutcheonlaw6_sum.mono _ _ _
      | exact onetime_Tag.mono _ _ _
      | exact LeO.none _
      | refine LeO.ite ?_ ?_
      | refine LeO.bind ?_ (fun _ => ?_)
set_option maxHeartbeats 8000000 in
set_option maxRecDepth 100000 in
theorem escutcheonlaw6_OnetimeOne.calls (k : Nat) (a0 : ByteArray) (a1 : ByteArray) (r : Bool) (w : World) (h : escutcheonlaw6_OnetimeOne.f k a0 a1 = some r) :
    Calls Try.prog 8 #[.string a0, .string a1] w fun e w' => e = .returned (.bool r) ∧ Below w.heap.size w w' := by
  have HB := Aside0.mk (Below.refl w.heap.size w)
  have H : ((escutcheonlaw6_alive.f k).bind fun t257 => (if t257 = true then ((escutcheonlaw5_Fill.f k a0 16).bind fun t258 => ((escutcheonlaw5_Fill.f k a1 16).bind fun t259 => (if 15 ≤ 281474976710656 then ((some (List.replicate 15 0 : List Int)).bind fun y260 => (if 1 + (strOfNums y260).size ≤ 9223372036854775807 then (if ((⟨#[1]⟩ : ByteArray) ++ (strOfNums y260)).size + t258.size ≤ 9223372036854775807 then ((onetime_Tag.f k (((⟨#[1]⟩ : ByteArray) ++ (strOfNums y260)) ++ t258) t259).bind fun bt263 => (if bt263.2 = true then ((escutcheonlaw6_sum.f k t259 t258).bind fun t265 => (some (bt263.1.toList == t265.toList))) else (none))) else (none)) else (none))) else (none)))) else (none))) = some r := h
  clear h
  replace H := Option.bind_eq_some_iff.mp H
  obtain ⟨t257, A30, H⟩ := H
  replace H : (if t257 = true then ((escutcheonlaw5_Fill.f k a0 16).bind fun t258 => ((escutcheonlaw5_Fill.f k a1 16).bind fun t259 => (if 15 ≤ 281474976710656 then ((some (List.replicate 15 0 : List Int)).bind fun y260 => (if 1 + (strOfNums y260).size ≤ 9223372036854775807 then (if ((⟨#[1]⟩ : ByteArray) ++ (strOfNums y260)).size + t258.size ≤ 9223372036854775807 then ((onetime_Tag.f k (((⟨#[1]⟩ : ByteArray) ++ (strOfNums y260)) ++ t258) t259).bind fun bt263 => (if bt263.2 = true then ((escutcheonlaw6_sum.f k t259 t258).bind fun t265 => (some (bt263.1.toList == t265.toList))) else (none))) else (none)) else (none))) else (none)))) else (none)) = some r := H
  have A3 := Aside0.mk A30
  clear A30
  by_cases c4 : t257 = true
  · subst c4
    have H1 : ((escutcheonlaw5_Fill.f k a0 16).bind fun t258 => ((escutcheonlaw5_Fill.f k a1 16).bind fun t259 => (if 15 ≤ 281474976710656 then ((some (List.replicate 15 0 : List Int)).bind fun y260 => (if 1 + (strOfNums y260).size ≤ 9223372036854775807 then (if ((⟨#[1]⟩ : ByteArray) ++ (strOfNums y260)).size + t258.size ≤ 9223372036854775807 then ((onetime_Tag.f k (((⟨#[1]⟩ : ByteArray) ++ (strOfNums y260)) ++ t258) t259).bind fun bt263 => (if bt263.2 = true then ((escutcheonlaw6_sum.f k t259 t258).bind fun t265 => (some (bt263.1.toList == t265.toList))) else (none))) else (none)) else (none))) else (none)))) = some r := by rw [if_pos rfl] at H; exact H
    clear H
    have H := H1
    clear H1
    replace H := Option.bind_eq_some_iff.mp H
    obtain ⟨t258, A50, H⟩ := H
    replace H : ((escutcheonlaw5_Fill.f k a1 16).bind fun t259 => (if 15 ≤ 281474976710656 then ((some (List.replicate 15 0 : List Int)).bind fun y260 => (if 1 + (strOfNums y260).size ≤ 9223372036854775807 then (if ((⟨#[1]⟩ : ByteArray) ++ (strOfNums y260)).size + t258.size ≤ 9223372036854775807 then ((onetime_Tag.f k (((⟨#[1]⟩ : ByteArray) ++ (strOfNums y260)) ++ t258) t259).bind fun bt263 => (if bt263.2 = true then ((escutcheonlaw6_sum.f k t259 t258).bind fun t265 => (some (bt263.1.toList == t265.toList))) else (none))) else (none)) else (none))) else (none))) = some r := H
    have A5 := Aside0.mk A50
    clear A50
    replace H := Option.bind_eq_some_iff.mp H
    obtain ⟨t259, A60, H⟩ := H
    replace H : (if 15 ≤ 281474976710656 then ((some (List.replicate 15 0 : List Int)).bind fun y260 => (if 1 + (strOfNums y260).size ≤ 9223372036854775807 then (if ((⟨#[1]⟩ : ByteArray) ++ (strOfNums y260)).size + t258.size ≤ 9223372036854775807 then ((onetime_Tag.f k (((⟨#[1]⟩ : ByteArray) ++ (strOfNums y260)) ++ t258) t259).bind fun bt263 => (if bt263.2 = true then ((escutcheonlaw6_sum.f k t259 t258).bind fun t265 => (some (bt263.1.toList == t265.toList))) else (none))) else (none)) else (none))) else (none)) = some r := H
    have A6 := Aside0.mk A60
    clear A60
    by_cases c7 : 15 ≤ 281474976710656
    · rw [if_pos c7] at H
      have c7b0 := eq_true c7
      have c7b1 : decide (15 ≤ 281474976710656) = true := decide_eq_true c7
      clear c7
      obtain ⟨y260, hy260⟩ : ∃ y_ : List Int, y_ = (List.replicate 15 0) := ⟨_, rfl⟩
      replace H : (if 1 + (strOfNums y260).size ≤ 9223372036854775807 then (if ((⟨#[1]⟩ : ByteArray) ++ (strOfNums y260)).size + t258.size ≤ 9223372036854775807 then ((onetime_Tag.f k (((⟨#[1]⟩ : ByteArray) ++ (strOfNums y260)) ++ t258) t259).bind fun bt263 => (if bt263.2 = true then ((escutcheonlaw6_sum.f k t259 t258).bind fun t265 => (some (bt263.1.toList == t265.toList))) else (none))) else (none)) else (none)) = some r := by first | (rw [hy260]; with_reducible exact H) | (have H2_ := (Option.bind_some _ _).symm.trans H; rw [hy260]; with_reducible exact H2_) | (have H2_ := (Option.bind_some _ _).symm.trans H; with_reducible exact H2_) | with_reducible exact H | (rw [hy260]; exact H) | exact H
      have Ny260 := Aside0.mk hy260
      clear hy260
      by_cases c8 : 1 + (strOfNums y260).size ≤ 9223372036854775807
      · rw [if_pos c8] at H
        have c8b0 := eq_true c8
        have c8b1 : decide (1 + (strOfNums y260).size ≤ 9223372036854775807) = true := decide_eq_true c8
        try have c8b2 : (9223372036854775807 < 1 + (strOfNums y260).size) = False := eq_false (Nat.not_lt.2 c8)
        by_cases c9 : ((⟨#[1]⟩ : ByteArray) ++ (strOfNums y260)).size + t258.size ≤ 9223372036854775807
        · rw [if_pos c9] at H
          have c9b0 := eq_true c9
          have c9b1 : decide (((⟨#[1]⟩ : ByteArray) ++ (strOfNums y260)).size + t258.size ≤ 9223372036854775807) = true := decide_eq_true c9
          try have c9b2 : (9223372036854775807 < ((⟨#[1]⟩ : ByteArray) ++ (strOfNums y260)).size + t258.size) = False := eq_false (Nat.not_lt.2 c9)
          replace H := Option.bind_eq_some_iff.mp H
          obtain ⟨⟨t263, t264⟩, A100, H⟩ := H
          replace H : (if t264 = true then ((escutcheonlaw6_sum.f k t259 t258).bind fun t265 => (some (t263.toList == t265.toList))) else (none)) = some r := H
          have A10 := Aside0.mk A100
          clear A100
          by_cases c11 : t264 = true
          · subst c11
            have H1 : ((escutcheonlaw6_sum.f k t259 t258).bind fun t265 => (some (t263.toList == t265.toList))) = some r := by rw [if_pos rfl] at H; exact H
            clear H
            have H := H1
            clear H1
            replace H := Option.bind_eq_some_iff.mp H
            obtain ⟨t265, A120, H⟩ := H
            replace H : (some (t263.toList == t265.toList)) = some r := H
            have A12 := Aside0.mk A120
            clear A120
            obtain rfl := Option.some.inj H
            go_enter Try.func8, Try.ntmps8
            go_wp2_with (first | ((with_reducible refine gate_callee (f := 9) rfl ?_); refine goesL_ (some 7) rfl rfl Try.func9 (by kernel_rfl) rfl #[] rfl (by (try simp only [List.map_toArray, List.map_cons, List.map_nil]); first | done | rfl | (simp only [List.length_drop, List.length_take]; rfl)) ?_; (with_reducible refine (escutcheonlaw6_alive.calls k  true _ A3.out).mono ?_); rintro e w13 ⟨rfl, hb⟩; refine ⟨_, rfl, ?_⟩; have n0_ := Aside0.mk (below_step (by repeat (first | (with_reducible first | exact HB.out | apply below_alloc | apply pw_below_drewN | apply below_drew1) | exact HB.out)) hb); clear HB; have HB := n0_; clear n0_; (try clear hb); (try clear hb2); (try clear hk); (try clear hi)) | ((with_reducible refine gate_callee (f := 10) rfl ?_); refine goesL_ (some 10) rfl rfl Try.func10 (by kernel_rfl) rfl #[.string a0, .int .i64 16] rfl (by (try simp only [List.map_toArray, List.map_cons, List.map_nil]); first | done | rfl | (simp only [List.length_drop, List.length_take]; rfl)) ?_; (with_reducible refine (escutcheonlaw5_Fill.calls k a0 16 t258 _ A5.out).mono ?_); rintro e w' ⟨rfl, ⟨nd, rfl⟩⟩; refine ⟨_, rfl, ?_⟩) | ((with_reducible refine gate_callee (f := 10) rfl ?_); refine goesL_ (some 12) rfl rfl Try.func10 (by kernel_rfl) rfl #[.string a1, .int .i64 16] rfl (by (try simp only [List.map_toArray, List.map_cons, List.map_nil]); first | done | rfl | (simp only [List.length_drop, List.length_take]; rfl)) ?_; (with_reducible refine (escutcheonlaw5_Fill.calls k a1 16 t259 _ A6.out).mono ?_); rintro e w' ⟨rfl, ⟨nd, rfl⟩⟩; refine ⟨_, rfl, ?_⟩) | ((with_reducible refine gate_dst (N := 14) rfl ?_); refine Kd.R_make (Kd.int .u8) _ 5 rfl (N := 14) rfl 30 _ _ rfl 15 rfl rfl Try.underlying30 (.int .u8 0) 1 info5 rfl (by decide) (by omega) 0 (ok := fun _ => True) (okp := fun _ => True) rfl (fun _ hk => hk) trivial (by omega) (by omega) (Below.refl _ _) (Nat.le_refl _) ?_; intro v261 w14 ho15 hb hg_ hnew_; clear hg_ hnew_; (first | rw [← Ny260.out] at ho15 | (simp only [Int.reduceToNat] at ho15; rw [← Ny260.out] at ho15)); have n0_ := Aside0.mk (Kd.R_lower ho15 (below_size (by repeat (first | (with_reducible first | exact HB.out | apply below_alloc | apply pw_below_drewN | apply below_drew1) | exact HB.out)))); have n1_ := Aside0.mk (below_step (by repeat (first | (with_reducible first | exact HB.out | apply below_alloc | apply pw_below_drewN | apply below_drew1) | exact HB.out)) hb); clear HB; have HO262 := n0_; have HB := n1_; clear n0_ n1_; clear hb ho15; have hcv16 := own_string (P := Try.prog) Try.underlying30 Try.underlying5 Try.underlying9 (Kd.own_of_R HO262.out)) | ((with_reducible refine gate_callee (f := 11) rfl ?_); refine goesL_ (some 20) rfl rfl Try.func11 (by kernel_rfl) rfl #[.string (((⟨#[1]⟩ : ByteArray) ++ (strOfNums y260)) ++ t258), .string t259] rfl (by (try simp only [List.map_toArray, List.map_cons, List.map_nil]); first | done | rfl | (simp only [List.length_drop, List.length_take]; rfl)) ?_; (with_reducible refine (onetime_Tag.calls k (((⟨#[1]⟩ : ByteArray) ++ (strOfNums y260)) ++ t258) t259 t263 true _ A10.out).mono ?_); rintro e w17 ⟨rfl, hb⟩; refine ⟨_, rfl, ?_⟩; have n0_ := Aside0.mk (Kd.R_below (by (with_reducible repeat (first | apply Kd.R_alloc | apply Kd.R_drewN | apply Kd.R_drew)); exact HO262.out) hb); have n1_ := Aside0.mk (below_step (by repeat (first | (with_reducible first | exact HB.out | apply below_alloc | apply pw_below_drewN | apply below_drew1) | exact HB.out)) hb); clear HO262; clear HB; have HO262 := n0_; have HB := n1_; clear n0_ n1_; (try clear hb); (try clear hb2); (try clear hk); (try clear hi)) | (go_at_call 15; (with_reducible refine (escutcheonlaw6_sum.calls k t259 t258 t265 _ A12.out).mono ?_); rintro e w18 ⟨rfl, hb⟩; have n0_ := Aside0.mk (Kd.R_below (by (with_reducible repeat (first | apply Kd.R_alloc | apply Kd.R_drewN | apply Kd.R_drew)); exact HO262.out) hb); have n1_ := Aside0.mk (below_step (by repeat (first | (with_reducible first | exact HB.out | apply below_alloc | apply pw_below_drewN | apply below_drew1) | exact HB.out)) hb); clear HO262; clear HB; have HO262 := n0_; have HB := n1_; clear n0_ n1_; (try clear hb); (try clear hb2); (try clear hk); (try clear hi)) | (go_at_call 9; (with_reducible refine (escutcheonlaw6_alive.calls k  true _ A3.out).mono ?_); rintro e w13 ⟨rfl, hb⟩; have n0_ := Aside0.mk (below_step (by repeat (first | (with_reducible first | exact HB.out | apply below_alloc | apply pw_below_drewN | apply below_drew1) | exact HB.out)) hb); clear HB; have HB := n0_; clear n0_; (try clear hb); (try clear hb2); (try clear hk); (try clear hi)) | (go_at_call 10; (with_reducible refine (escutcheonlaw5_Fill.calls k a0 16 t258 _ A5.out).mono ?_); rintro e w' ⟨rfl, ⟨nd, rfl⟩⟩) | (go_at_call 10; (with_reducible refine (escutcheonlaw5_Fill.calls k a1 16 t259 _ A6.out).mono ?_); rintro e w' ⟨rfl, ⟨nd, rfl⟩⟩) | (go_at_call 11; (with_reducible refine (onetime_Tag.calls k (((⟨#[1]⟩ : ByteArray) ++ (strOfNums y260)) ++ t258) t259 t263 true _ A10.out).mono ?_); rintro e w17 ⟨rfl, hb⟩; have n0_ := Aside0.mk (Kd.R_below (by (with_reducible repeat (first | apply Kd.R_alloc | apply Kd.R_drewN | apply Kd.R_drew)); exact HO262.out) hb); have n1_ := Aside0.mk (below_step (by repeat (first | (with_reducible first | exact HB.out | apply below_alloc | apply pw_below_drewN | apply below_drew1) | exact HB.out)) hb); clear HO262; clear HB; have HO262 := n0_; have HB := n1_; clear n0_ n1_; (try clear hb); (try clear hb2); (try clear hk); (try clear hi)))
            go_ret
            exact ⟨by first | rfl | (simp [errW_none, errW_some] <;> rfl) | (simp [*, errW_none, errW_some] <;> rfl), by repeat (first | (with_reducible first | exact HB.out | apply below_alloc | apply pw_below_drewN | apply below_drew1) | exact HB.out)⟩
          · replace c11 := Bool.eq_false_iff.mpr c11
            subst c11
            have H1 : (none) = some r := by rw [if_neg (show ¬ (false = true) by decide)] at H; exact H
            clear H
            have H := H1
            clear H1
            exact absurd H (by simp)
        · rw [if_neg c9] at H
          exact absurd H (by simp)
      · rw [if_neg c8] at H
        exact absurd H (by simp)
    · rw [if_neg c7] at H
      exact absurd H (by simp)
  · replace c4 := Bool.eq_false_iff.mpr c4
    subst c4
    have H1 : (none) = some r := by rw [if_neg (show ¬ (false = true) by decide)] at H; exact H
    clear H
    have H := H1
    clear H1
    exact absurd H (by simp)

/-- THE ONE PURE STATEMENT of escutcheonlaw6_OnetimeOne: yours. -/
def escutcheonlaw6_OnetimeOne.Pure : Prop := ∀ (a0 : ByteArray) (a1 : ByteArray), a0.size ≤ 140737488351232 → a1.size ≤ 140737488351232 → ∃ k, escutcheonlaw6_OnetimeOne.f k a0 a1 = some true
theorem escutcheonlaw6_OnetimeOne.walk (P : escutcheonlaw6_OnetimeOne.Pure) (a0 : ByteArray) (a1 : ByteArray) (w : World) (w0 : a0.size ≤ 140737488351232) (w1 : a1.size ≤ 140737488351232) :
    Calls Try.prog 8 #[.string a0, .string a1] w fun e w' => e = .returned (.bool true) ∧ Below w.heap.size w w' := by
  obtain ⟨k, h⟩ := P a0 a1 w0 w1
  refine (escutcheonlaw6_OnetimeOne.calls k a0 a1 true w h).mono ?_
  rintro e w' ⟨rfl, hd⟩
  exact ⟨rfl, hd⟩

end Go.Proofs.Ytagoibmemonkaaa.P
