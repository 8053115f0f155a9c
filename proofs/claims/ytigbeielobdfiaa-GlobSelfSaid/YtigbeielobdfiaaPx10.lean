-- Written by wip/inj.py (the kit's print, with contracts typed by hand beside it).
import Derived.Test.YtigbeielobdfiaaPx0
import Derived.Test.YtigbeielobdfiaaPx2
import Derived.Test.YtigbeielobdfiaaPx4
namespace Go.Proofs.Ytigbeielobdfiaa.P
open Go.RowKit Go.Proofs.YtigbeielobdfiaaW.PrintWords Go.Proofs.YtigbeielobdfiaaW.PrintLast Go.Proofs.YtigbeielobdfiaaW.PrintMore
attribute [local go_sem] max2_int min2_int max_two min_two max_three min_three max_four min_four   -- for this text's walks alone
set_option linter.unusedVariables false
set_option linter.unusedSimpArgs false

/-! ### escutcheonlaw17_GlobSelf: function 7 -/
mutual
def escutcheonlaw17_GlobSelf.j0 : Nat → ByteArray → Int → ByteArray → Bool → Option (Bool)
  | 0, _, _, _, _ => none
  | k + 1, x0, x1, x2, x20 => if x20 = true then ((escutcheonlaw17_alive.f k).bind fun t193 => (some t193)) else (escutcheonlaw17_GlobSelf.l0 k x0 x1 x2 0)
def escutcheonlaw17_GlobSelf.l0 : Nat → ByteArray → Int → ByteArray → Int → Option (Bool)
  | 0, _, _, _, _ => none
  | k + 1, x0, x1, x2, x7 => if x7 < (x0.size : Int) then (if 0 ≤ x7 then (if (bt x0 x7) = 42 then (some true) else (if (bt x0 x7) = 63 then (some true) else (if (bt x0 x7) = 92 then (some true) else (escutcheonlaw17_GlobSelf.l0 k x0 x1 x2 (wrap64 (x7 + 1)))))) else (none)) else (if (wrap64 ((x0.size : Int) + 1)) = 0 then (none) else ((glob_Match.f k x0 x0).bind fun t194 => (if t194 = true then (if x0.size + 1 ≤ 9223372036854775807 then ((glob_Match.f k x0 (x0 ++ (⟨#[120]⟩ : ByteArray))).bind fun t195 => (if (t195 == false) = true then (if 0 ≤ (Int.tmod (wrap64 ((wrap64 ((Int.tmod x1 (wrap64 ((x0.size : Int) + 1))) + (x0.size : Int))) + 1)) (wrap64 ((x0.size : Int) + 1))) then (if (Int.tmod (wrap64 ((wrap64 ((Int.tmod x1 (wrap64 ((x0.size : Int) + 1))) + (x0.size : Int))) + 1)) (wrap64 ((x0.size : Int) + 1))) ≤ (x0.size : Int) then (if (x0.extract 0 ((Int.tmod (wrap64 ((wrap64 ((Int.tmod x1 (wrap64 ((x0.size : Int) + 1))) + (x0.size : Int))) + 1)) (wrap64 ((x0.size : Int) + 1))) : Int).toNat).size + 1 ≤ 9223372036854775807 then (if ((x0.extract 0 ((Int.tmod (wrap64 ((wrap64 ((Int.tmod x1 (wrap64 ((x0.size : Int) + 1))) + (x0.size : Int))) + 1)) (wrap64 ((x0.size : Int) + 1))) : Int).toNat) ++ (⟨#[42]⟩ : ByteArray)).size + (x0.extract ((Int.tmod (wrap64 ((wrap64 ((Int.tmod x1 (wrap64 ((x0.size : Int) + 1))) + (x0.size : Int))) + 1)) (wrap64 ((x0.size : Int) + 1))) : Int).toNat x0.size).size ≤ 9223372036854775807 then (if (x0.extract 0 ((Int.tmod (wrap64 ((wrap64 ((Int.tmod x1 (wrap64 ((x0.size : Int) + 1))) + (x0.size : Int))) + 1)) (wrap64 ((x0.size : Int) + 1))) : Int).toNat).size + x2.size ≤ 9223372036854775807 then (if ((x0.extract 0 ((Int.tmod (wrap64 ((wrap64 ((Int.tmod x1 (wrap64 ((x0.size : Int) + 1))) + (x0.size : Int))) + 1)) (wrap64 ((x0.size : Int) + 1))) : Int).toNat) ++ x2).size + (x0.extract ((Int.tmod (wrap64 ((wrap64 ((Int.tmod x1 (wrap64 ((x0.size : Int) + 1))) + (x0.size : Int))) + 1)) (wrap64 ((x0.size : Int) + 1))) : Int).toNat x0.size).size ≤ 9223372036854775807 then ((glob_Match.f k (((x0.extract 0 ((Int.tmod (wrap64 ((wrap64 ((Int.tmod x1 (wrap64 ((x0.size : Int) + 1))) + (x0.size : Int))) + 1)) (wrap64 ((x0.size : Int) + 1))) : Int).toNat) ++ (⟨#[42]⟩ : ByteArray)) ++ (x0.extract ((Int.tmod (wrap64 ((wrap64 ((Int.tmod x1 (wrap64 ((x0.size : Int) + 1))) + (x0.size : Int))) + 1)) (wrap64 ((x0.size : Int) + 1))) : Int).toNat x0.size)) (((x0.extract 0 ((Int.tmod (wrap64 ((wrap64 ((Int.tmod x1 (wrap64 ((x0.size : Int) + 1))) + (x0.size : Int))) + 1)) (wrap64 ((x0.size : Int) + 1))) : Int).toNat) ++ x2) ++ (x0.extract ((Int.tmod (wrap64 ((wrap64 ((Int.tmod x1 (wrap64 ((x0.size : Int) + 1))) + (x0.size : Int))) + 1)) (wrap64 ((x0.size : Int) + 1))) : Int).toNat x0.size))).bind fun t196 => (if t196 = true then (if ((x0.extract 0 ((Int.tmod (wrap64 ((wrap64 ((Int.tmod x1 (wrap64 ((x0.size : Int) + 1))) + (x0.size : Int))) + 1)) (wrap64 ((x0.size : Int) + 1))) : Int).toNat) ++ (⟨#[63]⟩ : ByteArray)).size + (x0.extract ((Int.tmod (wrap64 ((wrap64 ((Int.tmod x1 (wrap64 ((x0.size : Int) + 1))) + (x0.size : Int))) + 1)) (wrap64 ((x0.size : Int) + 1))) : Int).toNat x0.size).size ≤ 9223372036854775807 then (if ((x0.extract 0 ((Int.tmod (wrap64 ((wrap64 ((Int.tmod x1 (wrap64 ((x0.size : Int) + 1))) + (x0.size : Int))) + 1)) (wrap64 ((x0.size : Int) + 1))) : Int).toNat) ++ (⟨#[121]⟩ : ByteArray)).size + (x0.extract ((Int.tmod (wrap64 ((wrap64 ((Int.tmod x1 (wrap64 ((x0.size : Int) + 1))) + (x0.size : Int))) + 1)) (wrap64 ((x0.size : Int) + 1))) : Int).toNat x0.size).size ≤ 9223372036854775807 then ((glob_Match.f k (((x0.extract 0 ((Int.tmod (wrap64 ((wrap64 ((Int.tmod x1 (wrap64 ((x0.size : Int) + 1))) + (x0.size : Int))) + 1)) (wrap64 ((x0.size : Int) + 1))) : Int).toNat) ++ (⟨#[63]⟩ : ByteArray)) ++ (x0.extract ((Int.tmod (wrap64 ((wrap64 ((Int.tmod x1 (wrap64 ((x0.size : Int) + 1))) + (x0.size : Int))) + 1)) (wrap64 ((x0.size : Int) + 1))) : Int).toNat x0.size)) (((x0.extract 0 ((Int.tmod (wrap64 ((wrap64 ((Int.tmod x1 (wrap64 ((x0.size : Int) + 1))) + (x0.size : Int))) + 1)) (wrap64 ((x0.size : Int) + 1))) : Int).toNat) ++ (⟨#[121]⟩ : ByteArray)) ++ (x0.extract ((Int.tmod (wrap64 ((wrap64 ((Int.tmod x1 (wrap64 ((x0.size : Int) + 1))) + (x0.size : Int))) + 1)) (wrap64 ((x0.size : Int) + 1))) : Int).toNat x0.size))).bind fun t197 => (some t197)) else (none)) else (none)) else (none))) else (none)) else (none)) else (none)) else (none)) else (none)) else (none)) else (none))) else (none)) else (none))))
end
def escutcheonlaw17_GlobSelf.f (k : Nat) (a0 : ByteArray) (a1 : Int) (a2 : ByteArray) : Option (Bool) := if (a0.size : Int) > 30 then (escutcheonlaw17_GlobSelf.j0 k a0 a1 a2 true) else (if (a2.size : Int) > 30 then (escutcheonlaw17_GlobSelf.j0 k a0 a1 a2 true) else ((escutcheonlaw17_alive.f k).bind fun t192 => (escutcheonlaw17_GlobSelf.j0 k a0 a1 a2 (!t192))))
theorem escutcheonlaw17_GlobSelf.mono_l : ∀ k, (∀ y0 y1 y2 y3, LeO (escutcheonlaw17_GlobSelf.j0 k y0 y1 y2 y3) (escutcheonlaw17_GlobSelf.j0 (k + 1) y0 y1 y2 y3)) ∧ (∀ y0 y1 y2 y3, LeO (escutcheonlaw17_GlobSelf.l0 k y0 y1 y2 y3) (escutcheonlaw17_GlobSelf.l0 (k + 1) y0 y1 y2 y3))
  | 0 => ⟨fun _ _ _ _ r h => by simp [escutcheonlaw17_GlobSelf.j0] at h, fun _ _ _ _ r h => by simp [escutcheonlaw17_GlobSelf.l0] at h⟩
  | k + 1 => by
    obtain ⟨ih0, ih1⟩ := escutcheonlaw17_GlobSelf.mono_l k
    refine ⟨?_, ?_⟩
    · intro y0 y1 y2 y3
      unfold escutcheonlaw17_GlobSelf.j0
      repeat' first
      | (with_reducible exact ih0 _ _ _ _)
      | (with_reducible exact ih1 _ _ _ _)
      | (with_reducible exact escutcheonlaw17_alive.mono _)
      | (with_reducible exact glob_Match.mono _ _ _)
      | (with_reducible exact LeO.refl _)
      | (with_reducible exact LeO.none _)
      | (with_reducible refine LeO.ite ?_ ?_)
      | (with_reducible refine LeO.bind ?_ (fun _ => ?_))
      | exact ih0 _ _ _ _
      | exact ih1 _ _ _ _
      | exact escutcheonlaw17_alive.mono _
      | exact glob_Match.mono _ _ _
      | exact LeO.none _
      | refine LeO.ite ?_ ?_
      | refine LeO.bind ?_ (fun _ => ?_)
    · intro y0 y1 y2 y3
      unfold escutcheonlaw17_GlobSelf.l0
      repeat' first
      | (with_reducible exact ih0 _ _ _ _)
      | (with_reducible exact ih1 _ _ _ _)
      | (with_reducible exact escutcheonlaw17_alive.mono _)
      | (with_reducible exact glob_Match.mono _ _ _)
      | (with_reducible exact LeO.refl _)
      | (with_reducible exact LeO.none _)
      | (with_reducible refine LeO.ite ?_ ?_)
      | (with_reducible refine LeO.bind ?_ (fun _ => ?_))
      | exact ih0 _ _ _ _
      | exact ih1 _ _ _ _
      | exact escutcheonlaw17_alive.mono _
      | exact glob_Match.mono _ _ _
      | exact LeO.none _
      | refine LeO.ite ?_ ?_
      | refine LeO.bind ?_ (fun _ => ?_)
theorem escutcheonlaw17_GlobSelf.mono : ∀ a0 a1 a2 k, LeO (escutcheonlaw17_GlobSelf.f k a0 a1 a2) (escutcheonlaw17_GlobSelf.f (k + 1) a0 a1 a2) := by
  intro a0 a1 a2 k
  obtain ⟨ih0, ih1⟩ := escutcheonlaw17_GlobSelf.mono_l k
  unfold escutcheonlaw17_GlobSelf.f
  repeat' first
      | (with_reducible exact ih0 _ _ _ _)
      | (with_reducible exact ih1 _ _ _ _)
      | (with_reducible exact escutcheonlaw17_alive.mono _)
      | (with_reducible exact glob_Match.mono _ _ _)
      | (with_reducible exact LeO.refl _)
      | (with_reducible exact LeO.none _)
      | (with_reducible refine LeO.ite ?_ ?_)
      | (with_reducible refine LeO.bind ?_ (fun _ => ?_))
      | exact ih0 _ _ _ _
      | exact ih1 _ _ _ _
      | exact escutcheonlaw17_alive.mono _
      | exact glob_Match.mono _ _ _
      | exact LeO.none _
      | refine LeO.ite ?_ ?_
      | refine LeO.bind ?_ (fun _ => ?_)
def escutcheonlaw17_GlobSelf.T9 : Bool × List (List Nat × List Nat) := (true, [([], []), ([], []), ([0, 1], [0, 1]), ([2, 2], [2]), ([3], [3]), ([3], [3]), ([5, 3], [3, 5]), ([4, 6, 3, 3], [3, 4, 6]), ([7, 3], [3, 7]), ([3, 8], [3, 8]), ([9, 7], [9]), ([10], [10]), ([10], [10]), ([11, 12, 10], [10, 11, 12]), ([13, 10], [10, 13]), ([10], [10]), ([10], [10]), ([15, 16, 10], [10, 15, 16]), ([14, 17, 10], [10, 14, 17]), ([10], [10]), ([10], [10]), ([19, 20, 10], [10, 19, 20]), ([10], [10]), ([21, 22, 10], [10, 21, 22]), ([10], [10]), ([10], [10]), ([24, 25, 10], [10, 24, 25]), ([23, 26, 10], [10, 23, 26]), ([18, 27, 10, 10], [10, 18, 27]), ([10, 28], [10, 28]), ([29, 28], [29]), ([30], [30]), ([30], [30]), ([31, 32, 30], [30, 31, 32]), ([33, 30], [30, 33]), ([30], [30]), ([30], [30]), ([35, 36, 30], [30, 35, 36]), ([34, 37, 30], [30, 34, 37]), ([30], [30]), ([30], [30]), ([39, 40, 30], [30, 39, 40]), ([41, 30], [30, 41]), ([30], [30]), ([30], [30]), ([43, 44, 30], [30, 43, 44]), ([42, 45, 30], [30, 42, 45]), ([38, 46, 30, 30], [30, 38, 46]), ([30, 47], [30, 47]), ([48, 47, 0, 1, 2, 3, 4, 5, 6, 7, 8, 9, 10, 11, 12, 13, 14, 15, 16, 17, 18, 19, 20, 21, 22, 23, 24, 25, 26, 27, 28, 29, 30, 31, 32, 33, 34, 35, 36, 37, 38, 39, 40, 41, 42, 43, 44, 45, 46, 47, 48], [48])])
def escutcheonlaw17_GlobSelf.B9 : List Nat := [0, 0, 3, 7, 15, 15, 47, 127, 255, 511, 1023, 2047, 2047, 8191, 16383, 2047, 2047, 100351, 262143, 2047, 2047, 1574911, 2047, 7866367, 2047, 2047, 50333695, 133695487, 268435455, 536870911, 1073741823, 2147483647, 2147483647, 8589934591, 17179869183, 2147483647, 2147483647, 105226698751, 274877906943, 2147483647, 2147483647, 1651414925311, 3850438180863, 2147483647, 2147483647, 26390426550271, 69821135847423, 140737488355327, 281474976710655, 562949953421311]
theorem escutcheonlaw17_GlobSelf.tab9 : rtab .any (opsOf Try.f7 9) = escutcheonlaw17_GlobSelf.T9 := by kernel_rfl
theorem escutcheonlaw17_GlobSelf.bits9 : waitsOk escutcheonlaw17_GlobSelf.T9.2 escutcheonlaw17_GlobSelf.B9 = true := by kernel_rfl
set_option maxHeartbeats 8000000 in
set_option maxRecDepth 100000 in
theorem escutcheonlaw17_GlobSelf.calls (k : Nat) (a0 : ByteArray) (a1 : Int) (a2 : ByteArray) (r : Bool) (w : World) (h : escutcheonlaw17_GlobSelf.f k a0 a1 a2 = some r) :
    Calls Try.prog 7 #[.string a0, .int .i64 a1, .string a2] w fun e w' => e = .returned (.bool r) ∧ Below w.heap.size w w' := by
  have HB := Aside0.mk (Below.refl w.heap.size w)
  have H : (if (a0.size : Int) > 30 then (escutcheonlaw17_GlobSelf.j0 k a0 a1 a2 true) else (if (a2.size : Int) > 30 then (escutcheonlaw17_GlobSelf.j0 k a0 a1 a2 true) else ((escutcheonlaw17_alive.f k).bind fun t192 => (escutcheonlaw17_GlobSelf.j0 k a0 a1 a2 (!t192))))) = some r := h
  clear h
  have HC4 := Aside0.mk H
  clear H
  go_enter Try.func7, Try.ntmps7
  go_upto_region 1 with (fail)
  go_cut [20] (fun v20 wc => ∃ (kq : Nat) (x20_3 : Bool), v20 = .bool x20_3 ∧ Aside0 (escutcheonlaw17_GlobSelf.j0 kq a0 a1 a2 x20_3 = some r) ∧ Aside0 (kq ≤ k) ∧ Aside0 (Below w.heap.size w wc))
  case first =>
    have H := HC4.out
    clear HC4
    by_cases c5 : (a0.size : Int) > 30
    · rw [if_pos c5] at H
      have c5b0 : decide (30 < (a0.size : Int)) = true := decide_eq_true c5
      have c5b1 : decide (30 < a0.size) = true := decide_eq_true (by omega)
      clear c5
      (first | rw [c5b0] | (simp only [i64_w, i32_w]; rw [c5b0]) | skip)
      have H' := Aside0.mk H
      clear H
      go_wp2
      go_meet
      case rel => exact ⟨_, (true), (by first | rfl | (simp; done) | (simp [*]; done)), H', ⟨by first | omega | exact Nat.le_refl _⟩, ⟨by repeat (first | (with_reducible first | exact HB.out | apply below_alloc | apply pw_below_drewN | apply below_drew1) | exact HB.out)⟩⟩
    · rw [if_neg c5] at H
      have c5b0 : decide (30 < (a0.size : Int)) = false := decide_eq_false c5
      have c5b1 : decide (30 < a0.size) = false := decide_eq_false (by omega)
      clear c5
      (first | rw [c5b0] | (simp only [i64_w, i32_w]; rw [c5b0]) | skip)
      by_cases c6 : (a2.size : Int) > 30
      · rw [if_pos c6] at H
        have c6b0 : decide (30 < (a2.size : Int)) = true := decide_eq_true c6
        have c6b1 : decide (30 < a2.size) = true := decide_eq_true (by omega)
        clear c6
        have H' := Aside0.mk H
        clear H
        go_wp2
        go_meet
        case rel => exact ⟨_, (true), (by first | rfl | (simp; done) | (simp [*]; done)), H', ⟨by first | omega | exact Nat.le_refl _⟩, ⟨by repeat (first | (with_reducible first | exact HB.out | apply below_alloc | apply pw_below_drewN | apply below_drew1) | exact HB.out)⟩⟩
      · rw [if_neg c6] at H
        have c6b0 : decide (30 < (a2.size : Int)) = false := decide_eq_false c6
        have c6b1 : decide (30 < a2.size) = false := decide_eq_false (by omega)
        clear c6
        replace H := Option.bind_eq_some_iff.mp H
        obtain ⟨t192, A70, H⟩ := H
        replace H : (escutcheonlaw17_GlobSelf.j0 k a0 a1 a2 (!t192)) = some r := H
        have A7 := Aside0.mk A70
        clear A70
        have H' := Aside0.mk H
        clear H
        go_wp2_with (first | (go_at_call 10; (with_reducible refine (escutcheonlaw17_alive.calls k  t192 _ A7.out).mono ?_); rintro e w8 ⟨rfl, hb⟩; have n0_ := Aside0.mk (below_step (by repeat (first | (with_reducible first | exact HB.out | apply below_alloc | apply pw_below_drewN | apply below_drew1) | exact HB.out)) hb); clear HB; have HB := n0_; clear n0_; (try clear hb); (try clear hb2); (try clear hk); (try clear hi)))
        go_meet
        case rel => exact ⟨_, (!t192), (by first | rfl | (simp; done) | (simp [*]; done)), H', ⟨by first | omega | exact Nat.le_refl _⟩, ⟨by repeat (first | (with_reducible first | exact HB.out | apply below_alloc | apply pw_below_drewN | apply below_drew1) | exact HB.out)⟩⟩
  case rest =>
    clear HC4
    try clear p2
    try clear c5
    try clear c5b0
    try clear c5b1
    try clear c6
    try clear c6b0
    try clear c6b1
    try clear c7
    obtain ⟨kq, x20_3, rfl, HA, HJ3, HB⟩ := hcut
    cases kq with
    | zero => exact absurd HA.out (by simp [escutcheonlaw17_GlobSelf.j0])
    | succ kj3 =>
      have H := HA.out
      clear HA
      simp only [escutcheonlaw17_GlobSelf.j0] at H
      by_cases c9 : x20_3 = true
      · subst c9
        have H1 : ((escutcheonlaw17_alive.f kj3).bind fun t193 => (some t193)) = some r := by rw [if_pos rfl] at H; exact H
        clear H
        have H := H1
        clear H1
        replace H := Option.bind_eq_some_iff.mp H
        obtain ⟨t193, A100, H⟩ := H
        replace H : (some t193) = some r := H
        have A10 := Aside0.mk A100
        clear A100
        obtain rfl := Option.some.inj H
        go_wp2_with (first | ((with_reducible refine gate_callee (f := 10) rfl ?_); refine goesL_ (some 21) rfl rfl Try.func10 (by kernel_rfl) rfl #[] rfl (by (try simp only [List.map_toArray, List.map_cons, List.map_nil]); first | done | rfl | (simp only [List.length_drop, List.length_take]; rfl)) ?_; (with_reducible refine (escutcheonlaw17_alive.calls kj3  t193 _ A10.out).mono ?_); rintro e w11 ⟨rfl, hb⟩; refine ⟨_, rfl, ?_⟩; have n0_ := Aside0.mk (below_step (by repeat (first | (with_reducible first | exact HB.out | apply below_alloc | apply pw_below_drewN | apply below_drew1) | exact HB.out)) hb); clear HB; have HB := n0_; clear n0_; (try clear hb); (try clear hb2); (try clear hk); (try clear hi)))
        go_ret
        exact ⟨by first | rfl | (simp [errW_none, errW_some] <;> rfl) | (simp [*, errW_none, errW_some] <;> rfl), by repeat (first | (with_reducible first | exact HB.out | apply below_alloc | apply pw_below_drewN | apply below_drew1) | exact HB.out)⟩
      · replace c9 := Bool.eq_false_iff.mpr c9
        subst c9
        have H1 : (escutcheonlaw17_GlobSelf.l0 kj3 a0 a1 a2 0) = some r := by rw [if_neg (show ¬ (false = true) by decide)] at H; exact H
        clear H
        have H := H1
        clear H1
        have H' := Aside0.mk H
        clear H
        go_wp2
        go_loopg [7] kj3 (fun kq v7 w' => ∃ (x7_2 : Int), v7 = .int .i64 x7_2 ∧ Aside0 (escutcheonlaw17_GlobSelf.l0 kq a0 a1 a2 x7_2 = some r) ∧ Aside0 (kq ≤ kj3) ∧ Aside0 (Below w.heap.size w w'))
        case atStart => exact ⟨(0), (by first | rfl | (simp; done) | (simp [*]; done)), H', ⟨Nat.le_refl _⟩, ⟨by repeat (first | (with_reducible first | exact HB.out | apply below_alloc | apply pw_below_drewN | apply below_drew1) | exact HB.out)⟩⟩
        case round =>
          clear H'
          try clear c1
          try clear p2
          try clear c5
          try clear c5b0
          try clear c5b1
          try clear c6
          try clear c6b0
          try clear c6b1
          try clear c7
          try clear c9
          try clear c10
          try clear p2
          obtain ⟨x7_2, rfl, HA, HK2, HB⟩ := hrel
          cases gk with
          | zero => exact absurd HA.out (by simp [escutcheonlaw17_GlobSelf.l0])
          | succ k2 =>
            have H := HA.out
            clear HA
            simp only [escutcheonlaw17_GlobSelf.l0] at H
            by_cases c12 : x7_2 < (a0.size : Int)
            · rw [if_pos c12] at H
              have c12b0 : decide (x7_2 < (a0.size : Int)) = true := decide_eq_true c12
              clear c12
              by_cases c13 : 0 ≤ x7_2
              · rw [if_pos c13] at H
                have c13b0 : decide (0 ≤ x7_2) = true := decide_eq_true c13
                clear c13
                by_cases c15 : (bt a0 x7_2) = 42
                · rw [if_pos c15] at H
                  have c15b0 : ((bt a0 x7_2) == 42) = true := beq_iff_eq.mpr c15
                  have c15b1 : ((bt a0 x7_2) != 42) = false := bne_eq_false_iff_eq.mpr c15
                  clear c15
                  obtain rfl := Option.some.inj H
                  have p14 : 0 ≤ (x7_2 : Int) := of_decide_eq_true (by first | (with_reducible assumption) | assumption)
                  have q14 : x7_2 < (a0.size : Int) := of_decide_eq_true (by first | (with_reducible assumption) | assumption)
                  have hx14 := bt_at a0 x7_2
                  replace p14 := eq_true p14
                  replace q14 := eq_true q14
                  go_wp2
                  go_ret
                  exact ⟨by first | rfl | (simp [errW_none, errW_some] <;> rfl) | (simp [*, errW_none, errW_some] <;> rfl), by repeat (first | (with_reducible first | exact HB.out | apply below_alloc | apply pw_below_drewN | apply below_drew1) | exact HB.out)⟩
                · rw [if_neg c15] at H
                  have c15b0 : ((bt a0 x7_2) == 42) = false := beq_eq_false_iff_ne.mpr c15
                  have c15b1 : ((bt a0 x7_2) != 42) = true := bne_iff_ne.mpr c15
                  by_cases c17 : (bt a0 x7_2) = 63
                  · rw [if_pos c17] at H
                    have c17b0 : ((bt a0 x7_2) == 63) = true := beq_iff_eq.mpr c17
                    have c17b1 : ((bt a0 x7_2) != 63) = false := bne_eq_false_iff_eq.mpr c17
                    clear c17
                    obtain rfl := Option.some.inj H
                    have p14 : 0 ≤ (x7_2 : Int) := of_decide_eq_true (by first | (with_reducible assumption) | assumption)
                    have q14 : x7_2 < (a0.size : Int) := of_decide_eq_true (by first | (with_reducible assumption) | assumption)
                    have hx14 := bt_at a0 x7_2
                    replace p14 := eq_true p14
                    replace q14 := eq_true q14
                    have p16 : 0 ≤ (x7_2 : Int) := of_decide_eq_true (by first | (with_reducible assumption) | assumption)
                    have q16 : x7_2 < (a0.size : Int) := of_decide_eq_true (by first | (with_reducible assumption) | assumption)
                    have hx16 := bt_at a0 x7_2
                    replace p16 := eq_true p16
                    replace q16 := eq_true q16
                    go_wp2
                    go_ret
                    exact ⟨by first | rfl | (simp [errW_none, errW_some] <;> rfl) | (simp [*, errW_none, errW_some] <;> rfl), by repeat (first | (with_reducible first | exact HB.out | apply below_alloc | apply pw_below_drewN | apply below_drew1) | exact HB.out)⟩
                  · rw [if_neg c17] at H
                    have c17b0 : ((bt a0 x7_2) == 63) = false := beq_eq_false_iff_ne.mpr c17
                    have c17b1 : ((bt a0 x7_2) != 63) = true := bne_iff_ne.mpr c17
                    by_cases c19 : (bt a0 x7_2) = 92
                    · rw [if_pos c19] at H
                      have c19b0 : ((bt a0 x7_2) == 92) = true := beq_iff_eq.mpr c19
                      have c19b1 : ((bt a0 x7_2) != 92) = false := bne_eq_false_iff_eq.mpr c19
                      clear c19
                      obtain rfl := Option.some.inj H
                      have p14 : 0 ≤ (x7_2 : Int) := of_decide_eq_true (by first | (with_reducible assumption) | assumption)
                      have q14 : x7_2 < (a0.size : Int) := of_decide_eq_true (by first | (with_reducible assumption) | assumption)
                      have hx14 := bt_at a0 x7_2
                      replace p14 := eq_true p14
                      replace q14 := eq_true q14
                      have p16 : 0 ≤ (x7_2 : Int) := of_decide_eq_true (by first | (with_reducible assumption) | assumption)
                      have q16 : x7_2 < (a0.size : Int) := of_decide_eq_true (by first | (with_reducible assumption) | assumption)
                      have hx16 := bt_at a0 x7_2
                      replace p16 := eq_true p16
                      replace q16 := eq_true q16
                      have p18 : 0 ≤ (x7_2 : Int) := of_decide_eq_true (by first | (with_reducible assumption) | assumption)
                      have q18 : x7_2 < (a0.size : Int) := of_decide_eq_true (by first | (with_reducible assumption) | assumption)
                      have hx18 := bt_at a0 x7_2
                      replace p18 := eq_true p18
                      replace q18 := eq_true q18
                      go_wp2
                      go_ret
                      exact ⟨by first | rfl | (simp [errW_none, errW_some] <;> rfl) | (simp [*, errW_none, errW_some] <;> rfl), by repeat (first | (with_reducible first | exact HB.out | apply below_alloc | apply pw_below_drewN | apply below_drew1) | exact HB.out)⟩
                    · rw [if_neg c19] at H
                      have c19b0 : ((bt a0 x7_2) == 92) = false := beq_eq_false_iff_ne.mpr c19
                      have c19b1 : ((bt a0 x7_2) != 92) = true := bne_iff_ne.mpr c19
                      have H' := Aside0.mk H
                      clear H
                      have p14 : 0 ≤ (x7_2 : Int) := of_decide_eq_true (by first | (with_reducible assumption) | assumption)
                      have q14 : x7_2 < (a0.size : Int) := of_decide_eq_true (by first | (with_reducible assumption) | assumption)
                      have hx14 := bt_at a0 x7_2
                      replace p14 := eq_true p14
                      replace q14 := eq_true q14
                      have p16 : 0 ≤ (x7_2 : Int) := of_decide_eq_true (by first | (with_reducible assumption) | assumption)
                      have q16 : x7_2 < (a0.size : Int) := of_decide_eq_true (by first | (with_reducible assumption) | assumption)
                      have hx16 := bt_at a0 x7_2
                      replace p16 := eq_true p16
                      replace q16 := eq_true q16
                      have p18 : 0 ≤ (x7_2 : Int) := of_decide_eq_true (by first | (with_reducible assumption) | assumption)
                      have q18 : x7_2 < (a0.size : Int) := of_decide_eq_true (by first | (with_reducible assumption) | assumption)
                      have hx18 := bt_at a0 x7_2
                      replace p18 := eq_true p18
                      replace q18 := eq_true q18
                      go_wp2
                      go_roundg k2
                      case measure => have := HJ3.out; have := HK2.out; omega
                      case rel => exact ⟨(wrap64 (x7_2 + 1)), (by first | rfl | (simp; done) | (simp [*]; done)), H', ⟨by have := HJ3.out; have := HK2.out; omega⟩, ⟨by repeat (first | (with_reducible first | exact HB.out | apply below_alloc | apply pw_below_drewN | apply below_drew1) | exact HB.out)⟩⟩
              · rw [if_neg c13] at H
                exact absurd H (by simp)
            · rw [if_neg c12] at H
              have c12b0 : decide (x7_2 < (a0.size : Int)) = false := decide_eq_false c12
              clear c12
              by_cases c20 : (wrap64 ((a0.size : Int) + 1)) = 0
              · rw [if_pos c20] at H
                exact absurd H (by simp)
              · rw [if_neg c20] at H
                have c20b0 : ((wrap64 ((a0.size : Int) + 1)) == 0) = false := beq_eq_false_iff_ne.mpr c20
                have c20b1 : ((wrap64 ((a0.size : Int) + 1)) != 0) = true := bne_iff_ne.mpr c20
                replace H := Option.bind_eq_some_iff.mp H
                obtain ⟨t194, A210, H⟩ := H
                replace H : (if t194 = true then (if a0.size + 1 ≤ 9223372036854775807 then ((glob_Match.f k2 a0 (a0 ++ (⟨#[120]⟩ : ByteArray))).bind fun t195 => (if (t195 == false) = true then (if 0 ≤ (Int.tmod (wrap64 ((wrap64 ((Int.tmod a1 (wrap64 ((a0.size : Int) + 1))) + (a0.size : Int))) + 1)) (wrap64 ((a0.size : Int) + 1))) then (if (Int.tmod (wrap64 ((wrap64 ((Int.tmod a1 (wrap64 ((a0.size : Int) + 1))) + (a0.size : Int))) + 1)) (wrap64 ((a0.size : Int) + 1))) ≤ (a0.size : Int) then (if (a0.extract 0 ((Int.tmod (wrap64 ((wrap64 ((Int.tmod a1 (wrap64 ((a0.size : Int) + 1))) + (a0.size : Int))) + 1)) (wrap64 ((a0.size : Int) + 1))) : Int).toNat).size + 1 ≤ 9223372036854775807 then (if ((a0.extract 0 ((Int.tmod (wrap64 ((wrap64 ((Int.tmod a1 (wrap64 ((a0.size : Int) + 1))) + (a0.size : Int))) + 1)) (wrap64 ((a0.size : Int) + 1))) : Int).toNat) ++ (⟨#[42]⟩ : ByteArray)).size + (a0.extract ((Int.tmod (wrap64 ((wrap64 ((Int.tmod a1 (wrap64 ((a0.size : Int) + 1))) + (a0.size : Int))) + 1)) (wrap64 ((a0.size : Int) + 1))) : Int).toNat a0.size).size ≤ 9223372036854775807 then (if (a0.extract 0 ((Int.tmod (wrap64 ((wrap64 ((Int.tmod a1 (wrap64 ((a0.size : Int) + 1))) + (a0.size : Int))) + 1)) (wrap64 ((a0.size : Int) + 1))) : Int).toNat).size + a2.size ≤ 9223372036854775807 then (if ((a0.extract 0 ((Int.tmod (wrap64 ((wrap64 ((Int.tmod a1 (wrap64 ((a0.size : Int) + 1))) + (a0.size : Int))) + 1)) (wrap64 ((a0.size : Int) + 1))) : Int).toNat) ++ a2).size + (a0.extract ((Int.tmod (wrap64 ((wrap64 ((Int.tmod a1 (wrap64 ((a0.size : Int) + 1))) + (a0.size : Int))) + 1)) (wrap64 ((a0.size : Int) + 1))) : Int).toNat a0.size).size ≤ 9223372036854775807 then ((glob_Match.f k2 (((a0.extract 0 ((Int.tmod (wrap64 ((wrap64 ((Int.tmod a1 (wrap64 ((a0.size : Int) + 1))) + (a0.size : Int))) + 1)) (wrap64 ((a0.size : Int) + 1))) : Int).toNat) ++ (⟨#[42]⟩ : ByteArray)) ++ (a0.extract ((Int.tmod (wrap64 ((wrap64 ((Int.tmod a1 (wrap64 ((a0.size : Int) + 1))) + (a0.size : Int))) + 1)) (wrap64 ((a0.size : Int) + 1))) : Int).toNat a0.size)) (((a0.extract 0 ((Int.tmod (wrap64 ((wrap64 ((Int.tmod a1 (wrap64 ((a0.size : Int) + 1))) + (a0.size : Int))) + 1)) (wrap64 ((a0.size : Int) + 1))) : Int).toNat) ++ a2) ++ (a0.extract ((Int.tmod (wrap64 ((wrap64 ((Int.tmod a1 (wrap64 ((a0.size : Int) + 1))) + (a0.size : Int))) + 1)) (wrap64 ((a0.size : Int) + 1))) : Int).toNat a0.size))).bind fun t196 => (if t196 = true then (if ((a0.extract 0 ((Int.tmod (wrap64 ((wrap64 ((Int.tmod a1 (wrap64 ((a0.size : Int) + 1))) + (a0.size : Int))) + 1)) (wrap64 ((a0.size : Int) + 1))) : Int).toNat) ++ (⟨#[63]⟩ : ByteArray)).size + (a0.extract ((Int.tmod (wrap64 ((wrap64 ((Int.tmod a1 (wrap64 ((a0.size : Int) + 1))) + (a0.size : Int))) + 1)) (wrap64 ((a0.size : Int) + 1))) : Int).toNat a0.size).size ≤ 9223372036854775807 then (if ((a0.extract 0 ((Int.tmod (wrap64 ((wrap64 ((Int.tmod a1 (wrap64 ((a0.size : Int) + 1))) + (a0.size : Int))) + 1)) (wrap64 ((a0.size : Int) + 1))) : Int).toNat) ++ (⟨#[121]⟩ : ByteArray)).size + (a0.extract ((Int.tmod (wrap64 ((wrap64 ((Int.tmod a1 (wrap64 ((a0.size : Int) + 1))) + (a0.size : Int))) + 1)) (wrap64 ((a0.size : Int) + 1))) : Int).toNat a0.size).size ≤ 9223372036854775807 then ((glob_Match.f k2 (((a0.extract 0 ((Int.tmod (wrap64 ((wrap64 ((Int.tmod a1 (wrap64 ((a0.size : Int) + 1))) + (a0.size : Int))) + 1)) (wrap64 ((a0.size : Int) + 1))) : Int).toNat) ++ (⟨#[63]⟩ : ByteArray)) ++ (a0.extract ((Int.tmod (wrap64 ((wrap64 ((Int.tmod a1 (wrap64 ((a0.size : Int) + 1))) + (a0.size : Int))) + 1)) (wrap64 ((a0.size : Int) + 1))) : Int).toNat a0.size)) (((a0.extract 0 ((Int.tmod (wrap64 ((wrap64 ((Int.tmod a1 (wrap64 ((a0.size : Int) + 1))) + (a0.size : Int))) + 1)) (wrap64 ((a0.size : Int) + 1))) : Int).toNat) ++ (⟨#[121]⟩ : ByteArray)) ++ (a0.extract ((Int.tmod (wrap64 ((wrap64 ((Int.tmod a1 (wrap64 ((a0.size : Int) + 1))) + (a0.size : Int))) + 1)) (wrap64 ((a0.size : Int) + 1))) : Int).toNat a0.size))).bind fun t197 => (some t197)) else (none)) else (none)) else (none))) else (none)) else (none)) else (none)) else (none)) else (none)) else (none)) else (none))) else (none)) else (none)) = some r := H
                have A21 := Aside0.mk A210
                clear A210
                by_cases c22 : t194 = true
                · subst c22
                  have H1 : (if a0.size + 1 ≤ 9223372036854775807 then ((glob_Match.f k2 a0 (a0 ++ (⟨#[120]⟩ : ByteArray))).bind fun t195 => (if (t195 == false) = true then (if 0 ≤ (Int.tmod (wrap64 ((wrap64 ((Int.tmod a1 (wrap64 ((a0.size : Int) + 1))) + (a0.size : Int))) + 1)) (wrap64 ((a0.size : Int) + 1))) then (if (Int.tmod (wrap64 ((wrap64 ((Int.tmod a1 (wrap64 ((a0.size : Int) + 1))) + (a0.size : Int))) + 1)) (wrap64 ((a0.size : Int) + 1))) ≤ (a0.size : Int) then (if (a0.extract 0 ((Int.tmod (wrap64 ((wrap64 ((Int.tmod a1 (wrap64 ((a0.size : Int) + 1))) + (a0.size : Int))) + 1)) (wrap64 ((a0.size : Int) + 1))) : Int).toNat).size + 1 ≤ 9223372036854775807 then (if ((a0.extract 0 ((Int.tmod (wrap64 ((wrap64 ((Int.tmod a1 (wrap64 ((a0.size : Int) + 1))) + (a0.size : Int))) + 1)) (wrap64 ((a0.size : Int) + 1))) : Int).toNat) ++ (⟨#[42]⟩ : ByteArray)).size + (a0.extract ((Int.tmod (wrap64 ((wrap64 ((Int.tmod a1 (wrap64 ((a0.size : Int) + 1))) + (a0.size : Int))) + 1)) (wrap64 ((a0.size : Int) + 1))) : Int).toNat a0.size).size ≤ 9223372036854775807 then (if (a0.extract 0 ((Int.tmod (wrap64 ((wrap64 ((Int.tmod a1 (wrap64 ((a0.size : Int) + 1))) + (a0.size : Int))) + 1)) (wrap64 ((a0.size : Int) + 1))) : Int).toNat).size + a2.size ≤ 9223372036854775807 then (if ((a0.extract 0 ((Int.tmod (wrap64 ((wrap64 ((Int.tmod a1 (wrap64 ((a0.size : Int) + 1))) + (a0.size : Int))) + 1)) (wrap64 ((a0.size : Int) + 1))) : Int).toNat) ++ a2).size + (a0.extract ((Int.tmod (wrap64 ((wrap64 ((Int.tmod a1 (wrap64 ((a0.size : Int) + 1))) + (a0.size : Int))) + 1)) (wrap64 ((a0.size : Int) + 1))) : Int).toNat a0.size).size ≤ 9223372036854775807 then ((glob_Match.f k2 (((a0.extract 0 ((Int.tmod (wrap64 ((wrap64 ((Int.tmod a1 (wrap64 ((a0.size : Int) + 1))) + (a0.size : Int))) + 1)) (wrap64 ((a0.size : Int) + 1))) : Int).toNat) ++ (⟨#[42]⟩ : ByteArray)) ++ (a0.extract ((Int.tmod (wrap64 ((wrap64 ((Int.tmod a1 (wrap64 ((a0.size : Int) + 1))) + (a0.size : Int))) + 1)) (wrap64 ((a0.size : Int) + 1))) : Int).toNat a0.size)) (((a0.extract 0 ((Int.tmod (wrap64 ((wrap64 ((Int.tmod a1 (wrap64 ((a0.size : Int) + 1))) + (a0.size : Int))) + 1)) (wrap64 ((a0.size : Int) + 1))) : Int).toNat) ++ a2) ++ (a0.extract ((Int.tmod (wrap64 ((wrap64 ((Int.tmod a1 (wrap64 ((a0.size : Int) + 1))) + (a0.size : Int))) + 1)) (wrap64 ((a0.size : Int) + 1))) : Int).toNat a0.size))).bind fun t196 => (if t196 = true then (if ((a0.extract 0 ((Int.tmod (wrap64 ((wrap64 ((Int.tmod a1 (wrap64 ((a0.size : Int) + 1))) + (a0.size : Int))) + 1)) (wrap64 ((a0.size : Int) + 1))) : Int).toNat) ++ (⟨#[63]⟩ : ByteArray)).size + (a0.extract ((Int.tmod (wrap64 ((wrap64 ((Int.tmod a1 (wrap64 ((a0.size : Int) + 1))) + (a0.size : Int))) + 1)) (wrap64 ((a0.size : Int) + 1))) : Int).toNat a0.size).size ≤ 9223372036854775807 then (if ((a0.extract 0 ((Int.tmod (wrap64 ((wrap64 ((Int.tmod a1 (wrap64 ((a0.size : Int) + 1))) + (a0.size : Int))) + 1)) (wrap64 ((a0.size : Int) + 1))) : Int).toNat) ++ (⟨#[121]⟩ : ByteArray)).size + (a0.extract ((Int.tmod (wrap64 ((wrap64 ((Int.tmod a1 (wrap64 ((a0.size : Int) + 1))) + (a0.size : Int))) + 1)) (wrap64 ((a0.size : Int) + 1))) : Int).toNat a0.size).size ≤ 9223372036854775807 then ((glob_Match.f k2 (((a0.extract 0 ((Int.tmod (wrap64 ((wrap64 ((Int.tmod a1 (wrap64 ((a0.size : Int) + 1))) + (a0.size : Int))) + 1)) (wrap64 ((a0.size : Int) + 1))) : Int).toNat) ++ (⟨#[63]⟩ : ByteArray)) ++ (a0.extract ((Int.tmod (wrap64 ((wrap64 ((Int.tmod a1 (wrap64 ((a0.size : Int) + 1))) + (a0.size : Int))) + 1)) (wrap64 ((a0.size : Int) + 1))) : Int).toNat a0.size)) (((a0.extract 0 ((Int.tmod (wrap64 ((wrap64 ((Int.tmod a1 (wrap64 ((a0.size : Int) + 1))) + (a0.size : Int))) + 1)) (wrap64 ((a0.size : Int) + 1))) : Int).toNat) ++ (⟨#[121]⟩ : ByteArray)) ++ (a0.extract ((Int.tmod (wrap64 ((wrap64 ((Int.tmod a1 (wrap64 ((a0.size : Int) + 1))) + (a0.size : Int))) + 1)) (wrap64 ((a0.size : Int) + 1))) : Int).toNat a0.size))).bind fun t197 => (some t197)) else (none)) else (none)) else (none))) else (none)) else (none)) else (none)) else (none)) else (none)) else (none)) else (none))) else (none)) = some r := by rw [if_pos rfl] at H; exact H
                  clear H
                  have H := H1
                  clear H1
                  by_cases c23 : a0.size + 1 ≤ 9223372036854775807
                  · rw [if_pos c23] at H
                    have c23b0 := eq_true c23
                    have c23b1 : decide (a0.size + 1 ≤ 9223372036854775807) = true := decide_eq_true c23
                    try have c23b2 : (9223372036854775807 < a0.size + 1) = False := eq_false (Nat.not_lt.2 c23)
                    replace H := Option.bind_eq_some_iff.mp H
                    obtain ⟨t195, A240, H⟩ := H
                    replace H : (if (t195 == false) = true then (if 0 ≤ (Int.tmod (wrap64 ((wrap64 ((Int.tmod a1 (wrap64 ((a0.size : Int) + 1))) + (a0.size : Int))) + 1)) (wrap64 ((a0.size : Int) + 1))) then (if (Int.tmod (wrap64 ((wrap64 ((Int.tmod a1 (wrap64 ((a0.size : Int) + 1))) + (a0.size : Int))) + 1)) (wrap64 ((a0.size : Int) + 1))) ≤ (a0.size : Int) then (if (a0.extract 0 ((Int.tmod (wrap64 ((wrap64 ((Int.tmod a1 (wrap64 ((a0.size : Int) + 1))) + (a0.size : Int))) + 1)) (wrap64 ((a0.size : Int) + 1))) : Int).toNat).size + 1 ≤ 9223372036854775807 then (if ((a0.extract 0 ((Int.tmod (wrap64 ((wrap64 ((Int.tmod a1 (wrap64 ((a0.size : Int) + 1))) + (a0.size : Int))) + 1)) (wrap64 ((a0.size : Int) + 1))) : Int).toNat) ++ (⟨#[42]⟩ : ByteArray)).size + (a0.extract ((Int.tmod (wrap64 ((wrap64 ((Int.tmod a1 (wrap64 ((a0.size : Int) + 1))) + (a0.size : Int))) + 1)) (wrap64 ((a0.size : Int) + 1))) : Int).toNat a0.size).size ≤ 9223372036854775807 then (if (a0.extract 0 ((Int.tmod (wrap64 ((wrap64 ((Int.tmod a1 (wrap64 ((a0.size : Int) + 1))) + (a0.size : Int))) + 1)) (wrap64 ((a0.size : Int) + 1))) : Int).toNat).size + a2.size ≤ 9223372036854775807 then (if ((a0.extract 0 ((Int.tmod (wrap64 ((wrap64 ((Int.tmod a1 (wrap64 ((a0.size : Int) + 1))) + (a0.size : Int))) + 1)) (wrap64 ((a0.size : Int) + 1))) : Int).toNat) ++ a2).size + (a0.extract ((Int.tmod (wrap64 ((wrap64 ((Int.tmod a1 (wrap64 ((a0.size : Int) + 1))) + (a0.size : Int))) + 1)) (wrap64 ((a0.size : Int) + 1))) : Int).toNat a0.size).size ≤ 9223372036854775807 then ((glob_Match.f k2 (((a0.extract 0 ((Int.tmod (wrap64 ((wrap64 ((Int.tmod a1 (wrap64 ((a0.size : Int) + 1))) + (a0.size : Int))) + 1)) (wrap64 ((a0.size : Int) + 1))) : Int).toNat) ++ (⟨#[42]⟩ : ByteArray)) ++ (a0.extract ((Int.tmod (wrap64 ((wrap64 ((Int.tmod a1 (wrap64 ((a0.size : Int) + 1))) + (a0.size : Int))) + 1)) (wrap64 ((a0.size : Int) + 1))) : Int).toNat a0.size)) (((a0.extract 0 ((Int.tmod (wrap64 ((wrap64 ((Int.tmod a1 (wrap64 ((a0.size : Int) + 1))) + (a0.size : Int))) + 1)) (wrap64 ((a0.size : Int) + 1))) : Int).toNat) ++ a2) ++ (a0.extract ((Int.tmod (wrap64 ((wrap64 ((Int.tmod a1 (wrap64 ((a0.size : Int) + 1))) + (a0.size : Int))) + 1)) (wrap64 ((a0.size : Int) + 1))) : Int).toNat a0.size))).bind fun t196 => (if t196 = true then (if ((a0.extract 0 ((Int.tmod (wrap64 ((wrap64 ((Int.tmod a1 (wrap64 ((a0.size : Int) + 1))) + (a0.size : Int))) + 1)) (wrap64 ((a0.size : Int) + 1))) : Int).toNat) ++ (⟨#[63]⟩ : ByteArray)).size + (a0.extract ((Int.tmod (wrap64 ((wrap64 ((Int.tmod a1 (wrap64 ((a0.size : Int) + 1))) + (a0.size : Int))) + 1)) (wrap64 ((a0.size : Int) + 1))) : Int).toNat a0.size).size ≤ 9223372036854775807 then (if ((a0.extract 0 ((Int.tmod (wrap64 ((wrap64 ((Int.tmod a1 (wrap64 ((a0.size : Int) + 1))) + (a0.size : Int))) + 1)) (wrap64 ((a0.size : Int) + 1))) : Int).toNat) ++ (⟨#[121]⟩ : ByteArray)).size + (a0.extract ((Int.tmod (wrap64 ((wrap64 ((Int.tmod a1 (wrap64 ((a0.size : Int) + 1))) + (a0.size : Int))) + 1)) (wrap64 ((a0.size : Int) + 1))) : Int).toNat a0.size).size ≤ 9223372036854775807 then ((glob_Match.f k2 (((a0.extract 0 ((Int.tmod (wrap64 ((wrap64 ((Int.tmod a1 (wrap64 ((a0.size : Int) + 1))) + (a0.size : Int))) + 1)) (wrap64 ((a0.size : Int) + 1))) : Int).toNat) ++ (⟨#[63]⟩ : ByteArray)) ++ (a0.extract ((Int.tmod (wrap64 ((wrap64 ((Int.tmod a1 (wrap64 ((a0.size : Int) + 1))) + (a0.size : Int))) + 1)) (wrap64 ((a0.size : Int) + 1))) : Int).toNat a0.size)) (((a0.extract 0 ((Int.tmod (wrap64 ((wrap64 ((Int.tmod a1 (wrap64 ((a0.size : Int) + 1))) + (a0.size : Int))) + 1)) (wrap64 ((a0.size : Int) + 1))) : Int).toNat) ++ (⟨#[121]⟩ : ByteArray)) ++ (a0.extract ((Int.tmod (wrap64 ((wrap64 ((Int.tmod a1 (wrap64 ((a0.size : Int) + 1))) + (a0.size : Int))) + 1)) (wrap64 ((a0.size : Int) + 1))) : Int).toNat a0.size))).bind fun t197 => (some t197)) else (none)) else (none)) else (none))) else (none)) else (none)) else (none)) else (none)) else (none)) else (none)) else (none)) = some r := H
                    have A24 := Aside0.mk A240
                    clear A240
                    by_cases c25 : (t195 == false) = true
                    · rw [if_pos c25] at H
                      have c25b0 : (t195 == false) = true := c25
                      (try (have c25b1 : decide (t195 = false) = true := by simpa using c25))
                      (try (have c25b2 : (t195 == false) = true := by simpa using c25))
                      clear c25
                      obtain ⟨ji26, hji26⟩ : ∃ j_ : Int, (Int.tmod (wrap64 ((wrap64 ((Int.tmod a1 (wrap64 ((a0.size : Int) + 1))) + (a0.size : Int))) + 1)) (wrap64 ((a0.size : Int) + 1))) = j_ := ⟨_, rfl⟩
                      (try (have hji26s := hji26; rw [show wrap64 ((a0.size : Int) + 1) = (a0.size : Int) + 1 by unfold wrap64; omega] at hji26s))
                      replace H : (if 0 ≤ (ji26) then (if (ji26) ≤ (a0.size : Int) then (if (a0.extract 0 ((ji26) : Int).toNat).size + 1 ≤ 9223372036854775807 then (if ((a0.extract 0 ((ji26) : Int).toNat) ++ (⟨#[42]⟩ : ByteArray)).size + (a0.extract ((ji26) : Int).toNat a0.size).size ≤ 9223372036854775807 then (if (a0.extract 0 ((ji26) : Int).toNat).size + a2.size ≤ 9223372036854775807 then (if ((a0.extract 0 ((ji26) : Int).toNat) ++ a2).size + (a0.extract ((ji26) : Int).toNat a0.size).size ≤ 9223372036854775807 then ((glob_Match.f k2 (((a0.extract 0 ((ji26) : Int).toNat) ++ (⟨#[42]⟩ : ByteArray)) ++ (a0.extract ((ji26) : Int).toNat a0.size)) (((a0.extract 0 ((ji26) : Int).toNat) ++ a2) ++ (a0.extract ((ji26) : Int).toNat a0.size))).bind fun t196 => (if t196 = true then (if ((a0.extract 0 ((ji26) : Int).toNat) ++ (⟨#[63]⟩ : ByteArray)).size + (a0.extract ((ji26) : Int).toNat a0.size).size ≤ 9223372036854775807 then (if ((a0.extract 0 ((ji26) : Int).toNat) ++ (⟨#[121]⟩ : ByteArray)).size + (a0.extract ((ji26) : Int).toNat a0.size).size ≤ 9223372036854775807 then ((glob_Match.f k2 (((a0.extract 0 ((ji26) : Int).toNat) ++ (⟨#[63]⟩ : ByteArray)) ++ (a0.extract ((ji26) : Int).toNat a0.size)) (((a0.extract 0 ((ji26) : Int).toNat) ++ (⟨#[121]⟩ : ByteArray)) ++ (a0.extract ((ji26) : Int).toNat a0.size))).bind fun t197 => (some t197)) else (none)) else (none)) else (none))) else (none)) else (none)) else (none)) else (none)) else (none)) else (none)) = some r := by first | (rw [hji26] at H; exact H) | (simp only [hji26] at H ⊢; exact H)
                      (try rw [hji26] at A21)
                      (try rw [hji26] at A24)
                      by_cases c27 : 0 ≤ (ji26)
                      · rw [if_pos c27] at H
                        have c27b0 := eq_true c27
                        have c27b1 : decide (0 ≤ (ji26)) = true := decide_eq_true c27
                        clear c27
                        by_cases c28 : (ji26) ≤ (a0.size : Int)
                        · rw [if_pos c28] at H
                          have c28b0 := eq_true c28
                          have c28b1 : decide ((ji26) ≤ (a0.size : Int)) = true := decide_eq_true c28
                          clear c28
                          by_cases c29 : (a0.extract 0 ((ji26) : Int).toNat).size + 1 ≤ 9223372036854775807
                          · rw [if_pos c29] at H
                            have c29b0 := eq_true c29
                            have c29b1 : decide ((a0.extract 0 ((ji26) : Int).toNat).size + 1 ≤ 9223372036854775807) = true := decide_eq_true c29
                            try have c29b2 : (9223372036854775807 < (a0.extract 0 ((ji26) : Int).toNat).size + 1) = False := eq_false (Nat.not_lt.2 c29)
                            (try (have c29b4 := c29b2; rw [ByteArray.size_extract, Nat.min_eq_left (by have h_ : ji26 ≤ (a0.size : Int) := of_decide_eq_true (by assumption); omega), Nat.sub_zero] at c29b4))
                            try (have c29b3 := c29b2; simp only [ByteArray.size_extract, Nat.min_self, Nat.sub_zero] at c29b3)
                            have c30b0 := eq_true (of_decide_eq_true (by first | (with_reducible assumption) | assumption) : 0 ≤ (ji26))
                            have c31b0 := eq_true (of_decide_eq_true (by first | (with_reducible assumption) | assumption) : (ji26) ≤ (a0.size : Int))
                            by_cases c32 : ((a0.extract 0 ((ji26) : Int).toNat) ++ (⟨#[42]⟩ : ByteArray)).size + (a0.extract ((ji26) : Int).toNat a0.size).size ≤ 9223372036854775807
                            · rw [if_pos c32] at H
                              have c32b0 := eq_true c32
                              have c32b1 : decide (((a0.extract 0 ((ji26) : Int).toNat) ++ (⟨#[42]⟩ : ByteArray)).size + (a0.extract ((ji26) : Int).toNat a0.size).size ≤ 9223372036854775807) = true := decide_eq_true c32
                              try have c32b2 : (9223372036854775807 < ((a0.extract 0 ((ji26) : Int).toNat) ++ (⟨#[42]⟩ : ByteArray)).size + (a0.extract ((ji26) : Int).toNat a0.size).size) = False := eq_false (Nat.not_lt.2 c32)
                              (try (have c32b4 := c32b2; rw [ByteArray.size_extract, Nat.min_eq_left (by have h_ : ji26 ≤ (a0.size : Int) := of_decide_eq_true (by assumption); omega), Nat.sub_zero] at c32b4))
                              (try (have c32b5 := c32b2; simp only [ByteArray.size_append, ByteArray.size_extract, Nat.min_self, Nat.sub_zero] at c32b5; rw [Nat.min_eq_left (by have h_ : ji26 ≤ (a0.size : Int) := of_decide_eq_true (by assumption); omega)] at c32b5))
                              (try (have c32b6 := c32b5; (try rw [show (⟨#[42]⟩ : ByteArray).size = 1 from rfl] at c32b6)))
                              try (have c32b3 := c32b2; simp only [ByteArray.size_extract, Nat.min_self, Nat.sub_zero] at c32b3)
                              have c33b0 := eq_true (of_decide_eq_true (by first | (with_reducible assumption) | assumption) : 0 ≤ (ji26))
                              have c34b0 := eq_true (of_decide_eq_true (by first | (with_reducible assumption) | assumption) : (ji26) ≤ (a0.size : Int))
                              by_cases c35 : (a0.extract 0 ((ji26) : Int).toNat).size + a2.size ≤ 9223372036854775807
                              · rw [if_pos c35] at H
                                have c35b0 := eq_true c35
                                have c35b1 : decide ((a0.extract 0 ((ji26) : Int).toNat).size + a2.size ≤ 9223372036854775807) = true := decide_eq_true c35
                                try have c35b2 : (9223372036854775807 < (a0.extract 0 ((ji26) : Int).toNat).size + a2.size) = False := eq_false (Nat.not_lt.2 c35)
                                (try (have c35b4 := c35b2; rw [ByteArray.size_extract, Nat.min_eq_left (by have h_ : ji26 ≤ (a0.size : Int) := of_decide_eq_true (by assumption); omega), Nat.sub_zero] at c35b4))
                                try (have c35b3 := c35b2; simp only [ByteArray.size_extract, Nat.min_self, Nat.sub_zero] at c35b3)
                                have c36b0 := eq_true (of_decide_eq_true (by first | (with_reducible assumption) | assumption) : 0 ≤ (ji26))
                                have c37b0 := eq_true (of_decide_eq_true (by first | (with_reducible assumption) | assumption) : (ji26) ≤ (a0.size : Int))
                                by_cases c38 : ((a0.extract 0 ((ji26) : Int).toNat) ++ a2).size + (a0.extract ((ji26) : Int).toNat a0.size).size ≤ 9223372036854775807
                                · rw [if_pos c38] at H
                                  have c38b0 := eq_true c38
                                  have c38b1 : decide (((a0.extract 0 ((ji26) : Int).toNat) ++ a2).size + (a0.extract ((ji26) : Int).toNat a0.size).size ≤ 9223372036854775807) = true := decide_eq_true c38
                                  try have c38b2 : (9223372036854775807 < ((a0.extract 0 ((ji26) : Int).toNat) ++ a2).size + (a0.extract ((ji26) : Int).toNat a0.size).size) = False := eq_false (Nat.not_lt.2 c38)
                                  (try (have c38b4 := c38b2; rw [ByteArray.size_extract, Nat.min_eq_left (by have h_ : ji26 ≤ (a0.size : Int) := of_decide_eq_true (by assumption); omega), Nat.sub_zero] at c38b4))
                                  (try (have c38b5 := c38b2; simp only [ByteArray.size_append, ByteArray.size_extract, Nat.min_self, Nat.sub_zero] at c38b5; rw [Nat.min_eq_left (by have h_ : ji26 ≤ (a0.size : Int) := of_decide_eq_true (by assumption); omega)] at c38b5))
                                  try (have c38b3 := c38b2; simp only [ByteArray.size_extract, Nat.min_self, Nat.sub_zero] at c38b3)
                                  replace H := Option.bind_eq_some_iff.mp H
                                  obtain ⟨t196, A390, H⟩ := H
                                  replace H : (if t196 = true then (if ((a0.extract 0 ((ji26) : Int).toNat) ++ (⟨#[63]⟩ : ByteArray)).size + (a0.extract ((ji26) : Int).toNat a0.size).size ≤ 9223372036854775807 then (if ((a0.extract 0 ((ji26) : Int).toNat) ++ (⟨#[121]⟩ : ByteArray)).size + (a0.extract ((ji26) : Int).toNat a0.size).size ≤ 9223372036854775807 then ((glob_Match.f k2 (((a0.extract 0 ((ji26) : Int).toNat) ++ (⟨#[63]⟩ : ByteArray)) ++ (a0.extract ((ji26) : Int).toNat a0.size)) (((a0.extract 0 ((ji26) : Int).toNat) ++ (⟨#[121]⟩ : ByteArray)) ++ (a0.extract ((ji26) : Int).toNat a0.size))).bind fun t197 => (some t197)) else (none)) else (none)) else (none)) = some r := H
                                  have A39 := Aside0.mk A390
                                  clear A390
                                  by_cases c40 : t196 = true
                                  · subst c40
                                    have H1 : (if ((a0.extract 0 ((ji26) : Int).toNat) ++ (⟨#[63]⟩ : ByteArray)).size + (a0.extract ((ji26) : Int).toNat a0.size).size ≤ 9223372036854775807 then (if ((a0.extract 0 ((ji26) : Int).toNat) ++ (⟨#[121]⟩ : ByteArray)).size + (a0.extract ((ji26) : Int).toNat a0.size).size ≤ 9223372036854775807 then ((glob_Match.f k2 (((a0.extract 0 ((ji26) : Int).toNat) ++ (⟨#[63]⟩ : ByteArray)) ++ (a0.extract ((ji26) : Int).toNat a0.size)) (((a0.extract 0 ((ji26) : Int).toNat) ++ (⟨#[121]⟩ : ByteArray)) ++ (a0.extract ((ji26) : Int).toNat a0.size))).bind fun t197 => (some t197)) else (none)) else (none)) = some r := by rw [if_pos rfl] at H; exact H
                                    clear H
                                    have H := H1
                                    clear H1
                                    have c41b0 := eq_true (of_decide_eq_true (by first | (with_reducible assumption) | assumption) : 0 ≤ (ji26))
                                    have c42b0 := eq_true (of_decide_eq_true (by first | (with_reducible assumption) | assumption) : (ji26) ≤ (a0.size : Int))
                                    have c43b0 := eq_true (of_decide_eq_true (by first | (with_reducible assumption) | assumption) : 0 ≤ (ji26))
                                    have c44b0 := eq_true (of_decide_eq_true (by first | (with_reducible assumption) | assumption) : (ji26) ≤ (a0.size : Int))
                                    by_cases c45 : ((a0.extract 0 ((ji26) : Int).toNat) ++ (⟨#[63]⟩ : ByteArray)).size + (a0.extract ((ji26) : Int).toNat a0.size).size ≤ 9223372036854775807
                                    · rw [if_pos c45] at H
                                      have c45b0 := eq_true c45
                                      have c45b1 : decide (((a0.extract 0 ((ji26) : Int).toNat) ++ (⟨#[63]⟩ : ByteArray)).size + (a0.extract ((ji26) : Int).toNat a0.size).size ≤ 9223372036854775807) = true := decide_eq_true c45
                                      try have c45b2 : (9223372036854775807 < ((a0.extract 0 ((ji26) : Int).toNat) ++ (⟨#[63]⟩ : ByteArray)).size + (a0.extract ((ji26) : Int).toNat a0.size).size) = False := eq_false (Nat.not_lt.2 c45)
                                      (try (have c45b4 := c45b2; rw [ByteArray.size_extract, Nat.min_eq_left (by have h_ : ji26 ≤ (a0.size : Int) := of_decide_eq_true (by assumption); omega), Nat.sub_zero] at c45b4))
                                      (try (have c45b5 := c45b2; simp only [ByteArray.size_append, ByteArray.size_extract, Nat.min_self, Nat.sub_zero] at c45b5; rw [Nat.min_eq_left (by have h_ : ji26 ≤ (a0.size : Int) := of_decide_eq_true (by assumption); omega)] at c45b5))
                                      (try (have c45b6 := c45b5; (try rw [show (⟨#[63]⟩ : ByteArray).size = 1 from rfl] at c45b6)))
                                      try (have c45b3 := c45b2; simp only [ByteArray.size_extract, Nat.min_self, Nat.sub_zero] at c45b3)
                                      have c46b0 := eq_true (of_decide_eq_true (by first | (with_reducible assumption) | assumption) : 0 ≤ (ji26))
                                      have c47b0 := eq_true (of_decide_eq_true (by first | (with_reducible assumption) | assumption) : (ji26) ≤ (a0.size : Int))
                                      have c48b0 := eq_true (of_decide_eq_true (by first | (with_reducible assumption) | assumption) : 0 ≤ (ji26))
                                      have c49b0 := eq_true (of_decide_eq_true (by first | (with_reducible assumption) | assumption) : (ji26) ≤ (a0.size : Int))
                                      by_cases c50 : ((a0.extract 0 ((ji26) : Int).toNat) ++ (⟨#[121]⟩ : ByteArray)).size + (a0.extract ((ji26) : Int).toNat a0.size).size ≤ 9223372036854775807
                                      · rw [if_pos c50] at H
                                        have c50b0 := eq_true c50
                                        have c50b1 : decide (((a0.extract 0 ((ji26) : Int).toNat) ++ (⟨#[121]⟩ : ByteArray)).size + (a0.extract ((ji26) : Int).toNat a0.size).size ≤ 9223372036854775807) = true := decide_eq_true c50
                                        try have c50b2 : (9223372036854775807 < ((a0.extract 0 ((ji26) : Int).toNat) ++ (⟨#[121]⟩ : ByteArray)).size + (a0.extract ((ji26) : Int).toNat a0.size).size) = False := eq_false (Nat.not_lt.2 c50)
                                        (try (have c50b4 := c50b2; rw [ByteArray.size_extract, Nat.min_eq_left (by have h_ : ji26 ≤ (a0.size : Int) := of_decide_eq_true (by assumption); omega), Nat.sub_zero] at c50b4))
                                        (try (have c50b5 := c50b2; simp only [ByteArray.size_append, ByteArray.size_extract, Nat.min_self, Nat.sub_zero] at c50b5; rw [Nat.min_eq_left (by have h_ : ji26 ≤ (a0.size : Int) := of_decide_eq_true (by assumption); omega)] at c50b5))
                                        (try (have c50b6 := c50b5; (try rw [show (⟨#[121]⟩ : ByteArray).size = 1 from rfl] at c50b6)))
                                        try (have c50b3 := c50b2; simp only [ByteArray.size_extract, Nat.min_self, Nat.sub_zero] at c50b3)
                                        replace H := Option.bind_eq_some_iff.mp H
                                        obtain ⟨t197, A510, H⟩ := H
                                        replace H : (some t197) = some r := H
                                        have A51 := Aside0.mk A510
                                        clear A510
                                        obtain rfl := Option.some.inj H
                                        try go_wp2
                                        have n0_ := Aside0.mk (below_drew1 HB.out)
                                        clear HB
                                        have HB := n0_
                                        clear n0_
                                        refine start_ (n := 50) (S := fun w' => True) (ds := []) #[false, false, false, false, false, false, false, false, false, false, false, false, false, false, false, false, false, false, false, false, false, false, false, false, false, false, false, false, false, false, false, false, false, false, false, false, false, false, false, false, false, false, false, false, false, false, false, false, false, false] (by kernel_rfl) rfl rfl trivial (fun hHeld => ?_); refine with_tabW escutcheonlaw17_GlobSelf.tab9 escutcheonlaw17_GlobSelf.bits9 (fun HT_ HW_ => ?_)
                                        generalize wr.drew = w52 at HB hHeld ⊢
                                        refine pure_ (i := 0) (N := some 57) (v := ?_) (a' := ?_) #[true, false, false, false, false, false, false, false, false, false, false, false, false, false, false, false, false, false, false, false, false, false, false, false, false, false, false, false, false, false, false, false, false, false, false, false, false, false, false, false, false, false, false, false, false, false, false, false, false, false] rfl rfl (any_of HT_.out (by kernel_rfl)) (fun _ _ _ h => h) (Or.inl ⟨by rfl, ?_⟩) ?_ ?_
                                        rotate_left
                                        · intro w'
                                          go_simp
                                          with_reducible rfl
                                        rotate_left
                                        · simp only [Act.put, List.setIfInBounds_toArray, List.set_cons_zero, List.set_cons_succ, i64_w, i32_w]
                                          rfl
                                        refine pure_ (i := 1) (N := some 58) (v := ?_) (a' := ?_) #[true, true, false, false, false, false, false, false, false, false, false, false, false, false, false, false, false, false, false, false, false, false, false, false, false, false, false, false, false, false, false, false, false, false, false, false, false, false, false, false, false, false, false, false, false, false, false, false, false, false] rfl rfl (any_of HT_.out (by kernel_rfl)) (fun _ _ _ h => h) (Or.inl ⟨by rfl, ?_⟩) ?_ ?_
                                        rotate_left
                                        · intro w'
                                          go_simp
                                          with_reducible rfl
                                        rotate_left
                                        · simp only [Act.put, List.setIfInBounds_toArray, List.set_cons_zero, List.set_cons_succ, i64_w, i32_w]
                                          rfl
                                        refine one_ (i := 2) (N := some 59) #[true, true, true, false, false, false, false, false, false, false, false, false, false, false, false, false, false, false, false, false, false, false, false, false, false, false, false, false, false, false, false, false, false, false, false, false, false, false, false, false, false, false, false, false, false, false, false, false, false, false] rfl rfl (one_of HT_.out (by kernel_rfl)) (by decide) (fun K hK => ?_)
                                        refine goes_ Try.func13 (by kernel_rfl) rfl #[.string a0, .string a0] (by rfl) rfl rfl (by (try simp only [List.map_toArray, List.map_cons, List.map_nil]); first | done | rfl | (simp only [List.length_drop, List.length_take]; rfl)) ?_
                                        with_reducible refine (glob_Match.calls k2 a0 a0 true _ A21.out).mono ?_
                                        rintro e w53 ⟨rfl, hb⟩
                                        refine ⟨_, rfl, ?_⟩
                                        have n0_ := Aside0.mk (below_step (by repeat (first | (with_reducible first | exact HB.out | apply below_alloc | apply pw_below_drewN | apply below_drew1) | exact HB.out)) hb)
                                        clear HB
                                        have HB := n0_
                                        clear n0_
                                        (try clear hb)
                                        (try clear hb2)
                                        (try clear hk)
                                        (try clear hi)
                                        refine hK.out _ _ trivial (fun hHeld => ?_)
                                        clear hK K
                                        refine norm_ (a' := ?_) ?_ ?_
                                        rotate_left
                                        · show Act.put _ (some 59) _ = _
                                          simp only [Act.put, List.setIfInBounds_toArray, List.set_cons_zero, List.set_cons_succ, i64_w, i32_w]
                                          rfl
                                        refine pure_ (i := 3) (N := some 60) (v := ?_) (a' := ?_) #[true, true, true, true, false, false, false, false, false, false, false, false, false, false, false, false, false, false, false, false, false, false, false, false, false, false, false, false, false, false, false, false, false, false, false, false, false, false, false, false, false, false, false, false, false, false, false, false, false, false] rfl rfl (any_of HT_.out (by kernel_rfl)) (fun _ _ _ h => h) (Or.inl ⟨by rfl, ?_⟩) ?_ ?_
                                        rotate_left
                                        · intro w'
                                          go_simp
                                          with_reducible rfl
                                        rotate_left
                                        · simp only [Act.put, List.setIfInBounds_toArray, List.set_cons_zero, List.set_cons_succ, i64_w, i32_w]
                                          rfl
                                        refine pure_ (i := 4) (N := some 61) (v := ?_) (a' := ?_) #[true, true, true, true, true, false, false, false, false, false, false, false, false, false, false, false, false, false, false, false, false, false, false, false, false, false, false, false, false, false, false, false, false, false, false, false, false, false, false, false, false, false, false, false, false, false, false, false, false, false] rfl rfl (any_of HT_.out (by kernel_rfl)) (fun _ _ _ h => h) (Or.inl ⟨by rfl, ?_⟩) ?_ ?_
                                        rotate_left
                                        · intro w'
                                          go_simp
                                          with_reducible rfl
                                        rotate_left
                                        · simp only [Act.put, List.setIfInBounds_toArray, List.set_cons_zero, List.set_cons_succ, i64_w, i32_w]
                                          rfl
                                        refine pure_ (i := 5) (N := some 62) (v := ?_) (a' := ?_) #[true, true, true, true, true, true, false, false, false, false, false, false, false, false, false, false, false, false, false, false, false, false, false, false, false, false, false, false, false, false, false, false, false, false, false, false, false, false, false, false, false, false, false, false, false, false, false, false, false, false] rfl rfl (any_of HT_.out (by kernel_rfl)) (fun _ _ _ h => h) (Or.inl ⟨by rfl, ?_⟩) ?_ ?_
                                        rotate_left
                                        · intro w'
                                          go_simp
                                          with_reducible rfl
                                        rotate_left
                                        · simp only [Act.put, List.setIfInBounds_toArray, List.set_cons_zero, List.set_cons_succ, i64_w, i32_w]
                                          rfl
                                        refine pure_ (i := 6) (N := some 63) (v := ?_) (a' := ?_) #[true, true, true, true, true, true, true, false, false, false, false, false, false, false, false, false, false, false, false, false, false, false, false, false, false, false, false, false, false, false, false, false, false, false, false, false, false, false, false, false, false, false, false, false, false, false, false, false, false, false] rfl rfl (any_of HT_.out (by kernel_rfl)) (fun _ _ _ h => h) (Or.inl ⟨by rfl, ?_⟩) ?_ ?_
                                        rotate_left
                                        · intro w'
                                          go_simp
                                          with_reducible rfl
                                        rotate_left
                                        · simp only [Act.put, List.setIfInBounds_toArray, List.set_cons_zero, List.set_cons_succ, i64_w, i32_w]
                                          rfl
                                        refine one_ (i := 7) (N := some 64) #[true, true, true, true, true, true, true, true, false, false, false, false, false, false, false, false, false, false, false, false, false, false, false, false, false, false, false, false, false, false, false, false, false, false, false, false, false, false, false, false, false, false, false, false, false, false, false, false, false, false] rfl rfl (one_of HT_.out (by kernel_rfl)) (by decide) (fun K hK => ?_)
                                        refine goes_ Try.func13 (by kernel_rfl) rfl #[.string a0, .string (a0 ++ (⟨#[120]⟩ : ByteArray))] (by rfl) rfl rfl (by (try simp only [List.map_toArray, List.map_cons, List.map_nil]); first | done | rfl | (simp only [List.length_drop, List.length_take]; rfl)) ?_
                                        with_reducible refine (glob_Match.calls k2 a0 (a0 ++ (⟨#[120]⟩ : ByteArray)) t195 _ A24.out).mono ?_
                                        rintro e w54 ⟨rfl, hb⟩
                                        refine ⟨_, rfl, ?_⟩
                                        have n0_ := Aside0.mk (below_step (by repeat (first | (with_reducible first | exact HB.out | apply below_alloc | apply pw_below_drewN | apply below_drew1) | exact HB.out)) hb)
                                        clear HB
                                        have HB := n0_
                                        clear n0_
                                        (try clear hb)
                                        (try clear hb2)
                                        (try clear hk)
                                        (try clear hi)
                                        refine hK.out _ _ trivial (fun hHeld => ?_)
                                        clear hK K
                                        refine norm_ (a' := ?_) ?_ ?_
                                        rotate_left
                                        · show Act.put _ (some 64) _ = _
                                          simp only [Act.put, List.setIfInBounds_toArray, List.set_cons_zero, List.set_cons_succ, i64_w, i32_w]
                                          rfl
                                        refine pure_ (i := 8) (N := some 65) (v := ?_) (a' := ?_) #[true, true, true, true, true, true, true, true, true, false, false, false, false, false, false, false, false, false, false, false, false, false, false, false, false, false, false, false, false, false, false, false, false, false, false, false, false, false, false, false, false, false, false, false, false, false, false, false, false, false] rfl rfl (any_of HT_.out (by kernel_rfl)) (fun _ _ _ h => h) (Or.inl ⟨by rfl, ?_⟩) ?_ ?_
                                        rotate_left
                                        · intro w'
                                          go_simp
                                          with_reducible rfl
                                        rotate_left
                                        · simp only [Act.put, List.setIfInBounds_toArray, List.set_cons_zero, List.set_cons_succ, i64_w, i32_w]
                                          rfl
                                        refine pure_ (i := 9) (N := some 66) (v := ?_) (a' := ?_) #[true, true, true, true, true, true, true, true, true, true, false, false, false, false, false, false, false, false, false, false, false, false, false, false, false, false, false, false, false, false, false, false, false, false, false, false, false, false, false, false, false, false, false, false, false, false, false, false, false, false] rfl rfl (any_of HT_.out (by kernel_rfl)) (fun _ _ _ h => h) (Or.inl ⟨by rfl, ?_⟩) ?_ ?_
                                        rotate_left
                                        · intro w'
                                          go_simp
                                          with_reducible rfl
                                        rotate_left
                                        · simp only [Act.put, List.setIfInBounds_toArray, List.set_cons_zero, List.set_cons_succ, i64_w, i32_w]
                                          rfl
                                        refine pure_ (i := 10) (N := some 67) (v := ?_) (a' := ?_) #[true, true, true, true, true, true, true, true, true, true, true, false, false, false, false, false, false, false, false, false, false, false, false, false, false, false, false, false, false, false, false, false, false, false, false, false, false, false, false, false, false, false, false, false, false, false, false, false, false, false] rfl rfl (any_of HT_.out (by kernel_rfl)) (fun _ _ _ h => h) (Or.inl ⟨by rfl, ?_⟩) ?_ ?_
                                        rotate_left
                                        · intro w'
                                          go_simp
                                          with_reducible rfl
                                        rotate_left
                                        · simp only [Act.put, List.setIfInBounds_toArray, List.set_cons_zero, List.set_cons_succ, i64_w, i32_w]
                                          rfl
                                        refine pure_ (i := 11) (N := some 68) (v := ?_) (a' := ?_) #[true, true, true, true, true, true, true, true, true, true, true, true, false, false, false, false, false, false, false, false, false, false, false, false, false, false, false, false, false, false, false, false, false, false, false, false, false, false, false, false, false, false, false, false, false, false, false, false, false, false] rfl rfl (any_of HT_.out (by kernel_rfl)) (fun _ _ _ h => h) (Or.inl ⟨by rfl, ?_⟩) ?_ ?_
                                        rotate_left
                                        · intro w'
                                          go_simp
                                          with_reducible rfl
                                        rotate_left
                                        · simp only [Act.put, List.setIfInBounds_toArray, List.set_cons_zero, List.set_cons_succ, i64_w, i32_w]
                                          rfl
                                        refine pure_ (i := 12) (N := some 69) (v := ?_) (a' := ?_) #[true, true, true, true, true, true, true, true, true, true, true, true, true, false, false, false, false, false, false, false, false, false, false, false, false, false, false, false, false, false, false, false, false, false, false, false, false, false, false, false, false, false, false, false, false, false, false, false, false, false] rfl rfl (any_of HT_.out (by kernel_rfl)) (fun _ _ _ h => h) (Or.inl ⟨by rfl, ?_⟩) ?_ ?_
                                        rotate_left
                                        · intro w'
                                          go_simp
                                          with_reducible rfl
                                        rotate_left
                                        · simp only [Act.put, List.setIfInBounds_toArray, List.set_cons_zero, List.set_cons_succ, i64_w, i32_w]
                                          rfl
                                        refine pure_ (i := 13) (N := some 70) (v := ?_) (a' := ?_) #[true, true, true, true, true, true, true, true, true, true, true, true, true, true, false, false, false, false, false, false, false, false, false, false, false, false, false, false, false, false, false, false, false, false, false, false, false, false, false, false, false, false, false, false, false, false, false, false, false, false] rfl rfl (any_of HT_.out (by kernel_rfl)) (fun _ _ _ h => h) (Or.inl ⟨by rfl, ?_⟩) ?_ ?_
                                        rotate_left
                                        · intro w'
                                          go_simp
                                          with_reducible rfl
                                        rotate_left
                                        · simp only [Act.put, List.setIfInBounds_toArray, List.set_cons_zero, List.set_cons_succ, i64_w, i32_w]
                                          rfl
                                        refine pure_ (i := 14) (N := some 71) (v := ?_) (a' := ?_) #[true, true, true, true, true, true, true, true, true, true, true, true, true, true, true, false, false, false, false, false, false, false, false, false, false, false, false, false, false, false, false, false, false, false, false, false, false, false, false, false, false, false, false, false, false, false, false, false, false, false] rfl rfl (any_of HT_.out (by kernel_rfl)) (fun _ _ _ h => h) (Or.inl ⟨by rfl, ?_⟩) ?_ ?_
                                        rotate_left
                                        · intro w'
                                          go_simp
                                          with_reducible rfl
                                        rotate_left
                                        · simp only [Act.put, List.setIfInBounds_toArray, List.set_cons_zero, List.set_cons_succ, i64_w, i32_w]
                                          rfl
                                        refine pure_ (i := 15) (N := some 72) (v := ?_) (a' := ?_) #[true, true, true, true, true, true, true, true, true, true, true, true, true, true, true, true, false, false, false, false, false, false, false, false, false, false, false, false, false, false, false, false, false, false, false, false, false, false, false, false, false, false, false, false, false, false, false, false, false, false] rfl rfl (any_of HT_.out (by kernel_rfl)) (fun _ _ _ h => h) (Or.inl ⟨by rfl, ?_⟩) ?_ ?_
                                        rotate_left
                                        · intro w'
                                          go_simp
                                          with_reducible rfl
                                        rotate_left
                                        · simp only [Act.put, List.setIfInBounds_toArray, List.set_cons_zero, List.set_cons_succ, i64_w, i32_w]
                                          rfl
                                        refine pure_ (i := 16) (N := some 73) (v := ?_) (a' := ?_) #[true, true, true, true, true, true, true, true, true, true, true, true, true, true, true, true, true, false, false, false, false, false, false, false, false, false, false, false, false, false, false, false, false, false, false, false, false, false, false, false, false, false, false, false, false, false, false, false, false, false] rfl rfl (any_of HT_.out (by kernel_rfl)) (fun _ _ _ h => h) (Or.inl ⟨by rfl, ?_⟩) ?_ ?_
                                        rotate_left
                                        · intro w'
                                          go_simp
                                          with_reducible rfl
                                        rotate_left
                                        · simp only [Act.put, List.setIfInBounds_toArray, List.set_cons_zero, List.set_cons_succ, i64_w, i32_w]
                                          rfl
                                        refine pure_ (i := 17) (N := some 74) (v := ?_) (a' := ?_) #[true, true, true, true, true, true, true, true, true, true, true, true, true, true, true, true, true, true, false, false, false, false, false, false, false, false, false, false, false, false, false, false, false, false, false, false, false, false, false, false, false, false, false, false, false, false, false, false, false, false] rfl rfl (any_of HT_.out (by kernel_rfl)) (fun _ _ _ h => h) (Or.inl ⟨by rfl, ?_⟩) ?_ ?_
                                        rotate_left
                                        · intro w'
                                          go_simp
                                          with_reducible rfl
                                        rotate_left
                                        · simp only [Act.put, List.setIfInBounds_toArray, List.set_cons_zero, List.set_cons_succ, i64_w, i32_w]
                                          rfl
                                        refine pure_ (i := 18) (N := some 75) (v := ?_) (a' := ?_) #[true, true, true, true, true, true, true, true, true, true, true, true, true, true, true, true, true, true, true, false, false, false, false, false, false, false, false, false, false, false, false, false, false, false, false, false, false, false, false, false, false, false, false, false, false, false, false, false, false, false] rfl rfl (any_of HT_.out (by kernel_rfl)) (fun _ _ _ h => h) (Or.inl ⟨by rfl, ?_⟩) ?_ ?_
                                        rotate_left
                                        · intro w'
                                          go_simp
                                          with_reducible rfl
                                        rotate_left
                                        · simp only [Act.put, List.setIfInBounds_toArray, List.set_cons_zero, List.set_cons_succ, i64_w, i32_w]
                                          rfl
                                        refine pure_ (i := 19) (N := some 76) (v := ?_) (a' := ?_) #[true, true, true, true, true, true, true, true, true, true, true, true, true, true, true, true, true, true, true, true, false, false, false, false, false, false, false, false, false, false, false, false, false, false, false, false, false, false, false, false, false, false, false, false, false, false, false, false, false, false] rfl rfl (any_of HT_.out (by kernel_rfl)) (fun _ _ _ h => h) (Or.inl ⟨by rfl, ?_⟩) ?_ ?_
                                        rotate_left
                                        · intro w'
                                          go_simp
                                          with_reducible rfl
                                        rotate_left
                                        · simp only [Act.put, List.setIfInBounds_toArray, List.set_cons_zero, List.set_cons_succ, i64_w, i32_w]
                                          rfl
                                        refine pure_ (i := 20) (N := some 77) (v := ?_) (a' := ?_) #[true, true, true, true, true, true, true, true, true, true, true, true, true, true, true, true, true, true, true, true, true, false, false, false, false, false, false, false, false, false, false, false, false, false, false, false, false, false, false, false, false, false, false, false, false, false, false, false, false, false] rfl rfl (any_of HT_.out (by kernel_rfl)) (fun _ _ _ h => h) (Or.inl ⟨by rfl, ?_⟩) ?_ ?_
                                        rotate_left
                                        · intro w'
                                          go_simp
                                          with_reducible rfl
                                        rotate_left
                                        · simp only [Act.put, List.setIfInBounds_toArray, List.set_cons_zero, List.set_cons_succ, i64_w, i32_w]
                                          rfl
                                        refine pure_ (i := 21) (N := some 78) (v := ?_) (a' := ?_) #[true, true, true, true, true, true, true, true, true, true, true, true, true, true, true, true, true, true, true, true, true, true, false, false, false, false, false, false, false, false, false, false, false, false, false, false, false, false, false, false, false, false, false, false, false, false, false, false, false, false] rfl rfl (any_of HT_.out (by kernel_rfl)) (fun _ _ _ h => h) (Or.inl ⟨by rfl, ?_⟩) ?_ ?_
                                        rotate_left
                                        · intro w'
                                          go_simp
                                          with_reducible rfl
                                        rotate_left
                                        · simp only [Act.put, List.setIfInBounds_toArray, List.set_cons_zero, List.set_cons_succ, i64_w, i32_w]
                                          rfl
                                        refine pure_ (i := 22) (N := some 79) (v := ?_) (a' := ?_) #[true, true, true, true, true, true, true, true, true, true, true, true, true, true, true, true, true, true, true, true, true, true, true, false, false, false, false, false, false, false, false, false, false, false, false, false, false, false, false, false, false, false, false, false, false, false, false, false, false, false] rfl rfl (any_of HT_.out (by kernel_rfl)) (fun _ _ _ h => h) (Or.inl ⟨by rfl, ?_⟩) ?_ ?_
                                        rotate_left
                                        · intro w'
                                          go_simp
                                          with_reducible rfl
                                        rotate_left
                                        · simp only [Act.put, List.setIfInBounds_toArray, List.set_cons_zero, List.set_cons_succ, i64_w, i32_w]
                                          rfl
                                        refine pure_ (i := 23) (N := some 80) (v := ?_) (a' := ?_) #[true, true, true, true, true, true, true, true, true, true, true, true, true, true, true, true, true, true, true, true, true, true, true, true, false, false, false, false, false, false, false, false, false, false, false, false, false, false, false, false, false, false, false, false, false, false, false, false, false, false] rfl rfl (any_of HT_.out (by kernel_rfl)) (fun _ _ _ h => h) (Or.inl ⟨by rfl, ?_⟩) ?_ ?_
                                        rotate_left
                                        · intro w'
                                          go_simp
                                          with_reducible rfl
                                        rotate_left
                                        · simp only [Act.put, List.setIfInBounds_toArray, List.set_cons_zero, List.set_cons_succ, i64_w, i32_w]
                                          rfl
                                        refine pure_ (i := 24) (N := some 81) (v := ?_) (a' := ?_) #[true, true, true, true, true, true, true, true, true, true, true, true, true, true, true, true, true, true, true, true, true, true, true, true, true, false, false, false, false, false, false, false, false, false, false, false, false, false, false, false, false, false, false, false, false, false, false, false, false, false] rfl rfl (any_of HT_.out (by kernel_rfl)) (fun _ _ _ h => h) (Or.inl ⟨by rfl, ?_⟩) ?_ ?_
                                        rotate_left
                                        · intro w'
                                          go_simp
                                          with_reducible rfl
                                        rotate_left
                                        · simp only [Act.put, List.setIfInBounds_toArray, List.set_cons_zero, List.set_cons_succ, i64_w, i32_w]
                                          rfl
                                        refine pure_ (i := 25) (N := some 82) (v := ?_) (a' := ?_) #[true, true, true, true, true, true, true, true, true, true, true, true, true, true, true, true, true, true, true, true, true, true, true, true, true, true, false, false, false, false, false, false, false, false, false, false, false, false, false, false, false, false, false, false, false, false, false, false, false, false] rfl rfl (any_of HT_.out (by kernel_rfl)) (fun _ _ _ h => h) (Or.inl ⟨by rfl, ?_⟩) ?_ ?_
                                        rotate_left
                                        · intro w'
                                          go_simp
                                          with_reducible rfl
                                        rotate_left
                                        · simp only [Act.put, List.setIfInBounds_toArray, List.set_cons_zero, List.set_cons_succ, i64_w, i32_w]
                                          rfl
                                        refine pure_ (i := 26) (N := some 83) (v := ?_) (a' := ?_) #[true, true, true, true, true, true, true, true, true, true, true, true, true, true, true, true, true, true, true, true, true, true, true, true, true, true, true, false, false, false, false, false, false, false, false, false, false, false, false, false, false, false, false, false, false, false, false, false, false, false] rfl rfl (any_of HT_.out (by kernel_rfl)) (fun _ _ _ h => h) (Or.inl ⟨by rfl, ?_⟩) ?_ ?_
                                        rotate_left
                                        · intro w'
                                          go_simp
                                          with_reducible rfl
                                        rotate_left
                                        · simp only [Act.put, List.setIfInBounds_toArray, List.set_cons_zero, List.set_cons_succ, i64_w, i32_w]
                                          rfl
                                        refine pure_ (i := 27) (N := some 84) (v := ?_) (a' := ?_) #[true, true, true, true, true, true, true, true, true, true, true, true, true, true, true, true, true, true, true, true, true, true, true, true, true, true, true, true, false, false, false, false, false, false, false, false, false, false, false, false, false, false, false, false, false, false, false, false, false, false] rfl rfl (any_of HT_.out (by kernel_rfl)) (fun _ _ _ h => h) (Or.inl ⟨by rfl, ?_⟩) ?_ ?_
                                        rotate_left
                                        · intro w'
                                          go_simp
                                          with_reducible rfl
                                        rotate_left
                                        · simp only [Act.put, List.setIfInBounds_toArray, List.set_cons_zero, List.set_cons_succ, i64_w, i32_w]
                                          rfl
                                        refine one_ (i := 28) (N := some 85) #[true, true, true, true, true, true, true, true, true, true, true, true, true, true, true, true, true, true, true, true, true, true, true, true, true, true, true, true, true, false, false, false, false, false, false, false, false, false, false, false, false, false, false, false, false, false, false, false, false, false] rfl rfl (one_of HT_.out (by kernel_rfl)) (by decide) (fun K hK => ?_)
                                        refine goes_ Try.func13 (by kernel_rfl) rfl #[.string (((a0.extract 0 ((ji26) : Int).toNat) ++ (⟨#[42]⟩ : ByteArray)) ++ (a0.extract ((ji26) : Int).toNat a0.size)), .string (((a0.extract 0 ((ji26) : Int).toNat) ++ a2) ++ (a0.extract ((ji26) : Int).toNat a0.size))] (by rfl) rfl rfl (by (try simp only [List.map_toArray, List.map_cons, List.map_nil]); first | done | (simp only [hji26]; rfl) | rfl | (simp only [List.length_drop, List.length_take]; rfl)) ?_
                                        with_reducible refine (glob_Match.calls k2 (((a0.extract 0 ((ji26) : Int).toNat) ++ (⟨#[42]⟩ : ByteArray)) ++ (a0.extract ((ji26) : Int).toNat a0.size)) (((a0.extract 0 ((ji26) : Int).toNat) ++ a2) ++ (a0.extract ((ji26) : Int).toNat a0.size)) true _ A39.out).mono ?_
                                        rintro e w55 ⟨rfl, hb⟩
                                        refine ⟨_, rfl, ?_⟩
                                        have n0_ := Aside0.mk (below_step (by repeat (first | (with_reducible first | exact HB.out | apply below_alloc | apply pw_below_drewN | apply below_drew1) | exact HB.out)) hb)
                                        clear HB
                                        have HB := n0_
                                        clear n0_
                                        (try clear hb)
                                        (try clear hb2)
                                        (try clear hk)
                                        (try clear hi)
                                        refine hK.out _ _ trivial (fun hHeld => ?_)
                                        clear hK K
                                        refine norm_ (a' := ?_) ?_ ?_
                                        rotate_left
                                        · show Act.put _ (some 85) _ = _
                                          simp only [Act.put, List.setIfInBounds_toArray, List.set_cons_zero, List.set_cons_succ, i64_w, i32_w]
                                          rfl
                                        refine pure_ (i := 29) (N := some 86) (v := ?_) (a' := ?_) #[true, true, true, true, true, true, true, true, true, true, true, true, true, true, true, true, true, true, true, true, true, true, true, true, true, true, true, true, true, true, false, false, false, false, false, false, false, false, false, false, false, false, false, false, false, false, false, false, false, false] rfl rfl (any_of HT_.out (by kernel_rfl)) (fun _ _ _ h => h) (Or.inl ⟨by rfl, ?_⟩) ?_ ?_
                                        rotate_left
                                        · intro w'
                                          go_simp
                                          with_reducible rfl
                                        rotate_left
                                        · simp only [Act.put, List.setIfInBounds_toArray, List.set_cons_zero, List.set_cons_succ, i64_w, i32_w]
                                          rfl
                                        refine pure_ (i := 30) (N := some 87) (v := ?_) (a' := ?_) #[true, true, true, true, true, true, true, true, true, true, true, true, true, true, true, true, true, true, true, true, true, true, true, true, true, true, true, true, true, true, true, false, false, false, false, false, false, false, false, false, false, false, false, false, false, false, false, false, false, false] rfl rfl (any_of HT_.out (by kernel_rfl)) (fun _ _ _ h => h) (Or.inl ⟨by rfl, ?_⟩) ?_ ?_
                                        rotate_left
                                        · intro w'
                                          go_simp
                                          with_reducible rfl
                                        rotate_left
                                        · simp only [Act.put, List.setIfInBounds_toArray, List.set_cons_zero, List.set_cons_succ, i64_w, i32_w]
                                          rfl
                                        refine pure_ (i := 31) (N := some 88) (v := ?_) (a' := ?_) #[true, true, true, true, true, true, true, true, true, true, true, true, true, true, true, true, true, true, true, true, true, true, true, true, true, true, true, true, true, true, true, true, false, false, false, false, false, false, false, false, false, false, false, false, false, false, false, false, false, false] rfl rfl (any_of HT_.out (by kernel_rfl)) (fun _ _ _ h => h) (Or.inl ⟨by rfl, ?_⟩) ?_ ?_
                                        rotate_left
                                        · intro w'
                                          go_simp
                                          with_reducible rfl
                                        rotate_left
                                        · simp only [Act.put, List.setIfInBounds_toArray, List.set_cons_zero, List.set_cons_succ, i64_w, i32_w]
                                          rfl
                                        refine pure_ (i := 32) (N := some 89) (v := ?_) (a' := ?_) #[true, true, true, true, true, true, true, true, true, true, true, true, true, true, true, true, true, true, true, true, true, true, true, true, true, true, true, true, true, true, true, true, true, false, false, false, false, false, false, false, false, false, false, false, false, false, false, false, false, false] rfl rfl (any_of HT_.out (by kernel_rfl)) (fun _ _ _ h => h) (Or.inl ⟨by rfl, ?_⟩) ?_ ?_
                                        rotate_left
                                        · intro w'
                                          go_simp
                                          with_reducible rfl
                                        rotate_left
                                        · simp only [Act.put, List.setIfInBounds_toArray, List.set_cons_zero, List.set_cons_succ, i64_w, i32_w]
                                          rfl
                                        refine pure_ (i := 33) (N := some 90) (v := ?_) (a' := ?_) #[true, true, true, true, true, true, true, true, true, true, true, true, true, true, true, true, true, true, true, true, true, true, true, true, true, true, true, true, true, true, true, true, true, true, false, false, false, false, false, false, false, false, false, false, false, false, false, false, false, false] rfl rfl (any_of HT_.out (by kernel_rfl)) (fun _ _ _ h => h) (Or.inl ⟨by rfl, ?_⟩) ?_ ?_
                                        rotate_left
                                        · intro w'
                                          go_simp
                                          with_reducible rfl
                                        rotate_left
                                        · simp only [Act.put, List.setIfInBounds_toArray, List.set_cons_zero, List.set_cons_succ, i64_w, i32_w]
                                          rfl
                                        refine pure_ (i := 34) (N := some 91) (v := ?_) (a' := ?_) #[true, true, true, true, true, true, true, true, true, true, true, true, true, true, true, true, true, true, true, true, true, true, true, true, true, true, true, true, true, true, true, true, true, true, true, false, false, false, false, false, false, false, false, false, false, false, false, false, false, false] rfl rfl (any_of HT_.out (by kernel_rfl)) (fun _ _ _ h => h) (Or.inl ⟨by rfl, ?_⟩) ?_ ?_
                                        rotate_left
                                        · intro w'
                                          go_simp
                                          with_reducible rfl
                                        rotate_left
                                        · simp only [Act.put, List.setIfInBounds_toArray, List.set_cons_zero, List.set_cons_succ, i64_w, i32_w]
                                          rfl
                                        refine pure_ (i := 35) (N := some 92) (v := ?_) (a' := ?_) #[true, true, true, true, true, true, true, true, true, true, true, true, true, true, true, true, true, true, true, true, true, true, true, true, true, true, true, true, true, true, true, true, true, true, true, true, false, false, false, false, false, false, false, false, false, false, false, false, false, false] rfl rfl (any_of HT_.out (by kernel_rfl)) (fun _ _ _ h => h) (Or.inl ⟨by rfl, ?_⟩) ?_ ?_
                                        rotate_left
                                        · intro w'
                                          go_simp
                                          with_reducible rfl
                                        rotate_left
                                        · simp only [Act.put, List.setIfInBounds_toArray, List.set_cons_zero, List.set_cons_succ, i64_w, i32_w]
                                          rfl
                                        refine pure_ (i := 36) (N := some 93) (v := ?_) (a' := ?_) #[true, true, true, true, true, true, true, true, true, true, true, true, true, true, true, true, true, true, true, true, true, true, true, true, true, true, true, true, true, true, true, true, true, true, true, true, true, false, false, false, false, false, false, false, false, false, false, false, false, false] rfl rfl (any_of HT_.out (by kernel_rfl)) (fun _ _ _ h => h) (Or.inl ⟨by rfl, ?_⟩) ?_ ?_
                                        rotate_left
                                        · intro w'
                                          go_simp
                                          with_reducible rfl
                                        rotate_left
                                        · simp only [Act.put, List.setIfInBounds_toArray, List.set_cons_zero, List.set_cons_succ, i64_w, i32_w]
                                          rfl
                                        refine pure_ (i := 37) (N := some 94) (v := ?_) (a' := ?_) #[true, true, true, true, true, true, true, true, true, true, true, true, true, true, true, true, true, true, true, true, true, true, true, true, true, true, true, true, true, true, true, true, true, true, true, true, true, true, false, false, false, false, false, false, false, false, false, false, false, false] rfl rfl (any_of HT_.out (by kernel_rfl)) (fun _ _ _ h => h) (Or.inl ⟨by rfl, ?_⟩) ?_ ?_
                                        rotate_left
                                        · intro w'
                                          go_simp
                                          with_reducible rfl
                                        rotate_left
                                        · simp only [Act.put, List.setIfInBounds_toArray, List.set_cons_zero, List.set_cons_succ, i64_w, i32_w]
                                          rfl
                                        refine pure_ (i := 38) (N := some 95) (v := ?_) (a' := ?_) #[true, true, true, true, true, true, true, true, true, true, true, true, true, true, true, true, true, true, true, true, true, true, true, true, true, true, true, true, true, true, true, true, true, true, true, true, true, true, true, false, false, false, false, false, false, false, false, false, false, false] rfl rfl (any_of HT_.out (by kernel_rfl)) (fun _ _ _ h => h) (Or.inl ⟨by rfl, ?_⟩) ?_ ?_
                                        rotate_left
                                        · intro w'
                                          go_simp
                                          with_reducible rfl
                                        rotate_left
                                        · simp only [Act.put, List.setIfInBounds_toArray, List.set_cons_zero, List.set_cons_succ, i64_w, i32_w]
                                          rfl
                                        refine pure_ (i := 39) (N := some 96) (v := ?_) (a' := ?_) #[true, true, true, true, true, true, true, true, true, true, true, true, true, true, true, true, true, true, true, true, true, true, true, true, true, true, true, true, true, true, true, true, true, true, true, true, true, true, true, true, false, false, false, false, false, false, false, false, false, false] rfl rfl (any_of HT_.out (by kernel_rfl)) (fun _ _ _ h => h) (Or.inl ⟨by rfl, ?_⟩) ?_ ?_
                                        rotate_left
                                        · intro w'
                                          go_simp
                                          with_reducible rfl
                                        rotate_left
                                        · simp only [Act.put, List.setIfInBounds_toArray, List.set_cons_zero, List.set_cons_succ, i64_w, i32_w]
                                          rfl
                                        refine pure_ (i := 40) (N := some 97) (v := ?_) (a' := ?_) #[true, true, true, true, true, true, true, true, true, true, true, true, true, true, true, true, true, true, true, true, true, true, true, true, true, true, true, true, true, true, true, true, true, true, true, true, true, true, true, true, true, false, false, false, false, false, false, false, false, false] rfl rfl (any_of HT_.out (by kernel_rfl)) (fun _ _ _ h => h) (Or.inl ⟨by rfl, ?_⟩) ?_ ?_
                                        rotate_left
                                        · intro w'
                                          go_simp
                                          with_reducible rfl
                                        rotate_left
                                        · simp only [Act.put, List.setIfInBounds_toArray, List.set_cons_zero, List.set_cons_succ, i64_w, i32_w]
                                          rfl
                                        refine pure_ (i := 41) (N := some 98) (v := ?_) (a' := ?_) #[true, true, true, true, true, true, true, true, true, true, true, true, true, true, true, true, true, true, true, true, true, true, true, true, true, true, true, true, true, true, true, true, true, true, true, true, true, true, true, true, true, true, false, false, false, false, false, false, false, false] rfl rfl (any_of HT_.out (by kernel_rfl)) (fun _ _ _ h => h) (Or.inl ⟨by rfl, ?_⟩) ?_ ?_
                                        rotate_left
                                        · intro w'
                                          go_simp
                                          with_reducible rfl
                                        rotate_left
                                        · simp only [Act.put, List.setIfInBounds_toArray, List.set_cons_zero, List.set_cons_succ, i64_w, i32_w]
                                          rfl
                                        refine pure_ (i := 42) (N := some 99) (v := ?_) (a' := ?_) #[true, true, true, true, true, true, true, true, true, true, true, true, true, true, true, true, true, true, true, true, true, true, true, true, true, true, true, true, true, true, true, true, true, true, true, true, true, true, true, true, true, true, true, false, false, false, false, false, false, false] rfl rfl (any_of HT_.out (by kernel_rfl)) (fun _ _ _ h => h) (Or.inl ⟨by rfl, ?_⟩) ?_ ?_
                                        rotate_left
                                        · intro w'
                                          go_simp
                                          with_reducible rfl
                                        rotate_left
                                        · simp only [Act.put, List.setIfInBounds_toArray, List.set_cons_zero, List.set_cons_succ, i64_w, i32_w]
                                          rfl
                                        refine pure_ (i := 43) (N := some 100) (v := ?_) (a' := ?_) #[true, true, true, true, true, true, true, true, true, true, true, true, true, true, true, true, true, true, true, true, true, true, true, true, true, true, true, true, true, true, true, true, true, true, true, true, true, true, true, true, true, true, true, true, false, false, false, false, false, false] rfl rfl (any_of HT_.out (by kernel_rfl)) (fun _ _ _ h => h) (Or.inl ⟨by rfl, ?_⟩) ?_ ?_
                                        rotate_left
                                        · intro w'
                                          go_simp
                                          with_reducible rfl
                                        rotate_left
                                        · simp only [Act.put, List.setIfInBounds_toArray, List.set_cons_zero, List.set_cons_succ, i64_w, i32_w]
                                          rfl
                                        refine pure_ (i := 44) (N := some 101) (v := ?_) (a' := ?_) #[true, true, true, true, true, true, true, true, true, true, true, true, true, true, true, true, true, true, true, true, true, true, true, true, true, true, true, true, true, true, true, true, true, true, true, true, true, true, true, true, true, true, true, true, true, false, false, false, false, false] rfl rfl (any_of HT_.out (by kernel_rfl)) (fun _ _ _ h => h) (Or.inl ⟨by rfl, ?_⟩) ?_ ?_
                                        rotate_left
                                        · intro w'
                                          go_simp
                                          with_reducible rfl
                                        rotate_left
                                        · simp only [Act.put, List.setIfInBounds_toArray, List.set_cons_zero, List.set_cons_succ, i64_w, i32_w]
                                          rfl
                                        refine pure_ (i := 45) (N := some 102) (v := ?_) (a' := ?_) #[true, true, true, true, true, true, true, true, true, true, true, true, true, true, true, true, true, true, true, true, true, true, true, true, true, true, true, true, true, true, true, true, true, true, true, true, true, true, true, true, true, true, true, true, true, true, false, false, false, false] rfl rfl (any_of HT_.out (by kernel_rfl)) (fun _ _ _ h => h) (Or.inl ⟨by rfl, ?_⟩) ?_ ?_
                                        rotate_left
                                        · intro w'
                                          go_simp
                                          with_reducible rfl
                                        rotate_left
                                        · simp only [Act.put, List.setIfInBounds_toArray, List.set_cons_zero, List.set_cons_succ, i64_w, i32_w]
                                          rfl
                                        refine pure_ (i := 46) (N := some 103) (v := ?_) (a' := ?_) #[true, true, true, true, true, true, true, true, true, true, true, true, true, true, true, true, true, true, true, true, true, true, true, true, true, true, true, true, true, true, true, true, true, true, true, true, true, true, true, true, true, true, true, true, true, true, true, false, false, false] rfl rfl (any_of HT_.out (by kernel_rfl)) (fun _ _ _ h => h) (Or.inl ⟨by rfl, ?_⟩) ?_ ?_
                                        rotate_left
                                        · intro w'
                                          go_simp
                                          with_reducible rfl
                                        rotate_left
                                        · simp only [Act.put, List.setIfInBounds_toArray, List.set_cons_zero, List.set_cons_succ, i64_w, i32_w]
                                          rfl
                                        refine one_ (i := 47) (N := some 104) #[true, true, true, true, true, true, true, true, true, true, true, true, true, true, true, true, true, true, true, true, true, true, true, true, true, true, true, true, true, true, true, true, true, true, true, true, true, true, true, true, true, true, true, true, true, true, true, true, false, false] rfl rfl (one_of HT_.out (by kernel_rfl)) (by decide) (fun K hK => ?_)
                                        refine goes_ Try.func13 (by kernel_rfl) rfl #[.string (((a0.extract 0 ((ji26) : Int).toNat) ++ (⟨#[63]⟩ : ByteArray)) ++ (a0.extract ((ji26) : Int).toNat a0.size)), .string (((a0.extract 0 ((ji26) : Int).toNat) ++ (⟨#[121]⟩ : ByteArray)) ++ (a0.extract ((ji26) : Int).toNat a0.size))] (by rfl) rfl rfl (by (try simp only [List.map_toArray, List.map_cons, List.map_nil]); first | done | (simp only [hji26]; rfl) | rfl | (simp only [List.length_drop, List.length_take]; rfl)) ?_
                                        with_reducible refine (glob_Match.calls k2 (((a0.extract 0 ((ji26) : Int).toNat) ++ (⟨#[63]⟩ : ByteArray)) ++ (a0.extract ((ji26) : Int).toNat a0.size)) (((a0.extract 0 ((ji26) : Int).toNat) ++ (⟨#[121]⟩ : ByteArray)) ++ (a0.extract ((ji26) : Int).toNat a0.size)) t197 _ A51.out).mono ?_
                                        rintro e w56 ⟨rfl, hb⟩
                                        refine ⟨_, rfl, ?_⟩
                                        have n0_ := Aside0.mk (below_step (by repeat (first | (with_reducible first | exact HB.out | apply below_alloc | apply pw_below_drewN | apply below_drew1) | exact HB.out)) hb)
                                        clear HB
                                        have HB := n0_
                                        clear n0_
                                        (try clear hb)
                                        (try clear hb2)
                                        (try clear hk)
                                        (try clear hi)
                                        refine hK.out _ _ trivial (fun hHeld => ?_)
                                        clear hK K
                                        refine norm_ (a' := ?_) ?_ ?_
                                        rotate_left
                                        · show Act.put _ (some 104) _ = _
                                          simp only [Act.put, List.setIfInBounds_toArray, List.set_cons_zero, List.set_cons_succ, i64_w, i32_w]
                                          rfl
                                        refine pure_ (i := 48) (N := some 105) (v := ?_) (a' := ?_) #[true, true, true, true, true, true, true, true, true, true, true, true, true, true, true, true, true, true, true, true, true, true, true, true, true, true, true, true, true, true, true, true, true, true, true, true, true, true, true, true, true, true, true, true, true, true, true, true, true, false] rfl rfl (any_of HT_.out (by kernel_rfl)) (fun _ _ _ h => h) (Or.inl ⟨by rfl, ?_⟩) ?_ ?_
                                        rotate_left
                                        · intro w'
                                          go_simp
                                          with_reducible rfl
                                        rotate_left
                                        · simp only [Act.put, List.setIfInBounds_toArray, List.set_cons_zero, List.set_cons_succ, i64_w, i32_w]
                                          rfl
                                        refine pure_ (i := 49) (N := some 6) (v := ?_) (a' := ?_) #[true, true, true, true, true, true, true, true, true, true, true, true, true, true, true, true, true, true, true, true, true, true, true, true, true, true, true, true, true, true, true, true, true, true, true, true, true, true, true, true, true, true, true, true, true, true, true, true, true, true] rfl rfl (any_of HT_.out (by kernel_rfl)) (fun _ _ _ h => h) (Or.inl ⟨by rfl, ?_⟩) ?_ ?_
                                        rotate_left
                                        · intro w'
                                          go_simp
                                          with_reducible rfl
                                        rotate_left
                                        · simp only [Act.put, List.setIfInBounds_toArray, List.set_cons_zero, List.set_cons_succ, i64_w, i32_w]
                                          rfl
                                        refine done_ (done_of HT_.out (by kernel_rfl)) ?_
                                        try go_wp2
                                        go_ret
                                        exact ⟨by first | rfl | (simp [errW_none, errW_some] <;> rfl) | (simp only [← hji26]; first | rfl | (simp [errW_none, errW_some] <;> rfl)) | (simp [*, errW_none, errW_some] <;> rfl), by repeat (first | (with_reducible first | exact HB.out | apply below_alloc | apply pw_below_drewN | apply below_drew1) | exact HB.out)⟩
                                      · rw [if_neg c50] at H
                                        exact absurd H (by simp)
                                    · rw [if_neg c45] at H
                                      exact absurd H (by simp)
                                  · replace c40 := Bool.eq_false_iff.mpr c40
                                    subst c40
                                    have H1 : (none) = some r := by rw [if_neg (show ¬ (false = true) by decide)] at H; exact H
                                    clear H
                                    have H := H1
                                    clear H1
                                    exact absurd H (by simp)
                                · rw [if_neg c38] at H
                                  exact absurd H (by simp)
                              · rw [if_neg c35] at H
                                exact absurd H (by simp)
                            · rw [if_neg c32] at H
                              exact absurd H (by simp)
                          · rw [if_neg c29] at H
                            exact absurd H (by simp)
                        · rw [if_neg c28] at H
                          exact absurd H (by simp)
                      · rw [if_neg c27] at H
                        exact absurd H (by simp)
                    · rw [if_neg c25] at H
                      exact absurd H (by simp)
                  · rw [if_neg c23] at H
                    exact absurd H (by simp)
                · replace c22 := Bool.eq_false_iff.mpr c22
                  subst c22
                  have H1 : (none) = some r := by rw [if_neg (show ¬ (false = true) by decide)] at H; exact H
                  clear H
                  have H := H1
                  clear H1
                  exact absurd H (by simp)

/-- THE ONE PURE STATEMENT of escutcheonlaw17_GlobSelf: yours. -/
def escutcheonlaw17_GlobSelf.Pure : Prop := ∀ (a0 : ByteArray) (a1 : Int) (a2 : ByteArray), a0.size ≤ 140737488351232 → (Lit.int .i64 a1).wf = true → a2.size ≤ 140737488351232 → ∃ k, escutcheonlaw17_GlobSelf.f k a0 a1 a2 = some true
theorem escutcheonlaw17_GlobSelf.walk (P : escutcheonlaw17_GlobSelf.Pure) (a0 : ByteArray) (a1 : Int) (a2 : ByteArray) (w : World) (w0 : a0.size ≤ 140737488351232) (w1 : (Lit.int .i64 a1).wf = true) (w2 : a2.size ≤ 140737488351232) :
    Calls Try.prog 7 #[.string a0, .int .i64 a1, .string a2] w fun e w' => e = .returned (.bool true) ∧ Below w.heap.size w w' := by
  obtain ⟨k, h⟩ := P a0 a1 a2 w0 w1 w2
  refine (escutcheonlaw17_GlobSelf.calls k a0 a1 a2 true w h).mono ?_
  rintro e w' ⟨rfl, hd⟩
  exact ⟨rfl, hd⟩

end Go.Proofs.Ytigbeielobdfiaa.P
