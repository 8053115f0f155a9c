-- Written by wip/inj.py (the kit's print, with contracts typed by hand beside it).
import Derived.Test.YtagoibmemonkaaaPx0
import Derived.Test.YtagoibmemonkaaaPx7
namespace Go.Proofs.Ytagoibmemonkaaa.P
open Go.RowKit Go.Proofs.YtagoibmemonkaaaW.PrintWords Go.Proofs.YtagoibmemonkaaaW.PrintLast Go.Proofs.YtagoibmemonkaaaW.PrintMore
attribute [local go_sem] max2_int min2_int max_two min_two max_three min_three max_four min_four   -- for this text's walks alone
set_option linter.unusedVariables false
set_option linter.unusedSimpArgs false

/-! ### escutcheonref1_fold: function 26 -/
mutual
def escutcheonref1_fold.l0 : Nat → List Int → Option (List Int)
  | 0, _ => none
  | k + 1, x0 => (escutcheonref1_carry.f k x0).bind fun t128 => (if 0 ≤ (t128.length : Int) then (if ((t128.length : Int) : Int).toNat ≤ 35184372088832 then (escutcheonref1_fold.l1 k t128 false (List.replicate ((t128.length : Int) : Int).toNat 0) 0) else (none)) else (none))
def escutcheonref1_fold.l1 : Nat → List Int → Bool → List Int → Int → Option (List Int)
  | 0, _, _, _, _ => none
  | k + 1, x0, x3, x4, x5 => if x5 < (x0.length : Int) then (if x5 < 16 then (if 0 ≤ x5 then (if x5 < (x4.length : Int) then (escutcheonref1_fold.l1 k x0 x3 (x4.set (x5 : Int).toNat (wrap64 ((rd x4 x5) + (rd x0 x5)))) (wrap64 (x5 + 1))) else (none)) else (none)) else (if x5 = 16 then (if 16 < (x4.length : Int) then (if 16 < (x0.length : Int) then ((some (x4.set (16 : Int).toNat (wrap64 ((rd x4 16) + (Int.tmod (rd x0 16) 4))) : List Int)).bind fun y145 => (if 0 ≤ x5 then (if (wrap64 (x5 + 1)) < (x0.length : Int) then (if 0 ≤ (wrap64 (x5 + 1)) then (if 0 ≤ (wrap64 (x5 - 16)) then (if (wrap64 (x5 - 16)) < (x4.length : Int) then ((some (y145.set ((wrap64 (x5 - 16)) : Int).toNat (wrap64 ((rd y145 (wrap64 (x5 - 16))) + (wrap64 (5 * (wrap64 ((wrap64 (Int.tdiv (rd x0 x5) 4)) + (wrap64 ((Int.tmod (rd x0 (wrap64 (x5 + 1))) 4) * 64)))))))) : List Int)).bind fun y149 => (if x3 = true then (escutcheonref1_fold.l1 k x0 true y149 (wrap64 (x5 + 1))) else (escutcheonref1_fold.l1 k x0 (decide ((wrap64 ((wrap64 (Int.tdiv (rd x0 x5) 4)) + (wrap64 ((Int.tmod (rd x0 (wrap64 (x5 + 1))) 4) * 64)))) > 0)) y149 (wrap64 (x5 + 1))))) else (none)) else (none)) else (none)) else (if 0 ≤ (wrap64 (x5 - 16)) then (if (wrap64 (x5 - 16)) < (x4.length : Int) then ((some (y145.set ((wrap64 (x5 - 16)) : Int).toNat (wrap64 ((rd y145 (wrap64 (x5 - 16))) + (wrap64 (5 * (wrap64 (Int.tdiv (rd x0 x5) 4)))))) : List Int)).bind fun y151 => (if x3 = true then (escutcheonref1_fold.l1 k x0 true y151 (wrap64 (x5 + 1))) else (escutcheonref1_fold.l1 k x0 (decide ((wrap64 (Int.tdiv (rd x0 x5) 4)) > 0)) y151 (wrap64 (x5 + 1))))) else (none)) else (none))) else (none))) else (none)) else (none)) else (if 0 ≤ x5 then (if (wrap64 (x5 + 1)) < (x0.length : Int) then (if 0 ≤ (wrap64 (x5 + 1)) then (if 0 ≤ (wrap64 (x5 - 16)) then (if (wrap64 (x5 - 16)) < (x4.length : Int) then ((some (x4.set ((wrap64 (x5 - 16)) : Int).toNat (wrap64 ((rd x4 (wrap64 (x5 - 16))) + (wrap64 (5 * (wrap64 ((wrap64 (Int.tdiv (rd x0 x5) 4)) + (wrap64 ((Int.tmod (rd x0 (wrap64 (x5 + 1))) 4) * 64)))))))) : List Int)).bind fun y155 => (if x3 = true then (escutcheonref1_fold.l1 k x0 true y155 (wrap64 (x5 + 1))) else (escutcheonref1_fold.l1 k x0 (decide ((wrap64 ((wrap64 (Int.tdiv (rd x0 x5) 4)) + (wrap64 ((Int.tmod (rd x0 (wrap64 (x5 + 1))) 4) * 64)))) > 0)) y155 (wrap64 (x5 + 1))))) else (none)) else (none)) else (none)) else (if 0 ≤ (wrap64 (x5 - 16)) then (if (wrap64 (x5 - 16)) < (x4.length : Int) then ((some (x4.set ((wrap64 (x5 - 16)) : Int).toNat (wrap64 ((rd x4 (wrap64 (x5 - 16))) + (wrap64 (5 * (wrap64 (Int.tdiv (rd x0 x5) 4)))))) : List Int)).bind fun y157 => (if x3 = true then (escutcheonref1_fold.l1 k x0 true y157 (wrap64 (x5 + 1))) else (escutcheonref1_fold.l1 k x0 (decide ((wrap64 (Int.tdiv (rd x0 x5) 4)) > 0)) y157 (wrap64 (x5 + 1))))) else (none)) else (none))) else (none)))) else (if x3 = true then (escutcheonref1_fold.l0 k x4) else ((escutcheonref1_carry.f k x4).bind fun t134 => (if 18 ≤ (t134.length : Int) then (some (t134.take (18 : Int).toNat)) else (none))))
end
def escutcheonref1_fold.f (k : Nat) (l0 : List Int) : Option (List Int) := escutcheonref1_fold.l0 k l0
theorem escutcheonref1_fold.mono_l : ∀ k, (∀ y0, LeO (escutcheonref1_fold.l0 k y0) (escutcheonref1_fold.l0 (k + 1) y0)) ∧ (∀ y0 y1 y2 y3, LeO (escutcheonref1_fold.l1 k y0 y1 y2 y3) (escutcheonref1_fold.l1 (k + 1) y0 y1 y2 y3))
  | 0 => ⟨fun _ r h => by simp [escutcheonref1_fold.l0] at h, fun _ _ _ _ r h => by simp [escutcheonref1_fold.l1] at h⟩
  | k + 1 => by
    obtain ⟨ih0, ih1⟩ := escutcheonref1_fold.mono_l k
    refine ⟨?_, ?_⟩
    · intro y0
      unfold escutcheonref1_fold.l0
      repeat' first
      | (with_reducible exact ih0 _)
      | (with_reducible exact ih1 _ _ _ _)
      | (with_reducible exact escutcheonref1_carry.mono _ _)
      | (with_reducible exact LeO.refl _)
      | (with_reducible exact LeO.none _)
      | (with_reducible refine LeO.ite ?_ ?_)
      | (with_reducible refine LeO.bind ?_ (fun _ => ?_))
      | exact ih0 _
      | exact ih1 _ _ _ _
      | exact escutcheonref1_carry.mono _ _
      | exact LeO.none _
      | refine LeO.ite ?_ ?_
      | refine LeO.bind ?_ (fun _ => ?_)
    · intro y0 y1 y2 y3
      unfold escutcheonref1_fold.l1
      repeat' first
      | (with_reducible exact ih0 _)
      | (with_reducible exact ih1 _ _ _ _)
      | (with_reducible exact escutcheonref1_carry.mono _ _)
      | (with_reducible exact LeO.refl _)
      | (with_reducible exact LeO.none _)
      | (with_reducible refine LeO.ite ?_ ?_)
      | (with_reducible refine LeO.bind ?_ (fun _ => ?_))
      | exact ih0 _
      | exact ih1 _ _ _ _
      | exact escutcheonref1_carry.mono _ _
      | exact LeO.none _
      | refine LeO.ite ?_ ?_
      | refine LeO.bind ?_ (fun _ => ?_)
theorem escutcheonref1_fold.mono : ∀ a0 k, LeO (escutcheonref1_fold.f k a0) (escutcheonref1_fold.f (k + 1) a0) := by
  intro a0 k
  obtain ⟨ih0, ih1⟩ := escutcheonref1_fold.mono_l k
  unfold escutcheonref1_fold.f
  repeat' first
      | (with_reducible exact ih0 _)
      | (with_reducible exact ih1 _ _ _ _)
      | (with_reducible exact escutcheonref1_carry.mono _ _)
      | (with_reducible exact LeO.refl _)
      | (with_reducible exact LeO.none _)
      | (with_reducible refine LeO.ite ?_ ?_)
      | (with_reducible refine LeO.bind ?_ (fun _ => ?_))
      | exact ih0 _
      | exact ih1 _ _ _ _
      | exact escutcheonref1_carry.mono _ _
      | exact LeO.none _
      | refine LeO.ite ?_ ?_
      | refine LeO.bind ?_ (fun _ => ?_)
def escutcheonref1_fold.T8 : Bool × List (List Nat × List Nat) := (true, [([], []), ([], []), ([], []), ([], []), ([2, 3], [2, 3]), ([4], [4]), ([], []), ([], []), ([6, 7], [6, 7]), ([8], [8]), ([5, 9], [5, 9]), ([0, 1, 0, 1, 2, 3, 4, 5, 6, 7, 8, 9, 10], [0, 1]), ([11, 10, 0, 1, 2, 3, 4, 5, 6, 7, 8, 9, 10], [10, 11])])
def escutcheonref1_fold.B8 : List Nat := [0, 0, 0, 0, 12, 28, 0, 0, 192, 448, 1020, 2047, 4095]
theorem escutcheonref1_fold.tab8 : rtab .any (opsOf Try.f26 8) = escutcheonref1_fold.T8 := by kernel_rfl
theorem escutcheonref1_fold.bits8 : waitsOk escutcheonref1_fold.T8.2 escutcheonref1_fold.B8 = true := by kernel_rfl
def escutcheonref1_fold.T10 : Bool × List (List Nat × List Nat) := (true, [([], []), ([], []), ([1], [1]), ([2], [2]), ([], []), ([4], [4]), ([5], [5]), ([6], [6]), ([3, 7], [3, 7]), ([0, 0, 1, 2, 3, 4, 5, 6, 7, 8], [0]), ([9, 8, 0, 1, 2, 3, 4, 5, 6, 7, 8], [8, 9])])
def escutcheonref1_fold.B10 : List Nat := [0, 0, 2, 6, 0, 16, 48, 112, 254, 511, 1023]
theorem escutcheonref1_fold.tab10 : rtab .any (opsOf Try.f26 10) = escutcheonref1_fold.T10 := by kernel_rfl
theorem escutcheonref1_fold.bits10 : waitsOk escutcheonref1_fold.T10.2 escutcheonref1_fold.B10 = true := by kernel_rfl
set_option maxHeartbeats 8000000 in
set_option maxRecDepth 100000 in
theorem escutcheonref1_fold.calls (k : Nat) (P0_ : Nat → Prop) (A0 : Option Addr) (c0 : Nat) (l0 : List Int) (r : List Int) (w : World) (hs0 : Kd.V (Kd.int .i64) 3 w w.heap.size (fun k_ => P0_ k_) (.slice A0 l0.length c0) l0) (h : escutcheonref1_fold.f k l0 = some r) :
    Calls Try.prog 26 #[.slice A0 l0.length c0] w fun e w' => ∃ v0_ : Value, e = .returned (v0_) ∧ Kd.R (Kd.int .i64) 3 w' w.heap.size (fun k_ => (w.heap.size ≤ k_)) v0_ r ∧ Below w.heap.size w w' := by
  have HO0 := Aside0.mk (show Kd.V (Kd.int .i64) 3 w w.heap.size (fun k_ => (P0_ k_ ∨ w.heap.size ≤ k_)) (.slice A0 l0.length c0) l0 from Kd.V_mono hs0 (fun k_ hk => .inl hk))
  have HB := Aside0.mk (Below.refl w.heap.size w)
  have H : (escutcheonref1_fold.l0 k l0) = some r := h
  clear h
  have H' := Aside0.mk H
  clear H
  go_enter Try.func26, Try.ntmps26
  go_wp2
  go_loopg [0] k (fun kq v0 w' => ∃ (x0_1 : List Int), Aside0 (escutcheonref1_fold.l0 kq x0_1 = some r) ∧ Aside0 (kq ≤ k) ∧ Aside0 (Kd.V (Kd.int .i64) 3 w' w.heap.size (fun k_ => (P0_ k_ ∨ w.heap.size ≤ k_)) v0 x0_1) ∧ Aside0 (Below w.heap.size w w'))
  case atStart => exact ⟨(l0), H', ⟨Nat.le_refl _⟩, ⟨by (with_reducible repeat (first | apply Kd.V_alloc | apply Kd.V_drewN | apply Kd.V_drew)); exact HO0.out⟩, ⟨by repeat (first | (with_reducible first | exact HB.out | apply below_alloc | apply pw_below_drewN | apply below_drew1) | exact HB.out)⟩⟩
  case round =>
    clear H'
    obtain ⟨x0_1, HA, HK1, HO_0, HB⟩ := hrel
    cases gk with
    | zero => exact absurd HA.out (by simp [escutcheonref1_fold.l0])
    | succ k1 =>
      have H := HA.out
      clear HA
      simp only [escutcheonref1_fold.l0] at H
      replace H := Option.bind_eq_some_iff.mp H
      obtain ⟨t128, A20, H⟩ := H
      replace H : (if 0 ≤ (t128.length : Int) then (if ((t128.length : Int) : Int).toNat ≤ 35184372088832 then (escutcheonref1_fold.l1 k1 t128 false (List.replicate ((t128.length : Int) : Int).toNat 0) 0) else (none)) else (none)) = some r := H
      have A2 := Aside0.mk A20
      clear A20
      by_cases c3 : 0 ≤ (t128.length : Int)
      · rw [if_pos c3] at H
        have c3b0 := eq_true c3
        have c3b1 : decide (0 ≤ (t128.length : Int)) = true := decide_eq_true c3
        clear c3
        by_cases c4 : ((t128.length : Int) : Int).toNat ≤ 35184372088832
        · rw [if_pos c4] at H
          have c4b0 := eq_true c4
          have c4b1 : decide (((t128.length : Int) : Int).toNat ≤ 35184372088832) = true := decide_eq_true c4
          clear c4
          obtain ⟨y131, hy131⟩ : ∃ y_ : List Int, y_ = (List.replicate ((t128.length : Int) : Int).toNat 0) := ⟨_, rfl⟩
          replace H : (escutcheonref1_fold.l1 k1 t128 false y131 0) = some r := by first | (rw [hy131]; with_reducible exact H) | (have H2_ := (Option.bind_some _ _).symm.trans H; rw [hy131]; with_reducible exact H2_) | (have H2_ := (Option.bind_some _ _).symm.trans H; with_reducible exact H2_) | with_reducible exact H | (rw [hy131]; exact H) | exact H
          have Ny131 := Aside0.mk hy131
          clear hy131
          have H' := Aside0.mk H
          clear H
          obtain ⟨Ao5, co5, eo5⟩ := Kd.V_slice HO_0.out
          subst eo5
          go_wp2_with (first | ((with_reducible refine gate_callee (f := 25) rfl ?_); refine goesL_ (some 8) rfl rfl Try.func25 (by kernel_rfl) rfl #[.slice Ao5 x0_1.length co5] rfl (by (try simp only [List.map_toArray, List.map_cons, List.map_nil]); first | done | rfl | (simp only [List.length_drop, List.length_take]; rfl)) ?_; (with_reducible refine (escutcheonref1_carry.calls k1 _ _ x0_1 t128 _ ?side1 ?side2 A2.out).mono ?_); (case side1 => repeat (first | exact (Kd.V_reads' HO_0.out).2.2 | (with_reducible refine Kd.C_alloc ?_ _) | (with_reducible refine Kd.C_drewN ?_ _) | (with_reducible refine Kd.C_drew ?_))); (case side2 => exact (Kd.V_reads' HO_0.out).2.1); rintro e w6 ⟨v129, rfl, ho0, hb⟩; refine ⟨_, rfl, ?_⟩; have n0_ := Aside0.mk (Kd.V_elder' (by (with_reducible repeat (first | apply Kd.V_alloc | apply Kd.V_drewN | apply Kd.V_drew)); exact HO_0.out) (Kd.R_base ho0) hb); have n1_ := Aside0.mk (Kd.R_lower (Kd.R_newM (M := fun k_ => (w.heap.size ≤ k_)) ho0 (below_size (by repeat (first | (with_reducible first | exact HB.out | apply below_alloc | apply pw_below_drewN | apply below_drew1) | exact HB.out))) (fun k_ h_ => h_)) (below_size (by repeat (first | (with_reducible first | exact HB.out | apply below_alloc | apply pw_below_drewN | apply below_drew1) | exact HB.out)))); have n2_ := Aside0.mk (below_step (by repeat (first | (with_reducible first | exact HB.out | apply below_alloc | apply pw_below_drewN | apply below_drew1) | exact HB.out)) hb); clear HO_0; clear HB; have HO_0 := n0_; have HO130 := n1_; have HB := n2_; clear n0_ n1_ n2_; (try clear hb); (try clear hb2); (try clear hk); (try clear hi); (try clear ho0); obtain ⟨Ao7, co7, eo7⟩ := Kd.R_slice HO130.out; subst eo7) | ((with_reducible refine gate_dst (N := 11) rfl ?_); refine Kd.R_make (Kd.int .i64) _ 3 rfl (N := 11) rfl 46 _ _ rfl (t128.length : Int) rfl rfl Try.underlying46 (.int .i64 0) 8 info3 rfl (by decide) (by omega) 0 (ok := fun _ => True) (okp := fun _ => True) rfl (fun _ hk => hk) trivial (of_decide_eq_true (by first | (with_reducible assumption) | assumption)) (Nat.le_trans (Nat.mul_le_mul_right _ (of_decide_eq_true (by first | (with_reducible assumption) | assumption) : (t128.length : Int).toNat ≤ 35184372088832)) (by omega)) (Below.refl _ _) (Nat.le_refl _) ?_; intro v132 w8 ho9 hb hg_ hnew_; clear hg_ hnew_; (first | rw [← Ny131.out] at ho9 | (simp only [Int.reduceToNat] at ho9; rw [← Ny131.out] at ho9)); have n0_ := Aside0.mk (Kd.V_elder' (by (with_reducible repeat (first | apply Kd.V_alloc | apply Kd.V_drewN | apply Kd.V_drew)); exact HO_0.out) (Kd.R_base ho9) hb); have n1_ := Aside0.mk (Kd.R_elder' (by (with_reducible repeat (first | apply Kd.R_alloc | apply Kd.R_drewN | apply Kd.R_drew)); exact HO130.out) (Kd.R_base ho9) hb); have n2_ := Aside0.mk (Kd.R_lower (Kd.R_new' (Kd.R_newM (M := fun k_ => (w.heap.size ≤ k_)) ho9 (below_size (by repeat (first | (with_reducible first | exact HB.out | apply below_alloc | apply pw_below_drewN | apply below_drew1) | exact HB.out))) (fun k_ h_ => h_)) (Kd.R_lt (by (with_reducible repeat (first | apply Kd.R_alloc | apply Kd.R_drewN | apply Kd.R_drew)); exact HO130.out))) (below_size (by repeat (first | (with_reducible first | exact HB.out | apply below_alloc | apply pw_below_drewN | apply below_drew1) | exact HB.out)))); have n3_ := Aside0.mk (below_step (by repeat (first | (with_reducible first | exact HB.out | apply below_alloc | apply pw_below_drewN | apply below_drew1) | exact HB.out)) hb); clear HO_0; clear HO130; clear HB; have HO_0 := n0_; have HO130 := n1_; have HO133 := n2_; have HB := n3_; clear n0_ n1_ n2_ n3_; clear hb ho9))
          go_loopg [3, 5] k1 (fun kq v3 v5 w' => ∃ (x3_2 : Bool) (x4_2 : List Int) (x5_2 : Int), v3 = .bool x3_2 ∧ v5 = .int .i64 x5_2 ∧ Aside0 (escutcheonref1_fold.l1 kq t128 x3_2 x4_2 x5_2 = some r) ∧ Aside0 (kq ≤ k1) ∧ Aside0 (Kd.R (Kd.int .i64) 3 w' w.heap.size (fun k_ => (w.heap.size ≤ k_) ∧ some k_ ≠ (v132 : Value).ownBlock) (.slice Ao7 t128.length co7) t128) ∧ Aside0 (Kd.R (Kd.int .i64) 3 w' w.heap.size (fun k_ => (w.heap.size ≤ k_) ∧ some k_ ≠ ((.slice Ao7 t128.length co7) : Value).ownBlock) v132 x4_2) ∧ Aside0 (Below w.heap.size w w'))
          case atStart => exact ⟨(false), (y131), (0), (by first | rfl | (simp; done) | (simp [*]; done)), (by first | rfl | (simp; done) | (simp [*]; done)), H', ⟨Nat.le_refl _⟩, ⟨by (with_reducible repeat (first | apply Kd.R_alloc | apply Kd.R_drewN | apply Kd.R_drew)); exact Kd.R_mono HO130.out (fun _ hk => ⟨hk.1.1, hk.2⟩)⟩, ⟨by (with_reducible repeat (first | apply Kd.R_alloc | apply Kd.R_drewN | apply Kd.R_drew)); exact Kd.R_mono HO133.out (fun _ hk => ⟨hk.1.1, hk.2⟩)⟩, ⟨by repeat (first | (with_reducible first | exact HB.out | apply below_alloc | apply pw_below_drewN | apply below_drew1) | exact HB.out)⟩⟩
          case round =>
            clear H'
            try clear c2
            try clear p2
            try clear c3
            try clear c3b0
            try clear c3b1
            try clear c4
            try clear c4b0
            try clear c4b1
            obtain ⟨x3_2, x4_2, x5_2, rfl, rfl, HA, HK2, HO_0, HO_4, HB⟩ := hrel
            cases gk with
            | zero => exact absurd HA.out (by simp [escutcheonref1_fold.l1])
            | succ k2 =>
              have H := HA.out
              clear HA
              simp only [escutcheonref1_fold.l1] at H
              by_cases c10 : x5_2 < (t128.length : Int)
              · rw [if_pos c10] at H
                have c10b0 : decide (x5_2 < (t128.length : Int)) = true := decide_eq_true c10
                clear c10
                by_cases c11 : x5_2 < 16
                · rw [if_pos c11] at H
                  have c11b0 : decide (x5_2 < 16) = true := decide_eq_true c11
                  clear c11
                  by_cases c12 : 0 ≤ x5_2
                  · rw [if_pos c12] at H
                    have c12b0 : decide (0 ≤ x5_2) = true := decide_eq_true c12
                    clear c12
                    by_cases c13 : x5_2 < (x4_2.length : Int)
                    · rw [if_pos c13] at H
                      have c13b0 : decide (x5_2 < (x4_2.length : Int)) = true := decide_eq_true c13
                      clear c13
                      obtain ⟨y142, hy142⟩ : ∃ y_ : List Int, y_ = (x4_2.set (x5_2 : Int).toNat (wrap64 ((rd x4_2 x5_2) + (rd t128 x5_2)))) := ⟨_, rfl⟩
                      replace H : (escutcheonref1_fold.l1 k2 t128 x3_2 y142 (wrap64 (x5_2 + 1))) = some r := by first | (rw [hy142]; with_reducible exact H) | (have H2_ := (Option.bind_some _ _).symm.trans H; rw [hy142]; with_reducible exact H2_) | (have H2_ := (Option.bind_some _ _).symm.trans H; with_reducible exact H2_) | with_reducible exact H | (rw [hy142]; exact H) | exact H
                      have Ny142 := Aside0.mk hy142
                      clear hy142
                      have H' := Aside0.mk H
                      clear H
                      try go_wp2
                      have n0_ := Aside0.mk (Kd.R_drew HO_0.out)
                      have n1_ := Aside0.mk (Kd.R_drew HO_4.out)
                      have n2_ := Aside0.mk (below_drew1 HB.out)
                      clear HO_0
                      clear HO_4
                      clear HB
                      have HO_0 := n0_
                      have HO_4 := n1_
                      have HB := n2_
                      clear n0_ n1_ n2_
                      obtain ⟨Ao16, co16, eo16⟩ := Kd.R_slice HO_4.out
                      (first | subst eo16 | (injection eo16 with f1_ f2_ f3_; have f4_ := f1_.symm; have f5_ := f3_.symm; clear f1_ f2_ f3_; subst f4_; subst f5_))
                      have p140 : 0 ≤ (x5_2 : Int) := of_decide_eq_true (by first | (with_reducible assumption) | assumption)
                      have q140 : x5_2 < (x4_2.length : Int) := of_decide_eq_true (by first | (with_reducible assumption) | assumption)
                      obtain ⟨ad140, e140, hx140_0⟩ := Kd.at_int (Kd.R_reads' HO_4.out).2.2 x5_2 p140 q140
                      cases e140
                      replace p140 := eq_true p140
                      replace q140 := eq_true q140
                      have p141 : 0 ≤ (x5_2 : Int) := of_decide_eq_true (by first | (with_reducible assumption) | assumption)
                      have q141 : x5_2 < (t128.length : Int) := of_decide_eq_true (by first | (with_reducible assumption) | assumption)
                      obtain ⟨ad141, e141, hx141_0⟩ := Kd.at_int (Kd.R_reads' HO_0.out).2.2 x5_2 p141 q141
                      cases e141
                      replace p141 := eq_true p141
                      replace q141 := eq_true q141
                      have p14 : 0 ≤ (x5_2 : Int) := of_decide_eq_true (by first | (with_reducible assumption) | assumption)
                      have q14 : (x5_2 : Int) < ((x4_2.length : Int) : Int) := of_decide_eq_true (by first | (with_reducible assumption) | assumption)
                      obtain ⟨go14, co14, eo14, gb14, gl14, cl14, HG14⟩ := Kd.R_form HO_4.out (by omega)
                      (first | cases eo14 | (injection eo14 with ea_ en_ ec_; (first | subst ea_ | (injection ea_ with ea_; subst ea_)); subst ec_; clear en_))
                      have GB14 := Aside0.mk gb14
                      have GG14 := Aside0.mk HG14
                      clear gb14 gl14 HG14
                      (first | simp only [add_plain] at hx140_0 | skip)
                      obtain ⟨hx14_0, hf14_0⟩ := Kd.R_celln 0 HO_4.out (x5_2 : Int) p14 q14
                      replace p14 := eq_true p14
                      replace q14 := eq_true q14
                      have HP17 := Kd.R_putn HO_4.out (x5_2 : Int) (wrap64 ((rd x4_2 x5_2) + (rd t128 x5_2)))
                      rw [← Ny142.out] at HP17
                      have HQ17 := Aside0.mk HP17
                      clear HP17
                      refine start_ (n := 13) (S := fun w' => w'.cell? ⟨go14, (x5_2).toNat, none⟩ = some (.int .i64 (rd x4_2 x5_2)) ∧ w'.cell? (ad141.add (x5_2).toNat) = some (.int .i64 (rd t128 x5_2))) (ds := [12]) #[false, false, false, false, false, false, false, false, false, false, false, false, false] (by kernel_rfl) rfl rfl ⟨hx140_0, hx141_0⟩ (fun hHeld => ?_); refine with_tabW escutcheonref1_fold.tab8 escutcheonref1_fold.bits8 (fun HT_ HW_ => ?_)
                      generalize wr.drew = w15 at HO_0 HO_4 HB GG14 HQ17 hf14_0 hx140_0 hx141_0 hx14_0 hHeld ⊢
                      refine pure_ (i := 0) (N := some 20) (v := ?_) (a' := ?_) #[true, false, false, false, false, false, false, false, false, false, false, false, false] rfl rfl (any_of HT_.out (by kernel_rfl)) (fun _ _ _ h => h) (Or.inl ⟨by rfl, ?_⟩) ?_ ?_
                      rotate_left
                      · intro w'
                        go_simp
                        with_reducible rfl
                      rotate_left
                      · simp only [Act.put, List.setIfInBounds_toArray, List.set_cons_zero, List.set_cons_succ, i64_w, i32_w]
                        rfl
                      refine pure_ (i := 1) (N := some 21) (v := ?_) (a' := ?_) #[true, true, false, false, false, false, false, false, false, false, false, false, false] rfl rfl (any_of HT_.out (by kernel_rfl)) (fun _ _ _ h => h) (Or.inl ⟨by rfl, ?_⟩) ?_ ?_
                      rotate_left
                      · intro w'
                        go_simp
                        with_reducible rfl
                      rotate_left
                      · simp only [Act.put, List.setIfInBounds_toArray, List.set_cons_zero, List.set_cons_succ, i64_w, i32_w]
                        rfl
                      refine pure_ (i := 2) (N := some 22) (v := ?_) (a' := ?_) #[true, true, true, false, false, false, false, false, false, false, false, false, false] rfl rfl (any_of HT_.out (by kernel_rfl)) (fun _ _ _ h => h) (Or.inl ⟨by rfl, ?_⟩) ?_ ?_
                      rotate_left
                      · intro w'
                        go_simp
                        with_reducible rfl
                      rotate_left
                      · simp only [Act.put, List.setIfInBounds_toArray, List.set_cons_zero, List.set_cons_succ, i64_w, i32_w]
                        rfl
                      refine pure_ (i := 3) (N := some 23) (v := ?_) (a' := ?_) #[true, true, true, true, false, false, false, false, false, false, false, false, false] rfl rfl (any_of HT_.out (by kernel_rfl)) (fun _ _ _ h => h) (Or.inl ⟨by rfl, ?_⟩) ?_ ?_
                      rotate_left
                      · intro w'
                        go_simp
                        with_reducible rfl
                      rotate_left
                      · simp only [Act.put, List.setIfInBounds_toArray, List.set_cons_zero, List.set_cons_succ, i64_w, i32_w]
                        rfl
                      refine pure_ (i := 4) (N := some 24) (v := ?_) (a' := ?_) #[true, true, true, true, true, false, false, false, false, false, false, false, false] rfl rfl (any_of HT_.out (by kernel_rfl)) (fun _ _ _ h => h) (Or.inl ⟨by rfl, ?_⟩) ?_ ?_
                      rotate_left
                      · intro w'
                        go_simp
                        with_reducible rfl
                      rotate_left
                      · simp only [Act.put, List.setIfInBounds_toArray, List.set_cons_zero, List.set_cons_succ, i64_w, i32_w]
                        rfl
                      refine pure_ (i := 6) (N := some 26) (v := ?_) (a' := ?_) #[true, true, true, true, true, false, true, false, false, false, false, false, false] rfl rfl (any_of HT_.out (by kernel_rfl)) (fun _ _ _ h => h) (Or.inl ⟨by rfl, ?_⟩) ?_ ?_
                      rotate_left
                      · intro w'
                        go_simp
                        with_reducible rfl
                      rotate_left
                      · simp only [Act.put, List.setIfInBounds_toArray, List.set_cons_zero, List.set_cons_succ, i64_w, i32_w]
                        rfl
                      refine pure_ (i := 7) (N := some 27) (v := ?_) (a' := ?_) #[true, true, true, true, true, false, true, true, false, false, false, false, false] rfl rfl (any_of HT_.out (by kernel_rfl)) (fun _ _ _ h => h) (Or.inl ⟨by rfl, ?_⟩) ?_ ?_
                      rotate_left
                      · intro w'
                        go_simp
                        with_reducible rfl
                      rotate_left
                      · simp only [Act.put, List.setIfInBounds_toArray, List.set_cons_zero, List.set_cons_succ, i64_w, i32_w]
                        rfl
                      refine pure_ (i := 8) (N := some 28) (v := ?_) (a' := ?_) #[true, true, true, true, true, false, true, true, true, false, false, false, false] rfl rfl (any_of HT_.out (by kernel_rfl)) (fun _ _ _ h => h) (Or.inl ⟨by rfl, ?_⟩) ?_ ?_
                      rotate_left
                      · intro w'
                        go_simp
                        with_reducible rfl
                      rotate_left
                      · simp only [Act.put, List.setIfInBounds_toArray, List.set_cons_zero, List.set_cons_succ, i64_w, i32_w]
                        rfl
                      refine take_ (i := 5) (N := some 25) (v := ?_) (a' := ?_) #[true, true, true, true, true, true, true, true, true, false, false, false, false] rfl rfl (take_ofW HT_.out HW_.out (by kernel_rfl)) (fun _ _ _ h => h) (Or.inl ⟨by rfl, ?_⟩) hHeld ?_ ?_
                      rotate_left
                      · rintro w' ⟨s0, s1⟩
                        go_simp
                        with_reducible rfl
                      rotate_left
                      · simp only [Act.put, List.setIfInBounds_toArray, List.set_cons_zero, List.set_cons_succ, i64_w, i32_w]
                        rfl
                      refine take_ (i := 9) (N := some 29) (v := ?_) (a' := ?_) #[true, true, true, true, true, true, true, true, true, true, false, false, false] rfl rfl (take_ofW HT_.out HW_.out (by kernel_rfl)) (fun _ _ _ h => h) (Or.inl ⟨by rfl, ?_⟩) hHeld ?_ ?_
                      rotate_left
                      · rintro w' ⟨s0, s1⟩
                        go_simp
                        with_reducible rfl
                      rotate_left
                      · simp only [Act.put, List.setIfInBounds_toArray, List.set_cons_zero, List.set_cons_succ, i64_w, i32_w]
                        rfl
                      refine pure_ (i := 10) (N := some 30) (v := ?_) (a' := ?_) #[true, true, true, true, true, true, true, true, true, true, true, false, false] rfl rfl (any_of HT_.out (by kernel_rfl)) (fun _ _ _ h => h) (Or.inl ⟨by rfl, ?_⟩) ?_ ?_
                      rotate_left
                      · intro w'
                        go_simp
                        with_reducible rfl
                      rotate_left
                      · simp only [Act.put, List.setIfInBounds_toArray, List.set_cons_zero, List.set_cons_succ, i64_w, i32_w]
                        rfl
                      refine pure_ (i := 11) (N := some 31) (v := ?_) (a' := ?_) #[true, true, true, true, true, true, true, true, true, true, true, true, false] rfl rfl (any_of HT_.out (by kernel_rfl)) (fun _ _ _ h => h) (Or.inl ⟨by rfl, ?_⟩) ?_ ?_
                      rotate_left
                      · intro w'
                        go_simp
                        with_reducible rfl
                      rotate_left
                      · simp only [Act.put, List.setIfInBounds_toArray, List.set_cons_zero, List.set_cons_succ, i64_w, i32_w]
                        rfl
                      refine last_ (i := 12) (N := none) #[true, true, true, true, true, true, true, true, true, true, true, true, true] rfl rfl (one_of HT_.out (by kernel_rfl)) (by decide) (fun K hK => ?_)
                      refine skip_ (w1 := ?_) (by rfl) rfl ?_ ?_
                      rotate_left
                      · first | (go_simp; rfl) | (have hSC_ := @cell_set_blk; go_simp; rfl)
                      refine hK.out _ _ ?_
                      clear hK K
                      refine done_ (done_of HT_.out (by kernel_rfl)) ?_
                      try go_wp2
                      go_roundg k2
                      case measure => have := HK1.out; have := HK2.out; omega
                      case rel => exact ⟨(x3_2), (y142), (wrap64 (x5_2 + 1)), (by first | rfl | (simp; done) | (simp [*]; done)), (by first | rfl | (simp; done) | (simp [*]; done)), H', ⟨by have := HK1.out; have := HK2.out; omega⟩, ⟨by (with_reducible repeat (first | apply Kd.R_alloc | apply Kd.R_drewN | apply Kd.R_drew)); exact Kd.R_mono (Kd.R_far (p := ⟨go14, (x5_2 : Int).toNat, none⟩) (Kd.R_mono HO_0.out (fun k_ hk => (⟨hk, fun e_ => hk.2 (by rw [e_]; rfl)⟩ : _ ∧ k_ ≠ go14))) (fun _ hk => hk.2) (.int .i64 (wrap64 ((rd x4_2 x5_2) + (rd t128 x5_2))))) (fun _ hk => ⟨hk.1.1, hk.1.2⟩)⟩, ⟨by (with_reducible repeat (first | apply Kd.R_alloc | apply Kd.R_drewN | apply Kd.R_drew)); exact HQ17.out⟩, ⟨by repeat (first | (with_reducible first | exact HB.out | apply below_alloc | apply pw_below_drewN | apply below_drew1 | refine below_set ?_ GB14.out) | exact HB.out)⟩⟩
                    · rw [if_neg c13] at H
                      exact absurd H (by simp)
                  · rw [if_neg c12] at H
                    exact absurd H (by simp)
                · rw [if_neg c11] at H
                  have c11b0 : decide (x5_2 < 16) = false := decide_eq_false c11
                  clear c11
                  by_cases c18 : x5_2 = 16
                  · rw [if_pos c18] at H
                    have c18b0 : (x5_2 == 16) = true := beq_iff_eq.mpr c18
                    have c18b1 : (x5_2 != 16) = false := bne_eq_false_iff_eq.mpr c18
                    clear c18
                    by_cases c19 : 16 < (x4_2.length : Int)
                    · rw [if_pos c19] at H
                      have c19b0 : decide (16 < (x4_2.length : Int)) = true := decide_eq_true c19
                      have c19b1 : decide (16 < x4_2.length) = true := decide_eq_true (by omega)
                      clear c19
                      by_cases c20 : 16 < (t128.length : Int)
                      · rw [if_pos c20] at H
                        have c20b0 : decide (16 < (t128.length : Int)) = true := decide_eq_true c20
                        have c20b1 : decide (16 < t128.length) = true := decide_eq_true (by omega)
                        clear c20
                        obtain ⟨y145, hy145⟩ : ∃ y_ : List Int, y_ = (x4_2.set (16 : Int).toNat (wrap64 ((rd x4_2 16) + (Int.tmod (rd t128 16) 4)))) := ⟨_, rfl⟩
                        replace H : (if 0 ≤ x5_2 then (if (wrap64 (x5_2 + 1)) < (t128.length : Int) then (if 0 ≤ (wrap64 (x5_2 + 1)) then (if 0 ≤ (wrap64 (x5_2 - 16)) then (if (wrap64 (x5_2 - 16)) < (x4_2.length : Int) then ((some (y145.set ((wrap64 (x5_2 - 16)) : Int).toNat (wrap64 ((rd y145 (wrap64 (x5_2 - 16))) + (wrap64 (5 * (wrap64 ((wrap64 (Int.tdiv (rd t128 x5_2) 4)) + (wrap64 ((Int.tmod (rd t128 (wrap64 (x5_2 + 1))) 4) * 64)))))))) : List Int)).bind fun y149 => (if x3_2 = true then (escutcheonref1_fold.l1 k2 t128 true y149 (wrap64 (x5_2 + 1))) else (escutcheonref1_fold.l1 k2 t128 (decide ((wrap64 ((wrap64 (Int.tdiv (rd t128 x5_2) 4)) + (wrap64 ((Int.tmod (rd t128 (wrap64 (x5_2 + 1))) 4) * 64)))) > 0)) y149 (wrap64 (x5_2 + 1))))) else (none)) else (none)) else (none)) else (if 0 ≤ (wrap64 (x5_2 - 16)) then (if (wrap64 (x5_2 - 16)) < (x4_2.length : Int) then ((some (y145.set ((wrap64 (x5_2 - 16)) : Int).toNat (wrap64 ((rd y145 (wrap64 (x5_2 - 16))) + (wrap64 (5 * (wrap64 (Int.tdiv (rd t128 x5_2) 4)))))) : List Int)).bind fun y151 => (if x3_2 = true then (escutcheonref1_fold.l1 k2 t128 true y151 (wrap64 (x5_2 + 1))) else (escutcheonref1_fold.l1 k2 t128 (decide ((wrap64 (Int.tdiv (rd t128 x5_2) 4)) > 0)) y151 (wrap64 (x5_2 + 1))))) else (none)) else (none))) else (none)) = some r := by first | (rw [hy145]; with_reducible exact H) | (have H2_ := (Option.bind_some _ _).symm.trans H; rw [hy145]; with_reducible exact H2_) | (have H2_ := (Option.bind_some _ _).symm.trans H; with_reducible exact H2_) | with_reducible exact H | (rw [hy145]; exact H) | exact H
                        have Ny145 := Aside0.mk hy145
                        clear hy145
                        by_cases c22 : 0 ≤ x5_2
                        · rw [if_pos c22] at H
                          have c22b0 : decide (0 ≤ x5_2) = true := decide_eq_true c22
                          clear c22
                          by_cases c23 : (wrap64 (x5_2 + 1)) < (t128.length : Int)
                          · rw [if_pos c23] at H
                            have c23b0 : decide ((wrap64 (x5_2 + 1)) < (t128.length : Int)) = true := decide_eq_true c23
                            clear c23
                            obtain ⟨ji24, hji24⟩ : ∃ j_ : Int, (wrap64 (x5_2 + 1)) = j_ := ⟨_, rfl⟩
                            replace H : (if 0 ≤ (ji24) then (if 0 ≤ (wrap64 (x5_2 - 16)) then (if (wrap64 (x5_2 - 16)) < (x4_2.length : Int) then ((some (y145.set ((wrap64 (x5_2 - 16)) : Int).toNat (wrap64 ((rd y145 (wrap64 (x5_2 - 16))) + (wrap64 (5 * (wrap64 ((wrap64 (Int.tdiv (rd t128 x5_2) 4)) + (wrap64 ((Int.tmod (rd t128 (ji24)) 4) * 64)))))))) : List Int)).bind fun y149 => (if x3_2 = true then (escutcheonref1_fold.l1 k2 t128 true y149 ji24) else (escutcheonref1_fold.l1 k2 t128 (decide ((wrap64 ((wrap64 (Int.tdiv (rd t128 x5_2) 4)) + (wrap64 ((Int.tmod (rd t128 (ji24)) 4) * 64)))) > 0)) y149 ji24))) else (none)) else (none)) else (none)) = some r := by first | (rw [hji24] at H; exact H) | (simp only [hji24] at H ⊢; exact H)
                            (try rw [hji24] at c23b0)
                            have hji24w : (IntKind.i64.wrap (x5_2 + 1)) = ji24 := (i64_w _).trans hji24
                            by_cases c25 : 0 ≤ (ji24)
                            · rw [if_pos c25] at H
                              have c25b0 : decide (0 ≤ (ji24)) = true := decide_eq_true c25
                              clear c25
                              obtain ⟨ji26, hji26⟩ : ∃ j_ : Int, (wrap64 (x5_2 - 16)) = j_ := ⟨_, rfl⟩
                              replace H : (if 0 ≤ (ji26) then (if (ji26) < (x4_2.length : Int) then ((some (y145.set ((ji26) : Int).toNat (wrap64 ((rd y145 (ji26)) + (wrap64 (5 * (wrap64 ((wrap64 (Int.tdiv (rd t128 x5_2) 4)) + (wrap64 ((Int.tmod (rd t128 (ji24)) 4) * 64)))))))) : List Int)).bind fun y149 => (if x3_2 = true then (escutcheonref1_fold.l1 k2 t128 true y149 ji24) else (escutcheonref1_fold.l1 k2 t128 (decide ((wrap64 ((wrap64 (Int.tdiv (rd t128 x5_2) 4)) + (wrap64 ((Int.tmod (rd t128 (ji24)) 4) * 64)))) > 0)) y149 ji24))) else (none)) else (none)) = some r := by first | (rw [hji26] at H; exact H) | (simp only [hji26] at H ⊢; exact H)
                              have hji26w : (IntKind.i64.wrap (x5_2 - 16)) = ji26 := (i64_w _).trans hji26
                              by_cases c27 : 0 ≤ (ji26)
                              · rw [if_pos c27] at H
                                have c27b0 : decide (0 ≤ (ji26)) = true := decide_eq_true c27
                                clear c27
                                by_cases c28 : (ji26) < (x4_2.length : Int)
                                · rw [if_pos c28] at H
                                  have c28b0 : decide ((ji26) < (x4_2.length : Int)) = true := decide_eq_true c28
                                  clear c28
                                  obtain ⟨y149, hy149⟩ : ∃ y_ : List Int, y_ = (y145.set ((ji26) : Int).toNat (wrap64 ((rd y145 (ji26)) + (wrap64 (5 * (wrap64 ((wrap64 (Int.tdiv (rd t128 x5_2) 4)) + (wrap64 ((Int.tmod (rd t128 (ji24)) 4) * 64))))))))) := ⟨_, rfl⟩
                                  replace H : (if x3_2 = true then (escutcheonref1_fold.l1 k2 t128 true y149 ji24) else (escutcheonref1_fold.l1 k2 t128 (decide ((wrap64 ((wrap64 (Int.tdiv (rd t128 x5_2) 4)) + (wrap64 ((Int.tmod (rd t128 (ji24)) 4) * 64)))) > 0)) y149 ji24)) = some r := by first | (rw [hy149]; with_reducible exact H) | (have H2_ := (Option.bind_some _ _).symm.trans H; rw [hy149]; with_reducible exact H2_) | (have H2_ := (Option.bind_some _ _).symm.trans H; with_reducible exact H2_) | with_reducible exact H | (rw [hy149]; exact H) | exact H
                                  have Ny149 := Aside0.mk hy149
                                  clear hy149
                                  by_cases c30 : x3_2 = true
                                  · subst c30
                                    have H1 : (escutcheonref1_fold.l1 k2 t128 true y149 ji24) = some r := by rw [if_pos rfl] at H; exact H
                                    clear H
                                    have H := H1
                                    clear H1
                                    have H' := Aside0.mk H
                                    clear H
                                    try go_wp2
                                    have n0_ := Aside0.mk (Kd.R_drew HO_0.out)
                                    have n1_ := Aside0.mk (Kd.R_drew HO_4.out)
                                    have n2_ := Aside0.mk (below_drew1 HB.out)
                                    clear HO_0
                                    clear HO_4
                                    clear HB
                                    have HO_0 := n0_
                                    have HO_4 := n1_
                                    have HB := n2_
                                    clear n0_ n1_ n2_
                                    obtain ⟨Ao32, co32, eo32⟩ := Kd.R_slice HO_4.out
                                    (first | subst eo32 | (injection eo32 with f1_ f2_ f3_; have f4_ := f1_.symm; have f5_ := f3_.symm; clear f1_ f2_ f3_; subst f4_; subst f5_))
                                    have p143 : 0 ≤ (16 : Int) := (by omega)
                                    have q143 : 16 < (x4_2.length : Int) := of_decide_eq_true (by first | (with_reducible assumption) | assumption)
                                    obtain ⟨ad143, e143, hx143_0⟩ := Kd.at_int (Kd.R_reads' HO_4.out).2.2 16 p143 q143
                                    cases e143
                                    (try simp only [show (16 : Int).toNat = 16 from rfl, Nat.reduceMul, Nat.reduceEqDiff, Go.Addr.add, ↓reduceIte] at hx143_0)
                                    have qi143 : (16 < x4_2.length) = True := eq_true (by omega)
                                    (try rw [show ((16 : Int)).toNat = 16 from rfl] at hx143_0)
                                    replace p143 := eq_true p143
                                    replace q143 := eq_true q143
                                    have p144 : 0 ≤ (16 : Int) := (by omega)
                                    have q144 : 16 < (t128.length : Int) := of_decide_eq_true (by first | (with_reducible assumption) | assumption)
                                    obtain ⟨ad144, e144, hx144_0⟩ := Kd.at_int (Kd.R_reads' HO_0.out).2.2 16 p144 q144
                                    cases e144
                                    (try simp only [show (16 : Int).toNat = 16 from rfl, Nat.reduceMul, Nat.reduceEqDiff, Go.Addr.add, ↓reduceIte] at hx144_0)
                                    have qi144 : (16 < t128.length) = True := eq_true (by omega)
                                    (try rw [show ((16 : Int)).toNat = 16 from rfl] at hx144_0)
                                    replace p144 := eq_true p144
                                    replace q144 := eq_true q144
                                    have p21 : 0 ≤ (16 : Int) := (by omega)
                                    have q21 : (16 : Int) < ((x4_2.length : Int) : Int) := of_decide_eq_true (by first | (with_reducible assumption) | assumption)
                                    have qi21 : (16 < x4_2.length) = True := eq_true (by omega)
                                    obtain ⟨go21, co21, eo21, gb21, gl21, cl21, HG21⟩ := Kd.R_form HO_4.out (by omega)
                                    (first | cases eo21 | (injection eo21 with ea_ en_ ec_; (first | subst ea_ | (injection ea_ with ea_; subst ea_)); subst ec_; clear en_))
                                    have GB21 := Aside0.mk gb21
                                    have GG21 := Aside0.mk HG21
                                    clear gb21 gl21 HG21
                                    (first | simp only [add_plain] at hx143_0 | skip)
                                    obtain ⟨hx21_0, hf21_0⟩ := Kd.R_celln 0 HO_4.out (16 : Int) p21 q21
                                    (try rw [show ((16 : Int)).toNat = 16 from rfl] at hx21_0)
                                    (try simp only [Nat.reduceMul, Nat.zero_mul, Nat.zero_add, Nat.reduceAdd] at hx21_0)
                                    (try rw [show ((16 : Int)).toNat = 16 from rfl] at hf21_0)
                                    (try simp only [Nat.reduceMul, Nat.zero_mul, Nat.zero_add, Nat.reduceAdd] at hf21_0)
                                    replace p21 := eq_true p21
                                    replace q21 := eq_true q21
                                    have HP33 := Kd.R_putn HO_4.out (16 : Int) (wrap64 ((rd x4_2 16) + (Int.tmod (rd t128 16) 4)))
                                    rw [← Ny145.out] at HP33
                                    have HQ33 := Aside0.mk HP33
                                    clear HP33
                                    refine start_ (n := 11) (S := fun w' => w'.cell? ⟨go21, 16, none⟩ = some (.int .i64 (rd x4_2 16)) ∧ w'.cell? ⟨ad144.block, ad144.off + 16, none⟩ = some (.int .i64 (rd t128 16))) (ds := [10]) #[false, false, false, false, false, false, false, false, false, false, false] (by kernel_rfl) rfl rfl ⟨hx143_0, hx144_0⟩ (fun hHeld => ?_); refine with_tabW escutcheonref1_fold.tab10 escutcheonref1_fold.bits10 (fun HT_ HW_ => ?_)
                                    generalize wr.drew = w31 at HO_0 HO_4 HB GG21 HQ33 hf21_0 hx143_0 hx144_0 hx21_0 hHeld ⊢
                                    refine pure_ (i := 0) (N := some 34) (v := ?_) (a' := ?_) #[true, false, false, false, false, false, false, false, false, false, false] rfl rfl (any_of HT_.out (by kernel_rfl)) (fun _ _ _ h => h) (Or.inl ⟨by rfl, ?_⟩) ?_ ?_
                                    rotate_left
                                    · intro w'
                                      go_simp
                                      with_reducible rfl
                                    rotate_left
                                    · simp only [Act.put, List.setIfInBounds_toArray, List.set_cons_zero, List.set_cons_succ, i64_w, i32_w]
                                      rfl
                                    refine pure_ (i := 1) (N := some 35) (v := ?_) (a' := ?_) #[true, true, false, false, false, false, false, false, false, false, false] rfl rfl (any_of HT_.out (by kernel_rfl)) (fun _ _ _ h => h) (Or.inl ⟨by rfl, ?_⟩) ?_ ?_
                                    rotate_left
                                    · intro w'
                                      go_simp
                                      with_reducible rfl
                                    rotate_left
                                    · simp only [Act.put, List.setIfInBounds_toArray, List.set_cons_zero, List.set_cons_succ, i64_w, i32_w]
                                      rfl
                                    refine pure_ (i := 2) (N := some 36) (v := ?_) (a' := ?_) #[true, true, true, false, false, false, false, false, false, false, false] rfl rfl (any_of HT_.out (by kernel_rfl)) (fun _ _ _ h => h) (Or.inl ⟨by rfl, ?_⟩) ?_ ?_
                                    rotate_left
                                    · intro w'
                                      go_simp
                                      with_reducible rfl
                                    rotate_left
                                    · simp only [Act.put, List.setIfInBounds_toArray, List.set_cons_zero, List.set_cons_succ, i64_w, i32_w]
                                      rfl
                                    refine pure_ (i := 4) (N := some 38) (v := ?_) (a' := ?_) #[true, true, true, false, true, false, false, false, false, false, false] rfl rfl (any_of HT_.out (by kernel_rfl)) (fun _ _ _ h => h) (Or.inl ⟨by rfl, ?_⟩) ?_ ?_
                                    rotate_left
                                    · intro w'
                                      go_simp
                                      with_reducible rfl
                                    rotate_left
                                    · simp only [Act.put, List.setIfInBounds_toArray, List.set_cons_zero, List.set_cons_succ, i64_w, i32_w]
                                      rfl
                                    refine pure_ (i := 5) (N := some 39) (v := ?_) (a' := ?_) #[true, true, true, false, true, true, false, false, false, false, false] rfl rfl (any_of HT_.out (by kernel_rfl)) (fun _ _ _ h => h) (Or.inl ⟨by rfl, ?_⟩) ?_ ?_
                                    rotate_left
                                    · intro w'
                                      go_simp
                                      with_reducible rfl
                                    rotate_left
                                    · simp only [Act.put, List.setIfInBounds_toArray, List.set_cons_zero, List.set_cons_succ, i64_w, i32_w]
                                      rfl
                                    refine take_ (i := 3) (N := some 37) (v := ?_) (a' := ?_) #[true, true, true, true, true, true, false, false, false, false, false] rfl rfl (take_ofW HT_.out HW_.out (by kernel_rfl)) (fun _ _ _ h => h) (Or.inl ⟨by rfl, ?_⟩) hHeld ?_ ?_
                                    rotate_left
                                    · rintro w' ⟨s0, s1⟩
                                      go_simp
                                      with_reducible rfl
                                    rotate_left
                                    · simp only [Act.put, List.setIfInBounds_toArray, List.set_cons_zero, List.set_cons_succ, i64_w, i32_w]
                                      rfl
                                    refine take_ (i := 6) (N := some 40) (v := ?_) (a' := ?_) #[true, true, true, true, true, true, true, false, false, false, false] rfl rfl (take_ofW HT_.out HW_.out (by kernel_rfl)) (fun _ _ _ h => h) (Or.inl ⟨by rfl, ?_⟩) hHeld ?_ ?_
                                    rotate_left
                                    · rintro w' ⟨s0, s1⟩
                                      go_simp
                                      with_reducible rfl
                                    rotate_left
                                    · simp only [Act.put, List.setIfInBounds_toArray, List.set_cons_zero, List.set_cons_succ, i64_w, i32_w]
                                      rfl
                                    refine pure_ (i := 7) (N := some 41) (v := ?_) (a' := ?_) #[true, true, true, true, true, true, true, true, false, false, false] rfl rfl (any_of HT_.out (by kernel_rfl)) (fun _ _ _ h => h) (Or.inl ⟨by rfl, ?_⟩) ?_ ?_
                                    rotate_left
                                    · intro w'
                                      go_simp
                                      with_reducible rfl
                                    rotate_left
                                    · simp only [Act.put, List.setIfInBounds_toArray, List.set_cons_zero, List.set_cons_succ, i64_w, i32_w]
                                      rfl
                                    refine pure_ (i := 8) (N := some 42) (v := ?_) (a' := ?_) #[true, true, true, true, true, true, true, true, true, false, false] rfl rfl (any_of HT_.out (by kernel_rfl)) (fun _ _ _ h => h) (Or.inl ⟨by rfl, ?_⟩) ?_ ?_
                                    rotate_left
                                    · intro w'
                                      go_simp
                                      with_reducible rfl
                                    rotate_left
                                    · simp only [Act.put, List.setIfInBounds_toArray, List.set_cons_zero, List.set_cons_succ, i64_w, i32_w]
                                      rfl
                                    refine pure_ (i := 9) (N := some 43) (v := ?_) (a' := ?_) #[true, true, true, true, true, true, true, true, true, true, false] rfl rfl (any_of HT_.out (by kernel_rfl)) (fun _ _ _ h => h) (Or.inl ⟨by rfl, ?_⟩) ?_ ?_
                                    rotate_left
                                    · intro w'
                                      go_simp
                                      with_reducible rfl
                                    rotate_left
                                    · simp only [Act.put, List.setIfInBounds_toArray, List.set_cons_zero, List.set_cons_succ, i64_w, i32_w]
                                      rfl
                                    refine last_ (i := 10) (N := none) #[true, true, true, true, true, true, true, true, true, true, true] rfl rfl (one_of HT_.out (by kernel_rfl)) (by decide) (fun K hK => ?_)
                                    refine skip_ (w1 := ?_) (by rfl) rfl ?_ ?_
                                    rotate_left
                                    · first | (go_simp; rfl) | (have hSC_ := @cell_set_blk; go_simp; rfl)
                                    refine hK.out _ _ ?_
                                    clear hK K
                                    refine done_ (done_of HT_.out (by kernel_rfl)) ?_
                                    have n0_ : Aside0 (Kd.R (Kd.int .i64) 3 (w31.setCell ⟨go21, 16, none⟩ (.int .i64 (wrap64 ((rd x4_2 16) + (Int.tmod (rd t128 16) 4))))) w.heap.size (fun k_ => (w.heap.size ≤ k_) ∧ some k_ ≠ (.slice (some ⟨go21, 0, none⟩) x4_2.length co32 : Value).ownBlock) (.slice (some ad144) t128.length co7) t128) := ⟨by (with_reducible repeat (first | apply Kd.R_alloc | apply Kd.R_drewN | apply Kd.R_drew)); exact Kd.R_mono (Kd.R_far (p := ⟨go21, 16, none⟩) (Kd.R_mono HO_0.out (fun k_ hk => (⟨hk, fun e_ => hk.2 (by rw [e_]; rfl)⟩ : _ ∧ k_ ≠ go21))) (fun _ hk => hk.2) (.int .i64 (wrap64 ((rd x4_2 16) + (Int.tmod (rd t128 16) 4))))) (fun _ hk => ⟨hk.1.1, hk.1.2⟩)⟩
                                    have n1_ : Aside0 (Kd.R (Kd.int .i64) 3 (w31.setCell ⟨go21, 16, none⟩ (.int .i64 (wrap64 ((rd x4_2 16) + (Int.tmod (rd t128 16) 4))))) w.heap.size (fun k_ => (w.heap.size ≤ k_) ∧ some k_ ≠ (.slice (some ad144) t128.length co7 : Value).ownBlock) (.slice (some ⟨go21, 0, none⟩) x4_2.length co32) y145) := ⟨by (with_reducible repeat (first | apply Kd.R_alloc | apply Kd.R_drewN | apply Kd.R_drew)); exact HQ33.out⟩
                                    have n2_ : Aside0 (Below w.heap.size w (w31.setCell ⟨go21, 16, none⟩ (.int .i64 (wrap64 ((rd x4_2 16) + (Int.tmod (rd t128 16) 4)))))) := ⟨by repeat (first | (with_reducible first | exact HB.out | apply below_alloc | apply pw_below_drewN | apply below_drew1 | refine below_set ?_ GB21.out) | exact HB.out)⟩
                                    (try clear HO_0)
                                    (try clear HO_4)
                                    (try clear HB)
                                    generalize (w31.setCell ⟨go21, 16, none⟩ (.int .i64 (wrap64 ((rd x4_2 16) + (Int.tmod (rd t128 16) 4))))) = w34 at n0_ n1_ n2_ ⊢
                                    have HO_0 := n0_
                                    have HO_4 := n1_
                                    have HB := n2_
                                    clear n0_ n1_ n2_
                                    have p146 : 0 ≤ (x5_2 : Int) := of_decide_eq_true (by first | (with_reducible assumption) | assumption)
                                    have q146 : x5_2 < (t128.length : Int) := of_decide_eq_true (by first | (with_reducible assumption) | assumption)
                                    obtain ⟨ad146, e146, hx146_0⟩ := Kd.at_int (Kd.R_reads' HO_0.out).2.2 x5_2 p146 q146
                                    obtain rfl : ad144 = ad146 := (by injection e146)
                                    replace p146 := eq_true p146
                                    replace q146 := eq_true q146
                                    have p147 : 0 ≤ ((ji24) : Int) := of_decide_eq_true (by first | (with_reducible assumption) | assumption)
                                    have q147 : (ji24) < (t128.length : Int) := of_decide_eq_true (by first | (with_reducible assumption) | assumption)
                                    obtain ⟨ad147, e147, hx147_0⟩ := Kd.at_int (Kd.R_reads' HO_0.out).2.2 (ji24) p147 q147
                                    obtain rfl : ad144 = ad147 := (by injection e147)
                                    replace p147 := eq_true p147
                                    replace q147 := eq_true q147
                                    have p148 : 0 ≤ ((ji26) : Int) := of_decide_eq_true (by first | (with_reducible assumption) | assumption)
                                    have q148 : (ji26) < (y145.length : Int) := (by have h_ : ((ji26) : Int) < ((x4_2.length : Int) : Int) := of_decide_eq_true (by first | (with_reducible assumption) | assumption); first | (have e_ := (Kd.R_reads' HO_4.out).1; omega) | simpa only [Ny145.out, List.length_set] using h_)
                                    have ql148 : (((ji26) : Int) < ((x4_2.length : Int) : Int)) = True := eq_true (of_decide_eq_true (by first | (with_reducible assumption) | assumption))
                                    obtain ⟨ad148, e148, hx148_0⟩ := Kd.at_int (Kd.R_reads' HO_4.out).2.2 (ji26) p148 q148
                                    obtain rfl : (⟨go21, 0, none⟩ : Addr) = ad148 := (by injection e148)
                                    (first | simp only [add_plain] at hx148_0 | simp only [add_at] at hx148_0 | simp only [Addr.add, Nat.zero_add] at hx148_0 | skip)
                                    replace p148 := eq_true p148
                                    replace q148 := eq_true q148
                                    have p29 : 0 ≤ ((ji26) : Int) := of_decide_eq_true (by first | (with_reducible assumption) | assumption)
                                    have q29 : ((ji26) : Int) < ((x4_2.length : Int) : Int) := of_decide_eq_true (by first | (with_reducible assumption) | assumption)
                                    obtain ⟨hx29_0, hf29_0⟩ := Kd.R_celln 0 HO_4.out ((ji26) : Int) p29 q29
                                    replace p29 := eq_true p29
                                    replace q29 := eq_true q29
                                    obtain ⟨hy35_, hz35_⟩ := Kd.R_celln 0 HO_4.out ((ji26) : Int) (of_decide_eq_true (by first | (with_reducible assumption) | assumption)) (of_decide_eq_true (by first | (with_reducible assumption) | assumption))
                                    have HP35 := Kd.R_putg HO_4.out ((ji26) : Int) (wrap64 ((rd y145 (ji26)) + (wrap64 (5 * (wrap64 ((wrap64 (Int.tdiv (rd t128 x5_2) 4)) + (wrap64 ((Int.tmod (rd t128 (ji24)) 4) * 64))))))))
                                    try go_wp2_with (first | ((with_reducible refine gate_store (t := 3) (p := 74) rfl ?_); refine store_event (t := 3) (p := 74) (v := ?vo_w36) (w1 := (w34.setCell ⟨go21, ((ji26) : Int).toNat, none⟩ (.int .i64 (wrap64 ((rd y145 (ji26)) + (wrap64 (5 * (wrap64 ((wrap64 (Int.tdiv (rd t128 x5_2) 4)) + (wrap64 ((Int.tmod (rd t128 (ji24)) 4) * 64))))))))))) ?hg ?ho ?hn ?hr ?_; (case ho => rfl); (case hg => rfl); (case hn => rfl); (case hr => first | (go_simp; done) | (go_simp; rfl)); intro w36 hw; have hg : w34.grownBy w36 (some go21) := (by rw [hw]; exact HP35.2); have hp_ : Kd.R (Kd.int .i64) 3 w36 w.heap.size (fun k_ => (w.heap.size ≤ k_) ∧ some k_ ≠ (.slice (some ad144) t128.length co7 : Value).ownBlock) (.slice (some ⟨go21, 0, none⟩) x4_2.length co32) y149 := (by rw [hw, Ny149.out]; exact HP35.1); clear HP35; have n0_ := Aside0.mk (Kd.R_after (v := (.slice (some ⟨go21, 0, none⟩) x4_2.length co32)) (v1 := (.slice (some ⟨go21, 0, none⟩) x4_2.length co32)) (ok := (fun k_ => (w.heap.size ≤ k_))) (by (with_reducible repeat (first | apply Kd.R_alloc | apply Kd.R_drewN | apply Kd.R_drew)); exact HO_0.out) hg (.inl rfl)); have n1_ := Aside0.mk (hp_); have n2_ := Aside0.mk ((by rw [hw]; exact below_set (HB.out) GB21.out : Below w.heap.size w w36)); clear HO_0; clear HO_4; clear HB; have HO_0 := n0_; have HO_4 := n1_; have HB := n2_; clear n0_ n1_ n2_; clear hg hw hp_))
                                    go_roundg k2
                                    case measure => have := HK1.out; have := HK2.out; omega
                                    case rel => exact ⟨(true), (y149), (ji24), (by first | rfl | (simp; done) | (simp [*]; done)), (by first | rfl | (simp; done) | (simp only [← hji24] <;> (first | rfl | simp)) | (simp [*]; done)), H', ⟨by have := HK1.out; have := HK2.out; omega⟩, ⟨by (with_reducible repeat (first | apply Kd.R_alloc | apply Kd.R_drewN | apply Kd.R_drew)); exact HO_0.out⟩, ⟨by (with_reducible repeat (first | apply Kd.R_alloc | apply Kd.R_drewN | apply Kd.R_drew)); exact HO_4.out⟩, ⟨by repeat (first | (with_reducible first | exact HB.out | apply below_alloc | apply pw_below_drewN | apply below_drew1) | exact HB.out)⟩⟩
                                  · replace c30 := Bool.eq_false_iff.mpr c30
                                    subst c30
                                    have H1 : (escutcheonref1_fold.l1 k2 t128 (decide ((wrap64 ((wrap64 (Int.tdiv (rd t128 x5_2) 4)) + (wrap64 ((Int.tmod (rd t128 (ji24)) 4) * 64)))) > 0)) y149 ji24) = some r := by rw [if_neg (show ¬ (false = true) by decide)] at H; exact H
                                    clear H
                                    have H := H1
                                    clear H1
                                    have H' := Aside0.mk H
                                    clear H
                                    try go_wp2
                                    have n0_ := Aside0.mk (Kd.R_drew HO_0.out)
                                    have n1_ := Aside0.mk (Kd.R_drew HO_4.out)
                                    have n2_ := Aside0.mk (below_drew1 HB.out)
                                    clear HO_0
                                    clear HO_4
                                    clear HB
                                    have HO_0 := n0_
                                    have HO_4 := n1_
                                    have HB := n2_
                                    clear n0_ n1_ n2_
                                    obtain ⟨Ao38, co38, eo38⟩ := Kd.R_slice HO_4.out
                                    (first | subst eo38 | (injection eo38 with f1_ f2_ f3_; have f4_ := f1_.symm; have f5_ := f3_.symm; clear f1_ f2_ f3_; subst f4_; subst f5_))
                                    have p143 : 0 ≤ (16 : Int) := (by omega)
                                    have q143 : 16 < (x4_2.length : Int) := of_decide_eq_true (by first | (with_reducible assumption) | assumption)
                                    obtain ⟨ad143, e143, hx143_0⟩ := Kd.at_int (Kd.R_reads' HO_4.out).2.2 16 p143 q143
                                    cases e143
                                    (try simp only [show (16 : Int).toNat = 16 from rfl, Nat.reduceMul, Nat.reduceEqDiff, Go.Addr.add, ↓reduceIte] at hx143_0)
                                    have qi143 : (16 < x4_2.length) = True := eq_true (by omega)
                                    (try rw [show ((16 : Int)).toNat = 16 from rfl] at hx143_0)
                                    replace p143 := eq_true p143
                                    replace q143 := eq_true q143
                                    have p144 : 0 ≤ (16 : Int) := (by omega)
                                    have q144 : 16 < (t128.length : Int) := of_decide_eq_true (by first | (with_reducible assumption) | assumption)
                                    obtain ⟨ad144, e144, hx144_0⟩ := Kd.at_int (Kd.R_reads' HO_0.out).2.2 16 p144 q144
                                    cases e144
                                    (try simp only [show (16 : Int).toNat = 16 from rfl, Nat.reduceMul, Nat.reduceEqDiff, Go.Addr.add, ↓reduceIte] at hx144_0)
                                    have qi144 : (16 < t128.length) = True := eq_true (by omega)
                                    (try rw [show ((16 : Int)).toNat = 16 from rfl] at hx144_0)
                                    replace p144 := eq_true p144
                                    replace q144 := eq_true q144
                                    have p21 : 0 ≤ (16 : Int) := (by omega)
                                    have q21 : (16 : Int) < ((x4_2.length : Int) : Int) := of_decide_eq_true (by first | (with_reducible assumption) | assumption)
                                    have qi21 : (16 < x4_2.length) = True := eq_true (by omega)
                                    obtain ⟨go21, co21, eo21, gb21, gl21, cl21, HG21⟩ := Kd.R_form HO_4.out (by omega)
                                    (first | cases eo21 | (injection eo21 with ea_ en_ ec_; (first | subst ea_ | (injection ea_ with ea_; subst ea_)); subst ec_; clear en_))
                                    have GB21 := Aside0.mk gb21
                                    have GG21 := Aside0.mk HG21
                                    clear gb21 gl21 HG21
                                    (first | simp only [add_plain] at hx143_0 | skip)
                                    obtain ⟨hx21_0, hf21_0⟩ := Kd.R_celln 0 HO_4.out (16 : Int) p21 q21
                                    (try rw [show ((16 : Int)).toNat = 16 from rfl] at hx21_0)
                                    (try simp only [Nat.reduceMul, Nat.zero_mul, Nat.zero_add, Nat.reduceAdd] at hx21_0)
                                    (try rw [show ((16 : Int)).toNat = 16 from rfl] at hf21_0)
                                    (try simp only [Nat.reduceMul, Nat.zero_mul, Nat.zero_add, Nat.reduceAdd] at hf21_0)
                                    replace p21 := eq_true p21
                                    replace q21 := eq_true q21
                                    have HP39 := Kd.R_putn HO_4.out (16 : Int) (wrap64 ((rd x4_2 16) + (Int.tmod (rd t128 16) 4)))
                                    rw [← Ny145.out] at HP39
                                    have HQ39 := Aside0.mk HP39
                                    clear HP39
                                    refine start_ (n := 11) (S := fun w' => w'.cell? ⟨go21, 16, none⟩ = some (.int .i64 (rd x4_2 16)) ∧ w'.cell? ⟨ad144.block, ad144.off + 16, none⟩ = some (.int .i64 (rd t128 16))) (ds := [10]) #[false, false, false, false, false, false, false, false, false, false, false] (by kernel_rfl) rfl rfl ⟨hx143_0, hx144_0⟩ (fun hHeld => ?_); refine with_tabW escutcheonref1_fold.tab10 escutcheonref1_fold.bits10 (fun HT_ HW_ => ?_)
                                    generalize wr.drew = w37 at HO_0 HO_4 HB GG21 HQ39 hf21_0 hx143_0 hx144_0 hx21_0 hHeld ⊢
                                    refine pure_ (i := 0) (N := some 34) (v := ?_) (a' := ?_) #[true, false, false, false, false, false, false, false, false, false, false] rfl rfl (any_of HT_.out (by kernel_rfl)) (fun _ _ _ h => h) (Or.inl ⟨by rfl, ?_⟩) ?_ ?_
                                    rotate_left
                                    · intro w'
                                      go_simp
                                      with_reducible rfl
                                    rotate_left
                                    · simp only [Act.put, List.setIfInBounds_toArray, List.set_cons_zero, List.set_cons_succ, i64_w, i32_w]
                                      rfl
                                    refine pure_ (i := 1) (N := some 35) (v := ?_) (a' := ?_) #[true, true, false, false, false, false, false, false, false, false, false] rfl rfl (any_of HT_.out (by kernel_rfl)) (fun _ _ _ h => h) (Or.inl ⟨by rfl, ?_⟩) ?_ ?_
                                    rotate_left
                                    · intro w'
                                      go_simp
                                      with_reducible rfl
                                    rotate_left
                                    · simp only [Act.put, List.setIfInBounds_toArray, List.set_cons_zero, List.set_cons_succ, i64_w, i32_w]
                                      rfl
                                    refine pure_ (i := 2) (N := some 36) (v := ?_) (a' := ?_) #[true, true, true, false, false, false, false, false, false, false, false] rfl rfl (any_of HT_.out (by kernel_rfl)) (fun _ _ _ h => h) (Or.inl ⟨by rfl, ?_⟩) ?_ ?_
                                    rotate_left
                                    · intro w'
                                      go_simp
                                      with_reducible rfl
                                    rotate_left
                                    · simp only [Act.put, List.setIfInBounds_toArray, List.set_cons_zero, List.set_cons_succ, i64_w, i32_w]
                                      rfl
                                    refine pure_ (i := 4) (N := some 38) (v := ?_) (a' := ?_) #[true, true, true, false, true, false, false, false, false, false, false] rfl rfl (any_of HT_.out (by kernel_rfl)) (fun _ _ _ h => h) (Or.inl ⟨by rfl, ?_⟩) ?_ ?_
                                    rotate_left
                                    · intro w'
                                      go_simp
                                      with_reducible rfl
                                    rotate_left
                                    · simp only [Act.put, List.setIfInBounds_toArray, List.set_cons_zero, List.set_cons_succ, i64_w, i32_w]
                                      rfl
                                    refine pure_ (i := 5) (N := some 39) (v := ?_) (a' := ?_) #[true, true, true, false, true, true, false, false, false, false, false] rfl rfl (any_of HT_.out (by kernel_rfl)) (fun _ _ _ h => h) (Or.inl ⟨by rfl, ?_⟩) ?_ ?_
                                    rotate_left
                                    · intro w'
                                      go_simp
                                      with_reducible rfl
                                    rotate_left
                                    · simp only [Act.put, List.setIfInBounds_toArray, List.set_cons_zero, List.set_cons_succ, i64_w, i32_w]
                                      rfl
                                    refine take_ (i := 3) (N := some 37) (v := ?_) (a' := ?_) #[true, true, true, true, true, true, false, false, false, false, false] rfl rfl (take_ofW HT_.out HW_.out (by kernel_rfl)) (fun _ _ _ h => h) (Or.inl ⟨by rfl, ?_⟩) hHeld ?_ ?_
                                    rotate_left
                                    · rintro w' ⟨s0, s1⟩
                                      go_simp
                                      with_reducible rfl
                                    rotate_left
                                    · simp only [Act.put, List.setIfInBounds_toArray, List.set_cons_zero, List.set_cons_succ, i64_w, i32_w]
                                      rfl
                                    refine take_ (i := 6) (N := some 40) (v := ?_) (a' := ?_) #[true, true, true, true, true, true, true, false, false, false, false] rfl rfl (take_ofW HT_.out HW_.out (by kernel_rfl)) (fun _ _ _ h => h) (Or.inl ⟨by rfl, ?_⟩) hHeld ?_ ?_
                                    rotate_left
                                    · rintro w' ⟨s0, s1⟩
                                      go_simp
                                      with_reducible rfl
                                    rotate_left
                                    · simp only [Act.put, List.setIfInBounds_toArray, List.set_cons_zero, List.set_cons_succ, i64_w, i32_w]
                                      rfl
                                    refine pure_ (i := 7) (N := some 41) (v := ?_) (a' := ?_) #[true, true, true, true, true, true, true, true, false, false, false] rfl rfl (any_of HT_.out (by kernel_rfl)) (fun _ _ _ h => h) (Or.inl ⟨by rfl, ?_⟩) ?_ ?_
                                    rotate_left
                                    · intro w'
                                      go_simp
                                      with_reducible rfl
                                    rotate_left
                                    · simp only [Act.put, List.setIfInBounds_toArray, List.set_cons_zero, List.set_cons_succ, i64_w, i32_w]
                                      rfl
                                    refine pure_ (i := 8) (N := some 42) (v := ?_) (a' := ?_) #[true, true, true, true, true, true, true, true, true, false, false] rfl rfl (any_of HT_.out (by kernel_rfl)) (fun _ _ _ h => h) (Or.inl ⟨by rfl, ?_⟩) ?_ ?_
                                    rotate_left
                                    · intro w'
                                      go_simp
                                      with_reducible rfl
                                    rotate_left
                                    · simp only [Act.put, List.setIfInBounds_toArray, List.set_cons_zero, List.set_cons_succ, i64_w, i32_w]
                                      rfl
                                    refine pure_ (i := 9) (N := some 43) (v := ?_) (a' := ?_) #[true, true, true, true, true, true, true, true, true, true, false] rfl rfl (any_of HT_.out (by kernel_rfl)) (fun _ _ _ h => h) (Or.inl ⟨by rfl, ?_⟩) ?_ ?_
                                    rotate_left
                                    · intro w'
                                      go_simp
                                      with_reducible rfl
                                    rotate_left
                                    · simp only [Act.put, List.setIfInBounds_toArray, List.set_cons_zero, List.set_cons_succ, i64_w, i32_w]
                                      rfl
                                    refine last_ (i := 10) (N := none) #[true, true, true, true, true, true, true, true, true, true, true] rfl rfl (one_of HT_.out (by kernel_rfl)) (by decide) (fun K hK => ?_)
                                    refine skip_ (w1 := ?_) (by rfl) rfl ?_ ?_
                                    rotate_left
                                    · first | (go_simp; rfl) | (have hSC_ := @cell_set_blk; go_simp; rfl)
                                    refine hK.out _ _ ?_
                                    clear hK K
                                    refine done_ (done_of HT_.out (by kernel_rfl)) ?_
                                    have n0_ : Aside0 (Kd.R (Kd.int .i64) 3 (w37.setCell ⟨go21, 16, none⟩ (.int .i64 (wrap64 ((rd x4_2 16) + (Int.tmod (rd t128 16) 4))))) w.heap.size (fun k_ => (w.heap.size ≤ k_) ∧ some k_ ≠ (.slice (some ⟨go21, 0, none⟩) x4_2.length co38 : Value).ownBlock) (.slice (some ad144) t128.length co7) t128) := ⟨by (with_reducible repeat (first | apply Kd.R_alloc | apply Kd.R_drewN | apply Kd.R_drew)); exact Kd.R_mono (Kd.R_far (p := ⟨go21, 16, none⟩) (Kd.R_mono HO_0.out (fun k_ hk => (⟨hk, fun e_ => hk.2 (by rw [e_]; rfl)⟩ : _ ∧ k_ ≠ go21))) (fun _ hk => hk.2) (.int .i64 (wrap64 ((rd x4_2 16) + (Int.tmod (rd t128 16) 4))))) (fun _ hk => ⟨hk.1.1, hk.1.2⟩)⟩
                                    have n1_ : Aside0 (Kd.R (Kd.int .i64) 3 (w37.setCell ⟨go21, 16, none⟩ (.int .i64 (wrap64 ((rd x4_2 16) + (Int.tmod (rd t128 16) 4))))) w.heap.size (fun k_ => (w.heap.size ≤ k_) ∧ some k_ ≠ (.slice (some ad144) t128.length co7 : Value).ownBlock) (.slice (some ⟨go21, 0, none⟩) x4_2.length co38) y145) := ⟨by (with_reducible repeat (first | apply Kd.R_alloc | apply Kd.R_drewN | apply Kd.R_drew)); exact HQ39.out⟩
                                    have n2_ : Aside0 (Below w.heap.size w (w37.setCell ⟨go21, 16, none⟩ (.int .i64 (wrap64 ((rd x4_2 16) + (Int.tmod (rd t128 16) 4)))))) := ⟨by repeat (first | (with_reducible first | exact HB.out | apply below_alloc | apply pw_below_drewN | apply below_drew1 | refine below_set ?_ GB21.out) | exact HB.out)⟩
                                    (try clear HO_0)
                                    (try clear HO_4)
                                    (try clear HB)
                                    generalize (w37.setCell ⟨go21, 16, none⟩ (.int .i64 (wrap64 ((rd x4_2 16) + (Int.tmod (rd t128 16) 4))))) = w40 at n0_ n1_ n2_ ⊢
                                    have HO_0 := n0_
                                    have HO_4 := n1_
                                    have HB := n2_
                                    clear n0_ n1_ n2_
                                    have p146 : 0 ≤ (x5_2 : Int) := of_decide_eq_true (by first | (with_reducible assumption) | assumption)
                                    have q146 : x5_2 < (t128.length : Int) := of_decide_eq_true (by first | (with_reducible assumption) | assumption)
                                    obtain ⟨ad146, e146, hx146_0⟩ := Kd.at_int (Kd.R_reads' HO_0.out).2.2 x5_2 p146 q146
                                    obtain rfl : ad144 = ad146 := (by injection e146)
                                    replace p146 := eq_true p146
                                    replace q146 := eq_true q146
                                    have p147 : 0 ≤ ((ji24) : Int) := of_decide_eq_true (by first | (with_reducible assumption) | assumption)
                                    have q147 : (ji24) < (t128.length : Int) := of_decide_eq_true (by first | (with_reducible assumption) | assumption)
                                    obtain ⟨ad147, e147, hx147_0⟩ := Kd.at_int (Kd.R_reads' HO_0.out).2.2 (ji24) p147 q147
                                    obtain rfl : ad144 = ad147 := (by injection e147)
                                    replace p147 := eq_true p147
                                    replace q147 := eq_true q147
                                    have p148 : 0 ≤ ((ji26) : Int) := of_decide_eq_true (by first | (with_reducible assumption) | assumption)
                                    have q148 : (ji26) < (y145.length : Int) := (by have h_ : ((ji26) : Int) < ((x4_2.length : Int) : Int) := of_decide_eq_true (by first | (with_reducible assumption) | assumption); first | (have e_ := (Kd.R_reads' HO_4.out).1; omega) | simpa only [Ny145.out, List.length_set] using h_)
                                    have ql148 : (((ji26) : Int) < ((x4_2.length : Int) : Int)) = True := eq_true (of_decide_eq_true (by first | (with_reducible assumption) | assumption))
                                    obtain ⟨ad148, e148, hx148_0⟩ := Kd.at_int (Kd.R_reads' HO_4.out).2.2 (ji26) p148 q148
                                    obtain rfl : (⟨go21, 0, none⟩ : Addr) = ad148 := (by injection e148)
                                    (first | simp only [add_plain] at hx148_0 | simp only [add_at] at hx148_0 | simp only [Addr.add, Nat.zero_add] at hx148_0 | skip)
                                    replace p148 := eq_true p148
                                    replace q148 := eq_true q148
                                    have p29 : 0 ≤ ((ji26) : Int) := of_decide_eq_true (by first | (with_reducible assumption) | assumption)
                                    have q29 : ((ji26) : Int) < ((x4_2.length : Int) : Int) := of_decide_eq_true (by first | (with_reducible assumption) | assumption)
                                    obtain ⟨hx29_0, hf29_0⟩ := Kd.R_celln 0 HO_4.out ((ji26) : Int) p29 q29
                                    replace p29 := eq_true p29
                                    replace q29 := eq_true q29
                                    obtain ⟨hy41_, hz41_⟩ := Kd.R_celln 0 HO_4.out ((ji26) : Int) (of_decide_eq_true (by first | (with_reducible assumption) | assumption)) (of_decide_eq_true (by first | (with_reducible assumption) | assumption))
                                    have HP41 := Kd.R_putg HO_4.out ((ji26) : Int) (wrap64 ((rd y145 (ji26)) + (wrap64 (5 * (wrap64 ((wrap64 (Int.tdiv (rd t128 x5_2) 4)) + (wrap64 ((Int.tmod (rd t128 (ji24)) 4) * 64))))))))
                                    try go_wp2_with (first | ((with_reducible refine gate_store (t := 3) (p := 74) rfl ?_); refine store_event (t := 3) (p := 74) (v := ?vo_w42) (w1 := (w40.setCell ⟨go21, ((ji26) : Int).toNat, none⟩ (.int .i64 (wrap64 ((rd y145 (ji26)) + (wrap64 (5 * (wrap64 ((wrap64 (Int.tdiv (rd t128 x5_2) 4)) + (wrap64 ((Int.tmod (rd t128 (ji24)) 4) * 64))))))))))) ?hg ?ho ?hn ?hr ?_; (case ho => rfl); (case hg => rfl); (case hn => rfl); (case hr => first | (go_simp; done) | (go_simp; rfl)); intro w42 hw; have hg : w40.grownBy w42 (some go21) := (by rw [hw]; exact HP41.2); have hp_ : Kd.R (Kd.int .i64) 3 w42 w.heap.size (fun k_ => (w.heap.size ≤ k_) ∧ some k_ ≠ (.slice (some ad144) t128.length co7 : Value).ownBlock) (.slice (some ⟨go21, 0, none⟩) x4_2.length co38) y149 := (by rw [hw, Ny149.out]; exact HP41.1); clear HP41; have n0_ := Aside0.mk (Kd.R_after (v := (.slice (some ⟨go21, 0, none⟩) x4_2.length co38)) (v1 := (.slice (some ⟨go21, 0, none⟩) x4_2.length co38)) (ok := (fun k_ => (w.heap.size ≤ k_))) (by (with_reducible repeat (first | apply Kd.R_alloc | apply Kd.R_drewN | apply Kd.R_drew)); exact HO_0.out) hg (.inl rfl)); have n1_ := Aside0.mk (hp_); have n2_ := Aside0.mk ((by rw [hw]; exact below_set (HB.out) GB21.out : Below w.heap.size w w42)); clear HO_0; clear HO_4; clear HB; have HO_0 := n0_; have HO_4 := n1_; have HB := n2_; clear n0_ n1_ n2_; clear hg hw hp_))
                                    go_roundg k2
                                    case measure => have := HK1.out; have := HK2.out; omega
                                    case rel => exact ⟨(decide ((wrap64 ((wrap64 (Int.tdiv (rd t128 x5_2) 4)) + (wrap64 ((Int.tmod (rd t128 (ji24)) 4) * 64)))) > 0)), (y149), (ji24), (by first | rfl | (simp; done) | (simp only [← hji24] <;> (first | rfl | simp)) | (simp [*]; done)), (by first | rfl | (simp; done) | (simp only [← hji24] <;> (first | rfl | simp)) | (simp [*]; done)), H', ⟨by have := HK1.out; have := HK2.out; omega⟩, ⟨by (with_reducible repeat (first | apply Kd.R_alloc | apply Kd.R_drewN | apply Kd.R_drew)); exact HO_0.out⟩, ⟨by (with_reducible repeat (first | apply Kd.R_alloc | apply Kd.R_drewN | apply Kd.R_drew)); exact HO_4.out⟩, ⟨by repeat (first | (with_reducible first | exact HB.out | apply below_alloc | apply pw_below_drewN | apply below_drew1) | exact HB.out)⟩⟩
                                · rw [if_neg c28] at H
                                  exact absurd H (by simp)
                              · rw [if_neg c27] at H
                                exact absurd H (by simp)
                            · rw [if_neg c25] at H
                              exact absurd H (by simp)
                          · rw [if_neg c23] at H
                            have c23b0 : decide ((wrap64 (x5_2 + 1)) < (t128.length : Int)) = false := decide_eq_false c23
                            clear c23
                            obtain ⟨ji43, hji43⟩ : ∃ j_ : Int, (wrap64 (x5_2 - 16)) = j_ := ⟨_, rfl⟩
                            replace H : (if 0 ≤ (ji43) then (if (ji43) < (x4_2.length : Int) then ((some (y145.set ((ji43) : Int).toNat (wrap64 ((rd y145 (ji43)) + (wrap64 (5 * (wrap64 (Int.tdiv (rd t128 x5_2) 4)))))) : List Int)).bind fun y151 => (if x3_2 = true then (escutcheonref1_fold.l1 k2 t128 true y151 (wrap64 (x5_2 + 1))) else (escutcheonref1_fold.l1 k2 t128 (decide ((wrap64 (Int.tdiv (rd t128 x5_2) 4)) > 0)) y151 (wrap64 (x5_2 + 1))))) else (none)) else (none)) = some r := by first | (rw [hji43] at H; exact H) | (simp only [hji43] at H ⊢; exact H)
                            have hji43w : (IntKind.i64.wrap (x5_2 - 16)) = ji43 := (i64_w _).trans hji43
                            by_cases c44 : 0 ≤ (ji43)
                            · rw [if_pos c44] at H
                              have c44b0 : decide (0 ≤ (ji43)) = true := decide_eq_true c44
                              clear c44
                              by_cases c45 : (ji43) < (x4_2.length : Int)
                              · rw [if_pos c45] at H
                                have c45b0 : decide ((ji43) < (x4_2.length : Int)) = true := decide_eq_true c45
                                clear c45
                                obtain ⟨y151, hy151⟩ : ∃ y_ : List Int, y_ = (y145.set ((ji43) : Int).toNat (wrap64 ((rd y145 (ji43)) + (wrap64 (5 * (wrap64 (Int.tdiv (rd t128 x5_2) 4))))))) := ⟨_, rfl⟩
                                replace H : (if x3_2 = true then (escutcheonref1_fold.l1 k2 t128 true y151 (wrap64 (x5_2 + 1))) else (escutcheonref1_fold.l1 k2 t128 (decide ((wrap64 (Int.tdiv (rd t128 x5_2) 4)) > 0)) y151 (wrap64 (x5_2 + 1)))) = some r := by first | (rw [hy151]; with_reducible exact H) | (have H2_ := (Option.bind_some _ _).symm.trans H; rw [hy151]; with_reducible exact H2_) | (have H2_ := (Option.bind_some _ _).symm.trans H; with_reducible exact H2_) | with_reducible exact H | (rw [hy151]; exact H) | exact H
                                have Ny151 := Aside0.mk hy151
                                clear hy151
                                by_cases c47 : x3_2 = true
                                · subst c47
                                  have H1 : (escutcheonref1_fold.l1 k2 t128 true y151 (wrap64 (x5_2 + 1))) = some r := by rw [if_pos rfl] at H; exact H
                                  clear H
                                  have H := H1
                                  clear H1
                                  have H' := Aside0.mk H
                                  clear H
                                  try go_wp2
                                  have n0_ := Aside0.mk (Kd.R_drew HO_0.out)
                                  have n1_ := Aside0.mk (Kd.R_drew HO_4.out)
                                  have n2_ := Aside0.mk (below_drew1 HB.out)
                                  clear HO_0
                                  clear HO_4
                                  clear HB
                                  have HO_0 := n0_
                                  have HO_4 := n1_
                                  have HB := n2_
                                  clear n0_ n1_ n2_
                                  obtain ⟨Ao49, co49, eo49⟩ := Kd.R_slice HO_4.out
                                  (first | subst eo49 | (injection eo49 with f1_ f2_ f3_; have f4_ := f1_.symm; have f5_ := f3_.symm; clear f1_ f2_ f3_; subst f4_; subst f5_))
                                  have p143 : 0 ≤ (16 : Int) := (by omega)
                                  have q143 : 16 < (x4_2.length : Int) := of_decide_eq_true (by first | (with_reducible assumption) | assumption)
                                  obtain ⟨ad143, e143, hx143_0⟩ := Kd.at_int (Kd.R_reads' HO_4.out).2.2 16 p143 q143
                                  cases e143
                                  (try simp only [show (16 : Int).toNat = 16 from rfl, Nat.reduceMul, Nat.reduceEqDiff, Go.Addr.add, ↓reduceIte] at hx143_0)
                                  have qi143 : (16 < x4_2.length) = True := eq_true (by omega)
                                  (try rw [show ((16 : Int)).toNat = 16 from rfl] at hx143_0)
                                  replace p143 := eq_true p143
                                  replace q143 := eq_true q143
                                  have p144 : 0 ≤ (16 : Int) := (by omega)
                                  have q144 : 16 < (t128.length : Int) := of_decide_eq_true (by first | (with_reducible assumption) | assumption)
                                  obtain ⟨ad144, e144, hx144_0⟩ := Kd.at_int (Kd.R_reads' HO_0.out).2.2 16 p144 q144
                                  cases e144
                                  (try simp only [show (16 : Int).toNat = 16 from rfl, Nat.reduceMul, Nat.reduceEqDiff, Go.Addr.add, ↓reduceIte] at hx144_0)
                                  have qi144 : (16 < t128.length) = True := eq_true (by omega)
                                  (try rw [show ((16 : Int)).toNat = 16 from rfl] at hx144_0)
                                  replace p144 := eq_true p144
                                  replace q144 := eq_true q144
                                  have p21 : 0 ≤ (16 : Int) := (by omega)
                                  have q21 : (16 : Int) < ((x4_2.length : Int) : Int) := of_decide_eq_true (by first | (with_reducible assumption) | assumption)
                                  have qi21 : (16 < x4_2.length) = True := eq_true (by omega)
                                  obtain ⟨go21, co21, eo21, gb21, gl21, cl21, HG21⟩ := Kd.R_form HO_4.out (by omega)
                                  (first | cases eo21 | (injection eo21 with ea_ en_ ec_; (first | subst ea_ | (injection ea_ with ea_; subst ea_)); subst ec_; clear en_))
                                  have GB21 := Aside0.mk gb21
                                  have GG21 := Aside0.mk HG21
                                  clear gb21 gl21 HG21
                                  (first | simp only [add_plain] at hx143_0 | skip)
                                  obtain ⟨hx21_0, hf21_0⟩ := Kd.R_celln 0 HO_4.out (16 : Int) p21 q21
                                  (try rw [show ((16 : Int)).toNat = 16 from rfl] at hx21_0)
                                  (try simp only [Nat.reduceMul, Nat.zero_mul, Nat.zero_add, Nat.reduceAdd] at hx21_0)
                                  (try rw [show ((16 : Int)).toNat = 16 from rfl] at hf21_0)
                                  (try simp only [Nat.reduceMul, Nat.zero_mul, Nat.zero_add, Nat.reduceAdd] at hf21_0)
                                  replace p21 := eq_true p21
                                  replace q21 := eq_true q21
                                  have HP50 := Kd.R_putn HO_4.out (16 : Int) (wrap64 ((rd x4_2 16) + (Int.tmod (rd t128 16) 4)))
                                  rw [← Ny145.out] at HP50
                                  have HQ50 := Aside0.mk HP50
                                  clear HP50
                                  refine start_ (n := 11) (S := fun w' => w'.cell? ⟨go21, 16, none⟩ = some (.int .i64 (rd x4_2 16)) ∧ w'.cell? ⟨ad144.block, ad144.off + 16, none⟩ = some (.int .i64 (rd t128 16))) (ds := [10]) #[false, false, false, false, false, false, false, false, false, false, false] (by kernel_rfl) rfl rfl ⟨hx143_0, hx144_0⟩ (fun hHeld => ?_); refine with_tabW escutcheonref1_fold.tab10 escutcheonref1_fold.bits10 (fun HT_ HW_ => ?_)
                                  generalize wr.drew = w48 at HO_0 HO_4 HB GG21 HQ50 hf21_0 hx143_0 hx144_0 hx21_0 hHeld ⊢
                                  refine pure_ (i := 0) (N := some 34) (v := ?_) (a' := ?_) #[true, false, false, false, false, false, false, false, false, false, false] rfl rfl (any_of HT_.out (by kernel_rfl)) (fun _ _ _ h => h) (Or.inl ⟨by rfl, ?_⟩) ?_ ?_
                                  rotate_left
                                  · intro w'
                                    go_simp
                                    with_reducible rfl
                                  rotate_left
                                  · simp only [Act.put, List.setIfInBounds_toArray, List.set_cons_zero, List.set_cons_succ, i64_w, i32_w]
                                    rfl
                                  refine pure_ (i := 1) (N := some 35) (v := ?_) (a' := ?_) #[true, true, false, false, false, false, false, false, false, false, false] rfl rfl (any_of HT_.out (by kernel_rfl)) (fun _ _ _ h => h) (Or.inl ⟨by rfl, ?_⟩) ?_ ?_
                                  rotate_left
                                  · intro w'
                                    go_simp
                                    with_reducible rfl
                                  rotate_left
                                  · simp only [Act.put, List.setIfInBounds_toArray, List.set_cons_zero, List.set_cons_succ, i64_w, i32_w]
                                    rfl
                                  refine pure_ (i := 2) (N := some 36) (v := ?_) (a' := ?_) #[true, true, true, false, false, false, false, false, false, false, false] rfl rfl (any_of HT_.out (by kernel_rfl)) (fun _ _ _ h => h) (Or.inl ⟨by rfl, ?_⟩) ?_ ?_
                                  rotate_left
                                  · intro w'
                                    go_simp
                                    with_reducible rfl
                                  rotate_left
                                  · simp only [Act.put, List.setIfInBounds_toArray, List.set_cons_zero, List.set_cons_succ, i64_w, i32_w]
                                    rfl
                                  refine pure_ (i := 4) (N := some 38) (v := ?_) (a' := ?_) #[true, true, true, false, true, false, false, false, false, false, false] rfl rfl (any_of HT_.out (by kernel_rfl)) (fun _ _ _ h => h) (Or.inl ⟨by rfl, ?_⟩) ?_ ?_
                                  rotate_left
                                  · intro w'
                                    go_simp
                                    with_reducible rfl
                                  rotate_left
                                  · simp only [Act.put, List.setIfInBounds_toArray, List.set_cons_zero, List.set_cons_succ, i64_w, i32_w]
                                    rfl
                                  refine pure_ (i := 5) (N := some 39) (v := ?_) (a' := ?_) #[true, true, true, false, true, true, false, false, false, false, false] rfl rfl (any_of HT_.out (by kernel_rfl)) (fun _ _ _ h => h) (Or.inl ⟨by rfl, ?_⟩) ?_ ?_
                                  rotate_left
                                  · intro w'
                                    go_simp
                                    with_reducible rfl
                                  rotate_left
                                  · simp only [Act.put, List.setIfInBounds_toArray, List.set_cons_zero, List.set_cons_succ, i64_w, i32_w]
                                    rfl
                                  refine take_ (i := 3) (N := some 37) (v := ?_) (a' := ?_) #[true, true, true, true, true, true, false, false, false, false, false] rfl rfl (take_ofW HT_.out HW_.out (by kernel_rfl)) (fun _ _ _ h => h) (Or.inl ⟨by rfl, ?_⟩) hHeld ?_ ?_
                                  rotate_left
                                  · rintro w' ⟨s0, s1⟩
                                    go_simp
                                    with_reducible rfl
                                  rotate_left
                                  · simp only [Act.put, List.setIfInBounds_toArray, List.set_cons_zero, List.set_cons_succ, i64_w, i32_w]
                                    rfl
                                  refine take_ (i := 6) (N := some 40) (v := ?_) (a' := ?_) #[true, true, true, true, true, true, true, false, false, false, false] rfl rfl (take_ofW HT_.out HW_.out (by kernel_rfl)) (fun _ _ _ h => h) (Or.inl ⟨by rfl, ?_⟩) hHeld ?_ ?_
                                  rotate_left
                                  · rintro w' ⟨s0, s1⟩
                                    go_simp
                                    with_reducible rfl
                                  rotate_left
                                  · simp only [Act.put, List.setIfInBounds_toArray, List.set_cons_zero, List.set_cons_succ, i64_w, i32_w]
                                    rfl
                                  refine pure_ (i := 7) (N := some 41) (v := ?_) (a' := ?_) #[true, true, true, true, true, true, true, true, false, false, false] rfl rfl (any_of HT_.out (by kernel_rfl)) (fun _ _ _ h => h) (Or.inl ⟨by rfl, ?_⟩) ?_ ?_
                                  rotate_left
                                  · intro w'
                                    go_simp
                                    with_reducible rfl
                                  rotate_left
                                  · simp only [Act.put, List.setIfInBounds_toArray, List.set_cons_zero, List.set_cons_succ, i64_w, i32_w]
                                    rfl
                                  refine pure_ (i := 8) (N := some 42) (v := ?_) (a' := ?_) #[true, true, true, true, true, true, true, true, true, false, false] rfl rfl (any_of HT_.out (by kernel_rfl)) (fun _ _ _ h => h) (Or.inl ⟨by rfl, ?_⟩) ?_ ?_
                                  rotate_left
                                  · intro w'
                                    go_simp
                                    with_reducible rfl
                                  rotate_left
                                  · simp only [Act.put, List.setIfInBounds_toArray, List.set_cons_zero, List.set_cons_succ, i64_w, i32_w]
                                    rfl
                                  refine pure_ (i := 9) (N := some 43) (v := ?_) (a' := ?_) #[true, true, true, true, true, true, true, true, true, true, false] rfl rfl (any_of HT_.out (by kernel_rfl)) (fun _ _ _ h => h) (Or.inl ⟨by rfl, ?_⟩) ?_ ?_
                                  rotate_left
                                  · intro w'
                                    go_simp
                                    with_reducible rfl
                                  rotate_left
                                  · simp only [Act.put, List.setIfInBounds_toArray, List.set_cons_zero, List.set_cons_succ, i64_w, i32_w]
                                    rfl
                                  refine last_ (i := 10) (N := none) #[true, true, true, true, true, true, true, true, true, true, true] rfl rfl (one_of HT_.out (by kernel_rfl)) (by decide) (fun K hK => ?_)
                                  refine skip_ (w1 := ?_) (by rfl) rfl ?_ ?_
                                  rotate_left
                                  · first | (go_simp; rfl) | (have hSC_ := @cell_set_blk; go_simp; rfl)
                                  refine hK.out _ _ ?_
                                  clear hK K
                                  refine done_ (done_of HT_.out (by kernel_rfl)) ?_
                                  have n0_ : Aside0 (Kd.R (Kd.int .i64) 3 (w48.setCell ⟨go21, 16, none⟩ (.int .i64 (wrap64 ((rd x4_2 16) + (Int.tmod (rd t128 16) 4))))) w.heap.size (fun k_ => (w.heap.size ≤ k_) ∧ some k_ ≠ (.slice (some ⟨go21, 0, none⟩) x4_2.length co49 : Value).ownBlock) (.slice (some ad144) t128.length co7) t128) := ⟨by (with_reducible repeat (first | apply Kd.R_alloc | apply Kd.R_drewN | apply Kd.R_drew)); exact Kd.R_mono (Kd.R_far (p := ⟨go21, 16, none⟩) (Kd.R_mono HO_0.out (fun k_ hk => (⟨hk, fun e_ => hk.2 (by rw [e_]; rfl)⟩ : _ ∧ k_ ≠ go21))) (fun _ hk => hk.2) (.int .i64 (wrap64 ((rd x4_2 16) + (Int.tmod (rd t128 16) 4))))) (fun _ hk => ⟨hk.1.1, hk.1.2⟩)⟩
                                  have n1_ : Aside0 (Kd.R (Kd.int .i64) 3 (w48.setCell ⟨go21, 16, none⟩ (.int .i64 (wrap64 ((rd x4_2 16) + (Int.tmod (rd t128 16) 4))))) w.heap.size (fun k_ => (w.heap.size ≤ k_) ∧ some k_ ≠ (.slice (some ad144) t128.length co7 : Value).ownBlock) (.slice (some ⟨go21, 0, none⟩) x4_2.length co49) y145) := ⟨by (with_reducible repeat (first | apply Kd.R_alloc | apply Kd.R_drewN | apply Kd.R_drew)); exact HQ50.out⟩
                                  have n2_ : Aside0 (Below w.heap.size w (w48.setCell ⟨go21, 16, none⟩ (.int .i64 (wrap64 ((rd x4_2 16) + (Int.tmod (rd t128 16) 4)))))) := ⟨by repeat (first | (with_reducible first | exact HB.out | apply below_alloc | apply pw_below_drewN | apply below_drew1 | refine below_set ?_ GB21.out) | exact HB.out)⟩
                                  (try clear HO_0)
                                  (try clear HO_4)
                                  (try clear HB)
                                  generalize (w48.setCell ⟨go21, 16, none⟩ (.int .i64 (wrap64 ((rd x4_2 16) + (Int.tmod (rd t128 16) 4))))) = w51 at n0_ n1_ n2_ ⊢
                                  have HO_0 := n0_
                                  have HO_4 := n1_
                                  have HB := n2_
                                  clear n0_ n1_ n2_
                                  have p146 : 0 ≤ (x5_2 : Int) := of_decide_eq_true (by first | (with_reducible assumption) | assumption)
                                  have q146 : x5_2 < (t128.length : Int) := of_decide_eq_true (by first | (with_reducible assumption) | assumption)
                                  obtain ⟨ad146, e146, hx146_0⟩ := Kd.at_int (Kd.R_reads' HO_0.out).2.2 x5_2 p146 q146
                                  obtain rfl : ad144 = ad146 := (by injection e146)
                                  replace p146 := eq_true p146
                                  replace q146 := eq_true q146
                                  have p150 : 0 ≤ ((ji43) : Int) := of_decide_eq_true (by first | (with_reducible assumption) | assumption)
                                  have q150 : (ji43) < (y145.length : Int) := (by have h_ : ((ji43) : Int) < ((x4_2.length : Int) : Int) := of_decide_eq_true (by first | (with_reducible assumption) | assumption); first | (have e_ := (Kd.R_reads' HO_4.out).1; omega) | simpa only [Ny145.out, List.length_set] using h_)
                                  have ql150 : (((ji43) : Int) < ((x4_2.length : Int) : Int)) = True := eq_true (of_decide_eq_true (by first | (with_reducible assumption) | assumption))
                                  obtain ⟨ad150, e150, hx150_0⟩ := Kd.at_int (Kd.R_reads' HO_4.out).2.2 (ji43) p150 q150
                                  obtain rfl : (⟨go21, 0, none⟩ : Addr) = ad150 := (by injection e150)
                                  (first | simp only [add_plain] at hx150_0 | simp only [add_at] at hx150_0 | simp only [Addr.add, Nat.zero_add] at hx150_0 | skip)
                                  replace p150 := eq_true p150
                                  replace q150 := eq_true q150
                                  have p46 : 0 ≤ ((ji43) : Int) := of_decide_eq_true (by first | (with_reducible assumption) | assumption)
                                  have q46 : ((ji43) : Int) < ((x4_2.length : Int) : Int) := of_decide_eq_true (by first | (with_reducible assumption) | assumption)
                                  obtain ⟨hx46_0, hf46_0⟩ := Kd.R_celln 0 HO_4.out ((ji43) : Int) p46 q46
                                  replace p46 := eq_true p46
                                  replace q46 := eq_true q46
                                  obtain ⟨hy52_, hz52_⟩ := Kd.R_celln 0 HO_4.out ((ji43) : Int) (of_decide_eq_true (by first | (with_reducible assumption) | assumption)) (of_decide_eq_true (by first | (with_reducible assumption) | assumption))
                                  have HP52 := Kd.R_putg HO_4.out ((ji43) : Int) (wrap64 ((rd y145 (ji43)) + (wrap64 (5 * (wrap64 (Int.tdiv (rd t128 x5_2) 4))))))
                                  try go_wp2_with (first | ((with_reducible refine gate_store (t := 3) (p := 74) rfl ?_); refine store_event (t := 3) (p := 74) (v := ?vo_w53) (w1 := (w51.setCell ⟨go21, ((ji43) : Int).toNat, none⟩ (.int .i64 (wrap64 ((rd y145 (ji43)) + (wrap64 (5 * (wrap64 (Int.tdiv (rd t128 x5_2) 4))))))))) ?hg ?ho ?hn ?hr ?_; (case ho => rfl); (case hg => rfl); (case hn => rfl); (case hr => first | (go_simp; done) | (go_simp; rfl)); intro w53 hw; have hg : w51.grownBy w53 (some go21) := (by rw [hw]; exact HP52.2); have hp_ : Kd.R (Kd.int .i64) 3 w53 w.heap.size (fun k_ => (w.heap.size ≤ k_) ∧ some k_ ≠ (.slice (some ad144) t128.length co7 : Value).ownBlock) (.slice (some ⟨go21, 0, none⟩) x4_2.length co49) y151 := (by rw [hw, Ny151.out]; exact HP52.1); clear HP52; have n0_ := Aside0.mk (Kd.R_after (v := (.slice (some ⟨go21, 0, none⟩) x4_2.length co49)) (v1 := (.slice (some ⟨go21, 0, none⟩) x4_2.length co49)) (ok := (fun k_ => (w.heap.size ≤ k_))) (by (with_reducible repeat (first | apply Kd.R_alloc | apply Kd.R_drewN | apply Kd.R_drew)); exact HO_0.out) hg (.inl rfl)); have n1_ := Aside0.mk (hp_); have n2_ := Aside0.mk ((by rw [hw]; exact below_set (HB.out) GB21.out : Below w.heap.size w w53)); clear HO_0; clear HO_4; clear HB; have HO_0 := n0_; have HO_4 := n1_; have HB := n2_; clear n0_ n1_ n2_; clear hg hw hp_))
                                  go_roundg k2
                                  case measure => have := HK1.out; have := HK2.out; omega
                                  case rel => exact ⟨(true), (y151), (wrap64 (x5_2 + 1)), (by first | rfl | (simp; done) | (simp [*]; done)), (by first | rfl | (simp; done) | (simp [*]; done)), H', ⟨by have := HK1.out; have := HK2.out; omega⟩, ⟨by (with_reducible repeat (first | apply Kd.R_alloc | apply Kd.R_drewN | apply Kd.R_drew)); exact HO_0.out⟩, ⟨by (with_reducible repeat (first | apply Kd.R_alloc | apply Kd.R_drewN | apply Kd.R_drew)); exact HO_4.out⟩, ⟨by repeat (first | (with_reducible first | exact HB.out | apply below_alloc | apply pw_below_drewN | apply below_drew1) | exact HB.out)⟩⟩
                                · replace c47 := Bool.eq_false_iff.mpr c47
                                  subst c47
                                  have H1 : (escutcheonref1_fold.l1 k2 t128 (decide ((wrap64 (Int.tdiv (rd t128 x5_2) 4)) > 0)) y151 (wrap64 (x5_2 + 1))) = some r := by rw [if_neg (show ¬ (false = true) by decide)] at H; exact H
                                  clear H
                                  have H := H1
                                  clear H1
                                  have H' := Aside0.mk H
                                  clear H
                                  try go_wp2
                                  have n0_ := Aside0.mk (Kd.R_drew HO_0.out)
                                  have n1_ := Aside0.mk (Kd.R_drew HO_4.out)
                                  have n2_ := Aside0.mk (below_drew1 HB.out)
                                  clear HO_0
                                  clear HO_4
                                  clear HB
                                  have HO_0 := n0_
                                  have HO_4 := n1_
                                  have HB := n2_
                                  clear n0_ n1_ n2_
                                  obtain ⟨Ao55, co55, eo55⟩ := Kd.R_slice HO_4.out
                                  (first | subst eo55 | (injection eo55 with f1_ f2_ f3_; have f4_ := f1_.symm; have f5_ := f3_.symm; clear f1_ f2_ f3_; subst f4_; subst f5_))
                                  have p143 : 0 ≤ (16 : Int) := (by omega)
                                  have q143 : 16 < (x4_2.length : Int) := of_decide_eq_true (by first | (with_reducible assumption) | assumption)
                                  obtain ⟨ad143, e143, hx143_0⟩ := Kd.at_int (Kd.R_reads' HO_4.out).2.2 16 p143 q143
                                  cases e143
                                  (try simp only [show (16 : Int).toNat = 16 from rfl, Nat.reduceMul, Nat.reduceEqDiff, Go.Addr.add, ↓reduceIte] at hx143_0)
                                  have qi143 : (16 < x4_2.length) = True := eq_true (by omega)
                                  (try rw [show ((16 : Int)).toNat = 16 from rfl] at hx143_0)
                                  replace p143 := eq_true p143
                                  replace q143 := eq_true q143
                                  have p144 : 0 ≤ (16 : Int) := (by omega)
                                  have q144 : 16 < (t128.length : Int) := of_decide_eq_true (by first | (with_reducible assumption) | assumption)
                                  obtain ⟨ad144, e144, hx144_0⟩ := Kd.at_int (Kd.R_reads' HO_0.out).2.2 16 p144 q144
                                  cases e144
                                  (try simp only [show (16 : Int).toNat = 16 from rfl, Nat.reduceMul, Nat.reduceEqDiff, Go.Addr.add, ↓reduceIte] at hx144_0)
                                  have qi144 : (16 < t128.length) = True := eq_true (by omega)
                                  (try rw [show ((16 : Int)).toNat = 16 from rfl] at hx144_0)
                                  replace p144 := eq_true p144
                                  replace q144 := eq_true q144
                                  have p21 : 0 ≤ (16 : Int) := (by omega)
                                  have q21 : (16 : Int) < ((x4_2.length : Int) : Int) := of_decide_eq_true (by first | (with_reducible assumption) | assumption)
                                  have qi21 : (16 < x4_2.length) = True := eq_true (by omega)
                                  obtain ⟨go21, co21, eo21, gb21, gl21, cl21, HG21⟩ := Kd.R_form HO_4.out (by omega)
                                  (first | cases eo21 | (injection eo21 with ea_ en_ ec_; (first | subst ea_ | (injection ea_ with ea_; subst ea_)); subst ec_; clear en_))
                                  have GB21 := Aside0.mk gb21
                                  have GG21 := Aside0.mk HG21
                                  clear gb21 gl21 HG21
                                  (first | simp only [add_plain] at hx143_0 | skip)
                                  obtain ⟨hx21_0, hf21_0⟩ := Kd.R_celln 0 HO_4.out (16 : Int) p21 q21
                                  (try rw [show ((16 : Int)).toNat = 16 from rfl] at hx21_0)
                                  (try simp only [Nat.reduceMul, Nat.zero_mul, Nat.zero_add, Nat.reduceAdd] at hx21_0)
                                  (try rw [show ((16 : Int)).toNat = 16 from rfl] at hf21_0)
                                  (try simp only [Nat.reduceMul, Nat.zero_mul, Nat.zero_add, Nat.reduceAdd] at hf21_0)
                                  replace p21 := eq_true p21
                                  replace q21 := eq_true q21
                                  have HP56 := Kd.R_putn HO_4.out (16 : Int) (wrap64 ((rd x4_2 16) + (Int.tmod (rd t128 16) 4)))
                                  rw [← Ny145.out] at HP56
                                  have HQ56 := Aside0.mk HP56
                                  clear HP56
                                  refine start_ (n := 11) (S := fun w' => w'.cell? ⟨go21, 16, none⟩ = some (.int .i64 (rd x4_2 16)) ∧ w'.cell? ⟨ad144.block, ad144.off + 16, none⟩ = some (.int .i64 (rd t128 16))) (ds := [10]) #[false, false, false, false, false, false, false, false, false, false, false] (by kernel_rfl) rfl rfl ⟨hx143_0, hx144_0⟩ (fun hHeld => ?_); refine with_tabW escutcheonref1_fold.tab10 escutcheonref1_fold.bits10 (fun HT_ HW_ => ?_)
                                  generalize wr.drew = w54 at HO_0 HO_4 HB GG21 HQ56 hf21_0 hx143_0 hx144_0 hx21_0 hHeld ⊢
                                  refine pure_ (i := 0) (N := some 34) (v := ?_) (a' := ?_) #[true, false, false, false, false, false, false, false, false, false, false] rfl rfl (any_of HT_.out (by kernel_rfl)) (fun _ _ _ h => h) (Or.inl ⟨by rfl, ?_⟩) ?_ ?_
                                  rotate_left
                                  · intro w'
                                    go_simp
                                    with_reducible rfl
                                  rotate_left
                                  · simp only [Act.put, List.setIfInBounds_toArray, List.set_cons_zero, List.set_cons_succ, i64_w, i32_w]
                                    rfl
                                  refine pure_ (i := 1) (N := some 35) (v := ?_) (a' := ?_) #[true, true, false, false, false, false, false, false, false, false, false] rfl rfl (any_of HT_.out (by kernel_rfl)) (fun _ _ _ h => h) (Or.inl ⟨by rfl, ?_⟩) ?_ ?_
                                  rotate_left
                                  · intro w'
                                    go_simp
                                    with_reducible rfl
                                  rotate_left
                                  · simp only [Act.put, List.setIfInBounds_toArray, List.set_cons_zero, List.set_cons_succ, i64_w, i32_w]
                                    rfl
                                  refine pure_ (i := 2) (N := some 36) (v := ?_) (a' := ?_) #[true, true, true, false, false, false, false, false, false, false, false] rfl rfl (any_of HT_.out (by kernel_rfl)) (fun _ _ _ h => h) (Or.inl ⟨by rfl, ?_⟩) ?_ ?_
                                  rotate_left
                                  · intro w'
                                    go_simp
                                    with_reducible rfl
                                  rotate_left
                                  · simp only [Act.put, List.setIfInBounds_toArray, List.set_cons_zero, List.set_cons_succ, i64_w, i32_w]
                                    rfl
                                  refine pure_ (i := 4) (N := some 38) (v := ?_) (a' := ?_) #[true, true, true, false, true, false, false, false, false, false, false] rfl rfl (any_of HT_.out (by kernel_rfl)) (fun _ _ _ h => h) (Or.inl ⟨by rfl, ?_⟩) ?_ ?_
                                  rotate_left
                                  · intro w'
                                    go_simp
                                    with_reducible rfl
                                  rotate_left
                                  · simp only [Act.put, List.setIfInBounds_toArray, List.set_cons_zero, List.set_cons_succ, i64_w, i32_w]
                                    rfl
                                  refine pure_ (i := 5) (N := some 39) (v := ?_) (a' := ?_) #[true, true, true, false, true, true, false, false, false, false, false] rfl rfl (any_of HT_.out (by kernel_rfl)) (fun _ _ _ h => h) (Or.inl ⟨by rfl, ?_⟩) ?_ ?_
                                  rotate_left
                                  · intro w'
                                    go_simp
                                    with_reducible rfl
                                  rotate_left
                                  · simp only [Act.put, List.setIfInBounds_toArray, List.set_cons_zero, List.set_cons_succ, i64_w, i32_w]
                                    rfl
                                  refine take_ (i := 3) (N := some 37) (v := ?_) (a' := ?_) #[true, true, true, true, true, true, false, false, false, false, false] rfl rfl (take_ofW HT_.out HW_.out (by kernel_rfl)) (fun _ _ _ h => h) (Or.inl ⟨by rfl, ?_⟩) hHeld ?_ ?_
                                  rotate_left
                                  · rintro w' ⟨s0, s1⟩
                                    go_simp
                                    with_reducible rfl
                                  rotate_left
                                  · simp only [Act.put, List.setIfInBounds_toArray, List.set_cons_zero, List.set_cons_succ, i64_w, i32_w]
                                    rfl
                                  refine take_ (i := 6) (N := some 40) (v := ?_) (a' := ?_) #[true, true, true, true, true, true, true, false, false, false, false] rfl rfl (take_ofW HT_.out HW_.out (by kernel_rfl)) (fun _ _ _ h => h) (Or.inl ⟨by rfl, ?_⟩) hHeld ?_ ?_
                                  rotate_left
                                  · rintro w' ⟨s0, s1⟩
                                    go_simp
                                    with_reducible rfl
                                  rotate_left
                                  · simp only [Act.put, List.setIfInBounds_toArray, List.set_cons_zero, List.set_cons_succ, i64_w, i32_w]
                                    rfl
                                  refine pure_ (i := 7) (N := some 41) (v := ?_) (a' := ?_) #[true, true, true, true, true, true, true, true, false, false, false] rfl rfl (any_of HT_.out (by kernel_rfl)) (fun _ _ _ h => h) (Or.inl ⟨by rfl, ?_⟩) ?_ ?_
                                  rotate_left
                                  · intro w'
                                    go_simp
                                    with_reducible rfl
                                  rotate_left
                                  · simp only [Act.put, List.setIfInBounds_toArray, List.set_cons_zero, List.set_cons_succ, i64_w, i32_w]
                                    rfl
                                  refine pure_ (i := 8) (N := some 42) (v := ?_) (a' := ?_) #[true, true, true, true, true, true, true, true, true, false, false] rfl rfl (any_of HT_.out (by kernel_rfl)) (fun _ _ _ h => h) (Or.inl ⟨by rfl, ?_⟩) ?_ ?_
                                  rotate_left
                                  · intro w'
                                    go_simp
                                    with_reducible rfl
                                  rotate_left
                                  · simp only [Act.put, List.setIfInBounds_toArray, List.set_cons_zero, List.set_cons_succ, i64_w, i32_w]
                                    rfl
                                  refine pure_ (i := 9) (N := some 43) (v := ?_) (a' := ?_) #[true, true, true, true, true, true, true, true, true, true, false] rfl rfl (any_of HT_.out (by kernel_rfl)) (fun _ _ _ h => h) (Or.inl ⟨by rfl, ?_⟩) ?_ ?_
                                  rotate_left
                                  · intro w'
                                    go_simp
                                    with_reducible rfl
                                  rotate_left
                                  · simp only [Act.put, List.setIfInBounds_toArray, List.set_cons_zero, List.set_cons_succ, i64_w, i32_w]
                                    rfl
                                  refine last_ (i := 10) (N := none) #[true, true, true, true, true, true, true, true, true, true, true] rfl rfl (one_of HT_.out (by kernel_rfl)) (by decide) (fun K hK => ?_)
                                  refine skip_ (w1 := ?_) (by rfl) rfl ?_ ?_
                                  rotate_left
                                  · first | (go_simp; rfl) | (have hSC_ := @cell_set_blk; go_simp; rfl)
                                  refine hK.out _ _ ?_
                                  clear hK K
                                  refine done_ (done_of HT_.out (by kernel_rfl)) ?_
                                  have n0_ : Aside0 (Kd.R (Kd.int .i64) 3 (w54.setCell ⟨go21, 16, none⟩ (.int .i64 (wrap64 ((rd x4_2 16) + (Int.tmod (rd t128 16) 4))))) w.heap.size (fun k_ => (w.heap.size ≤ k_) ∧ some k_ ≠ (.slice (some ⟨go21, 0, none⟩) x4_2.length co55 : Value).ownBlock) (.slice (some ad144) t128.length co7) t128) := ⟨by (with_reducible repeat (first | apply Kd.R_alloc | apply Kd.R_drewN | apply Kd.R_drew)); exact Kd.R_mono (Kd.R_far (p := ⟨go21, 16, none⟩) (Kd.R_mono HO_0.out (fun k_ hk => (⟨hk, fun e_ => hk.2 (by rw [e_]; rfl)⟩ : _ ∧ k_ ≠ go21))) (fun _ hk => hk.2) (.int .i64 (wrap64 ((rd x4_2 16) + (Int.tmod (rd t128 16) 4))))) (fun _ hk => ⟨hk.1.1, hk.1.2⟩)⟩
                                  have n1_ : Aside0 (Kd.R (Kd.int .i64) 3 (w54.setCell ⟨go21, 16, none⟩ (.int .i64 (wrap64 ((rd x4_2 16) + (Int.tmod (rd t128 16) 4))))) w.heap.size (fun k_ => (w.heap.size ≤ k_) ∧ some k_ ≠ (.slice (some ad144) t128.length co7 : Value).ownBlock) (.slice (some ⟨go21, 0, none⟩) x4_2.length co55) y145) := ⟨by (with_reducible repeat (first | apply Kd.R_alloc | apply Kd.R_drewN | apply Kd.R_drew)); exact HQ56.out⟩
                                  have n2_ : Aside0 (Below w.heap.size w (w54.setCell ⟨go21, 16, none⟩ (.int .i64 (wrap64 ((rd x4_2 16) + (Int.tmod (rd t128 16) 4)))))) := ⟨by repeat (first | (with_reducible first | exact HB.out | apply below_alloc | apply pw_below_drewN | apply below_drew1 | refine below_set ?_ GB21.out) | exact HB.out)⟩
                                  (try clear HO_0)
                                  (try clear HO_4)
                                  (try clear HB)
                                  generalize (w54.setCell ⟨go21, 16, none⟩ (.int .i64 (wrap64 ((rd x4_2 16) + (Int.tmod (rd t128 16) 4))))) = w57 at n0_ n1_ n2_ ⊢
                                  have HO_0 := n0_
                                  have HO_4 := n1_
                                  have HB := n2_
                                  clear n0_ n1_ n2_
                                  have p146 : 0 ≤ (x5_2 : Int) := of_decide_eq_true (by first | (with_reducible assumption) | assumption)
                                  have q146 : x5_2 < (t128.length : Int) := of_decide_eq_true (by first | (with_reducible assumption) | assumption)
                                  obtain ⟨ad146, e146, hx146_0⟩ := Kd.at_int (Kd.R_reads' HO_0.out).2.2 x5_2 p146 q146
                                  obtain rfl : ad144 = ad146 := (by injection e146)
                                  replace p146 := eq_true p146
                                  replace q146 := eq_true q146
                                  have p150 : 0 ≤ ((ji43) : Int) := of_decide_eq_true (by first | (with_reducible assumption) | assumption)
                                  have q150 : (ji43) < (y145.length : Int) := (by have h_ : ((ji43) : Int) < ((x4_2.length : Int) : Int) := of_decide_eq_true (by first | (with_reducible assumption) | assumption); first | (have e_ := (Kd.R_reads' HO_4.out).1; omega) | simpa only [Ny145.out, List.length_set] using h_)
                                  have ql150 : (((ji43) : Int) < ((x4_2.length : Int) : Int)) = True := eq_true (of_decide_eq_true (by first | (with_reducible assumption) | assumption))
                                  obtain ⟨ad150, e150, hx150_0⟩ := Kd.at_int (Kd.R_reads' HO_4.out).2.2 (ji43) p150 q150
                                  obtain rfl : (⟨go21, 0, none⟩ : Addr) = ad150 := (by injection e150)
                                  (first | simp only [add_plain] at hx150_0 | simp only [add_at] at hx150_0 | simp only [Addr.add, Nat.zero_add] at hx150_0 | skip)
                                  replace p150 := eq_true p150
                                  replace q150 := eq_true q150
                                  have p46 : 0 ≤ ((ji43) : Int) := of_decide_eq_true (by first | (with_reducible assumption) | assumption)
                                  have q46 : ((ji43) : Int) < ((x4_2.length : Int) : Int) := of_decide_eq_true (by first | (with_reducible assumption) | assumption)
                                  obtain ⟨hx46_0, hf46_0⟩ := Kd.R_celln 0 HO_4.out ((ji43) : Int) p46 q46
                                  replace p46 := eq_true p46
                                  replace q46 := eq_true q46
                                  obtain ⟨hy58_, hz58_⟩ := Kd.R_celln 0 HO_4.out ((ji43) : Int) (of_decide_eq_true (by first | (with_reducible assumption) | assumption)) (of_decide_eq_true (by first | (with_reducible assumption) | assumption))
                                  have HP58 := Kd.R_putg HO_4.out ((ji43) : Int) (wrap64 ((rd y145 (ji43)) + (wrap64 (5 * (wrap64 (Int.tdiv (rd t128 x5_2) 4))))))
                                  try go_wp2_with (first | ((with_reducible refine gate_store (t := 3) (p := 74) rfl ?_); refine store_event (t := 3) (p := 74) (v := ?vo_w59) (w1 := (w57.setCell ⟨go21, ((ji43) : Int).toNat, none⟩ (.int .i64 (wrap64 ((rd y145 (ji43)) + (wrap64 (5 * (wrap64 (Int.tdiv (rd t128 x5_2) 4))))))))) ?hg ?ho ?hn ?hr ?_; (case ho => rfl); (case hg => rfl); (case hn => rfl); (case hr => first | (go_simp; done) | (go_simp; rfl)); intro w59 hw; have hg : w57.grownBy w59 (some go21) := (by rw [hw]; exact HP58.2); have hp_ : Kd.R (Kd.int .i64) 3 w59 w.heap.size (fun k_ => (w.heap.size ≤ k_) ∧ some k_ ≠ (.slice (some ad144) t128.length co7 : Value).ownBlock) (.slice (some ⟨go21, 0, none⟩) x4_2.length co55) y151 := (by rw [hw, Ny151.out]; exact HP58.1); clear HP58; have n0_ := Aside0.mk (Kd.R_after (v := (.slice (some ⟨go21, 0, none⟩) x4_2.length co55)) (v1 := (.slice (some ⟨go21, 0, none⟩) x4_2.length co55)) (ok := (fun k_ => (w.heap.size ≤ k_))) (by (with_reducible repeat (first | apply Kd.R_alloc | apply Kd.R_drewN | apply Kd.R_drew)); exact HO_0.out) hg (.inl rfl)); have n1_ := Aside0.mk (hp_); have n2_ := Aside0.mk ((by rw [hw]; exact below_set (HB.out) GB21.out : Below w.heap.size w w59)); clear HO_0; clear HO_4; clear HB; have HO_0 := n0_; have HO_4 := n1_; have HB := n2_; clear n0_ n1_ n2_; clear hg hw hp_))
                                  go_roundg k2
                                  case measure => have := HK1.out; have := HK2.out; omega
                                  case rel => exact ⟨(decide ((wrap64 (Int.tdiv (rd t128 x5_2) 4)) > 0)), (y151), (wrap64 (x5_2 + 1)), (by first | rfl | (simp; done) | (simp [*]; done)), (by first | rfl | (simp; done) | (simp [*]; done)), H', ⟨by have := HK1.out; have := HK2.out; omega⟩, ⟨by (with_reducible repeat (first | apply Kd.R_alloc | apply Kd.R_drewN | apply Kd.R_drew)); exact HO_0.out⟩, ⟨by (with_reducible repeat (first | apply Kd.R_alloc | apply Kd.R_drewN | apply Kd.R_drew)); exact HO_4.out⟩, ⟨by repeat (first | (with_reducible first | exact HB.out | apply below_alloc | apply pw_below_drewN | apply below_drew1) | exact HB.out)⟩⟩
                              · rw [if_neg c45] at H
                                exact absurd H (by simp)
                            · rw [if_neg c44] at H
                              exact absurd H (by simp)
                        · rw [if_neg c22] at H
                          exact absurd H (by simp)
                      · rw [if_neg c20] at H
                        exact absurd H (by simp)
                    · rw [if_neg c19] at H
                      exact absurd H (by simp)
                  · rw [if_neg c18] at H
                    have c18b0 : (x5_2 == 16) = false := beq_eq_false_iff_ne.mpr c18
                    have c18b1 : (x5_2 != 16) = true := bne_iff_ne.mpr c18
                    by_cases c60 : 0 ≤ x5_2
                    · rw [if_pos c60] at H
                      have c60b0 : decide (0 ≤ x5_2) = true := decide_eq_true c60
                      clear c60
                      by_cases c61 : (wrap64 (x5_2 + 1)) < (t128.length : Int)
                      · rw [if_pos c61] at H
                        have c61b0 : decide ((wrap64 (x5_2 + 1)) < (t128.length : Int)) = true := decide_eq_true c61
                        clear c61
                        obtain ⟨ji62, hji62⟩ : ∃ j_ : Int, (wrap64 (x5_2 + 1)) = j_ := ⟨_, rfl⟩
                        replace H : (if 0 ≤ (ji62) then (if 0 ≤ (wrap64 (x5_2 - 16)) then (if (wrap64 (x5_2 - 16)) < (x4_2.length : Int) then ((some (x4_2.set ((wrap64 (x5_2 - 16)) : Int).toNat (wrap64 ((rd x4_2 (wrap64 (x5_2 - 16))) + (wrap64 (5 * (wrap64 ((wrap64 (Int.tdiv (rd t128 x5_2) 4)) + (wrap64 ((Int.tmod (rd t128 (ji62)) 4) * 64)))))))) : List Int)).bind fun y155 => (if x3_2 = true then (escutcheonref1_fold.l1 k2 t128 true y155 ji62) else (escutcheonref1_fold.l1 k2 t128 (decide ((wrap64 ((wrap64 (Int.tdiv (rd t128 x5_2) 4)) + (wrap64 ((Int.tmod (rd t128 (ji62)) 4) * 64)))) > 0)) y155 ji62))) else (none)) else (none)) else (none)) = some r := by first | (rw [hji62] at H; exact H) | (simp only [hji62] at H ⊢; exact H)
                        (try rw [hji62] at c61b0)
                        have hji62w : (IntKind.i64.wrap (x5_2 + 1)) = ji62 := (i64_w _).trans hji62
                        by_cases c63 : 0 ≤ (ji62)
                        · rw [if_pos c63] at H
                          have c63b0 : decide (0 ≤ (ji62)) = true := decide_eq_true c63
                          clear c63
                          obtain ⟨ji64, hji64⟩ : ∃ j_ : Int, (wrap64 (x5_2 - 16)) = j_ := ⟨_, rfl⟩
                          replace H : (if 0 ≤ (ji64) then (if (ji64) < (x4_2.length : Int) then ((some (x4_2.set ((ji64) : Int).toNat (wrap64 ((rd x4_2 (ji64)) + (wrap64 (5 * (wrap64 ((wrap64 (Int.tdiv (rd t128 x5_2) 4)) + (wrap64 ((Int.tmod (rd t128 (ji62)) 4) * 64)))))))) : List Int)).bind fun y155 => (if x3_2 = true then (escutcheonref1_fold.l1 k2 t128 true y155 ji62) else (escutcheonref1_fold.l1 k2 t128 (decide ((wrap64 ((wrap64 (Int.tdiv (rd t128 x5_2) 4)) + (wrap64 ((Int.tmod (rd t128 (ji62)) 4) * 64)))) > 0)) y155 ji62))) else (none)) else (none)) = some r := by first | (rw [hji64] at H; exact H) | (simp only [hji64] at H ⊢; exact H)
                          have hji64w : (IntKind.i64.wrap (x5_2 - 16)) = ji64 := (i64_w _).trans hji64
                          by_cases c65 : 0 ≤ (ji64)
                          · rw [if_pos c65] at H
                            have c65b0 : decide (0 ≤ (ji64)) = true := decide_eq_true c65
                            clear c65
                            by_cases c66 : (ji64) < (x4_2.length : Int)
                            · rw [if_pos c66] at H
                              have c66b0 : decide ((ji64) < (x4_2.length : Int)) = true := decide_eq_true c66
                              clear c66
                              obtain ⟨y155, hy155⟩ : ∃ y_ : List Int, y_ = (x4_2.set ((ji64) : Int).toNat (wrap64 ((rd x4_2 (ji64)) + (wrap64 (5 * (wrap64 ((wrap64 (Int.tdiv (rd t128 x5_2) 4)) + (wrap64 ((Int.tmod (rd t128 (ji62)) 4) * 64))))))))) := ⟨_, rfl⟩
                              replace H : (if x3_2 = true then (escutcheonref1_fold.l1 k2 t128 true y155 ji62) else (escutcheonref1_fold.l1 k2 t128 (decide ((wrap64 ((wrap64 (Int.tdiv (rd t128 x5_2) 4)) + (wrap64 ((Int.tmod (rd t128 (ji62)) 4) * 64)))) > 0)) y155 ji62)) = some r := by first | (rw [hy155]; with_reducible exact H) | (have H2_ := (Option.bind_some _ _).symm.trans H; rw [hy155]; with_reducible exact H2_) | (have H2_ := (Option.bind_some _ _).symm.trans H; with_reducible exact H2_) | with_reducible exact H | (rw [hy155]; exact H) | exact H
                              have Ny155 := Aside0.mk hy155
                              clear hy155
                              by_cases c68 : x3_2 = true
                              · subst c68
                                have H1 : (escutcheonref1_fold.l1 k2 t128 true y155 ji62) = some r := by rw [if_pos rfl] at H; exact H
                                clear H
                                have H := H1
                                clear H1
                                have H' := Aside0.mk H
                                clear H
                                have p152 : 0 ≤ (x5_2 : Int) := of_decide_eq_true (by first | (with_reducible assumption) | assumption)
                                have q152 : x5_2 < (t128.length : Int) := of_decide_eq_true (by first | (with_reducible assumption) | assumption)
                                obtain ⟨ad152, e152, hx152_0⟩ := Kd.at_int (Kd.R_reads' HO_0.out).2.2 x5_2 p152 q152
                                cases e152
                                replace p152 := eq_true p152
                                replace q152 := eq_true q152
                                have p153 : 0 ≤ ((ji62) : Int) := of_decide_eq_true (by first | (with_reducible assumption) | assumption)
                                have q153 : (ji62) < (t128.length : Int) := of_decide_eq_true (by first | (with_reducible assumption) | assumption)
                                obtain ⟨ad153, e153, hx153_0⟩ := Kd.at_int (Kd.R_reads' HO_0.out).2.2 (ji62) p153 q153
                                obtain rfl : ad152 = ad153 := (by injection e153)
                                replace p153 := eq_true p153
                                replace q153 := eq_true q153
                                obtain ⟨Ao69, co69, eo69⟩ := Kd.R_slice HO_4.out
                                subst eo69
                                have p154 : 0 ≤ ((ji64) : Int) := of_decide_eq_true (by first | (with_reducible assumption) | assumption)
                                have q154 : (ji64) < (x4_2.length : Int) := of_decide_eq_true (by first | (with_reducible assumption) | assumption)
                                obtain ⟨ad154, e154, hx154_0⟩ := Kd.at_int (Kd.R_reads' HO_4.out).2.2 (ji64) p154 q154
                                cases e154
                                replace p154 := eq_true p154
                                replace q154 := eq_true q154
                                have p67 : 0 ≤ ((ji64) : Int) := of_decide_eq_true (by first | (with_reducible assumption) | assumption)
                                have q67 : ((ji64) : Int) < ((x4_2.length : Int) : Int) := of_decide_eq_true (by first | (with_reducible assumption) | assumption)
                                obtain ⟨go67, co67, eo67, gb67, gl67, cl67, HG67⟩ := Kd.R_form HO_4.out (by omega)
                                (first | cases eo67 | (injection eo67 with ea_ en_ ec_; (first | subst ea_ | (injection ea_ with ea_; subst ea_)); subst ec_; clear en_))
                                have GB67 := Aside0.mk gb67
                                have GG67 := Aside0.mk HG67
                                clear gb67 gl67 HG67
                                (first | simp only [add_plain] at hx154_0 | skip)
                                obtain ⟨hx67_0, hf67_0⟩ := Kd.R_celln 0 HO_4.out ((ji64) : Int) p67 q67
                                replace p67 := eq_true p67
                                replace q67 := eq_true q67
                                have HP70 := Kd.R_putg HO_4.out ((ji64) : Int) (wrap64 ((rd x4_2 (ji64)) + (wrap64 (5 * (wrap64 ((wrap64 (Int.tdiv (rd t128 x5_2) 4)) + (wrap64 ((Int.tmod (rd t128 (ji62)) 4) * 64))))))))
                                go_wp2_with (first | ((with_reducible refine gate_store (t := 3) (p := 74) rfl ?_); refine store_event (t := 3) (p := 74) (v := ?vo_w71) (w1 := (wr.setCell ⟨go67, ((ji64) : Int).toNat, none⟩ (.int .i64 (wrap64 ((rd x4_2 (ji64)) + (wrap64 (5 * (wrap64 ((wrap64 (Int.tdiv (rd t128 x5_2) 4)) + (wrap64 ((Int.tmod (rd t128 (ji62)) 4) * 64))))))))))) ?hg ?ho ?hn ?hr ?_; (case ho => rfl); (case hg => rfl); (case hn => rfl); (case hr => first | (go_simp; done) | (go_simp; rfl)); intro w71 hw; have hg : wr.grownBy w71 (some go67) := (by rw [hw]; exact HP70.2); have hp_ : Kd.R (Kd.int .i64) 3 w71 w.heap.size (fun k_ => (w.heap.size ≤ k_) ∧ some k_ ≠ (.slice (some ad152) t128.length co7 : Value).ownBlock) (.slice (some ⟨go67, 0, none⟩) x4_2.length co69) y155 := (by rw [hw, Ny155.out]; exact HP70.1); clear HP70; have n0_ := Aside0.mk (Kd.R_after (v := (.slice (some ⟨go67, 0, none⟩) x4_2.length co69)) (v1 := (.slice (some ⟨go67, 0, none⟩) x4_2.length co69)) (ok := (fun k_ => (w.heap.size ≤ k_))) (by (with_reducible repeat (first | apply Kd.R_alloc | apply Kd.R_drewN | apply Kd.R_drew)); exact HO_0.out) hg (.inl rfl)); have n1_ := Aside0.mk (hp_); have n2_ := Aside0.mk ((by rw [hw]; exact below_set (HB.out) GB67.out : Below w.heap.size w w71)); clear HO_0; clear HO_4; clear HB; have HO_0 := n0_; have HO_4 := n1_; have HB := n2_; clear n0_ n1_ n2_; clear hg hw hp_))
                                go_roundg k2
                                case measure => have := HK1.out; have := HK2.out; omega
                                case rel => exact ⟨(true), (y155), (ji62), (by first | rfl | (simp; done) | (simp [*]; done)), (by first | rfl | (simp; done) | (simp only [← hji62] <;> (first | rfl | simp)) | (simp [*]; done)), H', ⟨by have := HK1.out; have := HK2.out; omega⟩, ⟨by (with_reducible repeat (first | apply Kd.R_alloc | apply Kd.R_drewN | apply Kd.R_drew)); exact HO_0.out⟩, ⟨by (with_reducible repeat (first | apply Kd.R_alloc | apply Kd.R_drewN | apply Kd.R_drew)); exact HO_4.out⟩, ⟨by repeat (first | (with_reducible first | exact HB.out | apply below_alloc | apply pw_below_drewN | apply below_drew1) | exact HB.out)⟩⟩
                              · replace c68 := Bool.eq_false_iff.mpr c68
                                subst c68
                                have H1 : (escutcheonref1_fold.l1 k2 t128 (decide ((wrap64 ((wrap64 (Int.tdiv (rd t128 x5_2) 4)) + (wrap64 ((Int.tmod (rd t128 (ji62)) 4) * 64)))) > 0)) y155 ji62) = some r := by rw [if_neg (show ¬ (false = true) by decide)] at H; exact H
                                clear H
                                have H := H1
                                clear H1
                                have H' := Aside0.mk H
                                clear H
                                have p152 : 0 ≤ (x5_2 : Int) := of_decide_eq_true (by first | (with_reducible assumption) | assumption)
                                have q152 : x5_2 < (t128.length : Int) := of_decide_eq_true (by first | (with_reducible assumption) | assumption)
                                obtain ⟨ad152, e152, hx152_0⟩ := Kd.at_int (Kd.R_reads' HO_0.out).2.2 x5_2 p152 q152
                                cases e152
                                replace p152 := eq_true p152
                                replace q152 := eq_true q152
                                have p153 : 0 ≤ ((ji62) : Int) := of_decide_eq_true (by first | (with_reducible assumption) | assumption)
                                have q153 : (ji62) < (t128.length : Int) := of_decide_eq_true (by first | (with_reducible assumption) | assumption)
                                obtain ⟨ad153, e153, hx153_0⟩ := Kd.at_int (Kd.R_reads' HO_0.out).2.2 (ji62) p153 q153
                                obtain rfl : ad152 = ad153 := (by injection e153)
                                replace p153 := eq_true p153
                                replace q153 := eq_true q153
                                obtain ⟨Ao72, co72, eo72⟩ := Kd.R_slice HO_4.out
                                subst eo72
                                have p154 : 0 ≤ ((ji64) : Int) := of_decide_eq_true (by first | (with_reducible assumption) | assumption)
                                have q154 : (ji64) < (x4_2.length : Int) := of_decide_eq_true (by first | (with_reducible assumption) | assumption)
                                obtain ⟨ad154, e154, hx154_0⟩ := Kd.at_int (Kd.R_reads' HO_4.out).2.2 (ji64) p154 q154
                                cases e154
                                replace p154 := eq_true p154
                                replace q154 := eq_true q154
                                have p67 : 0 ≤ ((ji64) : Int) := of_decide_eq_true (by first | (with_reducible assumption) | assumption)
                                have q67 : ((ji64) : Int) < ((x4_2.length : Int) : Int) := of_decide_eq_true (by first | (with_reducible assumption) | assumption)
                                obtain ⟨go67, co67, eo67, gb67, gl67, cl67, HG67⟩ := Kd.R_form HO_4.out (by omega)
                                (first | cases eo67 | (injection eo67 with ea_ en_ ec_; (first | subst ea_ | (injection ea_ with ea_; subst ea_)); subst ec_; clear en_))
                                have GB67 := Aside0.mk gb67
                                have GG67 := Aside0.mk HG67
                                clear gb67 gl67 HG67
                                (first | simp only [add_plain] at hx154_0 | skip)
                                obtain ⟨hx67_0, hf67_0⟩ := Kd.R_celln 0 HO_4.out ((ji64) : Int) p67 q67
                                replace p67 := eq_true p67
                                replace q67 := eq_true q67
                                have HP73 := Kd.R_putg HO_4.out ((ji64) : Int) (wrap64 ((rd x4_2 (ji64)) + (wrap64 (5 * (wrap64 ((wrap64 (Int.tdiv (rd t128 x5_2) 4)) + (wrap64 ((Int.tmod (rd t128 (ji62)) 4) * 64))))))))
                                go_wp2_with (first | ((with_reducible refine gate_store (t := 3) (p := 74) rfl ?_); refine store_event (t := 3) (p := 74) (v := ?vo_w74) (w1 := (wr.setCell ⟨go67, ((ji64) : Int).toNat, none⟩ (.int .i64 (wrap64 ((rd x4_2 (ji64)) + (wrap64 (5 * (wrap64 ((wrap64 (Int.tdiv (rd t128 x5_2) 4)) + (wrap64 ((Int.tmod (rd t128 (ji62)) 4) * 64))))))))))) ?hg ?ho ?hn ?hr ?_; (case ho => rfl); (case hg => rfl); (case hn => rfl); (case hr => first | (go_simp; done) | (go_simp; rfl)); intro w74 hw; have hg : wr.grownBy w74 (some go67) := (by rw [hw]; exact HP73.2); have hp_ : Kd.R (Kd.int .i64) 3 w74 w.heap.size (fun k_ => (w.heap.size ≤ k_) ∧ some k_ ≠ (.slice (some ad152) t128.length co7 : Value).ownBlock) (.slice (some ⟨go67, 0, none⟩) x4_2.length co72) y155 := (by rw [hw, Ny155.out]; exact HP73.1); clear HP73; have n0_ := Aside0.mk (Kd.R_after (v := (.slice (some ⟨go67, 0, none⟩) x4_2.length co72)) (v1 := (.slice (some ⟨go67, 0, none⟩) x4_2.length co72)) (ok := (fun k_ => (w.heap.size ≤ k_))) (by (with_reducible repeat (first | apply Kd.R_alloc | apply Kd.R_drewN | apply Kd.R_drew)); exact HO_0.out) hg (.inl rfl)); have n1_ := Aside0.mk (hp_); have n2_ := Aside0.mk ((by rw [hw]; exact below_set (HB.out) GB67.out : Below w.heap.size w w74)); clear HO_0; clear HO_4; clear HB; have HO_0 := n0_; have HO_4 := n1_; have HB := n2_; clear n0_ n1_ n2_; clear hg hw hp_))
                                go_roundg k2
                                case measure => have := HK1.out; have := HK2.out; omega
                                case rel => exact ⟨(decide ((wrap64 ((wrap64 (Int.tdiv (rd t128 x5_2) 4)) + (wrap64 ((Int.tmod (rd t128 (ji62)) 4) * 64)))) > 0)), (y155), (ji62), (by first | rfl | (simp; done) | (simp only [← hji62] <;> (first | rfl | simp)) | (simp [*]; done)), (by first | rfl | (simp; done) | (simp only [← hji62] <;> (first | rfl | simp)) | (simp [*]; done)), H', ⟨by have := HK1.out; have := HK2.out; omega⟩, ⟨by (with_reducible repeat (first | apply Kd.R_alloc | apply Kd.R_drewN | apply Kd.R_drew)); exact HO_0.out⟩, ⟨by (with_reducible repeat (first | apply Kd.R_alloc | apply Kd.R_drewN | apply Kd.R_drew)); exact HO_4.out⟩, ⟨by repeat (first | (with_reducible first | exact HB.out | apply below_alloc | apply pw_below_drewN | apply below_drew1) | exact HB.out)⟩⟩
                            · rw [if_neg c66] at H
                              exact absurd H (by simp)
                          · rw [if_neg c65] at H
                            exact absurd H (by simp)
                        · rw [if_neg c63] at H
                          exact absurd H (by simp)
                      · rw [if_neg c61] at H
                        have c61b0 : decide ((wrap64 (x5_2 + 1)) < (t128.length : Int)) = false := decide_eq_false c61
                        clear c61
                        obtain ⟨ji75, hji75⟩ : ∃ j_ : Int, (wrap64 (x5_2 - 16)) = j_ := ⟨_, rfl⟩
                        replace H : (if 0 ≤ (ji75) then (if (ji75) < (x4_2.length : Int) then ((some (x4_2.set ((ji75) : Int).toNat (wrap64 ((rd x4_2 (ji75)) + (wrap64 (5 * (wrap64 (Int.tdiv (rd t128 x5_2) 4)))))) : List Int)).bind fun y157 => (if x3_2 = true then (escutcheonref1_fold.l1 k2 t128 true y157 (wrap64 (x5_2 + 1))) else (escutcheonref1_fold.l1 k2 t128 (decide ((wrap64 (Int.tdiv (rd t128 x5_2) 4)) > 0)) y157 (wrap64 (x5_2 + 1))))) else (none)) else (none)) = some r := by first | (rw [hji75] at H; exact H) | (simp only [hji75] at H ⊢; exact H)
                        have hji75w : (IntKind.i64.wrap (x5_2 - 16)) = ji75 := (i64_w _).trans hji75
                        by_cases c76 : 0 ≤ (ji75)
                        · rw [if_pos c76] at H
                          have c76b0 : decide (0 ≤ (ji75)) = true := decide_eq_true c76
                          clear c76
                          by_cases c77 : (ji75) < (x4_2.length : Int)
                          · rw [if_pos c77] at H
                            have c77b0 : decide ((ji75) < (x4_2.length : Int)) = true := decide_eq_true c77
                            clear c77
                            obtain ⟨y157, hy157⟩ : ∃ y_ : List Int, y_ = (x4_2.set ((ji75) : Int).toNat (wrap64 ((rd x4_2 (ji75)) + (wrap64 (5 * (wrap64 (Int.tdiv (rd t128 x5_2) 4))))))) := ⟨_, rfl⟩
                            replace H : (if x3_2 = true then (escutcheonref1_fold.l1 k2 t128 true y157 (wrap64 (x5_2 + 1))) else (escutcheonref1_fold.l1 k2 t128 (decide ((wrap64 (Int.tdiv (rd t128 x5_2) 4)) > 0)) y157 (wrap64 (x5_2 + 1)))) = some r := by first | (rw [hy157]; with_reducible exact H) | (have H2_ := (Option.bind_some _ _).symm.trans H; rw [hy157]; with_reducible exact H2_) | (have H2_ := (Option.bind_some _ _).symm.trans H; with_reducible exact H2_) | with_reducible exact H | (rw [hy157]; exact H) | exact H
                            have Ny157 := Aside0.mk hy157
                            clear hy157
                            by_cases c79 : x3_2 = true
                            · subst c79
                              have H1 : (escutcheonref1_fold.l1 k2 t128 true y157 (wrap64 (x5_2 + 1))) = some r := by rw [if_pos rfl] at H; exact H
                              clear H
                              have H := H1
                              clear H1
                              have H' := Aside0.mk H
                              clear H
                              have p152 : 0 ≤ (x5_2 : Int) := of_decide_eq_true (by first | (with_reducible assumption) | assumption)
                              have q152 : x5_2 < (t128.length : Int) := of_decide_eq_true (by first | (with_reducible assumption) | assumption)
                              obtain ⟨ad152, e152, hx152_0⟩ := Kd.at_int (Kd.R_reads' HO_0.out).2.2 x5_2 p152 q152
                              cases e152
                              replace p152 := eq_true p152
                              replace q152 := eq_true q152
                              obtain ⟨Ao80, co80, eo80⟩ := Kd.R_slice HO_4.out
                              subst eo80
                              have p156 : 0 ≤ ((ji75) : Int) := of_decide_eq_true (by first | (with_reducible assumption) | assumption)
                              have q156 : (ji75) < (x4_2.length : Int) := of_decide_eq_true (by first | (with_reducible assumption) | assumption)
                              obtain ⟨ad156, e156, hx156_0⟩ := Kd.at_int (Kd.R_reads' HO_4.out).2.2 (ji75) p156 q156
                              cases e156
                              replace p156 := eq_true p156
                              replace q156 := eq_true q156
                              have p78 : 0 ≤ ((ji75) : Int) := of_decide_eq_true (by first | (with_reducible assumption) | assumption)
                              have q78 : ((ji75) : Int) < ((x4_2.length : Int) : Int) := of_decide_eq_true (by first | (with_reducible assumption) | assumption)
                              obtain ⟨go78, co78, eo78, gb78, gl78, cl78, HG78⟩ := Kd.R_form HO_4.out (by omega)
                              (first | cases eo78 | (injection eo78 with ea_ en_ ec_; (first | subst ea_ | (injection ea_ with ea_; subst ea_)); subst ec_; clear en_))
                              have GB78 := Aside0.mk gb78
                              have GG78 := Aside0.mk HG78
                              clear gb78 gl78 HG78
                              (first | simp only [add_plain] at hx156_0 | skip)
                              obtain ⟨hx78_0, hf78_0⟩ := Kd.R_celln 0 HO_4.out ((ji75) : Int) p78 q78
                              replace p78 := eq_true p78
                              replace q78 := eq_true q78
                              have HP81 := Kd.R_putg HO_4.out ((ji75) : Int) (wrap64 ((rd x4_2 (ji75)) + (wrap64 (5 * (wrap64 (Int.tdiv (rd t128 x5_2) 4))))))
                              go_wp2_with (first | ((with_reducible refine gate_store (t := 3) (p := 74) rfl ?_); refine store_event (t := 3) (p := 74) (v := ?vo_w82) (w1 := (wr.setCell ⟨go78, ((ji75) : Int).toNat, none⟩ (.int .i64 (wrap64 ((rd x4_2 (ji75)) + (wrap64 (5 * (wrap64 (Int.tdiv (rd t128 x5_2) 4))))))))) ?hg ?ho ?hn ?hr ?_; (case ho => rfl); (case hg => rfl); (case hn => rfl); (case hr => first | (go_simp; done) | (go_simp; rfl)); intro w82 hw; have hg : wr.grownBy w82 (some go78) := (by rw [hw]; exact HP81.2); have hp_ : Kd.R (Kd.int .i64) 3 w82 w.heap.size (fun k_ => (w.heap.size ≤ k_) ∧ some k_ ≠ (.slice (some ad152) t128.length co7 : Value).ownBlock) (.slice (some ⟨go78, 0, none⟩) x4_2.length co80) y157 := (by rw [hw, Ny157.out]; exact HP81.1); clear HP81; have n0_ := Aside0.mk (Kd.R_after (v := (.slice (some ⟨go78, 0, none⟩) x4_2.length co80)) (v1 := (.slice (some ⟨go78, 0, none⟩) x4_2.length co80)) (ok := (fun k_ => (w.heap.size ≤ k_))) (by (with_reducible repeat (first | apply Kd.R_alloc | apply Kd.R_drewN | apply Kd.R_drew)); exact HO_0.out) hg (.inl rfl)); have n1_ := Aside0.mk (hp_); have n2_ := Aside0.mk ((by rw [hw]; exact below_set (HB.out) GB78.out : Below w.heap.size w w82)); clear HO_0; clear HO_4; clear HB; have HO_0 := n0_; have HO_4 := n1_; have HB := n2_; clear n0_ n1_ n2_; clear hg hw hp_))
                              go_roundg k2
                              case measure => have := HK1.out; have := HK2.out; omega
                              case rel => exact ⟨(true), (y157), (wrap64 (x5_2 + 1)), (by first | rfl | (simp; done) | (simp [*]; done)), (by first | rfl | (simp; done) | (simp [*]; done)), H', ⟨by have := HK1.out; have := HK2.out; omega⟩, ⟨by (with_reducible repeat (first | apply Kd.R_alloc | apply Kd.R_drewN | apply Kd.R_drew)); exact HO_0.out⟩, ⟨by (with_reducible repeat (first | apply Kd.R_alloc | apply Kd.R_drewN | apply Kd.R_drew)); exact HO_4.out⟩, ⟨by repeat (first | (with_reducible first | exact HB.out | apply below_alloc | apply pw_below_drewN | apply below_drew1) | exact HB.out)⟩⟩
                            · replace c79 := Bool.eq_false_iff.mpr c79
                              subst c79
                              have H1 : (escutcheonref1_fold.l1 k2 t128 (decide ((wrap64 (Int.tdiv (rd t128 x5_2) 4)) > 0)) y157 (wrap64 (x5_2 + 1))) = some r := by rw [if_neg (show ¬ (false = true) by decide)] at H; exact H
                              clear H
                              have H := H1
                              clear H1
                              have H' := Aside0.mk H
                              clear H
                              have p152 : 0 ≤ (x5_2 : Int) := of_decide_eq_true (by first | (with_reducible assumption) | assumption)
                              have q152 : x5_2 < (t128.length : Int) := of_decide_eq_true (by first | (with_reducible assumption) | assumption)
                              obtain ⟨ad152, e152, hx152_0⟩ := Kd.at_int (Kd.R_reads' HO_0.out).2.2 x5_2 p152 q152
                              cases e152
                              replace p152 := eq_true p152
                              replace q152 := eq_true q152
                              obtain ⟨Ao83, co83, eo83⟩ := Kd.R_slice HO_4.out
                              subst eo83
                              have p156 : 0 ≤ ((ji75) : Int) := of_decide_eq_true (by first | (with_reducible assumption) | assumption)
                              have q156 : (ji75) < (x4_2.length : Int) := of_decide_eq_true (by first | (with_reducible assumption) | assumption)
                              obtain ⟨ad156, e156, hx156_0⟩ := Kd.at_int (Kd.R_reads' HO_4.out).2.2 (ji75) p156 q156
                              cases e156
                              replace p156 := eq_true p156
                              replace q156 := eq_true q156
                              have p78 : 0 ≤ ((ji75) : Int) := of_decide_eq_true (by first | (with_reducible assumption) | assumption)
                              have q78 : ((ji75) : Int) < ((x4_2.length : Int) : Int) := of_decide_eq_true (by first | (with_reducible assumption) | assumption)
                              obtain ⟨go78, co78, eo78, gb78, gl78, cl78, HG78⟩ := Kd.R_form HO_4.out (by omega)
                              (first | cases eo78 | (injection eo78 with ea_ en_ ec_; (first | subst ea_ | (injection ea_ with ea_; subst ea_)); subst ec_; clear en_))
                              have GB78 := Aside0.mk gb78
                              have GG78 := Aside0.mk HG78
                              clear gb78 gl78 HG78
                              (first | simp only [add_plain] at hx156_0 | skip)
                              obtain ⟨hx78_0, hf78_0⟩ := Kd.R_celln 0 HO_4.out ((ji75) : Int) p78 q78
                              replace p78 := eq_true p78
                              replace q78 := eq_true q78
                              have HP84 := Kd.R_putg HO_4.out ((ji75) : Int) (wrap64 ((rd x4_2 (ji75)) + (wrap64 (5 * (wrap64 (Int.tdiv (rd t128 x5_2) 4))))))
                              go_wp2_with (first | ((with_reducible refine gate_store (t := 3) (p := 74) rfl ?_); refine store_event (t := 3) (p := 74) (v := ?vo_w85) (w1 := (wr.setCell ⟨go78, ((ji75) : Int).toNat, none⟩ (.int .i64 (wrap64 ((rd x4_2 (ji75)) + (wrap64 (5 * (wrap64 (Int.tdiv (rd t128 x5_2) 4))))))))) ?hg ?ho ?hn ?hr ?_; (case ho => rfl); (case hg => rfl); (case hn => rfl); (case hr => first | (go_simp; done) | (go_simp; rfl)); intro w85 hw; have hg : wr.grownBy w85 (some go78) := (by rw [hw]; exact HP84.2); have hp_ : Kd.R (Kd.int .i64) 3 w85 w.heap.size (fun k_ => (w.heap.size ≤ k_) ∧ some k_ ≠ (.slice (some ad152) t128.length co7 : Value).ownBlock) (.slice (some ⟨go78, 0, none⟩) x4_2.length co83) y157 := (by rw [hw, Ny157.out]; exact HP84.1); clear HP84; have n0_ := Aside0.mk (Kd.R_after (v := (.slice (some ⟨go78, 0, none⟩) x4_2.length co83)) (v1 := (.slice (some ⟨go78, 0, none⟩) x4_2.length co83)) (ok := (fun k_ => (w.heap.size ≤ k_))) (by (with_reducible repeat (first | apply Kd.R_alloc | apply Kd.R_drewN | apply Kd.R_drew)); exact HO_0.out) hg (.inl rfl)); have n1_ := Aside0.mk (hp_); have n2_ := Aside0.mk ((by rw [hw]; exact below_set (HB.out) GB78.out : Below w.heap.size w w85)); clear HO_0; clear HO_4; clear HB; have HO_0 := n0_; have HO_4 := n1_; have HB := n2_; clear n0_ n1_ n2_; clear hg hw hp_))
                              go_roundg k2
                              case measure => have := HK1.out; have := HK2.out; omega
                              case rel => exact ⟨(decide ((wrap64 (Int.tdiv (rd t128 x5_2) 4)) > 0)), (y157), (wrap64 (x5_2 + 1)), (by first | rfl | (simp; done) | (simp [*]; done)), (by first | rfl | (simp; done) | (simp [*]; done)), H', ⟨by have := HK1.out; have := HK2.out; omega⟩, ⟨by (with_reducible repeat (first | apply Kd.R_alloc | apply Kd.R_drewN | apply Kd.R_drew)); exact HO_0.out⟩, ⟨by (with_reducible repeat (first | apply Kd.R_alloc | apply Kd.R_drewN | apply Kd.R_drew)); exact HO_4.out⟩, ⟨by repeat (first | (with_reducible first | exact HB.out | apply below_alloc | apply pw_below_drewN | apply below_drew1) | exact HB.out)⟩⟩
                          · rw [if_neg c77] at H
                            exact absurd H (by simp)
                        · rw [if_neg c76] at H
                          exact absurd H (by simp)
                    · rw [if_neg c60] at H
                      exact absurd H (by simp)
              · rw [if_neg c10] at H
                have c10b0 : decide (x5_2 < (t128.length : Int)) = false := decide_eq_false c10
                clear c10
                by_cases c86 : x3_2 = true
                · subst c86
                  have H1 : (escutcheonref1_fold.l0 k2 x4_2) = some r := by rw [if_pos rfl] at H; exact H
                  clear H
                  have H := H1
                  clear H1
                  have H' := Aside0.mk H
                  clear H
                  go_wp2
                  go_roundg k2
                  case measure => have := HK1.out; have := HK2.out; omega
                  case rel => exact ⟨(x4_2), H', ⟨by have := HK1.out; have := HK2.out; omega⟩, ⟨Kd.V_mono (Kd.R_V (by (with_reducible repeat (first | apply Kd.R_alloc | apply Kd.R_drewN | apply Kd.R_drew)); exact Kd.R_mono HO_4.out (fun _ hk => hk.1))) (fun k_ hk => by first | exact ⟨(.inr (hk.1)), hk.2⟩ | exact (.inr (hk)))⟩, ⟨by repeat (first | (with_reducible first | exact HB.out | apply below_alloc | apply pw_below_drewN | apply below_drew1) | exact HB.out)⟩⟩
                · replace c86 := Bool.eq_false_iff.mpr c86
                  subst c86
                  have H1 : ((escutcheonref1_carry.f k2 x4_2).bind fun t134 => (if 18 ≤ (t134.length : Int) then (some (t134.take (18 : Int).toNat)) else (none))) = some r := by rw [if_neg (show ¬ (false = true) by decide)] at H; exact H
                  clear H
                  have H := H1
                  clear H1
                  replace H := Option.bind_eq_some_iff.mp H
                  obtain ⟨t134, A870, H⟩ := H
                  replace H : (if 18 ≤ (t134.length : Int) then (some (t134.take (18 : Int).toNat)) else (none)) = some r := H
                  have A87 := Aside0.mk A870
                  clear A870
                  by_cases c88 : 18 ≤ (t134.length : Int)
                  · rw [if_pos c88] at H
                    have c88b0 := eq_true c88
                    have c88b1 : decide (18 ≤ (t134.length : Int)) = true := decide_eq_true c88
                    clear c88
                    obtain ⟨y137, hy137⟩ : ∃ y_ : List Int, y_ = (t134.take (18 : Int).toNat) := ⟨_, rfl⟩
                    replace H : (some y137) = some r := by first | (rw [hy137]; with_reducible exact H) | (have H2_ := (Option.bind_some _ _).symm.trans H; rw [hy137]; with_reducible exact H2_) | (have H2_ := (Option.bind_some _ _).symm.trans H; with_reducible exact H2_) | with_reducible exact H | (rw [hy137]; exact H) | exact H
                    have Ny137 := Aside0.mk hy137
                    clear hy137
                    obtain rfl := Option.some.inj H
                    obtain ⟨Ao89, co89, eo89⟩ := Kd.R_slice HO_4.out
                    subst eo89
                    go_wp2_with (first | ((with_reducible refine gate_callee (f := 25) rfl ?_); refine goesL_ (some 84) rfl rfl Try.func25 (by kernel_rfl) rfl #[.slice Ao89 x4_2.length co89] rfl (by (try simp only [List.map_toArray, List.map_cons, List.map_nil]); first | done | rfl | (simp only [List.length_drop, List.length_take]; rfl)) ?_; (with_reducible refine (escutcheonref1_carry.calls k2 _ _ x4_2 t134 _ ?side1 ?side2 A87.out).mono ?_); (case side1 => repeat (first | exact (Kd.R_reads' HO_4.out).2.2 | (with_reducible refine Kd.C_alloc ?_ _) | (with_reducible refine Kd.C_drewN ?_ _) | (with_reducible refine Kd.C_drew ?_))); (case side2 => exact (Kd.R_reads' HO_4.out).2.1); rintro e w90 ⟨v135, rfl, ho0, hb⟩; refine ⟨_, rfl, ?_⟩; have n0_ := Aside0.mk (Kd.R_elder' (by (with_reducible repeat (first | apply Kd.R_alloc | apply Kd.R_drewN | apply Kd.R_drew)); exact HO_0.out) (Kd.R_base ho0) hb); have n1_ := Aside0.mk (Kd.R_elder' (by (with_reducible repeat (first | apply Kd.R_alloc | apply Kd.R_drewN | apply Kd.R_drew)); exact HO_4.out) (Kd.R_base ho0) hb); have n2_ := Aside0.mk (Kd.R_lower (Kd.R_new' (Kd.R_new' (Kd.R_newM (M := fun k_ => (w.heap.size ≤ k_)) ho0 (below_size (by repeat (first | (with_reducible first | exact HB.out | apply below_alloc | apply pw_below_drewN | apply below_drew1) | exact HB.out))) (fun k_ h_ => h_)) (Kd.R_lt (by (with_reducible repeat (first | apply Kd.R_alloc | apply Kd.R_drewN | apply Kd.R_drew)); exact HO_0.out))) (Kd.R_lt (by (with_reducible repeat (first | apply Kd.R_alloc | apply Kd.R_drewN | apply Kd.R_drew)); exact HO_4.out))) (below_size (by repeat (first | (with_reducible first | exact HB.out | apply below_alloc | apply pw_below_drewN | apply below_drew1) | exact HB.out)))); have n3_ := Aside0.mk (below_step (by repeat (first | (with_reducible first | exact HB.out | apply below_alloc | apply pw_below_drewN | apply below_drew1) | exact HB.out)) hb); clear HO_0; clear HO_4; clear HB; have HO_0 := n0_; have HO_4 := n1_; have HO136 := n2_; have HB := n3_; clear n0_ n1_ n2_ n3_; (try clear hb); (try clear hb2); (try clear hk); (try clear hi); (try clear ho0); obtain ⟨Ao91, co91, eo91⟩ := Kd.R_slice HO136.out; subst eo91; have q92 : (18 : Int) ≤ ((t134.length : Int) : Int) := of_decide_eq_true (by first | (with_reducible assumption) | assumption); obtain ⟨i092, hi092, _, hsz92, _⟩ := info_parts info3; have hcut92 := cut_to (P := Try.prog) 46 3 .i64 Try.underlying46 hi092 Ao91 t134.length co91 18 (by omega) q92 (Kd.R_reads' HO136.out).2.1; have hr92 := Kd.R_take (m := (18 : Int).toNat) HO136.out (by omega); have hy92 : y137.length = (18 : Int).toNat := (by rw [Ny137.out, List.length_take]; omega); rw [← Ny137.out] at hr92; rw [← hy92] at hr92 hcut92; clear hy92 hi092 hsz92 HO136; have HO139 := Aside0.mk hr92; clear hr92; replace q92 := eq_true q92))
                    go_ret
                    exact ⟨_, by first | rfl | (simp [errW_none, errW_some] <;> rfl) | (simp [*, errW_none, errW_some] <;> rfl), by (with_reducible repeat (first | apply Kd.R_alloc | apply Kd.R_drewN | apply Kd.R_drew)); exact Kd.R_mono HO139.out (fun _ hk => hk.1.1.1), by repeat (first | (with_reducible first | exact HB.out | apply below_alloc | apply pw_below_drewN | apply below_drew1) | exact HB.out)⟩
                  · rw [if_neg c88] at H
                    exact absurd H (by simp)
        · rw [if_neg c4] at H
          exact absurd H (by simp)
      · rw [if_neg c3] at H
        exact absurd H (by simp)

end Go.Proofs.Ytagoibmemonkaaa.P
