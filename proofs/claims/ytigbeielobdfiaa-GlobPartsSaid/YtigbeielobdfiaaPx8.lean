-- Written by wip/inj.py (the kit's print, with contracts typed by hand beside it).
import Derived.Test.YtigbeielobdfiaaPx0
import Derived.Test.YtigbeielobdfiaaPx2
import Derived.Test.YtigbeielobdfiaaPx4
namespace Go.Proofs.Ytigbeielobdfiaa.P
open Go.RowKit Go.Proofs.YtigbeielobdfiaaW.PrintWords Go.Proofs.YtigbeielobdfiaaW.PrintLast Go.Proofs.YtigbeielobdfiaaW.PrintMore
attribute [local go_sem] max2_int min2_int max_two min_two max_three min_three max_four min_four   -- for this text's walks alone
set_option linter.unusedVariables false
set_option linter.unusedSimpArgs false

/-! ### escutcheonlaw17_GlobParts: function 5 -/
mutual
def escutcheonlaw17_GlobParts.j0 : Nat → ByteArray → ByteArray → ByteArray → ByteArray → Bool → Option (Bool)
  | 0, _, _, _, _, _ => none
  | k + 1, x0, x1, x2, x3, x28 => if x28 = true then ((escutcheonlaw17_alive.f k).bind fun t179 => (some t179)) else ((glob_Match.f k x0 x2).bind fun t180 => (if t180 = true then ((glob_Match.f k x1 x3).bind fun t181 => (escutcheonlaw17_GlobParts.j1 k x0 x1 x2 x3 (!t181))) else (escutcheonlaw17_GlobParts.j1 k x0 x1 x2 x3 true)))
def escutcheonlaw17_GlobParts.j1 : Nat → ByteArray → ByteArray → ByteArray → ByteArray → Bool → Option (Bool)
  | 0, _, _, _, _, _ => none
  | k + 1, x0, x1, x2, x3, x39 => if x39 = true then (some true) else (if x0.size + x1.size ≤ 9223372036854775807 then (if x2.size + x3.size ≤ 9223372036854775807 then ((glob_Match.f k (x0 ++ x1) (x2 ++ x3)).bind fun t182 => (if t182 = true then (if 1 + x1.size ≤ 9223372036854775807 then ((glob_Match.f k ((⟨#[42]⟩ : ByteArray) ++ x1) (x2 ++ x3)).bind fun t183 => (if t183 = true then (if x0.size + 1 ≤ 9223372036854775807 then ((glob_Match.f k (x0 ++ (⟨#[42]⟩ : ByteArray)) (x2 ++ x3)).bind fun t184 => (some t184)) else (none)) else (none))) else (none)) else (none))) else (none)) else (none))
end
def escutcheonlaw17_GlobParts.f (k : Nat) (a0 : ByteArray) (a1 : ByteArray) (a2 : ByteArray) (a3 : ByteArray) : Option (Bool) := if (wrap64 ((a0.size : Int) + (a1.size : Int))) > 38 then (escutcheonlaw17_GlobParts.j0 k a0 a1 a2 a3 true) else (if (a2.size : Int) > 100 then (escutcheonlaw17_GlobParts.j0 k a0 a1 a2 a3 true) else (if (a3.size : Int) > 100 then (escutcheonlaw17_GlobParts.j0 k a0 a1 a2 a3 true) else ((escutcheonlaw17_alive.f k).bind fun t178 => (escutcheonlaw17_GlobParts.j0 k a0 a1 a2 a3 (!t178)))))
theorem escutcheonlaw17_GlobParts.mono_l : ∀ k, (∀ y0 y1 y2 y3 y4, LeO (escutcheonlaw17_GlobParts.j0 k y0 y1 y2 y3 y4) (escutcheonlaw17_GlobParts.j0 (k + 1) y0 y1 y2 y3 y4)) ∧ (∀ y0 y1 y2 y3 y4, LeO (escutcheonlaw17_GlobParts.j1 k y0 y1 y2 y3 y4) (escutcheonlaw17_GlobParts.j1 (k + 1) y0 y1 y2 y3 y4))
  | 0 => ⟨fun _ _ _ _ _ r h => by simp [escutcheonlaw17_GlobParts.j0] at h, fun _ _ _ _ _ r h => by simp [escutcheonlaw17_GlobParts.j1] at h⟩
  | k + 1 => by
    obtain ⟨ih0, ih1⟩ := escutcheonlaw17_GlobParts.mono_l k
    refine ⟨?_, ?_⟩
    · intro y0 y1 y2 y3 y4
      unfold escutcheonlaw17_GlobParts.j0
      repeat' first
      | (with_reducible exact ih0 _ _ _ _ _)
      | (with_reducible exact ih1 _ _ _ _ _)
      | (with_reducible exact escutcheonlaw17_alive.mono _)
      | (with_reducible exact glob_Match.mono _ _ _)
      | (with_reducible exact LeO.refl _)
      | (with_reducible exact LeO.none _)
      | (with_reducible refine LeO.ite ?_ ?_)
      | (with_reducible refine LeO.bind ?_ (fun _ => ?_))
      | exact ih0 _ _ _ _ _
      | exact ih1 _ _ _ _ _
      | exact escutcheonlaw17_alive.mono _
      | exact glob_Match.mono _ _ _
      | exact LeO.none _
      | refine LeO.ite ?_ ?_
      | refine LeO.bind ?_ (fun _ => ?_)
    · intro y0 y1 y2 y3 y4
      unfold escutcheonlaw17_GlobParts.j1
      repeat' first
      | (with_reducible exact ih0 _ _ _ _ _)
      | (with_reducible exact ih1 _ _ _ _ _)
      | (with_reducible exact escutcheonlaw17_alive.mono _)
      | (with_reducible exact glob_Match.mono _ _ _)
      | (with_reducible exact LeO.refl _)
      | (with_reducible exact LeO.none _)
      | (with_reducible refine LeO.ite ?_ ?_)
      | (with_reducible refine LeO.bind ?_ (fun _ => ?_))
      | exact ih0 _ _ _ _ _
      | exact ih1 _ _ _ _ _
      | exact escutcheonlaw17_alive.mono _
      | exact glob_Match.mono _ _ _
      | exact LeO.none _
      | refine LeO.ite ?_ ?_
      | refine LeO.bind ?_ (fun _ => ?_)
theorem escutcheonlaw17_GlobParts.mono : ∀ a0 a1 a2 a3 k, LeO (escutcheonlaw17_GlobParts.f k a0 a1 a2 a3) (escutcheonlaw17_GlobParts.f (k + 1) a0 a1 a2 a3) := by
  intro a0 a1 a2 a3 k
  obtain ⟨ih0, ih1⟩ := escutcheonlaw17_GlobParts.mono_l k
  unfold escutcheonlaw17_GlobParts.f
  repeat' first
      | (with_reducible exact ih0 _ _ _ _ _)
      | (with_reducible exact ih1 _ _ _ _ _)
      | (with_reducible exact escutcheonlaw17_alive.mono _)
      | (with_reducible exact glob_Match.mono _ _ _)
      | (with_reducible exact LeO.refl _)
      | (with_reducible exact LeO.none _)
      | (with_reducible refine LeO.ite ?_ ?_)
      | (with_reducible refine LeO.bind ?_ (fun _ => ?_))
      | exact ih0 _ _ _ _ _
      | exact ih1 _ _ _ _ _
      | exact escutcheonlaw17_alive.mono _
      | exact glob_Match.mono _ _ _
      | exact LeO.none _
      | refine LeO.ite ?_ ?_
      | refine LeO.bind ?_ (fun _ => ?_)
set_option maxHeartbeats 8000000 in
set_option maxRecDepth 100000 in
theorem escutcheonlaw17_GlobParts.calls (k : Nat) (a0 : ByteArray) (a1 : ByteArray) (a2 : ByteArray) (a3 : ByteArray) (r : Bool) (w : World) (h : escutcheonlaw17_GlobParts.f k a0 a1 a2 a3 = some r) :
    Calls Try.prog 5 #[.string a0, .string a1, .string a2, .string a3] w fun e w' => e = .returned (.bool r) ∧ Below w.heap.size w w' := by
  have HB := Aside0.mk (Below.refl w.heap.size w)
  have H : (if (wrap64 ((a0.size : Int) + (a1.size : Int))) > 38 then (escutcheonlaw17_GlobParts.j0 k a0 a1 a2 a3 true) else (if (a2.size : Int) > 100 then (escutcheonlaw17_GlobParts.j0 k a0 a1 a2 a3 true) else (if (a3.size : Int) > 100 then (escutcheonlaw17_GlobParts.j0 k a0 a1 a2 a3 true) else ((escutcheonlaw17_alive.f k).bind fun t178 => (escutcheonlaw17_GlobParts.j0 k a0 a1 a2 a3 (!t178)))))) = some r := h
  clear h
  have HC5 := Aside0.mk H
  clear H
  go_enter Try.func5, Try.ntmps5
  go_upto_region 1 with (fail)
  go_cut [28] (fun v28 wc => ∃ (kq : Nat) (x28_4 : Bool), v28 = .bool x28_4 ∧ Aside0 (escutcheonlaw17_GlobParts.j0 kq a0 a1 a2 a3 x28_4 = some r) ∧ Aside0 (kq ≤ k) ∧ Aside0 (Below w.heap.size w wc))
  case first =>
    have H := HC5.out
    clear HC5
    by_cases c6 : (wrap64 ((a0.size : Int) + (a1.size : Int))) > 38
    · rw [if_pos c6] at H
      have c6b0 : decide (38 < (wrap64 ((a0.size : Int) + (a1.size : Int)))) = true := decide_eq_true c6
      clear c6
      (first | rw [c6b0] | (simp only [i64_w, i32_w]; rw [c6b0]) | skip)
      have H' := Aside0.mk H
      clear H
      go_wp2
      go_meet
      case rel => exact ⟨_, (true), (by first | rfl | (simp; done) | (simp [*]; done)), H', ⟨by first | omega | exact Nat.le_refl _⟩, ⟨by repeat (first | (with_reducible first | exact HB.out | apply below_alloc | apply pw_below_drewN | apply below_drew1) | exact HB.out)⟩⟩
    · rw [if_neg c6] at H
      have c6b0 : decide (38 < (wrap64 ((a0.size : Int) + (a1.size : Int)))) = false := decide_eq_false c6
      clear c6
      (first | rw [c6b0] | (simp only [i64_w, i32_w]; rw [c6b0]) | skip)
      by_cases c7 : (a2.size : Int) > 100
      · rw [if_pos c7] at H
        have c7b0 : decide (100 < (a2.size : Int)) = true := decide_eq_true c7
        have c7b1 : decide (100 < a2.size) = true := decide_eq_true (by omega)
        clear c7
        have H' := Aside0.mk H
        clear H
        go_wp2
        go_meet
        case rel => exact ⟨_, (true), (by first | rfl | (simp; done) | (simp [*]; done)), H', ⟨by first | omega | exact Nat.le_refl _⟩, ⟨by repeat (first | (with_reducible first | exact HB.out | apply below_alloc | apply pw_below_drewN | apply below_drew1) | exact HB.out)⟩⟩
      · rw [if_neg c7] at H
        have c7b0 : decide (100 < (a2.size : Int)) = false := decide_eq_false c7
        have c7b1 : decide (100 < a2.size) = false := decide_eq_false (by omega)
        clear c7
        by_cases c8 : (a3.size : Int) > 100
        · rw [if_pos c8] at H
          have c8b0 : decide (100 < (a3.size : Int)) = true := decide_eq_true c8
          have c8b1 : decide (100 < a3.size) = true := decide_eq_true (by omega)
          clear c8
          have H' := Aside0.mk H
          clear H
          go_wp2
          go_meet
          case rel => exact ⟨_, (true), (by first | rfl | (simp; done) | (simp [*]; done)), H', ⟨by first | omega | exact Nat.le_refl _⟩, ⟨by repeat (first | (with_reducible first | exact HB.out | apply below_alloc | apply pw_below_drewN | apply below_drew1) | exact HB.out)⟩⟩
        · rw [if_neg c8] at H
          have c8b0 : decide (100 < (a3.size : Int)) = false := decide_eq_false c8
          have c8b1 : decide (100 < a3.size) = false := decide_eq_false (by omega)
          clear c8
          replace H := Option.bind_eq_some_iff.mp H
          obtain ⟨t178, A90, H⟩ := H
          replace H : (escutcheonlaw17_GlobParts.j0 k a0 a1 a2 a3 (!t178)) = some r := H
          have A9 := Aside0.mk A90
          clear A90
          have H' := Aside0.mk H
          clear H
          go_wp2_with (first | (go_at_call 10; (with_reducible refine (escutcheonlaw17_alive.calls k  t178 _ A9.out).mono ?_); rintro e w10 ⟨rfl, hb⟩; have n0_ := Aside0.mk (below_step (by repeat (first | (with_reducible first | exact HB.out | apply below_alloc | apply pw_below_drewN | apply below_drew1) | exact HB.out)) hb); clear HB; have HB := n0_; clear n0_; (try clear hb); (try clear hb2); (try clear hk); (try clear hi)))
          go_meet
          case rel => exact ⟨_, (!t178), (by first | rfl | (simp; done) | (simp [*]; done)), H', ⟨by first | omega | exact Nat.le_refl _⟩, ⟨by repeat (first | (with_reducible first | exact HB.out | apply below_alloc | apply pw_below_drewN | apply below_drew1) | exact HB.out)⟩⟩
  case rest =>
    clear HC5
    try clear p2
    try clear c5
    try clear c6
    try clear c6b0
    try clear p6
    try clear c7
    try clear c7b0
    try clear c7b1
    try clear c8
    try clear c8b0
    try clear c8b1
    obtain ⟨kq, x28_4, rfl, HA, HJ4, HB⟩ := hcut
    cases kq with
    | zero => exact absurd HA.out (by simp [escutcheonlaw17_GlobParts.j0])
    | succ kj4 =>
      have H := HA.out
      clear HA
      simp only [escutcheonlaw17_GlobParts.j0] at H
      by_cases c11 : x28_4 = true
      · subst c11
        have H1 : ((escutcheonlaw17_alive.f kj4).bind fun t179 => (some t179)) = some r := by rw [if_pos rfl] at H; exact H
        clear H
        have H := H1
        clear H1
        replace H := Option.bind_eq_some_iff.mp H
        obtain ⟨t179, A120, H⟩ := H
        replace H : (some t179) = some r := H
        have A12 := Aside0.mk A120
        clear A120
        obtain rfl := Option.some.inj H
        go_wp2_with (first | ((with_reducible refine gate_callee (f := 10) rfl ?_); refine goesL_ (some 29) rfl rfl Try.func10 (by kernel_rfl) rfl #[] rfl (by (try simp only [List.map_toArray, List.map_cons, List.map_nil]); first | done | rfl | (simp only [List.length_drop, List.length_take]; rfl)) ?_; (with_reducible refine (escutcheonlaw17_alive.calls kj4  t179 _ A12.out).mono ?_); rintro e w13 ⟨rfl, hb⟩; refine ⟨_, rfl, ?_⟩; have n0_ := Aside0.mk (below_step (by repeat (first | (with_reducible first | exact HB.out | apply below_alloc | apply pw_below_drewN | apply below_drew1) | exact HB.out)) hb); clear HB; have HB := n0_; clear n0_; (try clear hb); (try clear hb2); (try clear hk); (try clear hi)))
        go_ret
        exact ⟨by first | rfl | (simp [errW_none, errW_some] <;> rfl) | (simp [*, errW_none, errW_some] <;> rfl), by repeat (first | (with_reducible first | exact HB.out | apply below_alloc | apply pw_below_drewN | apply below_drew1) | exact HB.out)⟩
      · replace c11 := Bool.eq_false_iff.mpr c11
        subst c11
        have H1 : ((glob_Match.f kj4 a0 a2).bind fun t180 => (if t180 = true then ((glob_Match.f kj4 a1 a3).bind fun t181 => (escutcheonlaw17_GlobParts.j1 kj4 a0 a1 a2 a3 (!t181))) else (escutcheonlaw17_GlobParts.j1 kj4 a0 a1 a2 a3 true))) = some r := by rw [if_neg (show ¬ (false = true) by decide)] at H; exact H
        clear H
        have H := H1
        clear H1
        have HC14 := Aside0.mk H
        clear H
        go_upto_region 3 with (fail)
        go_cut [39] (fun v39 wc => ∃ (kq : Nat) (x39_13 : Bool), v39 = .bool x39_13 ∧ Aside0 (escutcheonlaw17_GlobParts.j1 kq a0 a1 a2 a3 x39_13 = some r) ∧ Aside0 (kq ≤ kj4) ∧ Aside0 (Below w.heap.size w wc))
        case first =>
          have H := HC14.out
          clear HC14
          replace H := Option.bind_eq_some_iff.mp H
          obtain ⟨t180, A150, H⟩ := H
          replace H : (if t180 = true then ((glob_Match.f kj4 a1 a3).bind fun t181 => (escutcheonlaw17_GlobParts.j1 kj4 a0 a1 a2 a3 (!t181))) else (escutcheonlaw17_GlobParts.j1 kj4 a0 a1 a2 a3 true)) = some r := H
          have A15 := Aside0.mk A150
          clear A150
          by_cases c16 : t180 = true
          · subst c16
            have H1 : ((glob_Match.f kj4 a1 a3).bind fun t181 => (escutcheonlaw17_GlobParts.j1 kj4 a0 a1 a2 a3 (!t181))) = some r := by rw [if_pos rfl] at H; exact H
            clear H
            have H := H1
            clear H1
            replace H := Option.bind_eq_some_iff.mp H
            obtain ⟨t181, A170, H⟩ := H
            replace H : (escutcheonlaw17_GlobParts.j1 kj4 a0 a1 a2 a3 (!t181)) = some r := H
            have A17 := Aside0.mk A170
            clear A170
            have H' := Aside0.mk H
            clear H
            go_wp2_with (first | ((with_reducible refine gate_callee (f := 13) rfl ?_); refine goesL_ (some 32) rfl rfl Try.func13 (by kernel_rfl) rfl #[.string a0, .string a2] rfl (by (try simp only [List.map_toArray, List.map_cons, List.map_nil]); first | done | rfl | (simp only [List.length_drop, List.length_take]; rfl)) ?_; (with_reducible refine (glob_Match.calls kj4 a0 a2 true _ A15.out).mono ?_); rintro e w18 ⟨rfl, hb⟩; refine ⟨_, rfl, ?_⟩; have n0_ := Aside0.mk (below_step (by repeat (first | (with_reducible first | exact HB.out | apply below_alloc | apply pw_below_drewN | apply below_drew1) | exact HB.out)) hb); clear HB; have HB := n0_; clear n0_; (try clear hb); (try clear hb2); (try clear hk); (try clear hi)) | (go_at_call 13; (with_reducible refine (glob_Match.calls kj4 a1 a3 t181 _ A17.out).mono ?_); rintro e w19 ⟨rfl, hb⟩; have n0_ := Aside0.mk (below_step (by repeat (first | (with_reducible first | exact HB.out | apply below_alloc | apply pw_below_drewN | apply below_drew1) | exact HB.out)) hb); clear HB; have HB := n0_; clear n0_; (try clear hb); (try clear hb2); (try clear hk); (try clear hi)) | (go_at_call 13; (with_reducible refine (glob_Match.calls kj4 a0 a2 true _ A15.out).mono ?_); rintro e w18 ⟨rfl, hb⟩; have n0_ := Aside0.mk (below_step (by repeat (first | (with_reducible first | exact HB.out | apply below_alloc | apply pw_below_drewN | apply below_drew1) | exact HB.out)) hb); clear HB; have HB := n0_; clear n0_; (try clear hb); (try clear hb2); (try clear hk); (try clear hi)))
            go_meet
            case rel => exact ⟨_, (!t181), (by first | rfl | (simp; done) | (simp [*]; done)), H', ⟨by have := HJ4.out; first | omega | exact Nat.le_refl _⟩, ⟨by repeat (first | (with_reducible first | exact HB.out | apply below_alloc | apply pw_below_drewN | apply below_drew1) | exact HB.out)⟩⟩
          · replace c16 := Bool.eq_false_iff.mpr c16
            subst c16
            have H1 : (escutcheonlaw17_GlobParts.j1 kj4 a0 a1 a2 a3 true) = some r := by rw [if_neg (show ¬ (false = true) by decide)] at H; exact H
            clear H
            have H := H1
            clear H1
            have H' := Aside0.mk H
            clear H
            go_wp2_with (first | ((with_reducible refine gate_callee (f := 13) rfl ?_); refine goesL_ (some 32) rfl rfl Try.func13 (by kernel_rfl) rfl #[.string a0, .string a2] rfl (by (try simp only [List.map_toArray, List.map_cons, List.map_nil]); first | done | rfl | (simp only [List.length_drop, List.length_take]; rfl)) ?_; (with_reducible refine (glob_Match.calls kj4 a0 a2 false _ A15.out).mono ?_); rintro e w20 ⟨rfl, hb⟩; refine ⟨_, rfl, ?_⟩; have n0_ := Aside0.mk (below_step (by repeat (first | (with_reducible first | exact HB.out | apply below_alloc | apply pw_below_drewN | apply below_drew1) | exact HB.out)) hb); clear HB; have HB := n0_; clear n0_; (try clear hb); (try clear hb2); (try clear hk); (try clear hi)))
            go_meet
            case rel => exact ⟨_, (true), (by first | rfl | (simp; done) | (simp [*]; done)), H', ⟨by have := HJ4.out; first | omega | exact Nat.le_refl _⟩, ⟨by repeat (first | (with_reducible first | exact HB.out | apply below_alloc | apply pw_below_drewN | apply below_drew1) | exact HB.out)⟩⟩
        case rest =>
          clear HC14
          try clear c1
          try clear p2
          try clear c5
          try clear c6
          try clear c6b0
          try clear p6
          try clear c7
          try clear c7b0
          try clear c7b1
          try clear c8
          try clear c8b0
          try clear c8b1
          try clear c10
          try clear c11
          try clear c13
          try clear c16
          try clear p2
          try clear p6
          obtain ⟨kq, x39_13, rfl, HA, HJ13, HB⟩ := hcut
          cases kq with
          | zero => exact absurd HA.out (by simp [escutcheonlaw17_GlobParts.j1])
          | succ kj13 =>
            have H := HA.out
            clear HA
            simp only [escutcheonlaw17_GlobParts.j1] at H
            by_cases c21 : x39_13 = true
            · subst c21
              have H1 : (some true) = some r := by rw [if_pos rfl] at H; exact H
              clear H
              have H := H1
              clear H1
              obtain rfl := Option.some.inj H
              go_wp2
              go_ret
              exact ⟨by first | rfl | (simp [errW_none, errW_some] <;> rfl) | (simp [*, errW_none, errW_some] <;> rfl), by repeat (first | (with_reducible first | exact HB.out | apply below_alloc | apply pw_below_drewN | apply below_drew1) | exact HB.out)⟩
            · replace c21 := Bool.eq_false_iff.mpr c21
              subst c21
              have H1 : (if a0.size + a1.size ≤ 9223372036854775807 then (if a2.size + a3.size ≤ 9223372036854775807 then ((glob_Match.f kj13 (a0 ++ a1) (a2 ++ a3)).bind fun t182 => (if t182 = true then (if 1 + a1.size ≤ 9223372036854775807 then ((glob_Match.f kj13 ((⟨#[42]⟩ : ByteArray) ++ a1) (a2 ++ a3)).bind fun t183 => (if t183 = true then (if a0.size + 1 ≤ 9223372036854775807 then ((glob_Match.f kj13 (a0 ++ (⟨#[42]⟩ : ByteArray)) (a2 ++ a3)).bind fun t184 => (some t184)) else (none)) else (none))) else (none)) else (none))) else (none)) else (none)) = some r := by rw [if_neg (show ¬ (false = true) by decide)] at H; exact H
              clear H
              have H := H1
              clear H1
              by_cases c22 : a0.size + a1.size ≤ 9223372036854775807
              · rw [if_pos c22] at H
                have c22b0 := eq_true c22
                have c22b1 : decide (a0.size + a1.size ≤ 9223372036854775807) = true := decide_eq_true c22
                try have c22b2 : (9223372036854775807 < a0.size + a1.size) = False := eq_false (Nat.not_lt.2 c22)
                by_cases c23 : a2.size + a3.size ≤ 9223372036854775807
                · rw [if_pos c23] at H
                  have c23b0 := eq_true c23
                  have c23b1 : decide (a2.size + a3.size ≤ 9223372036854775807) = true := decide_eq_true c23
                  try have c23b2 : (9223372036854775807 < a2.size + a3.size) = False := eq_false (Nat.not_lt.2 c23)
                  replace H := Option.bind_eq_some_iff.mp H
                  obtain ⟨t182, A240, H⟩ := H
                  replace H : (if t182 = true then (if 1 + a1.size ≤ 9223372036854775807 then ((glob_Match.f kj13 ((⟨#[42]⟩ : ByteArray) ++ a1) (a2 ++ a3)).bind fun t183 => (if t183 = true then (if a0.size + 1 ≤ 9223372036854775807 then ((glob_Match.f kj13 (a0 ++ (⟨#[42]⟩ : ByteArray)) (a2 ++ a3)).bind fun t184 => (some t184)) else (none)) else (none))) else (none)) else (none)) = some r := H
                  have A24 := Aside0.mk A240
                  clear A240
                  by_cases c25 : t182 = true
                  · subst c25
                    have H1 : (if 1 + a1.size ≤ 9223372036854775807 then ((glob_Match.f kj13 ((⟨#[42]⟩ : ByteArray) ++ a1) (a2 ++ a3)).bind fun t183 => (if t183 = true then (if a0.size + 1 ≤ 9223372036854775807 then ((glob_Match.f kj13 (a0 ++ (⟨#[42]⟩ : ByteArray)) (a2 ++ a3)).bind fun t184 => (some t184)) else (none)) else (none))) else (none)) = some r := by rw [if_pos rfl] at H; exact H
                    clear H
                    have H := H1
                    clear H1
                    by_cases c26 : 1 + a1.size ≤ 9223372036854775807
                    · rw [if_pos c26] at H
                      have c26b0 := eq_true c26
                      have c26b1 : decide (1 + a1.size ≤ 9223372036854775807) = true := decide_eq_true c26
                      try have c26b2 : (9223372036854775807 < 1 + a1.size) = False := eq_false (Nat.not_lt.2 c26)
                      replace H := Option.bind_eq_some_iff.mp H
                      obtain ⟨t183, A270, H⟩ := H
                      replace H : (if t183 = true then (if a0.size + 1 ≤ 9223372036854775807 then ((glob_Match.f kj13 (a0 ++ (⟨#[42]⟩ : ByteArray)) (a2 ++ a3)).bind fun t184 => (some t184)) else (none)) else (none)) = some r := H
                      have A27 := Aside0.mk A270
                      clear A270
                      by_cases c28 : t183 = true
                      · subst c28
                        have H1 : (if a0.size + 1 ≤ 9223372036854775807 then ((glob_Match.f kj13 (a0 ++ (⟨#[42]⟩ : ByteArray)) (a2 ++ a3)).bind fun t184 => (some t184)) else (none)) = some r := by rw [if_pos rfl] at H; exact H
                        clear H
                        have H := H1
                        clear H1
                        by_cases c29 : a0.size + 1 ≤ 9223372036854775807
                        · rw [if_pos c29] at H
                          have c29b0 := eq_true c29
                          have c29b1 : decide (a0.size + 1 ≤ 9223372036854775807) = true := decide_eq_true c29
                          try have c29b2 : (9223372036854775807 < a0.size + 1) = False := eq_false (Nat.not_lt.2 c29)
                          replace H := Option.bind_eq_some_iff.mp H
                          obtain ⟨t184, A300, H⟩ := H
                          replace H : (some t184) = some r := H
                          have A30 := Aside0.mk A300
                          clear A300
                          obtain rfl := Option.some.inj H
                          go_wp2_with (first | ((with_reducible refine gate_callee (f := 13) rfl ?_); refine goesL_ (some 46) rfl rfl Try.func13 (by kernel_rfl) rfl #[.string (a0 ++ a1), .string (a2 ++ a3)] rfl (by (try simp only [List.map_toArray, List.map_cons, List.map_nil]); first | done | rfl | (simp only [List.length_drop, List.length_take]; rfl)) ?_; (with_reducible refine (glob_Match.calls kj13 (a0 ++ a1) (a2 ++ a3) true _ A24.out).mono ?_); rintro e w31 ⟨rfl, hb⟩; refine ⟨_, rfl, ?_⟩; have n0_ := Aside0.mk (below_step (by repeat (first | (with_reducible first | exact HB.out | apply below_alloc | apply pw_below_drewN | apply below_drew1) | exact HB.out)) hb); clear HB; have HB := n0_; clear n0_; (try clear hb); (try clear hb2); (try clear hk); (try clear hi)) | (go_at_call 13; (with_reducible refine (glob_Match.calls kj13 ((⟨#[42]⟩ : ByteArray) ++ a1) (a2 ++ a3) true _ A27.out).mono ?_); rintro e w32 ⟨rfl, hb⟩; have n0_ := Aside0.mk (below_step (by repeat (first | (with_reducible first | exact HB.out | apply below_alloc | apply pw_below_drewN | apply below_drew1) | exact HB.out)) hb); clear HB; have HB := n0_; clear n0_; (try clear hb); (try clear hb2); (try clear hk); (try clear hi)) | (go_at_call 13; (with_reducible refine (glob_Match.calls kj13 (a0 ++ (⟨#[42]⟩ : ByteArray)) (a2 ++ a3) t184 _ A30.out).mono ?_); rintro e w33 ⟨rfl, hb⟩; have n0_ := Aside0.mk (below_step (by repeat (first | (with_reducible first | exact HB.out | apply below_alloc | apply pw_below_drewN | apply below_drew1) | exact HB.out)) hb); clear HB; have HB := n0_; clear n0_; (try clear hb); (try clear hb2); (try clear hk); (try clear hi)) | (go_at_call 13; (with_reducible refine (glob_Match.calls kj13 (a0 ++ a1) (a2 ++ a3) true _ A24.out).mono ?_); rintro e w31 ⟨rfl, hb⟩; have n0_ := Aside0.mk (below_step (by repeat (first | (with_reducible first | exact HB.out | apply below_alloc | apply pw_below_drewN | apply below_drew1) | exact HB.out)) hb); clear HB; have HB := n0_; clear n0_; (try clear hb); (try clear hb2); (try clear hk); (try clear hi)))
                          go_ret
                          exact ⟨by first | rfl | (simp [errW_none, errW_some] <;> rfl) | (simp [*, errW_none, errW_some] <;> rfl), by repeat (first | (with_reducible first | exact HB.out | apply below_alloc | apply pw_below_drewN | apply below_drew1) | exact HB.out)⟩
                        · rw [if_neg c29] at H
                          exact absurd H (by simp)
                      · replace c28 := Bool.eq_false_iff.mpr c28
                        subst c28
                        have H1 : (none) = some r := by rw [if_neg (show ¬ (false = true) by decide)] at H; exact H
                        clear H
                        have H := H1
                        clear H1
                        exact absurd H (by simp)
                    · rw [if_neg c26] at H
                      exact absurd H (by simp)
                  · replace c25 := Bool.eq_false_iff.mpr c25
                    subst c25
                    have H1 : (none) = some r := by rw [if_neg (show ¬ (false = true) by decide)] at H; exact H
                    clear H
                    have H := H1
                    clear H1
                    exact absurd H (by simp)
                · rw [if_neg c23] at H
                  exact absurd H (by simp)
              · rw [if_neg c22] at H
                exact absurd H (by simp)

/-- THE ONE PURE STATEMENT of escutcheonlaw17_GlobParts: yours. -/
def escutcheonlaw17_GlobParts.Pure : Prop := ∀ (a0 : ByteArray) (a1 : ByteArray) (a2 : ByteArray) (a3 : ByteArray), a0.size ≤ 140737488351232 → a1.size ≤ 140737488351232 → a2.size ≤ 140737488351232 → a3.size ≤ 140737488351232 → ∃ k, escutcheonlaw17_GlobParts.f k a0 a1 a2 a3 = some true
theorem escutcheonlaw17_GlobParts.walk (P : escutcheonlaw17_GlobParts.Pure) (a0 : ByteArray) (a1 : ByteArray) (a2 : ByteArray) (a3 : ByteArray) (w : World) (w0 : a0.size ≤ 140737488351232) (w1 : a1.size ≤ 140737488351232) (w2 : a2.size ≤ 140737488351232) (w3 : a3.size ≤ 140737488351232) :
    Calls Try.prog 5 #[.string a0, .string a1, .string a2, .string a3] w fun e w' => e = .returned (.bool true) ∧ Below w.heap.size w w' := by
  obtain ⟨k, h⟩ := P a0 a1 a2 a3 w0 w1 w2 w3
  refine (escutcheonlaw17_GlobParts.calls k a0 a1 a2 a3 true w h).mono ?_
  rintro e w' ⟨rfl, hd⟩
  exact ⟨rfl, hd⟩

end Go.Proofs.Ytigbeielobdfiaa.P
