-- Written by wip/inj.py (the kit's print, with contracts typed by hand beside it).
import Derived.Test.YtoepiofmkjajaaaPx0
import Derived.Test.YtoepiofmkjajaaaPx5
import Derived.Test.YtoepiofmkjajaaaPx6
import Derived.Test.YtoepiofmkjajaaaPx8
import Derived.Test.YtoepiofmkjajaaaPx12
namespace Go.Proofs.Ytoepiofmkjajaaa.P
open Go.RowKit Go.Proofs.YtoepiofmkjajaaaW.PrintWords Go.Proofs.YtoepiofmkjajaaaW.PrintLast Go.Proofs.YtoepiofmkjajaaaW.PrintMore
attribute [local go_sem] max2_int min2_int max_two min_two max_three min_three max_four min_four   -- for this text's walks alone
set_option linter.unusedVariables false
set_option linter.unusedSimpArgs false

/-! ### escutcheonlaw9_FrameParts: function 5 -/
mutual
def escutcheonlaw9_FrameParts.j0 : Nat → List ByteArray → List Int → Bool → Option (Bool)
  | 0, _, _, _ => none
  | k + 1, x0, x1, x26 => if x26 = true then ((escutcheonlaw9_alive.f k).bind fun t173 => (some t173)) else (escutcheonlaw9_FrameParts.l0 k x0 x1 (⟨#[]⟩ : ByteArray) 0)
def escutcheonlaw9_FrameParts.l0 : Nat → List ByteArray → List Int → ByteArray → Int → Option (Bool)
  | 0, _, _, _, _ => none
  | k + 1, x0, x1, x5, x6 => if x6 < (x0.length : Int) then (if 0 ≤ x6 then (if ((rdOf ByteArray.empty x0 x6).size : Int) > 500 then (some true) else ((frame_Put.f k (rdOf ByteArray.empty x0 x6)).bind fun bt176 => (if (bt176.2 != (decide (((rdOf ByteArray.empty x0 x6).size : Int) > 0))) = true then (none) else (if bt176.2 = true then (if x5.size + bt176.1.size ≤ 9223372036854775807 then (escutcheonlaw9_FrameParts.l0 k x0 x1 (x5 ++ bt176.1) (wrap64 (x6 + 1))) else (none)) else (some true))))) else (none)) else (escutcheonlaw9_FrameParts.l1 k x0 x1 x5 ([] : List ByteArray) 0 (⟨#[]⟩ : ByteArray) false 0)
def escutcheonlaw9_FrameParts.l1 : Nat → List ByteArray → List Int → ByteArray → List ByteArray → Int → ByteArray → Bool → Int → Option (Bool)
  | 0, _, _, _, _, _, _, _, _ => none
  | k + 1, x0, x1, x5, x10, x11, x180000, x180001, x180002 => if x11 ≤ (x1.length : Int) then (if x11 < (x1.length : Int) then (if 0 ≤ x11 then (if (wrap64 ((x5.size : Int) + 1)) = 0 then (none) else (if 0 ≤ (Int.tmod (wrap64 ((wrap64 ((Int.tmod (rd x1 x11) (wrap64 ((x5.size : Int) + 1))) + (x5.size : Int))) + 1)) (wrap64 ((x5.size : Int) + 1))) then (if (Int.tmod (wrap64 ((wrap64 ((Int.tmod (rd x1 x11) (wrap64 ((x5.size : Int) + 1))) + (x5.size : Int))) + 1)) (wrap64 ((x5.size : Int) + 1))) ≤ (x5.size : Int) then ((frame_Reader_Feed.f k x180000 x180001 x180002 (x5.extract 0 ((Int.tmod (wrap64 ((wrap64 ((Int.tmod (rd x1 x11) (wrap64 ((x5.size : Int) + 1))) + (x5.size : Int))) + 1)) (wrap64 ((x5.size : Int) + 1))) : Int).toNat)).bind fun bt186 => (if bt186.2.1 = true then (if x10.length + bt186.1.length < 8796093022208 then (escutcheonlaw9_FrameParts.l1 k x0 x1 (x5.extract ((Int.tmod (wrap64 ((wrap64 ((Int.tmod (rd x1 x11) (wrap64 ((x5.size : Int) + 1))) + (x5.size : Int))) + 1)) (wrap64 ((x5.size : Int) + 1))) : Int).toNat x5.size) (x10 ++ bt186.1) (wrap64 (x11 + 1)) bt186.2.2.1 bt186.2.2.2.1 bt186.2.2.2.2) else (none)) else (none))) else (none)) else (none))) else (none)) else (if 0 ≤ (x5.size : Int) then (if (x5.size : Int) ≤ (x5.size : Int) then ((frame_Reader_Feed.f k x180000 x180001 x180002 (x5.extract 0 ((x5.size : Int) : Int).toNat)).bind fun bt196 => (if bt196.2.1 = true then (if x10.length + bt196.1.length < 8796093022208 then (escutcheonlaw9_FrameParts.l1 k x0 x1 (x5.extract ((x5.size : Int) : Int).toNat x5.size) (x10 ++ bt196.1) (wrap64 (x11 + 1)) bt196.2.2.1 bt196.2.2.2.1 bt196.2.2.2.2) else (none)) else (none))) else (none)) else (none))) else ((escutcheonbook_SameTexts.f k x10 x0).bind fun t180 => (if t180 = true then ((frame_Reader_Waits.f x180000 x180001 x180002).bind fun bt181 => (some (bt181.1 == 0))) else (none)))
end
def escutcheonlaw9_FrameParts.f (k : Nat) (l0 : List ByteArray) (l1 : List Int) : Option (Bool) := if (l0.length : Int) > 20 then (escutcheonlaw9_FrameParts.j0 k l0 l1 true) else (if (l1.length : Int) > 30 then (escutcheonlaw9_FrameParts.j0 k l0 l1 true) else ((escutcheonlaw9_alive.f k).bind fun t172 => (escutcheonlaw9_FrameParts.j0 k l0 l1 (!t172))))
theorem escutcheonlaw9_FrameParts.mono_l : ∀ k, (∀ y0 y1 y2, LeO (escutcheonlaw9_FrameParts.j0 k y0 y1 y2) (escutcheonlaw9_FrameParts.j0 (k + 1) y0 y1 y2)) ∧ (∀ y0 y1 y2 y3, LeO (escutcheonlaw9_FrameParts.l0 k y0 y1 y2 y3) (escutcheonlaw9_FrameParts.l0 (k + 1) y0 y1 y2 y3)) ∧ (∀ y0 y1 y2 y3 y4 y5 y6 y7, LeO (escutcheonlaw9_FrameParts.l1 k y0 y1 y2 y3 y4 y5 y6 y7) (escutcheonlaw9_FrameParts.l1 (k + 1) y0 y1 y2 y3 y4 y5 y6 y7))
  | 0 => ⟨fun _ _ _ r h => by simp [escutcheonlaw9_FrameParts.j0] at h, fun _ _ _ _ r h => by simp [escutcheonlaw9_FrameParts.l0] at h, fun _ _ _ _ _ _ _ _ r h => by simp [escutcheonlaw9_FrameParts.l1] at h⟩
  | k + 1 => by
    obtain ⟨ih0, ih1, ih2⟩ := escutcheonlaw9_FrameParts.mono_l k
    refine ⟨?_, ?_, ?_⟩
    · intro y0 y1 y2
      unfold escutcheonlaw9_FrameParts.j0
      repeat' first
      | (with_reducible exact ih0 _ _ _)
      | (with_reducible exact ih1 _ _ _ _)
      | (with_reducible exact ih2 _ _ _ _ _ _ _ _)
      | (with_reducible exact escutcheonbook_SameTexts.mono _ _ _)
      | (with_reducible exact escutcheonlaw9_alive.mono _)
      | (with_reducible exact frame_Put.mono _ _)
      | (with_reducible exact frame_Reader_Feed.mono _ _ _ _ _)
      | (with_reducible exact LeO.refl _)
      | (with_reducible exact LeO.none _)
      | (with_reducible refine LeO.ite ?_ ?_)
      | (with_reducible refine LeO.bind ?_ (fun _ => ?_))
      | exact ih0 _ _ _
      | exact ih1 _ _ _ _
      | exact ih2 _ _ _ _ _ _ _ _
      | exact escutcheonbook_SameTexts.mono _ _ _
      | exact escutcheonlaw9_alive.mono _
      | exact frame_Put.mono _ _
      | exact frame_Reader_Feed.mono _ _ _ _ _
      | exact LeO.none _
      | refine LeO.ite ?_ ?_
      | refine LeO.bind ?_ (fun _ => ?_)
    · intro y0 y1 y2 y3
      unfold escutcheonlaw9_FrameParts.l0
      repeat' first
      | (with_reducible exact ih0 _ _ _)
      | (with_reducible exact ih1 _ _ _ _)
      | (with_reducible exact ih2 _ _ _ _ _ _ _ _)
      | (with_reducible exact escutcheonbook_SameTexts.mono _ _ _)
      | (with_reducible exact escutcheonlaw9_alive.mono _)
      | (with_reducible exact frame_Put.mono _ _)
      | (with_reducible exact frame_Reader_Feed.mono _ _ _ _ _)
      | (with_reducible exact LeO.refl _)
      | (with_reducible exact LeO.none _)
      | (with_reducible refine LeO.ite ?_ ?_)
      | (with_reducible refine LeO.bind ?_ (fun _ => ?_))
      | exact ih0 _ _ _
      | exact ih1 _ _ _ _
      | exact ih2 _ _ _ _ _ _ _ _
      | exact escutcheonbook_SameTexts.mono _ _ _
      | exact escutcheonlaw9_alive.mono _
      | exact frame_Put.mono _ _
      | exact frame_Reader_Feed.mono _ _ _ _ _
      | exact LeO.none _
      | refine LeO.ite ?_ ?_
      | refine LeO.bind ?_ (fun _ => ?_)
    · intro y0 y1 y2 y3 y4 y5 y6 y7
      unfold escutcheonlaw9_FrameParts.l1
      repeat' first
      | (with_reducible exact ih0 _ _ _)
      | (with_reducible exact ih1 _ _ _ _)
      | (with_reducible exact ih2 _ _ _ _ _ _ _ _)
      | (with_reducible exact escutcheonbook_SameTexts.mono _ _ _)
      | (with_reducible exact escutcheonlaw9_alive.mono _)
      | (with_reducible exact frame_Put.mono _ _)
      | (with_reducible exact frame_Reader_Feed.mono _ _ _ _ _)
      | (with_reducible exact LeO.refl _)
      | (with_reducible exact LeO.none _)
      | (with_reducible refine LeO.ite ?_ ?_)
      | (with_reducible refine LeO.bind ?_ (fun _ => ?_))
      | exact ih0 _ _ _
      | exact ih1 _ _ _ _
      | exact ih2 _ _ _ _ _ _ _ _
      | exact escutcheonbook_SameTexts.mono _ _ _
      | exact escutcheonlaw9_alive.mono _
      | exact frame_Put.mono _ _
      | exact frame_Reader_Feed.mono _ _ _ _ _
      | exact LeO.none _
      | refine LeO.ite ?_ ?_
      | refine LeO.bind ?_ (fun _ => ?_)
theorem escutcheonlaw9_FrameParts.mono : ∀ a0 a1 k, LeO (escutcheonlaw9_FrameParts.f k a0 a1) (escutcheonlaw9_FrameParts.f (k + 1) a0 a1) := by
  intro a0 a1 k
  obtain ⟨ih0, ih1, ih2⟩ := escutcheonlaw9_FrameParts.mono_l k
  unfold escutcheonlaw9_FrameParts.f
  repeat' first
      | (with_reducible exact ih0 _ _ _)
      | (with_reducible exact ih1 _ _ _ _)
      | (with_reducible exact ih2 _ _ _ _ _ _ _ _)
      | (with_reducible exact escutcheonbook_SameTexts.mono _ _ _)
      | (with_reducible exact escutcheonlaw9_alive.mono _)
      | (with_reducible exact frame_Put.mono _ _)
      | (with_reducible exact frame_Reader_Feed.mono _ _ _ _ _)
      | (with_reducible exact LeO.refl _)
      | (with_reducible exact LeO.none _)
      | (with_reducible refine LeO.ite ?_ ?_)
      | (with_reducible refine LeO.bind ?_ (fun _ => ?_))
      | exact ih0 _ _ _
      | exact ih1 _ _ _ _
      | exact ih2 _ _ _ _ _ _ _ _
      | exact escutcheonbook_SameTexts.mono _ _ _
      | exact escutcheonlaw9_alive.mono _
      | exact frame_Put.mono _ _
      | exact frame_Reader_Feed.mono _ _ _ _ _
      | exact LeO.none _
      | refine LeO.ite ?_ ?_
      | refine LeO.bind ?_ (fun _ => ?_)
set_option maxHeartbeats 8000000 in
set_option maxRecDepth 100000 in
theorem escutcheonlaw9_FrameParts.calls (k : Nat) (A0 : Option Addr) (c0 : Nat) (l0 : List ByteArray) (A1 : Option Addr) (c1 : Nat) (l1 : List Int) (r : Bool) (w : World) (hr0 : Kd.C Kd.string w A0 l0.length l0) (hc0 : l0.length ≤ c0) (hr1 : Kd.C (Kd.int .i64) w A1 l1.length l1) (hc1 : l1.length ≤ c1) (h : escutcheonlaw9_FrameParts.f k l0 l1 = some r) :
    Calls Try.prog 5 #[.slice A0 l0.length c0, .slice A1 l1.length c1] w fun e w' => e = .returned (.bool r) ∧ Below w.heap.size w w' := by
  have hu34 := Try.underlying34
  have HR0 := Aside0.mk hr0
  have HC0 := Aside0.mk hc0
  clear hr0 hc0
  have HR1 := Aside0.mk hr1
  have HC1 := Aside0.mk hc1
  clear hr1 hc1
  have HB := Aside0.mk (Below.refl w.heap.size w)
  have H : (if (l0.length : Int) > 20 then (escutcheonlaw9_FrameParts.j0 k l0 l1 true) else (if (l1.length : Int) > 30 then (escutcheonlaw9_FrameParts.j0 k l0 l1 true) else ((escutcheonlaw9_alive.f k).bind fun t172 => (escutcheonlaw9_FrameParts.j0 k l0 l1 (!t172))))) = some r := h
  clear h
  have HC3 := Aside0.mk H
  clear H
  go_enter Try.func5, Try.ntmps5
  go_upto_region 1 with (fail)
  go_cut [26] (fun v26 wc => ∃ (kq : Nat) (x26_2 : Bool), v26 = .bool x26_2 ∧ Aside0 (escutcheonlaw9_FrameParts.j0 kq l0 l1 x26_2 = some r) ∧ Aside0 (kq ≤ k) ∧ Aside0 (Below w.heap.size w wc))
  case first =>
    have H := HC3.out
    clear HC3
    by_cases c4 : (l0.length : Int) > 20
    · rw [if_pos c4] at H
      have c4b0 : decide (20 < (l0.length : Int)) = true := decide_eq_true c4
      have c4b1 : decide (20 < l0.length) = true := decide_eq_true (by omega)
      clear c4
      (first | rw [c4b0] | (simp only [i64_w, i32_w]; rw [c4b0]) | skip)
      have H' := Aside0.mk H
      clear H
      go_wp2
      go_meet
      case rel => exact ⟨_, (true), (by first | rfl | (simp; done) | (simp [*]; done)), H', ⟨by first | omega | exact Nat.le_refl _⟩, ⟨by repeat (first | (with_reducible first | exact HB.out | apply below_alloc | apply pw_below_drewN | apply below_drew1) | exact HB.out)⟩⟩
    · rw [if_neg c4] at H
      have c4b0 : decide (20 < (l0.length : Int)) = false := decide_eq_false c4
      have c4b1 : decide (20 < l0.length) = false := decide_eq_false (by omega)
      clear c4
      (first | rw [c4b0] | (simp only [i64_w, i32_w]; rw [c4b0]) | skip)
      by_cases c5 : (l1.length : Int) > 30
      · rw [if_pos c5] at H
        have c5b0 : decide (30 < (l1.length : Int)) = true := decide_eq_true c5
        have c5b1 : decide (30 < l1.length) = true := decide_eq_true (by omega)
        clear c5
        have H' := Aside0.mk H
        clear H
        go_wp2
        go_meet
        case rel => exact ⟨_, (true), (by first | rfl | (simp; done) | (simp [*]; done)), H', ⟨by first | omega | exact Nat.le_refl _⟩, ⟨by repeat (first | (with_reducible first | exact HB.out | apply below_alloc | apply pw_below_drewN | apply below_drew1) | exact HB.out)⟩⟩
      · rw [if_neg c5] at H
        have c5b0 : decide (30 < (l1.length : Int)) = false := decide_eq_false c5
        have c5b1 : decide (30 < l1.length) = false := decide_eq_false (by omega)
        clear c5
        replace H := Option.bind_eq_some_iff.mp H
        obtain ⟨t172, A60, H⟩ := H
        replace H : (escutcheonlaw9_FrameParts.j0 k l0 l1 (!t172)) = some r := H
        have A6 := Aside0.mk A60
        clear A60
        have H' := Aside0.mk H
        clear H
        go_wp2_with (first | (go_at_call 9; (with_reducible refine (escutcheonlaw9_alive.calls k  t172 _ A6.out).mono ?_); rintro e w7 ⟨rfl, hb⟩; have n0_ := Aside0.mk (below_step (by repeat (first | (with_reducible first | exact HB.out | apply below_alloc | apply pw_below_drewN | apply below_drew1) | exact HB.out)) hb); clear HB; have HB := n0_; clear n0_; (try clear hb); (try clear hb2); (try clear hk); (try clear hi)))
        go_meet
        case rel => exact ⟨_, (!t172), (by first | rfl | (simp; done) | (simp [*]; done)), H', ⟨by first | omega | exact Nat.le_refl _⟩, ⟨by repeat (first | (with_reducible first | exact HB.out | apply below_alloc | apply pw_below_drewN | apply below_drew1) | exact HB.out)⟩⟩
  case rest =>
    clear HC3
    try clear c1
    try clear p2
    try clear c4
    try clear c4b0
    try clear c4b1
    try clear c5
    try clear c5b0
    try clear c5b1
    obtain ⟨kq, x26_2, rfl, HA, HJ2, HB⟩ := hcut
    cases kq with
    | zero => exact absurd HA.out (by simp [escutcheonlaw9_FrameParts.j0])
    | succ kj2 =>
      have H := HA.out
      clear HA
      simp only [escutcheonlaw9_FrameParts.j0] at H
      by_cases c8 : x26_2 = true
      · subst c8
        have H1 : ((escutcheonlaw9_alive.f kj2).bind fun t173 => (some t173)) = some r := by rw [if_pos rfl] at H; exact H
        clear H
        have H := H1
        clear H1
        replace H := Option.bind_eq_some_iff.mp H
        obtain ⟨t173, A90, H⟩ := H
        replace H : (some t173) = some r := H
        have A9 := Aside0.mk A90
        clear A90
        obtain rfl := Option.some.inj H
        go_wp2_with (first | ((with_reducible refine gate_callee (f := 9) rfl ?_); refine goesL_ (some 27) rfl rfl Try.func9 (by kernel_rfl) rfl #[] rfl (by (try simp only [List.map_toArray, List.map_cons, List.map_nil]); first | done | rfl | (simp only [List.length_drop, List.length_take]; rfl)) ?_; (with_reducible refine (escutcheonlaw9_alive.calls kj2  t173 _ A9.out).mono ?_); rintro e w10 ⟨rfl, hb⟩; refine ⟨_, rfl, ?_⟩; have n0_ := Aside0.mk (below_step (by repeat (first | (with_reducible first | exact HB.out | apply below_alloc | apply pw_below_drewN | apply below_drew1) | exact HB.out)) hb); clear HB; have HB := n0_; clear n0_; (try clear hb); (try clear hb2); (try clear hk); (try clear hi)))
        go_ret
        exact ⟨by first | rfl | (simp [errW_none, errW_some] <;> rfl) | (simp [*, errW_none, errW_some] <;> rfl), by repeat (first | (with_reducible first | exact HB.out | apply below_alloc | apply pw_below_drewN | apply below_drew1) | exact HB.out)⟩
      · replace c8 := Bool.eq_false_iff.mpr c8
        subst c8
        have H1 : (escutcheonlaw9_FrameParts.l0 kj2 l0 l1 (⟨#[]⟩ : ByteArray) 0) = some r := by rw [if_neg (show ¬ (false = true) by decide)] at H; exact H
        clear H
        have H := H1
        clear H1
        have H' := Aside0.mk H
        clear H
        go_wp2
        go_loopg [5, 6] kj2 (fun kq v5 v6 w' => ∃ (x5_2 : ByteArray) (x6_2 : Int), v5 = .string x5_2 ∧ v6 = .int .i64 x6_2 ∧ Aside0 (escutcheonlaw9_FrameParts.l0 kq l0 l1 x5_2 x6_2 = some r) ∧ Aside0 (kq ≤ kj2) ∧ Aside0 (Below w.heap.size w w'))
        case atStart => exact ⟨((⟨#[]⟩ : ByteArray)), (0), (by first | rfl | (simp; done) | (simp [*]; done)), (by first | rfl | (simp; done) | (simp [*]; done)), H', ⟨Nat.le_refl _⟩, ⟨by repeat (first | (with_reducible first | exact HB.out | apply below_alloc | apply pw_below_drewN | apply below_drew1) | exact HB.out)⟩⟩
        case round =>
          clear H'
          try clear c1
          try clear p2
          try clear c4
          try clear c4b0
          try clear c4b1
          try clear c5
          try clear c5b0
          try clear c5b1
          try clear c8
          try clear c9
          try clear p2
          obtain ⟨x5_2, x6_2, rfl, rfl, HA, HK2, HB⟩ := hrel
          cases gk with
          | zero => exact absurd HA.out (by simp [escutcheonlaw9_FrameParts.l0])
          | succ k2 =>
            have H := HA.out
            clear HA
            simp only [escutcheonlaw9_FrameParts.l0] at H
            by_cases c11 : x6_2 < (l0.length : Int)
            · rw [if_pos c11] at H
              have c11b0 : decide (x6_2 < (l0.length : Int)) = true := decide_eq_true c11
              clear c11
              by_cases c12 : 0 ≤ x6_2
              · rw [if_pos c12] at H
                have c12b0 : decide (0 ≤ x6_2) = true := decide_eq_true c12
                clear c12
                by_cases c13 : ((rdOf ByteArray.empty l0 x6_2).size : Int) > 500
                · rw [if_pos c13] at H
                  have c13b0 : decide (500 < ((rdOf ByteArray.empty l0 x6_2).size : Int)) = true := decide_eq_true c13
                  have c13b1 : decide (500 < (rdOf ByteArray.empty l0 x6_2).size) = true := decide_eq_true (by omega)
                  clear c13
                  obtain rfl := Option.some.inj H
                  have p174 : 0 ≤ (x6_2 : Int) := of_decide_eq_true (by first | (with_reducible assumption) | assumption)
                  have q174 : x6_2 < (l0.length : Int) := of_decide_eq_true (by first | (with_reducible assumption) | assumption)
                  obtain ⟨ad174, e174, hx174_0⟩ := Kd.at_string HR0.out x6_2 p174 q174
                  cases e174
                  replace hx174_0 := (HB.out.cell (World.block_lt_of_cell? w _ hx174_0)).trans hx174_0
                  replace p174 := eq_true p174
                  replace q174 := eq_true q174
                  go_wp2
                  go_ret
                  exact ⟨by first | rfl | (simp [errW_none, errW_some] <;> rfl) | (simp [*, errW_none, errW_some] <;> rfl), by repeat (first | (with_reducible first | exact HB.out | apply below_alloc | apply pw_below_drewN | apply below_drew1) | exact HB.out)⟩
                · rw [if_neg c13] at H
                  have c13b0 : decide (500 < ((rdOf ByteArray.empty l0 x6_2).size : Int)) = false := decide_eq_false c13
                  have c13b1 : decide (500 < (rdOf ByteArray.empty l0 x6_2).size) = false := decide_eq_false (by omega)
                  clear c13
                  replace H := Option.bind_eq_some_iff.mp H
                  obtain ⟨⟨t176, t177⟩, A140, H⟩ := H
                  replace H : (if (t177 != (decide (((rdOf ByteArray.empty l0 x6_2).size : Int) > 0))) = true then (none) else (if t177 = true then (if x5_2.size + t176.size ≤ 9223372036854775807 then (escutcheonlaw9_FrameParts.l0 k2 l0 l1 (x5_2 ++ t176) (wrap64 (x6_2 + 1))) else (none)) else (some true))) = some r := H
                  have A14 := Aside0.mk A140
                  clear A140
                  by_cases c15 : (t177 != (decide (((rdOf ByteArray.empty l0 x6_2).size : Int) > 0))) = true
                  · rw [if_pos c15] at H
                    exact absurd H (by simp)
                  · rw [if_neg c15] at H
                    have c15b0 : (t177 != (decide (((rdOf ByteArray.empty l0 x6_2).size : Int) > 0))) = false := by simpa using c15
                    (try (have c15b1 : decide (t177 = (decide (((rdOf ByteArray.empty l0 x6_2).size : Int) > 0))) = true := by simpa using c15))
                    (try (have c15b2 : (t177 == (decide (((rdOf ByteArray.empty l0 x6_2).size : Int) > 0))) = true := by simpa using c15))
                    clear c15
                    by_cases c16 : t177 = true
                    · subst c16
                      (try (have c15b0P : 0 < (rdOf ByteArray.empty l0 x6_2).size := (by simpa using c15b0); have c15b0Q := eq_true c15b0P; have c15b0R : decide (0 < (rdOf ByteArray.empty l0 x6_2).size) = true := decide_eq_true c15b0P))
                      (try (have c15b0P : ¬ 0 < (rdOf ByteArray.empty l0 x6_2).size := (by simpa using c15b0); have c15b0Q := eq_false c15b0P; have c15b0R : decide (0 < (rdOf ByteArray.empty l0 x6_2).size) = false := decide_eq_false c15b0P))
                      have H1 : (if x5_2.size + t176.size ≤ 9223372036854775807 then (escutcheonlaw9_FrameParts.l0 k2 l0 l1 (x5_2 ++ t176) (wrap64 (x6_2 + 1))) else (none)) = some r := by rw [if_pos rfl] at H; exact H
                      clear H
                      have H := H1
                      clear H1
                      by_cases c17 : x5_2.size + t176.size ≤ 9223372036854775807
                      · rw [if_pos c17] at H
                        have c17b0 := eq_true c17
                        have c17b1 : decide (x5_2.size + t176.size ≤ 9223372036854775807) = true := decide_eq_true c17
                        try have c17b2 : (9223372036854775807 < x5_2.size + t176.size) = False := eq_false (Nat.not_lt.2 c17)
                        have H' := Aside0.mk H
                        clear H
                        have p174 : 0 ≤ (x6_2 : Int) := of_decide_eq_true (by first | (with_reducible assumption) | assumption)
                        have q174 : x6_2 < (l0.length : Int) := of_decide_eq_true (by first | (with_reducible assumption) | assumption)
                        obtain ⟨ad174, e174, hx174_0⟩ := Kd.at_string HR0.out x6_2 p174 q174
                        cases e174
                        replace hx174_0 := (HB.out.cell (World.block_lt_of_cell? w _ hx174_0)).trans hx174_0
                        replace p174 := eq_true p174
                        replace q174 := eq_true q174
                        have p175 : 0 ≤ (x6_2 : Int) := of_decide_eq_true (by first | (with_reducible assumption) | assumption)
                        have q175 : x6_2 < (l0.length : Int) := of_decide_eq_true (by first | (with_reducible assumption) | assumption)
                        obtain ⟨ad175, e175, hx175_0⟩ := Kd.at_string HR0.out x6_2 p175 q175
                        obtain rfl : ad174 = ad175 := (by injection e175)
                        replace hx175_0 := (HB.out.cell (World.block_lt_of_cell? w _ hx175_0)).trans hx175_0
                        replace p175 := eq_true p175
                        replace q175 := eq_true q175
                        go_wp2_with (first | ((with_reducible refine gate_callee (f := 10) rfl ?_); refine goesL_ (some 45) rfl rfl Try.func10 (by kernel_rfl) rfl #[.string (rdOf ByteArray.empty l0 x6_2)] rfl (by (try simp only [List.map_toArray, List.map_cons, List.map_nil]); first | done | rfl | (simp only [List.length_drop, List.length_take]; rfl)) ?_; (with_reducible refine (frame_Put.calls k2 (rdOf ByteArray.empty l0 x6_2) t176 true _ A14.out).mono ?_); rintro e w18 ⟨rfl, hb⟩; refine ⟨_, rfl, ?_⟩; have n0_ := Aside0.mk (below_step (by repeat (first | (with_reducible first | exact HB.out | apply below_alloc | apply pw_below_drewN | apply below_drew1) | exact HB.out)) hb); clear HB; have HB := n0_; clear n0_; (try clear hb); (try clear hb2); (try clear hk); (try clear hi); have p178 : 0 ≤ (x6_2 : Int) := of_decide_eq_true (by first | (with_reducible assumption) | assumption); have q178 : x6_2 < (l0.length : Int) := of_decide_eq_true (by first | (with_reducible assumption) | assumption); obtain ⟨ad178, e178, hx178_0⟩ := Kd.at_string HR0.out x6_2 p178 q178; obtain rfl : ad174 = ad178 := (by injection e178); replace hx178_0 := (HB.out.cell (World.block_lt_of_cell? w _ hx178_0)).trans hx178_0; replace p178 := eq_true p178; replace q178 := eq_true q178))
                        go_roundg k2
                        case measure => have := HJ2.out; have := HK2.out; omega
                        case rel => exact ⟨(x5_2 ++ t176), (wrap64 (x6_2 + 1)), (by first | rfl | (simp; done) | (simp [*]; done)), (by first | rfl | (simp; done) | (simp [*]; done)), H', ⟨by have := HJ2.out; have := HK2.out; omega⟩, ⟨by repeat (first | (with_reducible first | exact HB.out | apply below_alloc | apply pw_below_drewN | apply below_drew1) | exact HB.out)⟩⟩
                      · rw [if_neg c17] at H
                        exact absurd H (by simp)
                    · replace c16 := Bool.eq_false_iff.mpr c16
                      subst c16
                      (try (have c15b0P : 0 < (rdOf ByteArray.empty l0 x6_2).size := (by simpa using c15b0); have c15b0Q := eq_true c15b0P; have c15b0R : decide (0 < (rdOf ByteArray.empty l0 x6_2).size) = true := decide_eq_true c15b0P))
                      (try (have c15b0P : ¬ 0 < (rdOf ByteArray.empty l0 x6_2).size := (by simpa using c15b0); have c15b0Q := eq_false c15b0P; have c15b0R : decide (0 < (rdOf ByteArray.empty l0 x6_2).size) = false := decide_eq_false c15b0P))
                      have H1 : (some true) = some r := by rw [if_neg (show ¬ (false = true) by decide)] at H; exact H
                      clear H
                      have H := H1
                      clear H1
                      obtain rfl := Option.some.inj H
                      have p174 : 0 ≤ (x6_2 : Int) := of_decide_eq_true (by first | (with_reducible assumption) | assumption)
                      have q174 : x6_2 < (l0.length : Int) := of_decide_eq_true (by first | (with_reducible assumption) | assumption)
                      obtain ⟨ad174, e174, hx174_0⟩ := Kd.at_string HR0.out x6_2 p174 q174
                      cases e174
                      replace hx174_0 := (HB.out.cell (World.block_lt_of_cell? w _ hx174_0)).trans hx174_0
                      replace p174 := eq_true p174
                      replace q174 := eq_true q174
                      have p175 : 0 ≤ (x6_2 : Int) := of_decide_eq_true (by first | (with_reducible assumption) | assumption)
                      have q175 : x6_2 < (l0.length : Int) := of_decide_eq_true (by first | (with_reducible assumption) | assumption)
                      obtain ⟨ad175, e175, hx175_0⟩ := Kd.at_string HR0.out x6_2 p175 q175
                      obtain rfl : ad174 = ad175 := (by injection e175)
                      replace hx175_0 := (HB.out.cell (World.block_lt_of_cell? w _ hx175_0)).trans hx175_0
                      replace p175 := eq_true p175
                      replace q175 := eq_true q175
                      go_wp2_with (first | ((with_reducible refine gate_callee (f := 10) rfl ?_); refine goesL_ (some 45) rfl rfl Try.func10 (by kernel_rfl) rfl #[.string (rdOf ByteArray.empty l0 x6_2)] rfl (by (try simp only [List.map_toArray, List.map_cons, List.map_nil]); first | done | rfl | (simp only [List.length_drop, List.length_take]; rfl)) ?_; (with_reducible refine (frame_Put.calls k2 (rdOf ByteArray.empty l0 x6_2) t176 false _ A14.out).mono ?_); rintro e w19 ⟨rfl, hb⟩; refine ⟨_, rfl, ?_⟩; have n0_ := Aside0.mk (below_step (by repeat (first | (with_reducible first | exact HB.out | apply below_alloc | apply pw_below_drewN | apply below_drew1) | exact HB.out)) hb); clear HB; have HB := n0_; clear n0_; (try clear hb); (try clear hb2); (try clear hk); (try clear hi); have p178 : 0 ≤ (x6_2 : Int) := of_decide_eq_true (by first | (with_reducible assumption) | assumption); have q178 : x6_2 < (l0.length : Int) := of_decide_eq_true (by first | (with_reducible assumption) | assumption); obtain ⟨ad178, e178, hx178_0⟩ := Kd.at_string HR0.out x6_2 p178 q178; obtain rfl : ad174 = ad178 := (by injection e178); replace hx178_0 := (HB.out.cell (World.block_lt_of_cell? w _ hx178_0)).trans hx178_0; replace p178 := eq_true p178; replace q178 := eq_true q178))
                      go_ret
                      exact ⟨by first | rfl | (simp [errW_none, errW_some] <;> rfl) | (simp [*, errW_none, errW_some] <;> rfl), by repeat (first | (with_reducible first | exact HB.out | apply below_alloc | apply pw_below_drewN | apply below_drew1) | exact HB.out)⟩
              · rw [if_neg c12] at H
                exact absurd H (by simp)
            · rw [if_neg c11] at H
              have c11b0 : decide (x6_2 < (l0.length : Int)) = false := decide_eq_false c11
              clear c11
              have H' := Aside0.mk H
              clear H
              go_wp2_with (first | ((with_reducible refine gate_dst (N := 62) rfl ?_); (try (refine gate_guard (by rfl) ?_; dsimp only)); refine box_event ?hg (N := 62) ?hd (cs := #[.string (⟨#[]⟩ : ByteArray), .bool false, .int .i64 0]) (t := 34) ?hr ?_; (case hd => rfl); (case hg => rfl); (case hr => first | (go_simp; done) | (go_simp; rfl)); intro gb179 hg w20 hbox hb; have n0_ := Aside0.mk (below_step (by repeat (first | (with_reducible first | exact HB.out | apply below_alloc | apply pw_below_drewN | apply below_drew1) | exact HB.out)) hb); have n1_ := Aside0.mk ((⟨hbox, by rw [hg]; exact (below_size (by repeat (first | (with_reducible first | exact HB.out | apply below_alloc | apply pw_below_drewN | apply below_drew1) | exact HB.out)))⟩ : IsS34 w _ gb179 (⟨#[]⟩ : ByteArray) false 0)); have n2_ := Aside0.mk ((by rw [hg]; exact (below_size (by repeat (first | (with_reducible first | exact HB.out | apply below_alloc | apply pw_below_drewN | apply below_drew1) | exact HB.out))) : w.heap.size ≤ gb179)); have n3_ := Aside0.mk ((by rw [hg]; exact (below_size (by repeat (first | (with_reducible first | exact HB.out | apply below_alloc | apply pw_below_drewN | apply below_drew1) | exact HB.out))) : w.heap.size ≤ gb179)); clear HB; have HB := n0_; have HI179 := n1_; have GW179 := n2_; have GE179 := n3_; clear n0_ n1_ n2_ n3_; clear hb hbox hg))
              go_loopg [5, 10, 11] k2 (fun kq v5 v10 v11 w' => ∃ (x5_3 : ByteArray) (x10_3 : List ByteArray) (x11_3 : Int) (x180000_3 : ByteArray) (x180001_3 : Bool) (x180002_3 : Int), v5 = .string x5_3 ∧ v11 = .int .i64 x11_3 ∧ Aside0 (escutcheonlaw9_FrameParts.l1 kq l0 l1 x5_3 x10_3 x11_3 x180000_3 x180001_3 x180002_3 = some r) ∧ Aside0 (kq ≤ k2) ∧ Aside0 (Kd.R Kd.string 9 w' w.heap.size (fun _ => True) v10 x10_3) ∧ Aside0 (IsS34 w w' gb179 x180000_3 x180001_3 x180002_3) ∧ Aside0 (Below w.heap.size w w'))
              case atStart => exact ⟨(x5_2), (([] : List ByteArray)), (0), ((⟨#[]⟩ : ByteArray)), (false), (0), (by first | rfl | (simp; done) | (simp [*]; done)), (by first | rfl | (simp; done) | (simp [*]; done)), H', ⟨Nat.le_refl _⟩, ⟨by first | exact Kd.R_nil _ _ _ _ _ | exact Kd.N_nil _ _ _ _ _ | exact Kd.V_nil _ _ _ _ _ | exact Kd.Q_nil _ _ _ _ _ | exact Kd.S_nil _ _ _ _ _⟩, ⟨by repeat (first | (with_reducible first | exact HI179.out | apply IsS34.alloc | apply IsS34.drewN | apply IsS34.drew | apply IsS34.set_0 | apply IsS34.set_1 | apply IsS34.set_2) | exact HI179.out)⟩, ⟨by repeat (first | (with_reducible first | exact HB.out | apply below_alloc | apply pw_below_drewN | apply below_drew1 | refine below_set ?_ (IsS34.ge HI179.out)) | exact HB.out)⟩⟩
              case round =>
                clear H'
                try clear c1
                try clear p1
                try clear q1
                try clear hx1
                try clear p2
                try clear c4
                try clear c4b0
                try clear c4b1
                try clear c5
                try clear c5b0
                try clear c5b1
                try clear p6
                try clear c8
                try clear c9
                try clear c10
                try clear c11
                try clear c11b0
                try clear c12
                try clear c12b0
                try clear c13
                try clear c13b0
                try clear c13b1
                try clear c15
                try clear c15b0
                try clear c15b1
                try clear c15b2
                try clear c16
                try clear c17
                try clear c17b0
                try clear c17b1
                try clear c17b2
                try clear p17
                try clear q17
                try clear hx17
                try clear hx174_0
                try clear hx175_0
                try clear hx178_0
                try clear p174
                try clear p175
                try clear p178
                try clear p2
                try clear q174
                try clear q175
                try clear q178
                obtain ⟨x5_3, x10_3, x11_3, x180000_3, x180001_3, x180002_3, rfl, rfl, HA, HK3, HO_10, HI179, HB⟩ := hrel
                cases gk with
                | zero => exact absurd HA.out (by simp [escutcheonlaw9_FrameParts.l1])
                | succ k3 =>
                  have H := HA.out
                  clear HA
                  simp only [escutcheonlaw9_FrameParts.l1] at H
                  by_cases c21 : x11_3 ≤ (l1.length : Int)
                  · rw [if_pos c21] at H
                    have c21b0 : decide (x11_3 ≤ (l1.length : Int)) = true := decide_eq_true c21
                    clear c21
                    by_cases c22 : x11_3 < (l1.length : Int)
                    · rw [if_pos c22] at H
                      have c22b0 : decide (x11_3 < (l1.length : Int)) = true := decide_eq_true c22
                      clear c22
                      by_cases c23 : 0 ≤ x11_3
                      · rw [if_pos c23] at H
                        have c23b0 : decide (0 ≤ x11_3) = true := decide_eq_true c23
                        clear c23
                        by_cases c24 : (wrap64 ((x5_3.size : Int) + 1)) = 0
                        · rw [if_pos c24] at H
                          exact absurd H (by simp)
                        · rw [if_neg c24] at H
                          have c24b0 : ((wrap64 ((x5_3.size : Int) + 1)) == 0) = false := beq_eq_false_iff_ne.mpr c24
                          have c24b1 : ((wrap64 ((x5_3.size : Int) + 1)) != 0) = true := bne_iff_ne.mpr c24
                          obtain ⟨ji25, hji25⟩ : ∃ j_ : Int, (Int.tmod (wrap64 ((wrap64 ((Int.tmod (rd l1 x11_3) (wrap64 ((x5_3.size : Int) + 1))) + (x5_3.size : Int))) + 1)) (wrap64 ((x5_3.size : Int) + 1))) = j_ := ⟨_, rfl⟩
                          (try (have hji25s := hji25; rw [show wrap64 ((x5_3.size : Int) + 1) = (x5_3.size : Int) + 1 by unfold wrap64; omega] at hji25s))
                          replace H : (if 0 ≤ (ji25) then (if (ji25) ≤ (x5_3.size : Int) then ((frame_Reader_Feed.f k3 x180000_3 x180001_3 x180002_3 (x5_3.extract 0 ((ji25) : Int).toNat)).bind fun bt186 => (if bt186.2.1 = true then (if x10_3.length + bt186.1.length < 8796093022208 then (escutcheonlaw9_FrameParts.l1 k3 l0 l1 (x5_3.extract ((ji25) : Int).toNat x5_3.size) (x10_3 ++ bt186.1) (wrap64 (x11_3 + 1)) bt186.2.2.1 bt186.2.2.2.1 bt186.2.2.2.2) else (none)) else (none))) else (none)) else (none)) = some r := by first | (rw [hji25] at H; exact H) | (simp only [hji25] at H ⊢; exact H)
                          by_cases c26 : 0 ≤ (ji25)
                          · rw [if_pos c26] at H
                            have c26b0 := eq_true c26
                            have c26b1 : decide (0 ≤ (ji25)) = true := decide_eq_true c26
                            clear c26
                            by_cases c27 : (ji25) ≤ (x5_3.size : Int)
                            · rw [if_pos c27] at H
                              have c27b0 := eq_true c27
                              have c27b1 : decide ((ji25) ≤ (x5_3.size : Int)) = true := decide_eq_true c27
                              clear c27
                              replace H := Option.bind_eq_some_iff.mp H
                              obtain ⟨⟨t186, t189, t190, t191, t192⟩, A280, H⟩ := H
                              replace H : (if t189 = true then (if x10_3.length + t186.length < 8796093022208 then (escutcheonlaw9_FrameParts.l1 k3 l0 l1 (x5_3.extract ((ji25) : Int).toNat x5_3.size) (x10_3 ++ t186) (wrap64 (x11_3 + 1)) t190 t191 t192) else (none)) else (none)) = some r := H
                              have A28 := Aside0.mk A280
                              clear A280
                              by_cases c29 : t189 = true
                              · subst c29
                                (try (have c15b0P : 0 < (rdOf ByteArray.empty l0 x6_2).size := (by simpa using c15b0); have c15b0Q := eq_true c15b0P; have c15b0R : decide (0 < (rdOf ByteArray.empty l0 x6_2).size) = true := decide_eq_true c15b0P))
                                (try (have c15b0P : ¬ 0 < (rdOf ByteArray.empty l0 x6_2).size := (by simpa using c15b0); have c15b0Q := eq_false c15b0P; have c15b0R : decide (0 < (rdOf ByteArray.empty l0 x6_2).size) = false := decide_eq_false c15b0P))
                                have H1 : (if x10_3.length + t186.length < 8796093022208 then (escutcheonlaw9_FrameParts.l1 k3 l0 l1 (x5_3.extract ((ji25) : Int).toNat x5_3.size) (x10_3 ++ t186) (wrap64 (x11_3 + 1)) t190 t191 t192) else (none)) = some r := by rw [if_pos rfl] at H; exact H
                                clear H
                                have H := H1
                                clear H1
                                by_cases c30 : x10_3.length + t186.length < 8796093022208
                                · rw [if_pos c30] at H
                                  have LMc30 := Aside0.mk c30
                                  clear c30
                                  obtain ⟨y193, hy193⟩ : ∃ y_ : List ByteArray, y_ = (x10_3 ++ t186) := ⟨_, rfl⟩
                                  replace H : (escutcheonlaw9_FrameParts.l1 k3 l0 l1 (x5_3.extract ((ji25) : Int).toNat x5_3.size) y193 (wrap64 (x11_3 + 1)) t190 t191 t192) = some r := by first | (rw [hy193]; with_reducible exact H) | (have H2_ := (Option.bind_some _ _).symm.trans H; rw [hy193]; with_reducible exact H2_) | (have H2_ := (Option.bind_some _ _).symm.trans H; with_reducible exact H2_) | with_reducible exact H | (rw [hy193]; exact H) | exact H
                                  have Ny193 := Aside0.mk hy193
                                  clear hy193
                                  have c31b0 := eq_true (of_decide_eq_true (by first | (with_reducible assumption) | assumption) : 0 ≤ (ji25))
                                  have c32b0 := eq_true (of_decide_eq_true (by first | (with_reducible assumption) | assumption) : (ji25) ≤ (x5_3.size : Int))
                                  have H' := Aside0.mk H
                                  clear H
                                  have p185 : 0 ≤ (x11_3 : Int) := of_decide_eq_true (by first | (with_reducible assumption) | assumption)
                                  have q185 : x11_3 < (l1.length : Int) := of_decide_eq_true (by first | (with_reducible assumption) | assumption)
                                  obtain ⟨ad185, e185, hx185_0⟩ := Kd.at_int HR1.out x11_3 p185 q185
                                  cases e185
                                  replace hx185_0 := (HB.out.cell (World.block_lt_of_cell? w _ hx185_0)).trans hx185_0
                                  replace p185 := eq_true p185
                                  replace q185 := eq_true q185
                                  go_wp2_with (first | ((with_reducible refine gate_callee (f := 12) rfl ?_); refine goesL_ (some 96) rfl rfl Try.func12 (by kernel_rfl) rfl #[.pointer (some ⟨gb179, 0, none⟩), .string (x5_3.extract 0 ((ji25) : Int).toNat)] rfl (by (try simp only [List.map_toArray, List.map_cons, List.map_nil]); first | done | (simp only [hji25]; rfl) | rfl | (simp only [List.length_drop, List.length_take]; rfl)) ?_; (with_reducible refine (frame_Reader_Feed.calls k3 gb179 x180000_3 x180001_3 x180002_3 (x5_3.extract 0 ((ji25) : Int).toNat) t186 true t190 t191 t192 w _ ?side1 ?side2 A28.out).mono ?_); (case side1 => repeat (first | (with_reducible first | exact HI179.out | apply IsS34.alloc | apply IsS34.drewN | apply IsS34.drew | apply IsS34.set_0 | apply IsS34.set_1 | apply IsS34.set_2) | exact HI179.out)); (case side2 => repeat (first | (with_reducible first | exact HB.out | apply below_alloc | apply pw_below_drewN | apply below_drew1 | refine below_set ?_ (IsS34.ge HI179.out)) | exact HB.out)); rintro e w33 ⟨v187, rfl, ho0, hi, hb, hk⟩; refine ⟨_, rfl, ?_⟩; have n0_ := Aside0.mk (Kd.R_mono (Kd.R_told (Kd.R_oldK (IsS34.apart (show IsS34 w _ gb179 x180000_3 x180001_3 x180002_3 from by repeat (first | (with_reducible first | exact HI179.out | apply IsS34.alloc | apply IsS34.drewN | apply IsS34.drew | apply IsS34.set_0 | apply IsS34.set_1 | apply IsS34.set_2) | exact HI179.out)) (by (with_reducible repeat (first | apply Kd.R_alloc | apply Kd.R_drewN | apply Kd.R_drew)); exact HO_10.out) (by decide)) hk) (Kd.R_base ho0)) (fun _ h_ => h_.1)); have n1_ := Aside0.mk (Kd.R_lower (Kd.R_new' ho0 (Kd.R_lt (by (with_reducible repeat (first | apply Kd.R_alloc | apply Kd.R_drewN | apply Kd.R_drew)); exact HO_10.out))) (below_size (by repeat (first | (with_reducible first | exact HB.out | apply below_alloc | apply pw_below_drewN | apply below_drew1 | refine below_set ?_ (IsS34.ge HI179.out)) | exact HB.out)))); have n2_ := Aside0.mk (hb); have n3_ := Aside0.mk (hi); clear HO_10; clear HB; clear HI179; have HO_10 := n0_; have HO188 := n1_; have HB := n2_; have HI179 := n3_; clear n0_ n1_ n2_ n3_; (try clear hb); (try clear hb2); (try clear hk); (try clear hi); (try clear ho0); obtain ⟨Ao35, co35, eo35⟩ := Kd.R_slice HO188.out; subst eo35) | ((with_reducible refine gate_builtin (b := .append) (xs := #[.tmp 101, .tmp 102]) rfl ?_); (try (refine gate_guard (by rfl) ?_; dsimp only)); at_builtin; refine Kd.R_append_rows Kd.string (w0 := w) w.heap.size rfl (.tmp 101) (.tmp 102) 35 9 (.string ⟨#[]⟩) 16 rfl Try.underlying35 info9 rfl (by decide) (by omega) u10 x10_3 t186 _ _ _ (fun k_ => some k_ ≠ (.slice Ao35 t186.length co35 : Value).ownBlock) (fun _ => False) rfl rfl ?aO ?aR (fun _ _ h => h) (fun _ h => h.elim) ?aF ?aB ?aS ?aL ?_; (case aR => repeat (first | exact (Kd.R_reads' HO188.out).2.2 | (with_reducible refine Kd.C_alloc ?_ _) | (with_reducible refine Kd.C_drewN ?_ _) | (with_reducible refine Kd.C_drew ?_))); (case aB => exact (by repeat (first | (with_reducible first | exact HB.out | apply below_alloc | apply pw_below_drewN | apply below_drew1 | refine below_set ?_ (IsS34.ge HI179.out)) | exact HB.out))); (case aF => exact (fun k_ hk => Kd.fresh' (Kd.R_lt (by (with_reducible repeat (first | apply Kd.R_alloc | apply Kd.R_drewN | apply Kd.R_drew)); exact HO188.out)) k_ hk)); (case aO => exact (by (with_reducible repeat (first | apply Kd.R_alloc | apply Kd.R_drewN | apply Kd.R_drew)); exact Kd.R_mono HO_10.out (fun _ hk => hk.2))); (case aS => exact (below_size (by repeat (first | (with_reducible first | exact HB.out | apply below_alloc | apply pw_below_drewN | apply below_drew1 | refine below_set ?_ (IsS34.ge HI179.out)) | exact HB.out)))); (case aL => have := LMc30.out; omega); intro v194 w34 ho hb hg hat; rw [← Ny193.out] at ho; have n0_ := Aside0.mk (IsS34.grown (by repeat (first | (with_reducible first | exact HI179.out | apply IsS34.alloc | apply IsS34.drewN | apply IsS34.drew | apply IsS34.set_0 | apply IsS34.set_1 | apply IsS34.set_2) | exact HI179.out)) hg (IsS34.own_ne HI179.out HO_10.out (by decide))); have n1_ := Aside0.mk (Kd.R_after (ok := (fun _ => True)) (by (with_reducible repeat (first | apply Kd.R_alloc | apply Kd.R_drewN | apply Kd.R_drew)); exact HO188.out) hg hat); have n2_ := Aside0.mk (hb); have n3_ := Aside0.mk (ho); clear HI179; clear HO188; clear HB; clear HO_10; have HI179 := n0_; have HO188 := n1_; have HB := n2_; have HO195 := n3_; clear n0_ n1_ n2_ n3_; clear ho hb hg hat))
                                  go_roundg k3
                                  case measure => have := HJ2.out; have := HK2.out; have := HK3.out; omega
                                  case rel => exact ⟨(x5_3.extract ((ji25) : Int).toNat x5_3.size), (y193), (wrap64 (x11_3 + 1)), (t190), (t191), (t192), (by first | rfl | (simp; done) | (simp only [← hji25] <;> (first | rfl | simp)) | (simp [*]; done)), (by first | rfl | (simp; done) | (simp [*]; done)), H', ⟨by have := HJ2.out; have := HK2.out; have := HK3.out; omega⟩, ⟨by (with_reducible repeat (first | apply Kd.R_alloc | apply Kd.R_drewN | apply Kd.R_drew)); exact Kd.R_mono HO195.out (fun _ hk => trivial)⟩, ⟨by repeat (first | (with_reducible first | exact HI179.out | apply IsS34.alloc | apply IsS34.drewN | apply IsS34.drew | apply IsS34.set_0 | apply IsS34.set_1 | apply IsS34.set_2) | exact HI179.out)⟩, ⟨by repeat (first | (with_reducible first | exact HB.out | apply below_alloc | apply pw_below_drewN | apply below_drew1 | refine below_set ?_ (IsS34.ge HI179.out)) | exact HB.out)⟩⟩
                                · rw [if_neg c30] at H
                                  exact absurd H (by simp)
                              · replace c29 := Bool.eq_false_iff.mpr c29
                                subst c29
                                (try (have c15b0P : 0 < (rdOf ByteArray.empty l0 x6_2).size := (by simpa using c15b0); have c15b0Q := eq_true c15b0P; have c15b0R : decide (0 < (rdOf ByteArray.empty l0 x6_2).size) = true := decide_eq_true c15b0P))
                                (try (have c15b0P : ¬ 0 < (rdOf ByteArray.empty l0 x6_2).size := (by simpa using c15b0); have c15b0Q := eq_false c15b0P; have c15b0R : decide (0 < (rdOf ByteArray.empty l0 x6_2).size) = false := decide_eq_false c15b0P))
                                have H1 : (none) = some r := by rw [if_neg (show ¬ (false = true) by decide)] at H; exact H
                                clear H
                                have H := H1
                                clear H1
                                exact absurd H (by simp)
                            · rw [if_neg c27] at H
                              exact absurd H (by simp)
                          · rw [if_neg c26] at H
                            exact absurd H (by simp)
                      · rw [if_neg c23] at H
                        exact absurd H (by simp)
                    · rw [if_neg c22] at H
                      have c22b0 : decide (x11_3 < (l1.length : Int)) = false := decide_eq_false c22
                      clear c22
                      by_cases c36 : 0 ≤ (x5_3.size : Int)
                      · rw [if_pos c36] at H
                        have c36b0 := eq_true c36
                        have c36b1 : decide (0 ≤ (x5_3.size : Int)) = true := decide_eq_true c36
                        clear c36
                        by_cases c37 : (x5_3.size : Int) ≤ (x5_3.size : Int)
                        · rw [if_pos c37] at H
                          have c37b0 := eq_true c37
                          have c37b1 : decide ((x5_3.size : Int) ≤ (x5_3.size : Int)) = true := decide_eq_true c37
                          clear c37
                          replace H := Option.bind_eq_some_iff.mp H
                          obtain ⟨⟨t196, t199, t200, t201, t202⟩, A380, H⟩ := H
                          replace H : (if t199 = true then (if x10_3.length + t196.length < 8796093022208 then (escutcheonlaw9_FrameParts.l1 k3 l0 l1 (x5_3.extract ((x5_3.size : Int) : Int).toNat x5_3.size) (x10_3 ++ t196) (wrap64 (x11_3 + 1)) t200 t201 t202) else (none)) else (none)) = some r := H
                          have A38 := Aside0.mk A380
                          clear A380
                          by_cases c39 : t199 = true
                          · subst c39
                            (try (have c15b0P : 0 < (rdOf ByteArray.empty l0 x6_2).size := (by simpa using c15b0); have c15b0Q := eq_true c15b0P; have c15b0R : decide (0 < (rdOf ByteArray.empty l0 x6_2).size) = true := decide_eq_true c15b0P))
                            (try (have c15b0P : ¬ 0 < (rdOf ByteArray.empty l0 x6_2).size := (by simpa using c15b0); have c15b0Q := eq_false c15b0P; have c15b0R : decide (0 < (rdOf ByteArray.empty l0 x6_2).size) = false := decide_eq_false c15b0P))
                            have H1 : (if x10_3.length + t196.length < 8796093022208 then (escutcheonlaw9_FrameParts.l1 k3 l0 l1 (x5_3.extract ((x5_3.size : Int) : Int).toNat x5_3.size) (x10_3 ++ t196) (wrap64 (x11_3 + 1)) t200 t201 t202) else (none)) = some r := by rw [if_pos rfl] at H; exact H
                            clear H
                            have H := H1
                            clear H1
                            by_cases c40 : x10_3.length + t196.length < 8796093022208
                            · rw [if_pos c40] at H
                              have LMc40 := Aside0.mk c40
                              clear c40
                              obtain ⟨y203, hy203⟩ : ∃ y_ : List ByteArray, y_ = (x10_3 ++ t196) := ⟨_, rfl⟩
                              replace H : (escutcheonlaw9_FrameParts.l1 k3 l0 l1 (x5_3.extract ((x5_3.size : Int) : Int).toNat x5_3.size) y203 (wrap64 (x11_3 + 1)) t200 t201 t202) = some r := by first | (rw [hy203]; with_reducible exact H) | (have H2_ := (Option.bind_some _ _).symm.trans H; rw [hy203]; with_reducible exact H2_) | (have H2_ := (Option.bind_some _ _).symm.trans H; with_reducible exact H2_) | with_reducible exact H | (rw [hy203]; exact H) | exact H
                              have Ny203 := Aside0.mk hy203
                              clear hy203
                              have c41b0 := eq_true (of_decide_eq_true (by first | (with_reducible assumption) | assumption) : 0 ≤ (x5_3.size : Int))
                              have c42b0 := eq_true (of_decide_eq_true (by first | (with_reducible assumption) | assumption) : (x5_3.size : Int) ≤ (x5_3.size : Int))
                              have H' := Aside0.mk H
                              clear H
                              go_wp2_with (first | ((with_reducible refine gate_callee (f := 12) rfl ?_); refine goesL_ (some 96) rfl rfl Try.func12 (by kernel_rfl) rfl #[.pointer (some ⟨gb179, 0, none⟩), .string (x5_3.extract 0 ((x5_3.size : Int) : Int).toNat)] rfl (by (try simp only [List.map_toArray, List.map_cons, List.map_nil]); first | done | rfl | (simp only [List.length_drop, List.length_take]; rfl)) ?_; (with_reducible refine (frame_Reader_Feed.calls k3 gb179 x180000_3 x180001_3 x180002_3 (x5_3.extract 0 ((x5_3.size : Int) : Int).toNat) t196 true t200 t201 t202 w _ ?side1 ?side2 A38.out).mono ?_); (case side1 => repeat (first | (with_reducible first | exact HI179.out | apply IsS34.alloc | apply IsS34.drewN | apply IsS34.drew | apply IsS34.set_0 | apply IsS34.set_1 | apply IsS34.set_2) | exact HI179.out)); (case side2 => repeat (first | (with_reducible first | exact HB.out | apply below_alloc | apply pw_below_drewN | apply below_drew1 | refine below_set ?_ (IsS34.ge HI179.out)) | exact HB.out)); rintro e w43 ⟨v197, rfl, ho0, hi, hb, hk⟩; refine ⟨_, rfl, ?_⟩; have n0_ := Aside0.mk (Kd.R_mono (Kd.R_told (Kd.R_oldK (IsS34.apart (show IsS34 w _ gb179 x180000_3 x180001_3 x180002_3 from by repeat (first | (with_reducible first | exact HI179.out | apply IsS34.alloc | apply IsS34.drewN | apply IsS34.drew | apply IsS34.set_0 | apply IsS34.set_1 | apply IsS34.set_2) | exact HI179.out)) (by (with_reducible repeat (first | apply Kd.R_alloc | apply Kd.R_drewN | apply Kd.R_drew)); exact HO_10.out) (by decide)) hk) (Kd.R_base ho0)) (fun _ h_ => h_.1)); have n1_ := Aside0.mk (Kd.R_lower (Kd.R_new' ho0 (Kd.R_lt (by (with_reducible repeat (first | apply Kd.R_alloc | apply Kd.R_drewN | apply Kd.R_drew)); exact HO_10.out))) (below_size (by repeat (first | (with_reducible first | exact HB.out | apply below_alloc | apply pw_below_drewN | apply below_drew1 | refine below_set ?_ (IsS34.ge HI179.out)) | exact HB.out)))); have n2_ := Aside0.mk (hb); have n3_ := Aside0.mk (hi); clear HO_10; clear HB; clear HI179; have HO_10 := n0_; have HO198 := n1_; have HB := n2_; have HI179 := n3_; clear n0_ n1_ n2_ n3_; (try clear hb); (try clear hb2); (try clear hk); (try clear hi); (try clear ho0); obtain ⟨Ao45, co45, eo45⟩ := Kd.R_slice HO198.out; subst eo45) | ((with_reducible refine gate_builtin (b := .append) (xs := #[.tmp 101, .tmp 102]) rfl ?_); (try (refine gate_guard (by rfl) ?_; dsimp only)); at_builtin; refine Kd.R_append_rows Kd.string (w0 := w) w.heap.size rfl (.tmp 101) (.tmp 102) 35 9 (.string ⟨#[]⟩) 16 rfl Try.underlying35 info9 rfl (by decide) (by omega) u10 x10_3 t196 _ _ _ (fun k_ => some k_ ≠ (.slice Ao45 t196.length co45 : Value).ownBlock) (fun _ => False) rfl rfl ?aO ?aR (fun _ _ h => h) (fun _ h => h.elim) ?aF ?aB ?aS ?aL ?_; (case aR => repeat (first | exact (Kd.R_reads' HO198.out).2.2 | (with_reducible refine Kd.C_alloc ?_ _) | (with_reducible refine Kd.C_drewN ?_ _) | (with_reducible refine Kd.C_drew ?_))); (case aB => exact (by repeat (first | (with_reducible first | exact HB.out | apply below_alloc | apply pw_below_drewN | apply below_drew1 | refine below_set ?_ (IsS34.ge HI179.out)) | exact HB.out))); (case aF => exact (fun k_ hk => Kd.fresh' (Kd.R_lt (by (with_reducible repeat (first | apply Kd.R_alloc | apply Kd.R_drewN | apply Kd.R_drew)); exact HO198.out)) k_ hk)); (case aO => exact (by (with_reducible repeat (first | apply Kd.R_alloc | apply Kd.R_drewN | apply Kd.R_drew)); exact Kd.R_mono HO_10.out (fun _ hk => hk.2))); (case aS => exact (below_size (by repeat (first | (with_reducible first | exact HB.out | apply below_alloc | apply pw_below_drewN | apply below_drew1 | refine below_set ?_ (IsS34.ge HI179.out)) | exact HB.out)))); (case aL => have := LMc40.out; omega); intro v204 w44 ho hb hg hat; rw [← Ny203.out] at ho; have n0_ := Aside0.mk (IsS34.grown (by repeat (first | (with_reducible first | exact HI179.out | apply IsS34.alloc | apply IsS34.drewN | apply IsS34.drew | apply IsS34.set_0 | apply IsS34.set_1 | apply IsS34.set_2) | exact HI179.out)) hg (IsS34.own_ne HI179.out HO_10.out (by decide))); have n1_ := Aside0.mk (Kd.R_after (ok := (fun _ => True)) (by (with_reducible repeat (first | apply Kd.R_alloc | apply Kd.R_drewN | apply Kd.R_drew)); exact HO198.out) hg hat); have n2_ := Aside0.mk (hb); have n3_ := Aside0.mk (ho); clear HI179; clear HO198; clear HB; clear HO_10; have HI179 := n0_; have HO198 := n1_; have HB := n2_; have HO205 := n3_; clear n0_ n1_ n2_ n3_; clear ho hb hg hat) | ((with_reducible refine gate_callee (f := 12) rfl ?_); refine goesL_ (some 96) rfl rfl Try.func12 (by kernel_rfl) rfl #[.pointer (some ⟨gb179, 0, none⟩), .string x5_3] rfl (by (try simp only [List.map_toArray, List.map_cons, List.map_nil]); first | done | rfl | (simp only [List.length_drop, List.length_take]; rfl)) ?_; (with_reducible refine (frame_Reader_Feed.calls k3 gb179 x180000_3 x180001_3 x180002_3 x5_3 t196 true t200 t201 t202 w _ ?side1 ?side2 (by have hz_ := A38.out; rw [show x5_3.extract 0 ((x5_3.size : Int) : Int).toNat = x5_3 by rw [Int.toNat_natCast]; exact ByteArray.extract_zero_size] at hz_; exact hz_)).mono ?_); (case side1 => repeat (first | (with_reducible first | exact HI179.out | apply IsS34.alloc | apply IsS34.drewN | apply IsS34.drew | apply IsS34.set_0 | apply IsS34.set_1 | apply IsS34.set_2) | exact HI179.out)); (case side2 => repeat (first | (with_reducible first | exact HB.out | apply below_alloc | apply pw_below_drewN | apply below_drew1 | refine below_set ?_ (IsS34.ge HI179.out)) | exact HB.out)); rintro e w43 ⟨v197, rfl, ho0, hi, hb, hk⟩; refine ⟨_, rfl, ?_⟩; have n0_ := Aside0.mk (Kd.R_mono (Kd.R_told (Kd.R_oldK (IsS34.apart (show IsS34 w _ gb179 x180000_3 x180001_3 x180002_3 from by repeat (first | (with_reducible first | exact HI179.out | apply IsS34.alloc | apply IsS34.drewN | apply IsS34.drew | apply IsS34.set_0 | apply IsS34.set_1 | apply IsS34.set_2) | exact HI179.out)) (by (with_reducible repeat (first | apply Kd.R_alloc | apply Kd.R_drewN | apply Kd.R_drew)); exact HO_10.out) (by decide)) hk) (Kd.R_base ho0)) (fun _ h_ => h_.1)); have n1_ := Aside0.mk (Kd.R_lower (Kd.R_new' ho0 (Kd.R_lt (by (with_reducible repeat (first | apply Kd.R_alloc | apply Kd.R_drewN | apply Kd.R_drew)); exact HO_10.out))) (below_size (by repeat (first | (with_reducible first | exact HB.out | apply below_alloc | apply pw_below_drewN | apply below_drew1 | refine below_set ?_ (IsS34.ge HI179.out)) | exact HB.out)))); have n2_ := Aside0.mk (hb); have n3_ := Aside0.mk (hi); clear HO_10; clear HB; clear HI179; have HO_10 := n0_; have HO198 := n1_; have HB := n2_; have HI179 := n3_; clear n0_ n1_ n2_ n3_; (try clear hb); (try clear hb2); (try clear hk); (try clear hi); (try clear ho0); obtain ⟨Ao45, co45, eo45⟩ := Kd.R_slice HO198.out; subst eo45))
                              go_roundg k3
                              case measure => have := HJ2.out; have := HK2.out; have := HK3.out; omega
                              case rel => exact ⟨(x5_3.extract ((x5_3.size : Int) : Int).toNat x5_3.size), (y203), (wrap64 (x11_3 + 1)), (t200), (t201), (t202), (by first | rfl | (simp; done) | (simp [*]; done)), (by first | rfl | (simp; done) | (simp [*]; done)), H', ⟨by have := HJ2.out; have := HK2.out; have := HK3.out; omega⟩, ⟨by (with_reducible repeat (first | apply Kd.R_alloc | apply Kd.R_drewN | apply Kd.R_drew)); exact Kd.R_mono HO205.out (fun _ hk => trivial)⟩, ⟨by repeat (first | (with_reducible first | exact HI179.out | apply IsS34.alloc | apply IsS34.drewN | apply IsS34.drew | apply IsS34.set_0 | apply IsS34.set_1 | apply IsS34.set_2) | exact HI179.out)⟩, ⟨by repeat (first | (with_reducible first | exact HB.out | apply below_alloc | apply pw_below_drewN | apply below_drew1 | refine below_set ?_ (IsS34.ge HI179.out)) | exact HB.out)⟩⟩
                            · rw [if_neg c40] at H
                              exact absurd H (by simp)
                          · replace c39 := Bool.eq_false_iff.mpr c39
                            subst c39
                            (try (have c15b0P : 0 < (rdOf ByteArray.empty l0 x6_2).size := (by simpa using c15b0); have c15b0Q := eq_true c15b0P; have c15b0R : decide (0 < (rdOf ByteArray.empty l0 x6_2).size) = true := decide_eq_true c15b0P))
                            (try (have c15b0P : ¬ 0 < (rdOf ByteArray.empty l0 x6_2).size := (by simpa using c15b0); have c15b0Q := eq_false c15b0P; have c15b0R : decide (0 < (rdOf ByteArray.empty l0 x6_2).size) = false := decide_eq_false c15b0P))
                            have H1 : (none) = some r := by rw [if_neg (show ¬ (false = true) by decide)] at H; exact H
                            clear H
                            have H := H1
                            clear H1
                            exact absurd H (by simp)
                        · rw [if_neg c37] at H
                          exact absurd H (by simp)
                      · rw [if_neg c36] at H
                        exact absurd H (by simp)
                  · rw [if_neg c21] at H
                    have c21b0 : decide (x11_3 ≤ (l1.length : Int)) = false := decide_eq_false c21
                    clear c21
                    replace H := Option.bind_eq_some_iff.mp H
                    obtain ⟨t180, A460, H⟩ := H
                    replace H : (if t180 = true then ((frame_Reader_Waits.f x180000_3 x180001_3 x180002_3).bind fun bt181 => (some (bt181.1 == 0))) else (none)) = some r := H
                    have A46 := Aside0.mk A460
                    clear A460
                    by_cases c47 : t180 = true
                    · subst c47
                      (try (have c15b0P : 0 < (rdOf ByteArray.empty l0 x6_2).size := (by simpa using c15b0); have c15b0Q := eq_true c15b0P; have c15b0R : decide (0 < (rdOf ByteArray.empty l0 x6_2).size) = true := decide_eq_true c15b0P))
                      (try (have c15b0P : ¬ 0 < (rdOf ByteArray.empty l0 x6_2).size := (by simpa using c15b0); have c15b0Q := eq_false c15b0P; have c15b0R : decide (0 < (rdOf ByteArray.empty l0 x6_2).size) = false := decide_eq_false c15b0P))
                      have H1 : ((frame_Reader_Waits.f x180000_3 x180001_3 x180002_3).bind fun bt181 => (some (bt181.1 == 0))) = some r := by rw [if_pos rfl] at H; exact H
                      clear H
                      have H := H1
                      clear H1
                      replace H := Option.bind_eq_some_iff.mp H
                      obtain ⟨⟨t181, t182, t183, t184⟩, A480, H⟩ := H
                      replace H : (some (t181 == 0)) = some r := H
                      have A48 := Aside0.mk A480
                      clear A480
                      obtain rfl := Option.some.inj H
                      obtain ⟨Ao49, co49, eo49⟩ := Kd.R_slice HO_10.out
                      subst eo49
                      go_wp2_with (first | ((with_reducible refine gate_callee (f := 13) rfl ?_); refine goesL_ (some 109) rfl rfl Try.func13 (by kernel_rfl) rfl #[.slice Ao49 x10_3.length co49, .slice A0 l0.length c0] rfl (by (try simp only [List.map_toArray, List.map_cons, List.map_nil]); first | done | rfl | (simp only [List.length_drop, List.length_take]; rfl)) ?_; (with_reducible refine (escutcheonbook_SameTexts.calls k3 _ _ x10_3 _ _ l0 true _ ?side1 ?side2 ?side3 ?side4 A46.out).mono ?_); (case side1 => repeat (first | exact (Kd.R_reads' HO_10.out).2.2 | (with_reducible refine Kd.C_alloc ?_ _) | (with_reducible refine Kd.C_drewN ?_ _) | (with_reducible refine Kd.C_drew ?_))); (case side2 => exact (Kd.R_reads' HO_10.out).2.1); (case side3 => repeat (first | exact (Kd.C_below HR0.out HB.out) | (with_reducible refine Kd.C_alloc ?_ _) | (with_reducible refine Kd.C_drewN ?_ _) | (with_reducible refine Kd.C_drew ?_))); (case side4 => exact HC0.out); rintro e w' ⟨rfl, ⟨nd, rfl⟩⟩; refine ⟨_, rfl, ?_⟩) | (go_at_call 14; (with_reducible refine (frame_Reader_Waits.calls gb179 x180000_3 x180001_3 x180002_3 t181 t182 t183 t184 w _ ?side1 ?side2 A48.out).mono ?_); (case side1 => repeat (first | (with_reducible first | exact HI179.out | apply IsS34.alloc | apply IsS34.drewN | apply IsS34.drew | apply IsS34.set_0 | apply IsS34.set_1 | apply IsS34.set_2) | exact HI179.out)); (case side2 => repeat (first | (with_reducible first | exact HB.out | apply below_alloc | apply pw_below_drewN | apply below_drew1 | refine below_set ?_ (IsS34.ge HI179.out)) | exact HB.out)); rintro e w50 ⟨rfl, hi, hb, hk⟩; have n0_ := Aside0.mk (Kd.R_mono (Kd.R_keep (IsS34.apart (show IsS34 w _ gb179 x180000_3 x180001_3 x180002_3 from by repeat (first | (with_reducible first | exact HI179.out | apply IsS34.alloc | apply IsS34.drewN | apply IsS34.drew | apply IsS34.set_0 | apply IsS34.set_1 | apply IsS34.set_2) | exact HI179.out)) (by (with_reducible repeat (first | apply Kd.R_alloc | apply Kd.R_drewN | apply Kd.R_drew)); exact HO_10.out) (by decide)) hk (fun _ h => h.2)) (fun _ h => h.1)); have n1_ := Aside0.mk (hb); have n2_ := Aside0.mk (hi); clear HO_10; clear HB; clear HI179; have HO_10 := n0_; have HB := n1_; have HI179 := n2_; clear n0_ n1_ n2_; (try clear hb); (try clear hb2); (try clear hk); (try clear hi)))
                      go_ret
                      exact ⟨by first | rfl | (simp [errW_none, errW_some] <;> rfl) | (simp [*, errW_none, errW_some] <;> rfl), by repeat (first | (with_reducible first | exact HB.out | apply below_alloc | apply pw_below_drewN | apply below_drew1 | refine below_set ?_ (IsS34.ge HI179.out)) | exact HB.out)⟩
                    · replace c47 := Bool.eq_false_iff.mpr c47
                      subst c47
                      (try (have c15b0P : 0 < (rdOf ByteArray.empty l0 x6_2).size := (by simpa using c15b0); have c15b0Q := eq_true c15b0P; have c15b0R : decide (0 < (rdOf ByteArray.empty l0 x6_2).size) = true := decide_eq_true c15b0P))
                      (try (have c15b0P : ¬ 0 < (rdOf ByteArray.empty l0 x6_2).size := (by simpa using c15b0); have c15b0Q := eq_false c15b0P; have c15b0R : decide (0 < (rdOf ByteArray.empty l0 x6_2).size) = false := decide_eq_false c15b0P))
                      have H1 : (none) = some r := by rw [if_neg (show ¬ (false = true) by decide)] at H; exact H
                      clear H
                      have H := H1
                      clear H1
                      exact absurd H (by simp)

/-- THE ONE PURE STATEMENT of escutcheonlaw9_FrameParts: yours. -/
def escutcheonlaw9_FrameParts.Pure : Prop := ∀ (l0 : List ByteArray) (l1 : List Int), l0.length ≤ maxLen → l0.length * 16 ≤ 140737488351232 → (∀ x ∈ l0, x.size ≤ maxLen) → l1.length ≤ maxLen → l1.length * 8 ≤ 140737488351232 → (∀ x ∈ l1, (Lit.int .i64 x).wf = true) → ∃ k, escutcheonlaw9_FrameParts.f k l0 l1 = some true
theorem escutcheonlaw9_FrameParts.walk (P : escutcheonlaw9_FrameParts.Pure) (a0 : Option Addr) (len0 cap0 : Nat) (z0 : List ByteArray) (a1 : Option Addr) (len1 cap1 : Nat) (z1 : List Int) (w : World) (w0 : StrRow.RowS w a0 len0 cap0 z0) (y0 : len0 * 16 ≤ 140737488351232) (w1 : (a1 = none ∧ len1 = 0 ∧ cap1 = 0 ∧ z1 = []) ∨ ∃ x, a1 = some x ∧ len1 ≤ cap1 ∧ cap1 ≤ maxLen ∧ z1.length = cap1 ∧ (∀ i, i < z1.length → w.cell? (x.add i) = some (.int .i64 (z1.getD i 0))) ∧ ∀ n ∈ z1, (Lit.int .i64 n).wf = true) (y1 : len1 * 8 ≤ 140737488351232) :
    Calls Try.prog 5 #[.slice a0 len0 cap0, .slice a1 len1 cap1] w fun e w' => e = .returned (.bool true) ∧ Below w.heap.size w w' := by
  obtain ⟨l0, rfl, hr0, hm0, hw0, hc0⟩ := StrRow.ofRowS w0
  obtain ⟨l1, rfl, hr1, hm1, hw1, hc1⟩ := ReadsInt.ofRowC w1
  obtain ⟨k, h⟩ := P l0 l1 hm0 y0 hw0 hm1 y1 hw1
  refine (escutcheonlaw9_FrameParts.calls k _ _ l0 _ _ l1 true w hr0 hc0 (Kd.C_of_reads (d := (0 : Int)) (h1 := fun _ => rfl) hr1) hc1 h).mono ?_
  rintro e w' ⟨rfl, hd⟩
  exact ⟨rfl, hd⟩

end Go.Proofs.Ytoepiofmkjajaaa.P
