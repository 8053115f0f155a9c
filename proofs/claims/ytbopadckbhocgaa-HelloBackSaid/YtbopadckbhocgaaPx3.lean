-- Written by wip/inj.py (the kit's print, with contracts typed by hand beside it).
import Derived.Test.YtbopadckbhocgaaPx0
import Derived.Test.YtbopadckbhocgaaPx1
import Derived.Test.YtbopadckbhocgaaPx2
namespace Go.Proofs.Ytbopadckbhocgaa.P
open Go.RowKit Go.Proofs.YtbopadckbhocgaaW.PrintWords Go.Proofs.YtbopadckbhocgaaW.PrintLast Go.Proofs.YtbopadckbhocgaaW.PrintMore
attribute [local go_sem] max2_int min2_int max_two min_two max_three min_three max_four min_four   -- for this text's walks alone
set_option linter.unusedVariables false
set_option linter.unusedSimpArgs false

/-! ### escutcheonlaw15_alive: function 9 -/
def escutcheonlaw15_alive.f (k : Nat)  : Option (Bool) := (hello_PutHello.f (⟨#[97, 110, 110]⟩ : ByteArray) (⟨#[48, 49, 50, 51, 52, 53, 54, 55, 56, 57, 97, 98, 99, 100, 101, 102]⟩ : ByteArray)).bind fun bt113 => ((hello_GetHello.f k bt113.1).bind fun bt115 => (if bt113.2 = true then (if (bt113.1.size : Int) = 21 then ((hello_Kind.f bt113.1).bind fun t119 => (if t119 = 1 then (if bt115.2.2 = true then (if bt115.1.toList = ([97, 110, 110] : List UInt8) then ((hello_Kind.f (⟨#[9]⟩ : ByteArray)).bind fun t120 => (some (t120 == 0))) else (none)) else (none)) else (none))) else (none)) else (none)))
theorem escutcheonlaw15_alive.mono : ∀ k, LeO (escutcheonlaw15_alive.f k ) (escutcheonlaw15_alive.f (k + 1) ) := by
  intro  k
  unfold escutcheonlaw15_alive.f
  repeat' first
      | (with_reducible exact hello_GetHello.mono _ _)
      | (with_reducible exact LeO.refl _)
      | (with_reducible exact LeO.none _)
      | (with_reducible refine LeO.ite ?_ ?_)
      | (with_reducible refine LeO.bind ?_ (fun _ => ?_))
      | exact hello_GetHello.mono _ _
      | exact LeO.none _
      | refine LeO.ite ?_ ?_
      | refine LeO.bind ?_ (fun _ => ?_)
set_option maxHeartbeats 8000000 in
set_option maxRecDepth 100000 in
theorem escutcheonlaw15_alive.calls (k : Nat)  (r : Bool) (w : World) (h : escutcheonlaw15_alive.f k  = some r) :
    Calls Try.prog 9 #[] w fun e w' => e = .returned (.bool r) ∧ Below w.heap.size w w' := by
  have hu25 := Try.underlying25
  have HB := Aside0.mk (Below.refl w.heap.size w)
  have H : ((hello_PutHello.f (⟨#[97, 110, 110]⟩ : ByteArray) (⟨#[48, 49, 50, 51, 52, 53, 54, 55, 56, 57, 97, 98, 99, 100, 101, 102]⟩ : ByteArray)).bind fun bt113 => ((hello_GetHello.f k bt113.1).bind fun bt115 => (if bt113.2 = true then (if (bt113.1.size : Int) = 21 then ((hello_Kind.f bt113.1).bind fun t119 => (if t119 = 1 then (if bt115.2.2 = true then (if bt115.1.toList = ([97, 110, 110] : List UInt8) then ((hello_Kind.f (⟨#[9]⟩ : ByteArray)).bind fun t120 => (some (t120 == 0))) else (none)) else (none)) else (none))) else (none)) else (none)))) = some r := h
  clear h
  replace H := Option.bind_eq_some_iff.mp H
  obtain ⟨⟨t113, t114⟩, A10, H⟩ := H
  replace H : ((hello_GetHello.f k t113).bind fun bt115 => (if t114 = true then (if (t113.size : Int) = 21 then ((hello_Kind.f t113).bind fun t119 => (if t119 = 1 then (if bt115.2.2 = true then (if bt115.1.toList = ([97, 110, 110] : List UInt8) then ((hello_Kind.f (⟨#[9]⟩ : ByteArray)).bind fun t120 => (some (t120 == 0))) else (none)) else (none)) else (none))) else (none)) else (none))) = some r := H
  have A1 := Aside0.mk A10
  clear A10
  replace H := Option.bind_eq_some_iff.mp H
  obtain ⟨⟨t115, t116, t117⟩, A20, H⟩ := H
  replace H : (if t114 = true then (if (t113.size : Int) = 21 then ((hello_Kind.f t113).bind fun t119 => (if t119 = 1 then (if t117 = true then (if t115.toList = ([97, 110, 110] : List UInt8) then ((hello_Kind.f (⟨#[9]⟩ : ByteArray)).bind fun t120 => (some (t120 == 0))) else (none)) else (none)) else (none))) else (none)) else (none)) = some r := H
  have A2 := Aside0.mk A20
  clear A20
  by_cases c3 : t114 = true
  · subst c3
    have H1 : (if (t113.size : Int) = 21 then ((hello_Kind.f t113).bind fun t119 => (if t119 = 1 then (if t117 = true then (if t115.toList = ([97, 110, 110] : List UInt8) then ((hello_Kind.f (⟨#[9]⟩ : ByteArray)).bind fun t120 => (some (t120 == 0))) else (none)) else (none)) else (none))) else (none)) = some r := by rw [if_pos rfl] at H; exact H
    clear H
    have H := H1
    clear H1
    by_cases c4 : (t113.size : Int) = 21
    · rw [if_pos c4] at H
      have c4b0 : ((t113.size : Int) == 21) = true := beq_iff_eq.mpr c4
      have c4b1 : ((t113.size : Int) != 21) = false := bne_eq_false_iff_eq.mpr c4
      clear c4
      replace H := Option.bind_eq_some_iff.mp H
      obtain ⟨t119, A50, H⟩ := H
      replace H : (if t119 = 1 then (if t117 = true then (if t115.toList = ([97, 110, 110] : List UInt8) then ((hello_Kind.f (⟨#[9]⟩ : ByteArray)).bind fun t120 => (some (t120 == 0))) else (none)) else (none)) else (none)) = some r := H
      have A5 := Aside0.mk A50
      clear A50
      by_cases c6 : t119 = 1
      · rw [if_pos c6] at H
        have c6b0 : (t119 == 1) = true := beq_iff_eq.mpr c6
        have c6b1 : (t119 != 1) = false := bne_eq_false_iff_eq.mpr c6
        clear c6
        by_cases c7 : t117 = true
        · subst c7
          have H1 : (if t115.toList = ([97, 110, 110] : List UInt8) then ((hello_Kind.f (⟨#[9]⟩ : ByteArray)).bind fun t120 => (some (t120 == 0))) else (none)) = some r := by rw [if_pos rfl] at H; exact H
          clear H
          have H := H1
          clear H1
          by_cases c8 : t115.toList = ([97, 110, 110] : List UInt8)
          · rw [if_pos c8] at H
            have c8b0 : (t115.toList == ([97, 110, 110] : List UInt8)) = true := beq_iff_eq.mpr c8
            have c8b1 : (t115.toList != ([97, 110, 110] : List UInt8)) = false := bne_eq_false_iff_eq.mpr c8
            clear c8
            replace H := Option.bind_eq_some_iff.mp H
            obtain ⟨t120, A90, H⟩ := H
            replace H : (some (t120 == 0)) = some r := H
            have A9 := Aside0.mk A90
            clear A90
            obtain rfl := Option.some.inj H
            go_enter Try.func9, Try.ntmps9
            go_wp2_with (first | ((with_reducible refine gate_callee (f := 8) rfl ?_); refine goesL_ (some 7) rfl rfl Try.func8 (by kernel_rfl) rfl #[.agg #[.string (⟨#[97, 110, 110]⟩ : ByteArray), .string (⟨#[48, 49, 50, 51, 52, 53, 54, 55, 56, 57, 97, 98, 99, 100, 101, 102]⟩ : ByteArray)]] rfl (by (try simp only [List.map_toArray, List.map_cons, List.map_nil]); first | done | rfl | (simp only [List.length_drop, List.length_take]; rfl)) ?_; (with_reducible refine (hello_PutHello.calls (⟨#[97, 110, 110]⟩ : ByteArray) (⟨#[48, 49, 50, 51, 52, 53, 54, 55, 56, 57, 97, 98, 99, 100, 101, 102]⟩ : ByteArray) t113 true _ A1.out).mono ?_); rintro e w10 ⟨rfl, hb⟩; refine ⟨_, rfl, ?_⟩; have n0_ := Aside0.mk (below_step (by repeat (first | (with_reducible first | exact HB.out | apply below_alloc | apply pw_below_drewN | apply below_drew1) | exact HB.out)) hb); clear HB; have HB := n0_; clear n0_; (try clear hb); (try clear hb2); (try clear hk); (try clear hi)) | ((with_reducible refine gate_callee (f := 10) rfl ?_); refine goesL_ (some 12) rfl rfl Try.func10 (by kernel_rfl) rfl #[.string t113] rfl (by (try simp only [List.map_toArray, List.map_cons, List.map_nil]); first | done | rfl | (simp only [List.length_drop, List.length_take]; rfl)) ?_; (with_reducible refine (hello_GetHello.calls k t113 t115 t116 true _ A2.out).mono ?_); rintro e w11 ⟨rfl, hb⟩; refine ⟨_, rfl, ?_⟩; have n0_ := Aside0.mk (below_step (by repeat (first | (with_reducible first | exact HB.out | apply below_alloc | apply pw_below_drewN | apply below_drew1) | exact HB.out)) hb); clear HB; have HB := n0_; clear n0_; (try clear hb); (try clear hb2); (try clear hk); (try clear hi)) | ((with_reducible refine gate_dst (N := 3) rfl ?_); (try (refine gate_guard (by rfl) ?_; dsimp only)); refine box_event ?hg (N := 3) ?hd (cs := #[.string (⟨#[]⟩ : ByteArray), .string (⟨#[]⟩ : ByteArray)]) (t := 25) ?hr ?_; (case hd => rfl); (case hg => rfl); (case hr => first | (go_simp; done) | (go_simp; rfl)); intro gb118 hg w12 hbox hb; have n0_ := Aside0.mk (below_step (by repeat (first | (with_reducible first | exact HB.out | apply below_alloc | apply pw_below_drewN | apply below_drew1) | exact HB.out)) hb); have n1_ := Aside0.mk (hbox); have n2_ := Aside0.mk ((by rw [hg]; exact (below_size (by repeat (first | (with_reducible first | exact HB.out | apply below_alloc | apply pw_below_drewN | apply below_drew1) | exact HB.out))) : w.heap.size ≤ gb118)); have n3_ := Aside0.mk ((by rw [hg]; exact (below_size (by repeat (first | (with_reducible first | exact HB.out | apply below_alloc | apply pw_below_drewN | apply below_drew1) | exact HB.out))) : w.heap.size ≤ gb118)); clear HB; have HB := n0_; have BK118 := n1_; have GW118 := n2_; have GE118 := n3_; clear n0_ n1_ n2_ n3_; clear hb hbox hg; have hcz13_0 : w12.cell? ⟨gb118, 0, none⟩ = some (.string (⟨#[]⟩ : ByteArray)) := (blk_cell BK118.out 0).trans rfl; have hcz13_1 : w12.cell? ⟨gb118, 1, none⟩ = some (.string (⟨#[]⟩ : ByteArray)) := (blk_cell BK118.out 1).trans rfl; have hfz13_0 := blk_frozen BK118.out 0; have hfz13_1 := blk_frozen BK118.out 1) | (go_at_call 11; (with_reducible refine (hello_Kind.calls t113 t119 _ A5.out).mono ?_); rintro e w' ⟨rfl, ⟨nd, rfl⟩⟩) | (go_at_call 11; (with_reducible refine (hello_Kind.calls (⟨#[9]⟩ : ByteArray) t120 _ A9.out).mono ?_); rintro e w' ⟨rfl, ⟨nd, rfl⟩⟩))
            go_ret
            exact ⟨by first | rfl | (simp [errW_none, errW_some] <;> rfl) | (simp [*, errW_none, errW_some] <;> rfl), by repeat (first | (with_reducible first | exact HB.out | apply below_alloc | apply pw_below_drewN | apply below_drew1 | refine below_set ?_ GE118.out) | exact HB.out)⟩
          · rw [if_neg c8] at H
            exact absurd H (by simp)
        · replace c7 := Bool.eq_false_iff.mpr c7
          subst c7
          have H1 : (none) = some r := by rw [if_neg (show ¬ (false = true) by decide)] at H; exact H
          clear H
          have H := H1
          clear H1
          exact absurd H (by simp)
      · rw [if_neg c6] at H
        exact absurd H (by simp)
    · rw [if_neg c4] at H
      exact absurd H (by simp)
  · replace c3 := Bool.eq_false_iff.mpr c3
    subst c3
    have H1 : (none) = some r := by rw [if_neg (show ¬ (false = true) by decide)] at H; exact H
    clear H
    have H := H1
    clear H1
    exact absurd H (by simp)

end Go.Proofs.Ytbopadckbhocgaa.P
