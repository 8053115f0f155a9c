-- Written by wip/inj.py (the kit's print, with contracts typed by hand beside it).
import Derived.Test.YtoepiofmkjajaaaPx0
import Derived.Test.YtoepiofmkjajaaaPx5
import Derived.Test.YtoepiofmkjajaaaPx6
import Derived.Test.YtoepiofmkjajaaaPx8
import Derived.Test.YtoepiofmkjajaaaPx12
import Derived.Test.YtoepiofmkjajaaaPx14
namespace Go.Proofs.Ytoepiofmkjajaaa.P
open Go.RowKit Go.Proofs.YtoepiofmkjajaaaW.PrintWords Go.Proofs.YtoepiofmkjajaaaW.PrintLast Go.Proofs.YtoepiofmkjajaaaW.PrintMore
attribute [local go_sem] max2_int min2_int max_two min_two max_three min_three max_four min_four   -- for this text's walks alone
set_option linter.unusedVariables false
set_option linter.unusedSimpArgs false

/-! ### escutcheonlaw9_FrameDead: function 7 -/
mutual
def escutcheonlaw9_FrameDead.j0 : Nat → List ByteArray → Int → List ByteArray → Bool → Option (Bool)
  | 0, _, _, _, _ => none
  | k + 1, x0, x1, x2, x30 => if x30 = true then ((escutcheonlaw9_alive.f k).bind fun t380 => (some t380)) else (escutcheonlaw9_FrameDead.l0 k x0 x1 x2 0 (⟨#[]⟩ : ByteArray) false 0)
def escutcheonlaw9_FrameDead.l0 : Nat → List ByteArray → Int → List ByteArray → Int → ByteArray → Bool → Int → Option (Bool)
  | 0, _, _, _, _, _, _, _ => none
  | k + 1, x0, x1, x2, x8, x382000, x382001, x382002 => if x8 < (x0.length : Int) then (if 0 ≤ x8 then (if ((rdOf ByteArray.empty x0 x8).size : Int) < 1 then (escutcheonlaw9_FrameDead.j2 k x0 x1 x2 x8 true x382000 x382001 x382002) else (escutcheonlaw9_FrameDead.j2 k x0 x1 x2 x8 (decide (((rdOf ByteArray.empty x0 x8).size : Int) > 500)) x382000 x382001 x382002)) else (none)) else (if (Go.bits .and .i64 x1 1) = 1 then (escutcheonlaw9_FrameDead.j3 k x2 (wrap64 (2201 + (Go.bits .and .i64 (x1 / 2) 1023))) x382000 x382001 x382002) else (escutcheonlaw9_FrameDead.j3 k x2 0 x382000 x382001 x382002))
def escutcheonlaw9_FrameDead.j2 : Nat → List ByteArray → Int → List ByteArray → Int → Bool → ByteArray → Bool → Int → Option (Bool)
  | 0, _, _, _, _, _, _, _, _ => none
  | k + 1, x0, x1, x2, x8, x53, x382000, x382001, x382002 => if x53 = true then (some true) else (if 0 ≤ x8 then (if x8 < (x0.length : Int) then ((frame_Put.f k (rdOf ByteArray.empty x0 x8)).bind fun bt385 => ((frame_Reader_Feed.f k x382000 x382001 x382002 bt385.1).bind fun bt387 => (if bt385.2 = true then (if bt387.2.1 = true then (if (bt387.1.length : Int) = 1 then (if 0 < (bt387.1.length : Int) then (if (rdOf ByteArray.empty bt387.1 0).toList = (rdOf ByteArray.empty x0 x8).toList then ((frame_Reader_Dead.f bt387.2.2.1 bt387.2.2.2.1 bt387.2.2.2.2).bind fun bt396 => (if bt396.1 = true then (none) else (escutcheonlaw9_FrameDead.l0 k x0 x1 x2 (wrap64 (x8 + 1)) bt396.2.1 bt396.2.2.1 bt396.2.2.2))) else (none)) else (none)) else (none)) else (none)) else (none)))) else (none)) else (none))
def escutcheonlaw9_FrameDead.j3 : Nat → List ByteArray → Int → ByteArray → Bool → Int → Option (Bool)
  | 0, _, _, _, _, _ => none
  | k + 1, x2, x13, x382000, x382001, x382002 => (frame_Reader_Feed.f k x382000 x382001 x382002 (strOfNums (([(x13 / 256) % 256, (x13) % 256] : List Int)))).bind fun bt403 => (if bt403.2.1 = true then (none) else (if (bt403.1.length : Int) > 0 then (none) else ((frame_Reader_Dead.f bt403.2.2.1 bt403.2.2.2.1 bt403.2.2.2.2).bind fun bt410 => (escutcheonlaw9_FrameDead.j4 k x2 (!bt410.1) bt410.2.1 bt410.2.2.1 bt410.2.2.2))))
def escutcheonlaw9_FrameDead.j4 : Nat → List ByteArray → Bool → ByteArray → Bool → Int → Option (Bool)
  | 0, _, _, _, _, _ => none
  | k + 1, x2, x122, x382000, x382001, x382002 => if x122 = true then (none) else (escutcheonlaw9_FrameDead.l1 k x2 0 x382000 x382001 x382002)
def escutcheonlaw9_FrameDead.l1 : Nat → List ByteArray → Int → ByteArray → Bool → Int → Option (Bool)
  | 0, _, _, _, _, _ => none
  | k + 1, x2, x16, x382000, x382001, x382002 => if x16 < (x2.length : Int) then (if 0 ≤ x16 then ((frame_Reader_Feed.f k x382000 x382001 x382002 (rdOf ByteArray.empty x2 x16)).bind fun bt415 => (if bt415.2.1 = true then (none) else (if (bt415.1.length : Int) > 0 then (none) else ((frame_Reader_Dead.f bt415.2.2.1 bt415.2.2.2.1 bt415.2.2.2.2).bind fun bt422 => (if bt422.1 = true then ((frame_Reader_Waits.f bt422.2.1 bt422.2.2.1 bt422.2.2.2).bind fun bt426 => (if bt426.1 = 0 then (escutcheonlaw9_FrameDead.l1 k x2 (wrap64 (x16 + 1)) bt426.2.1 bt426.2.2.1 bt426.2.2.2) else (none))) else (none)))))) else (none)) else (some true)
end
def escutcheonlaw9_FrameDead.f (k : Nat) (l0 : List ByteArray) (a1 : Int) (l2 : List ByteArray) : Option (Bool) := if (l0.length : Int) > 10 then (escutcheonlaw9_FrameDead.j0 k l0 a1 l2 true) else (if (l2.length : Int) > 10 then (escutcheonlaw9_FrameDead.j0 k l0 a1 l2 true) else ((escutcheonlaw9_alive.f k).bind fun t379 => (escutcheonlaw9_FrameDead.j0 k l0 a1 l2 (!t379))))
theorem escutcheonlaw9_FrameDead.mono_l : ∀ k, (∀ y0 y1 y2 y3, LeO (escutcheonlaw9_FrameDead.j0 k y0 y1 y2 y3) (escutcheonlaw9_FrameDead.j0 (k + 1) y0 y1 y2 y3)) ∧ (∀ y0 y1 y2 y3 y4 y5 y6, LeO (escutcheonlaw9_FrameDead.l0 k y0 y1 y2 y3 y4 y5 y6) (escutcheonlaw9_FrameDead.l0 (k + 1) y0 y1 y2 y3 y4 y5 y6)) ∧ (∀ y0 y1 y2 y3 y4 y5 y6 y7, LeO (escutcheonlaw9_FrameDead.j2 k y0 y1 y2 y3 y4 y5 y6 y7) (escutcheonlaw9_FrameDead.j2 (k + 1) y0 y1 y2 y3 y4 y5 y6 y7)) ∧ (∀ y0 y1 y2 y3 y4, LeO (escutcheonlaw9_FrameDead.j3 k y0 y1 y2 y3 y4) (escutcheonlaw9_FrameDead.j3 (k + 1) y0 y1 y2 y3 y4)) ∧ (∀ y0 y1 y2 y3 y4, LeO (escutcheonlaw9_FrameDead.j4 k y0 y1 y2 y3 y4) (escutcheonlaw9_FrameDead.j4 (k + 1) y0 y1 y2 y3 y4)) ∧ (∀ y0 y1 y2 y3 y4, LeO (escutcheonlaw9_FrameDead.l1 k y0 y1 y2 y3 y4) (escutcheonlaw9_FrameDead.l1 (k + 1) y0 y1 y2 y3 y4))
  | 0 => ⟨fun _ _ _ _ r h => by simp [escutcheonlaw9_FrameDead.j0] at h, fun _ _ _ _ _ _ _ r h => by simp [escutcheonlaw9_FrameDead.l0] at h, fun _ _ _ _ _ _ _ _ r h => by simp [escutcheonlaw9_FrameDead.j2] at h, fun _ _ _ _ _ r h => by simp [escutcheonlaw9_FrameDead.j3] at h, fun _ _ _ _ _ r h => by simp [escutcheonlaw9_FrameDead.j4] at h, fun _ _ _ _ _ r h => by simp [escutcheonlaw9_FrameDead.l1] at h⟩
  | k + 1 => by
    obtain ⟨ih0, ih1, ih2, ih3, ih4, ih5⟩ := escutcheonlaw9_FrameDead.mono_l k
    refine ⟨?_, ?_, ?_, ?_, ?_, ?_⟩
    · intro y0 y1 y2 y3
      unfold escutcheonlaw9_FrameDead.j0
      repeat' first
      | (with_reducible exact ih0 _ _ _ _)
      | (with_reducible exact ih1 _ _ _ _ _ _ _)
      | (with_reducible exact ih2 _ _ _ _ _ _ _ _)
      | (with_reducible exact ih3 _ _ _ _ _)
      | (with_reducible exact ih4 _ _ _ _ _)
      | (with_reducible exact ih5 _ _ _ _ _)
      | (with_reducible exact escutcheonlaw9_alive.mono _)
      | (with_reducible exact frame_Put.mono _ _)
      | (with_reducible exact frame_Reader_Feed.mono _ _ _ _ _)
      | (with_reducible exact LeO.refl _)
      | (with_reducible exact LeO.none _)
      | (with_reducible refine LeO.ite ?_ ?_)
      | (with_reducible refine LeO.bind ?_ (fun _ => ?_))
      | exact ih0 _ _ _ _
      | exact ih1 _ _ _ _ _ _ _
      | exact ih2 _ _ _ _ _ _ _ _
      | exact ih3 _ _ _ _ _
      | exact ih4 _ _ _ _ _
      | exact ih5 _ _ _ _ _
      | exact escutcheonlaw9_alive.mono _
      | exact frame_Put.mono _ _
      | exact frame_Reader_Feed.mono _ _ _ _ _
      | exact LeO.none _
      | refine LeO.ite ?_ ?_
      | refine LeO.bind ?_ (fun _ => ?_)
    · intro y0 y1 y2 y3 y4 y5 y6
      unfold escutcheonlaw9_FrameDead.l0
      repeat' first
      | (with_reducible exact ih0 _ _ _ _)
      | (with_reducible exact ih1 _ _ _ _ _ _ _)
      | (with_reducible exact ih2 _ _ _ _ _ _ _ _)
      | (with_reducible exact ih3 _ _ _ _ _)
      | (with_reducible exact ih4 _ _ _ _ _)
      | (with_reducible exact ih5 _ _ _ _ _)
      | (with_reducible exact escutcheonlaw9_alive.mono _)
      | (with_reducible exact frame_Put.mono _ _)
      | (with_reducible exact frame_Reader_Feed.mono _ _ _ _ _)
      | (with_reducible exact LeO.refl _)
      | (with_reducible exact LeO.none _)
      | (with_reducible refine LeO.ite ?_ ?_)
      | (with_reducible refine LeO.bind ?_ (fun _ => ?_))
      | exact ih0 _ _ _ _
      | exact ih1 _ _ _ _ _ _ _
      | exact ih2 _ _ _ _ _ _ _ _
      | exact ih3 _ _ _ _ _
      | exact ih4 _ _ _ _ _
      | exact ih5 _ _ _ _ _
      | exact escutcheonlaw9_alive.mono _
      | exact frame_Put.mono _ _
      | exact frame_Reader_Feed.mono _ _ _ _ _
      | exact LeO.none _
      | refine LeO.ite ?_ ?_
      | refine LeO.bind ?_ (fun _ => ?_)
    · intro y0 y1 y2 y3 y4 y5 y6 y7
      unfold escutcheonlaw9_FrameDead.j2
      repeat' first
      | (with_reducible exact ih0 _ _ _ _)
      | (with_reducible exact ih1 _ _ _ _ _ _ _)
      | (with_reducible exact ih2 _ _ _ _ _ _ _ _)
      | (with_reducible exact ih3 _ _ _ _ _)
      | (with_reducible exact ih4 _ _ _ _ _)
      | (with_reducible exact ih5 _ _ _ _ _)
      | (with_reducible exact escutcheonlaw9_alive.mono _)
      | (with_reducible exact frame_Put.mono _ _)
      | (with_reducible exact frame_Reader_Feed.mono _ _ _ _ _)
      | (with_reducible exact LeO.refl _)
      | (with_reducible exact LeO.none _)
      | (with_reducible refine LeO.ite ?_ ?_)
      | (with_reducible refine LeO.bind ?_ (fun _ => ?_))
      | exact ih0 _ _ _ _
      | exact ih1 _ _ _ _ _ _ _
      | exact ih2 _ _ _ _ _ _ _ _
      | exact ih3 _ _ _ _ _
      | exact ih4 _ _ _ _ _
      | exact ih5 _ _ _ _ _
      | exact escutcheonlaw9_alive.mono _
      | exact frame_Put.mono _ _
      | exact frame_Reader_Feed.mono _ _ _ _ _
      | exact LeO.none _
      | refine LeO.ite ?_ ?_
      | refine LeO.bind ?_ (fun _ => ?_)
    · intro y0 y1 y2 y3 y4
      unfold escutcheonlaw9_FrameDead.j3
      repeat' first
      | (with_reducible exact ih0 _ _ _ _)
      | (with_reducible exact ih1 _ _ _ _ _ _ _)
      | (with_reducible exact ih2 _ _ _ _ _ _ _ _)
      | (with_reducible exact ih3 _ _ _ _ _)
      | (with_reducible exact ih4 _ _ _ _ _)
      | (with_reducible exact ih5 _ _ _ _ _)
      | (with_reducible exact escutcheonlaw9_alive.mono _)
      | (with_reducible exact frame_Put.mono _ _)
      | (with_reducible exact frame_Reader_Feed.mono _ _ _ _ _)
      | (with_reducible exact LeO.refl _)
      | (with_reducible exact LeO.none _)
      | (with_reducible refine LeO.ite ?_ ?_)
      | (with_reducible refine LeO.bind ?_ (fun _ => ?_))
      | exact ih0 _ _ _ _
      | exact ih1 _ _ _ _ _ _ _
      | exact ih2 _ _ _ _ _ _ _ _
      | exact ih3 _ _ _ _ _
      | exact ih4 _ _ _ _ _
      | exact ih5 _ _ _ _ _
      | exact escutcheonlaw9_alive.mono _
      | exact frame_Put.mono _ _
      | exact frame_Reader_Feed.mono _ _ _ _ _
      | exact LeO.none _
      | refine LeO.ite ?_ ?_
      | refine LeO.bind ?_ (fun _ => ?_)
    · intro y0 y1 y2 y3 y4
      unfold escutcheonlaw9_FrameDead.j4
      repeat' first
      | (with_reducible exact ih0 _ _ _ _)
      | (with_reducible exact ih1 _ _ _ _ _ _ _)
      | (with_reducible exact ih2 _ _ _ _ _ _ _ _)
      | (with_reducible exact ih3 _ _ _ _ _)
      | (with_reducible exact ih4 _ _ _ _ _)
      | (with_reducible exact ih5 _ _ _ _ _)
      | (with_reducible exact escutcheonlaw9_alive.mono _)
      | (with_reducible exact frame_Put.mono _ _)
      | (with_reducible exact frame_Reader_Feed.mono _ _ _ _ _)
      | (with_reducible exact LeO.refl _)
      | (with_reducible exact LeO.none _)
      | (with_reducible refine LeO.ite ?_ ?_)
      | (with_reducible refine LeO.bind ?_ (fun _ => ?_))
      | exact ih0 _ _ _ _
      | exact ih1 _ _ _ _ _ _ _
      | exact ih2 _ _ _ _ _ _ _ _
      | exact ih3 _ _ _ _ _
      | exact ih4 _ _ _ _ _
      | exact ih5 _ _ _ _ _
      | exact escutcheonlaw9_alive.mono _
      | exact frame_Put.mono _ _
      | exact frame_Reader_Feed.mono _ _ _ _ _
      | exact LeO.none _
      | refine LeO.ite ?_ ?_
      | refine LeO.bind ?_ (fun _ => ?_)
    · intro y0 y1 y2 y3 y4
      unfold escutcheonlaw9_FrameDead.l1
      repeat' first
      | (with_reducible exact ih0 _ _ _ _)
      | (with_reducible exact ih1 _ _ _ _ _ _ _)
      | (with_reducible exact ih2 _ _ _ _ _ _ _ _)
      | (with_reducible exact ih3 _ _ _ _ _)
      | (with_reducible exact ih4 _ _ _ _ _)
      | (with_reducible exact ih5 _ _ _ _ _)
      | (with_reducible exact escutcheonlaw9_alive.mono _)
      | (with_reducible exact frame_Put.mono _ _)
      | (with_reducible exact frame_Reader_Feed.mono _ _ _ _ _)
      | (with_reducible exact LeO.refl _)
      | (with_reducible exact LeO.none _)
      | (with_reducible refine LeO.ite ?_ ?_)
      | (with_reducible refine LeO.bind ?_ (fun _ => ?_))
      | exact ih0 _ _ _ _
      | exact ih1 _ _ _ _ _ _ _
      | exact ih2 _ _ _ _ _ _ _ _
      | exact ih3 _ _ _ _ _
      | exact ih4 _ _ _ _ _
      | exact ih5 _ _ _ _ _
      | exact escutcheonlaw9_alive.mono _
      | exact frame_Put.mono _ _
      | exact frame_Reader_Feed.mono _ _ _ _ _
      | exact LeO.none _
      | refine LeO.ite ?_ ?_
      | refine LeO.bind ?_ (fun _ => ?_)
theorem escutcheonlaw9_FrameDead.mono : ∀ a0 a1 a2 k, LeO (escutcheonlaw9_FrameDead.f k a0 a1 a2) (escutcheonlaw9_FrameDead.f (k + 1) a0 a1 a2) := by
  intro a0 a1 a2 k
  obtain ⟨ih0, ih1, ih2, ih3, ih4, ih5⟩ := escutcheonlaw9_FrameDead.mono_l k
  unfold escutcheonlaw9_FrameDead.f
  repeat' first
      | (with_reducible exact ih0 _ _ _ _)
      | (with_reducible exact ih1 _ _ _ _ _ _ _)
      | (with_reducible exact ih2 _ _ _ _ _ _ _ _)
      | (with_reducible exact ih3 _ _ _ _ _)
      | (with_reducible exact ih4 _ _ _ _ _)
      | (with_reducible exact ih5 _ _ _ _ _)
      | (with_reducible exact escutcheonlaw9_alive.mono _)
      | (with_reducible exact frame_Put.mono _ _)
      | (with_reducible exact frame_Reader_Feed.mono _ _ _ _ _)
      | (with_reducible exact LeO.refl _)
      | (with_reducible exact LeO.none _)
      | (with_reducible refine LeO.ite ?_ ?_)
      | (with_reducible refine LeO.bind ?_ (fun _ => ?_))
      | exact ih0 _ _ _ _
      | exact ih1 _ _ _ _ _ _ _
      | exact ih2 _ _ _ _ _ _ _ _
      | exact ih3 _ _ _ _ _
      | exact ih4 _ _ _ _ _
      | exact ih5 _ _ _ _ _
      | exact escutcheonlaw9_alive.mono _
      | exact frame_Put.mono _ _
      | exact frame_Reader_Feed.mono _ _ _ _ _
      | exact LeO.none _
      | refine LeO.ite ?_ ?_
      | refine LeO.bind ?_ (fun _ => ?_)
def escutcheonlaw9_FrameDead.T11 : Bool × List (List Nat × List Nat) := (true, [([], []), ([0], [0]), ([1], [1]), ([2], [2]), ([3, 2], [2, 3]), ([2, 4], [2, 4]), ([5, 2], [5]), ([6], [6]), ([7, 6], [6, 7]), ([8, 6], [6, 8]), ([6, 9], [6, 9]), ([10, 6], [10]), ([11], [11]), ([12, 11], [11, 12]), ([13, 11], [11, 13]), ([11], [11]), ([11], [11]), ([15, 16, 11], [11, 15, 16]), ([17, 11], [11, 17]), ([14, 18, 11], [11, 14, 18]), ([11, 19], [11, 19]), ([20, 11], [20]), ([21], [21]), ([22, 21, 21], [21, 22]), ([21, 23], [21, 23])])
def escutcheonlaw9_FrameDead.B11 : List Nat := [0, 1, 3, 7, 15, 31, 63, 127, 255, 511, 1023, 2047, 4095, 8191, 16383, 4095, 4095, 102399, 233471, 524287, 1048575, 2097151, 4194303, 8388607, 16777215]
theorem escutcheonlaw9_FrameDead.tab11 : rtab .any (opsOf Try.f7 11) = escutcheonlaw9_FrameDead.T11 := by kernel_rfl
theorem escutcheonlaw9_FrameDead.bits11 : waitsOk escutcheonlaw9_FrameDead.T11.2 escutcheonlaw9_FrameDead.B11 = true := by kernel_rfl
set_option maxHeartbeats 8000000 in
set_option maxRecDepth 100000 in
theorem escutcheonlaw9_FrameDead.calls (k : Nat) (A0 : Option Addr) (c0 : Nat) (l0 : List ByteArray) (a1 : Int) (A2 : Option Addr) (c2 : Nat) (l2 : List ByteArray) (r : Bool) (w : World) (hr0 : Kd.C Kd.string w A0 l0.length l0) (hc0 : l0.length ≤ c0) (hr2 : Kd.C Kd.string w A2 l2.length l2) (hc2 : l2.length ≤ c2) (h : escutcheonlaw9_FrameDead.f k l0 a1 l2 = some r) :
    Calls Try.prog 7 #[.slice A0 l0.length c0, .int .i64 a1, .slice A2 l2.length c2] w fun e w' => e = .returned (.bool r) ∧ Below w.heap.size w w' := by
  have hu34 := Try.underlying34
  have HR0 := Aside0.mk hr0
  have HC0 := Aside0.mk hc0
  clear hr0 hc0
  have HR2 := Aside0.mk hr2
  have HC2 := Aside0.mk hc2
  clear hr2 hc2
  have HB := Aside0.mk (Below.refl w.heap.size w)
  have H : (if (l0.length : Int) > 10 then (escutcheonlaw9_FrameDead.j0 k l0 a1 l2 true) else (if (l2.length : Int) > 10 then (escutcheonlaw9_FrameDead.j0 k l0 a1 l2 true) else ((escutcheonlaw9_alive.f k).bind fun t379 => (escutcheonlaw9_FrameDead.j0 k l0 a1 l2 (!t379))))) = some r := h
  clear h
  have HC4 := Aside0.mk H
  clear H
  go_enter Try.func7, Try.ntmps7
  go_upto_region 1 with (fail)
  go_cut [30] (fun v30 wc => ∃ (kq : Nat) (x30_3 : Bool), v30 = .bool x30_3 ∧ Aside0 (escutcheonlaw9_FrameDead.j0 kq l0 a1 l2 x30_3 = some r) ∧ Aside0 (kq ≤ k) ∧ Aside0 (Below w.heap.size w wc))
  case first =>
    have H := HC4.out
    clear HC4
    by_cases c5 : (l0.length : Int) > 10
    · rw [if_pos c5] at H
      have c5b0 : decide (10 < (l0.length : Int)) = true := decide_eq_true c5
      have c5b1 : decide (10 < l0.length) = true := decide_eq_true (by omega)
      clear c5
      (first | rw [c5b0] | (simp only [i64_w, i32_w]; rw [c5b0]) | skip)
      have H' := Aside0.mk H
      clear H
      go_wp2
      go_meet
      case rel => exact ⟨_, (true), (by first | rfl | (simp; done) | (simp [*]; done)), H', ⟨by first | omega | exact Nat.le_refl _⟩, ⟨by repeat (first | (with_reducible first | exact HB.out | apply below_alloc | apply pw_below_drewN | apply below_drew1) | exact HB.out)⟩⟩
    · rw [if_neg c5] at H
      have c5b0 : decide (10 < (l0.length : Int)) = false := decide_eq_false c5
      have c5b1 : decide (10 < l0.length) = false := decide_eq_false (by omega)
      clear c5
      (first | rw [c5b0] | (simp only [i64_w, i32_w]; rw [c5b0]) | skip)
      by_cases c6 : (l2.length : Int) > 10
      · rw [if_pos c6] at H
        have c6b0 : decide (10 < (l2.length : Int)) = true := decide_eq_true c6
        have c6b1 : decide (10 < l2.length) = true := decide_eq_true (by omega)
        clear c6
        have H' := Aside0.mk H
        clear H
        go_wp2
        go_meet
        case rel => exact ⟨_, (true), (by first | rfl | (simp; done) | (simp [*]; done)), H', ⟨by first | omega | exact Nat.le_refl _⟩, ⟨by repeat (first | (with_reducible first | exact HB.out | apply below_alloc | apply pw_below_drewN | apply below_drew1) | exact HB.out)⟩⟩
      · rw [if_neg c6] at H
        have c6b0 : decide (10 < (l2.length : Int)) = false := decide_eq_false c6
        have c6b1 : decide (10 < l2.length) = false := decide_eq_false (by omega)
        clear c6
        replace H := Option.bind_eq_some_iff.mp H
        obtain ⟨t379, A70, H⟩ := H
        replace H : (escutcheonlaw9_FrameDead.j0 k l0 a1 l2 (!t379)) = some r := H
        have A7 := Aside0.mk A70
        clear A70
        have H' := Aside0.mk H
        clear H
        go_wp2_with (first | (go_at_call 9; (with_reducible refine (escutcheonlaw9_alive.calls k  t379 _ A7.out).mono ?_); rintro e w8 ⟨rfl, hb⟩; have n0_ := Aside0.mk (below_step (by repeat (first | (with_reducible first | exact HB.out | apply below_alloc | apply pw_below_drewN | apply below_drew1) | exact HB.out)) hb); clear HB; have HB := n0_; clear n0_; (try clear hb); (try clear hb2); (try clear hk); (try clear hi)))
        go_meet
        case rel => exact ⟨_, (!t379), (by first | rfl | (simp; done) | (simp [*]; done)), H', ⟨by first | omega | exact Nat.le_refl _⟩, ⟨by repeat (first | (with_reducible first | exact HB.out | apply below_alloc | apply pw_below_drewN | apply below_drew1) | exact HB.out)⟩⟩
  case rest =>
    clear HC4
    try clear c2
    try clear p2
    try clear c5
    try clear c5b0
    try clear c5b1
    try clear c6
    try clear c6b0
    try clear c6b1
    try clear c7
    obtain ⟨kq, x30_3, rfl, HA, HJ3, HB⟩ := hcut
    cases kq with
    | zero => exact absurd HA.out (by simp [escutcheonlaw9_FrameDead.j0])
    | succ kj3 =>
      have H := HA.out
      clear HA
      simp only [escutcheonlaw9_FrameDead.j0] at H
      by_cases c9 : x30_3 = true
      · subst c9
        have H1 : ((escutcheonlaw9_alive.f kj3).bind fun t380 => (some t380)) = some r := by rw [if_pos rfl] at H; exact H
        clear H
        have H := H1
        clear H1
        replace H := Option.bind_eq_some_iff.mp H
        obtain ⟨t380, A100, H⟩ := H
        replace H : (some t380) = some r := H
        have A10 := Aside0.mk A100
        clear A100
        obtain rfl := Option.some.inj H
        go_wp2_with (first | ((with_reducible refine gate_callee (f := 9) rfl ?_); refine goesL_ (some 31) rfl rfl Try.func9 (by kernel_rfl) rfl #[] rfl (by (try simp only [List.map_toArray, List.map_cons, List.map_nil]); first | done | rfl | (simp only [List.length_drop, List.length_take]; rfl)) ?_; (with_reducible refine (escutcheonlaw9_alive.calls kj3  t380 _ A10.out).mono ?_); rintro e w11 ⟨rfl, hb⟩; refine ⟨_, rfl, ?_⟩; have n0_ := Aside0.mk (below_step (by repeat (first | (with_reducible first | exact HB.out | apply below_alloc | apply pw_below_drewN | apply below_drew1) | exact HB.out)) hb); clear HB; have HB := n0_; clear n0_; (try clear hb); (try clear hb2); (try clear hk); (try clear hi)))
        go_ret
        exact ⟨by first | rfl | (simp [errW_none, errW_some] <;> rfl) | (simp [*, errW_none, errW_some] <;> rfl), by repeat (first | (with_reducible first | exact HB.out | apply below_alloc | apply pw_below_drewN | apply below_drew1) | exact HB.out)⟩
      · replace c9 := Bool.eq_false_iff.mpr c9
        subst c9
        have H1 : (escutcheonlaw9_FrameDead.l0 kj3 l0 a1 l2 0 (⟨#[]⟩ : ByteArray) false 0) = some r := by rw [if_neg (show ¬ (false = true) by decide)] at H; exact H
        clear H
        have H := H1
        clear H1
        have H' := Aside0.mk H
        clear H
        go_wp2_with (first | ((with_reducible refine gate_dst (N := 33) rfl ?_); (try (refine gate_guard (by rfl) ?_; dsimp only)); refine box_event ?hg (N := 33) ?hd (cs := #[.string (⟨#[]⟩ : ByteArray), .bool false, .int .i64 0]) (t := 34) ?hr ?_; (case hd => rfl); (case hg => rfl); (case hr => first | (go_simp; done) | (go_simp; rfl)); intro gb381 hg w12 hbox hb; have n0_ := Aside0.mk (below_step (by repeat (first | (with_reducible first | exact HB.out | apply below_alloc | apply pw_below_drewN | apply below_drew1) | exact HB.out)) hb); have n1_ := Aside0.mk ((⟨hbox, by rw [hg]; exact (below_size (by repeat (first | (with_reducible first | exact HB.out | apply below_alloc | apply pw_below_drewN | apply below_drew1) | exact HB.out)))⟩ : IsS34 w _ gb381 (⟨#[]⟩ : ByteArray) false 0)); have n2_ := Aside0.mk ((by rw [hg]; exact (below_size (by repeat (first | (with_reducible first | exact HB.out | apply below_alloc | apply pw_below_drewN | apply below_drew1) | exact HB.out))) : w.heap.size ≤ gb381)); have n3_ := Aside0.mk ((by rw [hg]; exact (below_size (by repeat (first | (with_reducible first | exact HB.out | apply below_alloc | apply pw_below_drewN | apply below_drew1) | exact HB.out))) : w.heap.size ≤ gb381)); clear HB; have HB := n0_; have HI381 := n1_; have GW381 := n2_; have GE381 := n3_; clear n0_ n1_ n2_ n3_; clear hb hbox hg))
        go_loopg [8] kj3 (fun kq v8 w' => ∃ (x8_2 : Int) (x382000_2 : ByteArray) (x382001_2 : Bool) (x382002_2 : Int), v8 = .int .i64 x8_2 ∧ Aside0 (escutcheonlaw9_FrameDead.l0 kq l0 a1 l2 x8_2 x382000_2 x382001_2 x382002_2 = some r) ∧ Aside0 (kq ≤ kj3) ∧ Aside0 (IsS34 w w' gb381 x382000_2 x382001_2 x382002_2) ∧ Aside0 (Below w.heap.size w w'))
        case atStart => exact ⟨(0), ((⟨#[]⟩ : ByteArray)), (false), (0), (by first | rfl | (simp; done) | (simp [*]; done)), H', ⟨Nat.le_refl _⟩, ⟨by repeat (first | (with_reducible first | exact HI381.out | apply IsS34.alloc | apply IsS34.drewN | apply IsS34.drew | apply IsS34.set_0 | apply IsS34.set_1 | apply IsS34.set_2) | exact HI381.out)⟩, ⟨by repeat (first | (with_reducible first | exact HB.out | apply below_alloc | apply pw_below_drewN | apply below_drew1 | refine below_set ?_ (IsS34.ge HI381.out)) | exact HB.out)⟩⟩
        case round =>
          clear H'
          try clear c2
          try clear p2
          try clear c5
          try clear c5b0
          try clear c5b1
          try clear c6
          try clear c6b0
          try clear c6b1
          try clear c7
          try clear c9
          try clear p2
          obtain ⟨x8_2, x382000_2, x382001_2, x382002_2, rfl, HA, HK2, HI381, HB⟩ := hrel
          cases gk with
          | zero => exact absurd HA.out (by simp [escutcheonlaw9_FrameDead.l0])
          | succ k2 =>
            have H := HA.out
            clear HA
            simp only [escutcheonlaw9_FrameDead.l0] at H
            by_cases c13 : x8_2 < (l0.length : Int)
            · rw [if_pos c13] at H
              have c13b0 : decide (x8_2 < (l0.length : Int)) = true := decide_eq_true c13
              clear c13
              have HC14 := Aside0.mk H
              clear H
              go_upto_region 7 with (fail)
              go_cut [53] (fun v53 wc => ∃ (kq : Nat) (x53_13 : Bool), v53 = .bool x53_13 ∧ Aside0 (escutcheonlaw9_FrameDead.j2 kq l0 a1 l2 x8_2 x53_13 x382000_2 x382001_2 x382002_2 = some r) ∧ Aside0 (kq ≤ k2) ∧ Aside0 (IsS34 w wc gb381 x382000_2 x382001_2 x382002_2) ∧ Aside0 (Below w.heap.size w wc))
              case first =>
                have H := HC14.out
                clear HC14
                by_cases c15 : 0 ≤ x8_2
                · rw [if_pos c15] at H
                  have c15b0 : decide (0 ≤ x8_2) = true := decide_eq_true c15
                  clear c15
                  (first | rw [c15b0] | (simp only [i64_w, i32_w]; rw [c15b0]) | skip)
                  by_cases c16 : ((rdOf ByteArray.empty l0 x8_2).size : Int) < 1
                  · rw [if_pos c16] at H
                    have c16b0 : decide (((rdOf ByteArray.empty l0 x8_2).size : Int) < 1) = true := decide_eq_true c16
                    have c16b1 : decide ((rdOf ByteArray.empty l0 x8_2).size < 1) = true := decide_eq_true (by omega)
                    clear c16
                    have H' := Aside0.mk H
                    clear H
                    have p382 : 0 ≤ (x8_2 : Int) := of_decide_eq_true (by first | (with_reducible assumption) | assumption)
                    have q382 : x8_2 < (l0.length : Int) := of_decide_eq_true (by first | (with_reducible assumption) | assumption)
                    obtain ⟨ad382, e382, hx382_0⟩ := Kd.at_string HR0.out x8_2 p382 q382
                    cases e382
                    replace hx382_0 := (HB.out.cell (World.block_lt_of_cell? w _ hx382_0)).trans hx382_0
                    replace p382 := eq_true p382
                    replace q382 := eq_true q382
                    go_wp2
                    go_meet
                    case rel => exact ⟨_, (true), (by first | rfl | (simp; done) | (simp [*]; done)), H', ⟨by have := HJ3.out; have := HK2.out; first | omega | exact Nat.le_refl _⟩, ⟨by repeat (first | (with_reducible first | exact HI381.out | apply IsS34.alloc | apply IsS34.drewN | apply IsS34.drew | apply IsS34.set_0 | apply IsS34.set_1 | apply IsS34.set_2) | exact HI381.out)⟩, ⟨by repeat (first | (with_reducible first | exact HB.out | apply below_alloc | apply pw_below_drewN | apply below_drew1 | refine below_set ?_ (IsS34.ge HI381.out)) | exact HB.out)⟩⟩
                  · rw [if_neg c16] at H
                    have c16b0 : decide (((rdOf ByteArray.empty l0 x8_2).size : Int) < 1) = false := decide_eq_false c16
                    have c16b1 : decide ((rdOf ByteArray.empty l0 x8_2).size < 1) = false := decide_eq_false (by omega)
                    clear c16
                    have H' := Aside0.mk H
                    clear H
                    have p382 : 0 ≤ (x8_2 : Int) := of_decide_eq_true (by first | (with_reducible assumption) | assumption)
                    have q382 : x8_2 < (l0.length : Int) := of_decide_eq_true (by first | (with_reducible assumption) | assumption)
                    obtain ⟨ad382, e382, hx382_0⟩ := Kd.at_string HR0.out x8_2 p382 q382
                    cases e382
                    replace hx382_0 := (HB.out.cell (World.block_lt_of_cell? w _ hx382_0)).trans hx382_0
                    replace p382 := eq_true p382
                    replace q382 := eq_true q382
                    have p383 : 0 ≤ (x8_2 : Int) := of_decide_eq_true (by first | (with_reducible assumption) | assumption)
                    have q383 : x8_2 < (l0.length : Int) := of_decide_eq_true (by first | (with_reducible assumption) | assumption)
                    obtain ⟨ad383, e383, hx383_0⟩ := Kd.at_string HR0.out x8_2 p383 q383
                    obtain rfl : ad382 = ad383 := (by injection e383)
                    replace hx383_0 := (HB.out.cell (World.block_lt_of_cell? w _ hx383_0)).trans hx383_0
                    replace p383 := eq_true p383
                    replace q383 := eq_true q383
                    go_wp2
                    go_meet
                    case rel => exact ⟨_, (decide (((rdOf ByteArray.empty l0 x8_2).size : Int) > 500)), (by first | rfl | (simp; done) | (simp [*]; done)), H', ⟨by have := HJ3.out; have := HK2.out; first | omega | exact Nat.le_refl _⟩, ⟨by repeat (first | (with_reducible first | exact HI381.out | apply IsS34.alloc | apply IsS34.drewN | apply IsS34.drew | apply IsS34.set_0 | apply IsS34.set_1 | apply IsS34.set_2) | exact HI381.out)⟩, ⟨by repeat (first | (with_reducible first | exact HB.out | apply below_alloc | apply pw_below_drewN | apply below_drew1 | refine below_set ?_ (IsS34.ge HI381.out)) | exact HB.out)⟩⟩
                · rw [if_neg c15] at H
                  exact absurd H (by simp)
              case rest =>
                clear HC14
                try clear c1
                try clear c2
                try clear p2
                try clear p3
                try clear q3
                try clear hx3
                try clear c5
                try clear c5b0
                try clear c5b1
                try clear c6
                try clear c6b0
                try clear c6b1
                try clear c7
                try clear c9
                try clear c13
                try clear c13b0
                try clear c15
                try clear c15b0
                try clear c16
                try clear c16b0
                try clear c16b1
                try clear hx382_0
                try clear hx383_0
                try clear p2
                try clear p382
                try clear p383
                try clear q382
                try clear q383
                obtain ⟨kq, x53_13, rfl, HA, HJ13, HI381, HB⟩ := hcut
                cases kq with
                | zero => exact absurd HA.out (by simp [escutcheonlaw9_FrameDead.j2])
                | succ kj13 =>
                  have H := HA.out
                  clear HA
                  simp only [escutcheonlaw9_FrameDead.j2] at H
                  by_cases c17 : x53_13 = true
                  · subst c17
                    have H1 : (some true) = some r := by rw [if_pos rfl] at H; exact H
                    clear H
                    have H := H1
                    clear H1
                    obtain rfl := Option.some.inj H
                    go_wp2
                    go_ret
                    exact ⟨by first | rfl | (simp [errW_none, errW_some] <;> rfl) | (simp [*, errW_none, errW_some] <;> rfl), by repeat (first | (with_reducible first | exact HB.out | apply below_alloc | apply pw_below_drewN | apply below_drew1 | refine below_set ?_ (IsS34.ge HI381.out)) | exact HB.out)⟩
                  · replace c17 := Bool.eq_false_iff.mpr c17
                    subst c17
                    have H1 : (if 0 ≤ x8_2 then (if x8_2 < (l0.length : Int) then ((frame_Put.f kj13 (rdOf ByteArray.empty l0 x8_2)).bind fun bt385 => ((frame_Reader_Feed.f kj13 x382000_2 x382001_2 x382002_2 bt385.1).bind fun bt387 => (if bt385.2 = true then (if bt387.2.1 = true then (if (bt387.1.length : Int) = 1 then (if 0 < (bt387.1.length : Int) then (if (rdOf ByteArray.empty bt387.1 0).toList = (rdOf ByteArray.empty l0 x8_2).toList then ((frame_Reader_Dead.f bt387.2.2.1 bt387.2.2.2.1 bt387.2.2.2.2).bind fun bt396 => (if bt396.1 = true then (none) else (escutcheonlaw9_FrameDead.l0 kj13 l0 a1 l2 (wrap64 (x8_2 + 1)) bt396.2.1 bt396.2.2.1 bt396.2.2.2))) else (none)) else (none)) else (none)) else (none)) else (none)))) else (none)) else (none)) = some r := by rw [if_neg (show ¬ (false = true) by decide)] at H; exact H
                    clear H
                    have H := H1
                    clear H1
                    by_cases c18 : 0 ≤ x8_2
                    · rw [if_pos c18] at H
                      have c18b0 : decide (0 ≤ x8_2) = true := decide_eq_true c18
                      clear c18
                      by_cases c19 : x8_2 < (l0.length : Int)
                      · rw [if_pos c19] at H
                        have c19b0 : decide (x8_2 < (l0.length : Int)) = true := decide_eq_true c19
                        clear c19
                        replace H := Option.bind_eq_some_iff.mp H
                        obtain ⟨⟨t385, t386⟩, A200, H⟩ := H
                        replace H : ((frame_Reader_Feed.f kj13 x382000_2 x382001_2 x382002_2 t385).bind fun bt387 => (if t386 = true then (if bt387.2.1 = true then (if (bt387.1.length : Int) = 1 then (if 0 < (bt387.1.length : Int) then (if (rdOf ByteArray.empty bt387.1 0).toList = (rdOf ByteArray.empty l0 x8_2).toList then ((frame_Reader_Dead.f bt387.2.2.1 bt387.2.2.2.1 bt387.2.2.2.2).bind fun bt396 => (if bt396.1 = true then (none) else (escutcheonlaw9_FrameDead.l0 kj13 l0 a1 l2 (wrap64 (x8_2 + 1)) bt396.2.1 bt396.2.2.1 bt396.2.2.2))) else (none)) else (none)) else (none)) else (none)) else (none))) = some r := H
                        have A20 := Aside0.mk A200
                        clear A200
                        replace H := Option.bind_eq_some_iff.mp H
                        obtain ⟨⟨t387, t390, t391, t392, t393⟩, A210, H⟩ := H
                        replace H : (if t386 = true then (if t390 = true then (if (t387.length : Int) = 1 then (if 0 < (t387.length : Int) then (if (rdOf ByteArray.empty t387 0).toList = (rdOf ByteArray.empty l0 x8_2).toList then ((frame_Reader_Dead.f t391 t392 t393).bind fun bt396 => (if bt396.1 = true then (none) else (escutcheonlaw9_FrameDead.l0 kj13 l0 a1 l2 (wrap64 (x8_2 + 1)) bt396.2.1 bt396.2.2.1 bt396.2.2.2))) else (none)) else (none)) else (none)) else (none)) else (none)) = some r := H
                        have A21 := Aside0.mk A210
                        clear A210
                        by_cases c22 : t386 = true
                        · subst c22
                          have H1 : (if t390 = true then (if (t387.length : Int) = 1 then (if 0 < (t387.length : Int) then (if (rdOf ByteArray.empty t387 0).toList = (rdOf ByteArray.empty l0 x8_2).toList then ((frame_Reader_Dead.f t391 t392 t393).bind fun bt396 => (if bt396.1 = true then (none) else (escutcheonlaw9_FrameDead.l0 kj13 l0 a1 l2 (wrap64 (x8_2 + 1)) bt396.2.1 bt396.2.2.1 bt396.2.2.2))) else (none)) else (none)) else (none)) else (none)) = some r := by rw [if_pos rfl] at H; exact H
                          clear H
                          have H := H1
                          clear H1
                          by_cases c23 : t390 = true
                          · subst c23
                            have H1 : (if (t387.length : Int) = 1 then (if 0 < (t387.length : Int) then (if (rdOf ByteArray.empty t387 0).toList = (rdOf ByteArray.empty l0 x8_2).toList then ((frame_Reader_Dead.f t391 t392 t393).bind fun bt396 => (if bt396.1 = true then (none) else (escutcheonlaw9_FrameDead.l0 kj13 l0 a1 l2 (wrap64 (x8_2 + 1)) bt396.2.1 bt396.2.2.1 bt396.2.2.2))) else (none)) else (none)) else (none)) = some r := by rw [if_pos rfl] at H; exact H
                            clear H
                            have H := H1
                            clear H1
                            by_cases c24 : (t387.length : Int) = 1
                            · rw [if_pos c24] at H
                              have c24b0 : ((t387.length : Int) == 1) = true := beq_iff_eq.mpr c24
                              have c24b1 : ((t387.length : Int) != 1) = false := bne_eq_false_iff_eq.mpr c24
                              clear c24
                              by_cases c25 : 0 < (t387.length : Int)
                              · rw [if_pos c25] at H
                                have c25b0 : decide (0 < (t387.length : Int)) = true := decide_eq_true c25
                                have c25b1 : decide (0 < t387.length) = true := decide_eq_true (by omega)
                                clear c25
                                by_cases c26 : (rdOf ByteArray.empty t387 0).toList = (rdOf ByteArray.empty l0 x8_2).toList
                                · rw [if_pos c26] at H
                                  have c26b0 : ((rdOf ByteArray.empty t387 0).toList == (rdOf ByteArray.empty l0 x8_2).toList) = true := beq_iff_eq.mpr c26
                                  have c26b1 : ((rdOf ByteArray.empty t387 0).toList != (rdOf ByteArray.empty l0 x8_2).toList) = false := bne_eq_false_iff_eq.mpr c26
                                  clear c26
                                  replace H := Option.bind_eq_some_iff.mp H
                                  obtain ⟨⟨t396, t397, t398, t399⟩, A270, H⟩ := H
                                  replace H : (if t396 = true then (none) else (escutcheonlaw9_FrameDead.l0 kj13 l0 a1 l2 (wrap64 (x8_2 + 1)) t397 t398 t399)) = some r := H
                                  have A27 := Aside0.mk A270
                                  clear A270
                                  by_cases c28 : t396 = true
                                  · subst c28
                                    have H1 : (none) = some r := by rw [if_pos rfl] at H; exact H
                                    clear H
                                    have H := H1
                                    clear H1
                                    exact absurd H (by simp)
                                  · replace c28 := Bool.eq_false_iff.mpr c28
                                    subst c28
                                    have H1 : (escutcheonlaw9_FrameDead.l0 kj13 l0 a1 l2 (wrap64 (x8_2 + 1)) t397 t398 t399) = some r := by rw [if_neg (show ¬ (false = true) by decide)] at H; exact H
                                    clear H
                                    have H := H1
                                    clear H1
                                    have H' := Aside0.mk H
                                    clear H
                                    have p384 : 0 ≤ (x8_2 : Int) := of_decide_eq_true (by first | (with_reducible assumption) | assumption)
                                    have q384 : x8_2 < (l0.length : Int) := of_decide_eq_true (by first | (with_reducible assumption) | assumption)
                                    obtain ⟨ad384, e384, hx384_0⟩ := Kd.at_string HR0.out x8_2 p384 q384
                                    cases e384
                                    replace hx384_0 := (HB.out.cell (World.block_lt_of_cell? w _ hx384_0)).trans hx384_0
                                    replace p384 := eq_true p384
                                    replace q384 := eq_true q384
                                    try go_wp2_with (first | ((with_reducible refine gate_callee (f := 10) rfl ?_); refine goesL_ (some 59) rfl rfl Try.func10 (by kernel_rfl) rfl #[.string (rdOf ByteArray.empty l0 x8_2)] rfl (by (try simp only [List.map_toArray, List.map_cons, List.map_nil]); first | done | rfl | (simp only [List.length_drop, List.length_take]; rfl)) ?_; (with_reducible refine (frame_Put.calls kj13 (rdOf ByteArray.empty l0 x8_2) t385 true _ A20.out).mono ?_); rintro e w29 ⟨rfl, hb⟩; refine ⟨_, rfl, ?_⟩; have n0_ := Aside0.mk (IsS34.below (by repeat (first | (with_reducible first | exact HI381.out | apply IsS34.alloc | apply IsS34.drewN | apply IsS34.drew | apply IsS34.set_0 | apply IsS34.set_1 | apply IsS34.set_2) | exact HI381.out)) hb); have n1_ := Aside0.mk (below_step (by repeat (first | (with_reducible first | exact HB.out | apply below_alloc | apply pw_below_drewN | apply below_drew1 | refine below_set ?_ (IsS34.ge HI381.out)) | exact HB.out)) hb); clear HI381; clear HB; have HI381 := n0_; have HB := n1_; clear n0_ n1_; (try clear hb); (try clear hb2); (try clear hk); (try clear hi)) | ((with_reducible refine gate_callee (f := 12) rfl ?_); refine goesL_ (some 65) rfl rfl Try.func12 (by kernel_rfl) rfl #[.pointer (some ⟨gb381, 0, none⟩), .string t385] rfl (by (try simp only [List.map_toArray, List.map_cons, List.map_nil]); first | done | rfl | (simp only [List.length_drop, List.length_take]; rfl)) ?_; (with_reducible refine (frame_Reader_Feed.calls kj13 gb381 x382000_2 x382001_2 x382002_2 t385 t387 true t391 t392 t393 w _ ?side1 ?side2 A21.out).mono ?_); (case side1 => repeat (first | (with_reducible first | exact HI381.out | apply IsS34.alloc | apply IsS34.drewN | apply IsS34.drew | apply IsS34.set_0 | apply IsS34.set_1 | apply IsS34.set_2) | exact HI381.out)); (case side2 => repeat (first | (with_reducible first | exact HB.out | apply below_alloc | apply pw_below_drewN | apply below_drew1 | refine below_set ?_ (IsS34.ge HI381.out)) | exact HB.out)); rintro e w30 ⟨v388, rfl, ho0, hi, hb, hk⟩; refine ⟨_, rfl, ?_⟩; have n0_ := Aside0.mk (Kd.R_lower ho0 (below_size (by repeat (first | (with_reducible first | exact HB.out | apply below_alloc | apply pw_below_drewN | apply below_drew1 | refine below_set ?_ (IsS34.ge HI381.out)) | exact HB.out)))); have n1_ := Aside0.mk (hb); have n2_ := Aside0.mk (hi); clear HB; clear HI381; have HO389 := n0_; have HB := n1_; have HI381 := n2_; clear n0_ n1_ n2_; (try clear hb); (try clear hb2); (try clear hk); (try clear hi); (try clear ho0)))
                                    have n0_ := Aside0.mk (Kd.R_drew HO389.out)
                                    have n1_ := Aside0.mk (IsS34.drew HI381.out)
                                    have n2_ := Aside0.mk (below_drew1 HB.out)
                                    clear HO389
                                    clear HI381
                                    clear HB
                                    have HO389 := n0_
                                    have HI381 := n1_
                                    have HB := n2_
                                    clear n0_ n1_ n2_
                                    obtain ⟨Ao32, co32, eo32⟩ := Kd.R_slice HO389.out
                                    (first | subst eo32 | (injection eo32 with f1_ f2_ f3_; have f4_ := f1_.symm; have f5_ := f3_.symm; clear f1_ f2_ f3_; subst f4_; subst f5_))
                                    have p394 : 0 ≤ (0 : Int) := (by omega)
                                    have q394 : 0 < (t387.length : Int) := of_decide_eq_true (by first | (with_reducible assumption) | assumption)
                                    obtain ⟨ad394, e394, hx394_0⟩ := Kd.at_string (Kd.R_reads' HO389.out).2.2 0 p394 q394
                                    cases e394
                                    have qi394 : (0 < t387.length) = True := eq_true (by omega)
                                    (try rw [show ((0 : Int)).toNat = 0 from rfl] at hx394_0)
                                    (try rw [Addr.add_zero'] at hx394_0)
                                    replace p394 := eq_true p394
                                    replace q394 := eq_true q394
                                    have p395 : 0 ≤ (x8_2 : Int) := of_decide_eq_true (by first | (with_reducible assumption) | assumption)
                                    have q395 : x8_2 < (l0.length : Int) := of_decide_eq_true (by first | (with_reducible assumption) | assumption)
                                    obtain ⟨ad395, e395, hx395_0⟩ := Kd.at_string HR0.out x8_2 p395 q395
                                    have hw395_0 := hx395_0
                                    obtain rfl : ad384 = ad395 := (by injection e395)
                                    replace hx395_0 := (HB.out.cell (World.block_lt_of_cell? w _ hx395_0)).trans hx395_0
                                    replace p395 := eq_true p395
                                    replace q395 := eq_true q395
                                    refine start_ (n := 25) (S := fun w' => w'.cell? ad394 = some (.string (rdOf ByteArray.empty t387 0)) ∧ w'.cell? (ad384.add (x8_2).toNat) = some (.string (rdOf ByteArray.empty l0 x8_2))) (ds := []) #[false, false, false, false, false, false, false, false, false, false, false, false, false, false, false, false, false, false, false, false, false, false, false, false, false] (by kernel_rfl) rfl rfl ⟨hx394_0, ((HB.out.cell (World.block_lt_of_cell? w _ hw395_0)).trans hw395_0)⟩ (fun hHeld => ?_); refine with_tabW escutcheonlaw9_FrameDead.tab11 escutcheonlaw9_FrameDead.bits11 (fun HT_ HW_ => ?_)
                                    generalize w30.drew = w31 at HO389 HI381 HB hx394_0 hx395_0 hHeld ⊢
                                    refine pure_ (i := 0) (N := some 68) (v := ?_) (a' := ?_) #[true, false, false, false, false, false, false, false, false, false, false, false, false, false, false, false, false, false, false, false, false, false, false, false, false] rfl rfl (any_of HT_.out (by kernel_rfl)) (fun _ _ _ h => h) (Or.inl ⟨by rfl, ?_⟩) ?_ ?_
                                    rotate_left
                                    · intro w'
                                      go_simp
                                      with_reducible rfl
                                    rotate_left
                                    · simp only [Act.put, List.setIfInBounds_toArray, List.set_cons_zero, List.set_cons_succ, i64_w, i32_w]
                                      rfl
                                    refine pure_ (i := 1) (N := some 69) (v := ?_) (a' := ?_) #[true, true, false, false, false, false, false, false, false, false, false, false, false, false, false, false, false, false, false, false, false, false, false, false, false] rfl rfl (any_of HT_.out (by kernel_rfl)) (fun _ _ _ h => h) (Or.inl ⟨by rfl, ?_⟩) ?_ ?_
                                    rotate_left
                                    · intro w'
                                      go_simp
                                      with_reducible rfl
                                    rotate_left
                                    · simp only [Act.put, List.setIfInBounds_toArray, List.set_cons_zero, List.set_cons_succ, i64_w, i32_w]
                                      rfl
                                    refine pure_ (i := 2) (N := some 70) (v := ?_) (a' := ?_) #[true, true, true, false, false, false, false, false, false, false, false, false, false, false, false, false, false, false, false, false, false, false, false, false, false] rfl rfl (any_of HT_.out (by kernel_rfl)) (fun _ _ _ h => h) (Or.inl ⟨by rfl, ?_⟩) ?_ ?_
                                    rotate_left
                                    · intro w'
                                      go_simp
                                      with_reducible rfl
                                    rotate_left
                                    · simp only [Act.put, List.setIfInBounds_toArray, List.set_cons_zero, List.set_cons_succ, i64_w, i32_w]
                                      rfl
                                    refine pure_ (i := 3) (N := some 71) (v := ?_) (a' := ?_) #[true, true, true, true, false, false, false, false, false, false, false, false, false, false, false, false, false, false, false, false, false, false, false, false, false] rfl rfl (any_of HT_.out (by kernel_rfl)) (fun _ _ _ h => h) (Or.inl ⟨by rfl, ?_⟩) ?_ ?_
                                    rotate_left
                                    · intro w'
                                      go_simp
                                      with_reducible rfl
                                    rotate_left
                                    · simp only [Act.put, List.setIfInBounds_toArray, List.set_cons_zero, List.set_cons_succ, i64_w, i32_w]
                                      rfl
                                    refine pure_ (i := 4) (N := some 72) (v := ?_) (a' := ?_) #[true, true, true, true, true, false, false, false, false, false, false, false, false, false, false, false, false, false, false, false, false, false, false, false, false] rfl rfl (any_of HT_.out (by kernel_rfl)) (fun _ _ _ h => h) (Or.inl ⟨by rfl, ?_⟩) ?_ ?_
                                    rotate_left
                                    · intro w'
                                      go_simp
                                      with_reducible rfl
                                    rotate_left
                                    · simp only [Act.put, List.setIfInBounds_toArray, List.set_cons_zero, List.set_cons_succ, i64_w, i32_w]
                                      rfl
                                    refine pure_ (i := 5) (N := some 73) (v := ?_) (a' := ?_) #[true, true, true, true, true, true, false, false, false, false, false, false, false, false, false, false, false, false, false, false, false, false, false, false, false] rfl rfl (any_of HT_.out (by kernel_rfl)) (fun _ _ _ h => h) (Or.inl ⟨by rfl, ?_⟩) ?_ ?_
                                    rotate_left
                                    · intro w'
                                      go_simp
                                      with_reducible rfl
                                    rotate_left
                                    · simp only [Act.put, List.setIfInBounds_toArray, List.set_cons_zero, List.set_cons_succ, i64_w, i32_w]
                                      rfl
                                    refine pure_ (i := 6) (N := some 74) (v := ?_) (a' := ?_) #[true, true, true, true, true, true, true, false, false, false, false, false, false, false, false, false, false, false, false, false, false, false, false, false, false] rfl rfl (any_of HT_.out (by kernel_rfl)) (fun _ _ _ h => h) (Or.inl ⟨by rfl, ?_⟩) ?_ ?_
                                    rotate_left
                                    · intro w'
                                      go_simp
                                      with_reducible rfl
                                    rotate_left
                                    · simp only [Act.put, List.setIfInBounds_toArray, List.set_cons_zero, List.set_cons_succ, i64_w, i32_w]
                                      rfl
                                    refine pure_ (i := 7) (N := some 75) (v := ?_) (a' := ?_) #[true, true, true, true, true, true, true, true, false, false, false, false, false, false, false, false, false, false, false, false, false, false, false, false, false] rfl rfl (any_of HT_.out (by kernel_rfl)) (fun _ _ _ h => h) (Or.inl ⟨by rfl, ?_⟩) ?_ ?_
                                    rotate_left
                                    · intro w'
                                      go_simp
                                      with_reducible rfl
                                    rotate_left
                                    · simp only [Act.put, List.setIfInBounds_toArray, List.set_cons_zero, List.set_cons_succ, i64_w, i32_w]
                                      rfl
                                    refine pure_ (i := 8) (N := some 76) (v := ?_) (a' := ?_) #[true, true, true, true, true, true, true, true, true, false, false, false, false, false, false, false, false, false, false, false, false, false, false, false, false] rfl rfl (any_of HT_.out (by kernel_rfl)) (fun _ _ _ h => h) (Or.inl ⟨by rfl, ?_⟩) ?_ ?_
                                    rotate_left
                                    · intro w'
                                      go_simp
                                      with_reducible rfl
                                    rotate_left
                                    · simp only [Act.put, List.setIfInBounds_toArray, List.set_cons_zero, List.set_cons_succ, i64_w, i32_w]
                                      rfl
                                    refine pure_ (i := 9) (N := some 77) (v := ?_) (a' := ?_) #[true, true, true, true, true, true, true, true, true, true, false, false, false, false, false, false, false, false, false, false, false, false, false, false, false] rfl rfl (any_of HT_.out (by kernel_rfl)) (fun _ _ _ h => h) (Or.inl ⟨by rfl, ?_⟩) ?_ ?_
                                    rotate_left
                                    · intro w'
                                      go_simp
                                      with_reducible rfl
                                    rotate_left
                                    · simp only [Act.put, List.setIfInBounds_toArray, List.set_cons_zero, List.set_cons_succ, i64_w, i32_w]
                                      rfl
                                    refine pure_ (i := 10) (N := some 78) (v := ?_) (a' := ?_) #[true, true, true, true, true, true, true, true, true, true, true, false, false, false, false, false, false, false, false, false, false, false, false, false, false] rfl rfl (any_of HT_.out (by kernel_rfl)) (fun _ _ _ h => h) (Or.inl ⟨by rfl, ?_⟩) ?_ ?_
                                    rotate_left
                                    · intro w'
                                      go_simp
                                      with_reducible rfl
                                    rotate_left
                                    · simp only [Act.put, List.setIfInBounds_toArray, List.set_cons_zero, List.set_cons_succ, i64_w, i32_w]
                                      rfl
                                    refine pure_ (i := 11) (N := some 79) (v := ?_) (a' := ?_) #[true, true, true, true, true, true, true, true, true, true, true, true, false, false, false, false, false, false, false, false, false, false, false, false, false] rfl rfl (any_of HT_.out (by kernel_rfl)) (fun _ _ _ h => h) (Or.inl ⟨by rfl, ?_⟩) ?_ ?_
                                    rotate_left
                                    · intro w'
                                      go_simp
                                      with_reducible rfl
                                    rotate_left
                                    · simp only [Act.put, List.setIfInBounds_toArray, List.set_cons_zero, List.set_cons_succ, i64_w, i32_w]
                                      rfl
                                    refine pure_ (i := 12) (N := some 80) (v := ?_) (a' := ?_) #[true, true, true, true, true, true, true, true, true, true, true, true, true, false, false, false, false, false, false, false, false, false, false, false, false] rfl rfl (any_of HT_.out (by kernel_rfl)) (fun _ _ _ h => h) (Or.inl ⟨by rfl, ?_⟩) ?_ ?_
                                    rotate_left
                                    · intro w'
                                      go_simp
                                      with_reducible rfl
                                    rotate_left
                                    · simp only [Act.put, List.setIfInBounds_toArray, List.set_cons_zero, List.set_cons_succ, i64_w, i32_w]
                                      rfl
                                    refine pure_ (i := 13) (N := some 81) (v := ?_) (a' := ?_) #[true, true, true, true, true, true, true, true, true, true, true, true, true, true, false, false, false, false, false, false, false, false, false, false, false] rfl rfl (any_of HT_.out (by kernel_rfl)) (fun _ _ _ h => h) (Or.inl ⟨by rfl, ?_⟩) ?_ ?_
                                    rotate_left
                                    · intro w'
                                      go_simp
                                      with_reducible rfl
                                    rotate_left
                                    · simp only [Act.put, List.setIfInBounds_toArray, List.set_cons_zero, List.set_cons_succ, i64_w, i32_w]
                                      rfl
                                    refine pure_ (i := 15) (N := some 83) (v := ?_) (a' := ?_) #[true, true, true, true, true, true, true, true, true, true, true, true, true, true, false, true, false, false, false, false, false, false, false, false, false] rfl rfl (any_of HT_.out (by kernel_rfl)) (fun _ _ _ h => h) (Or.inl ⟨by rfl, ?_⟩) ?_ ?_
                                    rotate_left
                                    · intro w'
                                      go_simp
                                      with_reducible rfl
                                    rotate_left
                                    · simp only [Act.put, List.setIfInBounds_toArray, List.set_cons_zero, List.set_cons_succ, i64_w, i32_w]
                                      rfl
                                    refine pure_ (i := 16) (N := some 84) (v := ?_) (a' := ?_) #[true, true, true, true, true, true, true, true, true, true, true, true, true, true, false, true, true, false, false, false, false, false, false, false, false] rfl rfl (any_of HT_.out (by kernel_rfl)) (fun _ _ _ h => h) (Or.inl ⟨by rfl, ?_⟩) ?_ ?_
                                    rotate_left
                                    · intro w'
                                      go_simp
                                      with_reducible rfl
                                    rotate_left
                                    · simp only [Act.put, List.setIfInBounds_toArray, List.set_cons_zero, List.set_cons_succ, i64_w, i32_w]
                                      rfl
                                    refine pure_ (i := 17) (N := some 85) (v := ?_) (a' := ?_) #[true, true, true, true, true, true, true, true, true, true, true, true, true, true, false, true, true, true, false, false, false, false, false, false, false] rfl rfl (any_of HT_.out (by kernel_rfl)) (fun _ _ _ h => h) (Or.inl ⟨by rfl, ?_⟩) ?_ ?_
                                    rotate_left
                                    · intro w'
                                      go_simp
                                      with_reducible rfl
                                    rotate_left
                                    · simp only [Act.put, List.setIfInBounds_toArray, List.set_cons_zero, List.set_cons_succ, i64_w, i32_w]
                                      rfl
                                    refine take_ (i := 14) (N := some 82) (v := ?_) (a' := ?_) #[true, true, true, true, true, true, true, true, true, true, true, true, true, true, true, true, true, true, false, false, false, false, false, false, false] rfl rfl (take_ofW HT_.out HW_.out (by kernel_rfl)) (fun _ _ _ h => h) (Or.inl ⟨by rfl, ?_⟩) hHeld ?_ ?_
                                    rotate_left
                                    · rintro w' ⟨s0, s1⟩
                                      go_simp
                                      with_reducible rfl
                                    rotate_left
                                    · simp only [Act.put, List.setIfInBounds_toArray, List.set_cons_zero, List.set_cons_succ, i64_w, i32_w]
                                      rfl
                                    refine take_ (i := 18) (N := some 86) (v := ?_) (a' := ?_) #[true, true, true, true, true, true, true, true, true, true, true, true, true, true, true, true, true, true, true, false, false, false, false, false, false] rfl rfl (take_ofW HT_.out HW_.out (by kernel_rfl)) (fun _ _ _ h => h) (Or.inl ⟨by rfl, ?_⟩) hHeld ?_ ?_
                                    rotate_left
                                    · rintro w' ⟨s0, s1⟩
                                      go_simp
                                      with_reducible rfl
                                    rotate_left
                                    · simp only [Act.put, List.setIfInBounds_toArray, List.set_cons_zero, List.set_cons_succ, i64_w, i32_w]
                                      rfl
                                    refine pure_ (i := 19) (N := some 87) (v := ?_) (a' := ?_) #[true, true, true, true, true, true, true, true, true, true, true, true, true, true, true, true, true, true, true, true, false, false, false, false, false] rfl rfl (any_of HT_.out (by kernel_rfl)) (fun _ _ _ h => h) (Or.inl ⟨by rfl, ?_⟩) ?_ ?_
                                    rotate_left
                                    · intro w'
                                      go_simp
                                      with_reducible rfl
                                    rotate_left
                                    · simp only [Act.put, List.setIfInBounds_toArray, List.set_cons_zero, List.set_cons_succ, i64_w, i32_w]
                                      rfl
                                    refine pure_ (i := 20) (N := some 88) (v := ?_) (a' := ?_) #[true, true, true, true, true, true, true, true, true, true, true, true, true, true, true, true, true, true, true, true, true, false, false, false, false] rfl rfl (any_of HT_.out (by kernel_rfl)) (fun _ _ _ h => h) (Or.inl ⟨by rfl, ?_⟩) ?_ ?_
                                    rotate_left
                                    · intro w'
                                      go_simp
                                      with_reducible rfl
                                    rotate_left
                                    · simp only [Act.put, List.setIfInBounds_toArray, List.set_cons_zero, List.set_cons_succ, i64_w, i32_w]
                                      rfl
                                    refine pure_ (i := 21) (N := some 89) (v := ?_) (a' := ?_) #[true, true, true, true, true, true, true, true, true, true, true, true, true, true, true, true, true, true, true, true, true, true, false, false, false] rfl rfl (any_of HT_.out (by kernel_rfl)) (fun _ _ _ h => h) (Or.inl ⟨by rfl, ?_⟩) ?_ ?_
                                    rotate_left
                                    · intro w'
                                      go_simp
                                      with_reducible rfl
                                    rotate_left
                                    · simp only [Act.put, List.setIfInBounds_toArray, List.set_cons_zero, List.set_cons_succ, i64_w, i32_w]
                                      rfl
                                    refine pure_ (i := 22) (N := some 90) (v := ?_) (a' := ?_) #[true, true, true, true, true, true, true, true, true, true, true, true, true, true, true, true, true, true, true, true, true, true, true, false, false] rfl rfl (any_of HT_.out (by kernel_rfl)) (fun _ _ _ h => h) (Or.inl ⟨by rfl, ?_⟩) ?_ ?_
                                    rotate_left
                                    · intro w'
                                      go_simp
                                      with_reducible rfl
                                    rotate_left
                                    · simp only [Act.put, List.setIfInBounds_toArray, List.set_cons_zero, List.set_cons_succ, i64_w, i32_w]
                                      rfl
                                    refine one_ (i := 23) (N := some 91) #[true, true, true, true, true, true, true, true, true, true, true, true, true, true, true, true, true, true, true, true, true, true, true, true, false] rfl rfl (one_of HT_.out (by kernel_rfl)) (by decide) (fun K hK => ?_)
                                    refine goes_ Try.func16 (by kernel_rfl) rfl #[.pointer (some ⟨gb381, 0, none⟩)] (by rfl) rfl rfl (by (try simp only [List.map_toArray, List.map_cons, List.map_nil]); first | done | rfl | (simp only [List.length_drop, List.length_take]; rfl)) ?_
                                    with_reducible refine (frame_Reader_Dead.calls gb381 t391 t392 t393 false t397 t398 t399 w _ ?side1 ?side2 A27.out).mono ?_
                                    (case side1 => repeat (first | (with_reducible first | exact HI381.out | apply IsS34.alloc | apply IsS34.drewN | apply IsS34.drew | apply IsS34.set_0 | apply IsS34.set_1 | apply IsS34.set_2) | exact HI381.out))
                                    (case side2 => repeat (first | (with_reducible first | exact HB.out | apply below_alloc | apply pw_below_drewN | apply below_drew1 | refine below_set ?_ (IsS34.ge HI381.out)) | exact HB.out))
                                    rintro e w33 ⟨rfl, hi, hb, hk⟩
                                    have HS0_ := keep_cell hk (hHeld.1) (by first | (rw [add_block]; exact Kd.own_blk (IsS34.own_ne HI381.out HO389.out (by decide))) | (show (Addr.add _ _).block ≠ _; rw [add_block]; exact Kd.own_blk (IsS34.own_ne HI381.out HO389.out (by decide))) | exact Kd.own_blk (IsS34.own_ne HI381.out HO389.out (by decide)))
                                    refine ⟨_, rfl, ?_⟩
                                    have n0_ := Aside0.mk (Kd.R_mono (Kd.R_keep (IsS34.apart (show IsS34 w _ gb381 t391 t392 t393 from by repeat (first | (with_reducible first | exact HI381.out | apply IsS34.alloc | apply IsS34.drewN | apply IsS34.drew | apply IsS34.set_0 | apply IsS34.set_1 | apply IsS34.set_2) | exact HI381.out)) (by (with_reducible repeat (first | apply Kd.R_alloc | apply Kd.R_drewN | apply Kd.R_drew)); exact HO389.out) (by decide)) hk (fun _ h => h.2)) (fun _ h => h.1))
                                    have n1_ := Aside0.mk (hb)
                                    have n2_ := Aside0.mk (hi)
                                    clear HO389
                                    clear HB
                                    clear HI381
                                    have HO389 := n0_
                                    have HB := n1_
                                    have HI381 := n2_
                                    clear n0_ n1_ n2_
                                    (try clear hb)
                                    (try clear hb2)
                                    (try clear hk)
                                    (try clear hi)
                                    refine hK.out _ _ ⟨HS0_, ((HB.out.cell (World.block_lt_of_cell? w _ hw395_0)).trans hw395_0)⟩ (fun hHeld => ?_)
                                    clear hK K
                                    refine norm_ (a' := ?_) ?_ ?_
                                    rotate_left
                                    · show Act.put _ (some 91) _ = _
                                      simp only [Act.put, List.setIfInBounds_toArray, List.set_cons_zero, List.set_cons_succ, i64_w, i32_w]
                                      rfl
                                    refine pure_ (i := 24) (N := some 92) (v := ?_) (a' := ?_) #[true, true, true, true, true, true, true, true, true, true, true, true, true, true, true, true, true, true, true, true, true, true, true, true, true] rfl rfl (any_of HT_.out (by kernel_rfl)) (fun _ _ _ h => h) (Or.inl ⟨by rfl, ?_⟩) ?_ ?_
                                    rotate_left
                                    · intro w'
                                      go_simp
                                      with_reducible rfl
                                    rotate_left
                                    · simp only [Act.put, List.setIfInBounds_toArray, List.set_cons_zero, List.set_cons_succ, i64_w, i32_w]
                                      rfl
                                    refine done_ (done_of HT_.out (by kernel_rfl)) ?_
                                    try go_wp2
                                    go_roundg kj13
                                    case measure => have := HJ3.out; have := HK2.out; have := HJ13.out; omega
                                    case rel => exact ⟨(wrap64 (x8_2 + 1)), (t397), (t398), (t399), (by first | rfl | (simp; done) | (simp [*]; done)), H', ⟨by have := HJ3.out; have := HK2.out; have := HJ13.out; omega⟩, ⟨by repeat (first | (with_reducible first | exact HI381.out | apply IsS34.alloc | apply IsS34.drewN | apply IsS34.drew | apply IsS34.set_0 | apply IsS34.set_1 | apply IsS34.set_2) | exact HI381.out)⟩, ⟨by repeat (first | (with_reducible first | exact HB.out | apply below_alloc | apply pw_below_drewN | apply below_drew1 | refine below_set ?_ (IsS34.ge HI381.out)) | exact HB.out)⟩⟩
                                · rw [if_neg c26] at H
                                  exact absurd H (by simp)
                              · rw [if_neg c25] at H
                                exact absurd H (by simp)
                            · rw [if_neg c24] at H
                              exact absurd H (by simp)
                          · replace c23 := Bool.eq_false_iff.mpr c23
                            subst c23
                            have H1 : (none) = some r := by rw [if_neg (show ¬ (false = true) by decide)] at H; exact H
                            clear H
                            have H := H1
                            clear H1
                            exact absurd H (by simp)
                        · replace c22 := Bool.eq_false_iff.mpr c22
                          subst c22
                          have H1 : (none) = some r := by rw [if_neg (show ¬ (false = true) by decide)] at H; exact H
                          clear H
                          have H := H1
                          clear H1
                          exact absurd H (by simp)
                      · rw [if_neg c19] at H
                        exact absurd H (by simp)
                    · rw [if_neg c18] at H
                      exact absurd H (by simp)
            · rw [if_neg c13] at H
              have c13b0 : decide (x8_2 < (l0.length : Int)) = false := decide_eq_false c13
              clear c13
              have HC34 := Aside0.mk H
              clear H
              go_upto_if 95 with (fail)
              go_cut [13] (fun v13 wc => ∃ (kq : Nat) (x13_33 : Int), v13 = .int .i64 x13_33 ∧ Aside0 (escutcheonlaw9_FrameDead.j3 kq l2 x13_33 x382000_2 x382001_2 x382002_2 = some r) ∧ Aside0 (kq ≤ k2) ∧ Aside0 (IsS34 w wc gb381 x382000_2 x382001_2 x382002_2) ∧ Aside0 (Below w.heap.size w wc))
              case first =>
                have H := HC34.out
                clear HC34
                by_cases c35 : (Go.bits .and .i64 a1 1) = 1
                · rw [if_pos c35] at H
                  have c35b0 : ((Go.bits .and .i64 a1 1) == 1) = true := beq_iff_eq.mpr c35
                  have c35b1 : ((Go.bits .and .i64 a1 1) != 1) = false := bne_eq_false_iff_eq.mpr c35
                  clear c35
                  (first | rw [c35b0] | (simp only [i64_w, i32_w]; rw [c35b0]) | skip)
                  have H' := Aside0.mk H
                  clear H
                  go_wp2
                  go_meet
                  case rel => exact ⟨_, (wrap64 (2201 + (Go.bits .and .i64 (a1 / 2) 1023))), (by first | rfl | (simp; done) | (simp [*]; done)), H', ⟨by have := HJ3.out; have := HK2.out; first | omega | exact Nat.le_refl _⟩, ⟨by repeat (first | (with_reducible first | exact HI381.out | apply IsS34.alloc | apply IsS34.drewN | apply IsS34.drew | apply IsS34.set_0 | apply IsS34.set_1 | apply IsS34.set_2) | exact HI381.out)⟩, ⟨by repeat (first | (with_reducible first | exact HB.out | apply below_alloc | apply pw_below_drewN | apply below_drew1 | refine below_set ?_ (IsS34.ge HI381.out)) | exact HB.out)⟩⟩
                · rw [if_neg c35] at H
                  have c35b0 : ((Go.bits .and .i64 a1 1) == 1) = false := beq_eq_false_iff_ne.mpr c35
                  have c35b1 : ((Go.bits .and .i64 a1 1) != 1) = true := bne_iff_ne.mpr c35
                  (first | rw [c35b0] | (simp only [i64_w, i32_w]; rw [c35b0]) | skip)
                  have H' := Aside0.mk H
                  clear H
                  go_wp2
                  go_meet
                  case rel => exact ⟨_, (0), (by first | rfl | (simp; done) | (simp [*]; done)), H', ⟨by have := HJ3.out; have := HK2.out; first | omega | exact Nat.le_refl _⟩, ⟨by repeat (first | (with_reducible first | exact HI381.out | apply IsS34.alloc | apply IsS34.drewN | apply IsS34.drew | apply IsS34.set_0 | apply IsS34.set_1 | apply IsS34.set_2) | exact HI381.out)⟩, ⟨by repeat (first | (with_reducible first | exact HB.out | apply below_alloc | apply pw_below_drewN | apply below_drew1 | refine below_set ?_ (IsS34.ge HI381.out)) | exact HB.out)⟩⟩
              case rest =>
                clear HC34
                try clear c1
                try clear c2
                try clear p2
                try clear c3
                try clear p3
                try clear q3
                try clear hx3
                try clear qi3
                try clear c5
                try clear c5b0
                try clear c5b1
                try clear c6
                try clear c6b0
                try clear c6b1
                try clear p6
                try clear c7
                try clear c9
                try clear c10
                try clear c12
                try clear c13
                try clear c13b0
                try clear c15
                try clear c15b0
                try clear c16
                try clear c16b0
                try clear c16b1
                try clear c17
                try clear c18
                try clear c18b0
                try clear c19
                try clear c19b0
                try clear c22
                try clear c23
                try clear c24
                try clear c24b0
                try clear c24b1
                try clear c25
                try clear c25b0
                try clear c25b1
                try clear c26
                try clear c26b0
                try clear c26b1
                try clear c28
                try clear c35
                try clear c35b0
                try clear c35b1
                try clear hx382_0
                try clear hx383_0
                try clear hx384_0
                try clear hx394_0
                try clear hx395_0
                try clear p2
                try clear p3
                try clear p382
                try clear p383
                try clear p384
                try clear p394
                try clear p395
                try clear q3
                try clear q382
                try clear q383
                try clear q384
                try clear q394
                try clear q395
                obtain ⟨kq, x13_33, rfl, HA, HJ33, HI381, HB⟩ := hcut
                cases kq with
                | zero => exact absurd HA.out (by simp [escutcheonlaw9_FrameDead.j3])
                | succ kj33 =>
                  have H := HA.out
                  clear HA
                  simp only [escutcheonlaw9_FrameDead.j3] at H
                  obtain ⟨y400, hy400⟩ : ∃ y_ : List Int, y_ = (([(x13_33 / 256) % 256, (x13_33) % 256] : List Int)) := ⟨_, rfl⟩
                  replace H : ((frame_Reader_Feed.f kj33 x382000_2 x382001_2 x382002_2 (strOfNums y400)).bind fun bt403 => (if bt403.2.1 = true then (none) else (if (bt403.1.length : Int) > 0 then (none) else ((frame_Reader_Dead.f bt403.2.2.1 bt403.2.2.2.1 bt403.2.2.2.2).bind fun bt410 => (escutcheonlaw9_FrameDead.j4 kj33 l2 (!bt410.1) bt410.2.1 bt410.2.2.1 bt410.2.2.2))))) = some r := by first | (rw [hy400]; with_reducible exact H) | (have H2_ := (Option.bind_some _ _).symm.trans H; rw [hy400]; with_reducible exact H2_) | (have H2_ := (Option.bind_some _ _).symm.trans H; with_reducible exact H2_) | with_reducible exact H | (rw [hy400]; exact H) | exact H
                  have Ny400 := Aside0.mk hy400
                  clear hy400
                  replace H := Option.bind_eq_some_iff.mp H
                  obtain ⟨⟨t403, t406, t407, t408, t409⟩, A360, H⟩ := H
                  replace H : (if t406 = true then (none) else (if (t403.length : Int) > 0 then (none) else ((frame_Reader_Dead.f t407 t408 t409).bind fun bt410 => (escutcheonlaw9_FrameDead.j4 kj33 l2 (!bt410.1) bt410.2.1 bt410.2.2.1 bt410.2.2.2)))) = some r := H
                  have A36 := Aside0.mk A360
                  clear A360
                  have HC37 := Aside0.mk H
                  clear H
                  go_upto_region 17 with (first | ((with_reducible refine gate_dst (N := 107) rfl ?_); (try (refine gate_guard (by rfl) ?_; dsimp only)); refine Kd.R_lit (Kd.int .u8) _ 5 ?hg (N := 107) ?hd (xs := ([(x13_33 / 256) % 256, (x13_33) % 256] : List Int)) (inner := [.int .u8 ((x13_33 / 256) % 256), .int .u8 ((x13_33) % 256)]) (ok := fun _ => True) (okp := fun _ => True) ?hr ?hp (fun _ hk => hk) trivial (Below.refl _ _) (Nat.le_refl _) (by simp) ?_; (case hd => rfl); (case hg => rfl); (case hr => first | (go_simp; done) | (go_simp; rfl)); (case hp => exact (Reps.one (show Kd.M (Kd.int .u8) _ _ _ ((x13_33 / 256) % 256) [.int .u8 ((x13_33 / 256) % 256)] from rfl) (Reps.one (show Kd.M (Kd.int .u8) _ _ _ ((x13_33) % 256) [.int .u8 ((x13_33) % 256)] from rfl) (Reps.none _ _)))); intro v401 w38 ho39 hb hg_ hnew_; clear hg_ hnew_; (first | rw [← Ny400.out] at ho39 | (simp only [Int.reduceToNat] at ho39; rw [← Ny400.out] at ho39)); have n0_ := Aside0.mk (Kd.R_lower ho39 (below_size (by repeat (first | (with_reducible first | exact HB.out | apply below_alloc | apply pw_below_drewN | apply below_drew1 | refine below_set ?_ (IsS34.ge HI381.out)) | exact HB.out)))); have n1_ := Aside0.mk (IsS34.below (by repeat (first | (with_reducible first | exact HI381.out | apply IsS34.alloc | apply IsS34.drewN | apply IsS34.drew | apply IsS34.set_0 | apply IsS34.set_1 | apply IsS34.set_2) | exact HI381.out)) hb); have n2_ := Aside0.mk (below_step (by repeat (first | (with_reducible first | exact HB.out | apply below_alloc | apply pw_below_drewN | apply below_drew1 | refine below_set ?_ (IsS34.ge HI381.out)) | exact HB.out)) hb); clear HI381; clear HB; have HO402 := n0_; have HI381 := n1_; have HB := n2_; clear n0_ n1_ n2_; clear hb ho39; have hcv40 := own_string (P := Try.prog) Try.underlying26 Try.underlying5 Try.underlying9 (Kd.own_of_R HO402.out); try (have hcv40q := fun m_ : Nat => own_string (P := Try.prog) Try.underlying26 Try.underlying5 Try.underlying9 (Kd.own_of_R (Kd.R_drewN HO402.out m_)))) | ((with_reducible refine gate_callee (f := 12) rfl ?_); refine goesL_ (some 109) rfl rfl Try.func12 (by kernel_rfl) rfl #[.pointer (some ⟨gb381, 0, none⟩), .string (strOfNums y400)] rfl (by (try simp only [List.map_toArray, List.map_cons, List.map_nil]); first | done | rfl | (simp only [List.length_drop, List.length_take]; rfl)) ?_; (with_reducible refine (frame_Reader_Feed.calls kj33 gb381 x382000_2 x382001_2 x382002_2 (strOfNums y400) t403 t406 t407 t408 t409 w _ ?side1 ?side2 A36.out).mono ?_); (case side1 => repeat (first | (with_reducible first | exact HI381.out | apply IsS34.alloc | apply IsS34.drewN | apply IsS34.drew | apply IsS34.set_0 | apply IsS34.set_1 | apply IsS34.set_2) | exact HI381.out)); (case side2 => repeat (first | (with_reducible first | exact HB.out | apply below_alloc | apply pw_below_drewN | apply below_drew1 | refine below_set ?_ (IsS34.ge HI381.out)) | exact HB.out)); rintro e w41 ⟨v404, rfl, ho0, hi, hb, hk⟩; refine ⟨_, rfl, ?_⟩; have n0_ := Aside0.mk (Kd.R_mono (Kd.R_keep (IsS34.apart (show IsS34 w _ gb381 x382000_2 x382001_2 x382002_2 from by repeat (first | (with_reducible first | exact HI381.out | apply IsS34.alloc | apply IsS34.drewN | apply IsS34.drew | apply IsS34.set_0 | apply IsS34.set_1 | apply IsS34.set_2) | exact HI381.out)) (by (with_reducible repeat (first | apply Kd.R_alloc | apply Kd.R_drewN | apply Kd.R_drew)); exact HO402.out) (by decide)) hk (fun _ h => h.2)) (fun _ h => h.1)); have n1_ := Aside0.mk (Kd.R_lower ho0 (below_size (by repeat (first | (with_reducible first | exact HB.out | apply below_alloc | apply pw_below_drewN | apply below_drew1 | refine below_set ?_ (IsS34.ge HI381.out)) | exact HB.out)))); have n2_ := Aside0.mk (hb); have n3_ := Aside0.mk (hi); clear HO402; clear HB; clear HI381; have HO402 := n0_; have HO405 := n1_; have HB := n2_; have HI381 := n3_; clear n0_ n1_ n2_ n3_; (try clear hb); (try clear hb2); (try clear hk); (try clear hi); (try clear ho0)))
                  (try simp only [Act.put, List.setIfInBounds_toArray, List.set_cons_zero, List.set_cons_succ])
                  go_cut [122] (fun v122 wc => ∃ (kq : Nat) (x122_36 : Bool) (x382000_36 : ByteArray) (x382001_36 : Bool) (x382002_36 : Int), v122 = .bool x122_36 ∧ Aside0 (escutcheonlaw9_FrameDead.j4 kq l2 x122_36 x382000_36 x382001_36 x382002_36 = some r) ∧ Aside0 (kq ≤ kj33) ∧ Aside0 (IsS34 w wc gb381 x382000_36 x382001_36 x382002_36) ∧ Aside0 (Below w.heap.size w wc))
                  case first =>
                    have H := HC37.out
                    clear HC37
                    by_cases c42 : t406 = true
                    · subst c42
                      have H1 : (none) = some r := by rw [if_pos rfl] at H; exact H
                      clear H
                      have H := H1
                      clear H1
                      exact absurd H (by simp)
                    · replace c42 := Bool.eq_false_iff.mpr c42
                      subst c42
                      have H1 : (if (t403.length : Int) > 0 then (none) else ((frame_Reader_Dead.f t407 t408 t409).bind fun bt410 => (escutcheonlaw9_FrameDead.j4 kj33 l2 (!bt410.1) bt410.2.1 bt410.2.2.1 bt410.2.2.2))) = some r := by rw [if_neg (show ¬ (false = true) by decide)] at H; exact H
                      clear H
                      have H := H1
                      clear H1
                      by_cases c43 : (t403.length : Int) > 0
                      · rw [if_pos c43] at H
                        exact absurd H (by simp)
                      · rw [if_neg c43] at H
                        have c43b0 : decide (0 < (t403.length : Int)) = false := decide_eq_false c43
                        have c43b1 : decide (0 < t403.length) = false := decide_eq_false (by omega)
                        clear c43
                        (first | rw [c43b0] | (simp only [i64_w, i32_w]; rw [c43b0]) | skip)
                        replace H := Option.bind_eq_some_iff.mp H
                        obtain ⟨⟨t410, t411, t412, t413⟩, A440, H⟩ := H
                        replace H : (escutcheonlaw9_FrameDead.j4 kj33 l2 (!t410) t411 t412 t413) = some r := H
                        have A44 := Aside0.mk A440
                        clear A440
                        have H' := Aside0.mk H
                        clear H
                        obtain ⟨Ao45, co45, eo45⟩ := Kd.R_slice HO405.out
                        subst eo45
                        go_wp2_with (first | (go_at_call 16; (with_reducible refine (frame_Reader_Dead.calls gb381 t407 t408 t409 t410 t411 t412 t413 w _ ?side1 ?side2 A44.out).mono ?_); (case side1 => repeat (first | (with_reducible first | exact HI381.out | apply IsS34.alloc | apply IsS34.drewN | apply IsS34.drew | apply IsS34.set_0 | apply IsS34.set_1 | apply IsS34.set_2) | exact HI381.out)); (case side2 => repeat (first | (with_reducible first | exact HB.out | apply below_alloc | apply pw_below_drewN | apply below_drew1 | refine below_set ?_ (IsS34.ge HI381.out)) | exact HB.out)); rintro e w46 ⟨rfl, hi, hb, hk⟩; have n0_ := Aside0.mk (Kd.R_mono (Kd.R_keep (IsS34.apart (show IsS34 w _ gb381 t407 t408 t409 from by repeat (first | (with_reducible first | exact HI381.out | apply IsS34.alloc | apply IsS34.drewN | apply IsS34.drew | apply IsS34.set_0 | apply IsS34.set_1 | apply IsS34.set_2) | exact HI381.out)) (by (with_reducible repeat (first | apply Kd.R_alloc | apply Kd.R_drewN | apply Kd.R_drew)); exact HO402.out) (by decide)) hk (fun _ h => h.2)) (fun _ h => h.1)); have n1_ := Aside0.mk (Kd.R_mono (Kd.R_keep (IsS34.apart (show IsS34 w _ gb381 t407 t408 t409 from by repeat (first | (with_reducible first | exact HI381.out | apply IsS34.alloc | apply IsS34.drewN | apply IsS34.drew | apply IsS34.set_0 | apply IsS34.set_1 | apply IsS34.set_2) | exact HI381.out)) (by (with_reducible repeat (first | apply Kd.R_alloc | apply Kd.R_drewN | apply Kd.R_drew)); exact HO405.out) (by decide)) hk (fun _ h => h.2)) (fun _ h => h.1)); have n2_ := Aside0.mk (hb); have n3_ := Aside0.mk (hi); clear HO402; clear HO405; clear HB; clear HI381; have HO402 := n0_; have HO405 := n1_; have HB := n2_; have HI381 := n3_; clear n0_ n1_ n2_ n3_; (try clear hb); (try clear hb2); (try clear hk); (try clear hi)))
                        go_meet
                        case rel => exact ⟨_, (!t410), (t411), (t412), (t413), (by first | rfl | (simp; done) | (simp [*]; done)), H', ⟨by have := HJ3.out; have := HK2.out; have := HJ33.out; first | omega | exact Nat.le_refl _⟩, ⟨by repeat (first | (with_reducible first | exact HI381.out | apply IsS34.alloc | apply IsS34.drewN | apply IsS34.drew | apply IsS34.set_0 | apply IsS34.set_1 | apply IsS34.set_2) | exact HI381.out)⟩, ⟨by repeat (first | (with_reducible first | exact HB.out | apply below_alloc | apply pw_below_drewN | apply below_drew1 | refine below_set ?_ (IsS34.ge HI381.out)) | exact HB.out)⟩⟩
                  case rest =>
                    clear HC37
                    try clear c1
                    try clear c2
                    try clear p2
                    try clear c3
                    try clear p3
                    try clear q3
                    try clear hx3
                    try clear qi3
                    try clear c4
                    try clear hcv4
                    try clear c5
                    try clear c5b0
                    try clear c5b1
                    try clear c6
                    try clear c6b0
                    try clear c6b1
                    try clear p6
                    try clear c7
                    try clear c9
                    try clear c10
                    try clear c12
                    try clear c13
                    try clear c13b0
                    try clear c15
                    try clear c15b0
                    try clear c16
                    try clear c16b0
                    try clear c16b1
                    try clear c17
                    try clear c18
                    try clear c18b0
                    try clear c19
                    try clear c19b0
                    try clear c22
                    try clear c23
                    try clear c24
                    try clear c24b0
                    try clear c24b1
                    try clear c25
                    try clear c25b0
                    try clear c25b1
                    try clear c26
                    try clear c26b0
                    try clear c26b1
                    try clear c28
                    try clear c35
                    try clear c35b0
                    try clear c35b1
                    try clear p38
                    try clear q38
                    try clear hx38
                    try clear p39
                    try clear q39
                    try clear hx39
                    try clear qi39
                    try clear hcv40
                    try clear c42
                    try clear c43
                    try clear c43b0
                    try clear c43b1
                    try clear hx382_0
                    try clear hx383_0
                    try clear hx384_0
                    try clear hx394_0
                    try clear hx395_0
                    try clear p2
                    try clear p3
                    try clear p382
                    try clear p383
                    try clear p384
                    try clear p394
                    try clear p395
                    try clear p6
                    try clear q3
                    try clear q382
                    try clear q383
                    try clear q384
                    try clear q394
                    try clear q395
                    obtain ⟨kq, x122_36, x382000_36, x382001_36, x382002_36, rfl, HA, HJ36, HI381, HB⟩ := hcut
                    cases kq with
                    | zero => exact absurd HA.out (by simp [escutcheonlaw9_FrameDead.j4])
                    | succ kj36 =>
                      have H := HA.out
                      clear HA
                      simp only [escutcheonlaw9_FrameDead.j4] at H
                      by_cases c47 : x122_36 = true
                      · subst c47
                        have H1 : (none) = some r := by rw [if_pos rfl] at H; exact H
                        clear H
                        have H := H1
                        clear H1
                        exact absurd H (by simp)
                      · replace c47 := Bool.eq_false_iff.mpr c47
                        subst c47
                        have H1 : (escutcheonlaw9_FrameDead.l1 kj36 l2 0 x382000_36 x382001_36 x382002_36) = some r := by rw [if_neg (show ¬ (false = true) by decide)] at H; exact H
                        clear H
                        have H := H1
                        clear H1
                        have H' := Aside0.mk H
                        clear H
                        go_wp2
                        go_loopg [16] kj36 (fun kq v16 w' => ∃ (x16_5 : Int) (x382000_5 : ByteArray) (x382001_5 : Bool) (x382002_5 : Int), v16 = .int .i64 x16_5 ∧ Aside0 (escutcheonlaw9_FrameDead.l1 kq l2 x16_5 x382000_5 x382001_5 x382002_5 = some r) ∧ Aside0 (kq ≤ kj36) ∧ Aside0 (IsS34 w w' gb381 x382000_5 x382001_5 x382002_5) ∧ Aside0 (Below w.heap.size w w'))
                        case atStart => exact ⟨(0), (x382000_36), (x382001_36), (x382002_36), (by first | rfl | (simp; done) | (simp [*]; done)), H', ⟨Nat.le_refl _⟩, ⟨by repeat (first | (with_reducible first | exact HI381.out | apply IsS34.alloc | apply IsS34.drewN | apply IsS34.drew | apply IsS34.set_0 | apply IsS34.set_1 | apply IsS34.set_2) | exact HI381.out)⟩, ⟨by repeat (first | (with_reducible first | exact HB.out | apply below_alloc | apply pw_below_drewN | apply below_drew1 | refine below_set ?_ (IsS34.ge HI381.out)) | exact HB.out)⟩⟩
                        case round =>
                          clear H'
                          try clear c1
                          try clear c2
                          try clear p2
                          try clear c3
                          try clear p3
                          try clear q3
                          try clear hx3
                          try clear qi3
                          try clear c4
                          try clear hcv4
                          try clear c5
                          try clear c5b0
                          try clear c5b1
                          try clear c6
                          try clear c6b0
                          try clear c6b1
                          try clear p6
                          try clear c7
                          try clear c9
                          try clear c10
                          try clear c12
                          try clear c13
                          try clear c13b0
                          try clear c15
                          try clear c15b0
                          try clear c16
                          try clear c16b0
                          try clear c16b1
                          try clear c17
                          try clear c18
                          try clear c18b0
                          try clear c19
                          try clear c19b0
                          try clear c22
                          try clear c23
                          try clear c24
                          try clear c24b0
                          try clear c24b1
                          try clear c25
                          try clear c25b0
                          try clear c25b1
                          try clear c26
                          try clear c26b0
                          try clear c26b1
                          try clear c28
                          try clear c35
                          try clear c35b0
                          try clear c35b1
                          try clear p38
                          try clear q38
                          try clear hx38
                          try clear p39
                          try clear q39
                          try clear hx39
                          try clear qi39
                          try clear hcv40
                          try clear c42
                          try clear c43
                          try clear c43b0
                          try clear c43b1
                          try clear c47
                          try clear hx382_0
                          try clear hx383_0
                          try clear hx384_0
                          try clear hx394_0
                          try clear hx395_0
                          try clear p2
                          try clear p3
                          try clear p38
                          try clear p382
                          try clear p383
                          try clear p384
                          try clear p39
                          try clear p394
                          try clear p395
                          try clear p6
                          try clear q3
                          try clear q38
                          try clear q382
                          try clear q383
                          try clear q384
                          try clear q39
                          try clear q394
                          try clear q395
                          obtain ⟨x16_5, x382000_5, x382001_5, x382002_5, rfl, HA, HK5, HI381, HB⟩ := hrel
                          cases gk with
                          | zero => exact absurd HA.out (by simp [escutcheonlaw9_FrameDead.l1])
                          | succ k5 =>
                            have H := HA.out
                            clear HA
                            simp only [escutcheonlaw9_FrameDead.l1] at H
                            by_cases c48 : x16_5 < (l2.length : Int)
                            · rw [if_pos c48] at H
                              have c48b0 : decide (x16_5 < (l2.length : Int)) = true := decide_eq_true c48
                              clear c48
                              by_cases c49 : 0 ≤ x16_5
                              · rw [if_pos c49] at H
                                have c49b0 : decide (0 ≤ x16_5) = true := decide_eq_true c49
                                clear c49
                                replace H := Option.bind_eq_some_iff.mp H
                                obtain ⟨⟨t415, t418, t419, t420, t421⟩, A500, H⟩ := H
                                replace H : (if t418 = true then (none) else (if (t415.length : Int) > 0 then (none) else ((frame_Reader_Dead.f t419 t420 t421).bind fun bt422 => (if bt422.1 = true then ((frame_Reader_Waits.f bt422.2.1 bt422.2.2.1 bt422.2.2.2).bind fun bt426 => (if bt426.1 = 0 then (escutcheonlaw9_FrameDead.l1 k5 l2 (wrap64 (x16_5 + 1)) bt426.2.1 bt426.2.2.1 bt426.2.2.2) else (none))) else (none))))) = some r := H
                                have A50 := Aside0.mk A500
                                clear A500
                                by_cases c51 : t418 = true
                                · subst c51
                                  have H1 : (none) = some r := by rw [if_pos rfl] at H; exact H
                                  clear H
                                  have H := H1
                                  clear H1
                                  exact absurd H (by simp)
                                · replace c51 := Bool.eq_false_iff.mpr c51
                                  subst c51
                                  have H1 : (if (t415.length : Int) > 0 then (none) else ((frame_Reader_Dead.f t419 t420 t421).bind fun bt422 => (if bt422.1 = true then ((frame_Reader_Waits.f bt422.2.1 bt422.2.2.1 bt422.2.2.2).bind fun bt426 => (if bt426.1 = 0 then (escutcheonlaw9_FrameDead.l1 k5 l2 (wrap64 (x16_5 + 1)) bt426.2.1 bt426.2.2.1 bt426.2.2.2) else (none))) else (none)))) = some r := by rw [if_neg (show ¬ (false = true) by decide)] at H; exact H
                                  clear H
                                  have H := H1
                                  clear H1
                                  by_cases c52 : (t415.length : Int) > 0
                                  · rw [if_pos c52] at H
                                    exact absurd H (by simp)
                                  · rw [if_neg c52] at H
                                    have c52b0 : decide (0 < (t415.length : Int)) = false := decide_eq_false c52
                                    have c52b1 : decide (0 < t415.length) = false := decide_eq_false (by omega)
                                    clear c52
                                    replace H := Option.bind_eq_some_iff.mp H
                                    obtain ⟨⟨t422, t423, t424, t425⟩, A530, H⟩ := H
                                    replace H : (if t422 = true then ((frame_Reader_Waits.f t423 t424 t425).bind fun bt426 => (if bt426.1 = 0 then (escutcheonlaw9_FrameDead.l1 k5 l2 (wrap64 (x16_5 + 1)) bt426.2.1 bt426.2.2.1 bt426.2.2.2) else (none))) else (none)) = some r := H
                                    have A53 := Aside0.mk A530
                                    clear A530
                                    by_cases c54 : t422 = true
                                    · subst c54
                                      have H1 : ((frame_Reader_Waits.f t423 t424 t425).bind fun bt426 => (if bt426.1 = 0 then (escutcheonlaw9_FrameDead.l1 k5 l2 (wrap64 (x16_5 + 1)) bt426.2.1 bt426.2.2.1 bt426.2.2.2) else (none))) = some r := by rw [if_pos rfl] at H; exact H
                                      clear H
                                      have H := H1
                                      clear H1
                                      replace H := Option.bind_eq_some_iff.mp H
                                      obtain ⟨⟨t426, t427, t428, t429⟩, A550, H⟩ := H
                                      replace H : (if t426 = 0 then (escutcheonlaw9_FrameDead.l1 k5 l2 (wrap64 (x16_5 + 1)) t427 t428 t429) else (none)) = some r := H
                                      have A55 := Aside0.mk A550
                                      clear A550
                                      by_cases c56 : t426 = 0
                                      · rw [if_pos c56] at H
                                        have c56b0 : (t426 == 0) = true := beq_iff_eq.mpr c56
                                        have c56b1 : (t426 != 0) = false := bne_eq_false_iff_eq.mpr c56
                                        clear c56
                                        have H' := Aside0.mk H
                                        clear H
                                        have p414 : 0 ≤ (x16_5 : Int) := of_decide_eq_true (by first | (with_reducible assumption) | assumption)
                                        have q414 : x16_5 < (l2.length : Int) := of_decide_eq_true (by first | (with_reducible assumption) | assumption)
                                        obtain ⟨ad414, e414, hx414_0⟩ := Kd.at_string HR2.out x16_5 p414 q414
                                        cases e414
                                        replace hx414_0 := (HB.out.cell (World.block_lt_of_cell? w _ hx414_0)).trans hx414_0
                                        replace p414 := eq_true p414
                                        replace q414 := eq_true q414
                                        go_wp2_with (first | ((with_reducible refine gate_callee (f := 12) rfl ?_); refine goesL_ (some 135) rfl rfl Try.func12 (by kernel_rfl) rfl #[.pointer (some ⟨gb381, 0, none⟩), .string (rdOf ByteArray.empty l2 x16_5)] rfl (by (try simp only [List.map_toArray, List.map_cons, List.map_nil]); first | done | rfl | (simp only [List.length_drop, List.length_take]; rfl)) ?_; (with_reducible refine (frame_Reader_Feed.calls k5 gb381 x382000_5 x382001_5 x382002_5 (rdOf ByteArray.empty l2 x16_5) t415 false t419 t420 t421 w _ ?side1 ?side2 A50.out).mono ?_); (case side1 => repeat (first | (with_reducible first | exact HI381.out | apply IsS34.alloc | apply IsS34.drewN | apply IsS34.drew | apply IsS34.set_0 | apply IsS34.set_1 | apply IsS34.set_2) | exact HI381.out)); (case side2 => repeat (first | (with_reducible first | exact HB.out | apply below_alloc | apply pw_below_drewN | apply below_drew1 | refine below_set ?_ (IsS34.ge HI381.out)) | exact HB.out)); rintro e w57 ⟨v416, rfl, ho0, hi, hb, hk⟩; refine ⟨_, rfl, ?_⟩; have n0_ := Aside0.mk (Kd.R_lower ho0 (below_size (by repeat (first | (with_reducible first | exact HB.out | apply below_alloc | apply pw_below_drewN | apply below_drew1 | refine below_set ?_ (IsS34.ge HI381.out)) | exact HB.out)))); have n1_ := Aside0.mk (hb); have n2_ := Aside0.mk (hi); clear HB; clear HI381; have HO417 := n0_; have HB := n1_; have HI381 := n2_; clear n0_ n1_ n2_; (try clear hb); (try clear hb2); (try clear hk); (try clear hi); (try clear ho0); obtain ⟨Ao58, co58, eo58⟩ := Kd.R_slice HO417.out; subst eo58) | (go_at_call 16; (with_reducible refine (frame_Reader_Dead.calls gb381 t419 t420 t421 true t423 t424 t425 w _ ?side1 ?side2 A53.out).mono ?_); (case side1 => repeat (first | (with_reducible first | exact HI381.out | apply IsS34.alloc | apply IsS34.drewN | apply IsS34.drew | apply IsS34.set_0 | apply IsS34.set_1 | apply IsS34.set_2) | exact HI381.out)); (case side2 => repeat (first | (with_reducible first | exact HB.out | apply below_alloc | apply pw_below_drewN | apply below_drew1 | refine below_set ?_ (IsS34.ge HI381.out)) | exact HB.out)); rintro e w59 ⟨rfl, hi, hb, hk⟩; have n0_ := Aside0.mk (Kd.R_mono (Kd.R_keep (IsS34.apart (show IsS34 w _ gb381 t419 t420 t421 from by repeat (first | (with_reducible first | exact HI381.out | apply IsS34.alloc | apply IsS34.drewN | apply IsS34.drew | apply IsS34.set_0 | apply IsS34.set_1 | apply IsS34.set_2) | exact HI381.out)) (by (with_reducible repeat (first | apply Kd.R_alloc | apply Kd.R_drewN | apply Kd.R_drew)); exact HO417.out) (by decide)) hk (fun _ h => h.2)) (fun _ h => h.1)); have n1_ := Aside0.mk (hb); have n2_ := Aside0.mk (hi); clear HO417; clear HB; clear HI381; have HO417 := n0_; have HB := n1_; have HI381 := n2_; clear n0_ n1_ n2_; (try clear hb); (try clear hb2); (try clear hk); (try clear hi)) | (go_at_call 14; (with_reducible refine (frame_Reader_Waits.calls gb381 t423 t424 t425 t426 t427 t428 t429 w _ ?side1 ?side2 A55.out).mono ?_); (case side1 => repeat (first | (with_reducible first | exact HI381.out | apply IsS34.alloc | apply IsS34.drewN | apply IsS34.drew | apply IsS34.set_0 | apply IsS34.set_1 | apply IsS34.set_2) | exact HI381.out)); (case side2 => repeat (first | (with_reducible first | exact HB.out | apply below_alloc | apply pw_below_drewN | apply below_drew1 | refine below_set ?_ (IsS34.ge HI381.out)) | exact HB.out)); rintro e w60 ⟨rfl, hi, hb, hk⟩; have n0_ := Aside0.mk (Kd.R_mono (Kd.R_keep (IsS34.apart (show IsS34 w _ gb381 t423 t424 t425 from by repeat (first | (with_reducible first | exact HI381.out | apply IsS34.alloc | apply IsS34.drewN | apply IsS34.drew | apply IsS34.set_0 | apply IsS34.set_1 | apply IsS34.set_2) | exact HI381.out)) (by (with_reducible repeat (first | apply Kd.R_alloc | apply Kd.R_drewN | apply Kd.R_drew)); exact HO417.out) (by decide)) hk (fun _ h => h.2)) (fun _ h => h.1)); have n1_ := Aside0.mk (hb); have n2_ := Aside0.mk (hi); clear HO417; clear HB; clear HI381; have HO417 := n0_; have HB := n1_; have HI381 := n2_; clear n0_ n1_ n2_; (try clear hb); (try clear hb2); (try clear hk); (try clear hi)) | (go_at_call 12; (with_reducible refine (frame_Reader_Feed.calls k5 gb381 x382000_5 x382001_5 x382002_5 (rdOf ByteArray.empty l2 x16_5) t415 false t419 t420 t421 w _ ?side1 ?side2 A50.out).mono ?_); (case side1 => repeat (first | (with_reducible first | exact HI381.out | apply IsS34.alloc | apply IsS34.drewN | apply IsS34.drew | apply IsS34.set_0 | apply IsS34.set_1 | apply IsS34.set_2) | exact HI381.out)); (case side2 => repeat (first | (with_reducible first | exact HB.out | apply below_alloc | apply pw_below_drewN | apply below_drew1 | refine below_set ?_ (IsS34.ge HI381.out)) | exact HB.out)); rintro e w57 ⟨v416, rfl, ho0, hi, hb, hk⟩; have n0_ := Aside0.mk (Kd.R_lower ho0 (below_size (by repeat (first | (with_reducible first | exact HB.out | apply below_alloc | apply pw_below_drewN | apply below_drew1 | refine below_set ?_ (IsS34.ge HI381.out)) | exact HB.out)))); have n1_ := Aside0.mk (hb); have n2_ := Aside0.mk (hi); clear HB; clear HI381; have HO417 := n0_; have HB := n1_; have HI381 := n2_; clear n0_ n1_ n2_; (try clear hb); (try clear hb2); (try clear hk); (try clear hi); (try clear ho0); obtain ⟨Ao58, co58, eo58⟩ := Kd.R_slice HO417.out; subst eo58))
                                        go_roundg k5
                                        case measure => have := HJ3.out; have := HK2.out; have := HJ33.out; have := HJ36.out; have := HK5.out; omega
                                        case rel => exact ⟨(wrap64 (x16_5 + 1)), (t427), (t428), (t429), (by first | rfl | (simp; done) | (simp [*]; done)), H', ⟨by have := HJ3.out; have := HK2.out; have := HJ33.out; have := HJ36.out; have := HK5.out; omega⟩, ⟨by repeat (first | (with_reducible first | exact HI381.out | apply IsS34.alloc | apply IsS34.drewN | apply IsS34.drew | apply IsS34.set_0 | apply IsS34.set_1 | apply IsS34.set_2) | exact HI381.out)⟩, ⟨by repeat (first | (with_reducible first | exact HB.out | apply below_alloc | apply pw_below_drewN | apply below_drew1 | refine below_set ?_ (IsS34.ge HI381.out)) | exact HB.out)⟩⟩
                                      · rw [if_neg c56] at H
                                        exact absurd H (by simp)
                                    · replace c54 := Bool.eq_false_iff.mpr c54
                                      subst c54
                                      have H1 : (none) = some r := by rw [if_neg (show ¬ (false = true) by decide)] at H; exact H
                                      clear H
                                      have H := H1
                                      clear H1
                                      exact absurd H (by simp)
                              · rw [if_neg c49] at H
                                exact absurd H (by simp)
                            · rw [if_neg c48] at H
                              have c48b0 : decide (x16_5 < (l2.length : Int)) = false := decide_eq_false c48
                              clear c48
                              obtain rfl := Option.some.inj H
                              go_wp2
                              go_ret
                              exact ⟨by first | rfl | (simp [errW_none, errW_some] <;> rfl) | (simp [*, errW_none, errW_some] <;> rfl), by repeat (first | (with_reducible first | exact HB.out | apply below_alloc | apply pw_below_drewN | apply below_drew1 | refine below_set ?_ (IsS34.ge HI381.out)) | exact HB.out)⟩

/-- THE ONE PURE STATEMENT of escutcheonlaw9_FrameDead: yours. -/
def escutcheonlaw9_FrameDead.Pure : Prop := ∀ (l0 : List ByteArray) (a1 : Int) (l2 : List ByteArray), l0.length ≤ maxLen → l0.length * 16 ≤ 140737488351232 → (∀ x ∈ l0, x.size ≤ maxLen) → (Lit.int .i64 a1).wf = true → l2.length ≤ maxLen → l2.length * 16 ≤ 140737488351232 → (∀ x ∈ l2, x.size ≤ maxLen) → ∃ k, escutcheonlaw9_FrameDead.f k l0 a1 l2 = some true
theorem escutcheonlaw9_FrameDead.walk (P : escutcheonlaw9_FrameDead.Pure) (a0 : Option Addr) (len0 cap0 : Nat) (z0 : List ByteArray) (a1 : Int) (a2 : Option Addr) (len2 cap2 : Nat) (z2 : List ByteArray) (w : World) (w0 : StrRow.RowS w a0 len0 cap0 z0) (y0 : len0 * 16 ≤ 140737488351232) (w1 : (Lit.int .i64 a1).wf = true) (w2 : StrRow.RowS w a2 len2 cap2 z2) (y2 : len2 * 16 ≤ 140737488351232) :
    Calls Try.prog 7 #[.slice a0 len0 cap0, .int .i64 a1, .slice a2 len2 cap2] w fun e w' => e = .returned (.bool true) ∧ Below w.heap.size w w' := by
  obtain ⟨l0, rfl, hr0, hm0, hw0, hc0⟩ := StrRow.ofRowS w0
  obtain ⟨l2, rfl, hr2, hm2, hw2, hc2⟩ := StrRow.ofRowS w2
  obtain ⟨k, h⟩ := P l0 a1 l2 hm0 y0 hw0 w1 hm2 y2 hw2
  refine (escutcheonlaw9_FrameDead.calls k _ _ l0 a1 _ _ l2 true w hr0 hc0 hr2 hc2 h).mono ?_
  rintro e w' ⟨rfl, hd⟩
  exact ⟨rfl, hd⟩

end Go.Proofs.Ytoepiofmkjajaaa.P
