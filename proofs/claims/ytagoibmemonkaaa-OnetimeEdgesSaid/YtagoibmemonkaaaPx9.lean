-- Written by wip/inj.py (the kit's print, with contracts typed by hand beside it).
import Derived.Test.YtagoibmemonkaaaPx0
import Derived.Test.YtagoibmemonkaaaPx6
import Derived.Test.YtagoibmemonkaaaPx7
import Derived.Test.YtagoibmemonkaaaPx8
namespace Go.Proofs.Ytagoibmemonkaaa.P
open Go.RowKit Go.Proofs.YtagoibmemonkaaaW.PrintWords Go.Proofs.YtagoibmemonkaaaW.PrintLast Go.Proofs.YtagoibmemonkaaaW.PrintMore
attribute [local go_sem] max2_int min2_int max_two min_two max_three min_three max_four min_four   -- for this text's walks alone
set_option linter.unusedVariables false
set_option linter.unusedSimpArgs false

/-! ### escutcheonref1_Tag: function 13 -/
mutual
def escutcheonref1_Tag.l0 : Nat → ByteArray → ByteArray → ByteArray → List Int → Int → Option (ByteArray)
  | 0, _, _, _, _, _ => none
  | k + 1, x0, x1, x5, x6, x7 => if x7 < (x1.size : Int) then (if 0 ≤ x7 then (if x7 ≤ (mn (wrap64 (x7 + 16)) (x1.size : Int)) then (if (mn (wrap64 (x7 + 16)) (x1.size : Int)) ≤ (x1.size : Int) then (if (x1.extract (x7 : Int).toNat ((mn (wrap64 (x7 + 16)) (x1.size : Int)) : Int).toNat).size + 1 ≤ 9223372036854775807 then (escutcheonref1_Tag.l1 k x0 x1 x5 x6 x7 ((x1.extract (x7 : Int).toNat ((mn (wrap64 (x7 + 16)) (x1.size : Int)) : Int).toNat) ++ (⟨#[1]⟩ : ByteArray)) 0) else (none)) else (none)) else (none)) else (none)) else (if ([] : List Int).length + x6.length < 17592186044416 then ((some (([] : List Int) ++ x6 : List Int)).bind fun y173 => (if 0 < (y173.length : Int) then ((escutcheonref1_carry.f k (y173.set (0 : Int).toNat (wrap64 ((rd y173 0) + 5)))).bind fun t178 => (if 16 < (t178.length : Int) then (if (rd t178 16) ≥ 4 then (escutcheonref1_Tag.j4 k x0 x6 t178 true) else (if (t178.length : Int) > 17 then (if 17 < (t178.length : Int) then (escutcheonref1_Tag.j4 k x0 x6 t178 (decide ((rd t178 17) > 0))) else (none)) else (escutcheonref1_Tag.j4 k x0 x6 t178 false))) else (none))) else (none))) else (none))
def escutcheonref1_Tag.l1 : Nat → ByteArray → ByteArray → ByteArray → List Int → Int → ByteArray → Int → Option (ByteArray)
  | 0, _, _, _, _, _, _, _ => none
  | k + 1, x0, x1, x5, x6, x7, x8, x9 => if x9 < (x8.size : Int) then (if 0 ≤ x9 then (if x9 < (x6.length : Int) then (escutcheonref1_Tag.l1 k x0 x1 x5 (x6.set (x9 : Int).toNat (wrap64 ((rd x6 x9) + (wrap64 (bt x8 x9))))) x7 x8 (wrap64 (x9 + 1))) else (none)) else (none)) else (if 0 ≤ (wrap64 ((x6.length : Int) + 16)) then (if (wrap64 ((x6.length : Int) + 16) : Int).toNat ≤ 35184372088832 then (escutcheonref1_Tag.l2 k x0 x1 x5 x6 x7 (List.replicate (wrap64 ((x6.length : Int) + 16) : Int).toNat 0) 0) else (none)) else (none))
def escutcheonref1_Tag.l2 : Nat → ByteArray → ByteArray → ByteArray → List Int → Int → List Int → Int → Option (ByteArray)
  | 0, _, _, _, _, _, _, _ => none
  | k + 1, x0, x1, x5, x6, x7, x10, x11 => if x11 < (x6.length : Int) then (escutcheonref1_Tag.l3 k x0 x1 x5 x6 x7 x10 x11 0) else ((escutcheonref1_fold.f k x10).bind fun t167 => (escutcheonref1_Tag.l0 k x0 x1 x5 t167 (wrap64 (x7 + 16))))
def escutcheonref1_Tag.l3 : Nat → ByteArray → ByteArray → ByteArray → List Int → Int → List Int → Int → Int → Option (ByteArray)
  | 0, _, _, _, _, _, _, _, _ => none
  | k + 1, x0, x1, x5, x6, x7, x10, x11, x12 => if x12 < 16 then (if 0 ≤ (wrap64 (x11 + x12)) then (if (wrap64 (x11 + x12)) < (x10.length : Int) then (if 0 ≤ x11 then (if x11 < (x6.length : Int) then (if 0 ≤ x12 then (if x12 < (x5.size : Int) then (escutcheonref1_Tag.l3 k x0 x1 x5 x6 x7 (x10.set ((wrap64 (x11 + x12)) : Int).toNat (wrap64 ((rd x10 (wrap64 (x11 + x12))) + (wrap64 ((rd x6 x11) * (wrap64 (bt x5 x12))))))) x11 (wrap64 (x12 + 1))) else (none)) else (none)) else (none)) else (none)) else (none)) else (none)) else (escutcheonref1_Tag.l2 k x0 x1 x5 x6 x7 x10 (wrap64 (x11 + 1)))
def escutcheonref1_Tag.j4 : Nat → ByteArray → List Int → List Int → Bool → Option (ByteArray)
  | 0, _, _, _, _ => none
  | k + 1, x0, x6, x13, x115 => if x115 = true then (escutcheonref1_Tag.j5 k x0 x13) else (escutcheonref1_Tag.j5 k x0 x6)
def escutcheonref1_Tag.j5 : Nat → ByteArray → List Int → Option (ByteArray)
  | 0, _, _ => none
  | k + 1, x0, x6 => escutcheonref1_Tag.l4 k x0 x6 0
def escutcheonref1_Tag.l4 : Nat → ByteArray → List Int → Int → Option (ByteArray)
  | 0, _, _, _ => none
  | k + 1, x0, x6, x14 => if x14 < 16 then (if 0 ≤ x14 then (if x14 < (x6.length : Int) then (if 0 ≤ (wrap64 (16 + x14)) then (if (wrap64 (16 + x14)) < (x0.size : Int) then (escutcheonref1_Tag.l4 k x0 (x6.set (x14 : Int).toNat (wrap64 ((rd x6 x14) + (wrap64 (bt x0 (wrap64 (16 + x14))))))) (wrap64 (x14 + 1))) else (none)) else (none)) else (none)) else (none)) else ((escutcheonref1_carry.f k x6).bind fun t185 => (if 16 ≤ 281474976710656 then (escutcheonref1_Tag.l5 k t185 (List.replicate 16 0) 0) else (none)))
def escutcheonref1_Tag.l5 : Nat → List Int → List Int → Int → Option (ByteArray)
  | 0, _, _, _ => none
  | k + 1, x6, x15, x16 => if x16 < 16 then (if 0 ≤ x16 then (if x16 < (x6.length : Int) then (if x16 < (x15.length : Int) then (escutcheonref1_Tag.l5 k x6 (x15.set (x16 : Int).toNat ((rd x6 x16) % 256)) (wrap64 (x16 + 1))) else (none)) else (none)) else (none)) else (some (strOfNums x15))
end
def escutcheonref1_Tag.f (k : Nat) (a0 : ByteArray) (a1 : ByteArray) : Option (ByteArray) := (escutcheonref1_Clamp.f a0).bind fun t158 => ((escutcheonref1_carry.f k ([] : List Int)).bind fun t159 => (escutcheonref1_Tag.l0 k a0 a1 t158 t159 0))
theorem escutcheonref1_Tag.mono_l : ∀ k, (∀ y0 y1 y2 y3 y4, LeO (escutcheonref1_Tag.l0 k y0 y1 y2 y3 y4) (escutcheonref1_Tag.l0 (k + 1) y0 y1 y2 y3 y4)) ∧ (∀ y0 y1 y2 y3 y4 y5 y6, LeO (escutcheonref1_Tag.l1 k y0 y1 y2 y3 y4 y5 y6) (escutcheonref1_Tag.l1 (k + 1) y0 y1 y2 y3 y4 y5 y6)) ∧ (∀ y0 y1 y2 y3 y4 y5 y6, LeO (escutcheonref1_Tag.l2 k y0 y1 y2 y3 y4 y5 y6) (escutcheonref1_Tag.l2 (k + 1) y0 y1 y2 y3 y4 y5 y6)) ∧ (∀ y0 y1 y2 y3 y4 y5 y6 y7, LeO (escutcheonref1_Tag.l3 k y0 y1 y2 y3 y4 y5 y6 y7) (escutcheonref1_Tag.l3 (k + 1) y0 y1 y2 y3 y4 y5 y6 y7)) ∧ (∀ y0 y1 y2 y3, LeO (escutcheonref1_Tag.j4 k y0 y1 y2 y3) (escutcheonref1_Tag.j4 (k + 1) y0 y1 y2 y3)) ∧ (∀ y0 y1, LeO (escutcheonref1_Tag.j5 k y0 y1) (escutcheonref1_Tag.j5 (k + 1) y0 y1)) ∧ (∀ y0 y1 y2, LeO (escutcheonref1_Tag.l4 k y0 y1 y2) (escutcheonref1_Tag.l4 (k + 1) y0 y1 y2)) ∧ (∀ y0 y1 y2, LeO (escutcheonref1_Tag.l5 k y0 y1 y2) (escutcheonref1_Tag.l5 (k + 1) y0 y1 y2))
  | 0 => ⟨fun _ _ _ _ _ r h => by simp [escutcheonref1_Tag.l0] at h, fun _ _ _ _ _ _ _ r h => by simp [escutcheonref1_Tag.l1] at h, fun _ _ _ _ _ _ _ r h => by simp [escutcheonref1_Tag.l2] at h, fun _ _ _ _ _ _ _ _ r h => by simp [escutcheonref1_Tag.l3] at h, fun _ _ _ _ r h => by simp [escutcheonref1_Tag.j4] at h, fun _ _ r h => by simp [escutcheonref1_Tag.j5] at h, fun _ _ _ r h => by simp [escutcheonref1_Tag.l4] at h, fun _ _ _ r h => by simp [escutcheonref1_Tag.l5] at h⟩
  | k + 1 => by
    obtain ⟨ih0, ih1, ih2, ih3, ih4, ih5, ih6, ih7⟩ := escutcheonref1_Tag.mono_l k
    refine ⟨?_, ?_, ?_, ?_, ?_, ?_, ?_, ?_⟩
    · intro y0 y1 y2 y3 y4
      unfold escutcheonref1_Tag.l0
      repeat' first
      | (with_reducible exact ih0 _ _ _ _ _)
      | (with_reducible exact ih1 _ _ _ _ _ _ _)
      | (with_reducible exact ih2 _ _ _ _ _ _ _)
      | (with_reducible exact ih3 _ _ _ _ _ _ _ _)
      | (with_reducible exact ih4 _ _ _ _)
      | (with_reducible exact ih5 _ _)
      | (with_reducible exact ih6 _ _ _)
      | (with_reducible exact ih7 _ _ _)
      | (with_reducible exact escutcheonref1_carry.mono _ _)
      | (with_reducible exact escutcheonref1_fold.mono _ _)
      | (with_reducible exact LeO.refl _)
      | (with_reducible exact LeO.none _)
      | (with_reducible refine LeO.ite ?_ ?_)
      | (with_reducible refine LeO.bind ?_ (fun _ => ?_))
      | exact ih0 _ _ _ _ _
      | exact ih1 _ _ _ _ _ _ _
      | exact ih2 _ _ _ _ _ _ _
      | exact ih3 _ _ _ _ _ _ _ _
      | exact ih4 _ _ _ _
      | exact ih5 _ _
      | exact ih6 _ _ _
      | exact ih7 _ _ _
      | exact escutcheonref1_carry.mono _ _
      | exact escutcheonref1_fold.mono _ _
      | exact LeO.none _
      | refine LeO.ite ?_ ?_
      | refine LeO.bind ?_ (fun _ => ?_)
    · intro y0 y1 y2 y3 y4 y5 y6
      unfold escutcheonref1_Tag.l1
      repeat' first
      | (with_reducible exact ih0 _ _ _ _ _)
      | (with_reducible exact ih1 _ _ _ _ _ _ _)
      | (with_reducible exact ih2 _ _ _ _ _ _ _)
      | (with_reducible exact ih3 _ _ _ _ _ _ _ _)
      | (with_reducible exact ih4 _ _ _ _)
      | (with_reducible exact ih5 _ _)
      | (with_reducible exact ih6 _ _ _)
      | (with_reducible exact ih7 _ _ _)
      | (with_reducible exact escutcheonref1_carry.mono _ _)
      | (with_reducible exact escutcheonref1_fold.mono _ _)
      | (with_reducible exact LeO.refl _)
      | (with_reducible exact LeO.none _)
      | (with_reducible refine LeO.ite ?_ ?_)
      | (with_reducible refine LeO.bind ?_ (fun _ => ?_))
      | exact ih0 _ _ _ _ _
      | exact ih1 _ _ _ _ _ _ _
      | exact ih2 _ _ _ _ _ _ _
      | exact ih3 _ _ _ _ _ _ _ _
      | exact ih4 _ _ _ _
      | exact ih5 _ _
      | exact ih6 _ _ _
      | exact ih7 _ _ _
      | exact escutcheonref1_carry.mono _ _
      | exact escutcheonref1_fold.mono _ _
      | exact LeO.none _
      | refine LeO.ite ?_ ?_
      | refine LeO.bind ?_ (fun _ => ?_)
    · intro y0 y1 y2 y3 y4 y5 y6
      unfold escutcheonref1_Tag.l2
      repeat' first
      | (with_reducible exact ih0 _ _ _ _ _)
      | (with_reducible exact ih1 _ _ _ _ _ _ _)
      | (with_reducible exact ih2 _ _ _ _ _ _ _)
      | (with_reducible exact ih3 _ _ _ _ _ _ _ _)
      | (with_reducible exact ih4 _ _ _ _)
      | (with_reducible exact ih5 _ _)
      | (with_reducible exact ih6 _ _ _)
      | (with_reducible exact ih7 _ _ _)
      | (with_reducible exact escutcheonref1_carry.mono _ _)
      | (with_reducible exact escutcheonref1_fold.mono _ _)
      | (with_reducible exact LeO.refl _)
      | (with_reducible exact LeO.none _)
      | (with_reducible refine LeO.ite ?_ ?_)
      | (with_reducible refine LeO.bind ?_ (fun _ => ?_))
      | exact ih0 _ _ _ _ _
      | exact ih1 _ _ _ _ _ _ _
      | exact ih2 _ _ _ _ _ _ _
      | exact ih3 _ _ _ _ _ _ _ _
      | exact ih4 _ _ _ _
      | exact ih5 _ _
      | exact ih6 _ _ _
      | exact ih7 _ _ _
      | exact escutcheonref1_carry.mono _ _
      | exact escutcheonref1_fold.mono _ _
      | exact LeO.none _
      | refine LeO.ite ?_ ?_
      | refine LeO.bind ?_ (fun _ => ?_)
    · intro y0 y1 y2 y3 y4 y5 y6 y7
      unfold escutcheonref1_Tag.l3
      repeat' first
      | (with_reducible exact ih0 _ _ _ _ _)
      | (with_reducible exact ih1 _ _ _ _ _ _ _)
      | (with_reducible exact ih2 _ _ _ _ _ _ _)
      | (with_reducible exact ih3 _ _ _ _ _ _ _ _)
      | (with_reducible exact ih4 _ _ _ _)
      | (with_reducible exact ih5 _ _)
      | (with_reducible exact ih6 _ _ _)
      | (with_reducible exact ih7 _ _ _)
      | (with_reducible exact escutcheonref1_carry.mono _ _)
      | (with_reducible exact escutcheonref1_fold.mono _ _)
      | (with_reducible exact LeO.refl _)
      | (with_reducible exact LeO.none _)
      | (with_reducible refine LeO.ite ?_ ?_)
      | (with_reducible refine LeO.bind ?_ (fun _ => ?_))
      | exact ih0 _ _ _ _ _
      | exact ih1 _ _ _ _ _ _ _
      | exact ih2 _ _ _ _ _ _ _
      | exact ih3 _ _ _ _ _ _ _ _
      | exact ih4 _ _ _ _
      | exact ih5 _ _
      | exact ih6 _ _ _
      | exact ih7 _ _ _
      | exact escutcheonref1_carry.mono _ _
      | exact escutcheonref1_fold.mono _ _
      | exact LeO.none _
      | refine LeO.ite ?_ ?_
      | refine LeO.bind ?_ (fun _ => ?_)
    · intro y0 y1 y2 y3
      unfold escutcheonref1_Tag.j4
      repeat' first
      | (with_reducible exact ih0 _ _ _ _ _)
      | (with_reducible exact ih1 _ _ _ _ _ _ _)
      | (with_reducible exact ih2 _ _ _ _ _ _ _)
      | (with_reducible exact ih3 _ _ _ _ _ _ _ _)
      | (with_reducible exact ih4 _ _ _ _)
      | (with_reducible exact ih5 _ _)
      | (with_reducible exact ih6 _ _ _)
      | (with_reducible exact ih7 _ _ _)
      | (with_reducible exact escutcheonref1_carry.mono _ _)
      | (with_reducible exact escutcheonref1_fold.mono _ _)
      | (with_reducible exact LeO.refl _)
      | (with_reducible exact LeO.none _)
      | (with_reducible refine LeO.ite ?_ ?_)
      | (with_reducible refine LeO.bind ?_ (fun _ => ?_))
      | exact ih0 _ _ _ _ _
      | exact ih1 _ _ _ _ _ _ _
      | exact ih2 _ _ _ _ _ _ _
      | exact ih3 _ _ _ _ _ _ _ _
      | exact ih4 _ _ _ _
      | exact ih5 _ _
      | exact ih6 _ _ _
      | exact ih7 _ _ _
      | exact escutcheonref1_carry.mono _ _
      | exact escutcheonref1_fold.mono _ _
      | exact LeO.none _
      | refine LeO.ite ?_ ?_
      | refine LeO.bind ?_ (fun _ => ?_)
    · intro y0 y1
      unfold escutcheonref1_Tag.j5
      repeat' first
      | (with_reducible exact ih0 _ _ _ _ _)
      | (with_reducible exact ih1 _ _ _ _ _ _ _)
      | (with_reducible exact ih2 _ _ _ _ _ _ _)
      | (with_reducible exact ih3 _ _ _ _ _ _ _ _)
      | (with_reducible exact ih4 _ _ _ _)
      | (with_reducible exact ih5 _ _)
      | (with_reducible exact ih6 _ _ _)
      | (with_reducible exact ih7 _ _ _)
      | (with_reducible exact escutcheonref1_carry.mono _ _)
      | (with_reducible exact escutcheonref1_fold.mono _ _)
      | (with_reducible exact LeO.refl _)
      | (with_reducible exact LeO.none _)
      | (with_reducible refine LeO.ite ?_ ?_)
      | (with_reducible refine LeO.bind ?_ (fun _ => ?_))
      | exact ih0 _ _ _ _ _
      | exact ih1 _ _ _ _ _ _ _
      | exact ih2 _ _ _ _ _ _ _
      | exact ih3 _ _ _ _ _ _ _ _
      | exact ih4 _ _ _ _
      | exact ih5 _ _
      | exact ih6 _ _ _
      | exact ih7 _ _ _
      | exact escutcheonref1_carry.mono _ _
      | exact escutcheonref1_fold.mono _ _
      | exact LeO.none _
      | refine LeO.ite ?_ ?_
      | refine LeO.bind ?_ (fun _ => ?_)
    · intro y0 y1 y2
      unfold escutcheonref1_Tag.l4
      repeat' first
      | (with_reducible exact ih0 _ _ _ _ _)
      | (with_reducible exact ih1 _ _ _ _ _ _ _)
      | (with_reducible exact ih2 _ _ _ _ _ _ _)
      | (with_reducible exact ih3 _ _ _ _ _ _ _ _)
      | (with_reducible exact ih4 _ _ _ _)
      | (with_reducible exact ih5 _ _)
      | (with_reducible exact ih6 _ _ _)
      | (with_reducible exact ih7 _ _ _)
      | (with_reducible exact escutcheonref1_carry.mono _ _)
      | (with_reducible exact escutcheonref1_fold.mono _ _)
      | (with_reducible exact LeO.refl _)
      | (with_reducible exact LeO.none _)
      | (with_reducible refine LeO.ite ?_ ?_)
      | (with_reducible refine LeO.bind ?_ (fun _ => ?_))
      | exact ih0 _ _ _ _ _
      | exact ih1 _ _ _ _ _ _ _
      | exact ih2 _ _ _ _ _ _ _
      | exact ih3 _ _ _ _ _ _ _ _
      | exact ih4 _ _ _ _
      | exact ih5 _ _
      | exact ih6 _ _ _
      | exact ih7 _ _ _
      | exact escutcheonref1_carry.mono _ _
      | exact escutcheonref1_fold.mono _ _
      | exact LeO.none _
      | refine LeO.ite ?_ ?_
      | refine LeO.bind ?_ (fun _ => ?_)
    · intro y0 y1 y2
      unfold escutcheonref1_Tag.l5
      repeat' first
      | (with_reducible exact ih0 _ _ _ _ _)
      | (with_reducible exact ih1 _ _ _ _ _ _ _)
      | (with_reducible exact ih2 _ _ _ _ _ _ _)
      | (with_reducible exact ih3 _ _ _ _ _ _ _ _)
      | (with_reducible exact ih4 _ _ _ _)
      | (with_reducible exact ih5 _ _)
      | (with_reducible exact ih6 _ _ _)
      | (with_reducible exact ih7 _ _ _)
      | (with_reducible exact escutcheonref1_carry.mono _ _)
      | (with_reducible exact escutcheonref1_fold.mono _ _)
      | (with_reducible exact LeO.refl _)
      | (with_reducible exact LeO.none _)
      | (with_reducible refine LeO.ite ?_ ?_)
      | (with_reducible refine LeO.bind ?_ (fun _ => ?_))
      | exact ih0 _ _ _ _ _
      | exact ih1 _ _ _ _ _ _ _
      | exact ih2 _ _ _ _ _ _ _
      | exact ih3 _ _ _ _ _ _ _ _
      | exact ih4 _ _ _ _
      | exact ih5 _ _
      | exact ih6 _ _ _
      | exact ih7 _ _ _
      | exact escutcheonref1_carry.mono _ _
      | exact escutcheonref1_fold.mono _ _
      | exact LeO.none _
      | refine LeO.ite ?_ ?_
      | refine LeO.bind ?_ (fun _ => ?_)
theorem escutcheonref1_Tag.mono : ∀ a0 a1 k, LeO (escutcheonref1_Tag.f k a0 a1) (escutcheonref1_Tag.f (k + 1) a0 a1) := by
  intro a0 a1 k
  obtain ⟨ih0, ih1, ih2, ih3, ih4, ih5, ih6, ih7⟩ := escutcheonref1_Tag.mono_l k
  unfold escutcheonref1_Tag.f
  repeat' first
      | (with_reducible exact ih0 _ _ _ _ _)
      | (with_reducible exact ih1 _ _ _ _ _ _ _)
      | (with_reducible exact ih2 _ _ _ _ _ _ _)
      | (with_reducible exact ih3 _ _ _ _ _ _ _ _)
      | (with_reducible exact ih4 _ _ _ _)
      | (with_reducible exact ih5 _ _)
      | (with_reducible exact ih6 _ _ _)
      | (with_reducible exact ih7 _ _ _)
      | (with_reducible exact escutcheonref1_carry.mono _ _)
      | (with_reducible exact escutcheonref1_fold.mono _ _)
      | (with_reducible exact LeO.refl _)
      | (with_reducible exact LeO.none _)
      | (with_reducible refine LeO.ite ?_ ?_)
      | (with_reducible refine LeO.bind ?_ (fun _ => ?_))
      | exact ih0 _ _ _ _ _
      | exact ih1 _ _ _ _ _ _ _
      | exact ih2 _ _ _ _ _ _ _
      | exact ih3 _ _ _ _ _ _ _ _
      | exact ih4 _ _ _ _
      | exact ih5 _ _
      | exact ih6 _ _ _
      | exact ih7 _ _ _
      | exact escutcheonref1_carry.mono _ _
      | exact escutcheonref1_fold.mono _ _
      | exact LeO.none _
      | refine LeO.ite ?_ ?_
      | refine LeO.bind ?_ (fun _ => ?_)
def escutcheonref1_Tag.T11 : Bool × List (List Nat × List Nat) := (true, [([], []), ([], []), ([], []), ([], []), ([2, 3], [2, 3]), ([4], [4]), ([], []), ([], []), ([6, 7], [6, 7]), ([8], [8]), ([5, 9], [5, 9]), ([0, 1, 0, 1, 2, 3, 4, 5, 6, 7, 8, 9, 10], [0, 1]), ([11, 10, 0, 1, 2, 3, 4, 5, 6, 7, 8, 9, 10], [10, 11])])
def escutcheonref1_Tag.B11 : List Nat := [0, 0, 0, 0, 12, 28, 0, 0, 192, 448, 1020, 2047, 4095]
theorem escutcheonref1_Tag.tab11 : rtab .any (opsOf Try.f13 11) = escutcheonref1_Tag.T11 := by kernel_rfl
theorem escutcheonref1_Tag.bits11 : waitsOk escutcheonref1_Tag.T11.2 escutcheonref1_Tag.B11 = true := by kernel_rfl
def escutcheonref1_Tag.T19 : Bool × List (List Nat × List Nat) := (true, [([], []), ([], []), ([], []), ([1, 2], [1, 2]), ([], []), ([], []), ([], []), ([5, 6], [5, 6]), ([4, 7], [4, 7]), ([8], [8]), ([], []), ([], []), ([10, 11], [10, 11]), ([12], [12]), ([], []), ([], []), ([14, 15], [14, 15]), ([16], [16]), ([13, 17], [13, 17]), ([9, 18], [9, 18]), ([0, 3, 0, 1, 2, 3, 4, 5, 6, 7, 8, 9, 10, 11, 12, 13, 14, 15, 16, 17, 18, 19], [0, 3]), ([20, 19, 0, 1, 2, 3, 4, 5, 6, 7, 8, 9, 10, 11, 12, 13, 14, 15, 16, 17, 18, 19], [19, 20])])
def escutcheonref1_Tag.B19 : List Nat := [0, 0, 0, 6, 0, 0, 0, 96, 240, 496, 0, 0, 3072, 7168, 0, 0, 49152, 114688, 261120, 524272, 1048575, 2097151]
theorem escutcheonref1_Tag.tab19 : rtab .any (opsOf Try.f13 19) = escutcheonref1_Tag.T19 := by kernel_rfl
theorem escutcheonref1_Tag.bits19 : waitsOk escutcheonref1_Tag.T19.2 escutcheonref1_Tag.B19 = true := by kernel_rfl
def escutcheonref1_Tag.T29 : Bool × List (List Nat × List Nat) := (true, [([], []), ([], []), ([], []), ([], []), ([2, 3], [2, 3]), ([4], [4]), ([], []), ([], []), ([7], [7]), ([6, 8], [6, 8]), ([9], [9]), ([5, 10], [5, 10]), ([0, 1, 0, 1, 2, 3, 4, 5, 6, 7, 8, 9, 10, 11], [0, 1]), ([12, 11, 0, 1, 2, 3, 4, 5, 6, 7, 8, 9, 10, 11], [11, 12])])
def escutcheonref1_Tag.B29 : List Nat := [0, 0, 0, 0, 12, 28, 0, 0, 128, 448, 960, 2044, 4095, 8191]
theorem escutcheonref1_Tag.tab29 : rtab .any (opsOf Try.f13 29) = escutcheonref1_Tag.T29 := by kernel_rfl
theorem escutcheonref1_Tag.bits29 : waitsOk escutcheonref1_Tag.T29.2 escutcheonref1_Tag.B29 = true := by kernel_rfl
set_option maxHeartbeats 8000000 in
set_option maxRecDepth 100000 in
theorem escutcheonref1_Tag.calls (k : Nat) (a0 : ByteArray) (a1 : ByteArray) (r : ByteArray) (w : World) (h : escutcheonref1_Tag.f k a0 a1 = some r) :
    Calls Try.prog 13 #[.string a0, .string a1] w fun e w' => e = .returned (.string r) ∧ Below w.heap.size w w' := by
  have HB := Aside0.mk (Below.refl w.heap.size w)
  have H : ((escutcheonref1_Clamp.f a0).bind fun t158 => ((escutcheonref1_carry.f k ([] : List Int)).bind fun t159 => (escutcheonref1_Tag.l0 k a0 a1 t158 t159 0))) = some r := h
  clear h
  replace H := Option.bind_eq_some_iff.mp H
  obtain ⟨t158, A30, H⟩ := H
  replace H : ((escutcheonref1_carry.f k ([] : List Int)).bind fun t159 => (escutcheonref1_Tag.l0 k a0 a1 t158 t159 0)) = some r := H
  have A3 := Aside0.mk A30
  clear A30
  replace H := Option.bind_eq_some_iff.mp H
  obtain ⟨t159, A40, H⟩ := H
  replace H : (escutcheonref1_Tag.l0 k a0 a1 t158 t159 0) = some r := H
  have A4 := Aside0.mk A40
  clear A40
  have H' := Aside0.mk H
  clear H
  go_enter Try.func13, Try.ntmps13
  go_wp2_with (first | ((with_reducible refine gate_callee (f := 14) rfl ?_); refine goesL_ (some 18) rfl rfl Try.func14 (by kernel_rfl) rfl #[.string a0] rfl (by (try simp only [List.map_toArray, List.map_cons, List.map_nil]); first | done | rfl | (simp only [List.length_drop, List.length_take]; rfl)) ?_; (with_reducible refine (escutcheonref1_Clamp.calls a0 t158 _ A3.out).mono ?_); rintro e w5 ⟨rfl, hb⟩; refine ⟨_, rfl, ?_⟩; have n0_ := Aside0.mk (below_step (by repeat (first | (with_reducible first | exact HB.out | apply below_alloc | apply pw_below_drewN | apply below_drew1) | exact HB.out)) hb); clear HB; have HB := n0_; clear n0_; (try clear hb); (try clear hb2); (try clear hk); (try clear hi)) | ((with_reducible refine gate_callee (f := 25) rfl ?_); refine goesL_ (some 20) rfl rfl Try.func25 (by kernel_rfl) rfl #[.slice none 0 0] rfl (by (try simp only [List.map_toArray, List.map_cons, List.map_nil]); first | done | rfl | (simp only [List.length_drop, List.length_take]; rfl)) ?_; (refine (escutcheonref1_carry.calls k _ _ ([] : List Int) t159 _ ?side1 ?side2 A4.out).mono ?_); (case side1 => exact Kd.C_nil _ _); (case side2 => exact Nat.le_refl _); rintro e w6 ⟨v160, rfl, ho0, hb⟩; refine ⟨_, rfl, ?_⟩; have n0_ := Aside0.mk (Kd.R_lower ho0 (below_size (by repeat (first | (with_reducible first | exact HB.out | apply below_alloc | apply pw_below_drewN | apply below_drew1) | exact HB.out)))); have n1_ := Aside0.mk (below_step (by repeat (first | (with_reducible first | exact HB.out | apply below_alloc | apply pw_below_drewN | apply below_drew1) | exact HB.out)) hb); clear HB; have HO161 := n0_; have HB := n1_; clear n0_ n1_; (try clear hb); (try clear hb2); (try clear hk); (try clear hi); (try clear ho0)))
  go_loopg [6, 7] k (fun kq v6 v7 w' => ∃ (x6_1 : List Int) (x7_1 : Int), v7 = .int .i64 x7_1 ∧ Aside0 (escutcheonref1_Tag.l0 kq a0 a1 t158 x6_1 x7_1 = some r) ∧ Aside0 (kq ≤ k) ∧ Aside0 (Kd.R (Kd.int .i64) 3 w' w.heap.size (fun _ => True) v6 x6_1) ∧ Aside0 (Below w.heap.size w w'))
  case atStart => exact ⟨(t159), (0), (by first | rfl | (simp; done) | (simp [*]; done)), H', ⟨Nat.le_refl _⟩, ⟨by (with_reducible repeat (first | apply Kd.R_alloc | apply Kd.R_drewN | apply Kd.R_drew)); exact HO161.out⟩, ⟨by repeat (first | (with_reducible first | exact HB.out | apply below_alloc | apply pw_below_drewN | apply below_drew1) | exact HB.out)⟩⟩
  case round =>
    clear H'
    try clear c1
    try clear c2
    try clear p2
    obtain ⟨x6_1, x7_1, rfl, HA, HK1, HO_6, HB⟩ := hrel
    cases gk with
    | zero => exact absurd HA.out (by simp [escutcheonref1_Tag.l0])
    | succ k1 =>
      have H := HA.out
      clear HA
      simp only [escutcheonref1_Tag.l0] at H
      by_cases c7 : x7_1 < (a1.size : Int)
      · rw [if_pos c7] at H
        have c7b0 : decide (x7_1 < (a1.size : Int)) = true := decide_eq_true c7
        clear c7
        obtain ⟨ji8, hji8⟩ : ∃ j_ : Int, (mn (wrap64 (x7_1 + 16)) (a1.size : Int)) = j_ := ⟨_, rfl⟩
        replace H : (if 0 ≤ x7_1 then (if x7_1 ≤ (ji8) then (if (ji8) ≤ (a1.size : Int) then (if (a1.extract (x7_1 : Int).toNat ((ji8) : Int).toNat).size + 1 ≤ 9223372036854775807 then (escutcheonref1_Tag.l1 k1 a0 a1 t158 x6_1 x7_1 ((a1.extract (x7_1 : Int).toNat ((ji8) : Int).toNat) ++ (⟨#[1]⟩ : ByteArray)) 0) else (none)) else (none)) else (none)) else (none)) = some r := by first | (rw [hji8] at H; exact H) | (simp only [hji8] at H ⊢; exact H)
        have hji8_ : (if (a1.size : Int) < (wrap64 (x7_1 + 16)) then (a1.size : Int) else (wrap64 (x7_1 + 16))) = ji8 := hji8
        (try (have hji8_n := hji8_; simp only [Int.ofNat_lt] at hji8_n))
        by_cases c9 : 0 ≤ x7_1
        · rw [if_pos c9] at H
          have c9b0 := eq_true c9
          have c9b1 : decide (0 ≤ x7_1) = true := decide_eq_true c9
          clear c9
          by_cases c10 : x7_1 ≤ (ji8)
          · rw [if_pos c10] at H
            have c10b0 := eq_true c10
            have c10b1 : decide (x7_1 ≤ (ji8)) = true := decide_eq_true c10
            clear c10
            by_cases c11 : (ji8) ≤ (a1.size : Int)
            · rw [if_pos c11] at H
              have c11b0 := eq_true c11
              have c11b1 : decide ((ji8) ≤ (a1.size : Int)) = true := decide_eq_true c11
              clear c11
              by_cases c12 : (a1.extract (x7_1 : Int).toNat ((ji8) : Int).toNat).size + 1 ≤ 9223372036854775807
              · rw [if_pos c12] at H
                have c12b0 := eq_true c12
                have c12b1 : decide ((a1.extract (x7_1 : Int).toNat ((ji8) : Int).toNat).size + 1 ≤ 9223372036854775807) = true := decide_eq_true c12
                try have c12b2 : (9223372036854775807 < (a1.extract (x7_1 : Int).toNat ((ji8) : Int).toNat).size + 1) = False := eq_false (Nat.not_lt.2 c12)
                (try (have c12b7 := c12b2; rw [ByteArray.size_extract, Nat.min_eq_left (by have h_ : ji8 ≤ (a1.size : Int) := of_decide_eq_true (by assumption); omega)] at c12b7))
                try (have c12b3 := c12b2; simp only [ByteArray.size_extract, Nat.min_self, Nat.sub_zero] at c12b3)
                have H' := Aside0.mk H
                clear H
                go_wp2
                go_loopg [9] k1 (fun kq v9 w' => ∃ (x6_2 : List Int) (x9_2 : Int), v9 = .int .i64 x9_2 ∧ Aside0 (escutcheonref1_Tag.l1 kq a0 a1 t158 x6_2 x7_1 ((a1.extract (x7_1 : Int).toNat ((ji8) : Int).toNat) ++ (⟨#[1]⟩ : ByteArray)) x9_2 = some r) ∧ Aside0 (kq ≤ k1) ∧ Aside0 (Kd.R (Kd.int .i64) 3 w' w.heap.size (fun _ => True) u6 x6_2) ∧ Aside0 (Below w.heap.size w w'))
                case atStart => exact ⟨(x6_1), (0), (by first | rfl | (simp; done) | (simp [*]; done)), H', ⟨Nat.le_refl _⟩, ⟨by (with_reducible repeat (first | apply Kd.R_alloc | apply Kd.R_drewN | apply Kd.R_drew)); exact HO_6.out⟩, ⟨by repeat (first | (with_reducible first | exact HB.out | apply below_alloc | apply pw_below_drewN | apply below_drew1) | exact HB.out)⟩⟩
                case round =>
                  clear H'
                  try clear c1
                  try clear c2
                  try clear p2
                  try clear p6
                  try clear c7
                  try clear c7b0
                  try clear c9
                  try clear c9b0
                  try clear c9b1
                  try clear c10
                  try clear c10b0
                  try clear c10b1
                  try clear c11
                  try clear c11b0
                  try clear c11b1
                  try clear c12
                  try clear c12b0
                  try clear c12b1
                  try clear c12b2
                  try clear p2
                  obtain ⟨x6_2, x9_2, rfl, HA, HK2, HO_6, HB⟩ := hrel
                  cases gk with
                  | zero => exact absurd HA.out (by simp [escutcheonref1_Tag.l1])
                  | succ k2 =>
                    have H := HA.out
                    clear HA
                    simp only [escutcheonref1_Tag.l1] at H
                    by_cases c13 : x9_2 < (((a1.extract (x7_1 : Int).toNat ((ji8) : Int).toNat) ++ (⟨#[1]⟩ : ByteArray)).size : Int)
                    · rw [if_pos c13] at H
                      have c13b0 : decide (x9_2 < (((a1.extract (x7_1 : Int).toNat ((ji8) : Int).toNat) ++ (⟨#[1]⟩ : ByteArray)).size : Int)) = true := decide_eq_true c13
                      (try (have c13b8 := c13b0; rw [show (((a1.extract (x7_1 : Int).toNat ((ji8) : Int).toNat) ++ (⟨#[1]⟩ : ByteArray)).size : Int) = ((min ji8.toNat a1.size - x7_1.toNat : Nat) : Int) + 1 by rw [ByteArray.size_append, ByteArray.size_extract, Int.natCast_add]; rfl] at c13b8))
                      clear c13
                      by_cases c14 : 0 ≤ x9_2
                      · rw [if_pos c14] at H
                        have c14b0 : decide (0 ≤ x9_2) = true := decide_eq_true c14
                        clear c14
                        by_cases c15 : x9_2 < (x6_2.length : Int)
                        · rw [if_pos c15] at H
                          have c15b0 : decide (x9_2 < (x6_2.length : Int)) = true := decide_eq_true c15
                          clear c15
                          obtain ⟨y163, hy163⟩ : ∃ y_ : List Int, y_ = (x6_2.set (x9_2 : Int).toNat (wrap64 ((rd x6_2 x9_2) + (wrap64 (bt ((a1.extract (x7_1 : Int).toNat ((ji8) : Int).toNat) ++ (⟨#[1]⟩ : ByteArray)) x9_2))))) := ⟨_, rfl⟩
                          replace H : (escutcheonref1_Tag.l1 k2 a0 a1 t158 y163 x7_1 ((a1.extract (x7_1 : Int).toNat ((ji8) : Int).toNat) ++ (⟨#[1]⟩ : ByteArray)) (wrap64 (x9_2 + 1))) = some r := by first | (rw [hy163]; with_reducible exact H) | (have H2_ := (Option.bind_some _ _).symm.trans H; rw [hy163]; with_reducible exact H2_) | (have H2_ := (Option.bind_some _ _).symm.trans H; with_reducible exact H2_) | with_reducible exact H | (rw [hy163]; exact H) | exact H
                          have Ny163 := Aside0.mk hy163
                          clear hy163
                          have H' := Aside0.mk H
                          clear H
                          try go_wp2
                          have n0_ := Aside0.mk (Kd.R_drew HO_6.out)
                          have n1_ := Aside0.mk (below_drew1 HB.out)
                          clear HO_6
                          clear HB
                          have HO_6 := n0_
                          have HB := n1_
                          clear n0_ n1_
                          obtain ⟨Ao19, co19, eo19⟩ := Kd.R_slice HO_6.out
                          (first | subst eo19 | (injection eo19 with f1_ f2_ f3_; have f4_ := f1_.symm; have f5_ := f3_.symm; clear f1_ f2_ f3_; subst f4_; subst f5_))
                          have p162 : 0 ≤ (x9_2 : Int) := of_decide_eq_true (by first | (with_reducible assumption) | assumption)
                          have q162 : x9_2 < (x6_2.length : Int) := of_decide_eq_true (by first | (with_reducible assumption) | assumption)
                          obtain ⟨ad162, e162, hx162_0⟩ := Kd.at_int (Kd.R_reads' HO_6.out).2.2 x9_2 p162 q162
                          cases e162
                          replace p162 := eq_true p162
                          replace q162 := eq_true q162
                          have p16 : 0 ≤ (x9_2 : Int) := of_decide_eq_true (by first | (with_reducible assumption) | assumption)
                          have q16 : x9_2 < (((a1.extract (x7_1 : Int).toNat ((ji8) : Int).toNat) ++ (⟨#[1]⟩ : ByteArray)).size : Int) := of_decide_eq_true (by first | (with_reducible assumption) | assumption)
                          (try (have q16s := q16; rw [show (((a1.extract (x7_1 : Int).toNat ((ji8) : Int).toNat) ++ (⟨#[1]⟩ : ByteArray)).size : Int) = ((min ji8.toNat a1.size - x7_1.toNat : Nat) : Int) + 1 by rw [ByteArray.size_append, ByteArray.size_extract, Int.natCast_add]; rfl] at q16s; replace q16s := eq_true q16s))
                          have hx16 := bt_at ((a1.extract (x7_1 : Int).toNat ((ji8) : Int).toNat) ++ (⟨#[1]⟩ : ByteArray)) x9_2
                          replace p16 := eq_true p16
                          replace q16 := eq_true q16
                          have p17 : 0 ≤ (x9_2 : Int) := of_decide_eq_true (by first | (with_reducible assumption) | assumption)
                          have q17 : (x9_2 : Int) < ((x6_2.length : Int) : Int) := of_decide_eq_true (by first | (with_reducible assumption) | assumption)
                          obtain ⟨go17, co17, eo17, gb17, gl17, cl17, HG17⟩ := Kd.R_form HO_6.out (by omega)
                          (first | cases eo17 | (injection eo17 with ea_ en_ ec_; (first | subst ea_ | (injection ea_ with ea_; subst ea_)); subst ec_; clear en_))
                          have GB17 := Aside0.mk gb17
                          have GG17 := Aside0.mk HG17
                          clear gb17 gl17 HG17
                          (first | simp only [add_plain] at hx162_0 | skip)
                          obtain ⟨hx17_0, hf17_0⟩ := Kd.R_celln 0 HO_6.out (x9_2 : Int) p17 q17
                          replace p17 := eq_true p17
                          replace q17 := eq_true q17
                          have HP20 := Kd.R_putn HO_6.out (x9_2 : Int) (wrap64 ((rd x6_2 x9_2) + (wrap64 (bt ((a1.extract (x7_1 : Int).toNat ((ji8) : Int).toNat) ++ (⟨#[1]⟩ : ByteArray)) x9_2))))
                          rw [← Ny163.out] at HP20
                          have HQ20 := Aside0.mk HP20
                          clear HP20
                          refine start_ (n := 13) (S := fun w' => w'.cell? ⟨go17, (x9_2).toNat, none⟩ = some (.int .i64 (rd x6_2 x9_2))) (ds := [12]) #[false, false, false, false, false, false, false, false, false, false, false, false, false] (by kernel_rfl) rfl rfl (hx162_0) (fun hHeld => ?_); refine with_tabW escutcheonref1_Tag.tab11 escutcheonref1_Tag.bits11 (fun HT_ HW_ => ?_)
                          generalize wr.drew = w18 at HO_6 HB GG17 HQ20 hf17_0 hx162_0 hx17_0 hHeld ⊢
                          refine pure_ (i := 0) (N := some 42) (v := ?_) (a' := ?_) #[true, false, false, false, false, false, false, false, false, false, false, false, false] rfl rfl (any_of HT_.out (by kernel_rfl)) (fun _ _ _ h => h) (Or.inl ⟨by rfl, ?_⟩) ?_ ?_
                          rotate_left
                          · intro w'
                            go_simp
                            with_reducible rfl
                          rotate_left
                          · simp only [Act.put, List.setIfInBounds_toArray, List.set_cons_zero, List.set_cons_succ, i64_w, i32_w]
                            rfl
                          refine pure_ (i := 1) (N := some 43) (v := ?_) (a' := ?_) #[true, true, false, false, false, false, false, false, false, false, false, false, false] rfl rfl (any_of HT_.out (by kernel_rfl)) (fun _ _ _ h => h) (Or.inl ⟨by rfl, ?_⟩) ?_ ?_
                          rotate_left
                          · intro w'
                            go_simp
                            with_reducible rfl
                          rotate_left
                          · simp only [Act.put, List.setIfInBounds_toArray, List.set_cons_zero, List.set_cons_succ, i64_w, i32_w]
                            rfl
                          refine pure_ (i := 2) (N := some 44) (v := ?_) (a' := ?_) #[true, true, true, false, false, false, false, false, false, false, false, false, false] rfl rfl (any_of HT_.out (by kernel_rfl)) (fun _ _ _ h => h) (Or.inl ⟨by rfl, ?_⟩) ?_ ?_
                          rotate_left
                          · intro w'
                            go_simp
                            with_reducible rfl
                          rotate_left
                          · simp only [Act.put, List.setIfInBounds_toArray, List.set_cons_zero, List.set_cons_succ, i64_w, i32_w]
                            rfl
                          refine pure_ (i := 3) (N := some 45) (v := ?_) (a' := ?_) #[true, true, true, true, false, false, false, false, false, false, false, false, false] rfl rfl (any_of HT_.out (by kernel_rfl)) (fun _ _ _ h => h) (Or.inl ⟨by rfl, ?_⟩) ?_ ?_
                          rotate_left
                          · intro w'
                            go_simp
                            with_reducible rfl
                          rotate_left
                          · simp only [Act.put, List.setIfInBounds_toArray, List.set_cons_zero, List.set_cons_succ, i64_w, i32_w]
                            rfl
                          refine pure_ (i := 4) (N := some 46) (v := ?_) (a' := ?_) #[true, true, true, true, true, false, false, false, false, false, false, false, false] rfl rfl (any_of HT_.out (by kernel_rfl)) (fun _ _ _ h => h) (Or.inl ⟨by rfl, ?_⟩) ?_ ?_
                          rotate_left
                          · intro w'
                            go_simp
                            with_reducible rfl
                          rotate_left
                          · simp only [Act.put, List.setIfInBounds_toArray, List.set_cons_zero, List.set_cons_succ, i64_w, i32_w]
                            rfl
                          refine pure_ (i := 6) (N := some 48) (v := ?_) (a' := ?_) #[true, true, true, true, true, false, true, false, false, false, false, false, false] rfl rfl (any_of HT_.out (by kernel_rfl)) (fun _ _ _ h => h) (Or.inl ⟨by rfl, ?_⟩) ?_ ?_
                          rotate_left
                          · intro w'
                            go_simp
                            with_reducible rfl
                          rotate_left
                          · simp only [Act.put, List.setIfInBounds_toArray, List.set_cons_zero, List.set_cons_succ, i64_w, i32_w]
                            rfl
                          refine pure_ (i := 7) (N := some 49) (v := ?_) (a' := ?_) #[true, true, true, true, true, false, true, true, false, false, false, false, false] rfl rfl (any_of HT_.out (by kernel_rfl)) (fun _ _ _ h => h) (Or.inl ⟨by rfl, ?_⟩) ?_ ?_
                          rotate_left
                          · intro w'
                            go_simp
                            with_reducible rfl
                          rotate_left
                          · simp only [Act.put, List.setIfInBounds_toArray, List.set_cons_zero, List.set_cons_succ, i64_w, i32_w]
                            rfl
                          refine take_ (i := 5) (N := some 47) (v := ?_) (a' := ?_) #[true, true, true, true, true, true, true, true, false, false, false, false, false] rfl rfl (take_ofW HT_.out HW_.out (by kernel_rfl)) (fun _ _ _ h => h) (Or.inl ⟨by rfl, ?_⟩) hHeld ?_ ?_
                          rotate_left
                          · intro w' s0
                            go_simp
                            with_reducible rfl
                          rotate_left
                          · simp only [Act.put, List.setIfInBounds_toArray, List.set_cons_zero, List.set_cons_succ, i64_w, i32_w]
                            rfl
                          refine take_ (i := 8) (N := some 50) (v := ?_) (a' := ?_) #[true, true, true, true, true, true, true, true, true, false, false, false, false] rfl rfl (take_ofW HT_.out HW_.out (by kernel_rfl)) (fun _ _ _ h => h) (Or.inl ⟨by rfl, ?_⟩) hHeld ?_ ?_
                          rotate_left
                          · intro w' s0
                            go_simp
                            with_reducible rfl
                          rotate_left
                          · simp only [Act.put, List.setIfInBounds_toArray, List.set_cons_zero, List.set_cons_succ, i64_w, i32_w]
                            rfl
                          refine pure_ (i := 9) (N := some 51) (v := ?_) (a' := ?_) #[true, true, true, true, true, true, true, true, true, true, false, false, false] rfl rfl (any_of HT_.out (by kernel_rfl)) (fun _ _ _ h => h) (Or.inl ⟨by rfl, ?_⟩) ?_ ?_
                          rotate_left
                          · intro w'
                            go_simp
                            with_reducible rfl
                          rotate_left
                          · simp only [Act.put, List.setIfInBounds_toArray, List.set_cons_zero, List.set_cons_succ, i64_w, i32_w]
                            rfl
                          refine pure_ (i := 10) (N := some 52) (v := ?_) (a' := ?_) #[true, true, true, true, true, true, true, true, true, true, true, false, false] rfl rfl (any_of HT_.out (by kernel_rfl)) (fun _ _ _ h => h) (Or.inl ⟨by rfl, ?_⟩) ?_ ?_
                          rotate_left
                          · intro w'
                            go_simp
                            with_reducible rfl
                          rotate_left
                          · simp only [Act.put, List.setIfInBounds_toArray, List.set_cons_zero, List.set_cons_succ, i64_w, i32_w]
                            rfl
                          refine pure_ (i := 11) (N := some 53) (v := ?_) (a' := ?_) #[true, true, true, true, true, true, true, true, true, true, true, true, false] rfl rfl (any_of HT_.out (by kernel_rfl)) (fun _ _ _ h => h) (Or.inl ⟨by rfl, ?_⟩) ?_ ?_
                          rotate_left
                          · intro w'
                            go_simp
                            with_reducible rfl
                          rotate_left
                          · simp only [Act.put, List.setIfInBounds_toArray, List.set_cons_zero, List.set_cons_succ, i64_w, i32_w]
                            rfl
                          refine last_ (i := 12) (N := none) #[true, true, true, true, true, true, true, true, true, true, true, true, true] rfl rfl (one_of HT_.out (by kernel_rfl)) (by decide) (fun K hK => ?_)
                          refine skip_ (w1 := ?_) (by rfl) rfl ?_ ?_
                          rotate_left
                          · first | (go_simp; rfl) | (have hSC_ := @cell_set_blk; go_simp; rfl)
                          refine hK.out _ _ ?_
                          clear hK K
                          refine done_ (done_of HT_.out (by kernel_rfl)) ?_
                          try go_wp2
                          go_roundg k2
                          case measure => have := HK1.out; have := HK2.out; omega
                          case rel => exact ⟨(y163), (wrap64 (x9_2 + 1)), (by first | rfl | (simp; done) | (simp [*]; done)), H', ⟨by have := HK1.out; have := HK2.out; omega⟩, ⟨by (with_reducible repeat (first | apply Kd.R_alloc | apply Kd.R_drewN | apply Kd.R_drew)); exact HQ20.out⟩, ⟨by repeat (first | (with_reducible first | exact HB.out | apply below_alloc | apply pw_below_drewN | apply below_drew1 | refine below_set ?_ GB17.out) | exact HB.out)⟩⟩
                        · rw [if_neg c15] at H
                          exact absurd H (by simp)
                      · rw [if_neg c14] at H
                        exact absurd H (by simp)
                    · rw [if_neg c13] at H
                      have c13b0 : decide (x9_2 < (((a1.extract (x7_1 : Int).toNat ((ji8) : Int).toNat) ++ (⟨#[1]⟩ : ByteArray)).size : Int)) = false := decide_eq_false c13
                      (try (have c13b8 := c13b0; rw [show (((a1.extract (x7_1 : Int).toNat ((ji8) : Int).toNat) ++ (⟨#[1]⟩ : ByteArray)).size : Int) = ((min ji8.toNat a1.size - x7_1.toNat : Nat) : Int) + 1 by rw [ByteArray.size_append, ByteArray.size_extract, Int.natCast_add]; rfl] at c13b8))
                      clear c13
                      obtain ⟨ji21, hji21⟩ : ∃ j_ : Int, (wrap64 ((x6_2.length : Int) + 16)) = j_ := ⟨_, rfl⟩
                      replace H : (if 0 ≤ (ji21) then (if (ji21 : Int).toNat ≤ 35184372088832 then (escutcheonref1_Tag.l2 k2 a0 a1 t158 x6_2 x7_1 (List.replicate (ji21 : Int).toNat 0) 0) else (none)) else (none)) = some r := by first | (rw [hji21] at H; exact H) | (simp only [hji21] at H ⊢; exact H)
                      have hji21w : (IntKind.i64.wrap ((x6_2.length : Int) + 16)) = ji21 := (i64_w _).trans hji21
                      by_cases c22 : 0 ≤ (ji21)
                      · rw [if_pos c22] at H
                        have c22b0 := eq_true c22
                        have c22b1 : decide (0 ≤ (ji21)) = true := decide_eq_true c22
                        clear c22
                        by_cases c23 : (ji21 : Int).toNat ≤ 35184372088832
                        · rw [if_pos c23] at H
                          have c23b0 := eq_true c23
                          have c23b1 : decide ((ji21 : Int).toNat ≤ 35184372088832) = true := decide_eq_true c23
                          clear c23
                          obtain ⟨y164, hy164⟩ : ∃ y_ : List Int, y_ = (List.replicate (ji21 : Int).toNat 0) := ⟨_, rfl⟩
                          replace H : (escutcheonref1_Tag.l2 k2 a0 a1 t158 x6_2 x7_1 y164 0) = some r := by first | (rw [hy164]; with_reducible exact H) | (have H2_ := (Option.bind_some _ _).symm.trans H; rw [hy164]; with_reducible exact H2_) | (have H2_ := (Option.bind_some _ _).symm.trans H; with_reducible exact H2_) | with_reducible exact H | (rw [hy164]; exact H) | exact H
                          have Ny164 := Aside0.mk hy164
                          clear hy164
                          have H' := Aside0.mk H
                          clear H
                          obtain ⟨Ao24, co24, eo24⟩ := Kd.R_slice HO_6.out
                          subst eo24
                          go_wp2_with (first | ((with_reducible refine gate_dst (N := 57) rfl ?_); (try (refine gate_guard (by rfl) ?_; dsimp only)); refine Kd.R_make (Kd.int .i64) _ 3 rfl (N := 57) rfl 46 _ _ rfl ji21 rfl rfl Try.underlying46 (.int .i64 0) 8 info3 rfl (by decide) (by omega) 0 (ok := fun _ => True) (okp := fun _ => True) rfl (fun _ hk => hk) trivial (of_decide_eq_true (by first | (with_reducible assumption) | assumption)) (Nat.le_trans (Nat.mul_le_mul_right _ (of_decide_eq_true (by first | (with_reducible assumption) | assumption) : ji21.toNat ≤ 35184372088832)) (by omega)) (Below.refl _ _) (Nat.le_refl _) ?_; intro v165 w25 ho26 hb hg_ hnew_; clear hg_ hnew_; (first | rw [← Ny164.out] at ho26 | (simp only [Int.reduceToNat] at ho26; rw [← Ny164.out] at ho26)); have n0_ := Aside0.mk (Kd.R_elder' (by (with_reducible repeat (first | apply Kd.R_alloc | apply Kd.R_drewN | apply Kd.R_drew)); exact HO_6.out) (Kd.R_base ho26) hb); have n1_ := Aside0.mk (Kd.R_lower (Kd.R_new' ho26 (Kd.R_lt (by (with_reducible repeat (first | apply Kd.R_alloc | apply Kd.R_drewN | apply Kd.R_drew)); exact HO_6.out))) (below_size (by repeat (first | (with_reducible first | exact HB.out | apply below_alloc | apply pw_below_drewN | apply below_drew1) | exact HB.out)))); have n2_ := Aside0.mk (below_step (by repeat (first | (with_reducible first | exact HB.out | apply below_alloc | apply pw_below_drewN | apply below_drew1) | exact HB.out)) hb); clear HO_6; clear HB; have HO_6 := n0_; have HO166 := n1_; have HB := n2_; clear n0_ n1_ n2_; clear hb ho26))
                          go_loopg [11] k2 (fun kq v11 w' => ∃ (x10_3 : List Int) (x11_3 : Int), v11 = .int .i64 x11_3 ∧ Aside0 (escutcheonref1_Tag.l2 kq a0 a1 t158 x6_2 x7_1 x10_3 x11_3 = some r) ∧ Aside0 (kq ≤ k2) ∧ Aside0 (Kd.R (Kd.int .i64) 3 w' w.heap.size (fun k_ => some k_ ≠ (v165 : Value).ownBlock) (.slice Ao24 x6_2.length co24) x6_2) ∧ Aside0 (Kd.R (Kd.int .i64) 3 w' w.heap.size (fun k_ => some k_ ≠ ((.slice Ao24 x6_2.length co24) : Value).ownBlock) v165 x10_3) ∧ Aside0 (Below w.heap.size w w'))
                          case atStart => exact ⟨(y164), (0), (by first | rfl | (simp; done) | (simp [*]; done)), H', ⟨Nat.le_refl _⟩, ⟨by (with_reducible repeat (first | apply Kd.R_alloc | apply Kd.R_drewN | apply Kd.R_drew)); exact Kd.R_mono HO_6.out (fun _ hk => hk.2)⟩, ⟨by (with_reducible repeat (first | apply Kd.R_alloc | apply Kd.R_drewN | apply Kd.R_drew)); exact Kd.R_mono HO166.out (fun _ hk => hk.2)⟩, ⟨by repeat (first | (with_reducible first | exact HB.out | apply below_alloc | apply pw_below_drewN | apply below_drew1) | exact HB.out)⟩⟩
                          case round =>
                            clear H'
                            try clear c1
                            try clear p1
                            try clear q1
                            try clear hx1
                            try clear c2
                            try clear p2
                            try clear p6
                            try clear c7
                            try clear c7b0
                            try clear c9
                            try clear c9b0
                            try clear c9b1
                            try clear c10
                            try clear c10b0
                            try clear c10b1
                            try clear c11
                            try clear c11b0
                            try clear c11b1
                            try clear c12
                            try clear c12b0
                            try clear c12b1
                            try clear c12b2
                            try clear c13
                            try clear c13b0
                            try clear c14
                            try clear c14b0
                            try clear c15
                            try clear c15b0
                            try clear p16
                            try clear q16
                            try clear hx16
                            try clear p17
                            try clear q17
                            try clear hx17
                            try clear hf17
                            try clear c22
                            try clear c22b0
                            try clear c22b1
                            try clear c23
                            try clear c23b0
                            try clear c23b1
                            try clear c25
                            try clear hx162_0
                            try clear hx17_0
                            try clear p16
                            try clear p162
                            try clear p17
                            try clear p2
                            try clear p6
                            try clear q16
                            try clear q162
                            try clear q17
                            obtain ⟨x10_3, x11_3, rfl, HA, HK3, HO_6, HO_10, HB⟩ := hrel
                            cases gk with
                            | zero => exact absurd HA.out (by simp [escutcheonref1_Tag.l2])
                            | succ k3 =>
                              have H := HA.out
                              clear HA
                              simp only [escutcheonref1_Tag.l2] at H
                              by_cases c27 : x11_3 < (x6_2.length : Int)
                              · rw [if_pos c27] at H
                                have c27b0 : decide (x11_3 < (x6_2.length : Int)) = true := decide_eq_true c27
                                clear c27
                                have H' := Aside0.mk H
                                clear H
                                go_wp2
                                go_loopg [12] k3 (fun kq v12 w' => ∃ (x10_4 : List Int) (x12_4 : Int), v12 = .int .i64 x12_4 ∧ Aside0 (escutcheonref1_Tag.l3 kq a0 a1 t158 x6_2 x7_1 x10_4 x11_3 x12_4 = some r) ∧ Aside0 (kq ≤ k3) ∧ Aside0 (Kd.R (Kd.int .i64) 3 w' w.heap.size (fun k_ => some k_ ≠ (v165 : Value).ownBlock) (.slice Ao24 x6_2.length co24) x6_2) ∧ Aside0 (Kd.R (Kd.int .i64) 3 w' w.heap.size (fun k_ => some k_ ≠ ((.slice Ao24 x6_2.length co24) : Value).ownBlock) v165 x10_4) ∧ Aside0 (Below w.heap.size w w'))
                                case atStart => exact ⟨(x10_3), (0), (by first | rfl | (simp; done) | (simp [*]; done)), H', ⟨Nat.le_refl _⟩, ⟨by (with_reducible repeat (first | apply Kd.R_alloc | apply Kd.R_drewN | apply Kd.R_drew)); exact HO_6.out⟩, ⟨by (with_reducible repeat (first | apply Kd.R_alloc | apply Kd.R_drewN | apply Kd.R_drew)); exact HO_10.out⟩, ⟨by repeat (first | (with_reducible first | exact HB.out | apply below_alloc | apply pw_below_drewN | apply below_drew1) | exact HB.out)⟩⟩
                                case round =>
                                  clear H'
                                  try clear c1
                                  try clear p1
                                  try clear q1
                                  try clear hx1
                                  try clear c2
                                  try clear p2
                                  try clear p6
                                  try clear c7
                                  try clear c7b0
                                  try clear c9
                                  try clear c9b0
                                  try clear c9b1
                                  try clear c10
                                  try clear c10b0
                                  try clear c10b1
                                  try clear c11
                                  try clear c11b0
                                  try clear c11b1
                                  try clear c12
                                  try clear c12b0
                                  try clear c12b1
                                  try clear c12b2
                                  try clear c13
                                  try clear c13b0
                                  try clear c14
                                  try clear c14b0
                                  try clear c15
                                  try clear c15b0
                                  try clear p16
                                  try clear q16
                                  try clear hx16
                                  try clear p17
                                  try clear q17
                                  try clear hx17
                                  try clear hf17
                                  try clear c22
                                  try clear c22b0
                                  try clear c22b1
                                  try clear c23
                                  try clear c23b0
                                  try clear c23b1
                                  try clear c25
                                  try clear c27
                                  try clear c27b0
                                  try clear hx162_0
                                  try clear hx17_0
                                  try clear p1
                                  try clear p16
                                  try clear p162
                                  try clear p17
                                  try clear p2
                                  try clear p6
                                  try clear q1
                                  try clear q16
                                  try clear q162
                                  try clear q17
                                  obtain ⟨x10_4, x12_4, rfl, HA, HK4, HO_6, HO_10, HB⟩ := hrel
                                  cases gk with
                                  | zero => exact absurd HA.out (by simp [escutcheonref1_Tag.l3])
                                  | succ k4 =>
                                    have H := HA.out
                                    clear HA
                                    simp only [escutcheonref1_Tag.l3] at H
                                    by_cases c28 : x12_4 < 16
                                    · rw [if_pos c28] at H
                                      have c28b0 : decide (x12_4 < 16) = true := decide_eq_true c28
                                      clear c28
                                      obtain ⟨ji29, hji29⟩ : ∃ j_ : Int, (wrap64 (x11_3 + x12_4)) = j_ := ⟨_, rfl⟩
                                      replace H : (if 0 ≤ (ji29) then (if (ji29) < (x10_4.length : Int) then (if 0 ≤ x11_3 then (if x11_3 < (x6_2.length : Int) then (if 0 ≤ x12_4 then (if x12_4 < (t158.size : Int) then (escutcheonref1_Tag.l3 k4 a0 a1 t158 x6_2 x7_1 (x10_4.set ((ji29) : Int).toNat (wrap64 ((rd x10_4 (ji29)) + (wrap64 ((rd x6_2 x11_3) * (wrap64 (bt t158 x12_4))))))) x11_3 (wrap64 (x12_4 + 1))) else (none)) else (none)) else (none)) else (none)) else (none)) else (none)) = some r := by first | (rw [hji29] at H; exact H) | (simp only [hji29] at H ⊢; exact H)
                                      have hji29w : (IntKind.i64.wrap (x11_3 + x12_4)) = ji29 := (i64_w _).trans hji29
                                      by_cases c30 : 0 ≤ (ji29)
                                      · rw [if_pos c30] at H
                                        have c30b0 : decide (0 ≤ (ji29)) = true := decide_eq_true c30
                                        clear c30
                                        by_cases c31 : (ji29) < (x10_4.length : Int)
                                        · rw [if_pos c31] at H
                                          have c31b0 : decide ((ji29) < (x10_4.length : Int)) = true := decide_eq_true c31
                                          clear c31
                                          by_cases c32 : 0 ≤ x11_3
                                          · rw [if_pos c32] at H
                                            have c32b0 : decide (0 ≤ x11_3) = true := decide_eq_true c32
                                            clear c32
                                            by_cases c33 : x11_3 < (x6_2.length : Int)
                                            · rw [if_pos c33] at H
                                              have c33b0 : decide (x11_3 < (x6_2.length : Int)) = true := decide_eq_true c33
                                              clear c33
                                              by_cases c34 : 0 ≤ x12_4
                                              · rw [if_pos c34] at H
                                                have c34b0 : decide (0 ≤ x12_4) = true := decide_eq_true c34
                                                clear c34
                                                by_cases c35 : x12_4 < (t158.size : Int)
                                                · rw [if_pos c35] at H
                                                  have c35b0 : decide (x12_4 < (t158.size : Int)) = true := decide_eq_true c35
                                                  clear c35
                                                  obtain ⟨y172, hy172⟩ : ∃ y_ : List Int, y_ = (x10_4.set ((ji29) : Int).toNat (wrap64 ((rd x10_4 (ji29)) + (wrap64 ((rd x6_2 x11_3) * (wrap64 (bt t158 x12_4))))))) := ⟨_, rfl⟩
                                                  replace H : (escutcheonref1_Tag.l3 k4 a0 a1 t158 x6_2 x7_1 y172 x11_3 (wrap64 (x12_4 + 1))) = some r := by first | (rw [hy172]; with_reducible exact H) | (have H2_ := (Option.bind_some _ _).symm.trans H; rw [hy172]; with_reducible exact H2_) | (have H2_ := (Option.bind_some _ _).symm.trans H; with_reducible exact H2_) | with_reducible exact H | (rw [hy172]; exact H) | exact H
                                                  have Ny172 := Aside0.mk hy172
                                                  clear hy172
                                                  have H' := Aside0.mk H
                                                  clear H
                                                  try go_wp2
                                                  have n0_ := Aside0.mk (Kd.R_drew HO_6.out)
                                                  have n1_ := Aside0.mk (Kd.R_drew HO_10.out)
                                                  have n2_ := Aside0.mk (below_drew1 HB.out)
                                                  clear HO_6
                                                  clear HO_10
                                                  clear HB
                                                  have HO_6 := n0_
                                                  have HO_10 := n1_
                                                  have HB := n2_
                                                  clear n0_ n1_ n2_
                                                  obtain ⟨Ao39, co39, eo39⟩ := Kd.R_slice HO_10.out
                                                  (first | subst eo39 | (injection eo39 with f1_ f2_ f3_; have f4_ := f1_.symm; have f5_ := f3_.symm; clear f1_ f2_ f3_; subst f4_; subst f5_))
                                                  have p170 : 0 ≤ ((ji29) : Int) := of_decide_eq_true (by first | (with_reducible assumption) | assumption)
                                                  have q170 : (ji29) < (x10_4.length : Int) := of_decide_eq_true (by first | (with_reducible assumption) | assumption)
                                                  obtain ⟨ad170, e170, hx170_0⟩ := Kd.at_int (Kd.R_reads' HO_10.out).2.2 (ji29) p170 q170
                                                  cases e170
                                                  replace p170 := eq_true p170
                                                  replace q170 := eq_true q170
                                                  have p171 : 0 ≤ (x11_3 : Int) := of_decide_eq_true (by first | (with_reducible assumption) | assumption)
                                                  have q171 : x11_3 < (x6_2.length : Int) := of_decide_eq_true (by first | (with_reducible assumption) | assumption)
                                                  obtain ⟨ad171, e171, hx171_0⟩ := Kd.at_int (Kd.R_reads' HO_6.out).2.2 x11_3 p171 q171
                                                  cases e171
                                                  replace p171 := eq_true p171
                                                  replace q171 := eq_true q171
                                                  have p36 : 0 ≤ (x12_4 : Int) := of_decide_eq_true (by first | (with_reducible assumption) | assumption)
                                                  have q36 : x12_4 < (t158.size : Int) := of_decide_eq_true (by first | (with_reducible assumption) | assumption)
                                                  have hx36 := bt_at t158 x12_4
                                                  replace p36 := eq_true p36
                                                  replace q36 := eq_true q36
                                                  have p37 : 0 ≤ ((ji29) : Int) := of_decide_eq_true (by first | (with_reducible assumption) | assumption)
                                                  have q37 : ((ji29) : Int) < ((x10_4.length : Int) : Int) := of_decide_eq_true (by first | (with_reducible assumption) | assumption)
                                                  obtain ⟨go37, co37, eo37, gb37, gl37, cl37, HG37⟩ := Kd.R_form HO_10.out (by omega)
                                                  (first | cases eo37 | (injection eo37 with ea_ en_ ec_; (first | subst ea_ | (injection ea_ with ea_; subst ea_)); subst ec_; clear en_))
                                                  have GB37 := Aside0.mk gb37
                                                  have GG37 := Aside0.mk HG37
                                                  clear gb37 gl37 HG37
                                                  (first | simp only [add_plain] at hx170_0 | skip)
                                                  obtain ⟨hx37_0, hf37_0⟩ := Kd.R_celln 0 HO_10.out ((ji29) : Int) p37 q37
                                                  replace p37 := eq_true p37
                                                  replace q37 := eq_true q37
                                                  have HP40 := Kd.R_putn HO_10.out ((ji29) : Int) (wrap64 ((rd x10_4 (ji29)) + (wrap64 ((rd x6_2 x11_3) * (wrap64 (bt t158 x12_4))))))
                                                  rw [← Ny172.out] at HP40
                                                  have HQ40 := Aside0.mk HP40
                                                  clear HP40
                                                  refine start_ (n := 22) (S := fun w' => w'.cell? ⟨go37, ((ji29)).toNat, none⟩ = some (.int .i64 (rd x10_4 (ji29))) ∧ w'.cell? (ad171.add (x11_3).toNat) = some (.int .i64 (rd x6_2 x11_3))) (ds := [21]) #[false, false, false, false, false, false, false, false, false, false, false, false, false, false, false, false, false, false, false, false, false, false] (by kernel_rfl) rfl rfl ⟨hx170_0, hx171_0⟩ (fun hHeld => ?_); refine with_tabW escutcheonref1_Tag.tab19 escutcheonref1_Tag.bits19 (fun HT_ HW_ => ?_)
                                                  generalize wr.drew = w38 at HO_6 HO_10 HB GG37 HQ40 hf37_0 hx170_0 hx171_0 hx37_0 hHeld ⊢
                                                  refine pure_ (i := 0) (N := some 68) (v := ?_) (a' := ?_) #[true, false, false, false, false, false, false, false, false, false, false, false, false, false, false, false, false, false, false, false, false, false] rfl rfl (any_of HT_.out (by kernel_rfl)) (fun _ _ _ h => h) (Or.inl ⟨by rfl, ?_⟩) ?_ ?_
                                                  rotate_left
                                                  · intro w'
                                                    go_simp
                                                    with_reducible rfl
                                                  rotate_left
                                                  · simp only [Act.put, List.setIfInBounds_toArray, List.set_cons_zero, List.set_cons_succ, i64_w, i32_w]
                                                    rfl
                                                  refine pure_ (i := 1) (N := some 69) (v := ?_) (a' := ?_) #[true, true, false, false, false, false, false, false, false, false, false, false, false, false, false, false, false, false, false, false, false, false] rfl rfl (any_of HT_.out (by kernel_rfl)) (fun _ _ _ h => h) (Or.inl ⟨by rfl, ?_⟩) ?_ ?_
                                                  rotate_left
                                                  · intro w'
                                                    go_simp
                                                    with_reducible rfl
                                                  rotate_left
                                                  · simp only [Act.put, List.setIfInBounds_toArray, List.set_cons_zero, List.set_cons_succ, i64_w, i32_w]
                                                    rfl
                                                  refine pure_ (i := 2) (N := some 70) (v := ?_) (a' := ?_) #[true, true, true, false, false, false, false, false, false, false, false, false, false, false, false, false, false, false, false, false, false, false] rfl rfl (any_of HT_.out (by kernel_rfl)) (fun _ _ _ h => h) (Or.inl ⟨by rfl, ?_⟩) ?_ ?_
                                                  rotate_left
                                                  · intro w'
                                                    go_simp
                                                    with_reducible rfl
                                                  rotate_left
                                                  · simp only [Act.put, List.setIfInBounds_toArray, List.set_cons_zero, List.set_cons_succ, i64_w, i32_w]
                                                    rfl
                                                  refine pure_ (i := 3) (N := some 71) (v := ?_) (a' := ?_) #[true, true, true, true, false, false, false, false, false, false, false, false, false, false, false, false, false, false, false, false, false, false] rfl rfl (any_of HT_.out (by kernel_rfl)) (fun _ _ _ h => h) (Or.inl ⟨by rfl, ?_⟩) ?_ ?_
                                                  rotate_left
                                                  · intro w'
                                                    go_simp
                                                    with_reducible rfl
                                                  rotate_left
                                                  · simp only [Act.put, List.setIfInBounds_toArray, List.set_cons_zero, List.set_cons_succ, i64_w, i32_w]
                                                    rfl
                                                  refine pure_ (i := 4) (N := some 72) (v := ?_) (a' := ?_) #[true, true, true, true, true, false, false, false, false, false, false, false, false, false, false, false, false, false, false, false, false, false] rfl rfl (any_of HT_.out (by kernel_rfl)) (fun _ _ _ h => h) (Or.inl ⟨by rfl, ?_⟩) ?_ ?_
                                                  rotate_left
                                                  · intro w'
                                                    go_simp
                                                    with_reducible rfl
                                                  rotate_left
                                                  · simp only [Act.put, List.setIfInBounds_toArray, List.set_cons_zero, List.set_cons_succ, i64_w, i32_w]
                                                    rfl
                                                  refine pure_ (i := 5) (N := some 73) (v := ?_) (a' := ?_) #[true, true, true, true, true, true, false, false, false, false, false, false, false, false, false, false, false, false, false, false, false, false] rfl rfl (any_of HT_.out (by kernel_rfl)) (fun _ _ _ h => h) (Or.inl ⟨by rfl, ?_⟩) ?_ ?_
                                                  rotate_left
                                                  · intro w'
                                                    go_simp
                                                    with_reducible rfl
                                                  rotate_left
                                                  · simp only [Act.put, List.setIfInBounds_toArray, List.set_cons_zero, List.set_cons_succ, i64_w, i32_w]
                                                    rfl
                                                  refine pure_ (i := 6) (N := some 74) (v := ?_) (a' := ?_) #[true, true, true, true, true, true, true, false, false, false, false, false, false, false, false, false, false, false, false, false, false, false] rfl rfl (any_of HT_.out (by kernel_rfl)) (fun _ _ _ h => h) (Or.inl ⟨by rfl, ?_⟩) ?_ ?_
                                                  rotate_left
                                                  · intro w'
                                                    go_simp
                                                    with_reducible rfl
                                                  rotate_left
                                                  · simp only [Act.put, List.setIfInBounds_toArray, List.set_cons_zero, List.set_cons_succ, i64_w, i32_w]
                                                    rfl
                                                  refine pure_ (i := 7) (N := some 75) (v := ?_) (a' := ?_) #[true, true, true, true, true, true, true, true, false, false, false, false, false, false, false, false, false, false, false, false, false, false] rfl rfl (any_of HT_.out (by kernel_rfl)) (fun _ _ _ h => h) (Or.inl ⟨by rfl, ?_⟩) ?_ ?_
                                                  rotate_left
                                                  · intro w'
                                                    go_simp
                                                    with_reducible rfl
                                                  rotate_left
                                                  · simp only [Act.put, List.setIfInBounds_toArray, List.set_cons_zero, List.set_cons_succ, i64_w, i32_w]
                                                    rfl
                                                  refine pure_ (i := 8) (N := some 76) (v := ?_) (a' := ?_) #[true, true, true, true, true, true, true, true, true, false, false, false, false, false, false, false, false, false, false, false, false, false] rfl rfl (any_of HT_.out (by kernel_rfl)) (fun _ _ _ h => h) (Or.inl ⟨by rfl, ?_⟩) ?_ ?_
                                                  rotate_left
                                                  · intro w'
                                                    go_simp
                                                    with_reducible rfl
                                                  rotate_left
                                                  · simp only [Act.put, List.setIfInBounds_toArray, List.set_cons_zero, List.set_cons_succ, i64_w, i32_w]
                                                    rfl
                                                  refine pure_ (i := 10) (N := some 78) (v := ?_) (a' := ?_) #[true, true, true, true, true, true, true, true, true, false, true, false, false, false, false, false, false, false, false, false, false, false] rfl rfl (any_of HT_.out (by kernel_rfl)) (fun _ _ _ h => h) (Or.inl ⟨by rfl, ?_⟩) ?_ ?_
                                                  rotate_left
                                                  · intro w'
                                                    go_simp
                                                    with_reducible rfl
                                                  rotate_left
                                                  · simp only [Act.put, List.setIfInBounds_toArray, List.set_cons_zero, List.set_cons_succ, i64_w, i32_w]
                                                    rfl
                                                  refine pure_ (i := 11) (N := some 79) (v := ?_) (a' := ?_) #[true, true, true, true, true, true, true, true, true, false, true, true, false, false, false, false, false, false, false, false, false, false] rfl rfl (any_of HT_.out (by kernel_rfl)) (fun _ _ _ h => h) (Or.inl ⟨by rfl, ?_⟩) ?_ ?_
                                                  rotate_left
                                                  · intro w'
                                                    go_simp
                                                    with_reducible rfl
                                                  rotate_left
                                                  · simp only [Act.put, List.setIfInBounds_toArray, List.set_cons_zero, List.set_cons_succ, i64_w, i32_w]
                                                    rfl
                                                  refine pure_ (i := 12) (N := some 80) (v := ?_) (a' := ?_) #[true, true, true, true, true, true, true, true, true, false, true, true, true, false, false, false, false, false, false, false, false, false] rfl rfl (any_of HT_.out (by kernel_rfl)) (fun _ _ _ h => h) (Or.inl ⟨by rfl, ?_⟩) ?_ ?_
                                                  rotate_left
                                                  · intro w'
                                                    go_simp
                                                    with_reducible rfl
                                                  rotate_left
                                                  · simp only [Act.put, List.setIfInBounds_toArray, List.set_cons_zero, List.set_cons_succ, i64_w, i32_w]
                                                    rfl
                                                  refine pure_ (i := 14) (N := some 82) (v := ?_) (a' := ?_) #[true, true, true, true, true, true, true, true, true, false, true, true, true, false, true, false, false, false, false, false, false, false] rfl rfl (any_of HT_.out (by kernel_rfl)) (fun _ _ _ h => h) (Or.inl ⟨by rfl, ?_⟩) ?_ ?_
                                                  rotate_left
                                                  · intro w'
                                                    go_simp
                                                    with_reducible rfl
                                                  rotate_left
                                                  · simp only [Act.put, List.setIfInBounds_toArray, List.set_cons_zero, List.set_cons_succ, i64_w, i32_w]
                                                    rfl
                                                  refine pure_ (i := 15) (N := some 83) (v := ?_) (a' := ?_) #[true, true, true, true, true, true, true, true, true, false, true, true, true, false, true, true, false, false, false, false, false, false] rfl rfl (any_of HT_.out (by kernel_rfl)) (fun _ _ _ h => h) (Or.inl ⟨by rfl, ?_⟩) ?_ ?_
                                                  rotate_left
                                                  · intro w'
                                                    go_simp
                                                    with_reducible rfl
                                                  rotate_left
                                                  · simp only [Act.put, List.setIfInBounds_toArray, List.set_cons_zero, List.set_cons_succ, i64_w, i32_w]
                                                    rfl
                                                  refine take_ (i := 9) (N := some 77) (v := ?_) (a' := ?_) #[true, true, true, true, true, true, true, true, true, true, true, true, true, false, true, true, false, false, false, false, false, false] rfl rfl (take_ofW HT_.out HW_.out (by kernel_rfl)) (fun _ _ _ h => h) (Or.inl ⟨by rfl, ?_⟩) hHeld ?_ ?_
                                                  rotate_left
                                                  · rintro w' ⟨s0, s1⟩
                                                    go_simp
                                                    with_reducible rfl
                                                  rotate_left
                                                  · simp only [Act.put, List.setIfInBounds_toArray, List.set_cons_zero, List.set_cons_succ, i64_w, i32_w]
                                                    rfl
                                                  refine take_ (i := 13) (N := some 81) (v := ?_) (a' := ?_) #[true, true, true, true, true, true, true, true, true, true, true, true, true, true, true, true, false, false, false, false, false, false] rfl rfl (take_ofW HT_.out HW_.out (by kernel_rfl)) (fun _ _ _ h => h) (Or.inl ⟨by rfl, ?_⟩) hHeld ?_ ?_
                                                  rotate_left
                                                  · rintro w' ⟨s0, s1⟩
                                                    go_simp
                                                    with_reducible rfl
                                                  rotate_left
                                                  · simp only [Act.put, List.setIfInBounds_toArray, List.set_cons_zero, List.set_cons_succ, i64_w, i32_w]
                                                    rfl
                                                  refine take_ (i := 16) (N := some 84) (v := ?_) (a' := ?_) #[true, true, true, true, true, true, true, true, true, true, true, true, true, true, true, true, true, false, false, false, false, false] rfl rfl (take_ofW HT_.out HW_.out (by kernel_rfl)) (fun _ _ _ h => h) (Or.inl ⟨by rfl, ?_⟩) hHeld ?_ ?_
                                                  rotate_left
                                                  · rintro w' ⟨s0, s1⟩
                                                    go_simp
                                                    with_reducible rfl
                                                  rotate_left
                                                  · simp only [Act.put, List.setIfInBounds_toArray, List.set_cons_zero, List.set_cons_succ, i64_w, i32_w]
                                                    rfl
                                                  refine pure_ (i := 17) (N := some 85) (v := ?_) (a' := ?_) #[true, true, true, true, true, true, true, true, true, true, true, true, true, true, true, true, true, true, false, false, false, false] rfl rfl (any_of HT_.out (by kernel_rfl)) (fun _ _ _ h => h) (Or.inl ⟨by rfl, ?_⟩) ?_ ?_
                                                  rotate_left
                                                  · intro w'
                                                    go_simp
                                                    with_reducible rfl
                                                  rotate_left
                                                  · simp only [Act.put, List.setIfInBounds_toArray, List.set_cons_zero, List.set_cons_succ, i64_w, i32_w]
                                                    rfl
                                                  refine pure_ (i := 18) (N := some 86) (v := ?_) (a' := ?_) #[true, true, true, true, true, true, true, true, true, true, true, true, true, true, true, true, true, true, true, false, false, false] rfl rfl (any_of HT_.out (by kernel_rfl)) (fun _ _ _ h => h) (Or.inl ⟨by rfl, ?_⟩) ?_ ?_
                                                  rotate_left
                                                  · intro w'
                                                    go_simp
                                                    with_reducible rfl
                                                  rotate_left
                                                  · simp only [Act.put, List.setIfInBounds_toArray, List.set_cons_zero, List.set_cons_succ, i64_w, i32_w]
                                                    rfl
                                                  refine pure_ (i := 19) (N := some 87) (v := ?_) (a' := ?_) #[true, true, true, true, true, true, true, true, true, true, true, true, true, true, true, true, true, true, true, true, false, false] rfl rfl (any_of HT_.out (by kernel_rfl)) (fun _ _ _ h => h) (Or.inl ⟨by rfl, ?_⟩) ?_ ?_
                                                  rotate_left
                                                  · intro w'
                                                    go_simp
                                                    with_reducible rfl
                                                  rotate_left
                                                  · simp only [Act.put, List.setIfInBounds_toArray, List.set_cons_zero, List.set_cons_succ, i64_w, i32_w]
                                                    rfl
                                                  refine pure_ (i := 20) (N := some 88) (v := ?_) (a' := ?_) #[true, true, true, true, true, true, true, true, true, true, true, true, true, true, true, true, true, true, true, true, true, false] rfl rfl (any_of HT_.out (by kernel_rfl)) (fun _ _ _ h => h) (Or.inl ⟨by rfl, ?_⟩) ?_ ?_
                                                  rotate_left
                                                  · intro w'
                                                    go_simp
                                                    with_reducible rfl
                                                  rotate_left
                                                  · simp only [Act.put, List.setIfInBounds_toArray, List.set_cons_zero, List.set_cons_succ, i64_w, i32_w]
                                                    rfl
                                                  refine last_ (i := 21) (N := none) #[true, true, true, true, true, true, true, true, true, true, true, true, true, true, true, true, true, true, true, true, true, true] rfl rfl (one_of HT_.out (by kernel_rfl)) (by decide) (fun K hK => ?_)
                                                  refine skip_ (w1 := ?_) (by rfl) rfl ?_ ?_
                                                  rotate_left
                                                  · first | (go_simp; rfl) | (have hSC_ := @cell_set_blk; go_simp; rfl)
                                                  refine hK.out _ _ ?_
                                                  clear hK K
                                                  refine done_ (done_of HT_.out (by kernel_rfl)) ?_
                                                  try go_wp2
                                                  go_roundg k4
                                                  case measure => have := HK1.out; have := HK2.out; have := HK3.out; have := HK4.out; omega
                                                  case rel => exact ⟨(y172), (wrap64 (x12_4 + 1)), (by first | rfl | (simp; done) | (simp [*]; done)), H', ⟨by have := HK1.out; have := HK2.out; have := HK3.out; have := HK4.out; omega⟩, ⟨by (with_reducible repeat (first | apply Kd.R_alloc | apply Kd.R_drewN | apply Kd.R_drew)); exact Kd.R_mono (Kd.R_far (p := ⟨go37, ((ji29) : Int).toNat, none⟩) (Kd.R_mono HO_6.out (fun k_ hk => (⟨hk, fun e_ => hk (by rw [e_]; rfl)⟩ : _ ∧ k_ ≠ go37))) (fun _ hk => hk.2) (.int .i64 (wrap64 ((rd x10_4 (ji29)) + (wrap64 ((rd x6_2 x11_3) * (wrap64 (bt t158 x12_4)))))))) (fun _ hk => hk.1)⟩, ⟨by (with_reducible repeat (first | apply Kd.R_alloc | apply Kd.R_drewN | apply Kd.R_drew)); exact HQ40.out⟩, ⟨by repeat (first | (with_reducible first | exact HB.out | apply below_alloc | apply pw_below_drewN | apply below_drew1 | refine below_set ?_ GB37.out) | exact HB.out)⟩⟩
                                                · rw [if_neg c35] at H
                                                  exact absurd H (by simp)
                                              · rw [if_neg c34] at H
                                                exact absurd H (by simp)
                                            · rw [if_neg c33] at H
                                              exact absurd H (by simp)
                                          · rw [if_neg c32] at H
                                            exact absurd H (by simp)
                                        · rw [if_neg c31] at H
                                          exact absurd H (by simp)
                                      · rw [if_neg c30] at H
                                        exact absurd H (by simp)
                                    · rw [if_neg c28] at H
                                      have c28b0 : decide (x12_4 < 16) = false := decide_eq_false c28
                                      clear c28
                                      have H' := Aside0.mk H
                                      clear H
                                      go_wp2
                                      go_roundg k4
                                      case measure => have := HK1.out; have := HK2.out; have := HK3.out; have := HK4.out; omega
                                      case rel => exact ⟨(x10_4), (wrap64 (x11_3 + 1)), (by first | rfl | (simp; done) | (simp [*]; done)), H', ⟨by have := HK1.out; have := HK2.out; have := HK3.out; have := HK4.out; omega⟩, ⟨by (with_reducible repeat (first | apply Kd.R_alloc | apply Kd.R_drewN | apply Kd.R_drew)); exact HO_6.out⟩, ⟨by (with_reducible repeat (first | apply Kd.R_alloc | apply Kd.R_drewN | apply Kd.R_drew)); exact HO_10.out⟩, ⟨by repeat (first | (with_reducible first | exact HB.out | apply below_alloc | apply pw_below_drewN | apply below_drew1) | exact HB.out)⟩⟩
                              · rw [if_neg c27] at H
                                have c27b0 : decide (x11_3 < (x6_2.length : Int)) = false := decide_eq_false c27
                                clear c27
                                replace H := Option.bind_eq_some_iff.mp H
                                obtain ⟨t167, A410, H⟩ := H
                                replace H : (escutcheonref1_Tag.l0 k3 a0 a1 t158 t167 (wrap64 (x7_1 + 16))) = some r := H
                                have A41 := Aside0.mk A410
                                clear A410
                                have H' := Aside0.mk H
                                clear H
                                obtain ⟨Ao42, co42, eo42⟩ := Kd.R_slice HO_10.out
                                subst eo42
                                go_wp2_with (first | ((with_reducible refine gate_callee (f := 26) rfl ?_); refine goesL_ (some 90) rfl rfl Try.func26 (by kernel_rfl) rfl #[.slice Ao42 x10_3.length co42] rfl (by (try simp only [List.map_toArray, List.map_cons, List.map_nil]); first | done | rfl | (simp only [List.length_drop, List.length_take]; rfl)) ?_; (with_reducible refine (escutcheonref1_fold.calls k3 (fun k_ => some k_ = (.slice Ao42 x10_3.length co42 : Value).ownBlock) _ _ x10_3 t167 _ ?side1 A41.out).mono ?_); (case side1 => exact Kd.R_V (Kd.R_tight rfl (HO_10.out))); rintro e w43 ⟨v168, rfl, ho0, hb⟩; refine ⟨_, rfl, ?_⟩; have n0_ := Aside0.mk (Kd.R_elder' (by (with_reducible repeat (first | apply Kd.R_alloc | apply Kd.R_drewN | apply Kd.R_drew)); exact HO_6.out) (Kd.R_base ho0) hb); have n1_ := Aside0.mk (Kd.R_elder' (by (with_reducible repeat (first | apply Kd.R_alloc | apply Kd.R_drewN | apply Kd.R_drew)); exact HO_10.out) (Kd.R_base ho0) hb); have n2_ := Aside0.mk (Kd.R_lower (Kd.R_new' (Kd.R_new' (Kd.R_mono (ok' := fun k_ => True) ho0 (fun _ hk_ => trivial)) (Kd.R_lt (by (with_reducible repeat (first | apply Kd.R_alloc | apply Kd.R_drewN | apply Kd.R_drew)); exact HO_6.out))) (Kd.R_lt (by (with_reducible repeat (first | apply Kd.R_alloc | apply Kd.R_drewN | apply Kd.R_drew)); exact HO_10.out))) (below_size (by repeat (first | (with_reducible first | exact HB.out | apply below_alloc | apply pw_below_drewN | apply below_drew1) | exact HB.out)))); have n3_ := Aside0.mk (below_step (by repeat (first | (with_reducible first | exact HB.out | apply below_alloc | apply pw_below_drewN | apply below_drew1) | exact HB.out)) hb); clear HO_6; clear HO_10; clear HB; have HO_6 := n0_; have HO_10 := n1_; have HO169 := n2_; have HB := n3_; clear n0_ n1_ n2_ n3_; (try clear hb); (try clear hb2); (try clear hk); (try clear hi); (try clear ho0)))
                                go_roundg k3
                                case measure => have := HK1.out; have := HK2.out; have := HK3.out; omega
                                case rel => exact ⟨(t167), (wrap64 (x7_1 + 16)), (by first | rfl | (simp; done) | (simp [*]; done)), H', ⟨by have := HK1.out; have := HK2.out; have := HK3.out; omega⟩, ⟨by (with_reducible repeat (first | apply Kd.R_alloc | apply Kd.R_drewN | apply Kd.R_drew)); exact Kd.R_mono HO169.out (fun _ hk => trivial)⟩, ⟨by repeat (first | (with_reducible first | exact HB.out | apply below_alloc | apply pw_below_drewN | apply below_drew1) | exact HB.out)⟩⟩
                        · rw [if_neg c23] at H
                          exact absurd H (by simp)
                      · rw [if_neg c22] at H
                        exact absurd H (by simp)
              · rw [if_neg c12] at H
                exact absurd H (by simp)
            · rw [if_neg c11] at H
              exact absurd H (by simp)
          · rw [if_neg c10] at H
            exact absurd H (by simp)
        · rw [if_neg c9] at H
          exact absurd H (by simp)
      · rw [if_neg c7] at H
        have c7b0 : decide (x7_1 < (a1.size : Int)) = false := decide_eq_false c7
        clear c7
        by_cases c44 : ([] : List Int).length + x6_1.length < 17592186044416
        · rw [if_pos c44] at H
          have LMc44 := Aside0.mk c44
          clear c44
          obtain ⟨y173, hy173⟩ : ∃ y_ : List Int, y_ = (([] : List Int) ++ x6_1) := ⟨_, rfl⟩
          replace H : (if 0 < (y173.length : Int) then ((escutcheonref1_carry.f k1 (y173.set (0 : Int).toNat (wrap64 ((rd y173 0) + 5)))).bind fun t178 => (if 16 < (t178.length : Int) then (if (rd t178 16) ≥ 4 then (escutcheonref1_Tag.j4 k1 a0 x6_1 t178 true) else (if (t178.length : Int) > 17 then (if 17 < (t178.length : Int) then (escutcheonref1_Tag.j4 k1 a0 x6_1 t178 (decide ((rd t178 17) > 0))) else (none)) else (escutcheonref1_Tag.j4 k1 a0 x6_1 t178 false))) else (none))) else (none)) = some r := by first | (rw [hy173]; with_reducible exact H) | (have H2_ := (Option.bind_some _ _).symm.trans H; rw [hy173]; with_reducible exact H2_) | (have H2_ := (Option.bind_some _ _).symm.trans H; with_reducible exact H2_) | with_reducible exact H | (rw [hy173]; exact H) | exact H
          have Ny173 := Aside0.mk hy173
          clear hy173
          by_cases c45 : 0 < (y173.length : Int)
          · rw [if_pos c45] at H
            have c45b0 : decide (0 < (y173.length : Int)) = true := decide_eq_true c45
            have c45b1 : decide (0 < y173.length) = true := decide_eq_true (by omega)
            clear c45
            obtain ⟨y177, hy177⟩ : ∃ y_ : List Int, y_ = (y173.set (0 : Int).toNat (wrap64 ((rd y173 0) + 5))) := ⟨_, rfl⟩
            replace H : ((escutcheonref1_carry.f k1 y177).bind fun t178 => (if 16 < (t178.length : Int) then (if (rd t178 16) ≥ 4 then (escutcheonref1_Tag.j4 k1 a0 x6_1 t178 true) else (if (t178.length : Int) > 17 then (if 17 < (t178.length : Int) then (escutcheonref1_Tag.j4 k1 a0 x6_1 t178 (decide ((rd t178 17) > 0))) else (none)) else (escutcheonref1_Tag.j4 k1 a0 x6_1 t178 false))) else (none))) = some r := by first | (rw [hy177]; with_reducible exact H) | (have H2_ := (Option.bind_some _ _).symm.trans H; rw [hy177]; with_reducible exact H2_) | (have H2_ := (Option.bind_some _ _).symm.trans H; with_reducible exact H2_) | with_reducible exact H | (rw [hy177]; exact H) | exact H
            have Ny177 := Aside0.mk hy177
            clear hy177
            replace H := Option.bind_eq_some_iff.mp H
            obtain ⟨t178, A470, H⟩ := H
            replace H : (if 16 < (t178.length : Int) then (if (rd t178 16) ≥ 4 then (escutcheonref1_Tag.j4 k1 a0 x6_1 t178 true) else (if (t178.length : Int) > 17 then (if 17 < (t178.length : Int) then (escutcheonref1_Tag.j4 k1 a0 x6_1 t178 (decide ((rd t178 17) > 0))) else (none)) else (escutcheonref1_Tag.j4 k1 a0 x6_1 t178 false))) else (none)) = some r := H
            have A47 := Aside0.mk A470
            clear A470
            have HC48 := Aside0.mk H
            clear H
            obtain ⟨Ao50, co50, eo50⟩ := Kd.R_slice HO_6.out
            subst eo50
            go_upto_region 24 with (first | ((with_reducible refine gate_builtin (b := .append) (xs := #[.const (.slice none 0 0), .tmp 91]) rfl ?_); (try (refine gate_guard (by rfl) ?_; dsimp only)); at_builtin; refine Kd.R_append_rows (Kd.int .i64) (w0 := w) w.heap.size rfl (.const (.slice none 0 0)) (.tmp 91) 46 3 (.int .i64 0) 8 rfl Try.underlying46 info3 rfl (by decide) (by omega) (.slice none 0 0) ([] : List Int) x6_1 _ _ _ (fun k_ => some k_ ≠ (.slice Ao50 x6_1.length co50 : Value).ownBlock) (fun _ => False) rfl rfl ?aO ?aR (fun _ _ h => h) (fun _ h => h.elim) ?aF ?aB ?aS ?aL ?_; (case aR => repeat (first | exact (Kd.R_reads' HO_6.out).2.2 | (with_reducible refine Kd.C_alloc ?_ _) | (with_reducible refine Kd.C_drewN ?_ _) | (with_reducible refine Kd.C_drew ?_))); (case aB => exact (by repeat (first | (with_reducible first | exact HB.out | apply below_alloc | apply pw_below_drewN | apply below_drew1) | exact HB.out))); (case aF => exact (fun k_ hk => Kd.fresh' (Kd.R_lt (by (with_reducible repeat (first | apply Kd.R_alloc | apply Kd.R_drewN | apply Kd.R_drew)); exact HO_6.out)) k_ hk)); (case aO => exact ((Kd.R_nil _ _ _ _ (fun k_ => some k_ ≠ (.slice Ao50 x6_1.length co50 : Value).ownBlock)))); (case aS => exact (below_size (by repeat (first | (with_reducible first | exact HB.out | apply below_alloc | apply pw_below_drewN | apply below_drew1) | exact HB.out)))); (case aL => have := LMc44.out; omega); intro v174 w49 ho hb hg hat; rw [← Ny173.out] at ho; have n0_ := Aside0.mk (Kd.R_after (Kd.R_apart_nil (by (with_reducible repeat (first | apply Kd.R_alloc | apply Kd.R_drewN | apply Kd.R_drew)); exact HO_6.out)) hg hat); have n1_ := Aside0.mk (hb); have n2_ := Aside0.mk (ho); clear HO_6; clear HB; have HO_6 := n0_; have HB := n1_; have HO175 := n2_; clear n0_ n1_ n2_; clear ho hb hg hat; obtain ⟨Ao51, co51, eo51⟩ := Kd.R_slice HO175.out; subst eo51; have p176 : 0 ≤ (0 : Int) := (by omega); have q176 : 0 < (y173.length : Int) := of_decide_eq_true (by first | (with_reducible assumption) | assumption); obtain ⟨ad176, e176, hx176_0⟩ := Kd.at_int (Kd.R_reads' HO175.out).2.2 0 p176 q176; cases e176; have qi176 : (0 < y173.length) = True := eq_true (by omega); (try rw [show ((0 : Int)).toNat = 0 from rfl] at hx176_0); (try rw [Addr.add_zero'] at hx176_0); replace p176 := eq_true p176; replace q176 := eq_true q176; have p46 : 0 ≤ (0 : Int) := (by omega); have q46 : (0 : Int) < ((y173.length : Int) : Int) := of_decide_eq_true (by first | (with_reducible assumption) | assumption); have qi46 : (0 < y173.length) = True := eq_true (by omega); obtain ⟨go46, co46, eo46, gb46, gl46, cl46, HG46⟩ := Kd.R_form HO175.out (by omega); (first | cases eo46 | (injection eo46 with ea_ en_ ec_; (first | subst ea_ | (injection ea_ with ea_; subst ea_)); subst ec_; clear en_)); have GB46 := Aside0.mk gb46; have GG46 := Aside0.mk HG46; clear gb46 gl46 HG46; (first | simp only [add_plain] at hx176_0 | skip); obtain ⟨hx46_0, hf46_0⟩ := Kd.R_celln 0 HO175.out (0 : Int) p46 q46; (try rw [show ((0 : Int)).toNat = 0 from rfl] at hx46_0); (try simp only [Nat.reduceMul, Nat.zero_mul, Nat.zero_add, Nat.reduceAdd] at hx46_0); (try rw [show ((0 : Int)).toNat = 0 from rfl] at hf46_0); (try simp only [Nat.reduceMul, Nat.zero_mul, Nat.zero_add, Nat.reduceAdd] at hf46_0); replace p46 := eq_true p46; replace q46 := eq_true q46; obtain ⟨hy52_, hz52_⟩ := Kd.R_celln 0 HO175.out (0 : Int) (by omega) (of_decide_eq_true (by first | (with_reducible assumption) | assumption)); (try simp only [Int.reduceToNat, Int.toNat_zero, Int.toNat_ofNat, Nat.reduceMul, Nat.zero_mul, Nat.zero_add] at hy52_ hz52_); (try rw [show ((0 : Int)).toNat = 0 from rfl] at hy52_); (try rw [show ((0 : Int)).toNat = 0 from rfl] at hz52_); have HP52 := Kd.R_putg HO175.out (0 : Int) (wrap64 ((rd y173 0) + 5))) | ((with_reducible refine gate_store (t := 3) (p := 98) rfl ?_); refine store_event (t := 3) (p := 98) (v := ?vo_w53) (w1 := (w49.setCell ⟨go46, (0 : Int).toNat, none⟩ (.int .i64 (wrap64 ((rd y173 0) + 5))))) ?hg ?ho ?hn ?hr ?_; (case ho => rfl); (case hg => rfl); (case hn => rfl); (case hr => first | (go_simp; done) | (go_simp; rfl)); intro w53 hw; have hg : w49.grownBy w53 (some go46) := (by rw [hw]; exact HP52.2); have hp_ : Kd.R (Kd.int .i64) 3 w53 w.heap.size (fun k_ => some k_ ≠ (.slice Ao50 x6_1.length co50 : Value).ownBlock) (.slice (some ⟨go46, 0, none⟩) y173.length co51) y177 := (by rw [hw, Ny177.out]; exact HP52.1); clear HP52; have n0_ := Aside0.mk (Kd.R_after (v := (.slice (some ⟨go46, 0, none⟩) y173.length co51)) (v1 := (.slice (some ⟨go46, 0, none⟩) y173.length co51)) (ok := (fun _ => True)) (by (with_reducible repeat (first | apply Kd.R_alloc | apply Kd.R_drewN | apply Kd.R_drew)); exact HO_6.out) hg (.inl rfl)); have n1_ := Aside0.mk (hp_); have n2_ := Aside0.mk ((by rw [hw]; exact below_set (HB.out) GB46.out : Below w.heap.size w w53)); clear HO_6; clear HO175; clear HB; have HO_6 := n0_; have HO175 := n1_; have HB := n2_; clear n0_ n1_ n2_; clear hg hw hp_) | ((with_reducible refine gate_callee (f := 25) rfl ?_); refine goesL_ (some 100) rfl rfl Try.func25 (by kernel_rfl) rfl #[.slice (some ⟨go46, 0, none⟩) y177.length co51] rfl (by (try simp only [List.map_toArray, List.map_cons, List.map_nil]); first | done | (rw [show y177.length = y173.length from (Kd.R_reads' HO175.out).1.symm] <;> rfl) | rfl | (simp only [List.length_drop, List.length_take]; rfl)) ?_; (with_reducible refine (escutcheonref1_carry.calls k1 _ _ y177 t178 _ ?side1 ?side2 A47.out).mono ?_); (case side1 => repeat (first | exact (Kd.R_reads' HO175.out).2.2 | (with_reducible refine Kd.C_alloc ?_ _) | (with_reducible refine Kd.C_drewN ?_ _) | (with_reducible refine Kd.C_drew ?_))); (case side2 => rw [show y177.length = y173.length from (Kd.R_reads' HO175.out).1.symm]; exact (Kd.R_reads' HO175.out).2.1); rintro e w54 ⟨v179, rfl, ho0, hb⟩; refine ⟨_, rfl, ?_⟩; have n0_ := Aside0.mk (Kd.R_elder' (by (with_reducible repeat (first | apply Kd.R_alloc | apply Kd.R_drewN | apply Kd.R_drew)); exact HO_6.out) (Kd.R_base ho0) hb); have n1_ := Aside0.mk (Kd.R_elder' (by (with_reducible repeat (first | apply Kd.R_alloc | apply Kd.R_drewN | apply Kd.R_drew)); exact HO175.out) (Kd.R_base ho0) hb); have n2_ := Aside0.mk (Kd.R_lower (Kd.R_new' (Kd.R_new' ho0 (Kd.R_lt (by (with_reducible repeat (first | apply Kd.R_alloc | apply Kd.R_drewN | apply Kd.R_drew)); exact HO_6.out))) (Kd.R_lt (by (with_reducible repeat (first | apply Kd.R_alloc | apply Kd.R_drewN | apply Kd.R_drew)); exact HO175.out))) (below_size (by repeat (first | (with_reducible first | exact HB.out | apply below_alloc | apply pw_below_drewN | apply below_drew1) | exact HB.out)))); have n3_ := Aside0.mk (below_step (by repeat (first | (with_reducible first | exact HB.out | apply below_alloc | apply pw_below_drewN | apply below_drew1) | exact HB.out)) hb); clear HO_6; clear HO175; clear HB; have HO_6 := n0_; have HO175 := n1_; have HO180 := n2_; have HB := n3_; clear n0_ n1_ n2_ n3_; (try clear hb); (try clear hb2); (try clear hk); (try clear hi); (try clear ho0)))
            (try simp only [Act.put, List.setIfInBounds_toArray, List.set_cons_zero, List.set_cons_succ])
            go_cut [115] (fun v115 wc => ∃ (kq : Nat) (x115_47 : Bool), v115 = .bool x115_47 ∧ Aside0 (escutcheonref1_Tag.j4 kq a0 x6_1 t178 x115_47 = some r) ∧ Aside0 (kq ≤ k1) ∧ Aside0 (Kd.R (Kd.int .i64) 3 wc w.heap.size (fun k_ => some k_ ≠ (v179 : Value).ownBlock) (.slice Ao50 x6_1.length co50) x6_1) ∧ Aside0 (Kd.R (Kd.int .i64) 3 wc w.heap.size (fun k_ => some k_ ≠ ((.slice Ao50 x6_1.length co50) : Value).ownBlock) v179 t178) ∧ Aside0 (Below w.heap.size w wc))
            case first =>
              have H := HC48.out
              clear HC48
              by_cases c55 : 16 < (t178.length : Int)
              · rw [if_pos c55] at H
                have c55b0 : decide (16 < (t178.length : Int)) = true := decide_eq_true c55
                have c55b1 : decide (16 < t178.length) = true := decide_eq_true (by omega)
                clear c55
                (first | rw [c55b0] | (simp only [i64_w, i32_w]; rw [c55b0]) | skip)
                by_cases c56 : (rd t178 16) ≥ 4
                · rw [if_pos c56] at H
                  have c56b0 : decide (4 ≤ (rd t178 16)) = true := decide_eq_true c56
                  clear c56
                  have H' := Aside0.mk H
                  clear H
                  obtain ⟨Ao57, co57, eo57⟩ := Kd.R_slice HO180.out
                  subst eo57
                  have p181 : 0 ≤ (16 : Int) := (by omega)
                  have q181 : 16 < (t178.length : Int) := of_decide_eq_true (by first | (with_reducible assumption) | assumption)
                  obtain ⟨ad181, e181, hx181_0⟩ := Kd.at_int (Kd.R_reads' HO180.out).2.2 16 p181 q181
                  cases e181
                  (try simp only [show (16 : Int).toNat = 16 from rfl, Nat.reduceMul, Nat.reduceEqDiff, Go.Addr.add, ↓reduceIte] at hx181_0)
                  have qi181 : (16 < t178.length) = True := eq_true (by omega)
                  (try rw [show ((16 : Int)).toNat = 16 from rfl] at hx181_0)
                  replace p181 := eq_true p181
                  replace q181 := eq_true q181
                  go_wp2
                  go_meet
                  case rel => exact ⟨_, (true), (by first | rfl | (simp; done) | (simp [*]; done)), H', ⟨by have := HK1.out; first | omega | exact Nat.le_refl _⟩, ⟨by (with_reducible repeat (first | apply Kd.R_alloc | apply Kd.R_drewN | apply Kd.R_drew)); exact Kd.R_mono HO_6.out (fun _ hk => hk.2)⟩, ⟨by (with_reducible repeat (first | apply Kd.R_alloc | apply Kd.R_drewN | apply Kd.R_drew)); exact Kd.R_mono HO180.out (fun _ hk => hk.1.2)⟩, ⟨by repeat (first | (with_reducible first | exact HB.out | apply below_alloc | apply pw_below_drewN | apply below_drew1) | exact HB.out)⟩⟩
                · rw [if_neg c56] at H
                  have c56b0 : decide (4 ≤ (rd t178 16)) = false := decide_eq_false c56
                  clear c56
                  by_cases c58 : (t178.length : Int) > 17
                  · rw [if_pos c58] at H
                    have c58b0 : decide (17 < (t178.length : Int)) = true := decide_eq_true c58
                    have c58b1 : decide (17 < t178.length) = true := decide_eq_true (by omega)
                    clear c58
                    by_cases c59 : 17 < (t178.length : Int)
                    · rw [if_pos c59] at H
                      have c59b0 : decide (17 < (t178.length : Int)) = true := decide_eq_true c59
                      have c59b1 : decide (17 < t178.length) = true := decide_eq_true (by omega)
                      clear c59
                      have H' := Aside0.mk H
                      clear H
                      obtain ⟨Ao60, co60, eo60⟩ := Kd.R_slice HO180.out
                      subst eo60
                      have p181 : 0 ≤ (16 : Int) := (by omega)
                      have q181 : 16 < (t178.length : Int) := of_decide_eq_true (by first | (with_reducible assumption) | assumption)
                      obtain ⟨ad181, e181, hx181_0⟩ := Kd.at_int (Kd.R_reads' HO180.out).2.2 16 p181 q181
                      cases e181
                      (try simp only [show (16 : Int).toNat = 16 from rfl, Nat.reduceMul, Nat.reduceEqDiff, Go.Addr.add, ↓reduceIte] at hx181_0)
                      have qi181 : (16 < t178.length) = True := eq_true (by omega)
                      (try rw [show ((16 : Int)).toNat = 16 from rfl] at hx181_0)
                      replace p181 := eq_true p181
                      replace q181 := eq_true q181
                      have p182 : 0 ≤ (17 : Int) := (by omega)
                      have q182 : 17 < (t178.length : Int) := of_decide_eq_true (by first | (with_reducible assumption) | assumption)
                      obtain ⟨ad182, e182, hx182_0⟩ := Kd.at_int (Kd.R_reads' HO180.out).2.2 17 p182 q182
                      obtain rfl : ad181 = ad182 := (by injection e182)
                      (try simp only [show (17 : Int).toNat = 17 from rfl, Nat.reduceMul, Nat.reduceEqDiff, Go.Addr.add, ↓reduceIte] at hx182_0)
                      have qi182 : (17 < t178.length) = True := eq_true (by omega)
                      (try rw [show ((17 : Int)).toNat = 17 from rfl] at hx182_0)
                      replace p182 := eq_true p182
                      replace q182 := eq_true q182
                      go_wp2
                      go_meet
                      case rel => exact ⟨_, (decide ((rd t178 17) > 0)), (by first | rfl | (simp; done) | (simp [*]; done)), H', ⟨by have := HK1.out; first | omega | exact Nat.le_refl _⟩, ⟨by (with_reducible repeat (first | apply Kd.R_alloc | apply Kd.R_drewN | apply Kd.R_drew)); exact Kd.R_mono HO_6.out (fun _ hk => hk.2)⟩, ⟨by (with_reducible repeat (first | apply Kd.R_alloc | apply Kd.R_drewN | apply Kd.R_drew)); exact Kd.R_mono HO180.out (fun _ hk => hk.1.2)⟩, ⟨by repeat (first | (with_reducible first | exact HB.out | apply below_alloc | apply pw_below_drewN | apply below_drew1) | exact HB.out)⟩⟩
                    · rw [if_neg c59] at H
                      exact absurd H (by simp)
                  · rw [if_neg c58] at H
                    have c58b0 : decide (17 < (t178.length : Int)) = false := decide_eq_false c58
                    have c58b1 : decide (17 < t178.length) = false := decide_eq_false (by omega)
                    clear c58
                    have H' := Aside0.mk H
                    clear H
                    obtain ⟨Ao61, co61, eo61⟩ := Kd.R_slice HO180.out
                    subst eo61
                    have p181 : 0 ≤ (16 : Int) := (by omega)
                    have q181 : 16 < (t178.length : Int) := of_decide_eq_true (by first | (with_reducible assumption) | assumption)
                    obtain ⟨ad181, e181, hx181_0⟩ := Kd.at_int (Kd.R_reads' HO180.out).2.2 16 p181 q181
                    cases e181
                    (try simp only [show (16 : Int).toNat = 16 from rfl, Nat.reduceMul, Nat.reduceEqDiff, Go.Addr.add, ↓reduceIte] at hx181_0)
                    have qi181 : (16 < t178.length) = True := eq_true (by omega)
                    (try rw [show ((16 : Int)).toNat = 16 from rfl] at hx181_0)
                    replace p181 := eq_true p181
                    replace q181 := eq_true q181
                    go_wp2
                    go_meet
                    case rel => exact ⟨_, (false), (by first | rfl | (simp; done) | (simp [*]; done)), H', ⟨by have := HK1.out; first | omega | exact Nat.le_refl _⟩, ⟨by (with_reducible repeat (first | apply Kd.R_alloc | apply Kd.R_drewN | apply Kd.R_drew)); exact Kd.R_mono HO_6.out (fun _ hk => hk.2)⟩, ⟨by (with_reducible repeat (first | apply Kd.R_alloc | apply Kd.R_drewN | apply Kd.R_drew)); exact Kd.R_mono HO180.out (fun _ hk => hk.1.2)⟩, ⟨by repeat (first | (with_reducible first | exact HB.out | apply below_alloc | apply pw_below_drewN | apply below_drew1) | exact HB.out)⟩⟩
              · rw [if_neg c55] at H
                exact absurd H (by simp)
            case rest =>
              clear HC48
              try clear c1
              try clear p1
              try clear q1
              try clear hx1
              try clear qi1
              try clear c2
              try clear p2
              try clear c3
              try clear p3
              try clear q3
              try clear hx3
              try clear hf3
              try clear c4
              try clear p4
              try clear q4
              try clear hx4
              try clear qi4
              try clear hf4
              try clear c5
              try clear p6
              try clear c7
              try clear c7b0
              try clear c9
              try clear c9b0
              try clear c9b1
              try clear c10
              try clear c10b0
              try clear c10b1
              try clear c11
              try clear c11b0
              try clear c11b1
              try clear c12
              try clear c12b0
              try clear c12b1
              try clear c12b2
              try clear c13
              try clear c13b0
              try clear c14
              try clear c14b0
              try clear c15
              try clear c15b0
              try clear p16
              try clear q16
              try clear hx16
              try clear p17
              try clear q17
              try clear hx17
              try clear qi17
              try clear hf17
              try clear p18
              try clear q18
              try clear hx18
              try clear qi18
              try clear c22
              try clear c22b0
              try clear c22b1
              try clear c23
              try clear c23b0
              try clear c23b1
              try clear c25
              try clear c26
              try clear c27
              try clear c27b0
              try clear c28
              try clear c28b0
              try clear c30
              try clear c30b0
              try clear c31
              try clear c31b0
              try clear c32
              try clear c32b0
              try clear c33
              try clear c33b0
              try clear c34
              try clear c34b0
              try clear c35
              try clear c35b0
              try clear p36
              try clear q36
              try clear hx36
              try clear p37
              try clear q37
              try clear hx37
              try clear hf37
              try clear c44
              try clear c45
              try clear c45b0
              try clear c45b1
              try clear p46
              try clear q46
              try clear hx46
              try clear qi46
              try clear hf46
              try clear c55
              try clear c55b0
              try clear c55b1
              try clear c56
              try clear c56b0
              try clear c58
              try clear c58b0
              try clear c58b1
              try clear c59
              try clear c59b0
              try clear c59b1
              try clear hx162_0
              try clear hx170_0
              try clear hx171_0
              try clear hx176_0
              try clear hx17_0
              try clear hx181_0
              try clear hx182_0
              try clear hx37_0
              try clear hx46_0
              try clear p1
              try clear p16
              try clear p162
              try clear p17
              try clear p170
              try clear p171
              try clear p176
              try clear p181
              try clear p182
              try clear p2
              try clear p36
              try clear p37
              try clear p46
              try clear p6
              try clear q1
              try clear q16
              try clear q162
              try clear q17
              try clear q170
              try clear q171
              try clear q176
              try clear q181
              try clear q182
              try clear q36
              try clear q37
              try clear q46
              obtain ⟨kq, x115_47, rfl, HA, HJ47, HO_6, HO_13, HB⟩ := hcut
              cases kq with
              | zero => exact absurd HA.out (by simp [escutcheonref1_Tag.j4])
              | succ kj47 =>
                have H := HA.out
                clear HA
                simp only [escutcheonref1_Tag.j4] at H
                have HC62 := Aside0.mk H
                clear H
                go_upto_if 115 with (fail)
                go_cut [6] (fun v6 wc => ∃ (kq : Nat) (x6_61 : List Int), Aside0 (escutcheonref1_Tag.j5 kq a0 x6_61 = some r) ∧ Aside0 (kq ≤ kj47) ∧ Aside0 (Kd.R (Kd.int .i64) 3 wc w.heap.size (fun _ => True) v6 x6_61) ∧ Aside0 (Below w.heap.size w wc))
                case first =>
                  have H := HC62.out
                  clear HC62
                  by_cases c63 : x115_47 = true
                  · subst c63
                    have H1 : (escutcheonref1_Tag.j5 kj47 a0 t178) = some r := by rw [if_pos rfl] at H; exact H
                    clear H
                    have H := H1
                    clear H1
                    have H' := Aside0.mk H
                    clear H
                    go_wp2
                    go_meet
                    case rel => exact ⟨_, (t178), H', ⟨by have := HK1.out; have := HJ47.out; first | omega | exact Nat.le_refl _⟩, ⟨by (with_reducible repeat (first | apply Kd.R_alloc | apply Kd.R_drewN | apply Kd.R_drew)); exact Kd.R_mono HO_13.out (fun _ hk => trivial)⟩, ⟨by repeat (first | (with_reducible first | exact HB.out | apply below_alloc | apply pw_below_drewN | apply below_drew1) | exact HB.out)⟩⟩
                  · replace c63 := Bool.eq_false_iff.mpr c63
                    subst c63
                    have H1 : (escutcheonref1_Tag.j5 kj47 a0 x6_1) = some r := by rw [if_neg (show ¬ (false = true) by decide)] at H; exact H
                    clear H
                    have H := H1
                    clear H1
                    have H' := Aside0.mk H
                    clear H
                    go_wp2
                    go_meet
                    case rel => exact ⟨_, (x6_1), H', ⟨by have := HK1.out; have := HJ47.out; first | omega | exact Nat.le_refl _⟩, ⟨by (with_reducible repeat (first | apply Kd.R_alloc | apply Kd.R_drewN | apply Kd.R_drew)); exact Kd.R_mono HO_6.out (fun _ hk => trivial)⟩, ⟨by repeat (first | (with_reducible first | exact HB.out | apply below_alloc | apply pw_below_drewN | apply below_drew1) | exact HB.out)⟩⟩
                case rest =>
                  clear HC62
                  try clear c1
                  try clear p1
                  try clear q1
                  try clear hx1
                  try clear qi1
                  try clear c2
                  try clear p2
                  try clear c3
                  try clear p3
                  try clear q3
                  try clear hx3
                  try clear hf3
                  try clear c4
                  try clear p4
                  try clear q4
                  try clear hx4
                  try clear qi4
                  try clear hf4
                  try clear c5
                  try clear c6
                  try clear p6
                  try clear c7
                  try clear c7b0
                  try clear c9
                  try clear c9b0
                  try clear c9b1
                  try clear c10
                  try clear c10b0
                  try clear c10b1
                  try clear c11
                  try clear c11b0
                  try clear c11b1
                  try clear c12
                  try clear c12b0
                  try clear c12b1
                  try clear c12b2
                  try clear c13
                  try clear c13b0
                  try clear c14
                  try clear c14b0
                  try clear c15
                  try clear c15b0
                  try clear p16
                  try clear q16
                  try clear hx16
                  try clear p17
                  try clear q17
                  try clear hx17
                  try clear qi17
                  try clear hf17
                  try clear p18
                  try clear q18
                  try clear hx18
                  try clear qi18
                  try clear c22
                  try clear c22b0
                  try clear c22b1
                  try clear c23
                  try clear c23b0
                  try clear c23b1
                  try clear c25
                  try clear c26
                  try clear c27
                  try clear c27b0
                  try clear c28
                  try clear c28b0
                  try clear c30
                  try clear c30b0
                  try clear c31
                  try clear c31b0
                  try clear c32
                  try clear c32b0
                  try clear c33
                  try clear c33b0
                  try clear c34
                  try clear c34b0
                  try clear c35
                  try clear c35b0
                  try clear p36
                  try clear q36
                  try clear hx36
                  try clear p37
                  try clear q37
                  try clear hx37
                  try clear hf37
                  try clear c44
                  try clear c45
                  try clear c45b0
                  try clear c45b1
                  try clear p46
                  try clear q46
                  try clear hx46
                  try clear qi46
                  try clear hf46
                  try clear c55
                  try clear c55b0
                  try clear c55b1
                  try clear c56
                  try clear c56b0
                  try clear c58
                  try clear c58b0
                  try clear c58b1
                  try clear c59
                  try clear c59b0
                  try clear c59b1
                  try clear c63
                  try clear hx162_0
                  try clear hx170_0
                  try clear hx171_0
                  try clear hx176_0
                  try clear hx17_0
                  try clear hx181_0
                  try clear hx182_0
                  try clear hx37_0
                  try clear hx46_0
                  try clear p1
                  try clear p16
                  try clear p162
                  try clear p17
                  try clear p170
                  try clear p171
                  try clear p176
                  try clear p18
                  try clear p181
                  try clear p182
                  try clear p2
                  try clear p3
                  try clear p36
                  try clear p37
                  try clear p4
                  try clear p46
                  try clear p6
                  try clear q1
                  try clear q16
                  try clear q162
                  try clear q17
                  try clear q170
                  try clear q171
                  try clear q176
                  try clear q18
                  try clear q181
                  try clear q182
                  try clear q3
                  try clear q36
                  try clear q37
                  try clear q4
                  try clear q46
                  obtain ⟨kq, x6_61, HA, HJ61, HO_6, HB⟩ := hcut
                  cases kq with
                  | zero => exact absurd HA.out (by simp [escutcheonref1_Tag.j5])
                  | succ kj61 =>
                    have H := HA.out
                    clear HA
                    simp only [escutcheonref1_Tag.j5] at H
                    have H' := Aside0.mk H
                    clear H
                    go_wp2
                    go_loopg [14] kj61 (fun kq v14 w' => ∃ (x6_4 : List Int) (x14_4 : Int), v14 = .int .i64 x14_4 ∧ Aside0 (escutcheonref1_Tag.l4 kq a0 x6_4 x14_4 = some r) ∧ Aside0 (kq ≤ kj61) ∧ Aside0 (Kd.R (Kd.int .i64) 3 w' w.heap.size (fun _ => True) u6 x6_4) ∧ Aside0 (Below w.heap.size w w'))
                    case atStart => exact ⟨(x6_61), (0), (by first | rfl | (simp; done) | (simp [*]; done)), H', ⟨Nat.le_refl _⟩, ⟨by (with_reducible repeat (first | apply Kd.R_alloc | apply Kd.R_drewN | apply Kd.R_drew)); exact HO_6.out⟩, ⟨by repeat (first | (with_reducible first | exact HB.out | apply below_alloc | apply pw_below_drewN | apply below_drew1) | exact HB.out)⟩⟩
                    case round =>
                      clear H'
                      try clear c1
                      try clear p1
                      try clear q1
                      try clear hx1
                      try clear qi1
                      try clear c2
                      try clear p2
                      try clear c3
                      try clear p3
                      try clear q3
                      try clear hx3
                      try clear hf3
                      try clear c4
                      try clear p4
                      try clear q4
                      try clear hx4
                      try clear qi4
                      try clear hf4
                      try clear c5
                      try clear c6
                      try clear p6
                      try clear c7
                      try clear c7b0
                      try clear c9
                      try clear c9b0
                      try clear c9b1
                      try clear c10
                      try clear c10b0
                      try clear c10b1
                      try clear c11
                      try clear c11b0
                      try clear c11b1
                      try clear c12
                      try clear c12b0
                      try clear c12b1
                      try clear c12b2
                      try clear c13
                      try clear c13b0
                      try clear c14
                      try clear c14b0
                      try clear c15
                      try clear c15b0
                      try clear p16
                      try clear q16
                      try clear hx16
                      try clear p17
                      try clear q17
                      try clear hx17
                      try clear qi17
                      try clear hf17
                      try clear p18
                      try clear q18
                      try clear hx18
                      try clear qi18
                      try clear c22
                      try clear c22b0
                      try clear c22b1
                      try clear c23
                      try clear c23b0
                      try clear c23b1
                      try clear c25
                      try clear c26
                      try clear c27
                      try clear c27b0
                      try clear c28
                      try clear c28b0
                      try clear c30
                      try clear c30b0
                      try clear c31
                      try clear c31b0
                      try clear c32
                      try clear c32b0
                      try clear c33
                      try clear c33b0
                      try clear c34
                      try clear c34b0
                      try clear c35
                      try clear c35b0
                      try clear p36
                      try clear q36
                      try clear hx36
                      try clear p37
                      try clear q37
                      try clear hx37
                      try clear hf37
                      try clear c44
                      try clear c45
                      try clear c45b0
                      try clear c45b1
                      try clear p46
                      try clear q46
                      try clear hx46
                      try clear qi46
                      try clear hf46
                      try clear c55
                      try clear c55b0
                      try clear c55b1
                      try clear c56
                      try clear c56b0
                      try clear c58
                      try clear c58b0
                      try clear c58b1
                      try clear c59
                      try clear c59b0
                      try clear c59b1
                      try clear c63
                      try clear hx162_0
                      try clear hx170_0
                      try clear hx171_0
                      try clear hx176_0
                      try clear hx17_0
                      try clear hx181_0
                      try clear hx182_0
                      try clear hx37_0
                      try clear hx46_0
                      try clear p1
                      try clear p16
                      try clear p162
                      try clear p17
                      try clear p170
                      try clear p171
                      try clear p176
                      try clear p18
                      try clear p181
                      try clear p182
                      try clear p2
                      try clear p3
                      try clear p36
                      try clear p37
                      try clear p4
                      try clear p46
                      try clear p6
                      try clear q1
                      try clear q16
                      try clear q162
                      try clear q17
                      try clear q170
                      try clear q171
                      try clear q176
                      try clear q18
                      try clear q181
                      try clear q182
                      try clear q3
                      try clear q36
                      try clear q37
                      try clear q4
                      try clear q46
                      obtain ⟨x6_4, x14_4, rfl, HA, HK4, HO_6, HB⟩ := hrel
                      cases gk with
                      | zero => exact absurd HA.out (by simp [escutcheonref1_Tag.l4])
                      | succ k4 =>
                        have H := HA.out
                        clear HA
                        simp only [escutcheonref1_Tag.l4] at H
                        by_cases c64 : x14_4 < 16
                        · rw [if_pos c64] at H
                          have c64b0 : decide (x14_4 < 16) = true := decide_eq_true c64
                          clear c64
                          by_cases c65 : 0 ≤ x14_4
                          · rw [if_pos c65] at H
                            have c65b0 : decide (0 ≤ x14_4) = true := decide_eq_true c65
                            clear c65
                            by_cases c66 : x14_4 < (x6_4.length : Int)
                            · rw [if_pos c66] at H
                              have c66b0 : decide (x14_4 < (x6_4.length : Int)) = true := decide_eq_true c66
                              clear c66
                              obtain ⟨ji67, hji67⟩ : ∃ j_ : Int, (wrap64 (16 + x14_4)) = j_ := ⟨_, rfl⟩
                              replace H : (if 0 ≤ (ji67) then (if (ji67) < (a0.size : Int) then (escutcheonref1_Tag.l4 k4 a0 (x6_4.set (x14_4 : Int).toNat (wrap64 ((rd x6_4 x14_4) + (wrap64 (bt a0 (ji67)))))) (wrap64 (x14_4 + 1))) else (none)) else (none)) = some r := by first | (rw [hji67] at H; exact H) | (simp only [hji67] at H ⊢; exact H)
                              have hji67w : (IntKind.i64.wrap (16 + x14_4)) = ji67 := (i64_w _).trans hji67
                              by_cases c68 : 0 ≤ (ji67)
                              · rw [if_pos c68] at H
                                have c68b0 : decide (0 ≤ (ji67)) = true := decide_eq_true c68
                                clear c68
                                by_cases c69 : (ji67) < (a0.size : Int)
                                · rw [if_pos c69] at H
                                  have c69b0 : decide ((ji67) < (a0.size : Int)) = true := decide_eq_true c69
                                  clear c69
                                  obtain ⟨y184, hy184⟩ : ∃ y_ : List Int, y_ = (x6_4.set (x14_4 : Int).toNat (wrap64 ((rd x6_4 x14_4) + (wrap64 (bt a0 (ji67)))))) := ⟨_, rfl⟩
                                  replace H : (escutcheonref1_Tag.l4 k4 a0 y184 (wrap64 (x14_4 + 1))) = some r := by first | (rw [hy184]; with_reducible exact H) | (have H2_ := (Option.bind_some _ _).symm.trans H; rw [hy184]; with_reducible exact H2_) | (have H2_ := (Option.bind_some _ _).symm.trans H; with_reducible exact H2_) | with_reducible exact H | (rw [hy184]; exact H) | exact H
                                  have Ny184 := Aside0.mk hy184
                                  clear hy184
                                  have H' := Aside0.mk H
                                  clear H
                                  try go_wp2
                                  have n0_ := Aside0.mk (Kd.R_drew HO_6.out)
                                  have n1_ := Aside0.mk (below_drew1 HB.out)
                                  clear HO_6
                                  clear HB
                                  have HO_6 := n0_
                                  have HB := n1_
                                  clear n0_ n1_
                                  obtain ⟨Ao73, co73, eo73⟩ := Kd.R_slice HO_6.out
                                  (first | subst eo73 | (injection eo73 with f1_ f2_ f3_; have f4_ := f1_.symm; have f5_ := f3_.symm; clear f1_ f2_ f3_; subst f4_; subst f5_))
                                  have p183 : 0 ≤ (x14_4 : Int) := of_decide_eq_true (by first | (with_reducible assumption) | assumption)
                                  have q183 : x14_4 < (x6_4.length : Int) := of_decide_eq_true (by first | (with_reducible assumption) | assumption)
                                  obtain ⟨ad183, e183, hx183_0⟩ := Kd.at_int (Kd.R_reads' HO_6.out).2.2 x14_4 p183 q183
                                  cases e183
                                  replace p183 := eq_true p183
                                  replace q183 := eq_true q183
                                  have p70 : 0 ≤ ((ji67) : Int) := of_decide_eq_true (by first | (with_reducible assumption) | assumption)
                                  have q70 : (ji67) < (a0.size : Int) := of_decide_eq_true (by first | (with_reducible assumption) | assumption)
                                  have hx70 := bt_at a0 (ji67)
                                  replace p70 := eq_true p70
                                  replace q70 := eq_true q70
                                  have p71 : 0 ≤ (x14_4 : Int) := of_decide_eq_true (by first | (with_reducible assumption) | assumption)
                                  have q71 : (x14_4 : Int) < ((x6_4.length : Int) : Int) := of_decide_eq_true (by first | (with_reducible assumption) | assumption)
                                  obtain ⟨go71, co71, eo71, gb71, gl71, cl71, HG71⟩ := Kd.R_form HO_6.out (by omega)
                                  (first | cases eo71 | (injection eo71 with ea_ en_ ec_; (first | subst ea_ | (injection ea_ with ea_; subst ea_)); subst ec_; clear en_))
                                  have GB71 := Aside0.mk gb71
                                  have GG71 := Aside0.mk HG71
                                  clear gb71 gl71 HG71
                                  (first | simp only [add_plain] at hx183_0 | skip)
                                  obtain ⟨hx71_0, hf71_0⟩ := Kd.R_celln 0 HO_6.out (x14_4 : Int) p71 q71
                                  replace p71 := eq_true p71
                                  replace q71 := eq_true q71
                                  have HP74 := Kd.R_putn HO_6.out (x14_4 : Int) (wrap64 ((rd x6_4 x14_4) + (wrap64 (bt a0 (ji67)))))
                                  rw [← Ny184.out] at HP74
                                  have HQ74 := Aside0.mk HP74
                                  clear HP74
                                  refine start_ (n := 14) (S := fun w' => w'.cell? ⟨go71, (x14_4).toNat, none⟩ = some (.int .i64 (rd x6_4 x14_4))) (ds := [13]) #[false, false, false, false, false, false, false, false, false, false, false, false, false, false] (by kernel_rfl) rfl rfl (hx183_0) (fun hHeld => ?_); refine with_tabW escutcheonref1_Tag.tab29 escutcheonref1_Tag.bits29 (fun HT_ HW_ => ?_)
                                  generalize wr.drew = w72 at HO_6 HB GG71 HQ74 hf71_0 hx183_0 hx71_0 hHeld ⊢
                                  refine pure_ (i := 0) (N := some 121) (v := ?_) (a' := ?_) #[true, false, false, false, false, false, false, false, false, false, false, false, false, false] rfl rfl (any_of HT_.out (by kernel_rfl)) (fun _ _ _ h => h) (Or.inl ⟨by rfl, ?_⟩) ?_ ?_
                                  rotate_left
                                  · intro w'
                                    go_simp
                                    with_reducible rfl
                                  rotate_left
                                  · simp only [Act.put, List.setIfInBounds_toArray, List.set_cons_zero, List.set_cons_succ, i64_w, i32_w]
                                    rfl
                                  refine pure_ (i := 1) (N := some 122) (v := ?_) (a' := ?_) #[true, true, false, false, false, false, false, false, false, false, false, false, false, false] rfl rfl (any_of HT_.out (by kernel_rfl)) (fun _ _ _ h => h) (Or.inl ⟨by rfl, ?_⟩) ?_ ?_
                                  rotate_left
                                  · intro w'
                                    go_simp
                                    with_reducible rfl
                                  rotate_left
                                  · simp only [Act.put, List.setIfInBounds_toArray, List.set_cons_zero, List.set_cons_succ, i64_w, i32_w]
                                    rfl
                                  refine pure_ (i := 2) (N := some 123) (v := ?_) (a' := ?_) #[true, true, true, false, false, false, false, false, false, false, false, false, false, false] rfl rfl (any_of HT_.out (by kernel_rfl)) (fun _ _ _ h => h) (Or.inl ⟨by rfl, ?_⟩) ?_ ?_
                                  rotate_left
                                  · intro w'
                                    go_simp
                                    with_reducible rfl
                                  rotate_left
                                  · simp only [Act.put, List.setIfInBounds_toArray, List.set_cons_zero, List.set_cons_succ, i64_w, i32_w]
                                    rfl
                                  refine pure_ (i := 3) (N := some 124) (v := ?_) (a' := ?_) #[true, true, true, true, false, false, false, false, false, false, false, false, false, false] rfl rfl (any_of HT_.out (by kernel_rfl)) (fun _ _ _ h => h) (Or.inl ⟨by rfl, ?_⟩) ?_ ?_
                                  rotate_left
                                  · intro w'
                                    go_simp
                                    with_reducible rfl
                                  rotate_left
                                  · simp only [Act.put, List.setIfInBounds_toArray, List.set_cons_zero, List.set_cons_succ, i64_w, i32_w]
                                    rfl
                                  refine pure_ (i := 4) (N := some 125) (v := ?_) (a' := ?_) #[true, true, true, true, true, false, false, false, false, false, false, false, false, false] rfl rfl (any_of HT_.out (by kernel_rfl)) (fun _ _ _ h => h) (Or.inl ⟨by rfl, ?_⟩) ?_ ?_
                                  rotate_left
                                  · intro w'
                                    go_simp
                                    with_reducible rfl
                                  rotate_left
                                  · simp only [Act.put, List.setIfInBounds_toArray, List.set_cons_zero, List.set_cons_succ, i64_w, i32_w]
                                    rfl
                                  refine pure_ (i := 6) (N := some 127) (v := ?_) (a' := ?_) #[true, true, true, true, true, false, true, false, false, false, false, false, false, false] rfl rfl (any_of HT_.out (by kernel_rfl)) (fun _ _ _ h => h) (Or.inl ⟨by rfl, ?_⟩) ?_ ?_
                                  rotate_left
                                  · intro w'
                                    go_simp
                                    with_reducible rfl
                                  rotate_left
                                  · simp only [Act.put, List.setIfInBounds_toArray, List.set_cons_zero, List.set_cons_succ, i64_w, i32_w]
                                    rfl
                                  refine pure_ (i := 7) (N := some 128) (v := ?_) (a' := ?_) #[true, true, true, true, true, false, true, true, false, false, false, false, false, false] rfl rfl (any_of HT_.out (by kernel_rfl)) (fun _ _ _ h => h) (Or.inl ⟨by rfl, ?_⟩) ?_ ?_
                                  rotate_left
                                  · intro w'
                                    go_simp
                                    with_reducible rfl
                                  rotate_left
                                  · simp only [Act.put, List.setIfInBounds_toArray, List.set_cons_zero, List.set_cons_succ, i64_w, i32_w]
                                    rfl
                                  refine pure_ (i := 8) (N := some 129) (v := ?_) (a' := ?_) #[true, true, true, true, true, false, true, true, true, false, false, false, false, false] rfl rfl (any_of HT_.out (by kernel_rfl)) (fun _ _ _ h => h) (Or.inl ⟨by rfl, ?_⟩) ?_ ?_
                                  rotate_left
                                  · intro w'
                                    go_simp
                                    with_reducible rfl
                                  rotate_left
                                  · simp only [Act.put, List.setIfInBounds_toArray, List.set_cons_zero, List.set_cons_succ, i64_w, i32_w]
                                    rfl
                                  refine take_ (i := 5) (N := some 126) (v := ?_) (a' := ?_) #[true, true, true, true, true, true, true, true, true, false, false, false, false, false] rfl rfl (take_ofW HT_.out HW_.out (by kernel_rfl)) (fun _ _ _ h => h) (Or.inl ⟨by rfl, ?_⟩) hHeld ?_ ?_
                                  rotate_left
                                  · intro w' s0
                                    go_simp
                                    with_reducible rfl
                                  rotate_left
                                  · simp only [Act.put, List.setIfInBounds_toArray, List.set_cons_zero, List.set_cons_succ, i64_w, i32_w]
                                    rfl
                                  refine take_ (i := 9) (N := some 130) (v := ?_) (a' := ?_) #[true, true, true, true, true, true, true, true, true, true, false, false, false, false] rfl rfl (take_ofW HT_.out HW_.out (by kernel_rfl)) (fun _ _ _ h => h) (Or.inl ⟨by rfl, ?_⟩) hHeld ?_ ?_
                                  rotate_left
                                  · intro w' s0
                                    go_simp
                                    with_reducible rfl
                                  rotate_left
                                  · simp only [Act.put, List.setIfInBounds_toArray, List.set_cons_zero, List.set_cons_succ, i64_w, i32_w]
                                    rfl
                                  refine pure_ (i := 10) (N := some 131) (v := ?_) (a' := ?_) #[true, true, true, true, true, true, true, true, true, true, true, false, false, false] rfl rfl (any_of HT_.out (by kernel_rfl)) (fun _ _ _ h => h) (Or.inl ⟨by rfl, ?_⟩) ?_ ?_
                                  rotate_left
                                  · intro w'
                                    go_simp
                                    with_reducible rfl
                                  rotate_left
                                  · simp only [Act.put, List.setIfInBounds_toArray, List.set_cons_zero, List.set_cons_succ, i64_w, i32_w]
                                    rfl
                                  refine pure_ (i := 11) (N := some 132) (v := ?_) (a' := ?_) #[true, true, true, true, true, true, true, true, true, true, true, true, false, false] rfl rfl (any_of HT_.out (by kernel_rfl)) (fun _ _ _ h => h) (Or.inl ⟨by rfl, ?_⟩) ?_ ?_
                                  rotate_left
                                  · intro w'
                                    go_simp
                                    with_reducible rfl
                                  rotate_left
                                  · simp only [Act.put, List.setIfInBounds_toArray, List.set_cons_zero, List.set_cons_succ, i64_w, i32_w]
                                    rfl
                                  refine pure_ (i := 12) (N := some 133) (v := ?_) (a' := ?_) #[true, true, true, true, true, true, true, true, true, true, true, true, true, false] rfl rfl (any_of HT_.out (by kernel_rfl)) (fun _ _ _ h => h) (Or.inl ⟨by rfl, ?_⟩) ?_ ?_
                                  rotate_left
                                  · intro w'
                                    go_simp
                                    with_reducible rfl
                                  rotate_left
                                  · simp only [Act.put, List.setIfInBounds_toArray, List.set_cons_zero, List.set_cons_succ, i64_w, i32_w]
                                    rfl
                                  refine last_ (i := 13) (N := none) #[true, true, true, true, true, true, true, true, true, true, true, true, true, true] rfl rfl (one_of HT_.out (by kernel_rfl)) (by decide) (fun K hK => ?_)
                                  refine skip_ (w1 := ?_) (by rfl) rfl ?_ ?_
                                  rotate_left
                                  · first | (go_simp; rfl) | (have hSC_ := @cell_set_blk; go_simp; rfl)
                                  refine hK.out _ _ ?_
                                  clear hK K
                                  refine done_ (done_of HT_.out (by kernel_rfl)) ?_
                                  try go_wp2
                                  go_roundg k4
                                  case measure => have := HK1.out; have := HJ47.out; have := HJ61.out; have := HK4.out; omega
                                  case rel => exact ⟨(y184), (wrap64 (x14_4 + 1)), (by first | rfl | (simp; done) | (simp [*]; done)), H', ⟨by have := HK1.out; have := HJ47.out; have := HJ61.out; have := HK4.out; omega⟩, ⟨by (with_reducible repeat (first | apply Kd.R_alloc | apply Kd.R_drewN | apply Kd.R_drew)); exact HQ74.out⟩, ⟨by repeat (first | (with_reducible first | exact HB.out | apply below_alloc | apply pw_below_drewN | apply below_drew1 | refine below_set ?_ GB71.out) | exact HB.out)⟩⟩
                                · rw [if_neg c69] at H
                                  exact absurd H (by simp)
                              · rw [if_neg c68] at H
                                exact absurd H (by simp)
                            · rw [if_neg c66] at H
                              exact absurd H (by simp)
                          · rw [if_neg c65] at H
                            exact absurd H (by simp)
                        · rw [if_neg c64] at H
                          have c64b0 : decide (x14_4 < 16) = false := decide_eq_false c64
                          clear c64
                          replace H := Option.bind_eq_some_iff.mp H
                          obtain ⟨t185, A750, H⟩ := H
                          replace H : (if 16 ≤ 281474976710656 then (escutcheonref1_Tag.l5 k4 t185 (List.replicate 16 0) 0) else (none)) = some r := H
                          have A75 := Aside0.mk A750
                          clear A750
                          by_cases c76 : 16 ≤ 281474976710656
                          · rw [if_pos c76] at H
                            have c76b0 := eq_true c76
                            have c76b1 : decide (16 ≤ 281474976710656) = true := decide_eq_true c76
                            clear c76
                            obtain ⟨y188, hy188⟩ : ∃ y_ : List Int, y_ = (List.replicate 16 0) := ⟨_, rfl⟩
                            replace H : (escutcheonref1_Tag.l5 k4 t185 y188 0) = some r := by first | (rw [hy188]; with_reducible exact H) | (have H2_ := (Option.bind_some _ _).symm.trans H; rw [hy188]; with_reducible exact H2_) | (have H2_ := (Option.bind_some _ _).symm.trans H; with_reducible exact H2_) | with_reducible exact H | (rw [hy188]; exact H) | exact H
                            have Ny188 := Aside0.mk hy188
                            clear hy188
                            have H' := Aside0.mk H
                            clear H
                            obtain ⟨Ao77, co77, eo77⟩ := Kd.R_slice HO_6.out
                            subst eo77
                            go_wp2_with (first | ((with_reducible refine gate_callee (f := 25) rfl ?_); refine goesL_ (some 135) rfl rfl Try.func25 (by kernel_rfl) rfl #[.slice Ao77 x6_4.length co77] rfl (by (try simp only [List.map_toArray, List.map_cons, List.map_nil]); first | done | rfl | (simp only [List.length_drop, List.length_take]; rfl)) ?_; (with_reducible refine (escutcheonref1_carry.calls k4 _ _ x6_4 t185 _ ?side1 ?side2 A75.out).mono ?_); (case side1 => repeat (first | exact (Kd.R_reads' HO_6.out).2.2 | (with_reducible refine Kd.C_alloc ?_ _) | (with_reducible refine Kd.C_drewN ?_ _) | (with_reducible refine Kd.C_drew ?_))); (case side2 => exact (Kd.R_reads' HO_6.out).2.1); rintro e w78 ⟨v186, rfl, ho0, hb⟩; refine ⟨_, rfl, ?_⟩; have n0_ := Aside0.mk (Kd.R_elder' (by (with_reducible repeat (first | apply Kd.R_alloc | apply Kd.R_drewN | apply Kd.R_drew)); exact HO_6.out) (Kd.R_base ho0) hb); have n1_ := Aside0.mk (Kd.R_lower (Kd.R_new' ho0 (Kd.R_lt (by (with_reducible repeat (first | apply Kd.R_alloc | apply Kd.R_drewN | apply Kd.R_drew)); exact HO_6.out))) (below_size (by repeat (first | (with_reducible first | exact HB.out | apply below_alloc | apply pw_below_drewN | apply below_drew1) | exact HB.out)))); have n2_ := Aside0.mk (below_step (by repeat (first | (with_reducible first | exact HB.out | apply below_alloc | apply pw_below_drewN | apply below_drew1) | exact HB.out)) hb); clear HO_6; clear HB; have HO_6 := n0_; have HO187 := n1_; have HB := n2_; clear n0_ n1_ n2_; (try clear hb); (try clear hb2); (try clear hk); (try clear hi); (try clear ho0)) | ((with_reducible refine gate_dst (N := 136) rfl ?_); (try (refine gate_guard (by rfl) ?_; dsimp only)); refine Kd.R_make (Kd.int .u8) _ 5 rfl (N := 136) rfl 30 _ _ rfl 16 rfl rfl Try.underlying30 (.int .u8 0) 1 info5 rfl (by decide) (by omega) 0 (ok := fun _ => True) (okp := fun _ => True) rfl (fun _ hk => hk) trivial (by omega) (by omega) (Below.refl _ _) (Nat.le_refl _) ?_; intro v189 w79 ho80 hb hg_ hnew_; clear hg_ hnew_; (first | rw [← Ny188.out] at ho80 | (simp only [Int.reduceToNat] at ho80; rw [← Ny188.out] at ho80)); have n0_ := Aside0.mk (Kd.R_below (by (with_reducible repeat (first | apply Kd.R_alloc | apply Kd.R_drewN | apply Kd.R_drew)); exact HO_6.out) hb); have n1_ := Aside0.mk (Kd.R_below (by (with_reducible repeat (first | apply Kd.R_alloc | apply Kd.R_drewN | apply Kd.R_drew)); exact HO187.out) hb); have n2_ := Aside0.mk (Kd.R_lower ho80 (below_size (by repeat (first | (with_reducible first | exact HB.out | apply below_alloc | apply pw_below_drewN | apply below_drew1) | exact HB.out)))); have n3_ := Aside0.mk (below_step (by repeat (first | (with_reducible first | exact HB.out | apply below_alloc | apply pw_below_drewN | apply below_drew1) | exact HB.out)) hb); clear HO_6; clear HO187; clear HB; have HO_6 := n0_; have HO187 := n1_; have HO190 := n2_; have HB := n3_; clear n0_ n1_ n2_ n3_; clear hb ho80))
                            go_loopg [16] k4 (fun kq v16 w' => ∃ (x15_5 : List Int) (x16_5 : Int), v16 = .int .i64 x16_5 ∧ Aside0 (escutcheonref1_Tag.l5 kq t185 x15_5 x16_5 = some r) ∧ Aside0 (kq ≤ k4) ∧ Aside0 (Kd.R (Kd.int .i64) 3 w' w.heap.size (fun _ => True) v186 t185) ∧ Aside0 (Kd.R (Kd.int .u8) 5 w' w.heap.size (fun _ => True) v189 x15_5) ∧ Aside0 (Below w.heap.size w w'))
                            case atStart => exact ⟨(y188), (0), (by first | rfl | (simp; done) | (simp [*]; done)), H', ⟨Nat.le_refl _⟩, ⟨by (with_reducible repeat (first | apply Kd.R_alloc | apply Kd.R_drewN | apply Kd.R_drew)); exact Kd.R_mono HO187.out (fun _ hk => trivial)⟩, ⟨by (with_reducible repeat (first | apply Kd.R_alloc | apply Kd.R_drewN | apply Kd.R_drew)); exact HO190.out⟩, ⟨by repeat (first | (with_reducible first | exact HB.out | apply below_alloc | apply pw_below_drewN | apply below_drew1) | exact HB.out)⟩⟩
                            case round =>
                              clear H'
                              try clear c1
                              try clear p1
                              try clear q1
                              try clear hx1
                              try clear qi1
                              try clear c2
                              try clear p2
                              try clear c3
                              try clear p3
                              try clear q3
                              try clear hx3
                              try clear hf3
                              try clear c4
                              try clear p4
                              try clear q4
                              try clear hx4
                              try clear qi4
                              try clear hf4
                              try clear c5
                              try clear c6
                              try clear p6
                              try clear c7
                              try clear c7b0
                              try clear p7
                              try clear q7
                              try clear hx7
                              try clear hf7
                              try clear c9
                              try clear c9b0
                              try clear c9b1
                              try clear c10
                              try clear c10b0
                              try clear c10b1
                              try clear c11
                              try clear c11b0
                              try clear c11b1
                              try clear c12
                              try clear c12b0
                              try clear c12b1
                              try clear c12b2
                              try clear c13
                              try clear c13b0
                              try clear c14
                              try clear c14b0
                              try clear c15
                              try clear c15b0
                              try clear p16
                              try clear q16
                              try clear hx16
                              try clear p17
                              try clear q17
                              try clear hx17
                              try clear qi17
                              try clear hf17
                              try clear p18
                              try clear q18
                              try clear hx18
                              try clear qi18
                              try clear c22
                              try clear c22b0
                              try clear c22b1
                              try clear c23
                              try clear c23b0
                              try clear c23b1
                              try clear c25
                              try clear c26
                              try clear c27
                              try clear c27b0
                              try clear c28
                              try clear c28b0
                              try clear c30
                              try clear c30b0
                              try clear c31
                              try clear c31b0
                              try clear c32
                              try clear c32b0
                              try clear c33
                              try clear c33b0
                              try clear c34
                              try clear c34b0
                              try clear c35
                              try clear c35b0
                              try clear p36
                              try clear q36
                              try clear hx36
                              try clear p37
                              try clear q37
                              try clear hx37
                              try clear hf37
                              try clear c44
                              try clear c45
                              try clear c45b0
                              try clear c45b1
                              try clear p46
                              try clear q46
                              try clear hx46
                              try clear qi46
                              try clear hf46
                              try clear c55
                              try clear c55b0
                              try clear c55b1
                              try clear c56
                              try clear c56b0
                              try clear c58
                              try clear c58b0
                              try clear c58b1
                              try clear c59
                              try clear c59b0
                              try clear c59b1
                              try clear c63
                              try clear c64
                              try clear c64b0
                              try clear p64
                              try clear c65
                              try clear c65b0
                              try clear c66
                              try clear c66b0
                              try clear c68
                              try clear c68b0
                              try clear c69
                              try clear c69b0
                              try clear p70
                              try clear q70
                              try clear hx70
                              try clear p71
                              try clear q71
                              try clear hx71
                              try clear hf71
                              try clear c76
                              try clear c76b0
                              try clear c76b1
                              try clear hx162_0
                              try clear hx170_0
                              try clear hx171_0
                              try clear hx176_0
                              try clear hx17_0
                              try clear hx181_0
                              try clear hx182_0
                              try clear hx183_0
                              try clear hx37_0
                              try clear hx46_0
                              try clear hx71_0
                              try clear p1
                              try clear p16
                              try clear p162
                              try clear p17
                              try clear p170
                              try clear p171
                              try clear p176
                              try clear p18
                              try clear p181
                              try clear p182
                              try clear p183
                              try clear p2
                              try clear p3
                              try clear p36
                              try clear p37
                              try clear p4
                              try clear p46
                              try clear p6
                              try clear p70
                              try clear p71
                              try clear q1
                              try clear q16
                              try clear q162
                              try clear q17
                              try clear q170
                              try clear q171
                              try clear q176
                              try clear q18
                              try clear q181
                              try clear q182
                              try clear q183
                              try clear q3
                              try clear q36
                              try clear q37
                              try clear q4
                              try clear q46
                              try clear q70
                              try clear q71
                              obtain ⟨x15_5, x16_5, rfl, HA, HK5, HO_6, HO_15, HB⟩ := hrel
                              cases gk with
                              | zero => exact absurd HA.out (by simp [escutcheonref1_Tag.l5])
                              | succ k5 =>
                                have H := HA.out
                                clear HA
                                simp only [escutcheonref1_Tag.l5] at H
                                by_cases c81 : x16_5 < 16
                                · rw [if_pos c81] at H
                                  have c81b0 : decide (x16_5 < 16) = true := decide_eq_true c81
                                  clear c81
                                  by_cases c82 : 0 ≤ x16_5
                                  · rw [if_pos c82] at H
                                    have c82b0 : decide (0 ≤ x16_5) = true := decide_eq_true c82
                                    clear c82
                                    by_cases c83 : x16_5 < (t185.length : Int)
                                    · rw [if_pos c83] at H
                                      have c83b0 : decide (x16_5 < (t185.length : Int)) = true := decide_eq_true c83
                                      clear c83
                                      by_cases c84 : x16_5 < (x15_5.length : Int)
                                      · rw [if_pos c84] at H
                                        have c84b0 : decide (x16_5 < (x15_5.length : Int)) = true := decide_eq_true c84
                                        clear c84
                                        obtain ⟨y192, hy192⟩ : ∃ y_ : List Int, y_ = (x15_5.set (x16_5 : Int).toNat ((rd t185 x16_5) % 256)) := ⟨_, rfl⟩
                                        replace H : (escutcheonref1_Tag.l5 k5 t185 y192 (wrap64 (x16_5 + 1))) = some r := by first | (rw [hy192]; with_reducible exact H) | (have H2_ := (Option.bind_some _ _).symm.trans H; rw [hy192]; with_reducible exact H2_) | (have H2_ := (Option.bind_some _ _).symm.trans H; with_reducible exact H2_) | with_reducible exact H | (rw [hy192]; exact H) | exact H
                                        have Ny192 := Aside0.mk hy192
                                        clear hy192
                                        have H' := Aside0.mk H
                                        clear H
                                        obtain ⟨Ao86, co86, eo86⟩ := Kd.R_slice HO_6.out
                                        subst eo86
                                        have p191 : 0 ≤ (x16_5 : Int) := of_decide_eq_true (by first | (with_reducible assumption) | assumption)
                                        have q191 : x16_5 < (t185.length : Int) := of_decide_eq_true (by first | (with_reducible assumption) | assumption)
                                        obtain ⟨ad191, e191, hx191_0⟩ := Kd.at_int (Kd.R_reads' HO_6.out).2.2 x16_5 p191 q191
                                        cases e191
                                        replace p191 := eq_true p191
                                        replace q191 := eq_true q191
                                        have p85 : 0 ≤ (x16_5 : Int) := of_decide_eq_true (by first | (with_reducible assumption) | assumption)
                                        have q85 : (x16_5 : Int) < ((x15_5.length : Int) : Int) := of_decide_eq_true (by first | (with_reducible assumption) | assumption)
                                        obtain ⟨go85, co85, eo85, gb85, gl85, cl85, HG85⟩ := Kd.R_form HO_15.out (by omega)
                                        (first | cases eo85 | (injection eo85 with ea_ en_ ec_; (first | subst ea_ | (injection ea_ with ea_; subst ea_)); subst ec_; clear en_))
                                        have GB85 := Aside0.mk gb85
                                        have GG85 := Aside0.mk HG85
                                        clear gb85 gl85 HG85
                                        obtain ⟨hx85_0, hf85_0⟩ := Kd.R_celln 0 HO_15.out (x16_5 : Int) p85 q85
                                        replace p85 := eq_true p85
                                        replace q85 := eq_true q85
                                        have HP87 := Kd.R_putg HO_15.out (x16_5 : Int) ((rd t185 x16_5) % 256)
                                        go_wp2_with (first | ((with_reducible refine gate_store (t := 5) (p := 148) rfl ?_); refine store_event (t := 5) (p := 148) (v := ?vo_w88) (w1 := (wr.setCell ⟨go85, (x16_5 : Int).toNat, none⟩ (.int .u8 ((rd t185 x16_5) % 256)))) ?hg ?ho ?hn ?hr ?_; (case ho => rfl); (case hg => rfl); (case hn => rfl); (case hr => first | (go_simp; done) | (go_simp; rfl)); intro w88 hw; have hg : wr.grownBy w88 (some go85) := (by rw [hw]; exact HP87.2); have hp_ : Kd.R (Kd.int .u8) 5 w88 w.heap.size (fun _ => True) (.slice (some ⟨go85, 0, none⟩) x15_5.length co85) y192 := (by rw [hw, Ny192.out]; exact HP87.1); clear HP87; have n0_ := Aside0.mk (Kd.R_over' (v := (.slice (some ⟨go85, 0, none⟩) x15_5.length co85)) (by (with_reducible repeat (first | apply Kd.R_alloc | apply Kd.R_drewN | apply Kd.R_drew)); exact HO_6.out) (Kd.R_typed HO_15.out) (by decide) hg); have n1_ := Aside0.mk (hp_); have n2_ := Aside0.mk ((by rw [hw]; exact below_set (HB.out) GB85.out : Below w.heap.size w w88)); clear HO_6; clear HO_15; clear HB; have HO_6 := n0_; have HO_15 := n1_; have HB := n2_; clear n0_ n1_ n2_; clear hg hw hp_))
                                        go_roundg k5
                                        case measure => have := HK1.out; have := HJ47.out; have := HJ61.out; have := HK4.out; have := HK5.out; omega
                                        case rel => exact ⟨(y192), (wrap64 (x16_5 + 1)), (by first | rfl | (simp; done) | (simp [*]; done)), H', ⟨by have := HK1.out; have := HJ47.out; have := HJ61.out; have := HK4.out; have := HK5.out; omega⟩, ⟨by (with_reducible repeat (first | apply Kd.R_alloc | apply Kd.R_drewN | apply Kd.R_drew)); exact HO_6.out⟩, ⟨by (with_reducible repeat (first | apply Kd.R_alloc | apply Kd.R_drewN | apply Kd.R_drew)); exact HO_15.out⟩, ⟨by repeat (first | (with_reducible first | exact HB.out | apply below_alloc | apply pw_below_drewN | apply below_drew1) | exact HB.out)⟩⟩
                                      · rw [if_neg c84] at H
                                        exact absurd H (by simp)
                                    · rw [if_neg c83] at H
                                      exact absurd H (by simp)
                                  · rw [if_neg c82] at H
                                    exact absurd H (by simp)
                                · rw [if_neg c81] at H
                                  have c81b0 : decide (x16_5 < 16) = false := decide_eq_false c81
                                  clear c81
                                  obtain rfl := Option.some.inj H
                                  have hcv89 := own_string (P := Try.prog) Try.underlying30 Try.underlying5 Try.underlying9 (Kd.own_of_R HO_15.out)
                                  go_wp2
                                  go_ret
                                  exact ⟨by first | rfl | (simp [errW_none, errW_some] <;> rfl) | (simp [*, errW_none, errW_some] <;> rfl), by repeat (first | (with_reducible first | exact HB.out | apply below_alloc | apply pw_below_drewN | apply below_drew1) | exact HB.out)⟩
                          · rw [if_neg c76] at H
                            exact absurd H (by simp)
          · rw [if_neg c45] at H
            exact absurd H (by simp)
        · rw [if_neg c44] at H
          exact absurd H (by simp)

end Go.Proofs.Ytagoibmemonkaaa.P
