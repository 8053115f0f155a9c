-- Written by wip/inj.py (the kit's print, with contracts typed by hand beside it).
import Derived.Test.YtbopadckbhocgaaPx0
import Derived.Test.YtbopadckbhocgaaPx1
import Derived.Test.YtbopadckbhocgaaPx2
import Derived.Test.YtbopadckbhocgaaPx3
import Derived.Test.YtbopadckbhocgaaPx4
import Derived.Test.YtbopadckbhocgaaPx5
import Derived.Test.YtbopadckbhocgaaPx6
import Derived.Test.YtbopadckbhocgaaPx7
namespace Go.Proofs.Ytbopadckbhocgaa.P
open Go.RowKit Go.Proofs.YtbopadckbhocgaaW.PrintWords Go.Proofs.YtbopadckbhocgaaW.PrintLast Go.Proofs.YtbopadckbhocgaaW.PrintMore
attribute [local go_sem] max2_int min2_int max_two min_two max_three min_three max_four min_four   -- for this text's walks alone
set_option linter.unusedVariables false
set_option linter.unusedSimpArgs false

attribute [local go_sem high] eqA25
/-! ### escutcheonlaw15_HelloTells: function 6 -/
mutual
def escutcheonlaw15_HelloTells.j0 : Nat → ByteArray → ByteArray → ByteArray → ByteArray → Bool → ByteArray → ByteArray → Option (Bool)
  | 0, _, _, _, _, _, _, _ => none
  | k + 1, x1, x2, x3, x4, x76, x161000, x161001 => if x76 = true then ((escutcheonlaw15_alive.f k).bind fun t162 => (some t162)) else ((hello_PutHello.f x161000 x161001).bind fun bt163 => ((escutcheonref14_Hello.f x161000 x161001).bind fun bt165 => ((hello_PutChallenge.f x1).bind fun bt167 => ((hello_PutProof.f x2).bind fun bt169 => ((hello_PutFinish.f x2).bind fun bt171 => ((hello_PutRecord.f x3).bind fun bt173 => (if bt163.1.toList = bt165.1.toList then (if (bt163.2 != bt165.2) = true then (none) else (if (bt167.2 != ((x1.size : Int) == 16)) = true then (none) else (if (bt169.2 != ((x2.size : Int) == 32)) = true then (none) else (if (bt171.2 != bt169.2) = true then (none) else (if (x3.size : Int) ≥ 24 then (escutcheonlaw15_HelloTells.j1 k x1 x2 x3 x4 bt167.1 bt167.2 bt169.1 bt169.2 bt171.1 bt173.1 bt173.2 (bt173.2 != (decide ((x3.size : Int) ≤ 2199)))) else (escutcheonlaw15_HelloTells.j1 k x1 x2 x3 x4 bt167.1 bt167.2 bt169.1 bt169.2 bt171.1 bt173.1 bt173.2 (bt173.2 != false))))))) else (none))))))))
def escutcheonlaw15_HelloTells.j1 : Nat → ByteArray → ByteArray → ByteArray → ByteArray → ByteArray → Bool → ByteArray → Bool → ByteArray → ByteArray → Bool → Bool → Option (Bool)
  | 0, _, _, _, _, _, _, _, _, _, _, _, _ => none
  | k + 1, x1, x2, x3, x4, x15, x16, x17, x18, x19, x21, x22, x149 => if x149 = true then (none) else (if x16 = true then (if 1 + x1.size ≤ 9223372036854775807 then (if x15.toList = ((⟨#[2]⟩ : ByteArray) ++ x1).toList then (if x18 = true then (if 1 + x2.size ≤ 9223372036854775807 then (if x17.toList = ((⟨#[3]⟩ : ByteArray) ++ x2).toList then (if x19.toList = ((⟨#[4]⟩ : ByteArray) ++ x2).toList then (if x22 = true then (if 1 + x3.size ≤ 9223372036854775807 then (escutcheonlaw15_HelloTells.j2 k x4 (x21.toList != ((⟨#[5]⟩ : ByteArray) ++ x3).toList)) else (none)) else (escutcheonlaw15_HelloTells.j2 k x4 false)) else (none)) else (none)) else (none)) else (if x22 = true then (if 1 + x3.size ≤ 9223372036854775807 then (escutcheonlaw15_HelloTells.j2 k x4 (x21.toList != ((⟨#[5]⟩ : ByteArray) ++ x3).toList)) else (none)) else (escutcheonlaw15_HelloTells.j2 k x4 false))) else (none)) else (none)) else (if x15.toList = ([] : List UInt8) then (if x18 = true then (if 1 + x2.size ≤ 9223372036854775807 then (if x17.toList = ((⟨#[3]⟩ : ByteArray) ++ x2).toList then (if x19.toList = ((⟨#[4]⟩ : ByteArray) ++ x2).toList then (if x22 = true then (if 1 + x3.size ≤ 9223372036854775807 then (escutcheonlaw15_HelloTells.j2 k x4 (x21.toList != ((⟨#[5]⟩ : ByteArray) ++ x3).toList)) else (none)) else (escutcheonlaw15_HelloTells.j2 k x4 false)) else (none)) else (none)) else (none)) else (if x22 = true then (if 1 + x3.size ≤ 9223372036854775807 then (escutcheonlaw15_HelloTells.j2 k x4 (x21.toList != ((⟨#[5]⟩ : ByteArray) ++ x3).toList)) else (none)) else (escutcheonlaw15_HelloTells.j2 k x4 false))) else (none)))
def escutcheonlaw15_HelloTells.j2 : Nat → ByteArray → Bool → Option (Bool)
  | 0, _, _ => none
  | k + 1, x4, x188 => if x188 = true then (none) else (if (x4.size : Int) > 0 then (if 0 < (x4.size : Int) then (if (bt x4 0) ≥ 1 then (escutcheonlaw15_HelloTells.j3 k x4 0 (decide ((bt x4 0) ≤ 5))) else (escutcheonlaw15_HelloTells.j3 k x4 0 false)) else (none)) else (escutcheonlaw15_HelloTells.j3 k x4 0 false))
def escutcheonlaw15_HelloTells.j3 : Nat → ByteArray → Int → Bool → Option (Bool)
  | 0, _, _, _ => none
  | k + 1, x4, x23, x201 => if x201 = true then (if 0 < (x4.size : Int) then (escutcheonlaw15_HelloTells.j4 k x4 (wrap64 (bt x4 0))) else (none)) else (escutcheonlaw15_HelloTells.j4 k x4 x23)
def escutcheonlaw15_HelloTells.j4 : Nat → ByteArray → Int → Option (Bool)
  | 0, _, _ => none
  | k + 1, x4, x23 => (hello_GetHello.f k x4).bind fun bt175 => ((escutcheonref14_GetHello.f k x4).bind fun bt179 => ((hello_GetChallenge.f x4).bind fun bt183 => ((escutcheonref14_Fixed.f 2 16 x4).bind fun bt186 => ((hello_GetProof.f x4).bind fun bt188 => ((escutcheonref14_Fixed.f 3 32 x4).bind fun bt191 => ((hello_GetFinish.f x4).bind fun bt193 => ((escutcheonref14_Fixed.f 4 32 x4).bind fun bt196 => ((hello_GetRecord.f x4).bind fun bt198 => (if (x4.size : Int) ≥ 25 then (if 0 < (x4.size : Int) then (if (bt x4 0) = 5 then (escutcheonlaw15_HelloTells.j5 k x4 x23 bt175.2.2 bt179.2.2 bt183.2 bt186.1 bt186.2 bt188.2 bt191.1 bt191.2 bt193.2 bt196.1 bt196.2 bt198.1 bt198.2 (decide ((x4.size : Int) ≤ 2200)) bt175.1 bt175.2.1 bt179.1 bt179.2.1 bt183.1 bt188.1 bt193.1) else (escutcheonlaw15_HelloTells.j5 k x4 x23 bt175.2.2 bt179.2.2 bt183.2 bt186.1 bt186.2 bt188.2 bt191.1 bt191.2 bt193.2 bt196.1 bt196.2 bt198.1 bt198.2 false bt175.1 bt175.2.1 bt179.1 bt179.2.1 bt183.1 bt188.1 bt193.1)) else (none)) else (escutcheonlaw15_HelloTells.j5 k x4 x23 bt175.2.2 bt179.2.2 bt183.2 bt186.1 bt186.2 bt188.2 bt191.1 bt191.2 bt193.2 bt196.1 bt196.2 bt198.1 bt198.2 false bt175.1 bt175.2.1 bt179.1 bt179.2.1 bt183.1 bt188.1 bt193.1))))))))))
def escutcheonlaw15_HelloTells.j5 : Nat → ByteArray → Int → Bool → Bool → Bool → ByteArray → Bool → Bool → ByteArray → Bool → Bool → ByteArray → Bool → ByteArray → Bool → Bool → ByteArray → ByteArray → ByteArray → ByteArray → ByteArray → ByteArray → ByteArray → Option (Bool)
  | 0, _, _, _, _, _, _, _, _, _, _, _, _, _, _, _, _, _, _, _, _, _, _, _ => none
  | k + 1, x4, x23, x25, x27, x29, x30, x31, x33, x34, x35, x37, x38, x39, x40, x41, x42, x179000, x179001, x183000, x183001, x186000, x191000, x196000 => (hello_Kind.f x4).bind fun t200 => (if t200 = x23 then (if (x179000.toList == x183000.toList && (x179001.toList == x183001.toList)) = true then (if (x25 == x27) = true then (if x186000.toList = x30.toList then (if (x29 == x31) = true then (if x191000.toList = x34.toList then (if (x33 == x35) = true then (if x196000.toList = x38.toList then (if (x37 == x39) = true then (if (x41 == x42) = true then (if x42 = true then (if 1 ≤ (x4.size : Int) then (if x40.toList = (x4.extract 1 x4.size).toList then (some true) else (none)) else (none)) else (some (x40.toList == ([] : List UInt8)))) else (none)) else (none)) else (none)) else (none)) else (none)) else (none)) else (none)) else (none)) else (none)) else (none))
end
def escutcheonlaw15_HelloTells.f (k : Nat) (a0_0 : ByteArray) (a0_1 : ByteArray) (a1 : ByteArray) (a2 : ByteArray) (a3 : ByteArray) (a4 : ByteArray) : Option (Bool) := if (a0_0.size : Int) > 100 then (escutcheonlaw15_HelloTells.j0 k a1 a2 a3 a4 true a0_0 a0_1) else (if (a0_1.size : Int) > 100 then (escutcheonlaw15_HelloTells.j0 k a1 a2 a3 a4 true a0_0 a0_1) else (if (a1.size : Int) > 100 then (escutcheonlaw15_HelloTells.j0 k a1 a2 a3 a4 true a0_0 a0_1) else (if (a2.size : Int) > 100 then (escutcheonlaw15_HelloTells.j0 k a1 a2 a3 a4 true a0_0 a0_1) else (if (a3.size : Int) > 3000 then (escutcheonlaw15_HelloTells.j0 k a1 a2 a3 a4 true a0_0 a0_1) else (if (a4.size : Int) > 3000 then (escutcheonlaw15_HelloTells.j0 k a1 a2 a3 a4 true a0_0 a0_1) else ((escutcheonlaw15_alive.f k).bind fun t161 => (escutcheonlaw15_HelloTells.j0 k a1 a2 a3 a4 (!t161) a0_0 a0_1)))))))
theorem escutcheonlaw15_HelloTells.mono_l : ∀ k, (∀ y0 y1 y2 y3 y4 y5 y6, LeO (escutcheonlaw15_HelloTells.j0 k y0 y1 y2 y3 y4 y5 y6) (escutcheonlaw15_HelloTells.j0 (k + 1) y0 y1 y2 y3 y4 y5 y6)) ∧ (∀ y0 y1 y2 y3 y4 y5 y6 y7 y8 y9 y10 y11, LeO (escutcheonlaw15_HelloTells.j1 k y0 y1 y2 y3 y4 y5 y6 y7 y8 y9 y10 y11) (escutcheonlaw15_HelloTells.j1 (k + 1) y0 y1 y2 y3 y4 y5 y6 y7 y8 y9 y10 y11)) ∧ (∀ y0 y1, LeO (escutcheonlaw15_HelloTells.j2 k y0 y1) (escutcheonlaw15_HelloTells.j2 (k + 1) y0 y1)) ∧ (∀ y0 y1 y2, LeO (escutcheonlaw15_HelloTells.j3 k y0 y1 y2) (escutcheonlaw15_HelloTells.j3 (k + 1) y0 y1 y2)) ∧ (∀ y0 y1, LeO (escutcheonlaw15_HelloTells.j4 k y0 y1) (escutcheonlaw15_HelloTells.j4 (k + 1) y0 y1)) ∧ (∀ y0 y1 y2 y3 y4 y5 y6 y7 y8 y9 y10 y11 y12 y13 y14 y15 y16 y17 y18 y19 y20 y21 y22, LeO (escutcheonlaw15_HelloTells.j5 k y0 y1 y2 y3 y4 y5 y6 y7 y8 y9 y10 y11 y12 y13 y14 y15 y16 y17 y18 y19 y20 y21 y22) (escutcheonlaw15_HelloTells.j5 (k + 1) y0 y1 y2 y3 y4 y5 y6 y7 y8 y9 y10 y11 y12 y13 y14 y15 y16 y17 y18 y19 y20 y21 y22))
  | 0 => ⟨fun _ _ _ _ _ _ _ r h => by simp [escutcheonlaw15_HelloTells.j0] at h, fun _ _ _ _ _ _ _ _ _ _ _ _ r h => by simp [escutcheonlaw15_HelloTells.j1] at h, fun _ _ r h => by simp [escutcheonlaw15_HelloTells.j2] at h, fun _ _ _ r h => by simp [escutcheonlaw15_HelloTells.j3] at h, fun _ _ r h => by simp [escutcheonlaw15_HelloTells.j4] at h, fun _ _ _ _ _ _ _ _ _ _ _ _ _ _ _ _ _ _ _ _ _ _ _ r h => by simp [escutcheonlaw15_HelloTells.j5] at h⟩
  | k + 1 => by
    obtain ⟨ih0, ih1, ih2, ih3, ih4, ih5⟩ := escutcheonlaw15_HelloTells.mono_l k
    refine ⟨?_, ?_, ?_, ?_, ?_, ?_⟩
    · intro y0 y1 y2 y3 y4 y5 y6
      unfold escutcheonlaw15_HelloTells.j0
      repeat' first
      | (with_reducible exact ih0 _ _ _ _ _ _ _)
      | (with_reducible exact ih1 _ _ _ _ _ _ _ _ _ _ _ _)
      | (with_reducible exact ih2 _ _)
      | (with_reducible exact ih3 _ _ _)
      | (with_reducible exact ih4 _ _)
      | (with_reducible exact ih5 _ _ _ _ _ _ _ _ _ _ _ _ _ _ _ _ _ _ _ _ _ _ _)
      | (with_reducible exact escutcheonlaw15_alive.mono _)
      | (with_reducible exact escutcheonref14_GetHello.mono _ _)
      | (with_reducible exact hello_GetHello.mono _ _)
      | (with_reducible exact LeO.refl _)
      | (with_reducible exact LeO.none _)
      | (with_reducible refine LeO.ite ?_ ?_)
      | (with_reducible refine LeO.bind ?_ (fun _ => ?_))
      | exact ih0 _ _ _ _ _ _ _
      | exact ih1 _ _ _ _ _ _ _ _ _ _ _ _
      | exact ih2 _ _
      | exact ih3 _ _ _
      | exact ih4 _ _
      | exact ih5 _ _ _ _ _ _ _ _ _ _ _ _ _ _ _ _ _ _ _ _ _ _ _
      | exact escutcheonlaw15_alive.mono _
      | exact escutcheonref14_GetHello.mono _ _
      | exact hello_GetHello.mono _ _
      | exact LeO.none _
      | refine LeO.ite ?_ ?_
      | refine LeO.bind ?_ (fun _ => ?_)
    · intro y0 y1 y2 y3 y4 y5 y6 y7 y8 y9 y10 y11
      unfold escutcheonlaw15_HelloTells.j1
      repeat' first
      | (with_reducible exact ih0 _ _ _ _ _ _ _)
      | (with_reducible exact ih1 _ _ _ _ _ _ _ _ _ _ _ _)
      | (with_reducible exact ih2 _ _)
      | (with_reducible exact ih3 _ _ _)
      | (with_reducible exact ih4 _ _)
      | (with_reducible exact ih5 _ _ _ _ _ _ _ _ _ _ _ _ _ _ _ _ _ _ _ _ _ _ _)
      | (with_reducible exact escutcheonlaw15_alive.mono _)
      | (with_reducible exact escutcheonref14_GetHello.mono _ _)
      | (with_reducible exact hello_GetHello.mono _ _)
      | (with_reducible exact LeO.refl _)
      | (with_reducible exact LeO.none _)
      | (with_reducible refine LeO.ite ?_ ?_)
      | (with_reducible refine LeO.bind ?_ (fun _ => ?_))
      | exact ih0 _ _ _ _ _ _ _
      | exact ih1 _ _ _ _ _ _ _ _ _ _ _ _
      | exact ih2 _ _
      | exact ih3 _ _ _
      | exact ih4 _ _
      | exact ih5 _ _ _ _ _ _ _ _ _ _ _ _ _ _ _ _ _ _ _ _ _ _ _
      | exact escutcheonlaw15_alive.mono _
      | exact escutcheonref14_GetHello.mono _ _
      | exact hello_GetHello.mono _ _
      | exact LeO.none _
      | refine LeO.ite ?_ ?_
      | refine LeO.bind ?_ (fun _ => ?_)
    · intro y0 y1
      unfold escutcheonlaw15_HelloTells.j2
      repeat' first
      | (with_reducible exact ih0 _ _ _ _ _ _ _)
      | (with_reducible exact ih1 _ _ _ _ _ _ _ _ _ _ _ _)
      | (with_reducible exact ih2 _ _)
      | (with_reducible exact ih3 _ _ _)
      | (with_reducible exact ih4 _ _)
      | (with_reducible exact ih5 _ _ _ _ _ _ _ _ _ _ _ _ _ _ _ _ _ _ _ _ _ _ _)
      | (with_reducible exact escutcheonlaw15_alive.mono _)
      | (with_reducible exact escutcheonref14_GetHello.mono _ _)
      | (with_reducible exact hello_GetHello.mono _ _)
      | (with_reducible exact LeO.refl _)
      | (with_reducible exact LeO.none _)
      | (with_reducible refine LeO.ite ?_ ?_)
      | (with_reducible refine LeO.bind ?_ (fun _ => ?_))
      | exact ih0 _ _ _ _ _ _ _
      | exact ih1 _ _ _ _ _ _ _ _ _ _ _ _
      | exact ih2 _ _
      | exact ih3 _ _ _
      | exact ih4 _ _
      | exact ih5 _ _ _ _ _ _ _ _ _ _ _ _ _ _ _ _ _ _ _ _ _ _ _
      | exact escutcheonlaw15_alive.mono _
      | exact escutcheonref14_GetHello.mono _ _
      | exact hello_GetHello.mono _ _
      | exact LeO.none _
      | refine LeO.ite ?_ ?_
      | refine LeO.bind ?_ (fun _ => ?_)
    · intro y0 y1 y2
      unfold escutcheonlaw15_HelloTells.j3
      repeat' first
      | (with_reducible exact ih0 _ _ _ _ _ _ _)
      | (with_reducible exact ih1 _ _ _ _ _ _ _ _ _ _ _ _)
      | (with_reducible exact ih2 _ _)
      | (with_reducible exact ih3 _ _ _)
      | (with_reducible exact ih4 _ _)
      | (with_reducible exact ih5 _ _ _ _ _ _ _ _ _ _ _ _ _ _ _ _ _ _ _ _ _ _ _)
      | (with_reducible exact escutcheonlaw15_alive.mono _)
      | (with_reducible exact escutcheonref14_GetHello.mono _ _)
      | (with_reducible exact hello_GetHello.mono _ _)
      | (with_reducible exact LeO.refl _)
      | (with_reducible exact LeO.none _)
      | (with_reducible refine LeO.ite ?_ ?_)
      | (with_reducible refine LeO.bind ?_ (fun _ => ?_))
      | exact ih0 _ _ _ _ _ _ _
      | exact ih1 _ _ _ _ _ _ _ _ _ _ _ _
      | exact ih2 _ _
      | exact ih3 _ _ _
      | exact ih4 _ _
      | exact ih5 _ _ _ _ _ _ _ _ _ _ _ _ _ _ _ _ _ _ _ _ _ _ _
      | exact escutcheonlaw15_alive.mono _
      | exact escutcheonref14_GetHello.mono _ _
      | exact hello_GetHello.mono _ _
      | exact LeO.none _
      | refine LeO.ite ?_ ?_
      | refine LeO.bind ?_ (fun _ => ?_)
    · intro y0 y1
      unfold escutcheonlaw15_HelloTells.j4
      repeat' first
      | (with_reducible exact ih0 _ _ _ _ _ _ _)
      | (with_reducible exact ih1 _ _ _ _ _ _ _ _ _ _ _ _)
      | (with_reducible exact ih2 _ _)
      | (with_reducible exact ih3 _ _ _)
      | (with_reducible exact ih4 _ _)
      | (with_reducible exact ih5 _ _ _ _ _ _ _ _ _ _ _ _ _ _ _ _ _ _ _ _ _ _ _)
      | (with_reducible exact escutcheonlaw15_alive.mono _)
      | (with_reducible exact escutcheonref14_GetHello.mono _ _)
      | (with_reducible exact hello_GetHello.mono _ _)
      | (with_reducible exact LeO.refl _)
      | (with_reducible exact LeO.none _)
      | (with_reducible refine LeO.ite ?_ ?_)
      | (with_reducible refine LeO.bind ?_ (fun _ => ?_))
      | exact ih0 _ _ _ _ _ _ _
      | exact ih1 _ _ _ _ _ _ _ _ _ _ _ _
      | exact ih2 _ _
      | exact ih3 _ _ _
      | exact ih4 _ _
      | exact ih5 _ _ _ _ _ _ _ _ _ _ _ _ _ _ _ _ _ _ _ _ _ _ _
      | exact escutcheonlaw15_alive.mono _
      | exact escutcheonref14_GetHello.mono _ _
      | exact hello_GetHello.mono _ _
      | exact LeO.none _
      | refine LeO.ite ?_ ?_
      | refine LeO.bind ?_ (fun _ => ?_)
    · intro y0 y1 y2 y3 y4 y5 y6 y7 y8 y9 y10 y11 y12 y13 y14 y15 y16 y17 y18 y19 y20 y21 y22
      unfold escutcheonlaw15_HelloTells.j5
      repeat' first
      | (with_reducible exact ih0 _ _ _ _ _ _ _)
      | (with_reducible exact ih1 _ _ _ _ _ _ _ _ _ _ _ _)
      | (with_reducible exact ih2 _ _)
      | (with_reducible exact ih3 _ _ _)
      | (with_reducible exact ih4 _ _)
      | (with_reducible exact ih5 _ _ _ _ _ _ _ _ _ _ _ _ _ _ _ _ _ _ _ _ _ _ _)
      | (with_reducible exact escutcheonlaw15_alive.mono _)
      | (with_reducible exact escutcheonref14_GetHello.mono _ _)
      | (with_reducible exact hello_GetHello.mono _ _)
      | (with_reducible exact LeO.refl _)
      | (with_reducible exact LeO.none _)
      | (with_reducible refine LeO.ite ?_ ?_)
      | (with_reducible refine LeO.bind ?_ (fun _ => ?_))
      | exact ih0 _ _ _ _ _ _ _
      | exact ih1 _ _ _ _ _ _ _ _ _ _ _ _
      | exact ih2 _ _
      | exact ih3 _ _ _
      | exact ih4 _ _
      | exact ih5 _ _ _ _ _ _ _ _ _ _ _ _ _ _ _ _ _ _ _ _ _ _ _
      | exact escutcheonlaw15_alive.mono _
      | exact escutcheonref14_GetHello.mono _ _
      | exact hello_GetHello.mono _ _
      | exact LeO.none _
      | refine LeO.ite ?_ ?_
      | refine LeO.bind ?_ (fun _ => ?_)
theorem escutcheonlaw15_HelloTells.mono : ∀ a0 a1 a2 a3 a4 a5 k, LeO (escutcheonlaw15_HelloTells.f k a0 a1 a2 a3 a4 a5) (escutcheonlaw15_HelloTells.f (k + 1) a0 a1 a2 a3 a4 a5) := by
  intro a0 a1 a2 a3 a4 a5 k
  obtain ⟨ih0, ih1, ih2, ih3, ih4, ih5⟩ := escutcheonlaw15_HelloTells.mono_l k
  unfold escutcheonlaw15_HelloTells.f
  repeat' first
      | (with_reducible exact ih0 _ _ _ _ _ _ _)
      | (with_reducible exact ih1 _ _ _ _ _ _ _ _ _ _ _ _)
      | (with_reducible exact ih2 _ _)
      | (with_reducible exact ih3 _ _ _)
      | (with_reducible exact ih4 _ _)
      | (with_reducible exact ih5 _ _ _ _ _ _ _ _ _ _ _ _ _ _ _ _ _ _ _ _ _ _ _)
      | (with_reducible exact escutcheonlaw15_alive.mono _)
      | (with_reducible exact escutcheonref14_GetHello.mono _ _)
      | (with_reducible exact hello_GetHello.mono _ _)
      | (with_reducible exact LeO.refl _)
      | (with_reducible exact LeO.none _)
      | (with_reducible refine LeO.ite ?_ ?_)
      | (with_reducible refine LeO.bind ?_ (fun _ => ?_))
      | exact ih0 _ _ _ _ _ _ _
      | exact ih1 _ _ _ _ _ _ _ _ _ _ _ _
      | exact ih2 _ _
      | exact ih3 _ _ _
      | exact ih4 _ _
      | exact ih5 _ _ _ _ _ _ _ _ _ _ _ _ _ _ _ _ _ _ _ _ _ _ _
      | exact escutcheonlaw15_alive.mono _
      | exact escutcheonref14_GetHello.mono _ _
      | exact hello_GetHello.mono _ _
      | exact LeO.none _
      | refine LeO.ite ?_ ?_
      | refine LeO.bind ?_ (fun _ => ?_)
set_option maxHeartbeats 8000000 in
set_option maxRecDepth 100000 in
theorem escutcheonlaw15_HelloTells.calls (k : Nat) (a0_0 : ByteArray) (a0_1 : ByteArray) (a1 : ByteArray) (a2 : ByteArray) (a3 : ByteArray) (a4 : ByteArray) (r : Bool) (w : World) (h : escutcheonlaw15_HelloTells.f k a0_0 a0_1 a1 a2 a3 a4 = some r) :
    Calls Try.prog 6 #[.agg #[.string a0_0, .string a0_1], .string a1, .string a2, .string a3, .string a4] w fun e w' => e = .returned (.bool r) ∧ Below w.heap.size w w' := by
  have hu25 := Try.underlying25
  have hu38 := Try.underlying38
  have hu34 := Try.underlying34
  have hu43 := Try.underlying43
  have HB := Aside0.mk (Below.refl w.heap.size w)
  have H : (if (a0_0.size : Int) > 100 then (escutcheonlaw15_HelloTells.j0 k a1 a2 a3 a4 true a0_0 a0_1) else (if (a0_1.size : Int) > 100 then (escutcheonlaw15_HelloTells.j0 k a1 a2 a3 a4 true a0_0 a0_1) else (if (a1.size : Int) > 100 then (escutcheonlaw15_HelloTells.j0 k a1 a2 a3 a4 true a0_0 a0_1) else (if (a2.size : Int) > 100 then (escutcheonlaw15_HelloTells.j0 k a1 a2 a3 a4 true a0_0 a0_1) else (if (a3.size : Int) > 3000 then (escutcheonlaw15_HelloTells.j0 k a1 a2 a3 a4 true a0_0 a0_1) else (if (a4.size : Int) > 3000 then (escutcheonlaw15_HelloTells.j0 k a1 a2 a3 a4 true a0_0 a0_1) else ((escutcheonlaw15_alive.f k).bind fun t161 => (escutcheonlaw15_HelloTells.j0 k a1 a2 a3 a4 (!t161) a0_0 a0_1)))))))) = some r := h
  clear h
  have HC6 := Aside0.mk H
  clear H
  go_enter Try.func6, Try.ntmps6
  go_upto_region 1 with (first | ((with_reducible refine gate_dst (N := 5) rfl ?_); (try (refine gate_guard (by rfl) ?_; dsimp only)); refine box_event ?hg (N := 5) ?hd (cs := #[.string a0_0, .string a0_1]) (t := 25) ?hr ?_; (case hd => rfl); (case hg => rfl); (case hr => first | (go_simp; done) | (go_simp; rfl)); intro gb160 hg w7 hbox hb; have n0_ := Aside0.mk (below_step (by repeat (first | (with_reducible first | exact HB.out | apply below_alloc | apply pw_below_drewN | apply below_drew1) | exact HB.out)) hb); have n1_ := Aside0.mk (hbox); have n2_ := Aside0.mk ((by rw [hg]; exact (below_size (by repeat (first | (with_reducible first | exact HB.out | apply below_alloc | apply pw_below_drewN | apply below_drew1) | exact HB.out))) : w.heap.size ≤ gb160)); have n3_ := Aside0.mk ((by rw [hg]; exact (below_size (by repeat (first | (with_reducible first | exact HB.out | apply below_alloc | apply pw_below_drewN | apply below_drew1) | exact HB.out))) : w.heap.size ≤ gb160)); clear HB; have HB := n0_; have BK160 := n1_; have GW160 := n2_; have GE160 := n3_; clear n0_ n1_ n2_ n3_; clear hb hbox hg))
  (try simp only [Act.put, List.setIfInBounds_toArray, List.set_cons_zero, List.set_cons_succ])
  go_cut [76] (fun v76 wc => ∃ (kq : Nat) (x76_5 : Bool), v76 = .bool x76_5 ∧ Aside0 (escutcheonlaw15_HelloTells.j0 kq a1 a2 a3 a4 x76_5 a0_0 a0_1 = some r) ∧ Aside0 (kq ≤ k) ∧ Aside0 (wc.heap[gb160]? = some (.cells #[.string a0_0, .string a0_1] 25 (0, 0))) ∧ Aside0 (Below w.heap.size w wc))
  case first => as_aux_lemma =>
    have H := HC6.out
    clear HC6
    by_cases c8 : (a0_0.size : Int) > 100
    · as_aux_lemma =>
      rw [if_pos c8] at H
      have c8b0 : decide (100 < (a0_0.size : Int)) = true := decide_eq_true c8
      have c8b1 : decide (100 < a0_0.size) = true := decide_eq_true (by omega)
      clear c8
      (first | rw [c8b0] | (simp only [i64_w, i32_w]; rw [c8b0]) | skip)
      have H' := Aside0.mk H
      clear H
      have hcz9_0 : w7.cell? ⟨gb160, 0, none⟩ = some (.string a0_0) := (blk_cell BK160.out 0).trans rfl
      have hcz9_1 : w7.cell? ⟨gb160, 1, none⟩ = some (.string a0_1) := (blk_cell BK160.out 1).trans rfl
      have hfz9_0 := blk_frozen BK160.out 0
      have hfz9_1 := blk_frozen BK160.out 1
      go_wp2
      go_meet
      case rel => exact ⟨_, (true), (by first | rfl | (simp; done) | (simp [*]; done)), H', ⟨by first | omega | exact Nat.le_refl _⟩, ⟨by (with_reducible repeat (first | refine blk_drewN ?_ _ | refine blk_drew ?_ | refine blk_alloc ?_ _)); exact BK160.out⟩, ⟨by repeat (first | (with_reducible first | exact HB.out | apply below_alloc | apply pw_below_drewN | apply below_drew1 | refine below_set ?_ GE160.out) | exact HB.out)⟩⟩
    · as_aux_lemma =>
      rw [if_neg c8] at H
      have c8b0 : decide (100 < (a0_0.size : Int)) = false := decide_eq_false c8
      have c8b1 : decide (100 < a0_0.size) = false := decide_eq_false (by omega)
      clear c8
      (first | rw [c8b0] | (simp only [i64_w, i32_w]; rw [c8b0]) | skip)
      by_cases c10 : (a0_1.size : Int) > 100
      · as_aux_lemma =>
        rw [if_pos c10] at H
        have c10b0 : decide (100 < (a0_1.size : Int)) = true := decide_eq_true c10
        have c10b1 : decide (100 < a0_1.size) = true := decide_eq_true (by omega)
        clear c10
        have H' := Aside0.mk H
        clear H
        have hcz11_0 : w7.cell? ⟨gb160, 0, none⟩ = some (.string a0_0) := (blk_cell BK160.out 0).trans rfl
        have hcz11_1 : w7.cell? ⟨gb160, 1, none⟩ = some (.string a0_1) := (blk_cell BK160.out 1).trans rfl
        have hfz11_0 := blk_frozen BK160.out 0
        have hfz11_1 := blk_frozen BK160.out 1
        go_wp2
        go_meet
        case rel => exact ⟨_, (true), (by first | rfl | (simp; done) | (simp [*]; done)), H', ⟨by first | omega | exact Nat.le_refl _⟩, ⟨by (with_reducible repeat (first | refine blk_drewN ?_ _ | refine blk_drew ?_ | refine blk_alloc ?_ _)); exact BK160.out⟩, ⟨by repeat (first | (with_reducible first | exact HB.out | apply below_alloc | apply pw_below_drewN | apply below_drew1 | refine below_set ?_ GE160.out) | exact HB.out)⟩⟩
      · as_aux_lemma =>
        rw [if_neg c10] at H
        have c10b0 : decide (100 < (a0_1.size : Int)) = false := decide_eq_false c10
        have c10b1 : decide (100 < a0_1.size) = false := decide_eq_false (by omega)
        clear c10
        by_cases c12 : (a1.size : Int) > 100
        · as_aux_lemma =>
          rw [if_pos c12] at H
          have c12b0 : decide (100 < (a1.size : Int)) = true := decide_eq_true c12
          have c12b1 : decide (100 < a1.size) = true := decide_eq_true (by omega)
          clear c12
          have H' := Aside0.mk H
          clear H
          have hcz13_0 : w7.cell? ⟨gb160, 0, none⟩ = some (.string a0_0) := (blk_cell BK160.out 0).trans rfl
          have hcz13_1 : w7.cell? ⟨gb160, 1, none⟩ = some (.string a0_1) := (blk_cell BK160.out 1).trans rfl
          have hfz13_0 := blk_frozen BK160.out 0
          have hfz13_1 := blk_frozen BK160.out 1
          go_wp2
          go_meet
          case rel => exact ⟨_, (true), (by first | rfl | (simp; done) | (simp [*]; done)), H', ⟨by first | omega | exact Nat.le_refl _⟩, ⟨by (with_reducible repeat (first | refine blk_drewN ?_ _ | refine blk_drew ?_ | refine blk_alloc ?_ _)); exact BK160.out⟩, ⟨by repeat (first | (with_reducible first | exact HB.out | apply below_alloc | apply pw_below_drewN | apply below_drew1 | refine below_set ?_ GE160.out) | exact HB.out)⟩⟩
        · as_aux_lemma =>
          rw [if_neg c12] at H
          have c12b0 : decide (100 < (a1.size : Int)) = false := decide_eq_false c12
          have c12b1 : decide (100 < a1.size) = false := decide_eq_false (by omega)
          clear c12
          by_cases c14 : (a2.size : Int) > 100
          · as_aux_lemma =>
            rw [if_pos c14] at H
            have c14b0 : decide (100 < (a2.size : Int)) = true := decide_eq_true c14
            have c14b1 : decide (100 < a2.size) = true := decide_eq_true (by omega)
            clear c14
            have H' := Aside0.mk H
            clear H
            have hcz15_0 : w7.cell? ⟨gb160, 0, none⟩ = some (.string a0_0) := (blk_cell BK160.out 0).trans rfl
            have hcz15_1 : w7.cell? ⟨gb160, 1, none⟩ = some (.string a0_1) := (blk_cell BK160.out 1).trans rfl
            have hfz15_0 := blk_frozen BK160.out 0
            have hfz15_1 := blk_frozen BK160.out 1
            go_wp2
            go_meet
            case rel => exact ⟨_, (true), (by first | rfl | (simp; done) | (simp [*]; done)), H', ⟨by first | omega | exact Nat.le_refl _⟩, ⟨by (with_reducible repeat (first | refine blk_drewN ?_ _ | refine blk_drew ?_ | refine blk_alloc ?_ _)); exact BK160.out⟩, ⟨by repeat (first | (with_reducible first | exact HB.out | apply below_alloc | apply pw_below_drewN | apply below_drew1 | refine below_set ?_ GE160.out) | exact HB.out)⟩⟩
          · as_aux_lemma =>
            rw [if_neg c14] at H
            have c14b0 : decide (100 < (a2.size : Int)) = false := decide_eq_false c14
            have c14b1 : decide (100 < a2.size) = false := decide_eq_false (by omega)
            clear c14
            by_cases c16 : (a3.size : Int) > 3000
            · as_aux_lemma =>
              rw [if_pos c16] at H
              have c16b0 : decide (3000 < (a3.size : Int)) = true := decide_eq_true c16
              have c16b1 : decide (3000 < a3.size) = true := decide_eq_true (by omega)
              clear c16
              have H' := Aside0.mk H
              clear H
              have hcz17_0 : w7.cell? ⟨gb160, 0, none⟩ = some (.string a0_0) := (blk_cell BK160.out 0).trans rfl
              have hcz17_1 : w7.cell? ⟨gb160, 1, none⟩ = some (.string a0_1) := (blk_cell BK160.out 1).trans rfl
              have hfz17_0 := blk_frozen BK160.out 0
              have hfz17_1 := blk_frozen BK160.out 1
              go_wp2
              go_meet
              case rel => exact ⟨_, (true), (by first | rfl | (simp; done) | (simp [*]; done)), H', ⟨by first | omega | exact Nat.le_refl _⟩, ⟨by (with_reducible repeat (first | refine blk_drewN ?_ _ | refine blk_drew ?_ | refine blk_alloc ?_ _)); exact BK160.out⟩, ⟨by repeat (first | (with_reducible first | exact HB.out | apply below_alloc | apply pw_below_drewN | apply below_drew1 | refine below_set ?_ GE160.out) | exact HB.out)⟩⟩
            · as_aux_lemma =>
              rw [if_neg c16] at H
              have c16b0 : decide (3000 < (a3.size : Int)) = false := decide_eq_false c16
              have c16b1 : decide (3000 < a3.size) = false := decide_eq_false (by omega)
              clear c16
              by_cases c18 : (a4.size : Int) > 3000
              · as_aux_lemma =>
                rw [if_pos c18] at H
                have c18b0 : decide (3000 < (a4.size : Int)) = true := decide_eq_true c18
                have c18b1 : decide (3000 < a4.size) = true := decide_eq_true (by omega)
                clear c18
                have H' := Aside0.mk H
                clear H
                have hcz19_0 : w7.cell? ⟨gb160, 0, none⟩ = some (.string a0_0) := (blk_cell BK160.out 0).trans rfl
                have hcz19_1 : w7.cell? ⟨gb160, 1, none⟩ = some (.string a0_1) := (blk_cell BK160.out 1).trans rfl
                have hfz19_0 := blk_frozen BK160.out 0
                have hfz19_1 := blk_frozen BK160.out 1
                go_wp2
                go_meet
                case rel => exact ⟨_, (true), (by first | rfl | (simp; done) | (simp [*]; done)), H', ⟨by first | omega | exact Nat.le_refl _⟩, ⟨by (with_reducible repeat (first | refine blk_drewN ?_ _ | refine blk_drew ?_ | refine blk_alloc ?_ _)); exact BK160.out⟩, ⟨by repeat (first | (with_reducible first | exact HB.out | apply below_alloc | apply pw_below_drewN | apply below_drew1 | refine below_set ?_ GE160.out) | exact HB.out)⟩⟩
              · as_aux_lemma =>
                rw [if_neg c18] at H
                have c18b0 : decide (3000 < (a4.size : Int)) = false := decide_eq_false c18
                have c18b1 : decide (3000 < a4.size) = false := decide_eq_false (by omega)
                clear c18
                replace H := Option.bind_eq_some_iff.mp H
                obtain ⟨t161, A200, H⟩ := H
                replace H : (escutcheonlaw15_HelloTells.j0 k a1 a2 a3 a4 (!t161) a0_0 a0_1) = some r := H
                have A20 := Aside0.mk A200
                clear A200
                have H' := Aside0.mk H
                clear H
                have hcz21_0 : w7.cell? ⟨gb160, 0, none⟩ = some (.string a0_0) := (blk_cell BK160.out 0).trans rfl
                have hcz21_1 : w7.cell? ⟨gb160, 1, none⟩ = some (.string a0_1) := (blk_cell BK160.out 1).trans rfl
                have hfz21_0 := blk_frozen BK160.out 0
                have hfz21_1 := blk_frozen BK160.out 1
                go_wp2_with (first | (go_at_call 9; (with_reducible refine (escutcheonlaw15_alive.calls k  t161 _ A20.out).mono ?_); rintro e w22 ⟨rfl, hb⟩; have n0_ := Aside0.mk (blk_below (g := gb160) (o := .cells #[.string a0_0, .string a0_1] 25 (0, 0)) (by (with_reducible repeat (first | refine blk_drewN ?_ _ | refine blk_drew ?_ | refine blk_alloc ?_ _)); exact BK160.out) hb); have n1_ := Aside0.mk (below_step (by repeat (first | (with_reducible first | exact HB.out | apply below_alloc | apply pw_below_drewN | apply below_drew1 | refine below_set ?_ GE160.out) | exact HB.out)) hb); clear BK160; clear HB; have BK160 := n0_; have HB := n1_; clear n0_ n1_; (try clear hb); (try clear hb2); (try clear hk); (try clear hi)))
                go_meet
                case rel => exact ⟨_, (!t161), (by first | rfl | (simp; done) | (simp [*]; done)), H', ⟨by first | omega | exact Nat.le_refl _⟩, ⟨by (with_reducible repeat (first | refine blk_drewN ?_ _ | refine blk_drew ?_ | refine blk_alloc ?_ _)); exact BK160.out⟩, ⟨by repeat (first | (with_reducible first | exact HB.out | apply below_alloc | apply pw_below_drewN | apply below_drew1 | refine below_set ?_ GE160.out) | exact HB.out)⟩⟩
  case rest => as_aux_lemma =>
    clear HC6
    try clear c1
    try clear p2
    try clear c6
    try clear c8
    try clear c8b0
    try clear c8b1
    try clear c10
    try clear c10b0
    try clear c10b1
    try clear c12
    try clear c12b0
    try clear c12b1
    try clear c14
    try clear c14b0
    try clear c14b1
    try clear c16
    try clear c16b0
    try clear c16b1
    try clear c18
    try clear c18b0
    try clear c18b1
    try clear hcz11_0
    try clear hcz11_1
    try clear hcz13_0
    try clear hcz13_1
    try clear hcz15_0
    try clear hcz15_1
    try clear hcz17_0
    try clear hcz17_1
    try clear hcz19_0
    try clear hcz19_1
    try clear hcz21_0
    try clear hcz21_1
    try clear hcz9_0
    try clear hcz9_1
    try clear hfz11_0
    try clear hfz11_1
    try clear hfz13_0
    try clear hfz13_1
    try clear hfz15_0
    try clear hfz15_1
    try clear hfz17_0
    try clear hfz17_1
    try clear hfz19_0
    try clear hfz19_1
    try clear hfz21_0
    try clear hfz21_1
    try clear hfz9_0
    try clear hfz9_1
    obtain ⟨kq, x76_5, rfl, HA, HJ5, BK160, HB⟩ := hcut
    cases kq with
    | zero => exact absurd HA.out (by simp [escutcheonlaw15_HelloTells.j0])
    | succ kj5 =>
      have H := HA.out
      clear HA
      simp only [escutcheonlaw15_HelloTells.j0] at H
      by_cases c23 : x76_5 = true
      · as_aux_lemma =>
        subst c23
        have H1 : ((escutcheonlaw15_alive.f kj5).bind fun t162 => (some t162)) = some r := by rw [if_pos rfl] at H; exact H
        clear H
        have H := H1
        clear H1
        replace H := Option.bind_eq_some_iff.mp H
        obtain ⟨t162, A240, H⟩ := H
        replace H : (some t162) = some r := H
        have A24 := Aside0.mk A240
        clear A240
        obtain rfl := Option.some.inj H
        go_wp2_with (first | ((with_reducible refine gate_callee (f := 9) rfl ?_); refine goesL_ (some 77) rfl rfl Try.func9 (by kernel_rfl) rfl #[] rfl (by (try simp only [List.map_toArray, List.map_cons, List.map_nil]); first | done | rfl | (simp only [List.length_drop, List.length_take]; rfl)) ?_; (with_reducible refine (escutcheonlaw15_alive.calls kj5  t162 _ A24.out).mono ?_); rintro e w25 ⟨rfl, hb⟩; refine ⟨_, rfl, ?_⟩; have n0_ := Aside0.mk (blk_below (g := gb160) (o := .cells #[.string a0_0, .string a0_1] 25 (0, 0)) (by (with_reducible repeat (first | refine blk_drewN ?_ _ | refine blk_drew ?_ | refine blk_alloc ?_ _)); exact BK160.out) hb); have n1_ := Aside0.mk (below_step (by repeat (first | (with_reducible first | exact HB.out | apply below_alloc | apply pw_below_drewN | apply below_drew1 | refine below_set ?_ GE160.out) | exact HB.out)) hb); clear BK160; clear HB; have BK160 := n0_; have HB := n1_; clear n0_ n1_; (try clear hb); (try clear hb2); (try clear hk); (try clear hi)) | (go_at_call 9; (with_reducible refine (escutcheonlaw15_alive.calls kj5  t162 _ A24.out).mono ?_); rintro e w25 ⟨rfl, hb⟩; have n0_ := Aside0.mk (blk_below (g := gb160) (o := .cells #[.string a0_0, .string a0_1] 25 (0, 0)) (by (with_reducible repeat (first | refine blk_drewN ?_ _ | refine blk_drew ?_ | refine blk_alloc ?_ _)); exact BK160.out) hb); have n1_ := Aside0.mk (below_step (by repeat (first | (with_reducible first | exact HB.out | apply below_alloc | apply pw_below_drewN | apply below_drew1 | refine below_set ?_ GE160.out) | exact HB.out)) hb); clear BK160; clear HB; have BK160 := n0_; have HB := n1_; clear n0_ n1_; (try clear hb); (try clear hb2); (try clear hk); (try clear hi)))
        go_ret
        exact ⟨by first | rfl | (simp [errW_none, errW_some] <;> rfl) | (simp [*, errW_none, errW_some] <;> rfl), by repeat (first | (with_reducible first | exact HB.out | apply below_alloc | apply pw_below_drewN | apply below_drew1 | refine below_set ?_ GE160.out) | exact HB.out)⟩
      · as_aux_lemma =>
        replace c23 := Bool.eq_false_iff.mpr c23
        subst c23
        have H1 : ((hello_PutHello.f a0_0 a0_1).bind fun bt163 => ((escutcheonref14_Hello.f a0_0 a0_1).bind fun bt165 => ((hello_PutChallenge.f a1).bind fun bt167 => ((hello_PutProof.f a2).bind fun bt169 => ((hello_PutFinish.f a2).bind fun bt171 => ((hello_PutRecord.f a3).bind fun bt173 => (if bt163.1.toList = bt165.1.toList then (if (bt163.2 != bt165.2) = true then (none) else (if (bt167.2 != ((a1.size : Int) == 16)) = true then (none) else (if (bt169.2 != ((a2.size : Int) == 32)) = true then (none) else (if (bt171.2 != bt169.2) = true then (none) else (if (a3.size : Int) ≥ 24 then (escutcheonlaw15_HelloTells.j1 kj5 a1 a2 a3 a4 bt167.1 bt167.2 bt169.1 bt169.2 bt171.1 bt173.1 bt173.2 (bt173.2 != (decide ((a3.size : Int) ≤ 2199)))) else (escutcheonlaw15_HelloTells.j1 kj5 a1 a2 a3 a4 bt167.1 bt167.2 bt169.1 bt169.2 bt171.1 bt173.1 bt173.2 (bt173.2 != false))))))) else (none)))))))) = some r := by rw [if_neg (show ¬ (false = true) by decide)] at H; exact H
        clear H
        have H := H1
        clear H1
        replace H := Option.bind_eq_some_iff.mp H
        obtain ⟨⟨t163, t164⟩, A260, H⟩ := H
        replace H : ((escutcheonref14_Hello.f a0_0 a0_1).bind fun bt165 => ((hello_PutChallenge.f a1).bind fun bt167 => ((hello_PutProof.f a2).bind fun bt169 => ((hello_PutFinish.f a2).bind fun bt171 => ((hello_PutRecord.f a3).bind fun bt173 => (if t163.toList = bt165.1.toList then (if (t164 != bt165.2) = true then (none) else (if (bt167.2 != ((a1.size : Int) == 16)) = true then (none) else (if (bt169.2 != ((a2.size : Int) == 32)) = true then (none) else (if (bt171.2 != bt169.2) = true then (none) else (if (a3.size : Int) ≥ 24 then (escutcheonlaw15_HelloTells.j1 kj5 a1 a2 a3 a4 bt167.1 bt167.2 bt169.1 bt169.2 bt171.1 bt173.1 bt173.2 (bt173.2 != (decide ((a3.size : Int) ≤ 2199)))) else (escutcheonlaw15_HelloTells.j1 kj5 a1 a2 a3 a4 bt167.1 bt167.2 bt169.1 bt169.2 bt171.1 bt173.1 bt173.2 (bt173.2 != false))))))) else (none))))))) = some r := H
        have A26 := Aside0.mk A260
        clear A260
        replace H := Option.bind_eq_some_iff.mp H
        obtain ⟨⟨t165, t166⟩, A270, H⟩ := H
        replace H : ((hello_PutChallenge.f a1).bind fun bt167 => ((hello_PutProof.f a2).bind fun bt169 => ((hello_PutFinish.f a2).bind fun bt171 => ((hello_PutRecord.f a3).bind fun bt173 => (if t163.toList = t165.toList then (if (t164 != t166) = true then (none) else (if (bt167.2 != ((a1.size : Int) == 16)) = true then (none) else (if (bt169.2 != ((a2.size : Int) == 32)) = true then (none) else (if (bt171.2 != bt169.2) = true then (none) else (if (a3.size : Int) ≥ 24 then (escutcheonlaw15_HelloTells.j1 kj5 a1 a2 a3 a4 bt167.1 bt167.2 bt169.1 bt169.2 bt171.1 bt173.1 bt173.2 (bt173.2 != (decide ((a3.size : Int) ≤ 2199)))) else (escutcheonlaw15_HelloTells.j1 kj5 a1 a2 a3 a4 bt167.1 bt167.2 bt169.1 bt169.2 bt171.1 bt173.1 bt173.2 (bt173.2 != false))))))) else (none)))))) = some r := H
        have A27 := Aside0.mk A270
        clear A270
        replace H := Option.bind_eq_some_iff.mp H
        obtain ⟨⟨t167, t168⟩, A280, H⟩ := H
        replace H : ((hello_PutProof.f a2).bind fun bt169 => ((hello_PutFinish.f a2).bind fun bt171 => ((hello_PutRecord.f a3).bind fun bt173 => (if t163.toList = t165.toList then (if (t164 != t166) = true then (none) else (if (t168 != ((a1.size : Int) == 16)) = true then (none) else (if (bt169.2 != ((a2.size : Int) == 32)) = true then (none) else (if (bt171.2 != bt169.2) = true then (none) else (if (a3.size : Int) ≥ 24 then (escutcheonlaw15_HelloTells.j1 kj5 a1 a2 a3 a4 t167 t168 bt169.1 bt169.2 bt171.1 bt173.1 bt173.2 (bt173.2 != (decide ((a3.size : Int) ≤ 2199)))) else (escutcheonlaw15_HelloTells.j1 kj5 a1 a2 a3 a4 t167 t168 bt169.1 bt169.2 bt171.1 bt173.1 bt173.2 (bt173.2 != false))))))) else (none))))) = some r := H
        have A28 := Aside0.mk A280
        clear A280
        replace H := Option.bind_eq_some_iff.mp H
        obtain ⟨⟨t169, t170⟩, A290, H⟩ := H
        replace H : ((hello_PutFinish.f a2).bind fun bt171 => ((hello_PutRecord.f a3).bind fun bt173 => (if t163.toList = t165.toList then (if (t164 != t166) = true then (none) else (if (t168 != ((a1.size : Int) == 16)) = true then (none) else (if (t170 != ((a2.size : Int) == 32)) = true then (none) else (if (bt171.2 != t170) = true then (none) else (if (a3.size : Int) ≥ 24 then (escutcheonlaw15_HelloTells.j1 kj5 a1 a2 a3 a4 t167 t168 t169 t170 bt171.1 bt173.1 bt173.2 (bt173.2 != (decide ((a3.size : Int) ≤ 2199)))) else (escutcheonlaw15_HelloTells.j1 kj5 a1 a2 a3 a4 t167 t168 t169 t170 bt171.1 bt173.1 bt173.2 (bt173.2 != false))))))) else (none)))) = some r := H
        have A29 := Aside0.mk A290
        clear A290
        replace H := Option.bind_eq_some_iff.mp H
        obtain ⟨⟨t171, t172⟩, A300, H⟩ := H
        replace H : ((hello_PutRecord.f a3).bind fun bt173 => (if t163.toList = t165.toList then (if (t164 != t166) = true then (none) else (if (t168 != ((a1.size : Int) == 16)) = true then (none) else (if (t170 != ((a2.size : Int) == 32)) = true then (none) else (if (t172 != t170) = true then (none) else (if (a3.size : Int) ≥ 24 then (escutcheonlaw15_HelloTells.j1 kj5 a1 a2 a3 a4 t167 t168 t169 t170 t171 bt173.1 bt173.2 (bt173.2 != (decide ((a3.size : Int) ≤ 2199)))) else (escutcheonlaw15_HelloTells.j1 kj5 a1 a2 a3 a4 t167 t168 t169 t170 t171 bt173.1 bt173.2 (bt173.2 != false))))))) else (none))) = some r := H
        have A30 := Aside0.mk A300
        clear A300
        replace H := Option.bind_eq_some_iff.mp H
        obtain ⟨⟨t173, t174⟩, A310, H⟩ := H
        replace H : (if t163.toList = t165.toList then (if (t164 != t166) = true then (none) else (if (t168 != ((a1.size : Int) == 16)) = true then (none) else (if (t170 != ((a2.size : Int) == 32)) = true then (none) else (if (t172 != t170) = true then (none) else (if (a3.size : Int) ≥ 24 then (escutcheonlaw15_HelloTells.j1 kj5 a1 a2 a3 a4 t167 t168 t169 t170 t171 t173 t174 (t174 != (decide ((a3.size : Int) ≤ 2199)))) else (escutcheonlaw15_HelloTells.j1 kj5 a1 a2 a3 a4 t167 t168 t169 t170 t171 t173 t174 (t174 != false))))))) else (none)) = some r := H
        have A31 := Aside0.mk A310
        clear A310
        have HC32 := Aside0.mk H
        clear H
        have hcz33_0 : wc.cell? ⟨gb160, 0, none⟩ = some (.string a0_0) := (blk_cell BK160.out 0).trans rfl
        have hcz33_1 : wc.cell? ⟨gb160, 1, none⟩ = some (.string a0_1) := (blk_cell BK160.out 1).trans rfl
        have hfz33_0 := blk_frozen BK160.out 0
        have hfz33_1 := blk_frozen BK160.out 1
        go_upto_region 9 with (first | ((with_reducible refine gate_callee (f := 8) rfl ?_); refine goesL_ (some 80) rfl rfl Try.func8 (by kernel_rfl) rfl #[.agg #[.string a0_0, .string a0_1]] rfl (by (try simp only [List.map_toArray, List.map_cons, List.map_nil]); first | done | rfl | (simp only [List.length_drop, List.length_take]; rfl)) ?_; (with_reducible refine (hello_PutHello.calls a0_0 a0_1 t163 t164 _ A26.out).mono ?_); rintro e w34 ⟨rfl, hb⟩; refine ⟨_, rfl, ?_⟩; have n0_ := Aside0.mk (blk_below (g := gb160) (o := .cells #[.string a0_0, .string a0_1] 25 (0, 0)) (by (with_reducible repeat (first | refine blk_drewN ?_ _ | refine blk_drew ?_ | refine blk_alloc ?_ _)); exact BK160.out) hb); have n1_ := Aside0.mk (below_step (by repeat (first | (with_reducible first | exact HB.out | apply below_alloc | apply pw_below_drewN | apply below_drew1 | refine below_set ?_ GE160.out) | exact HB.out)) hb); clear BK160; clear HB; have BK160 := n0_; have HB := n1_; clear n0_ n1_; (try clear hb); (try clear hb2); (try clear hk); (try clear hi); have hcz35_0 : w34.cell? ⟨gb160, 0, none⟩ = some (.string a0_0) := (blk_cell BK160.out 0).trans rfl; have hcz35_1 : w34.cell? ⟨gb160, 1, none⟩ = some (.string a0_1) := (blk_cell BK160.out 1).trans rfl; have hfz35_0 := blk_frozen BK160.out 0; have hfz35_1 := blk_frozen BK160.out 1) | ((with_reducible refine gate_callee (f := 18) rfl ?_); refine goesL_ (some 85) rfl rfl Try.func18 (by kernel_rfl) rfl #[.agg #[.string a0_0, .string a0_1]] rfl (by (try simp only [List.map_toArray, List.map_cons, List.map_nil]); first | done | rfl | (simp only [List.length_drop, List.length_take]; rfl)) ?_; (with_reducible refine (escutcheonref14_Hello.calls a0_0 a0_1 t165 t166 _ A27.out).mono ?_); rintro e w36 ⟨rfl, hb⟩; refine ⟨_, rfl, ?_⟩; have n0_ := Aside0.mk (blk_below (g := gb160) (o := .cells #[.string a0_0, .string a0_1] 25 (0, 0)) (by (with_reducible repeat (first | refine blk_drewN ?_ _ | refine blk_drew ?_ | refine blk_alloc ?_ _)); exact BK160.out) hb); have n1_ := Aside0.mk (below_step (by repeat (first | (with_reducible first | exact HB.out | apply below_alloc | apply pw_below_drewN | apply below_drew1 | refine below_set ?_ GE160.out) | exact HB.out)) hb); clear BK160; clear HB; have BK160 := n0_; have HB := n1_; clear n0_ n1_; (try clear hb); (try clear hb2); (try clear hk); (try clear hi)) | ((with_reducible refine gate_callee (f := 19) rfl ?_); refine goesL_ (some 91) rfl rfl Try.func19 (by kernel_rfl) rfl #[.agg #[.string a1]] rfl (by (try simp only [List.map_toArray, List.map_cons, List.map_nil]); first | done | rfl | (simp only [List.length_drop, List.length_take]; rfl)) ?_; (with_reducible refine (hello_PutChallenge.calls a1 t167 t168 _ A28.out).mono ?_); rintro e w37 ⟨rfl, hb⟩; refine ⟨_, rfl, ?_⟩; have n0_ := Aside0.mk (blk_below (g := gb160) (o := .cells #[.string a0_0, .string a0_1] 25 (0, 0)) (by (with_reducible repeat (first | refine blk_drewN ?_ _ | refine blk_drew ?_ | refine blk_alloc ?_ _)); exact BK160.out) hb); have n1_ := Aside0.mk (below_step (by repeat (first | (with_reducible first | exact HB.out | apply below_alloc | apply pw_below_drewN | apply below_drew1 | refine below_set ?_ GE160.out) | exact HB.out)) hb); clear BK160; clear HB; have BK160 := n0_; have HB := n1_; clear n0_ n1_; (try clear hb); (try clear hb2); (try clear hk); (try clear hi)) | ((with_reducible refine gate_callee (f := 12) rfl ?_); refine goesL_ (some 97) rfl rfl Try.func12 (by kernel_rfl) rfl #[.agg #[.string a2]] rfl (by (try simp only [List.map_toArray, List.map_cons, List.map_nil]); first | done | rfl | (simp only [List.length_drop, List.length_take]; rfl)) ?_; (with_reducible refine (hello_PutProof.calls a2 t169 t170 _ A29.out).mono ?_); rintro e w38 ⟨rfl, hb⟩; refine ⟨_, rfl, ?_⟩; have n0_ := Aside0.mk (blk_below (g := gb160) (o := .cells #[.string a0_0, .string a0_1] 25 (0, 0)) (by (with_reducible repeat (first | refine blk_drewN ?_ _ | refine blk_drew ?_ | refine blk_alloc ?_ _)); exact BK160.out) hb); have n1_ := Aside0.mk (below_step (by repeat (first | (with_reducible first | exact HB.out | apply below_alloc | apply pw_below_drewN | apply below_drew1 | refine below_set ?_ GE160.out) | exact HB.out)) hb); clear BK160; clear HB; have BK160 := n0_; have HB := n1_; clear n0_ n1_; (try clear hb); (try clear hb2); (try clear hk); (try clear hi)) | ((with_reducible refine gate_callee (f := 20) rfl ?_); refine goesL_ (some 103) rfl rfl Try.func20 (by kernel_rfl) rfl #[.agg #[.string a2]] rfl (by (try simp only [List.map_toArray, List.map_cons, List.map_nil]); first | done | rfl | (simp only [List.length_drop, List.length_take]; rfl)) ?_; (with_reducible refine (hello_PutFinish.calls a2 t171 t172 _ A30.out).mono ?_); rintro e w39 ⟨rfl, hb⟩; refine ⟨_, rfl, ?_⟩; have n0_ := Aside0.mk (blk_below (g := gb160) (o := .cells #[.string a0_0, .string a0_1] 25 (0, 0)) (by (with_reducible repeat (first | refine blk_drewN ?_ _ | refine blk_drew ?_ | refine blk_alloc ?_ _)); exact BK160.out) hb); have n1_ := Aside0.mk (below_step (by repeat (first | (with_reducible first | exact HB.out | apply below_alloc | apply pw_below_drewN | apply below_drew1 | refine below_set ?_ GE160.out) | exact HB.out)) hb); clear BK160; clear HB; have BK160 := n0_; have HB := n1_; clear n0_ n1_; (try clear hb); (try clear hb2); (try clear hk); (try clear hi)) | ((with_reducible refine gate_callee (f := 13) rfl ?_); refine goesL_ (some 108) rfl rfl Try.func13 (by kernel_rfl) rfl #[.string a3] rfl (by (try simp only [List.map_toArray, List.map_cons, List.map_nil]); first | done | rfl | (simp only [List.length_drop, List.length_take]; rfl)) ?_; (with_reducible refine (hello_PutRecord.calls a3 t173 t174 _ A31.out).mono ?_); rintro e w40 ⟨rfl, hb⟩; refine ⟨_, rfl, ?_⟩; have n0_ := Aside0.mk (blk_below (g := gb160) (o := .cells #[.string a0_0, .string a0_1] 25 (0, 0)) (by (with_reducible repeat (first | refine blk_drewN ?_ _ | refine blk_drew ?_ | refine blk_alloc ?_ _)); exact BK160.out) hb); have n1_ := Aside0.mk (below_step (by repeat (first | (with_reducible first | exact HB.out | apply below_alloc | apply pw_below_drewN | apply below_drew1 | refine below_set ?_ GE160.out) | exact HB.out)) hb); clear BK160; clear HB; have BK160 := n0_; have HB := n1_; clear n0_ n1_; (try clear hb); (try clear hb2); (try clear hk); (try clear hi)))
        (try simp only [Act.put, List.setIfInBounds_toArray, List.set_cons_zero, List.set_cons_succ])
        go_cut [149] (fun v149 wc => ∃ (kq : Nat) (x149_31 : Bool), v149 = .bool x149_31 ∧ Aside0 (escutcheonlaw15_HelloTells.j1 kq a1 a2 a3 a4 t167 t168 t169 t170 t171 t173 t174 x149_31 = some r) ∧ Aside0 (kq ≤ kj5) ∧ Aside0 (wc.heap[gb160]? = some (.cells #[.string a0_0, .string a0_1] 25 (0, 0))) ∧ Aside0 (Below w.heap.size w wc))
        case first => as_aux_lemma =>
          have H := HC32.out
          clear HC32
          by_cases c41 : t163.toList = t165.toList
          · as_aux_lemma =>
            rw [if_pos c41] at H
            have c41b0 : (t163.toList == t165.toList) = true := beq_iff_eq.mpr c41
            have c41b1 : (t163.toList != t165.toList) = false := bne_eq_false_iff_eq.mpr c41
            clear c41
            (first | rw [c41b0] | (simp only [i64_w, i32_w]; rw [c41b0]) | skip)
            by_cases c42 : (t164 != t166) = true
            · as_aux_lemma =>
              rw [if_pos c42] at H
              exact absurd H (by simp)
            · as_aux_lemma =>
              rw [if_neg c42] at H
              have c42b0 : (t164 != t166) = false := by simpa using c42
              (try (have c42b1 : decide (t164 = t166) = true := by simpa using c42))
              (try (have c42b2 : (t164 == t166) = true := by simpa using c42))
              clear c42
              by_cases c43 : (t168 != ((a1.size : Int) == 16)) = true
              · as_aux_lemma =>
                rw [if_pos c43] at H
                exact absurd H (by simp)
              · as_aux_lemma =>
                rw [if_neg c43] at H
                have c43b0 : (t168 != ((a1.size : Int) == 16)) = false := by simpa using c43
                (try (have c43b1 : decide (t168 = ((a1.size : Int) == 16)) = true := by simpa using c43))
                (try (have c43b2 : (t168 == ((a1.size : Int) == 16)) = true := by simpa using c43))
                clear c43
                by_cases c44 : (t170 != ((a2.size : Int) == 32)) = true
                · as_aux_lemma =>
                  rw [if_pos c44] at H
                  exact absurd H (by simp)
                · as_aux_lemma =>
                  rw [if_neg c44] at H
                  have c44b0 : (t170 != ((a2.size : Int) == 32)) = false := by simpa using c44
                  (try (have c44b1 : decide (t170 = ((a2.size : Int) == 32)) = true := by simpa using c44))
                  (try (have c44b2 : (t170 == ((a2.size : Int) == 32)) = true := by simpa using c44))
                  clear c44
                  by_cases c45 : (t172 != t170) = true
                  · as_aux_lemma =>
                    rw [if_pos c45] at H
                    exact absurd H (by simp)
                  · as_aux_lemma =>
                    rw [if_neg c45] at H
                    have c45b0 : (t172 != t170) = false := by simpa using c45
                    (try (have c45b1 : decide (t172 = t170) = true := by simpa using c45))
                    (try (have c45b2 : (t172 == t170) = true := by simpa using c45))
                    clear c45
                    by_cases c46 : (a3.size : Int) ≥ 24
                    · as_aux_lemma =>
                      rw [if_pos c46] at H
                      have c46b0 : decide (24 ≤ (a3.size : Int)) = true := decide_eq_true c46
                      have c46b1 : decide (24 ≤ a3.size) = true := decide_eq_true (by omega)
                      clear c46
                      have H' := Aside0.mk H
                      clear H
                      go_wp2
                      go_meet
                      case rel => exact ⟨_, ((t174 != (decide ((a3.size : Int) ≤ 2199)))), (by first | rfl | (simp; done) | (simp [*]; done)), H', ⟨by have := HJ5.out; first | omega | exact Nat.le_refl _⟩, ⟨by (with_reducible repeat (first | refine blk_drewN ?_ _ | refine blk_drew ?_ | refine blk_alloc ?_ _)); exact BK160.out⟩, ⟨by repeat (first | (with_reducible first | exact HB.out | apply below_alloc | apply pw_below_drewN | apply below_drew1 | refine below_set ?_ GE160.out) | exact HB.out)⟩⟩
                    · as_aux_lemma =>
                      rw [if_neg c46] at H
                      have c46b0 : decide (24 ≤ (a3.size : Int)) = false := decide_eq_false c46
                      have c46b1 : decide (24 ≤ a3.size) = false := decide_eq_false (by omega)
                      clear c46
                      have H' := Aside0.mk H
                      clear H
                      go_wp2
                      go_meet
                      case rel => exact ⟨_, ((t174 != false)), (by first | rfl | (simp; done) | (simp [*]; done)), H', ⟨by have := HJ5.out; first | omega | exact Nat.le_refl _⟩, ⟨by (with_reducible repeat (first | refine blk_drewN ?_ _ | refine blk_drew ?_ | refine blk_alloc ?_ _)); exact BK160.out⟩, ⟨by repeat (first | (with_reducible first | exact HB.out | apply below_alloc | apply pw_below_drewN | apply below_drew1 | refine below_set ?_ GE160.out) | exact HB.out)⟩⟩
          · as_aux_lemma =>
            rw [if_neg c41] at H
            exact absurd H (by simp)
        case rest => as_aux_lemma =>
          clear HC32
          try clear c1
          try clear c2
          try clear p2
          try clear c4
          try clear c6
          try clear c8
          try clear c8b0
          try clear c8b1
          try clear c9
          try clear c10
          try clear c10b0
          try clear c10b1
          try clear c12
          try clear c12b0
          try clear c12b1
          try clear c13
          try clear c14
          try clear c14b0
          try clear c14b1
          try clear c16
          try clear c16b0
          try clear c16b1
          try clear c18
          try clear c18b0
          try clear c18b1
          try clear c19
          try clear c20
          try clear c23
          try clear c41
          try clear c41b0
          try clear c41b1
          try clear c42
          try clear c42b0
          try clear c42b1
          try clear c42b2
          try clear c43
          try clear c43b0
          try clear c43b1
          try clear c43b2
          try clear c44
          try clear c44b0
          try clear c44b1
          try clear c44b2
          try clear c45
          try clear c45b0
          try clear c45b1
          try clear c45b2
          try clear c46
          try clear c46b0
          try clear c46b1
          try clear hcz11_0
          try clear hcz11_1
          try clear hcz13_0
          try clear hcz13_1
          try clear hcz15_0
          try clear hcz15_1
          try clear hcz17_0
          try clear hcz17_1
          try clear hcz19_0
          try clear hcz19_1
          try clear hcz21_0
          try clear hcz21_1
          try clear hcz33_0
          try clear hcz33_1
          try clear hcz35_0
          try clear hcz35_1
          try clear hcz9_0
          try clear hcz9_1
          try clear hfz11_0
          try clear hfz11_1
          try clear hfz13_0
          try clear hfz13_1
          try clear hfz15_0
          try clear hfz15_1
          try clear hfz17_0
          try clear hfz17_1
          try clear hfz19_0
          try clear hfz19_1
          try clear hfz21_0
          try clear hfz21_1
          try clear hfz33_0
          try clear hfz33_1
          try clear hfz35_0
          try clear hfz35_1
          try clear hfz9_0
          try clear hfz9_1
          try clear p2
          obtain ⟨kq, x149_31, rfl, HA, HJ31, BK160, HB⟩ := hcut
          cases kq with
          | zero => exact absurd HA.out (by simp [escutcheonlaw15_HelloTells.j1])
          | succ kj31 =>
            have H := HA.out
            clear HA
            simp only [escutcheonlaw15_HelloTells.j1] at H
            by_cases c47 : x149_31 = true
            · as_aux_lemma =>
              subst c47
              have H1 : (none) = some r := by rw [if_pos rfl] at H; exact H
              clear H
              have H := H1
              clear H1
              exact absurd H (by simp)
            · as_aux_lemma =>
              replace c47 := Bool.eq_false_iff.mpr c47
              subst c47
              have H1 : (if t168 = true then (if 1 + a1.size ≤ 9223372036854775807 then (if t167.toList = ((⟨#[2]⟩ : ByteArray) ++ a1).toList then (if t170 = true then (if 1 + a2.size ≤ 9223372036854775807 then (if t169.toList = ((⟨#[3]⟩ : ByteArray) ++ a2).toList then (if t171.toList = ((⟨#[4]⟩ : ByteArray) ++ a2).toList then (if t174 = true then (if 1 + a3.size ≤ 9223372036854775807 then (escutcheonlaw15_HelloTells.j2 kj31 a4 (t173.toList != ((⟨#[5]⟩ : ByteArray) ++ a3).toList)) else (none)) else (escutcheonlaw15_HelloTells.j2 kj31 a4 false)) else (none)) else (none)) else (none)) else (if t174 = true then (if 1 + a3.size ≤ 9223372036854775807 then (escutcheonlaw15_HelloTells.j2 kj31 a4 (t173.toList != ((⟨#[5]⟩ : ByteArray) ++ a3).toList)) else (none)) else (escutcheonlaw15_HelloTells.j2 kj31 a4 false))) else (none)) else (none)) else (if t167.toList = ([] : List UInt8) then (if t170 = true then (if 1 + a2.size ≤ 9223372036854775807 then (if t169.toList = ((⟨#[3]⟩ : ByteArray) ++ a2).toList then (if t171.toList = ((⟨#[4]⟩ : ByteArray) ++ a2).toList then (if t174 = true then (if 1 + a3.size ≤ 9223372036854775807 then (escutcheonlaw15_HelloTells.j2 kj31 a4 (t173.toList != ((⟨#[5]⟩ : ByteArray) ++ a3).toList)) else (none)) else (escutcheonlaw15_HelloTells.j2 kj31 a4 false)) else (none)) else (none)) else (none)) else (if t174 = true then (if 1 + a3.size ≤ 9223372036854775807 then (escutcheonlaw15_HelloTells.j2 kj31 a4 (t173.toList != ((⟨#[5]⟩ : ByteArray) ++ a3).toList)) else (none)) else (escutcheonlaw15_HelloTells.j2 kj31 a4 false))) else (none))) = some r := by rw [if_neg (show ¬ (false = true) by decide)] at H; exact H
              clear H
              have H := H1
              clear H1
              have HC48 := Aside0.mk H
              clear H
              go_upto_region 11 with (fail)
              go_cut [188] (fun v188 wc => ∃ (kq : Nat) (x188_47 : Bool), v188 = .bool x188_47 ∧ Aside0 (escutcheonlaw15_HelloTells.j2 kq a4 x188_47 = some r) ∧ Aside0 (kq ≤ kj31) ∧ Aside0 (wc.heap[gb160]? = some (.cells #[.string a0_0, .string a0_1] 25 (0, 0))) ∧ Aside0 (Below w.heap.size w wc))
              case first => as_aux_lemma =>
                have H := HC48.out
                clear HC48
                by_cases c49 : t168 = true
                · as_aux_lemma =>
                  subst c49
                  have H1 : (if 1 + a1.size ≤ 9223372036854775807 then (if t167.toList = ((⟨#[2]⟩ : ByteArray) ++ a1).toList then (if t170 = true then (if 1 + a2.size ≤ 9223372036854775807 then (if t169.toList = ((⟨#[3]⟩ : ByteArray) ++ a2).toList then (if t171.toList = ((⟨#[4]⟩ : ByteArray) ++ a2).toList then (if t174 = true then (if 1 + a3.size ≤ 9223372036854775807 then (escutcheonlaw15_HelloTells.j2 kj31 a4 (t173.toList != ((⟨#[5]⟩ : ByteArray) ++ a3).toList)) else (none)) else (escutcheonlaw15_HelloTells.j2 kj31 a4 false)) else (none)) else (none)) else (none)) else (if t174 = true then (if 1 + a3.size ≤ 9223372036854775807 then (escutcheonlaw15_HelloTells.j2 kj31 a4 (t173.toList != ((⟨#[5]⟩ : ByteArray) ++ a3).toList)) else (none)) else (escutcheonlaw15_HelloTells.j2 kj31 a4 false))) else (none)) else (none)) = some r := by rw [if_pos rfl] at H; exact H
                  clear H
                  have H := H1
                  clear H1
                  by_cases c50 : 1 + a1.size ≤ 9223372036854775807
                  · as_aux_lemma =>
                    rw [if_pos c50] at H
                    have c50b0 := eq_true c50
                    have c50b1 : decide (1 + a1.size ≤ 9223372036854775807) = true := decide_eq_true c50
                    try have c50b2 : (9223372036854775807 < 1 + a1.size) = False := eq_false (Nat.not_lt.2 c50)
                    by_cases c51 : t167.toList = ((⟨#[2]⟩ : ByteArray) ++ a1).toList
                    · as_aux_lemma =>
                      rw [if_pos c51] at H
                      have c51b0 : (t167.toList == ((⟨#[2]⟩ : ByteArray) ++ a1).toList) = true := beq_iff_eq.mpr c51
                      have c51b1 : (t167.toList != ((⟨#[2]⟩ : ByteArray) ++ a1).toList) = false := bne_eq_false_iff_eq.mpr c51
                      clear c51
                      (first | rw [c51b0] | (simp only [i64_w, i32_w]; rw [c51b0]) | skip)
                      by_cases c52 : t170 = true
                      · as_aux_lemma =>
                        subst c52
                        have H1 : (if 1 + a2.size ≤ 9223372036854775807 then (if t169.toList = ((⟨#[3]⟩ : ByteArray) ++ a2).toList then (if t171.toList = ((⟨#[4]⟩ : ByteArray) ++ a2).toList then (if t174 = true then (if 1 + a3.size ≤ 9223372036854775807 then (escutcheonlaw15_HelloTells.j2 kj31 a4 (t173.toList != ((⟨#[5]⟩ : ByteArray) ++ a3).toList)) else (none)) else (escutcheonlaw15_HelloTells.j2 kj31 a4 false)) else (none)) else (none)) else (none)) = some r := by rw [if_pos rfl] at H; exact H
                        clear H
                        have H := H1
                        clear H1
                        by_cases c53 : 1 + a2.size ≤ 9223372036854775807
                        · as_aux_lemma =>
                          rw [if_pos c53] at H
                          have c53b0 := eq_true c53
                          have c53b1 : decide (1 + a2.size ≤ 9223372036854775807) = true := decide_eq_true c53
                          try have c53b2 : (9223372036854775807 < 1 + a2.size) = False := eq_false (Nat.not_lt.2 c53)
                          by_cases c54 : t169.toList = ((⟨#[3]⟩ : ByteArray) ++ a2).toList
                          · as_aux_lemma =>
                            rw [if_pos c54] at H
                            have c54b0 : (t169.toList == ((⟨#[3]⟩ : ByteArray) ++ a2).toList) = true := beq_iff_eq.mpr c54
                            have c54b1 : (t169.toList != ((⟨#[3]⟩ : ByteArray) ++ a2).toList) = false := bne_eq_false_iff_eq.mpr c54
                            clear c54
                            by_cases c55 : t171.toList = ((⟨#[4]⟩ : ByteArray) ++ a2).toList
                            · as_aux_lemma =>
                              rw [if_pos c55] at H
                              have c55b0 : (t171.toList == ((⟨#[4]⟩ : ByteArray) ++ a2).toList) = true := beq_iff_eq.mpr c55
                              have c55b1 : (t171.toList != ((⟨#[4]⟩ : ByteArray) ++ a2).toList) = false := bne_eq_false_iff_eq.mpr c55
                              clear c55
                              by_cases c56 : t174 = true
                              · as_aux_lemma =>
                                subst c56
                                have H1 : (if 1 + a3.size ≤ 9223372036854775807 then (escutcheonlaw15_HelloTells.j2 kj31 a4 (t173.toList != ((⟨#[5]⟩ : ByteArray) ++ a3).toList)) else (none)) = some r := by rw [if_pos rfl] at H; exact H
                                clear H
                                have H := H1
                                clear H1
                                by_cases c57 : 1 + a3.size ≤ 9223372036854775807
                                · as_aux_lemma =>
                                  rw [if_pos c57] at H
                                  have c57b0 := eq_true c57
                                  have c57b1 : decide (1 + a3.size ≤ 9223372036854775807) = true := decide_eq_true c57
                                  try have c57b2 : (9223372036854775807 < 1 + a3.size) = False := eq_false (Nat.not_lt.2 c57)
                                  have H' := Aside0.mk H
                                  clear H
                                  go_wp2
                                  go_meet
                                  case rel => exact ⟨_, ((t173.toList != ((⟨#[5]⟩ : ByteArray) ++ a3).toList)), (by first | rfl | (simp; done) | (simp [*]; done)), H', ⟨by have := HJ5.out; have := HJ31.out; first | omega | exact Nat.le_refl _⟩, ⟨by (with_reducible repeat (first | refine blk_drewN ?_ _ | refine blk_drew ?_ | refine blk_alloc ?_ _)); exact BK160.out⟩, ⟨by repeat (first | (with_reducible first | exact HB.out | apply below_alloc | apply pw_below_drewN | apply below_drew1 | refine below_set ?_ GE160.out) | exact HB.out)⟩⟩
                                · as_aux_lemma =>
                                  rw [if_neg c57] at H
                                  exact absurd H (by simp)
                              · as_aux_lemma =>
                                replace c56 := Bool.eq_false_iff.mpr c56
                                subst c56
                                have H1 : (escutcheonlaw15_HelloTells.j2 kj31 a4 false) = some r := by rw [if_neg (show ¬ (false = true) by decide)] at H; exact H
                                clear H
                                have H := H1
                                clear H1
                                have H' := Aside0.mk H
                                clear H
                                go_wp2
                                go_meet
                                case rel => exact ⟨_, (false), (by first | rfl | (simp; done) | (simp [*]; done)), H', ⟨by have := HJ5.out; have := HJ31.out; first | omega | exact Nat.le_refl _⟩, ⟨by (with_reducible repeat (first | refine blk_drewN ?_ _ | refine blk_drew ?_ | refine blk_alloc ?_ _)); exact BK160.out⟩, ⟨by repeat (first | (with_reducible first | exact HB.out | apply below_alloc | apply pw_below_drewN | apply below_drew1 | refine below_set ?_ GE160.out) | exact HB.out)⟩⟩
                            · as_aux_lemma =>
                              rw [if_neg c55] at H
                              exact absurd H (by simp)
                          · as_aux_lemma =>
                            rw [if_neg c54] at H
                            exact absurd H (by simp)
                        · as_aux_lemma =>
                          rw [if_neg c53] at H
                          exact absurd H (by simp)
                      · as_aux_lemma =>
                        replace c52 := Bool.eq_false_iff.mpr c52
                        subst c52
                        have H1 : (if t174 = true then (if 1 + a3.size ≤ 9223372036854775807 then (escutcheonlaw15_HelloTells.j2 kj31 a4 (t173.toList != ((⟨#[5]⟩ : ByteArray) ++ a3).toList)) else (none)) else (escutcheonlaw15_HelloTells.j2 kj31 a4 false)) = some r := by rw [if_neg (show ¬ (false = true) by decide)] at H; exact H
                        clear H
                        have H := H1
                        clear H1
                        by_cases c58 : t174 = true
                        · as_aux_lemma =>
                          subst c58
                          have H1 : (if 1 + a3.size ≤ 9223372036854775807 then (escutcheonlaw15_HelloTells.j2 kj31 a4 (t173.toList != ((⟨#[5]⟩ : ByteArray) ++ a3).toList)) else (none)) = some r := by rw [if_pos rfl] at H; exact H
                          clear H
                          have H := H1
                          clear H1
                          by_cases c59 : 1 + a3.size ≤ 9223372036854775807
                          · as_aux_lemma =>
                            rw [if_pos c59] at H
                            have c59b0 := eq_true c59
                            have c59b1 : decide (1 + a3.size ≤ 9223372036854775807) = true := decide_eq_true c59
                            try have c59b2 : (9223372036854775807 < 1 + a3.size) = False := eq_false (Nat.not_lt.2 c59)
                            have H' := Aside0.mk H
                            clear H
                            go_wp2
                            go_meet
                            case rel => exact ⟨_, ((t173.toList != ((⟨#[5]⟩ : ByteArray) ++ a3).toList)), (by first | rfl | (simp; done) | (simp [*]; done)), H', ⟨by have := HJ5.out; have := HJ31.out; first | omega | exact Nat.le_refl _⟩, ⟨by (with_reducible repeat (first | refine blk_drewN ?_ _ | refine blk_drew ?_ | refine blk_alloc ?_ _)); exact BK160.out⟩, ⟨by repeat (first | (with_reducible first | exact HB.out | apply below_alloc | apply pw_below_drewN | apply below_drew1 | refine below_set ?_ GE160.out) | exact HB.out)⟩⟩
                          · as_aux_lemma =>
                            rw [if_neg c59] at H
                            exact absurd H (by simp)
                        · as_aux_lemma =>
                          replace c58 := Bool.eq_false_iff.mpr c58
                          subst c58
                          have H1 : (escutcheonlaw15_HelloTells.j2 kj31 a4 false) = some r := by rw [if_neg (show ¬ (false = true) by decide)] at H; exact H
                          clear H
                          have H := H1
                          clear H1
                          have H' := Aside0.mk H
                          clear H
                          go_wp2
                          go_meet
                          case rel => exact ⟨_, (false), (by first | rfl | (simp; done) | (simp [*]; done)), H', ⟨by have := HJ5.out; have := HJ31.out; first | omega | exact Nat.le_refl _⟩, ⟨by (with_reducible repeat (first | refine blk_drewN ?_ _ | refine blk_drew ?_ | refine blk_alloc ?_ _)); exact BK160.out⟩, ⟨by repeat (first | (with_reducible first | exact HB.out | apply below_alloc | apply pw_below_drewN | apply below_drew1 | refine below_set ?_ GE160.out) | exact HB.out)⟩⟩
                    · as_aux_lemma =>
                      rw [if_neg c51] at H
                      exact absurd H (by simp)
                  · as_aux_lemma =>
                    rw [if_neg c50] at H
                    exact absurd H (by simp)
                · as_aux_lemma =>
                  replace c49 := Bool.eq_false_iff.mpr c49
                  subst c49
                  have H1 : (if t167.toList = ([] : List UInt8) then (if t170 = true then (if 1 + a2.size ≤ 9223372036854775807 then (if t169.toList = ((⟨#[3]⟩ : ByteArray) ++ a2).toList then (if t171.toList = ((⟨#[4]⟩ : ByteArray) ++ a2).toList then (if t174 = true then (if 1 + a3.size ≤ 9223372036854775807 then (escutcheonlaw15_HelloTells.j2 kj31 a4 (t173.toList != ((⟨#[5]⟩ : ByteArray) ++ a3).toList)) else (none)) else (escutcheonlaw15_HelloTells.j2 kj31 a4 false)) else (none)) else (none)) else (none)) else (if t174 = true then (if 1 + a3.size ≤ 9223372036854775807 then (escutcheonlaw15_HelloTells.j2 kj31 a4 (t173.toList != ((⟨#[5]⟩ : ByteArray) ++ a3).toList)) else (none)) else (escutcheonlaw15_HelloTells.j2 kj31 a4 false))) else (none)) = some r := by rw [if_neg (show ¬ (false = true) by decide)] at H; exact H
                  clear H
                  have H := H1
                  clear H1
                  by_cases c60 : t167.toList = ([] : List UInt8)
                  · as_aux_lemma =>
                    rw [if_pos c60] at H
                    have c60b0 : (t167.toList == ([] : List UInt8)) = true := beq_iff_eq.mpr c60
                    have c60b1 : (t167.toList != ([] : List UInt8)) = false := bne_eq_false_iff_eq.mpr c60
                    clear c60
                    by_cases c61 : t170 = true
                    · as_aux_lemma =>
                      subst c61
                      have H1 : (if 1 + a2.size ≤ 9223372036854775807 then (if t169.toList = ((⟨#[3]⟩ : ByteArray) ++ a2).toList then (if t171.toList = ((⟨#[4]⟩ : ByteArray) ++ a2).toList then (if t174 = true then (if 1 + a3.size ≤ 9223372036854775807 then (escutcheonlaw15_HelloTells.j2 kj31 a4 (t173.toList != ((⟨#[5]⟩ : ByteArray) ++ a3).toList)) else (none)) else (escutcheonlaw15_HelloTells.j2 kj31 a4 false)) else (none)) else (none)) else (none)) = some r := by rw [if_pos rfl] at H; exact H
                      clear H
                      have H := H1
                      clear H1
                      by_cases c62 : 1 + a2.size ≤ 9223372036854775807
                      · as_aux_lemma =>
                        rw [if_pos c62] at H
                        have c62b0 := eq_true c62
                        have c62b1 : decide (1 + a2.size ≤ 9223372036854775807) = true := decide_eq_true c62
                        try have c62b2 : (9223372036854775807 < 1 + a2.size) = False := eq_false (Nat.not_lt.2 c62)
                        by_cases c63 : t169.toList = ((⟨#[3]⟩ : ByteArray) ++ a2).toList
                        · as_aux_lemma =>
                          rw [if_pos c63] at H
                          have c63b0 : (t169.toList == ((⟨#[3]⟩ : ByteArray) ++ a2).toList) = true := beq_iff_eq.mpr c63
                          have c63b1 : (t169.toList != ((⟨#[3]⟩ : ByteArray) ++ a2).toList) = false := bne_eq_false_iff_eq.mpr c63
                          clear c63
                          by_cases c64 : t171.toList = ((⟨#[4]⟩ : ByteArray) ++ a2).toList
                          · as_aux_lemma =>
                            rw [if_pos c64] at H
                            have c64b0 : (t171.toList == ((⟨#[4]⟩ : ByteArray) ++ a2).toList) = true := beq_iff_eq.mpr c64
                            have c64b1 : (t171.toList != ((⟨#[4]⟩ : ByteArray) ++ a2).toList) = false := bne_eq_false_iff_eq.mpr c64
                            clear c64
                            by_cases c65 : t174 = true
                            · as_aux_lemma =>
                              subst c65
                              have H1 : (if 1 + a3.size ≤ 9223372036854775807 then (escutcheonlaw15_HelloTells.j2 kj31 a4 (t173.toList != ((⟨#[5]⟩ : ByteArray) ++ a3).toList)) else (none)) = some r := by rw [if_pos rfl] at H; exact H
                              clear H
                              have H := H1
                              clear H1
                              by_cases c66 : 1 + a3.size ≤ 9223372036854775807
                              · as_aux_lemma =>
                                rw [if_pos c66] at H
                                have c66b0 := eq_true c66
                                have c66b1 : decide (1 + a3.size ≤ 9223372036854775807) = true := decide_eq_true c66
                                try have c66b2 : (9223372036854775807 < 1 + a3.size) = False := eq_false (Nat.not_lt.2 c66)
                                have H' := Aside0.mk H
                                clear H
                                go_wp2
                                go_meet
                                case rel => exact ⟨_, ((t173.toList != ((⟨#[5]⟩ : ByteArray) ++ a3).toList)), (by first | rfl | (simp; done) | (simp [*]; done)), H', ⟨by have := HJ5.out; have := HJ31.out; first | omega | exact Nat.le_refl _⟩, ⟨by (with_reducible repeat (first | refine blk_drewN ?_ _ | refine blk_drew ?_ | refine blk_alloc ?_ _)); exact BK160.out⟩, ⟨by repeat (first | (with_reducible first | exact HB.out | apply below_alloc | apply pw_below_drewN | apply below_drew1 | refine below_set ?_ GE160.out) | exact HB.out)⟩⟩
                              · as_aux_lemma =>
                                rw [if_neg c66] at H
                                exact absurd H (by simp)
                            · as_aux_lemma =>
                              replace c65 := Bool.eq_false_iff.mpr c65
                              subst c65
                              have H1 : (escutcheonlaw15_HelloTells.j2 kj31 a4 false) = some r := by rw [if_neg (show ¬ (false = true) by decide)] at H; exact H
                              clear H
                              have H := H1
                              clear H1
                              have H' := Aside0.mk H
                              clear H
                              go_wp2
                              go_meet
                              case rel => exact ⟨_, (false), (by first | rfl | (simp; done) | (simp [*]; done)), H', ⟨by have := HJ5.out; have := HJ31.out; first | omega | exact Nat.le_refl _⟩, ⟨by (with_reducible repeat (first | refine blk_drewN ?_ _ | refine blk_drew ?_ | refine blk_alloc ?_ _)); exact BK160.out⟩, ⟨by repeat (first | (with_reducible first | exact HB.out | apply below_alloc | apply pw_below_drewN | apply below_drew1 | refine below_set ?_ GE160.out) | exact HB.out)⟩⟩
                          · as_aux_lemma =>
                            rw [if_neg c64] at H
                            exact absurd H (by simp)
                        · as_aux_lemma =>
                          rw [if_neg c63] at H
                          exact absurd H (by simp)
                      · as_aux_lemma =>
                        rw [if_neg c62] at H
                        exact absurd H (by simp)
                    · as_aux_lemma =>
                      replace c61 := Bool.eq_false_iff.mpr c61
                      subst c61
                      have H1 : (if t174 = true then (if 1 + a3.size ≤ 9223372036854775807 then (escutcheonlaw15_HelloTells.j2 kj31 a4 (t173.toList != ((⟨#[5]⟩ : ByteArray) ++ a3).toList)) else (none)) else (escutcheonlaw15_HelloTells.j2 kj31 a4 false)) = some r := by rw [if_neg (show ¬ (false = true) by decide)] at H; exact H
                      clear H
                      have H := H1
                      clear H1
                      by_cases c67 : t174 = true
                      · as_aux_lemma =>
                        subst c67
                        have H1 : (if 1 + a3.size ≤ 9223372036854775807 then (escutcheonlaw15_HelloTells.j2 kj31 a4 (t173.toList != ((⟨#[5]⟩ : ByteArray) ++ a3).toList)) else (none)) = some r := by rw [if_pos rfl] at H; exact H
                        clear H
                        have H := H1
                        clear H1
                        by_cases c68 : 1 + a3.size ≤ 9223372036854775807
                        · as_aux_lemma =>
                          rw [if_pos c68] at H
                          have c68b0 := eq_true c68
                          have c68b1 : decide (1 + a3.size ≤ 9223372036854775807) = true := decide_eq_true c68
                          try have c68b2 : (9223372036854775807 < 1 + a3.size) = False := eq_false (Nat.not_lt.2 c68)
                          have H' := Aside0.mk H
                          clear H
                          go_wp2
                          go_meet
                          case rel => exact ⟨_, ((t173.toList != ((⟨#[5]⟩ : ByteArray) ++ a3).toList)), (by first | rfl | (simp; done) | (simp [*]; done)), H', ⟨by have := HJ5.out; have := HJ31.out; first | omega | exact Nat.le_refl _⟩, ⟨by (with_reducible repeat (first | refine blk_drewN ?_ _ | refine blk_drew ?_ | refine blk_alloc ?_ _)); exact BK160.out⟩, ⟨by repeat (first | (with_reducible first | exact HB.out | apply below_alloc | apply pw_below_drewN | apply below_drew1 | refine below_set ?_ GE160.out) | exact HB.out)⟩⟩
                        · as_aux_lemma =>
                          rw [if_neg c68] at H
                          exact absurd H (by simp)
                      · as_aux_lemma =>
                        replace c67 := Bool.eq_false_iff.mpr c67
                        subst c67
                        have H1 : (escutcheonlaw15_HelloTells.j2 kj31 a4 false) = some r := by rw [if_neg (show ¬ (false = true) by decide)] at H; exact H
                        clear H
                        have H := H1
                        clear H1
                        have H' := Aside0.mk H
                        clear H
                        go_wp2
                        go_meet
                        case rel => exact ⟨_, (false), (by first | rfl | (simp; done) | (simp [*]; done)), H', ⟨by have := HJ5.out; have := HJ31.out; first | omega | exact Nat.le_refl _⟩, ⟨by (with_reducible repeat (first | refine blk_drewN ?_ _ | refine blk_drew ?_ | refine blk_alloc ?_ _)); exact BK160.out⟩, ⟨by repeat (first | (with_reducible first | exact HB.out | apply below_alloc | apply pw_below_drewN | apply below_drew1 | refine below_set ?_ GE160.out) | exact HB.out)⟩⟩
                  · as_aux_lemma =>
                    rw [if_neg c60] at H
                    exact absurd H (by simp)
              case rest => as_aux_lemma =>
                clear HC48
                try clear c1
                try clear c2
                try clear p2
                try clear c4
                try clear c5
                try clear c6
                try clear c8
                try clear c8b0
                try clear c8b1
                try clear c9
                try clear c10
                try clear c10b0
                try clear c10b1
                try clear c12
                try clear c12b0
                try clear c12b1
                try clear c13
                try clear c14
                try clear c14b0
                try clear c14b1
                try clear c16
                try clear c16b0
                try clear c16b1
                try clear c18
                try clear c18b0
                try clear c18b1
                try clear c19
                try clear c20
                try clear c23
                try clear c41
                try clear c41b0
                try clear c41b1
                try clear c42
                try clear c42b0
                try clear c42b1
                try clear c42b2
                try clear c43
                try clear c43b0
                try clear c43b1
                try clear c43b2
                try clear c44
                try clear c44b0
                try clear c44b1
                try clear c44b2
                try clear c45
                try clear c45b0
                try clear c45b1
                try clear c45b2
                try clear c46
                try clear c46b0
                try clear c46b1
                try clear c47
                try clear c49
                try clear c50
                try clear c50b0
                try clear c50b1
                try clear c50b2
                try clear c51
                try clear c51b0
                try clear c51b1
                try clear c52
                try clear c53
                try clear c53b0
                try clear c53b1
                try clear c53b2
                try clear c54
                try clear c54b0
                try clear c54b1
                try clear c55
                try clear c55b0
                try clear c55b1
                try clear c56
                try clear c57
                try clear c57b0
                try clear c57b1
                try clear c57b2
                try clear c58
                try clear c59
                try clear c59b0
                try clear c59b1
                try clear c59b2
                try clear c60
                try clear c60b0
                try clear c60b1
                try clear c61
                try clear c62
                try clear c62b0
                try clear c62b1
                try clear c62b2
                try clear c63
                try clear c63b0
                try clear c63b1
                try clear c64
                try clear c64b0
                try clear c64b1
                try clear c65
                try clear c66
                try clear c66b0
                try clear c66b1
                try clear c66b2
                try clear c67
                try clear c68
                try clear c68b0
                try clear c68b1
                try clear c68b2
                try clear hcz11_0
                try clear hcz11_1
                try clear hcz13_0
                try clear hcz13_1
                try clear hcz15_0
                try clear hcz15_1
                try clear hcz17_0
                try clear hcz17_1
                try clear hcz19_0
                try clear hcz19_1
                try clear hcz21_0
                try clear hcz21_1
                try clear hcz33_0
                try clear hcz33_1
                try clear hcz35_0
                try clear hcz35_1
                try clear hcz9_0
                try clear hcz9_1
                try clear hfz11_0
                try clear hfz11_1
                try clear hfz13_0
                try clear hfz13_1
                try clear hfz15_0
                try clear hfz15_1
                try clear hfz17_0
                try clear hfz17_1
                try clear hfz19_0
                try clear hfz19_1
                try clear hfz21_0
                try clear hfz21_1
                try clear hfz33_0
                try clear hfz33_1
                try clear hfz35_0
                try clear hfz35_1
                try clear hfz9_0
                try clear hfz9_1
                try clear p2
                obtain ⟨kq, x188_47, rfl, HA, HJ47, BK160, HB⟩ := hcut
                cases kq with
                | zero => exact absurd HA.out (by simp [escutcheonlaw15_HelloTells.j2])
                | succ kj47 =>
                  have H := HA.out
                  clear HA
                  simp only [escutcheonlaw15_HelloTells.j2] at H
                  by_cases c69 : x188_47 = true
                  · as_aux_lemma =>
                    subst c69
                    have H1 : (none) = some r := by rw [if_pos rfl] at H; exact H
                    clear H
                    have H := H1
                    clear H1
                    exact absurd H (by simp)
                  · as_aux_lemma =>
                    replace c69 := Bool.eq_false_iff.mpr c69
                    subst c69
                    have H1 : (if (a4.size : Int) > 0 then (if 0 < (a4.size : Int) then (if (bt a4 0) ≥ 1 then (escutcheonlaw15_HelloTells.j3 kj47 a4 0 (decide ((bt a4 0) ≤ 5))) else (escutcheonlaw15_HelloTells.j3 kj47 a4 0 false)) else (none)) else (escutcheonlaw15_HelloTells.j3 kj47 a4 0 false)) = some r := by rw [if_neg (show ¬ (false = true) by decide)] at H; exact H
                    clear H
                    have H := H1
                    clear H1
                    have HC70 := Aside0.mk H
                    clear H
                    go_upto_region 14 with (fail)
                    go_cut [201] (fun v201 wc => ∃ (kq : Nat) (x201_69 : Bool), v201 = .bool x201_69 ∧ Aside0 (escutcheonlaw15_HelloTells.j3 kq a4 0 x201_69 = some r) ∧ Aside0 (kq ≤ kj47) ∧ Aside0 (wc.heap[gb160]? = some (.cells #[.string a0_0, .string a0_1] 25 (0, 0))) ∧ Aside0 (Below w.heap.size w wc))
                    case first => as_aux_lemma =>
                      have H := HC70.out
                      clear HC70
                      by_cases c71 : (a4.size : Int) > 0
                      · as_aux_lemma =>
                        rw [if_pos c71] at H
                        have c71b0 : decide (0 < (a4.size : Int)) = true := decide_eq_true c71
                        have c71b1 : decide (0 < a4.size) = true := decide_eq_true (by omega)
                        clear c71
                        (first | rw [c71b0] | (simp only [i64_w, i32_w]; rw [c71b0]) | skip)
                        by_cases c72 : 0 < (a4.size : Int)
                        · as_aux_lemma =>
                          rw [if_pos c72] at H
                          have c72b0 : decide (0 < (a4.size : Int)) = true := decide_eq_true c72
                          have c72b1 : decide (0 < a4.size) = true := decide_eq_true (by omega)
                          clear c72
                          by_cases c74 : (bt a4 0) ≥ 1
                          · as_aux_lemma =>
                            rw [if_pos c74] at H
                            have c74b0 : decide (1 ≤ (bt a4 0)) = true := decide_eq_true c74
                            clear c74
                            have H' := Aside0.mk H
                            clear H
                            have p73 : 0 ≤ (0 : Int) := (by omega)
                            have q73 : 0 < a4.size := (by have : (0 : Int) < (a4.size : Int) := of_decide_eq_true (by first | (with_reducible assumption) | assumption); omega)
                            have hx73 : ∀ h : 0 < a4.size, ((a4[0]'h).toNat : Int) = bt a4 0 := bt_at a4 0
                            clear p73
                            have qi73 : (0 < (a4.size : Int)) = True := eq_true (of_decide_eq_true (by first | (with_reducible assumption) | assumption))
                            replace q73 := eq_true q73
                            have p75 : 0 ≤ (0 : Int) := (by omega)
                            have q75 : 0 < a4.size := (by have : (0 : Int) < (a4.size : Int) := of_decide_eq_true (by first | (with_reducible assumption) | assumption); omega)
                            have hx75 : ∀ h : 0 < a4.size, ((a4[0]'h).toNat : Int) = bt a4 0 := bt_at a4 0
                            clear p75
                            have qi75 : (0 < (a4.size : Int)) = True := eq_true (of_decide_eq_true (by first | (with_reducible assumption) | assumption))
                            replace q75 := eq_true q75
                            go_wp2
                            go_meet
                            case rel => exact ⟨_, (decide ((bt a4 0) ≤ 5)), (by first | rfl | (simp; done) | (simp [*]; done)), H', ⟨by have := HJ5.out; have := HJ31.out; have := HJ47.out; first | omega | exact Nat.le_refl _⟩, ⟨by (with_reducible repeat (first | refine blk_drewN ?_ _ | refine blk_drew ?_ | refine blk_alloc ?_ _)); exact BK160.out⟩, ⟨by repeat (first | (with_reducible first | exact HB.out | apply below_alloc | apply pw_below_drewN | apply below_drew1 | refine below_set ?_ GE160.out) | exact HB.out)⟩⟩
                          · as_aux_lemma =>
                            rw [if_neg c74] at H
                            have c74b0 : decide (1 ≤ (bt a4 0)) = false := decide_eq_false c74
                            clear c74
                            have H' := Aside0.mk H
                            clear H
                            have p73 : 0 ≤ (0 : Int) := (by omega)
                            have q73 : 0 < a4.size := (by have : (0 : Int) < (a4.size : Int) := of_decide_eq_true (by first | (with_reducible assumption) | assumption); omega)
                            have hx73 : ∀ h : 0 < a4.size, ((a4[0]'h).toNat : Int) = bt a4 0 := bt_at a4 0
                            clear p73
                            have qi73 : (0 < (a4.size : Int)) = True := eq_true (of_decide_eq_true (by first | (with_reducible assumption) | assumption))
                            replace q73 := eq_true q73
                            go_wp2
                            go_meet
                            case rel => exact ⟨_, (false), (by first | rfl | (simp; done) | (simp [*]; done)), H', ⟨by have := HJ5.out; have := HJ31.out; have := HJ47.out; first | omega | exact Nat.le_refl _⟩, ⟨by (with_reducible repeat (first | refine blk_drewN ?_ _ | refine blk_drew ?_ | refine blk_alloc ?_ _)); exact BK160.out⟩, ⟨by repeat (first | (with_reducible first | exact HB.out | apply below_alloc | apply pw_below_drewN | apply below_drew1 | refine below_set ?_ GE160.out) | exact HB.out)⟩⟩
                        · as_aux_lemma =>
                          rw [if_neg c72] at H
                          exact absurd H (by simp)
                      · as_aux_lemma =>
                        rw [if_neg c71] at H
                        have c71b0 : decide (0 < (a4.size : Int)) = false := decide_eq_false c71
                        have c71b1 : decide (0 < a4.size) = false := decide_eq_false (by omega)
                        clear c71
                        (first | rw [c71b0] | (simp only [i64_w, i32_w]; rw [c71b0]) | skip)
                        have H' := Aside0.mk H
                        clear H
                        go_wp2
                        go_meet
                        case rel => exact ⟨_, (false), (by first | rfl | (simp; done) | (simp [*]; done)), H', ⟨by have := HJ5.out; have := HJ31.out; have := HJ47.out; first | omega | exact Nat.le_refl _⟩, ⟨by (with_reducible repeat (first | refine blk_drewN ?_ _ | refine blk_drew ?_ | refine blk_alloc ?_ _)); exact BK160.out⟩, ⟨by repeat (first | (with_reducible first | exact HB.out | apply below_alloc | apply pw_below_drewN | apply below_drew1 | refine below_set ?_ GE160.out) | exact HB.out)⟩⟩
                    case rest => as_aux_lemma =>
                      clear HC70
                      try clear c1
                      try clear c2
                      try clear p2
                      try clear c4
                      try clear c5
                      try clear c6
                      try clear c7
                      try clear p7
                      try clear q7
                      try clear hx7
                      try clear qi7
                      try clear c8
                      try clear c8b0
                      try clear c8b1
                      try clear c9
                      try clear c10
                      try clear c10b0
                      try clear c10b1
                      try clear c12
                      try clear c12b0
                      try clear c12b1
                      try clear c13
                      try clear c14
                      try clear c14b0
                      try clear c14b1
                      try clear c16
                      try clear c16b0
                      try clear c16b1
                      try clear c18
                      try clear c18b0
                      try clear c18b1
                      try clear c19
                      try clear c20
                      try clear c23
                      try clear c41
                      try clear c41b0
                      try clear c41b1
                      try clear c42
                      try clear c42b0
                      try clear c42b1
                      try clear c42b2
                      try clear c43
                      try clear c43b0
                      try clear c43b1
                      try clear c43b2
                      try clear c44
                      try clear c44b0
                      try clear c44b1
                      try clear c44b2
                      try clear c45
                      try clear c45b0
                      try clear c45b1
                      try clear c45b2
                      try clear c46
                      try clear c46b0
                      try clear c46b1
                      try clear c47
                      try clear c49
                      try clear c50
                      try clear c50b0
                      try clear c50b1
                      try clear c50b2
                      try clear c51
                      try clear c51b0
                      try clear c51b1
                      try clear c52
                      try clear c53
                      try clear c53b0
                      try clear c53b1
                      try clear c53b2
                      try clear c54
                      try clear c54b0
                      try clear c54b1
                      try clear c55
                      try clear c55b0
                      try clear c55b1
                      try clear c56
                      try clear c57
                      try clear c57b0
                      try clear c57b1
                      try clear c57b2
                      try clear c58
                      try clear c59
                      try clear c59b0
                      try clear c59b1
                      try clear c59b2
                      try clear c60
                      try clear c60b0
                      try clear c60b1
                      try clear c61
                      try clear c62
                      try clear c62b0
                      try clear c62b1
                      try clear c62b2
                      try clear c63
                      try clear c63b0
                      try clear c63b1
                      try clear c64
                      try clear c64b0
                      try clear c64b1
                      try clear c65
                      try clear c66
                      try clear c66b0
                      try clear c66b1
                      try clear c66b2
                      try clear c67
                      try clear c68
                      try clear c68b0
                      try clear c68b1
                      try clear c68b2
                      try clear c69
                      try clear c71
                      try clear c71b0
                      try clear c71b1
                      try clear c72
                      try clear c72b0
                      try clear c72b1
                      try clear p73
                      try clear q73
                      try clear hx73
                      try clear qi73
                      try clear c74
                      try clear c74b0
                      try clear p75
                      try clear q75
                      try clear hx75
                      try clear qi75
                      try clear hcz11_0
                      try clear hcz11_1
                      try clear hcz13_0
                      try clear hcz13_1
                      try clear hcz15_0
                      try clear hcz15_1
                      try clear hcz17_0
                      try clear hcz17_1
                      try clear hcz19_0
                      try clear hcz19_1
                      try clear hcz21_0
                      try clear hcz21_1
                      try clear hcz33_0
                      try clear hcz33_1
                      try clear hcz35_0
                      try clear hcz35_1
                      try clear hcz9_0
                      try clear hcz9_1
                      try clear hfz11_0
                      try clear hfz11_1
                      try clear hfz13_0
                      try clear hfz13_1
                      try clear hfz15_0
                      try clear hfz15_1
                      try clear hfz17_0
                      try clear hfz17_1
                      try clear hfz19_0
                      try clear hfz19_1
                      try clear hfz21_0
                      try clear hfz21_1
                      try clear hfz33_0
                      try clear hfz33_1
                      try clear hfz35_0
                      try clear hfz35_1
                      try clear hfz9_0
                      try clear hfz9_1
                      try clear p2
                      try clear p73
                      try clear p75
                      try clear q73
                      try clear q75
                      obtain ⟨kq, x201_69, rfl, HA, HJ69, BK160, HB⟩ := hcut
                      cases kq with
                      | zero => exact absurd HA.out (by simp [escutcheonlaw15_HelloTells.j3])
                      | succ kj69 =>
                        have H := HA.out
                        clear HA
                        simp only [escutcheonlaw15_HelloTells.j3] at H
                        have HC76 := Aside0.mk H
                        clear H
                        go_upto_if 201 with (fail)
                        go_cut [23] (fun v23 wc => ∃ (kq : Nat) (x23_75 : Int), v23 = .int .i64 x23_75 ∧ Aside0 (escutcheonlaw15_HelloTells.j4 kq a4 x23_75 = some r) ∧ Aside0 (kq ≤ kj69) ∧ Aside0 (wc.heap[gb160]? = some (.cells #[.string a0_0, .string a0_1] 25 (0, 0))) ∧ Aside0 (Below w.heap.size w wc))
                        case first => as_aux_lemma =>
                          have H := HC76.out
                          clear HC76
                          by_cases c77 : x201_69 = true
                          · as_aux_lemma =>
                            subst c77
                            have H1 : (if 0 < (a4.size : Int) then (escutcheonlaw15_HelloTells.j4 kj69 a4 (wrap64 (bt a4 0))) else (none)) = some r := by rw [if_pos rfl] at H; exact H
                            clear H
                            have H := H1
                            clear H1
                            by_cases c78 : 0 < (a4.size : Int)
                            · as_aux_lemma =>
                              rw [if_pos c78] at H
                              have c78b0 : decide (0 < (a4.size : Int)) = true := decide_eq_true c78
                              have c78b1 : decide (0 < a4.size) = true := decide_eq_true (by omega)
                              clear c78
                              (first | rw [c78b0] | (simp only [i64_w, i32_w]; rw [c78b0]) | skip)
                              have H' := Aside0.mk H
                              clear H
                              have p79 : 0 ≤ (0 : Int) := (by omega)
                              have q79 : 0 < a4.size := (by have : (0 : Int) < (a4.size : Int) := of_decide_eq_true (by first | (with_reducible assumption) | assumption); omega)
                              have hx79 : ∀ h : 0 < a4.size, ((a4[0]'h).toNat : Int) = bt a4 0 := bt_at a4 0
                              clear p79
                              have qi79 : (0 < (a4.size : Int)) = True := eq_true (of_decide_eq_true (by first | (with_reducible assumption) | assumption))
                              replace q79 := eq_true q79
                              go_wp2
                              go_meet
                              case rel => exact ⟨_, (wrap64 (bt a4 0)), (by first | rfl | (simp; done) | (simp [*]; done)), H', ⟨by have := HJ5.out; have := HJ31.out; have := HJ47.out; have := HJ69.out; first | omega | exact Nat.le_refl _⟩, ⟨by (with_reducible repeat (first | refine blk_drewN ?_ _ | refine blk_drew ?_ | refine blk_alloc ?_ _)); exact BK160.out⟩, ⟨by repeat (first | (with_reducible first | exact HB.out | apply below_alloc | apply pw_below_drewN | apply below_drew1 | refine below_set ?_ GE160.out) | exact HB.out)⟩⟩
                            · as_aux_lemma =>
                              rw [if_neg c78] at H
                              exact absurd H (by simp)
                          · as_aux_lemma =>
                            replace c77 := Bool.eq_false_iff.mpr c77
                            subst c77
                            have H1 : (escutcheonlaw15_HelloTells.j4 kj69 a4 0) = some r := by rw [if_neg (show ¬ (false = true) by decide)] at H; exact H
                            clear H
                            have H := H1
                            clear H1
                            have H' := Aside0.mk H
                            clear H
                            go_wp2
                            go_meet
                            case rel => exact ⟨_, (0), (by first | rfl | (simp; done) | (simp [*]; done)), H', ⟨by have := HJ5.out; have := HJ31.out; have := HJ47.out; have := HJ69.out; first | omega | exact Nat.le_refl _⟩, ⟨by (with_reducible repeat (first | refine blk_drewN ?_ _ | refine blk_drew ?_ | refine blk_alloc ?_ _)); exact BK160.out⟩, ⟨by repeat (first | (with_reducible first | exact HB.out | apply below_alloc | apply pw_below_drewN | apply below_drew1 | refine below_set ?_ GE160.out) | exact HB.out)⟩⟩
                        case rest => as_aux_lemma =>
                          clear HC76
                          try clear c1
                          try clear c2
                          try clear p2
                          try clear c4
                          try clear c5
                          try clear c6
                          try clear p6
                          try clear c7
                          try clear p7
                          try clear q7
                          try clear hx7
                          try clear qi7
                          try clear c8
                          try clear c8b0
                          try clear c8b1
                          try clear c9
                          try clear c10
                          try clear c10b0
                          try clear c10b1
                          try clear c12
                          try clear c12b0
                          try clear c12b1
                          try clear c13
                          try clear c14
                          try clear c14b0
                          try clear c14b1
                          try clear c16
                          try clear c16b0
                          try clear c16b1
                          try clear c18
                          try clear c18b0
                          try clear c18b1
                          try clear c19
                          try clear c20
                          try clear c23
                          try clear c41
                          try clear c41b0
                          try clear c41b1
                          try clear c42
                          try clear c42b0
                          try clear c42b1
                          try clear c42b2
                          try clear c43
                          try clear c43b0
                          try clear c43b1
                          try clear c43b2
                          try clear c44
                          try clear c44b0
                          try clear c44b1
                          try clear c44b2
                          try clear c45
                          try clear c45b0
                          try clear c45b1
                          try clear c45b2
                          try clear c46
                          try clear c46b0
                          try clear c46b1
                          try clear c47
                          try clear c49
                          try clear c50
                          try clear c50b0
                          try clear c50b1
                          try clear c50b2
                          try clear c51
                          try clear c51b0
                          try clear c51b1
                          try clear c52
                          try clear c53
                          try clear c53b0
                          try clear c53b1
                          try clear c53b2
                          try clear c54
                          try clear c54b0
                          try clear c54b1
                          try clear c55
                          try clear c55b0
                          try clear c55b1
                          try clear c56
                          try clear c57
                          try clear c57b0
                          try clear c57b1
                          try clear c57b2
                          try clear c58
                          try clear c59
                          try clear c59b0
                          try clear c59b1
                          try clear c59b2
                          try clear c60
                          try clear c60b0
                          try clear c60b1
                          try clear c61
                          try clear c62
                          try clear c62b0
                          try clear c62b1
                          try clear c62b2
                          try clear c63
                          try clear c63b0
                          try clear c63b1
                          try clear c64
                          try clear c64b0
                          try clear c64b1
                          try clear p64
                          try clear c65
                          try clear c66
                          try clear c66b0
                          try clear c66b1
                          try clear c66b2
                          try clear c67
                          try clear c68
                          try clear c68b0
                          try clear c68b1
                          try clear c68b2
                          try clear c69
                          try clear c71
                          try clear c71b0
                          try clear c71b1
                          try clear c72
                          try clear c72b0
                          try clear c72b1
                          try clear p73
                          try clear q73
                          try clear hx73
                          try clear qi73
                          try clear c74
                          try clear c74b0
                          try clear p75
                          try clear q75
                          try clear hx75
                          try clear qi75
                          try clear c77
                          try clear c78
                          try clear c78b0
                          try clear c78b1
                          try clear p79
                          try clear q79
                          try clear hx79
                          try clear qi79
                          try clear hcz11_0
                          try clear hcz11_1
                          try clear hcz13_0
                          try clear hcz13_1
                          try clear hcz15_0
                          try clear hcz15_1
                          try clear hcz17_0
                          try clear hcz17_1
                          try clear hcz19_0
                          try clear hcz19_1
                          try clear hcz21_0
                          try clear hcz21_1
                          try clear hcz33_0
                          try clear hcz33_1
                          try clear hcz35_0
                          try clear hcz35_1
                          try clear hcz9_0
                          try clear hcz9_1
                          try clear hfz11_0
                          try clear hfz11_1
                          try clear hfz13_0
                          try clear hfz13_1
                          try clear hfz15_0
                          try clear hfz15_1
                          try clear hfz17_0
                          try clear hfz17_1
                          try clear hfz19_0
                          try clear hfz19_1
                          try clear hfz21_0
                          try clear hfz21_1
                          try clear hfz33_0
                          try clear hfz33_1
                          try clear hfz35_0
                          try clear hfz35_1
                          try clear hfz9_0
                          try clear hfz9_1
                          try clear p2
                          try clear p7
                          try clear p73
                          try clear p75
                          try clear p79
                          try clear q7
                          try clear q73
                          try clear q75
                          try clear q79
                          obtain ⟨kq, x23_75, rfl, HA, HJ75, BK160, HB⟩ := hcut
                          cases kq with
                          | zero => exact absurd HA.out (by simp [escutcheonlaw15_HelloTells.j4])
                          | succ kj75 =>
                            have H := HA.out
                            clear HA
                            simp only [escutcheonlaw15_HelloTells.j4] at H
                            replace H := Option.bind_eq_some_iff.mp H
                            obtain ⟨⟨t175, t176, t177⟩, A800, H⟩ := H
                            replace H : ((escutcheonref14_GetHello.f kj75 a4).bind fun bt179 => ((hello_GetChallenge.f a4).bind fun bt183 => ((escutcheonref14_Fixed.f 2 16 a4).bind fun bt186 => ((hello_GetProof.f a4).bind fun bt188 => ((escutcheonref14_Fixed.f 3 32 a4).bind fun bt191 => ((hello_GetFinish.f a4).bind fun bt193 => ((escutcheonref14_Fixed.f 4 32 a4).bind fun bt196 => ((hello_GetRecord.f a4).bind fun bt198 => (if (a4.size : Int) ≥ 25 then (if 0 < (a4.size : Int) then (if (bt a4 0) = 5 then (escutcheonlaw15_HelloTells.j5 kj75 a4 x23_75 t177 bt179.2.2 bt183.2 bt186.1 bt186.2 bt188.2 bt191.1 bt191.2 bt193.2 bt196.1 bt196.2 bt198.1 bt198.2 (decide ((a4.size : Int) ≤ 2200)) t175 t176 bt179.1 bt179.2.1 bt183.1 bt188.1 bt193.1) else (escutcheonlaw15_HelloTells.j5 kj75 a4 x23_75 t177 bt179.2.2 bt183.2 bt186.1 bt186.2 bt188.2 bt191.1 bt191.2 bt193.2 bt196.1 bt196.2 bt198.1 bt198.2 false t175 t176 bt179.1 bt179.2.1 bt183.1 bt188.1 bt193.1)) else (none)) else (escutcheonlaw15_HelloTells.j5 kj75 a4 x23_75 t177 bt179.2.2 bt183.2 bt186.1 bt186.2 bt188.2 bt191.1 bt191.2 bt193.2 bt196.1 bt196.2 bt198.1 bt198.2 false t175 t176 bt179.1 bt179.2.1 bt183.1 bt188.1 bt193.1)))))))))) = some r := H
                            have A80 := Aside0.mk A800
                            clear A800
                            replace H := Option.bind_eq_some_iff.mp H
                            obtain ⟨⟨t179, t180, t181⟩, A810, H⟩ := H
                            replace H : ((hello_GetChallenge.f a4).bind fun bt183 => ((escutcheonref14_Fixed.f 2 16 a4).bind fun bt186 => ((hello_GetProof.f a4).bind fun bt188 => ((escutcheonref14_Fixed.f 3 32 a4).bind fun bt191 => ((hello_GetFinish.f a4).bind fun bt193 => ((escutcheonref14_Fixed.f 4 32 a4).bind fun bt196 => ((hello_GetRecord.f a4).bind fun bt198 => (if (a4.size : Int) ≥ 25 then (if 0 < (a4.size : Int) then (if (bt a4 0) = 5 then (escutcheonlaw15_HelloTells.j5 kj75 a4 x23_75 t177 t181 bt183.2 bt186.1 bt186.2 bt188.2 bt191.1 bt191.2 bt193.2 bt196.1 bt196.2 bt198.1 bt198.2 (decide ((a4.size : Int) ≤ 2200)) t175 t176 t179 t180 bt183.1 bt188.1 bt193.1) else (escutcheonlaw15_HelloTells.j5 kj75 a4 x23_75 t177 t181 bt183.2 bt186.1 bt186.2 bt188.2 bt191.1 bt191.2 bt193.2 bt196.1 bt196.2 bt198.1 bt198.2 false t175 t176 t179 t180 bt183.1 bt188.1 bt193.1)) else (none)) else (escutcheonlaw15_HelloTells.j5 kj75 a4 x23_75 t177 t181 bt183.2 bt186.1 bt186.2 bt188.2 bt191.1 bt191.2 bt193.2 bt196.1 bt196.2 bt198.1 bt198.2 false t175 t176 t179 t180 bt183.1 bt188.1 bt193.1))))))))) = some r := H
                            have A81 := Aside0.mk A810
                            clear A810
                            replace H := Option.bind_eq_some_iff.mp H
                            obtain ⟨⟨t183, t184⟩, A820, H⟩ := H
                            replace H : ((escutcheonref14_Fixed.f 2 16 a4).bind fun bt186 => ((hello_GetProof.f a4).bind fun bt188 => ((escutcheonref14_Fixed.f 3 32 a4).bind fun bt191 => ((hello_GetFinish.f a4).bind fun bt193 => ((escutcheonref14_Fixed.f 4 32 a4).bind fun bt196 => ((hello_GetRecord.f a4).bind fun bt198 => (if (a4.size : Int) ≥ 25 then (if 0 < (a4.size : Int) then (if (bt a4 0) = 5 then (escutcheonlaw15_HelloTells.j5 kj75 a4 x23_75 t177 t181 t184 bt186.1 bt186.2 bt188.2 bt191.1 bt191.2 bt193.2 bt196.1 bt196.2 bt198.1 bt198.2 (decide ((a4.size : Int) ≤ 2200)) t175 t176 t179 t180 t183 bt188.1 bt193.1) else (escutcheonlaw15_HelloTells.j5 kj75 a4 x23_75 t177 t181 t184 bt186.1 bt186.2 bt188.2 bt191.1 bt191.2 bt193.2 bt196.1 bt196.2 bt198.1 bt198.2 false t175 t176 t179 t180 t183 bt188.1 bt193.1)) else (none)) else (escutcheonlaw15_HelloTells.j5 kj75 a4 x23_75 t177 t181 t184 bt186.1 bt186.2 bt188.2 bt191.1 bt191.2 bt193.2 bt196.1 bt196.2 bt198.1 bt198.2 false t175 t176 t179 t180 t183 bt188.1 bt193.1)))))))) = some r := H
                            have A82 := Aside0.mk A820
                            clear A820
                            replace H := Option.bind_eq_some_iff.mp H
                            obtain ⟨⟨t186, t187⟩, A830, H⟩ := H
                            replace H : ((hello_GetProof.f a4).bind fun bt188 => ((escutcheonref14_Fixed.f 3 32 a4).bind fun bt191 => ((hello_GetFinish.f a4).bind fun bt193 => ((escutcheonref14_Fixed.f 4 32 a4).bind fun bt196 => ((hello_GetRecord.f a4).bind fun bt198 => (if (a4.size : Int) ≥ 25 then (if 0 < (a4.size : Int) then (if (bt a4 0) = 5 then (escutcheonlaw15_HelloTells.j5 kj75 a4 x23_75 t177 t181 t184 t186 t187 bt188.2 bt191.1 bt191.2 bt193.2 bt196.1 bt196.2 bt198.1 bt198.2 (decide ((a4.size : Int) ≤ 2200)) t175 t176 t179 t180 t183 bt188.1 bt193.1) else (escutcheonlaw15_HelloTells.j5 kj75 a4 x23_75 t177 t181 t184 t186 t187 bt188.2 bt191.1 bt191.2 bt193.2 bt196.1 bt196.2 bt198.1 bt198.2 false t175 t176 t179 t180 t183 bt188.1 bt193.1)) else (none)) else (escutcheonlaw15_HelloTells.j5 kj75 a4 x23_75 t177 t181 t184 t186 t187 bt188.2 bt191.1 bt191.2 bt193.2 bt196.1 bt196.2 bt198.1 bt198.2 false t175 t176 t179 t180 t183 bt188.1 bt193.1))))))) = some r := H
                            have A83 := Aside0.mk A830
                            clear A830
                            replace H := Option.bind_eq_some_iff.mp H
                            obtain ⟨⟨t188, t189⟩, A840, H⟩ := H
                            replace H : ((escutcheonref14_Fixed.f 3 32 a4).bind fun bt191 => ((hello_GetFinish.f a4).bind fun bt193 => ((escutcheonref14_Fixed.f 4 32 a4).bind fun bt196 => ((hello_GetRecord.f a4).bind fun bt198 => (if (a4.size : Int) ≥ 25 then (if 0 < (a4.size : Int) then (if (bt a4 0) = 5 then (escutcheonlaw15_HelloTells.j5 kj75 a4 x23_75 t177 t181 t184 t186 t187 t189 bt191.1 bt191.2 bt193.2 bt196.1 bt196.2 bt198.1 bt198.2 (decide ((a4.size : Int) ≤ 2200)) t175 t176 t179 t180 t183 t188 bt193.1) else (escutcheonlaw15_HelloTells.j5 kj75 a4 x23_75 t177 t181 t184 t186 t187 t189 bt191.1 bt191.2 bt193.2 bt196.1 bt196.2 bt198.1 bt198.2 false t175 t176 t179 t180 t183 t188 bt193.1)) else (none)) else (escutcheonlaw15_HelloTells.j5 kj75 a4 x23_75 t177 t181 t184 t186 t187 t189 bt191.1 bt191.2 bt193.2 bt196.1 bt196.2 bt198.1 bt198.2 false t175 t176 t179 t180 t183 t188 bt193.1)))))) = some r := H
                            have A84 := Aside0.mk A840
                            clear A840
                            replace H := Option.bind_eq_some_iff.mp H
                            obtain ⟨⟨t191, t192⟩, A850, H⟩ := H
                            replace H : ((hello_GetFinish.f a4).bind fun bt193 => ((escutcheonref14_Fixed.f 4 32 a4).bind fun bt196 => ((hello_GetRecord.f a4).bind fun bt198 => (if (a4.size : Int) ≥ 25 then (if 0 < (a4.size : Int) then (if (bt a4 0) = 5 then (escutcheonlaw15_HelloTells.j5 kj75 a4 x23_75 t177 t181 t184 t186 t187 t189 t191 t192 bt193.2 bt196.1 bt196.2 bt198.1 bt198.2 (decide ((a4.size : Int) ≤ 2200)) t175 t176 t179 t180 t183 t188 bt193.1) else (escutcheonlaw15_HelloTells.j5 kj75 a4 x23_75 t177 t181 t184 t186 t187 t189 t191 t192 bt193.2 bt196.1 bt196.2 bt198.1 bt198.2 false t175 t176 t179 t180 t183 t188 bt193.1)) else (none)) else (escutcheonlaw15_HelloTells.j5 kj75 a4 x23_75 t177 t181 t184 t186 t187 t189 t191 t192 bt193.2 bt196.1 bt196.2 bt198.1 bt198.2 false t175 t176 t179 t180 t183 t188 bt193.1))))) = some r := H
                            have A85 := Aside0.mk A850
                            clear A850
                            replace H := Option.bind_eq_some_iff.mp H
                            obtain ⟨⟨t193, t194⟩, A860, H⟩ := H
                            replace H : ((escutcheonref14_Fixed.f 4 32 a4).bind fun bt196 => ((hello_GetRecord.f a4).bind fun bt198 => (if (a4.size : Int) ≥ 25 then (if 0 < (a4.size : Int) then (if (bt a4 0) = 5 then (escutcheonlaw15_HelloTells.j5 kj75 a4 x23_75 t177 t181 t184 t186 t187 t189 t191 t192 t194 bt196.1 bt196.2 bt198.1 bt198.2 (decide ((a4.size : Int) ≤ 2200)) t175 t176 t179 t180 t183 t188 t193) else (escutcheonlaw15_HelloTells.j5 kj75 a4 x23_75 t177 t181 t184 t186 t187 t189 t191 t192 t194 bt196.1 bt196.2 bt198.1 bt198.2 false t175 t176 t179 t180 t183 t188 t193)) else (none)) else (escutcheonlaw15_HelloTells.j5 kj75 a4 x23_75 t177 t181 t184 t186 t187 t189 t191 t192 t194 bt196.1 bt196.2 bt198.1 bt198.2 false t175 t176 t179 t180 t183 t188 t193)))) = some r := H
                            have A86 := Aside0.mk A860
                            clear A860
                            replace H := Option.bind_eq_some_iff.mp H
                            obtain ⟨⟨t196, t197⟩, A870, H⟩ := H
                            replace H : ((hello_GetRecord.f a4).bind fun bt198 => (if (a4.size : Int) ≥ 25 then (if 0 < (a4.size : Int) then (if (bt a4 0) = 5 then (escutcheonlaw15_HelloTells.j5 kj75 a4 x23_75 t177 t181 t184 t186 t187 t189 t191 t192 t194 t196 t197 bt198.1 bt198.2 (decide ((a4.size : Int) ≤ 2200)) t175 t176 t179 t180 t183 t188 t193) else (escutcheonlaw15_HelloTells.j5 kj75 a4 x23_75 t177 t181 t184 t186 t187 t189 t191 t192 t194 t196 t197 bt198.1 bt198.2 false t175 t176 t179 t180 t183 t188 t193)) else (none)) else (escutcheonlaw15_HelloTells.j5 kj75 a4 x23_75 t177 t181 t184 t186 t187 t189 t191 t192 t194 t196 t197 bt198.1 bt198.2 false t175 t176 t179 t180 t183 t188 t193))) = some r := H
                            have A87 := Aside0.mk A870
                            clear A870
                            replace H := Option.bind_eq_some_iff.mp H
                            obtain ⟨⟨t198, t199⟩, A880, H⟩ := H
                            replace H : (if (a4.size : Int) ≥ 25 then (if 0 < (a4.size : Int) then (if (bt a4 0) = 5 then (escutcheonlaw15_HelloTells.j5 kj75 a4 x23_75 t177 t181 t184 t186 t187 t189 t191 t192 t194 t196 t197 t198 t199 (decide ((a4.size : Int) ≤ 2200)) t175 t176 t179 t180 t183 t188 t193) else (escutcheonlaw15_HelloTells.j5 kj75 a4 x23_75 t177 t181 t184 t186 t187 t189 t191 t192 t194 t196 t197 t198 t199 false t175 t176 t179 t180 t183 t188 t193)) else (none)) else (escutcheonlaw15_HelloTells.j5 kj75 a4 x23_75 t177 t181 t184 t186 t187 t189 t191 t192 t194 t196 t197 t198 t199 false t175 t176 t179 t180 t183 t188 t193)) = some r := H
                            have A88 := Aside0.mk A880
                            clear A880
                            have HC89 := Aside0.mk H
                            clear H
                            go_upto_region 25 with (first | ((with_reducible refine gate_callee (f := 10) rfl ?_); refine goesL_ (some 207) rfl rfl Try.func10 (by kernel_rfl) rfl #[.string a4] rfl (by (try simp only [List.map_toArray, List.map_cons, List.map_nil]); first | done | rfl | (simp only [List.length_drop, List.length_take]; rfl)) ?_; (with_reducible refine (hello_GetHello.calls kj75 a4 t175 t176 t177 _ A80.out).mono ?_); rintro e w90 ⟨rfl, hb⟩; refine ⟨_, rfl, ?_⟩; have n0_ := Aside0.mk (blk_below (g := gb160) (o := .cells #[.string a0_0, .string a0_1] 25 (0, 0)) (by (with_reducible repeat (first | refine blk_drewN ?_ _ | refine blk_drew ?_ | refine blk_alloc ?_ _)); exact BK160.out) hb); have n1_ := Aside0.mk (below_step (by repeat (first | (with_reducible first | exact HB.out | apply below_alloc | apply pw_below_drewN | apply below_drew1 | refine below_set ?_ GE160.out) | exact HB.out)) hb); clear BK160; clear HB; have BK160 := n0_; have HB := n1_; clear n0_ n1_; (try clear hb); (try clear hb2); (try clear hk); (try clear hi)) | ((with_reducible refine gate_dst (N := 24) rfl ?_); (try (refine gate_guard (by rfl) ?_; dsimp only)); refine box_event ?hg (N := 24) ?hd (cs := #[.string (⟨#[]⟩ : ByteArray), .string (⟨#[]⟩ : ByteArray)]) (t := 25) ?hr ?_; (case hd => rfl); (case hg => rfl); (case hr => first | (go_simp; done) | (go_simp; rfl)); intro gb178 hg w91 hbox hb; have n0_ := Aside0.mk (blk_below (g := gb160) (o := .cells #[.string a0_0, .string a0_1] 25 (0, 0)) (by (with_reducible repeat (first | refine blk_drewN ?_ _ | refine blk_drew ?_ | refine blk_alloc ?_ _)); exact BK160.out) hb); have n1_ := Aside0.mk (below_step (by repeat (first | (with_reducible first | exact HB.out | apply below_alloc | apply pw_below_drewN | apply below_drew1 | refine below_set ?_ GE160.out) | exact HB.out)) hb); have n2_ := Aside0.mk (hbox); have n3_ := Aside0.mk ((by rw [hg]; exact (below_size (by repeat (first | (with_reducible first | exact HB.out | apply below_alloc | apply pw_below_drewN | apply below_drew1 | refine below_set ?_ GE160.out) | exact HB.out))) : w.heap.size ≤ gb178)); have n4_ := Aside0.mk ((by rw [hg]; exact (below_size (by repeat (first | (with_reducible first | exact HB.out | apply below_alloc | apply pw_below_drewN | apply below_drew1 | refine below_set ?_ GE160.out) | exact HB.out))) : w.heap.size ≤ gb178)); have n5_ := Aside0.mk ((by rw [hg]; exact Nat.ne_of_lt (blk_lt (g := gb160) (o := .cells #[.string a0_0, .string a0_1] 25 (0, 0)) (by (with_reducible repeat (first | refine blk_drewN ?_ _ | refine blk_drew ?_ | refine blk_alloc ?_ _)); exact BK160.out)) : gb160 ≠ gb178)); have n6_ := Aside0.mk ((by rw [hg]; exact Nat.ne_of_gt (blk_lt (g := gb160) (o := .cells #[.string a0_0, .string a0_1] 25 (0, 0)) (by (with_reducible repeat (first | refine blk_drewN ?_ _ | refine blk_drew ?_ | refine blk_alloc ?_ _)); exact BK160.out)) : gb178 ≠ gb160)); clear BK160; clear HB; have BK160 := n0_; have HB := n1_; have BK178 := n2_; have GW178 := n3_; have GE178 := n4_; have NB160_178 := n5_; have NB178_160 := n6_; clear n0_ n1_ n2_ n3_ n4_ n5_ n6_; clear hb hbox hg; have hnb92 := NB178_160.out; have hnc92 := NB160_178.out; have hcz93_0 : w91.cell? ⟨gb178, 0, none⟩ = some (.string (⟨#[]⟩ : ByteArray)) := (blk_cell BK178.out 0).trans rfl; have hcz93_1 : w91.cell? ⟨gb178, 1, none⟩ = some (.string (⟨#[]⟩ : ByteArray)) := (blk_cell BK178.out 1).trans rfl; have hfz93_0 := blk_frozen BK178.out 0; have hfz93_1 := blk_frozen BK178.out 1) | ((with_reducible refine gate_callee (f := 21) rfl ?_); refine goesL_ (some 212) rfl rfl Try.func21 (by kernel_rfl) rfl #[.string a4] rfl (by (try simp only [List.map_toArray, List.map_cons, List.map_nil]); first | done | rfl | (simp only [List.length_drop, List.length_take]; rfl)) ?_; (with_reducible refine (escutcheonref14_GetHello.calls kj75 a4 t179 t180 t181 _ A81.out).mono ?_); rintro e w94 ⟨rfl, hb⟩; refine ⟨_, rfl, ?_⟩; have n0_ := Aside0.mk (blk_below (g := gb160) (o := .cells #[.string a0_0, .string a0_1] 25 (0, 0)) (by (with_reducible repeat (first | refine blk_drewN ?_ _ | refine blk_drew ?_ | refine blk_alloc ?_ _)); refine blk_far ?_ NB160_178.out _; (with_reducible repeat (first | refine blk_drewN ?_ _ | refine blk_drew ?_ | refine blk_alloc ?_ _)); refine blk_far ?_ NB160_178.out _; (with_reducible repeat (first | refine blk_drewN ?_ _ | refine blk_drew ?_ | refine blk_alloc ?_ _)); exact BK160.out) hb); have n1_ := Aside0.mk (blk_below (g := gb178) (o := .cells #[.string t175, .string t176] 25 (0, 0)) (by (with_reducible repeat (first | refine blk_drewN ?_ _ | refine blk_drew ?_ | refine blk_alloc ?_ _)); refine blk_put (cs := #[.string t175, .string (⟨#[]⟩ : ByteArray)]) ?_ 1 _ rfl; (with_reducible repeat (first | refine blk_drewN ?_ _ | refine blk_drew ?_ | refine blk_alloc ?_ _)); refine blk_put (cs := #[.string (⟨#[]⟩ : ByteArray), .string (⟨#[]⟩ : ByteArray)]) ?_ 0 _ rfl; (with_reducible repeat (first | refine blk_drewN ?_ _ | refine blk_drew ?_ | refine blk_alloc ?_ _)); exact BK178.out) hb); have n2_ := Aside0.mk (below_step (by repeat (first | (with_reducible first | exact HB.out | apply below_alloc | apply pw_below_drewN | apply below_drew1 | refine below_set ?_ GE160.out | refine below_set ?_ GE178.out) | exact HB.out)) hb); clear BK160; clear BK178; clear HB; have BK160 := n0_; have BK178 := n1_; have HB := n2_; clear n0_ n1_ n2_; (try clear hb); (try clear hb2); (try clear hk); (try clear hi)) | ((with_reducible refine gate_dst (N := 26) rfl ?_); (try (refine gate_guard (by rfl) ?_; dsimp only)); refine box_event ?hg (N := 26) ?hd (cs := #[.string (⟨#[]⟩ : ByteArray), .string (⟨#[]⟩ : ByteArray)]) (t := 25) ?hr ?_; (case hd => rfl); (case hg => rfl); (case hr => first | (go_simp; done) | (go_simp; rfl)); intro gb182 hg w95 hbox hb; have n0_ := Aside0.mk (blk_below (g := gb160) (o := .cells #[.string a0_0, .string a0_1] 25 (0, 0)) (by (with_reducible repeat (first | refine blk_drewN ?_ _ | refine blk_drew ?_ | refine blk_alloc ?_ _)); exact BK160.out) hb); have n1_ := Aside0.mk (blk_below (g := gb178) (o := .cells #[.string t175, .string t176] 25 (0, 0)) (by (with_reducible repeat (first | refine blk_drewN ?_ _ | refine blk_drew ?_ | refine blk_alloc ?_ _)); exact BK178.out) hb); have n2_ := Aside0.mk (below_step (by repeat (first | (with_reducible first | exact HB.out | apply below_alloc | apply pw_below_drewN | apply below_drew1 | refine below_set ?_ GE160.out | refine below_set ?_ GE178.out) | exact HB.out)) hb); have n3_ := Aside0.mk (hbox); have n4_ := Aside0.mk ((by rw [hg]; exact (below_size (by repeat (first | (with_reducible first | exact HB.out | apply below_alloc | apply pw_below_drewN | apply below_drew1 | refine below_set ?_ GE160.out | refine below_set ?_ GE178.out) | exact HB.out))) : w.heap.size ≤ gb182)); have n5_ := Aside0.mk ((by rw [hg]; exact (below_size (by repeat (first | (with_reducible first | exact HB.out | apply below_alloc | apply pw_below_drewN | apply below_drew1 | refine below_set ?_ GE160.out | refine below_set ?_ GE178.out) | exact HB.out))) : w.heap.size ≤ gb182)); have n6_ := Aside0.mk ((by rw [hg]; exact Nat.ne_of_lt (blk_lt (g := gb160) (o := .cells #[.string a0_0, .string a0_1] 25 (0, 0)) (by (with_reducible repeat (first | refine blk_drewN ?_ _ | refine blk_drew ?_ | refine blk_alloc ?_ _)); exact BK160.out)) : gb160 ≠ gb182)); have n7_ := Aside0.mk ((by rw [hg]; exact Nat.ne_of_gt (blk_lt (g := gb160) (o := .cells #[.string a0_0, .string a0_1] 25 (0, 0)) (by (with_reducible repeat (first | refine blk_drewN ?_ _ | refine blk_drew ?_ | refine blk_alloc ?_ _)); exact BK160.out)) : gb182 ≠ gb160)); have n8_ := Aside0.mk ((by rw [hg]; exact Nat.ne_of_lt (blk_lt (g := gb178) (o := .cells #[.string t175, .string t176] 25 (0, 0)) (by (with_reducible repeat (first | refine blk_drewN ?_ _ | refine blk_drew ?_ | refine blk_alloc ?_ _)); exact BK178.out)) : gb178 ≠ gb182)); have n9_ := Aside0.mk ((by rw [hg]; exact Nat.ne_of_gt (blk_lt (g := gb178) (o := .cells #[.string t175, .string t176] 25 (0, 0)) (by (with_reducible repeat (first | refine blk_drewN ?_ _ | refine blk_drew ?_ | refine blk_alloc ?_ _)); exact BK178.out)) : gb182 ≠ gb178)); clear BK160; clear BK178; clear HB; have BK160 := n0_; have BK178 := n1_; have HB := n2_; have BK182 := n3_; have GW182 := n4_; have GE182 := n5_; have NB160_182 := n6_; have NB182_160 := n7_; have NB178_182 := n8_; have NB182_178 := n9_; clear n0_ n1_ n2_ n3_ n4_ n5_ n6_ n7_ n8_ n9_; clear hb hbox hg; have hnb96 := NB182_160.out; have hnc96 := NB160_182.out; have hnb97 := NB182_178.out; have hnc97 := NB178_182.out; have hcz98_0 : w95.cell? ⟨gb182, 0, none⟩ = some (.string (⟨#[]⟩ : ByteArray)) := (blk_cell BK182.out 0).trans rfl; have hcz98_1 : w95.cell? ⟨gb182, 1, none⟩ = some (.string (⟨#[]⟩ : ByteArray)) := (blk_cell BK182.out 1).trans rfl; have hfz98_0 := blk_frozen BK182.out 0; have hfz98_1 := blk_frozen BK182.out 1) | ((with_reducible refine gate_callee (f := 15) rfl ?_); refine goesL_ (some 217) rfl rfl Try.func15 (by kernel_rfl) rfl #[.string a4] rfl (by (try simp only [List.map_toArray, List.map_cons, List.map_nil]); first | done | rfl | (simp only [List.length_drop, List.length_take]; rfl)) ?_; (with_reducible refine (hello_GetChallenge.calls a4 t183 t184 _ A82.out).mono ?_); rintro e w99 ⟨rfl, hb⟩; refine ⟨_, rfl, ?_⟩; have n0_ := Aside0.mk (blk_below (g := gb160) (o := .cells #[.string a0_0, .string a0_1] 25 (0, 0)) (by (with_reducible repeat (first | refine blk_drewN ?_ _ | refine blk_drew ?_ | refine blk_alloc ?_ _)); refine blk_far ?_ NB160_182.out _; (with_reducible repeat (first | refine blk_drewN ?_ _ | refine blk_drew ?_ | refine blk_alloc ?_ _)); refine blk_far ?_ NB160_182.out _; (with_reducible repeat (first | refine blk_drewN ?_ _ | refine blk_drew ?_ | refine blk_alloc ?_ _)); exact BK160.out) hb); have n1_ := Aside0.mk (blk_below (g := gb178) (o := .cells #[.string t175, .string t176] 25 (0, 0)) (by (with_reducible repeat (first | refine blk_drewN ?_ _ | refine blk_drew ?_ | refine blk_alloc ?_ _)); refine blk_far ?_ NB178_182.out _; (with_reducible repeat (first | refine blk_drewN ?_ _ | refine blk_drew ?_ | refine blk_alloc ?_ _)); refine blk_far ?_ NB178_182.out _; (with_reducible repeat (first | refine blk_drewN ?_ _ | refine blk_drew ?_ | refine blk_alloc ?_ _)); exact BK178.out) hb); have n2_ := Aside0.mk (blk_below (g := gb182) (o := .cells #[.string t179, .string t180] 25 (0, 0)) (by (with_reducible repeat (first | refine blk_drewN ?_ _ | refine blk_drew ?_ | refine blk_alloc ?_ _)); refine blk_put (cs := #[.string t179, .string (⟨#[]⟩ : ByteArray)]) ?_ 1 _ rfl; (with_reducible repeat (first | refine blk_drewN ?_ _ | refine blk_drew ?_ | refine blk_alloc ?_ _)); refine blk_put (cs := #[.string (⟨#[]⟩ : ByteArray), .string (⟨#[]⟩ : ByteArray)]) ?_ 0 _ rfl; (with_reducible repeat (first | refine blk_drewN ?_ _ | refine blk_drew ?_ | refine blk_alloc ?_ _)); exact BK182.out) hb); have n3_ := Aside0.mk (below_step (by repeat (first | (with_reducible first | exact HB.out | apply below_alloc | apply pw_below_drewN | apply below_drew1 | refine below_set ?_ GE160.out | refine below_set ?_ GE178.out | refine below_set ?_ GE182.out) | exact HB.out)) hb); clear BK160; clear BK178; clear BK182; clear HB; have BK160 := n0_; have BK178 := n1_; have BK182 := n2_; have HB := n3_; clear n0_ n1_ n2_ n3_; (try clear hb); (try clear hb2); (try clear hk); (try clear hi)) | ((with_reducible refine gate_dst (N := 28) rfl ?_); (try (refine gate_guard (by rfl) ?_; dsimp only)); refine box_event ?hg (N := 28) ?hd (cs := #[.string (⟨#[]⟩ : ByteArray)]) (t := 38) ?hr ?_; (case hd => rfl); (case hg => rfl); (case hr => first | (go_simp; done) | (go_simp; rfl)); intro gb185 hg w100 hbox hb; have n0_ := Aside0.mk (blk_below (g := gb160) (o := .cells #[.string a0_0, .string a0_1] 25 (0, 0)) (by (with_reducible repeat (first | refine blk_drewN ?_ _ | refine blk_drew ?_ | refine blk_alloc ?_ _)); exact BK160.out) hb); have n1_ := Aside0.mk (blk_below (g := gb178) (o := .cells #[.string t175, .string t176] 25 (0, 0)) (by (with_reducible repeat (first | refine blk_drewN ?_ _ | refine blk_drew ?_ | refine blk_alloc ?_ _)); exact BK178.out) hb); have n2_ := Aside0.mk (blk_below (g := gb182) (o := .cells #[.string t179, .string t180] 25 (0, 0)) (by (with_reducible repeat (first | refine blk_drewN ?_ _ | refine blk_drew ?_ | refine blk_alloc ?_ _)); exact BK182.out) hb); have n3_ := Aside0.mk (below_step (by repeat (first | (with_reducible first | exact HB.out | apply below_alloc | apply pw_below_drewN | apply below_drew1 | refine below_set ?_ GE160.out | refine below_set ?_ GE178.out | refine below_set ?_ GE182.out) | exact HB.out)) hb); have n4_ := Aside0.mk (hbox); have n5_ := Aside0.mk ((by rw [hg]; exact (below_size (by repeat (first | (with_reducible first | exact HB.out | apply below_alloc | apply pw_below_drewN | apply below_drew1 | refine below_set ?_ GE160.out | refine below_set ?_ GE178.out | refine below_set ?_ GE182.out) | exact HB.out))) : w.heap.size ≤ gb185)); have n6_ := Aside0.mk ((by rw [hg]; exact (below_size (by repeat (first | (with_reducible first | exact HB.out | apply below_alloc | apply pw_below_drewN | apply below_drew1 | refine below_set ?_ GE160.out | refine below_set ?_ GE178.out | refine below_set ?_ GE182.out) | exact HB.out))) : w.heap.size ≤ gb185)); have n7_ := Aside0.mk ((by rw [hg]; exact Nat.ne_of_lt (blk_lt (g := gb160) (o := .cells #[.string a0_0, .string a0_1] 25 (0, 0)) (by (with_reducible repeat (first | refine blk_drewN ?_ _ | refine blk_drew ?_ | refine blk_alloc ?_ _)); exact BK160.out)) : gb160 ≠ gb185)); have n8_ := Aside0.mk ((by rw [hg]; exact Nat.ne_of_gt (blk_lt (g := gb160) (o := .cells #[.string a0_0, .string a0_1] 25 (0, 0)) (by (with_reducible repeat (first | refine blk_drewN ?_ _ | refine blk_drew ?_ | refine blk_alloc ?_ _)); exact BK160.out)) : gb185 ≠ gb160)); have n9_ := Aside0.mk ((by rw [hg]; exact Nat.ne_of_lt (blk_lt (g := gb178) (o := .cells #[.string t175, .string t176] 25 (0, 0)) (by (with_reducible repeat (first | refine blk_drewN ?_ _ | refine blk_drew ?_ | refine blk_alloc ?_ _)); exact BK178.out)) : gb178 ≠ gb185)); have n10_ := Aside0.mk ((by rw [hg]; exact Nat.ne_of_gt (blk_lt (g := gb178) (o := .cells #[.string t175, .string t176] 25 (0, 0)) (by (with_reducible repeat (first | refine blk_drewN ?_ _ | refine blk_drew ?_ | refine blk_alloc ?_ _)); exact BK178.out)) : gb185 ≠ gb178)); have n11_ := Aside0.mk ((by rw [hg]; exact Nat.ne_of_lt (blk_lt (g := gb182) (o := .cells #[.string t179, .string t180] 25 (0, 0)) (by (with_reducible repeat (first | refine blk_drewN ?_ _ | refine blk_drew ?_ | refine blk_alloc ?_ _)); exact BK182.out)) : gb182 ≠ gb185)); have n12_ := Aside0.mk ((by rw [hg]; exact Nat.ne_of_gt (blk_lt (g := gb182) (o := .cells #[.string t179, .string t180] 25 (0, 0)) (by (with_reducible repeat (first | refine blk_drewN ?_ _ | refine blk_drew ?_ | refine blk_alloc ?_ _)); exact BK182.out)) : gb185 ≠ gb182)); clear BK160; clear BK178; clear BK182; clear HB; have BK160 := n0_; have BK178 := n1_; have BK182 := n2_; have HB := n3_; have BK185 := n4_; have GW185 := n5_; have GE185 := n6_; have NB160_185 := n7_; have NB185_160 := n8_; have NB178_185 := n9_; have NB185_178 := n10_; have NB182_185 := n11_; have NB185_182 := n12_; clear n0_ n1_ n2_ n3_ n4_ n5_ n6_ n7_ n8_ n9_ n10_ n11_ n12_; clear hb hbox hg; have hnb101 := NB185_160.out; have hnc101 := NB160_185.out; have hnb102 := NB185_178.out; have hnc102 := NB178_185.out; have hnb103 := NB185_182.out; have hnc103 := NB182_185.out; have hcz104_0 : w100.cell? ⟨gb185, 0, none⟩ = some (.string (⟨#[]⟩ : ByteArray)) := (blk_cell BK185.out 0).trans rfl; have hfz104_0 := blk_frozen BK185.out 0) | ((with_reducible refine gate_callee (f := 22) rfl ?_); refine goesL_ (some 222) rfl rfl Try.func22 (by kernel_rfl) rfl #[.int .i64 2, .int .i64 16, .string a4] rfl (by (try simp only [List.map_toArray, List.map_cons, List.map_nil]); first | done | rfl | (simp only [List.length_drop, List.length_take]; rfl)) ?_; (with_reducible refine (escutcheonref14_Fixed.calls 2 16 a4 t186 t187 _ A83.out).mono ?_); rintro e w' ⟨rfl, ⟨nd, rfl⟩⟩; refine ⟨_, rfl, ?_⟩) | ((with_reducible refine gate_callee (f := 16) rfl ?_); refine goesL_ (some 227) rfl rfl Try.func16 (by kernel_rfl) rfl #[.string a4] rfl (by (try simp only [List.map_toArray, List.map_cons, List.map_nil]); first | done | rfl | (simp only [List.length_drop, List.length_take]; rfl)) ?_; (with_reducible refine (hello_GetProof.calls a4 t188 t189 _ A84.out).mono ?_); rintro e w105 ⟨rfl, hb⟩; refine ⟨_, rfl, ?_⟩; have n0_ := Aside0.mk (blk_below (g := gb160) (o := .cells #[.string a0_0, .string a0_1] 25 (0, 0)) (by (with_reducible repeat (first | refine blk_drewN ?_ _ | refine blk_drew ?_ | refine blk_alloc ?_ _)); refine blk_far ?_ NB160_185.out _; (with_reducible repeat (first | refine blk_drewN ?_ _ | refine blk_drew ?_ | refine blk_alloc ?_ _)); exact BK160.out) hb); have n1_ := Aside0.mk (blk_below (g := gb178) (o := .cells #[.string t175, .string t176] 25 (0, 0)) (by (with_reducible repeat (first | refine blk_drewN ?_ _ | refine blk_drew ?_ | refine blk_alloc ?_ _)); refine blk_far ?_ NB178_185.out _; (with_reducible repeat (first | refine blk_drewN ?_ _ | refine blk_drew ?_ | refine blk_alloc ?_ _)); exact BK178.out) hb); have n2_ := Aside0.mk (blk_below (g := gb182) (o := .cells #[.string t179, .string t180] 25 (0, 0)) (by (with_reducible repeat (first | refine blk_drewN ?_ _ | refine blk_drew ?_ | refine blk_alloc ?_ _)); refine blk_far ?_ NB182_185.out _; (with_reducible repeat (first | refine blk_drewN ?_ _ | refine blk_drew ?_ | refine blk_alloc ?_ _)); exact BK182.out) hb); have n3_ := Aside0.mk (blk_below (g := gb185) (o := .cells #[.string t183] 38 (0, 0)) (by (with_reducible repeat (first | refine blk_drewN ?_ _ | refine blk_drew ?_ | refine blk_alloc ?_ _)); refine blk_put (cs := #[.string (⟨#[]⟩ : ByteArray)]) ?_ 0 _ rfl; (with_reducible repeat (first | refine blk_drewN ?_ _ | refine blk_drew ?_ | refine blk_alloc ?_ _)); exact BK185.out) hb); have n4_ := Aside0.mk (below_step (by repeat (first | (with_reducible first | exact HB.out | apply below_alloc | apply pw_below_drewN | apply below_drew1 | refine below_set ?_ GE160.out | refine below_set ?_ GE178.out | refine below_set ?_ GE182.out | refine below_set ?_ GE185.out) | exact HB.out)) hb); clear BK160; clear BK178; clear BK182; clear BK185; clear HB; have BK160 := n0_; have BK178 := n1_; have BK182 := n2_; have BK185 := n3_; have HB := n4_; clear n0_ n1_ n2_ n3_ n4_; (try clear hb); (try clear hb2); (try clear hk); (try clear hi)) | ((with_reducible refine gate_dst (N := 32) rfl ?_); (try (refine gate_guard (by rfl) ?_; dsimp only)); refine box_event ?hg (N := 32) ?hd (cs := #[.string (⟨#[]⟩ : ByteArray)]) (t := 34) ?hr ?_; (case hd => rfl); (case hg => rfl); (case hr => first | (go_simp; done) | (go_simp; rfl)); intro gb190 hg w106 hbox hb; have n0_ := Aside0.mk (blk_below (g := gb160) (o := .cells #[.string a0_0, .string a0_1] 25 (0, 0)) (by (with_reducible repeat (first | refine blk_drewN ?_ _ | refine blk_drew ?_ | refine blk_alloc ?_ _)); exact BK160.out) hb); have n1_ := Aside0.mk (blk_below (g := gb178) (o := .cells #[.string t175, .string t176] 25 (0, 0)) (by (with_reducible repeat (first | refine blk_drewN ?_ _ | refine blk_drew ?_ | refine blk_alloc ?_ _)); exact BK178.out) hb); have n2_ := Aside0.mk (blk_below (g := gb182) (o := .cells #[.string t179, .string t180] 25 (0, 0)) (by (with_reducible repeat (first | refine blk_drewN ?_ _ | refine blk_drew ?_ | refine blk_alloc ?_ _)); exact BK182.out) hb); have n3_ := Aside0.mk (blk_below (g := gb185) (o := .cells #[.string t183] 38 (0, 0)) (by (with_reducible repeat (first | refine blk_drewN ?_ _ | refine blk_drew ?_ | refine blk_alloc ?_ _)); exact BK185.out) hb); have n4_ := Aside0.mk (below_step (by repeat (first | (with_reducible first | exact HB.out | apply below_alloc | apply pw_below_drewN | apply below_drew1 | refine below_set ?_ GE160.out | refine below_set ?_ GE178.out | refine below_set ?_ GE182.out | refine below_set ?_ GE185.out) | exact HB.out)) hb); have n5_ := Aside0.mk (hbox); have n6_ := Aside0.mk ((by rw [hg]; exact (below_size (by repeat (first | (with_reducible first | exact HB.out | apply below_alloc | apply pw_below_drewN | apply below_drew1 | refine below_set ?_ GE160.out | refine below_set ?_ GE178.out | refine below_set ?_ GE182.out | refine below_set ?_ GE185.out) | exact HB.out))) : w.heap.size ≤ gb190)); have n7_ := Aside0.mk ((by rw [hg]; exact (below_size (by repeat (first | (with_reducible first | exact HB.out | apply below_alloc | apply pw_below_drewN | apply below_drew1 | refine below_set ?_ GE160.out | refine below_set ?_ GE178.out | refine below_set ?_ GE182.out | refine below_set ?_ GE185.out) | exact HB.out))) : w.heap.size ≤ gb190)); have n8_ := Aside0.mk ((by rw [hg]; exact Nat.ne_of_lt (blk_lt (g := gb160) (o := .cells #[.string a0_0, .string a0_1] 25 (0, 0)) (by (with_reducible repeat (first | refine blk_drewN ?_ _ | refine blk_drew ?_ | refine blk_alloc ?_ _)); exact BK160.out)) : gb160 ≠ gb190)); have n9_ := Aside0.mk ((by rw [hg]; exact Nat.ne_of_gt (blk_lt (g := gb160) (o := .cells #[.string a0_0, .string a0_1] 25 (0, 0)) (by (with_reducible repeat (first | refine blk_drewN ?_ _ | refine blk_drew ?_ | refine blk_alloc ?_ _)); exact BK160.out)) : gb190 ≠ gb160)); have n10_ := Aside0.mk ((by rw [hg]; exact Nat.ne_of_lt (blk_lt (g := gb178) (o := .cells #[.string t175, .string t176] 25 (0, 0)) (by (with_reducible repeat (first | refine blk_drewN ?_ _ | refine blk_drew ?_ | refine blk_alloc ?_ _)); exact BK178.out)) : gb178 ≠ gb190)); have n11_ := Aside0.mk ((by rw [hg]; exact Nat.ne_of_gt (blk_lt (g := gb178) (o := .cells #[.string t175, .string t176] 25 (0, 0)) (by (with_reducible repeat (first | refine blk_drewN ?_ _ | refine blk_drew ?_ | refine blk_alloc ?_ _)); exact BK178.out)) : gb190 ≠ gb178)); have n12_ := Aside0.mk ((by rw [hg]; exact Nat.ne_of_lt (blk_lt (g := gb182) (o := .cells #[.string t179, .string t180] 25 (0, 0)) (by (with_reducible repeat (first | refine blk_drewN ?_ _ | refine blk_drew ?_ | refine blk_alloc ?_ _)); exact BK182.out)) : gb182 ≠ gb190)); have n13_ := Aside0.mk ((by rw [hg]; exact Nat.ne_of_gt (blk_lt (g := gb182) (o := .cells #[.string t179, .string t180] 25 (0, 0)) (by (with_reducible repeat (first | refine blk_drewN ?_ _ | refine blk_drew ?_ | refine blk_alloc ?_ _)); exact BK182.out)) : gb190 ≠ gb182)); have n14_ := Aside0.mk ((by rw [hg]; exact Nat.ne_of_lt (blk_lt (g := gb185) (o := .cells #[.string t183] 38 (0, 0)) (by (with_reducible repeat (first | refine blk_drewN ?_ _ | refine blk_drew ?_ | refine blk_alloc ?_ _)); exact BK185.out)) : gb185 ≠ gb190)); have n15_ := Aside0.mk ((by rw [hg]; exact Nat.ne_of_gt (blk_lt (g := gb185) (o := .cells #[.string t183] 38 (0, 0)) (by (with_reducible repeat (first | refine blk_drewN ?_ _ | refine blk_drew ?_ | refine blk_alloc ?_ _)); exact BK185.out)) : gb190 ≠ gb185)); clear BK160; clear BK178; clear BK182; clear BK185; clear HB; have BK160 := n0_; have BK178 := n1_; have BK182 := n2_; have BK185 := n3_; have HB := n4_; have BK190 := n5_; have GW190 := n6_; have GE190 := n7_; have NB160_190 := n8_; have NB190_160 := n9_; have NB178_190 := n10_; have NB190_178 := n11_; have NB182_190 := n12_; have NB190_182 := n13_; have NB185_190 := n14_; have NB190_185 := n15_; clear n0_ n1_ n2_ n3_ n4_ n5_ n6_ n7_ n8_ n9_ n10_ n11_ n12_ n13_ n14_ n15_; clear hb hbox hg; have hnb107 := NB190_160.out; have hnc107 := NB160_190.out; have hnb108 := NB190_178.out; have hnc108 := NB178_190.out; have hnb109 := NB190_182.out; have hnc109 := NB182_190.out; have hnb110 := NB190_185.out; have hnc110 := NB185_190.out; have hcz111_0 : w106.cell? ⟨gb190, 0, none⟩ = some (.string (⟨#[]⟩ : ByteArray)) := (blk_cell BK190.out 0).trans rfl; have hfz111_0 := blk_frozen BK190.out 0) | ((with_reducible refine gate_callee (f := 22) rfl ?_); refine goesL_ (some 232) rfl rfl Try.func22 (by kernel_rfl) rfl #[.int .i64 3, .int .i64 32, .string a4] rfl (by (try simp only [List.map_toArray, List.map_cons, List.map_nil]); first | done | rfl | (simp only [List.length_drop, List.length_take]; rfl)) ?_; (with_reducible refine (escutcheonref14_Fixed.calls 3 32 a4 t191 t192 _ A85.out).mono ?_); rintro e w' ⟨rfl, ⟨nd, rfl⟩⟩; refine ⟨_, rfl, ?_⟩) | ((with_reducible refine gate_callee (f := 17) rfl ?_); refine goesL_ (some 237) rfl rfl Try.func17 (by kernel_rfl) rfl #[.string a4] rfl (by (try simp only [List.map_toArray, List.map_cons, List.map_nil]); first | done | rfl | (simp only [List.length_drop, List.length_take]; rfl)) ?_; (with_reducible refine (hello_GetFinish.calls a4 t193 t194 _ A86.out).mono ?_); rintro e w112 ⟨rfl, hb⟩; refine ⟨_, rfl, ?_⟩; have n0_ := Aside0.mk (blk_below (g := gb160) (o := .cells #[.string a0_0, .string a0_1] 25 (0, 0)) (by (with_reducible repeat (first | refine blk_drewN ?_ _ | refine blk_drew ?_ | refine blk_alloc ?_ _)); refine blk_far ?_ NB160_190.out _; (with_reducible repeat (first | refine blk_drewN ?_ _ | refine blk_drew ?_ | refine blk_alloc ?_ _)); exact BK160.out) hb); have n1_ := Aside0.mk (blk_below (g := gb178) (o := .cells #[.string t175, .string t176] 25 (0, 0)) (by (with_reducible repeat (first | refine blk_drewN ?_ _ | refine blk_drew ?_ | refine blk_alloc ?_ _)); refine blk_far ?_ NB178_190.out _; (with_reducible repeat (first | refine blk_drewN ?_ _ | refine blk_drew ?_ | refine blk_alloc ?_ _)); exact BK178.out) hb); have n2_ := Aside0.mk (blk_below (g := gb182) (o := .cells #[.string t179, .string t180] 25 (0, 0)) (by (with_reducible repeat (first | refine blk_drewN ?_ _ | refine blk_drew ?_ | refine blk_alloc ?_ _)); refine blk_far ?_ NB182_190.out _; (with_reducible repeat (first | refine blk_drewN ?_ _ | refine blk_drew ?_ | refine blk_alloc ?_ _)); exact BK182.out) hb); have n3_ := Aside0.mk (blk_below (g := gb185) (o := .cells #[.string t183] 38 (0, 0)) (by (with_reducible repeat (first | refine blk_drewN ?_ _ | refine blk_drew ?_ | refine blk_alloc ?_ _)); refine blk_far ?_ NB185_190.out _; (with_reducible repeat (first | refine blk_drewN ?_ _ | refine blk_drew ?_ | refine blk_alloc ?_ _)); exact BK185.out) hb); have n4_ := Aside0.mk (blk_below (g := gb190) (o := .cells #[.string t188] 34 (0, 0)) (by (with_reducible repeat (first | refine blk_drewN ?_ _ | refine blk_drew ?_ | refine blk_alloc ?_ _)); refine blk_put (cs := #[.string (⟨#[]⟩ : ByteArray)]) ?_ 0 _ rfl; (with_reducible repeat (first | refine blk_drewN ?_ _ | refine blk_drew ?_ | refine blk_alloc ?_ _)); exact BK190.out) hb); have n5_ := Aside0.mk (below_step (by repeat (first | (with_reducible first | exact HB.out | apply below_alloc | apply pw_below_drewN | apply below_drew1 | refine below_set ?_ GE160.out | refine below_set ?_ GE178.out | refine below_set ?_ GE182.out | refine below_set ?_ GE185.out | refine below_set ?_ GE190.out) | exact HB.out)) hb); clear BK160; clear BK178; clear BK182; clear BK185; clear BK190; clear HB; have BK160 := n0_; have BK178 := n1_; have BK182 := n2_; have BK185 := n3_; have BK190 := n4_; have HB := n5_; clear n0_ n1_ n2_ n3_ n4_ n5_; (try clear hb); (try clear hb2); (try clear hk); (try clear hi)) | ((with_reducible refine gate_dst (N := 36) rfl ?_); (try (refine gate_guard (by rfl) ?_; dsimp only)); refine box_event ?hg (N := 36) ?hd (cs := #[.string (⟨#[]⟩ : ByteArray)]) (t := 43) ?hr ?_; (case hd => rfl); (case hg => rfl); (case hr => first | (go_simp; done) | (go_simp; rfl)); intro gb195 hg w113 hbox hb; have n0_ := Aside0.mk (blk_below (g := gb160) (o := .cells #[.string a0_0, .string a0_1] 25 (0, 0)) (by (with_reducible repeat (first | refine blk_drewN ?_ _ | refine blk_drew ?_ | refine blk_alloc ?_ _)); exact BK160.out) hb); have n1_ := Aside0.mk (blk_below (g := gb178) (o := .cells #[.string t175, .string t176] 25 (0, 0)) (by (with_reducible repeat (first | refine blk_drewN ?_ _ | refine blk_drew ?_ | refine blk_alloc ?_ _)); exact BK178.out) hb); have n2_ := Aside0.mk (blk_below (g := gb182) (o := .cells #[.string t179, .string t180] 25 (0, 0)) (by (with_reducible repeat (first | refine blk_drewN ?_ _ | refine blk_drew ?_ | refine blk_alloc ?_ _)); exact BK182.out) hb); have n3_ := Aside0.mk (blk_below (g := gb185) (o := .cells #[.string t183] 38 (0, 0)) (by (with_reducible repeat (first | refine blk_drewN ?_ _ | refine blk_drew ?_ | refine blk_alloc ?_ _)); exact BK185.out) hb); have n4_ := Aside0.mk (blk_below (g := gb190) (o := .cells #[.string t188] 34 (0, 0)) (by (with_reducible repeat (first | refine blk_drewN ?_ _ | refine blk_drew ?_ | refine blk_alloc ?_ _)); exact BK190.out) hb); have n5_ := Aside0.mk (below_step (by repeat (first | (with_reducible first | exact HB.out | apply below_alloc | apply pw_below_drewN | apply below_drew1 | refine below_set ?_ GE160.out | refine below_set ?_ GE178.out | refine below_set ?_ GE182.out | refine below_set ?_ GE185.out | refine below_set ?_ GE190.out) | exact HB.out)) hb); have n6_ := Aside0.mk (hbox); have n7_ := Aside0.mk ((by rw [hg]; exact (below_size (by repeat (first | (with_reducible first | exact HB.out | apply below_alloc | apply pw_below_drewN | apply below_drew1 | refine below_set ?_ GE160.out | refine below_set ?_ GE178.out | refine below_set ?_ GE182.out | refine below_set ?_ GE185.out | refine below_set ?_ GE190.out) | exact HB.out))) : w.heap.size ≤ gb195)); have n8_ := Aside0.mk ((by rw [hg]; exact (below_size (by repeat (first | (with_reducible first | exact HB.out | apply below_alloc | apply pw_below_drewN | apply below_drew1 | refine below_set ?_ GE160.out | refine below_set ?_ GE178.out | refine below_set ?_ GE182.out | refine below_set ?_ GE185.out | refine below_set ?_ GE190.out) | exact HB.out))) : w.heap.size ≤ gb195)); have n9_ := Aside0.mk ((by rw [hg]; exact Nat.ne_of_lt (blk_lt (g := gb160) (o := .cells #[.string a0_0, .string a0_1] 25 (0, 0)) (by (with_reducible repeat (first | refine blk_drewN ?_ _ | refine blk_drew ?_ | refine blk_alloc ?_ _)); exact BK160.out)) : gb160 ≠ gb195)); have n10_ := Aside0.mk ((by rw [hg]; exact Nat.ne_of_gt (blk_lt (g := gb160) (o := .cells #[.string a0_0, .string a0_1] 25 (0, 0)) (by (with_reducible repeat (first | refine blk_drewN ?_ _ | refine blk_drew ?_ | refine blk_alloc ?_ _)); exact BK160.out)) : gb195 ≠ gb160)); have n11_ := Aside0.mk ((by rw [hg]; exact Nat.ne_of_lt (blk_lt (g := gb178) (o := .cells #[.string t175, .string t176] 25 (0, 0)) (by (with_reducible repeat (first | refine blk_drewN ?_ _ | refine blk_drew ?_ | refine blk_alloc ?_ _)); exact BK178.out)) : gb178 ≠ gb195)); have n12_ := Aside0.mk ((by rw [hg]; exact Nat.ne_of_gt (blk_lt (g := gb178) (o := .cells #[.string t175, .string t176] 25 (0, 0)) (by (with_reducible repeat (first | refine blk_drewN ?_ _ | refine blk_drew ?_ | refine blk_alloc ?_ _)); exact BK178.out)) : gb195 ≠ gb178)); have n13_ := Aside0.mk ((by rw [hg]; exact Nat.ne_of_lt (blk_lt (g := gb182) (o := .cells #[.string t179, .string t180] 25 (0, 0)) (by (with_reducible repeat (first | refine blk_drewN ?_ _ | refine blk_drew ?_ | refine blk_alloc ?_ _)); exact BK182.out)) : gb182 ≠ gb195)); have n14_ := Aside0.mk ((by rw [hg]; exact Nat.ne_of_gt (blk_lt (g := gb182) (o := .cells #[.string t179, .string t180] 25 (0, 0)) (by (with_reducible repeat (first | refine blk_drewN ?_ _ | refine blk_drew ?_ | refine blk_alloc ?_ _)); exact BK182.out)) : gb195 ≠ gb182)); have n15_ := Aside0.mk ((by rw [hg]; exact Nat.ne_of_lt (blk_lt (g := gb185) (o := .cells #[.string t183] 38 (0, 0)) (by (with_reducible repeat (first | refine blk_drewN ?_ _ | refine blk_drew ?_ | refine blk_alloc ?_ _)); exact BK185.out)) : gb185 ≠ gb195)); have n16_ := Aside0.mk ((by rw [hg]; exact Nat.ne_of_gt (blk_lt (g := gb185) (o := .cells #[.string t183] 38 (0, 0)) (by (with_reducible repeat (first | refine blk_drewN ?_ _ | refine blk_drew ?_ | refine blk_alloc ?_ _)); exact BK185.out)) : gb195 ≠ gb185)); have n17_ := Aside0.mk ((by rw [hg]; exact Nat.ne_of_lt (blk_lt (g := gb190) (o := .cells #[.string t188] 34 (0, 0)) (by (with_reducible repeat (first | refine blk_drewN ?_ _ | refine blk_drew ?_ | refine blk_alloc ?_ _)); exact BK190.out)) : gb190 ≠ gb195)); have n18_ := Aside0.mk ((by rw [hg]; exact Nat.ne_of_gt (blk_lt (g := gb190) (o := .cells #[.string t188] 34 (0, 0)) (by (with_reducible repeat (first | refine blk_drewN ?_ _ | refine blk_drew ?_ | refine blk_alloc ?_ _)); exact BK190.out)) : gb195 ≠ gb190)); clear BK160; clear BK178; clear BK182; clear BK185; clear BK190; clear HB; have BK160 := n0_; have BK178 := n1_; have BK182 := n2_; have BK185 := n3_; have BK190 := n4_; have HB := n5_; have BK195 := n6_; have GW195 := n7_; have GE195 := n8_; have NB160_195 := n9_; have NB195_160 := n10_; have NB178_195 := n11_; have NB195_178 := n12_; have NB182_195 := n13_; have NB195_182 := n14_; have NB185_195 := n15_; have NB195_185 := n16_; have NB190_195 := n17_; have NB195_190 := n18_; clear n0_ n1_ n2_ n3_ n4_ n5_ n6_ n7_ n8_ n9_ n10_ n11_ n12_ n13_ n14_ n15_ n16_ n17_ n18_; clear hb hbox hg; have hnb114 := NB195_160.out; have hnc114 := NB160_195.out; have hnb115 := NB195_178.out; have hnc115 := NB178_195.out; have hnb116 := NB195_182.out; have hnc116 := NB182_195.out; have hnb117 := NB195_185.out; have hnc117 := NB185_195.out; have hnb118 := NB195_190.out; have hnc118 := NB190_195.out; have hcz119_0 : w113.cell? ⟨gb195, 0, none⟩ = some (.string (⟨#[]⟩ : ByteArray)) := (blk_cell BK195.out 0).trans rfl; have hfz119_0 := blk_frozen BK195.out 0) | ((with_reducible refine gate_callee (f := 22) rfl ?_); refine goesL_ (some 242) rfl rfl Try.func22 (by kernel_rfl) rfl #[.int .i64 4, .int .i64 32, .string a4] rfl (by (try simp only [List.map_toArray, List.map_cons, List.map_nil]); first | done | rfl | (simp only [List.length_drop, List.length_take]; rfl)) ?_; (with_reducible refine (escutcheonref14_Fixed.calls 4 32 a4 t196 t197 _ A87.out).mono ?_); rintro e w' ⟨rfl, ⟨nd, rfl⟩⟩; refine ⟨_, rfl, ?_⟩) | ((with_reducible refine gate_callee (f := 14) rfl ?_); refine goesL_ (some 247) rfl rfl Try.func14 (by kernel_rfl) rfl #[.string a4] rfl (by (try simp only [List.map_toArray, List.map_cons, List.map_nil]); first | done | rfl | (simp only [List.length_drop, List.length_take]; rfl)) ?_; (with_reducible refine (hello_GetRecord.calls a4 t198 t199 _ A88.out).mono ?_); rintro e w120 ⟨rfl, hb⟩; refine ⟨_, rfl, ?_⟩; have n0_ := Aside0.mk (blk_below (g := gb160) (o := .cells #[.string a0_0, .string a0_1] 25 (0, 0)) (by (with_reducible repeat (first | refine blk_drewN ?_ _ | refine blk_drew ?_ | refine blk_alloc ?_ _)); refine blk_far ?_ NB160_195.out _; (with_reducible repeat (first | refine blk_drewN ?_ _ | refine blk_drew ?_ | refine blk_alloc ?_ _)); exact BK160.out) hb); have n1_ := Aside0.mk (blk_below (g := gb178) (o := .cells #[.string t175, .string t176] 25 (0, 0)) (by (with_reducible repeat (first | refine blk_drewN ?_ _ | refine blk_drew ?_ | refine blk_alloc ?_ _)); refine blk_far ?_ NB178_195.out _; (with_reducible repeat (first | refine blk_drewN ?_ _ | refine blk_drew ?_ | refine blk_alloc ?_ _)); exact BK178.out) hb); have n2_ := Aside0.mk (blk_below (g := gb182) (o := .cells #[.string t179, .string t180] 25 (0, 0)) (by (with_reducible repeat (first | refine blk_drewN ?_ _ | refine blk_drew ?_ | refine blk_alloc ?_ _)); refine blk_far ?_ NB182_195.out _; (with_reducible repeat (first | refine blk_drewN ?_ _ | refine blk_drew ?_ | refine blk_alloc ?_ _)); exact BK182.out) hb); have n3_ := Aside0.mk (blk_below (g := gb185) (o := .cells #[.string t183] 38 (0, 0)) (by (with_reducible repeat (first | refine blk_drewN ?_ _ | refine blk_drew ?_ | refine blk_alloc ?_ _)); refine blk_far ?_ NB185_195.out _; (with_reducible repeat (first | refine blk_drewN ?_ _ | refine blk_drew ?_ | refine blk_alloc ?_ _)); exact BK185.out) hb); have n4_ := Aside0.mk (blk_below (g := gb190) (o := .cells #[.string t188] 34 (0, 0)) (by (with_reducible repeat (first | refine blk_drewN ?_ _ | refine blk_drew ?_ | refine blk_alloc ?_ _)); refine blk_far ?_ NB190_195.out _; (with_reducible repeat (first | refine blk_drewN ?_ _ | refine blk_drew ?_ | refine blk_alloc ?_ _)); exact BK190.out) hb); have n5_ := Aside0.mk (blk_below (g := gb195) (o := .cells #[.string t193] 43 (0, 0)) (by (with_reducible repeat (first | refine blk_drewN ?_ _ | refine blk_drew ?_ | refine blk_alloc ?_ _)); refine blk_put (cs := #[.string (⟨#[]⟩ : ByteArray)]) ?_ 0 _ rfl; (with_reducible repeat (first | refine blk_drewN ?_ _ | refine blk_drew ?_ | refine blk_alloc ?_ _)); exact BK195.out) hb); have n6_ := Aside0.mk (below_step (by repeat (first | (with_reducible first | exact HB.out | apply below_alloc | apply pw_below_drewN | apply below_drew1 | refine below_set ?_ GE160.out | refine below_set ?_ GE178.out | refine below_set ?_ GE182.out | refine below_set ?_ GE185.out | refine below_set ?_ GE190.out | refine below_set ?_ GE195.out) | exact HB.out)) hb); clear BK160; clear BK178; clear BK182; clear BK185; clear BK190; clear BK195; clear HB; have BK160 := n0_; have BK178 := n1_; have BK182 := n2_; have BK185 := n3_; have BK190 := n4_; have BK195 := n5_; have HB := n6_; clear n0_ n1_ n2_ n3_ n4_ n5_ n6_; (try clear hb); (try clear hb2); (try clear hk); (try clear hi)))
                            (try simp only [Act.put, List.setIfInBounds_toArray, List.set_cons_zero, List.set_cons_succ])
                            go_cut [42] (fun v42 wc => ∃ (kq : Nat) (x42_88 : Bool), v42 = .bool x42_88 ∧ Aside0 (escutcheonlaw15_HelloTells.j5 kq a4 x23_75 t177 t181 t184 t186 t187 t189 t191 t192 t194 t196 t197 t198 t199 x42_88 t175 t176 t179 t180 t183 t188 t193 = some r) ∧ Aside0 (kq ≤ kj75) ∧ Aside0 (wc.heap[gb160]? = some (.cells #[.string a0_0, .string a0_1] 25 (0, 0))) ∧ Aside0 (wc.heap[gb178]? = some (.cells #[.string t175, .string t176] 25 (0, 0))) ∧ Aside0 (wc.heap[gb182]? = some (.cells #[.string t179, .string t180] 25 (0, 0))) ∧ Aside0 (wc.heap[gb185]? = some (.cells #[.string t183] 38 (0, 0))) ∧ Aside0 (wc.heap[gb190]? = some (.cells #[.string t188] 34 (0, 0))) ∧ Aside0 (wc.heap[gb195]? = some (.cells #[.string t193] 43 (0, 0))) ∧ Aside0 (Below w.heap.size w wc))
                            case first => as_aux_lemma =>
                              have H := HC89.out
                              clear HC89
                              by_cases c121 : (a4.size : Int) ≥ 25
                              · as_aux_lemma =>
                                rw [if_pos c121] at H
                                have c121b0 : decide (25 ≤ (a4.size : Int)) = true := decide_eq_true c121
                                have c121b1 : decide (25 ≤ a4.size) = true := decide_eq_true (by omega)
                                clear c121
                                (first | rw [c121b0] | (simp only [i64_w, i32_w]; rw [c121b0]) | skip)
                                by_cases c122 : 0 < (a4.size : Int)
                                · as_aux_lemma =>
                                  rw [if_pos c122] at H
                                  have c122b0 : decide (0 < (a4.size : Int)) = true := decide_eq_true c122
                                  have c122b1 : decide (0 < a4.size) = true := decide_eq_true (by omega)
                                  clear c122
                                  by_cases c124 : (bt a4 0) = 5
                                  · as_aux_lemma =>
                                    rw [if_pos c124] at H
                                    have c124b0 : ((bt a4 0) == 5) = true := beq_iff_eq.mpr c124
                                    have c124b1 : ((bt a4 0) != 5) = false := bne_eq_false_iff_eq.mpr c124
                                    clear c124
                                    have H' := Aside0.mk H
                                    clear H
                                    have p123 : 0 ≤ (0 : Int) := (by omega)
                                    have q123 : 0 < a4.size := (by have : (0 : Int) < (a4.size : Int) := of_decide_eq_true (by first | (with_reducible assumption) | assumption); omega)
                                    have hx123 : ∀ h : 0 < a4.size, ((a4[0]'h).toNat : Int) = bt a4 0 := bt_at a4 0
                                    clear p123
                                    have qi123 : (0 < (a4.size : Int)) = True := eq_true (of_decide_eq_true (by first | (with_reducible assumption) | assumption))
                                    replace q123 := eq_true q123
                                    go_wp2
                                    go_meet
                                    case rel => exact ⟨_, (decide ((a4.size : Int) ≤ 2200)), (by first | rfl | (simp; done) | (simp [*]; done)), H', ⟨by have := HJ5.out; have := HJ31.out; have := HJ47.out; have := HJ69.out; have := HJ75.out; first | omega | exact Nat.le_refl _⟩, ⟨by (with_reducible repeat (first | refine blk_drewN ?_ _ | refine blk_drew ?_ | refine blk_alloc ?_ _)); exact BK160.out⟩, ⟨by (with_reducible repeat (first | refine blk_drewN ?_ _ | refine blk_drew ?_ | refine blk_alloc ?_ _)); exact BK178.out⟩, ⟨by (with_reducible repeat (first | refine blk_drewN ?_ _ | refine blk_drew ?_ | refine blk_alloc ?_ _)); exact BK182.out⟩, ⟨by (with_reducible repeat (first | refine blk_drewN ?_ _ | refine blk_drew ?_ | refine blk_alloc ?_ _)); exact BK185.out⟩, ⟨by (with_reducible repeat (first | refine blk_drewN ?_ _ | refine blk_drew ?_ | refine blk_alloc ?_ _)); exact BK190.out⟩, ⟨by (with_reducible repeat (first | refine blk_drewN ?_ _ | refine blk_drew ?_ | refine blk_alloc ?_ _)); exact BK195.out⟩, ⟨by repeat (first | (with_reducible first | exact HB.out | apply below_alloc | apply pw_below_drewN | apply below_drew1 | refine below_set ?_ GE160.out | refine below_set ?_ GE178.out | refine below_set ?_ GE182.out | refine below_set ?_ GE185.out | refine below_set ?_ GE190.out | refine below_set ?_ GE195.out) | exact HB.out)⟩⟩
                                  · as_aux_lemma =>
                                    rw [if_neg c124] at H
                                    have c124b0 : ((bt a4 0) == 5) = false := beq_eq_false_iff_ne.mpr c124
                                    have c124b1 : ((bt a4 0) != 5) = true := bne_iff_ne.mpr c124
                                    have H' := Aside0.mk H
                                    clear H
                                    have p123 : 0 ≤ (0 : Int) := (by omega)
                                    have q123 : 0 < a4.size := (by have : (0 : Int) < (a4.size : Int) := of_decide_eq_true (by first | (with_reducible assumption) | assumption); omega)
                                    have hx123 : ∀ h : 0 < a4.size, ((a4[0]'h).toNat : Int) = bt a4 0 := bt_at a4 0
                                    clear p123
                                    have qi123 : (0 < (a4.size : Int)) = True := eq_true (of_decide_eq_true (by first | (with_reducible assumption) | assumption))
                                    replace q123 := eq_true q123
                                    go_wp2
                                    go_meet
                                    case rel => exact ⟨_, (false), (by first | rfl | (simp; done) | (simp [*]; done)), H', ⟨by have := HJ5.out; have := HJ31.out; have := HJ47.out; have := HJ69.out; have := HJ75.out; first | omega | exact Nat.le_refl _⟩, ⟨by (with_reducible repeat (first | refine blk_drewN ?_ _ | refine blk_drew ?_ | refine blk_alloc ?_ _)); exact BK160.out⟩, ⟨by (with_reducible repeat (first | refine blk_drewN ?_ _ | refine blk_drew ?_ | refine blk_alloc ?_ _)); exact BK178.out⟩, ⟨by (with_reducible repeat (first | refine blk_drewN ?_ _ | refine blk_drew ?_ | refine blk_alloc ?_ _)); exact BK182.out⟩, ⟨by (with_reducible repeat (first | refine blk_drewN ?_ _ | refine blk_drew ?_ | refine blk_alloc ?_ _)); exact BK185.out⟩, ⟨by (with_reducible repeat (first | refine blk_drewN ?_ _ | refine blk_drew ?_ | refine blk_alloc ?_ _)); exact BK190.out⟩, ⟨by (with_reducible repeat (first | refine blk_drewN ?_ _ | refine blk_drew ?_ | refine blk_alloc ?_ _)); exact BK195.out⟩, ⟨by repeat (first | (with_reducible first | exact HB.out | apply below_alloc | apply pw_below_drewN | apply below_drew1 | refine below_set ?_ GE160.out | refine below_set ?_ GE178.out | refine below_set ?_ GE182.out | refine below_set ?_ GE185.out | refine below_set ?_ GE190.out | refine below_set ?_ GE195.out) | exact HB.out)⟩⟩
                                · as_aux_lemma =>
                                  rw [if_neg c122] at H
                                  exact absurd H (by simp)
                              · as_aux_lemma =>
                                rw [if_neg c121] at H
                                have c121b0 : decide (25 ≤ (a4.size : Int)) = false := decide_eq_false c121
                                have c121b1 : decide (25 ≤ a4.size) = false := decide_eq_false (by omega)
                                clear c121
                                (first | rw [c121b0] | (simp only [i64_w, i32_w]; rw [c121b0]) | skip)
                                have H' := Aside0.mk H
                                clear H
                                go_wp2
                                go_meet
                                case rel => exact ⟨_, (false), (by first | rfl | (simp; done) | (simp [*]; done)), H', ⟨by have := HJ5.out; have := HJ31.out; have := HJ47.out; have := HJ69.out; have := HJ75.out; first | omega | exact Nat.le_refl _⟩, ⟨by (with_reducible repeat (first | refine blk_drewN ?_ _ | refine blk_drew ?_ | refine blk_alloc ?_ _)); exact BK160.out⟩, ⟨by (with_reducible repeat (first | refine blk_drewN ?_ _ | refine blk_drew ?_ | refine blk_alloc ?_ _)); exact BK178.out⟩, ⟨by (with_reducible repeat (first | refine blk_drewN ?_ _ | refine blk_drew ?_ | refine blk_alloc ?_ _)); exact BK182.out⟩, ⟨by (with_reducible repeat (first | refine blk_drewN ?_ _ | refine blk_drew ?_ | refine blk_alloc ?_ _)); exact BK185.out⟩, ⟨by (with_reducible repeat (first | refine blk_drewN ?_ _ | refine blk_drew ?_ | refine blk_alloc ?_ _)); exact BK190.out⟩, ⟨by (with_reducible repeat (first | refine blk_drewN ?_ _ | refine blk_drew ?_ | refine blk_alloc ?_ _)); exact BK195.out⟩, ⟨by repeat (first | (with_reducible first | exact HB.out | apply below_alloc | apply pw_below_drewN | apply below_drew1 | refine below_set ?_ GE160.out | refine below_set ?_ GE178.out | refine below_set ?_ GE182.out | refine below_set ?_ GE185.out | refine below_set ?_ GE190.out | refine below_set ?_ GE195.out) | exact HB.out)⟩⟩
                            case rest => as_aux_lemma =>
                              clear HC89
                              try clear c1
                              try clear p1
                              try clear q1
                              try clear hx1
                              try clear qi1
                              try clear c2
                              try clear p2
                              try clear c4
                              try clear c5
                              try clear c6
                              try clear p6
                              try clear c7
                              try clear p7
                              try clear q7
                              try clear hx7
                              try clear qi7
                              try clear c8
                              try clear c8b0
                              try clear c8b1
                              try clear c9
                              try clear c10
                              try clear c10b0
                              try clear c10b1
                              try clear c11
                              try clear c12
                              try clear c12b0
                              try clear c12b1
                              try clear p12
                              try clear q12
                              try clear hx12
                              try clear qi12
                              try clear c13
                              try clear c14
                              try clear c14b0
                              try clear c14b1
                              try clear c15
                              try clear c16
                              try clear c16b0
                              try clear c16b1
                              try clear c17
                              try clear c18
                              try clear c18b0
                              try clear c18b1
                              try clear c19
                              try clear c20
                              try clear c21
                              try clear c22
                              try clear c23
                              try clear c41
                              try clear c41b0
                              try clear c41b1
                              try clear c42
                              try clear c42b0
                              try clear c42b1
                              try clear c42b2
                              try clear c43
                              try clear c43b0
                              try clear c43b1
                              try clear c43b2
                              try clear c44
                              try clear c44b0
                              try clear c44b1
                              try clear c44b2
                              try clear c45
                              try clear c45b0
                              try clear c45b1
                              try clear c45b2
                              try clear c46
                              try clear c46b0
                              try clear c46b1
                              try clear c47
                              try clear c49
                              try clear c50
                              try clear c50b0
                              try clear c50b1
                              try clear c50b2
                              try clear c51
                              try clear c51b0
                              try clear c51b1
                              try clear c52
                              try clear c53
                              try clear c53b0
                              try clear c53b1
                              try clear c53b2
                              try clear c54
                              try clear c54b0
                              try clear c54b1
                              try clear c55
                              try clear c55b0
                              try clear c55b1
                              try clear c56
                              try clear c57
                              try clear c57b0
                              try clear c57b1
                              try clear c57b2
                              try clear c58
                              try clear c59
                              try clear c59b0
                              try clear c59b1
                              try clear c59b2
                              try clear c60
                              try clear c60b0
                              try clear c60b1
                              try clear c61
                              try clear c62
                              try clear c62b0
                              try clear c62b1
                              try clear c62b2
                              try clear c63
                              try clear c63b0
                              try clear c63b1
                              try clear c64
                              try clear c64b0
                              try clear c64b1
                              try clear p64
                              try clear c65
                              try clear c66
                              try clear c66b0
                              try clear c66b1
                              try clear c66b2
                              try clear c67
                              try clear c68
                              try clear c68b0
                              try clear c68b1
                              try clear c68b2
                              try clear c69
                              try clear c71
                              try clear c71b0
                              try clear c71b1
                              try clear c72
                              try clear c72b0
                              try clear c72b1
                              try clear p73
                              try clear q73
                              try clear hx73
                              try clear qi73
                              try clear c74
                              try clear c74b0
                              try clear p75
                              try clear q75
                              try clear hx75
                              try clear qi75
                              try clear c77
                              try clear c78
                              try clear c78b0
                              try clear c78b1
                              try clear p79
                              try clear q79
                              try clear hx79
                              try clear qi79
                              try clear c92
                              try clear c96
                              try clear c97
                              try clear c101
                              try clear c102
                              try clear c103
                              try clear c107
                              try clear c108
                              try clear c109
                              try clear c110
                              try clear c114
                              try clear c115
                              try clear c116
                              try clear c117
                              try clear c118
                              try clear c121
                              try clear c121b0
                              try clear c121b1
                              try clear c122
                              try clear c122b0
                              try clear c122b1
                              try clear p123
                              try clear q123
                              try clear hx123
                              try clear qi123
                              try clear c124
                              try clear c124b0
                              try clear c124b1
                              try clear hcz104_0
                              try clear hcz111_0
                              try clear hcz119_0
                              try clear hcz11_0
                              try clear hcz11_1
                              try clear hcz13_0
                              try clear hcz13_1
                              try clear hcz15_0
                              try clear hcz15_1
                              try clear hcz17_0
                              try clear hcz17_1
                              try clear hcz19_0
                              try clear hcz19_1
                              try clear hcz21_0
                              try clear hcz21_1
                              try clear hcz33_0
                              try clear hcz33_1
                              try clear hcz35_0
                              try clear hcz35_1
                              try clear hcz93_0
                              try clear hcz93_1
                              try clear hcz98_0
                              try clear hcz98_1
                              try clear hcz9_0
                              try clear hcz9_1
                              try clear hfz104_0
                              try clear hfz111_0
                              try clear hfz119_0
                              try clear hfz11_0
                              try clear hfz11_1
                              try clear hfz13_0
                              try clear hfz13_1
                              try clear hfz15_0
                              try clear hfz15_1
                              try clear hfz17_0
                              try clear hfz17_1
                              try clear hfz19_0
                              try clear hfz19_1
                              try clear hfz21_0
                              try clear hfz21_1
                              try clear hfz33_0
                              try clear hfz33_1
                              try clear hfz35_0
                              try clear hfz35_1
                              try clear hfz93_0
                              try clear hfz93_1
                              try clear hfz98_0
                              try clear hfz98_1
                              try clear hfz9_0
                              try clear hfz9_1
                              try clear p123
                              try clear p2
                              try clear p6
                              try clear p64
                              try clear p7
                              try clear p73
                              try clear p75
                              try clear p79
                              try clear q123
                              try clear q7
                              try clear q73
                              try clear q75
                              try clear q79
                              obtain ⟨kq, x42_88, rfl, HA, HJ88, BK160, BK178, BK182, BK185, BK190, BK195, HB⟩ := hcut
                              cases kq with
                              | zero => exact absurd HA.out (by simp [escutcheonlaw15_HelloTells.j5])
                              | succ kj88 =>
                                have H := HA.out
                                clear HA
                                simp only [escutcheonlaw15_HelloTells.j5] at H
                                replace H := Option.bind_eq_some_iff.mp H
                                obtain ⟨t200, A1250, H⟩ := H
                                replace H : (if t200 = x23_75 then (if (t175.toList == t179.toList && (t176.toList == t180.toList)) = true then (if (t177 == t181) = true then (if t183.toList = t186.toList then (if (t184 == t187) = true then (if t188.toList = t191.toList then (if (t189 == t192) = true then (if t193.toList = t196.toList then (if (t194 == t197) = true then (if (t199 == x42_88) = true then (if x42_88 = true then (if 1 ≤ (a4.size : Int) then (if t198.toList = (a4.extract 1 a4.size).toList then (some true) else (none)) else (none)) else (some (t198.toList == ([] : List UInt8)))) else (none)) else (none)) else (none)) else (none)) else (none)) else (none)) else (none)) else (none)) else (none)) else (none)) = some r := H
                                have A125 := Aside0.mk A1250
                                clear A1250
                                by_cases c126 : t200 = x23_75
                                · as_aux_lemma =>
                                  rw [if_pos c126] at H
                                  have c126b0 : (t200 == x23_75) = true := beq_iff_eq.mpr c126
                                  have c126b1 : (t200 != x23_75) = false := bne_eq_false_iff_eq.mpr c126
                                  clear c126
                                  by_cases c127 : (t175.toList == t179.toList && (t176.toList == t180.toList)) = true
                                  · as_aux_lemma =>
                                    rw [if_pos c127] at H
                                    have c127b0 : (t175.toList == t179.toList && (t176.toList == t180.toList)) = true := c127
                                    (try (have c127b1 : decide (t175.toList = t179.toList && (t176.toList == t180.toList)) = true := by simpa using c127))
                                    (try (have c127b2 : (t175.toList == t179.toList && (t176.toList == t180.toList)) = true := by simpa using c127))
                                    clear c127
                                    by_cases c128 : (t177 == t181) = true
                                    · as_aux_lemma =>
                                      rw [if_pos c128] at H
                                      have c128b0 : (t177 == t181) = true := c128
                                      (try (have c128b1 : decide (t177 = t181) = true := by simpa using c128))
                                      (try (have c128b2 : (t177 == t181) = true := by simpa using c128))
                                      clear c128
                                      by_cases c129 : t183.toList = t186.toList
                                      · as_aux_lemma =>
                                        rw [if_pos c129] at H
                                        have c129b0 : (t183.toList == t186.toList) = true := beq_iff_eq.mpr c129
                                        have c129b1 : (t183.toList != t186.toList) = false := bne_eq_false_iff_eq.mpr c129
                                        clear c129
                                        by_cases c130 : (t184 == t187) = true
                                        · as_aux_lemma =>
                                          rw [if_pos c130] at H
                                          have c130b0 : (t184 == t187) = true := c130
                                          (try (have c130b1 : decide (t184 = t187) = true := by simpa using c130))
                                          (try (have c130b2 : (t184 == t187) = true := by simpa using c130))
                                          clear c130
                                          by_cases c131 : t188.toList = t191.toList
                                          · as_aux_lemma =>
                                            rw [if_pos c131] at H
                                            have c131b0 : (t188.toList == t191.toList) = true := beq_iff_eq.mpr c131
                                            have c131b1 : (t188.toList != t191.toList) = false := bne_eq_false_iff_eq.mpr c131
                                            clear c131
                                            by_cases c132 : (t189 == t192) = true
                                            · as_aux_lemma =>
                                              rw [if_pos c132] at H
                                              have c132b0 : (t189 == t192) = true := c132
                                              (try (have c132b1 : decide (t189 = t192) = true := by simpa using c132))
                                              (try (have c132b2 : (t189 == t192) = true := by simpa using c132))
                                              clear c132
                                              by_cases c133 : t193.toList = t196.toList
                                              · as_aux_lemma =>
                                                rw [if_pos c133] at H
                                                have c133b0 : (t193.toList == t196.toList) = true := beq_iff_eq.mpr c133
                                                have c133b1 : (t193.toList != t196.toList) = false := bne_eq_false_iff_eq.mpr c133
                                                clear c133
                                                by_cases c134 : (t194 == t197) = true
                                                · as_aux_lemma =>
                                                  rw [if_pos c134] at H
                                                  have c134b0 : (t194 == t197) = true := c134
                                                  (try (have c134b1 : decide (t194 = t197) = true := by simpa using c134))
                                                  (try (have c134b2 : (t194 == t197) = true := by simpa using c134))
                                                  clear c134
                                                  by_cases c135 : (t199 == x42_88) = true
                                                  · as_aux_lemma =>
                                                    rw [if_pos c135] at H
                                                    have c135b0 : (t199 == x42_88) = true := c135
                                                    (try (have c135b1 : decide (t199 = x42_88) = true := by simpa using c135))
                                                    (try (have c135b2 : (t199 == x42_88) = true := by simpa using c135))
                                                    clear c135
                                                    by_cases c136 : x42_88 = true
                                                    · as_aux_lemma =>
                                                      subst c136
                                                      (try (have c135s : t199 = true := (by simpa using c135b0)))
                                                      (try (have c135s : t199 = false := (by simpa using c135b0)))
                                                      have H1 : (if 1 ≤ (a4.size : Int) then (if t198.toList = (a4.extract 1 a4.size).toList then (some true) else (none)) else (none)) = some r := by rw [if_pos rfl] at H; exact H
                                                      clear H
                                                      have H := H1
                                                      clear H1
                                                      by_cases c137 : 1 ≤ (a4.size : Int)
                                                      · as_aux_lemma =>
                                                        rw [if_pos c137] at H
                                                        have c137b0 := eq_true c137
                                                        have c137b1 : decide (1 ≤ (a4.size : Int)) = true := decide_eq_true c137
                                                        clear c137
                                                        by_cases c138 : t198.toList = (a4.extract 1 a4.size).toList
                                                        · as_aux_lemma =>
                                                          rw [if_pos c138] at H
                                                          have c138b0 : (t198.toList == (a4.extract 1 a4.size).toList) = true := beq_iff_eq.mpr c138
                                                          have c138b1 : (t198.toList != (a4.extract 1 a4.size).toList) = false := bne_eq_false_iff_eq.mpr c138
                                                          clear c138
                                                          obtain rfl := Option.some.inj H
                                                          go_wp2_with (first | ((with_reducible refine gate_callee (f := 11) rfl ?_); refine goesL_ (some 264) rfl rfl Try.func11 (by kernel_rfl) rfl #[.string a4] rfl (by (try simp only [List.map_toArray, List.map_cons, List.map_nil]); first | done | rfl | (simp only [List.length_drop, List.length_take]; rfl)) ?_; (with_reducible refine (hello_Kind.calls a4 t200 _ A125.out).mono ?_); rintro e w' ⟨rfl, ⟨nd, rfl⟩⟩; refine ⟨_, rfl, ?_⟩; have hnb139 := NB178_160.out; have hnc139 := NB160_178.out; have hnb140 := NB178_182.out; have hnc140 := NB182_178.out; have hnb141 := NB178_185.out; have hnc141 := NB185_178.out; have hnb142 := NB178_190.out; have hnc142 := NB190_178.out; have hnb143 := NB178_195.out; have hnc143 := NB195_178.out; have hcz144_0 : wc.cell? ⟨gb178, 0, none⟩ = some (.string t175) := (blk_cell BK178.out 0).trans rfl; have hcz144_1 : wc.cell? ⟨gb178, 1, none⟩ = some (.string t176) := (blk_cell BK178.out 1).trans rfl; have hfz144_0 := blk_frozen BK178.out 0; have hfz144_1 := blk_frozen BK178.out 1; have hnb145 := NB182_160.out; have hnc145 := NB160_182.out; have hnb146 := NB182_185.out; have hnc146 := NB185_182.out; have hnb147 := NB182_190.out; have hnc147 := NB190_182.out; have hnb148 := NB182_195.out; have hnc148 := NB195_182.out; have hcz149_0 : wc.cell? ⟨gb182, 0, none⟩ = some (.string t179) := (blk_cell BK182.out 0).trans rfl; have hcz149_1 : wc.cell? ⟨gb182, 1, none⟩ = some (.string t180) := (blk_cell BK182.out 1).trans rfl; have hfz149_0 := blk_frozen BK182.out 0; have hfz149_1 := blk_frozen BK182.out 1; have hnb150 := NB185_160.out; have hnc150 := NB160_185.out; have hnb151 := NB185_190.out; have hnc151 := NB190_185.out; have hnb152 := NB185_195.out; have hnc152 := NB195_185.out; have hcz153_0 : wc.cell? ⟨gb185, 0, none⟩ = some (.string t183) := (blk_cell BK185.out 0).trans rfl; have hfz153_0 := blk_frozen BK185.out 0; have hnb154 := NB190_160.out; have hnc154 := NB160_190.out; have hnb155 := NB190_195.out; have hnc155 := NB195_190.out; have hcz156_0 : wc.cell? ⟨gb190, 0, none⟩ = some (.string t188) := (blk_cell BK190.out 0).trans rfl; have hfz156_0 := blk_frozen BK190.out 0; have hnb157 := NB195_160.out; have hnc157 := NB160_195.out; have hcz158_0 : wc.cell? ⟨gb195, 0, none⟩ = some (.string t193) := (blk_cell BK195.out 0).trans rfl; have hfz158_0 := blk_frozen BK195.out 0) | (go_at_call 11; (with_reducible refine (hello_Kind.calls a4 t200 _ A125.out).mono ?_); rintro e w' ⟨rfl, ⟨nd, rfl⟩⟩; have hnb139 := NB178_160.out; have hnc139 := NB160_178.out; have hnb140 := NB178_182.out; have hnc140 := NB182_178.out; have hnb141 := NB178_185.out; have hnc141 := NB185_178.out; have hnb142 := NB178_190.out; have hnc142 := NB190_178.out; have hnb143 := NB178_195.out; have hnc143 := NB195_178.out; have hcz144_0 : wc.cell? ⟨gb178, 0, none⟩ = some (.string t175) := (blk_cell BK178.out 0).trans rfl; have hcz144_1 : wc.cell? ⟨gb178, 1, none⟩ = some (.string t176) := (blk_cell BK178.out 1).trans rfl; have hfz144_0 := blk_frozen BK178.out 0; have hfz144_1 := blk_frozen BK178.out 1; have hnb145 := NB182_160.out; have hnc145 := NB160_182.out; have hnb146 := NB182_185.out; have hnc146 := NB185_182.out; have hnb147 := NB182_190.out; have hnc147 := NB190_182.out; have hnb148 := NB182_195.out; have hnc148 := NB195_182.out; have hcz149_0 : wc.cell? ⟨gb182, 0, none⟩ = some (.string t179) := (blk_cell BK182.out 0).trans rfl; have hcz149_1 : wc.cell? ⟨gb182, 1, none⟩ = some (.string t180) := (blk_cell BK182.out 1).trans rfl; have hfz149_0 := blk_frozen BK182.out 0; have hfz149_1 := blk_frozen BK182.out 1; have hnb150 := NB185_160.out; have hnc150 := NB160_185.out; have hnb151 := NB185_190.out; have hnc151 := NB190_185.out; have hnb152 := NB185_195.out; have hnc152 := NB195_185.out; have hcz153_0 : wc.cell? ⟨gb185, 0, none⟩ = some (.string t183) := (blk_cell BK185.out 0).trans rfl; have hfz153_0 := blk_frozen BK185.out 0; have hnb154 := NB190_160.out; have hnc154 := NB160_190.out; have hnb155 := NB190_195.out; have hnc155 := NB195_190.out; have hcz156_0 : wc.cell? ⟨gb190, 0, none⟩ = some (.string t188) := (blk_cell BK190.out 0).trans rfl; have hfz156_0 := blk_frozen BK190.out 0; have hnb157 := NB195_160.out; have hnc157 := NB160_195.out; have hcz158_0 : wc.cell? ⟨gb195, 0, none⟩ = some (.string t193) := (blk_cell BK195.out 0).trans rfl; have hfz158_0 := blk_frozen BK195.out 0))
                                                          go_ret
                                                          exact ⟨by first | rfl | (simp [errW_none, errW_some] <;> rfl) | (simp [*, errW_none, errW_some] <;> rfl), by repeat (first | (with_reducible first | exact HB.out | apply below_alloc | apply pw_below_drewN | apply below_drew1 | refine below_set ?_ GE160.out | refine below_set ?_ GE178.out | refine below_set ?_ GE182.out | refine below_set ?_ GE185.out | refine below_set ?_ GE190.out | refine below_set ?_ GE195.out) | exact HB.out)⟩
                                                        · as_aux_lemma =>
                                                          rw [if_neg c138] at H
                                                          exact absurd H (by simp)
                                                      · as_aux_lemma =>
                                                        rw [if_neg c137] at H
                                                        exact absurd H (by simp)
                                                    · as_aux_lemma =>
                                                      replace c136 := Bool.eq_false_iff.mpr c136
                                                      subst c136
                                                      (try (have c135s : t199 = true := (by simpa using c135b0)))
                                                      (try (have c135s : t199 = false := (by simpa using c135b0)))
                                                      have H1 : (some (t198.toList == ([] : List UInt8))) = some r := by rw [if_neg (show ¬ (false = true) by decide)] at H; exact H
                                                      clear H
                                                      have H := H1
                                                      clear H1
                                                      obtain rfl := Option.some.inj H
                                                      go_wp2_with (first | ((with_reducible refine gate_callee (f := 11) rfl ?_); refine goesL_ (some 264) rfl rfl Try.func11 (by kernel_rfl) rfl #[.string a4] rfl (by (try simp only [List.map_toArray, List.map_cons, List.map_nil]); first | done | rfl | (simp only [List.length_drop, List.length_take]; rfl)) ?_; (with_reducible refine (hello_Kind.calls a4 t200 _ A125.out).mono ?_); rintro e w' ⟨rfl, ⟨nd, rfl⟩⟩; refine ⟨_, rfl, ?_⟩; have hnb159 := NB178_160.out; have hnc159 := NB160_178.out; have hnb160 := NB178_182.out; have hnc160 := NB182_178.out; have hnb161 := NB178_185.out; have hnc161 := NB185_178.out; have hnb162 := NB178_190.out; have hnc162 := NB190_178.out; have hnb163 := NB178_195.out; have hnc163 := NB195_178.out; have hcz164_0 : wc.cell? ⟨gb178, 0, none⟩ = some (.string t175) := (blk_cell BK178.out 0).trans rfl; have hcz164_1 : wc.cell? ⟨gb178, 1, none⟩ = some (.string t176) := (blk_cell BK178.out 1).trans rfl; have hfz164_0 := blk_frozen BK178.out 0; have hfz164_1 := blk_frozen BK178.out 1; have hnb165 := NB182_160.out; have hnc165 := NB160_182.out; have hnb166 := NB182_185.out; have hnc166 := NB185_182.out; have hnb167 := NB182_190.out; have hnc167 := NB190_182.out; have hnb168 := NB182_195.out; have hnc168 := NB195_182.out; have hcz169_0 : wc.cell? ⟨gb182, 0, none⟩ = some (.string t179) := (blk_cell BK182.out 0).trans rfl; have hcz169_1 : wc.cell? ⟨gb182, 1, none⟩ = some (.string t180) := (blk_cell BK182.out 1).trans rfl; have hfz169_0 := blk_frozen BK182.out 0; have hfz169_1 := blk_frozen BK182.out 1; have hnb170 := NB185_160.out; have hnc170 := NB160_185.out; have hnb171 := NB185_190.out; have hnc171 := NB190_185.out; have hnb172 := NB185_195.out; have hnc172 := NB195_185.out; have hcz173_0 : wc.cell? ⟨gb185, 0, none⟩ = some (.string t183) := (blk_cell BK185.out 0).trans rfl; have hfz173_0 := blk_frozen BK185.out 0; have hnb174 := NB190_160.out; have hnc174 := NB160_190.out; have hnb175 := NB190_195.out; have hnc175 := NB195_190.out; have hcz176_0 : wc.cell? ⟨gb190, 0, none⟩ = some (.string t188) := (blk_cell BK190.out 0).trans rfl; have hfz176_0 := blk_frozen BK190.out 0; have hnb177 := NB195_160.out; have hnc177 := NB160_195.out; have hcz178_0 : wc.cell? ⟨gb195, 0, none⟩ = some (.string t193) := (blk_cell BK195.out 0).trans rfl; have hfz178_0 := blk_frozen BK195.out 0) | (go_at_call 11; (with_reducible refine (hello_Kind.calls a4 t200 _ A125.out).mono ?_); rintro e w' ⟨rfl, ⟨nd, rfl⟩⟩; have hnb159 := NB178_160.out; have hnc159 := NB160_178.out; have hnb160 := NB178_182.out; have hnc160 := NB182_178.out; have hnb161 := NB178_185.out; have hnc161 := NB185_178.out; have hnb162 := NB178_190.out; have hnc162 := NB190_178.out; have hnb163 := NB178_195.out; have hnc163 := NB195_178.out; have hcz164_0 : wc.cell? ⟨gb178, 0, none⟩ = some (.string t175) := (blk_cell BK178.out 0).trans rfl; have hcz164_1 : wc.cell? ⟨gb178, 1, none⟩ = some (.string t176) := (blk_cell BK178.out 1).trans rfl; have hfz164_0 := blk_frozen BK178.out 0; have hfz164_1 := blk_frozen BK178.out 1; have hnb165 := NB182_160.out; have hnc165 := NB160_182.out; have hnb166 := NB182_185.out; have hnc166 := NB185_182.out; have hnb167 := NB182_190.out; have hnc167 := NB190_182.out; have hnb168 := NB182_195.out; have hnc168 := NB195_182.out; have hcz169_0 : wc.cell? ⟨gb182, 0, none⟩ = some (.string t179) := (blk_cell BK182.out 0).trans rfl; have hcz169_1 : wc.cell? ⟨gb182, 1, none⟩ = some (.string t180) := (blk_cell BK182.out 1).trans rfl; have hfz169_0 := blk_frozen BK182.out 0; have hfz169_1 := blk_frozen BK182.out 1; have hnb170 := NB185_160.out; have hnc170 := NB160_185.out; have hnb171 := NB185_190.out; have hnc171 := NB190_185.out; have hnb172 := NB185_195.out; have hnc172 := NB195_185.out; have hcz173_0 : wc.cell? ⟨gb185, 0, none⟩ = some (.string t183) := (blk_cell BK185.out 0).trans rfl; have hfz173_0 := blk_frozen BK185.out 0; have hnb174 := NB190_160.out; have hnc174 := NB160_190.out; have hnb175 := NB190_195.out; have hnc175 := NB195_190.out; have hcz176_0 : wc.cell? ⟨gb190, 0, none⟩ = some (.string t188) := (blk_cell BK190.out 0).trans rfl; have hfz176_0 := blk_frozen BK190.out 0; have hnb177 := NB195_160.out; have hnc177 := NB160_195.out; have hcz178_0 : wc.cell? ⟨gb195, 0, none⟩ = some (.string t193) := (blk_cell BK195.out 0).trans rfl; have hfz178_0 := blk_frozen BK195.out 0))
                                                      go_ret
                                                      exact ⟨by first | rfl | (simp [errW_none, errW_some] <;> rfl) | (simp [*, errW_none, errW_some] <;> rfl), by repeat (first | (with_reducible first | exact HB.out | apply below_alloc | apply pw_below_drewN | apply below_drew1 | refine below_set ?_ GE160.out | refine below_set ?_ GE178.out | refine below_set ?_ GE182.out | refine below_set ?_ GE185.out | refine below_set ?_ GE190.out | refine below_set ?_ GE195.out) | exact HB.out)⟩
                                                  · as_aux_lemma =>
                                                    rw [if_neg c135] at H
                                                    exact absurd H (by simp)
                                                · as_aux_lemma =>
                                                  rw [if_neg c134] at H
                                                  exact absurd H (by simp)
                                              · as_aux_lemma =>
                                                rw [if_neg c133] at H
                                                exact absurd H (by simp)
                                            · as_aux_lemma =>
                                              rw [if_neg c132] at H
                                              exact absurd H (by simp)
                                          · as_aux_lemma =>
                                            rw [if_neg c131] at H
                                            exact absurd H (by simp)
                                        · as_aux_lemma =>
                                          rw [if_neg c130] at H
                                          exact absurd H (by simp)
                                      · as_aux_lemma =>
                                        rw [if_neg c129] at H
                                        exact absurd H (by simp)
                                    · as_aux_lemma =>
                                      rw [if_neg c128] at H
                                      exact absurd H (by simp)
                                  · as_aux_lemma =>
                                    rw [if_neg c127] at H
                                    exact absurd H (by simp)
                                · as_aux_lemma =>
                                  rw [if_neg c126] at H
                                  exact absurd H (by simp)

end Go.Proofs.Ytbopadckbhocgaa.P
