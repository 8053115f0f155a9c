/- What hello's functions come to, as plain equations. No condition but bounds on lengths. -/
import Derived.Test.YtbopadckbhocgaaBase
import Derived.Test.YtbopadckbhocgaaPx2
import Derived.Test.YtbopadckbhocgaaPx3
import Derived.Test.YtbopadckbhocgaaPx4
namespace Go.Proofs.Ytbopadckbhocgaa.B
open Go.RowKit Go.Proofs.Ytbopadckbhocgaa.P Go.Proofs.YtbopadckbhocgaaW.PrintWords Go.Proofs.YtbopadckbhocgaaW.PrintLast
set_option linter.unusedVariables false
set_option linter.unusedSimpArgs false

def kind (b : ByteArray) : Int := if 0 < b.size ∧ 1 ≤ bt b 0 ∧ bt b 0 ≤ 5 then bt b 0 else 0
theorem kind_f (b : ByteArray) : hello_Kind.f b = some (kind b) := by
  unfold hello_Kind.f kind
  have hr := bt_range b 0
  rw [w64 (by omega) (by omega)]
  by_cases h0 : b.size = 0
  · rw [if_pos ((toList_nil b).2 h0), if_neg (by omega)]
  · rw [if_neg (fun h => h0 ((toList_nil b).1 h)), if_pos (by omega)]
    split
    · rw [if_neg (by omega)]
    · split
      · rw [if_neg (by omega)]
      · rw [if_pos (by omega)]
theorem clone_f (b : ByteArray) (h : b.size ≤ 281474976710656) : strings_Clone.f b = some b := by
  unfold strings_Clone.f stringslite_Clone.f
  rw [if_pos (by omega)]; rfl
/-- What is put for a hello. -/
def putHello (u n : ByteArray) : ByteArray := (strOfNums [1, (u.size : Int)] ++ u) ++ n
theorem putHello_f (u n : ByteArray) : hello_PutHello.f u n = some (if n.size = 16 ∧ 1 ≤ u.size ∧ u.size ≤ 20 then (putHello u n, true) else ((⟨#[]⟩ : ByteArray), false)) := by
  unfold hello_PutHello.f putHello
  by_cases h1 : n.size = 16
  · rw [if_pos (by omega)]
    by_cases h2 : u.size < 1
    · rw [if_pos (by omega), if_neg (by omega)]
    · rw [if_neg (by omega)]
      by_cases h3 : 20 < u.size
      · rw [if_pos (by omega), if_neg (by omega)]
      · rw [if_neg (by omega), if_pos (by omega)]
        have hs : ((u.size : Int)) % 256 = (u.size : Int) := by omega
        rw [hs]
        simp only [Option.bind_some, size_nums, size_app, List.length_cons, List.length_nil]
        rw [if_pos (by omega), if_pos (by omega)]
  · rw [if_neg (by omega), if_neg (by omega)]
theorem size_putHello (u n : ByteArray) : (putHello u n).size = 2 + u.size + n.size := by
  simp only [putHello, size_app, size_nums, List.length_cons, List.length_nil]
def getOf (k : Int) (b : ByteArray) (lo hi : Int) : ByteArray × Bool :=
  if kind b = k ∧ lo ≤ (b.size : Int) - 1 ∧ (b.size : Int) - 1 ≤ hi then (b.extract 1 b.size, true) else ((⟨#[]⟩ : ByteArray), false)
theorem getOf_f (k : Int) (b : ByteArray) (lo hi : Int) (hk : k ≠ 0) (hb : b.size ≤ 140737488351232) : hello_get.f k b lo hi = some (getOf k b lo hi) := by
  unfold hello_get.f getOf
  rw [kind_f]
  simp only [Option.bind_some]
  by_cases h : kind b = k
  · have h0 : 0 < b.size := by
      unfold kind at h
      split at h
      · omega
      · omega
    rw [if_pos h, w64 (by omega) (by omega)]
    split
    · rw [if_neg (by omega)]
    · split
      · rw [if_neg (by omega)]
      · rw [if_pos (by omega), clone_f _ (by rw [size_ext]; omega), if_pos (by omega)]; rfl
  · rw [if_neg h, if_neg (fun x => h x.1)]
/-- Are bytes a hello? -/
def isHello (b : ByteArray) : Prop := 2 ≤ b.size ∧ bt b 0 = 1 ∧ (b.size : Int) = 18 + bt b 1 ∧ 1 ≤ bt b 1 ∧ bt b 1 ≤ 20
instance (b : ByteArray) : Decidable (isHello b) := by unfold isHello; infer_instance
def getHello (b : ByteArray) : ByteArray × ByteArray × Bool :=
  if isHello b then (b.extract 2 (2 + bt b 1).toNat, b.extract (2 + bt b 1).toNat b.size, true) else ((⟨#[]⟩ : ByteArray), (⟨#[]⟩ : ByteArray), false)
theorem getHello_f (k : Nat) (b : ByteArray) (hb : b.size ≤ 140737488355000) : hello_GetHello.f (k + 1) b = some (getHello b) := by
  unfold hello_GetHello.f getHello
  rw [kind_f]
  simp only [Option.bind_some, hello_GetHello.j0]
  have r0 := bt_range b 0
  have r1 := bt_range b 1
  rw [w64 (n := bt b 1) (by omega) (by omega), w64 (n := 2 + bt b 1) (by omega) (by omega), w64 (by omega) (by omega)]
  by_cases hk : kind b = 1
  · rw [if_pos hk]
    have h0 : 0 < b.size ∧ bt b 0 = 1 := by
      unfold kind at hk
      split at hk
      · exact ⟨by omega, hk⟩
      · omega
    by_cases h2 : b.size < 2
    · rw [if_pos (by omega), if_pos trivial, if_neg (fun h => by unfold isHello at h; omega)]
    · rw [if_neg (by omega), if_pos (by omega)]
      by_cases hs : (b.size : Int) = 2 + bt b 1 + 16
      · rw [if_neg (by simp [hs]), if_pos (by omega), if_pos (by omega), if_pos (by omega), clone_f _ (by rw [size_ext]; omega)]
        simp only [Option.bind_some]
        rw [if_pos (by omega), clone_f _ (by rw [size_ext]; omega)]
        simp only [Option.bind_some]
        rw [putHello_f]
        simp only [Option.bind_some, size_ext]
        by_cases hu : 1 ≤ bt b 1 ∧ bt b 1 ≤ 20
        · rw [if_pos (c := min b.size b.size - _ = 16 ∧ _) (by omega), if_pos rfl, if_pos (show isHello b by unfold isHello; omega)]
        · rw [if_neg (c := min b.size b.size - _ = 16 ∧ _) (by omega), if_neg (by simp), if_neg (fun h : isHello b => by unfold isHello at h; omega)]
      · rw [if_pos (by simpa using hs), if_neg (fun h => by unfold isHello at h; omega)]
  · rw [if_neg hk, if_pos trivial, if_neg]
    intro h
    unfold isHello at h
    apply hk
    unfold kind
    rw [if_pos (by omega)]; omega
theorem bt_putHello (u n : ByteArray) (hu : u.size ≤ 255) : bt (putHello u n) 0 = 1 ∧ bt (putHello u n) 1 = u.size := by
  have hs : (strOfNums [1, (u.size : Int)]).size = 2 := size_nums _
  have hr : ∀ x ∈ [1, (u.size : Int)], 0 ≤ x ∧ x ≤ 255 := by simp; omega
  unfold putHello
  constructor
  · rw [bt_app_l _ _ _ (by rw [size_app, hs]; omega), bt_app_l _ _ _ (by rw [hs]; omega), bt_nums _ _ hr]; rfl
  · rw [bt_app_l _ _ _ (by rw [size_app, hs]; omega), bt_app_l _ _ _ (by rw [hs]; omega), bt_nums _ _ hr]; rfl
theorem isHello_put (u n : ByteArray) (hu : 1 ≤ u.size ∧ u.size ≤ 20) (hn : n.size = 16) : isHello (putHello u n) := by
  have := bt_putHello u n (by omega)
  have := size_putHello u n
  unfold isHello; omega
end Go.Proofs.Ytbopadckbhocgaa.B
