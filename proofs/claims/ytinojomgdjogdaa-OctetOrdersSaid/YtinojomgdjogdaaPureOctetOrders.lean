/- The highest byte first, and the lowest first, are the same bytes turned around, and the same number. For every number of 64 bits and every count. -/
import Derived.Test.YtinojomgdjogdaaOctetC
namespace Go.Proofs.Ytinojomgdjogdaa.Pure
open Go.RowKit Go.Proofs.Ytinojomgdjogdaa.P Go.Proofs.YtinojomgdjogdaaW.PrintWords Go.Proofs.YtinojomgdjogdaaW.PrintLast Go.Proofs.Ytinojomgdjogdaa.B
set_option linter.unusedVariables false
set_option linter.unusedSimpArgs false

theorem orders_l0 (v : Int) (hv : 0 ≤ v) (n : Nat) (hn : n ≤ 8) (d : Nat) : ∀ (k i : Nat), i ≤ n → n - i = d → d + 10 < k →
    escutcheonlaw1_OctetOrders.l0 k (n : Int) (strOfNums (bigL v n)) (strOfNums (littleL v n)) (i : Int) = some true := by
  induction d with
  | zero =>
    intro k i h1 h2 h3
    obtain ⟨k, rfl⟩ : ∃ m, k = m + 1 := ⟨k - 1, by omega⟩
    simp only [escutcheonlaw1_OctetOrders.l0]
    rw [if_neg (by omega), big_big _ _ hn hv, little_little _ _ hn hv _ (by omega)]
    simp
  | succ d ih =>
    intro k i h1 h2 h3
    obtain ⟨k, rfl⟩ : ∃ m, k = m + 1 := ⟨k - 1, by omega⟩
    simp only [escutcheonlaw1_OctetOrders.l0]
    rw [size_big, size_little, w64 (n := (n : Int) - 1) (by omega) (by omega), w64 (n := (n : Int) - 1 - i) (by omega) (by omega)]
    rw [if_pos (by omega), if_pos (by omega), if_pos (by omega), if_pos (by omega), if_pos (by omega), wrap64_succ (n := n) (by omega) (by omega)]
    rw [bt_nums _ _ (bigL_range v n), bt_nums _ _ (littleL_range v n), Int.toNat_natCast, bigL_get _ _ _ (by omega), littleL_get _ _ _ (by omega)]
    have e : ((n : Int) - 1 - i).toNat = n - 1 - i := by omega
    rw [e, if_pos rfl]
    exact ih k (i + 1) (by omega) (by omega) (by omega)
theorem OctetOrders : escutcheonlaw1_OctetOrders.Pure := by
  intro v n hv hn
  have hv := wf_u64 hv
  refine ⟨40, ?_⟩
  have out : escutcheonlaw1_OctetOrders.j0 40 v n true = some true := by
    simp only [escutcheonlaw1_OctetOrders.j0]
    rw [if_pos trivial, alive_k _ (by omega)]; rfl
  unfold escutcheonlaw1_OctetOrders.f
  split
  · exact out
  split
  · exact out
  obtain ⟨m, rfl⟩ : ∃ m : Nat, n = m := ⟨n.toNat, by omega⟩
  rw [alive_k _ (by omega)]
  simp only [Option.bind_some, escutcheonlaw1_OctetOrders.j0]
  rw [if_neg (by simp), putBig_f _ _ (by omega) (by omega) _ (by omega), putLittle_f _ _ (by omega) (by omega) _ (by omega)]
  simp only [Option.bind_some]
  rw [size_big, size_little, if_pos rfl]
  simp only [escutcheonlaw1_OctetOrders.j1]
  rw [if_neg (by simp)]
  exact orders_l0 v hv.1 m (by omega) m 38 0 (by omega) (by omega) (by omega)
end Go.Proofs.Ytinojomgdjogdaa.Pure
