-- Written by wip/inj.py (the kit's print, with contracts typed by hand beside it).
import Derived.Test.YtagoibmemonkaaaPx0
namespace Go.Proofs.Ytagoibmemonkaaa.P
open Go.RowKit Go.Proofs.YtagoibmemonkaaaW.PrintWords Go.Proofs.YtagoibmemonkaaaW.PrintLast Go.Proofs.YtagoibmemonkaaaW.PrintMore
attribute [local go_sem] max2_int min2_int max_two min_two max_three min_three max_four min_four   -- for this text's walks alone
set_option linter.unusedVariables false
set_option linter.unusedSimpArgs false

/-! ### escutcheonref1_Clamp: function 14 (by hand) -/
def escutcheonref1_Clamp.cB (i : Nat) (x : Int) : Int := if i = 3 ∨ i = 7 ∨ i = 11 ∨ i = 15 then Go.bits .and .u8 x 15 else if i = 4 ∨ i = 8 ∨ i = 12 then Go.bits .and .u8 x 252 else x
def escutcheonref1_Clamp.out (a0 : ByteArray) : List Int := (List.range 16).map fun i : Nat => escutcheonref1_Clamp.cB i (bt a0 (i : Int))
def escutcheonref1_Clamp.f (a0 : ByteArray) : Option ByteArray := if 16 ≤ a0.size then some (strOfNums (escutcheonref1_Clamp.out a0)) else none
theorem escutcheonref1_Clamp.getD_out (a0 : ByteArray) (j : Nat) (h : j < 16) : (escutcheonref1_Clamp.out a0).getD j 0 = escutcheonref1_Clamp.cB j (bt a0 (j : Int)) := by
  unfold escutcheonref1_Clamp.out
  rw [List.getD_eq_getElem?_getD, List.getElem?_map, List.getElem?_range h]; rfl
theorem escutcheonref1_Clamp.ret_ {a b : ByteArray} (h : a = b) : Ending.returned (.string a) = .returned (.string b) := by rw [h]
def escutcheonref1_Clamp.Cells (a0 : ByteArray) (g n : Nat) (wr : World) : Prop := ∀ j : Nat, j < 16 → wr.cell? ⟨g, j, none⟩ = some (.int .u8 (if j < n then escutcheonref1_Clamp.cB j (bt a0 (j : Int)) else bt a0 (j : Int)))
theorem escutcheonref1_Clamp.same {a0 : ByteArray} {g n : Nat} {wr : World} (h : escutcheonref1_Clamp.Cells a0 g n wr) (hb : escutcheonref1_Clamp.cB n (bt a0 (n : Int)) = bt a0 (n : Int)) : escutcheonref1_Clamp.Cells a0 g (n + 1) wr := by
  intro j hj
  rw [h j hj]
  by_cases e : j = n
  · subst e; rw [if_neg (Nat.lt_irrefl _), if_pos (Nat.lt_succ_self _), hb]
  · by_cases l : j < n
    · rw [if_pos l, if_pos (by omega)]
    · rw [if_neg l, if_neg (by omega)]
theorem escutcheonref1_Clamp.stored {a0 : ByteArray} {g n : Nat} {wr : World} {v : Int} (hn : n < 16) (h : escutcheonref1_Clamp.Cells a0 g n wr) (hb : escutcheonref1_Clamp.cB n (bt a0 (n : Int)) = v) : escutcheonref1_Clamp.Cells a0 g (n + 1) (wr.setCell ⟨g, n, none⟩ (.int .u8 v)) := by
  intro j hj
  by_cases e : j = n
  · subst e
    rw [World.cell?_setCell_same _ _ _ (h j hj), if_pos (Nat.lt_succ_self _), hb]
  · rw [World.cell?_setCell_other _ _ _ _ (by intro e2; injection e2 with _ e3 _; exact e e3.symm), h j hj]
    by_cases l : j < n
    · rw [if_pos l, if_pos (by omega)]
    · rw [if_neg l, if_neg (by omega)]
theorem escutcheonref1_Clamp.byte_at (s : ByteArray) (j : Nat) (h : j < s.size) : ((s.data.toList.getD j 0).toNat : Int) = bt s (j : Int) := by
  have h' : j < s.data.toList.length := h
  rw [List.getD_eq_getElem?_getD, List.getElem?_eq_getElem h', Option.getD_some, ← bt_at s (j : Int) (by simpa using h)]; rfl
set_option maxHeartbeats 4000000 in
set_option maxRecDepth 100000 in
theorem escutcheonref1_Clamp.calls (a0 : ByteArray) (r : ByteArray) (w : World) (h : escutcheonref1_Clamp.f a0 = some r) :
    Calls Try.prog 14 #[.string a0] w fun e w' => e = .returned (.string r) ∧ Below w.heap.size w w' := by
  unfold escutcheonref1_Clamp.f at h
  by_cases hs : 16 ≤ a0.size
  case neg => rw [if_neg hs] at h; cases h
  rw [if_pos hs] at h
  have HR := Lib.hid (Option.some.inj h)
  clear h
  have hb1 := eq_true (show (16 : Int) ≤ (a0.size : Int) by omega)
  have hb2 := eq_true hs
  have HC := Lib.hid (fun (w : World) (s : ByteArray) => Lib.run_convert_string_bytes (P := Try.prog) w 9 30 5 s Try.underlying9 Try.underlying30 Try.underlying5)
  go_enter Try.func14, Try.ntmps14
  go_wp2_with fail
  rw [HC.out]
  have hes : (a0.extract 0 16).size = 16 := by rw [ByteArray.size_extract]; omega
  have HB := Aside0.mk (bytes_below (Below.refl w.heap.size w) (Nat.le_refl _) 5 (a0.extract 0 16))
  have HX := Aside0.mk (show ∀ j : Nat, j < 16 → (Lib.bytesWorld w 5 (a0.extract 0 16)).cell? ⟨w.heap.size, j, none⟩ = some (.int .u8 (bt a0 (j : Int))) from fun j hj => by
    rw [Lib.bytesWorld_cell w 5 _ j (by rw [hes]; exact hj), escutcheonref1_Clamp.byte_at _ _ (by rw [hes]; exact hj)]
    have h1 := bt_at (a0.extract 0 16) (j : Int) (by simpa [hes] using hj)
    have h2 := bt_at a0 (j : Int) (by simp; omega)
    rw [← h1, ← h2]
    simp [ByteArray.getElem_extract])
  have HF := Aside0.mk (show ∀ j : Nat, j < 16 → (Lib.bytesWorld w 5 (a0.extract 0 16)).frozen? ⟨w.heap.size, j, none⟩ = false from fun j hj => by
    have hl : j < (Lib.bytesCells w 5 (a0.extract 0 16)).size := by
      simp only [Lib.bytesCells, Array.size_append, Array.size_map]
      have : (a0.extract 0 16).data.size = 16 := hes
      omega
    simp only [World.frozen?, Lib.bytesWorld_at_new]
    rw [decide_eq_false (by omega), Bool.false_and])
  rw [hes]
  generalize grownCap w _ 0 5 = cap
  generalize Lib.bytesWorld w 5 _ = wz at *
  generalize hgg : w.heap.size = g at HX HF ⊢
  have LG := Aside0.mk (Nat.le_of_eq hgg)
  clear HC hes hgg hb1 hb2
  go_wp2_with fail
  go_loopw [4] (fun v14 wr => ∃ n : Nat, n ≤ 16 ∧ v14 = .int .i64 n ∧ Aside0 (escutcheonref1_Clamp.Cells a0 g n wr) ∧ Aside0 (∀ j : Nat, j < 16 → wr.frozen? ⟨g, j, none⟩ = false) ∧ Aside0 (Below w.heap.size w wr)) (fun v14 _ => 16 - (intOf v14).toNat)
  case atStart => exact ⟨0, Nat.zero_le _, rfl, ⟨fun j hj => by rw [if_neg (Nat.not_lt_zero _)]; exact HX.out j hj⟩, HF, HB⟩
  case round =>
    clear HX HF HB
    obtain ⟨n, hn, rfl, HX, HF, HB⟩ := hrel
    by_cases hlt : n < 16
    · have hc : wr.cell? ⟨g, n, none⟩ = some (.int .u8 (bt a0 (n : Int))) := by have := HX.out n hlt; rwa [if_neg (Nat.lt_irrefl _)] at this
      have hf := HF.out n hlt
      have hcls : n = 3 ∨ n = 7 ∨ n = 11 ∨ n = 15 ∨ n = 4 ∨ n = 8 ∨ n = 12 ∨ (n ≠ 3 ∧ n ≠ 7 ∧ n ≠ 11 ∧ n ≠ 15 ∧ n ≠ 4 ∧ n ≠ 8 ∧ n ≠ 12) := by omega
      rcases hcls with h_ | h_ | h_ | h_ | h_ | h_ | h_ | h_
      · have b0 := trivial
        have b3 : (((n : Nat) : Int) == 3) = true := by rw [h_]; rfl
        have b7 : (((n : Nat) : Int) == 7) = false := by (simp; omega)
        have b11 : (((n : Nat) : Int) == 11) = false := by (simp; omega)
        have b15 : (((n : Nat) : Int) == 15) = false := by (simp; omega)
        have b4 : (((n : Nat) : Int) == 4) = false := by (simp; omega)
        have b8 : (((n : Nat) : Int) == 8) = false := by (simp; omega)
        have b12 : (((n : Nat) : Int) == 12) = false := by (simp; omega)
        have hcb : escutcheonref1_Clamp.cB n (bt a0 (n : Int)) = Go.bits .and .u8 (bt a0 (n : Int)) 15 := by unfold escutcheonref1_Clamp.cB; rw [if_pos (by omega)]
        have HCB := Lib.hid hcb
        clear hcb h_
        go_wp2_with fail
        go_round
        case rel => exact ⟨n + 1, hlt, by go_num, ⟨escutcheonref1_Clamp.stored hlt HX.out HCB.out⟩, ⟨fun j hj => (World.frozen?_setCell _ _ _ _).trans (HF.out j hj)⟩, ⟨HB.out.setCell (p := ⟨g, n, none⟩) LG.out _⟩⟩
        case measure => simp [intOf]; omega
      · have b0 := trivial
        have b3 : (((n : Nat) : Int) == 3) = false := by (simp; omega)
        have b7 : (((n : Nat) : Int) == 7) = true := by rw [h_]; rfl
        have b11 : (((n : Nat) : Int) == 11) = false := by (simp; omega)
        have b15 : (((n : Nat) : Int) == 15) = false := by (simp; omega)
        have b4 : (((n : Nat) : Int) == 4) = false := by (simp; omega)
        have b8 : (((n : Nat) : Int) == 8) = false := by (simp; omega)
        have b12 : (((n : Nat) : Int) == 12) = false := by (simp; omega)
        have hcb : escutcheonref1_Clamp.cB n (bt a0 (n : Int)) = Go.bits .and .u8 (bt a0 (n : Int)) 15 := by unfold escutcheonref1_Clamp.cB; rw [if_pos (by omega)]
        have HCB := Lib.hid hcb
        clear hcb h_
        go_wp2_with fail
        go_round
        case rel => exact ⟨n + 1, hlt, by go_num, ⟨escutcheonref1_Clamp.stored hlt HX.out HCB.out⟩, ⟨fun j hj => (World.frozen?_setCell _ _ _ _).trans (HF.out j hj)⟩, ⟨HB.out.setCell (p := ⟨g, n, none⟩) LG.out _⟩⟩
        case measure => simp [intOf]; omega
      · have b0 := trivial
        have b3 : (((n : Nat) : Int) == 3) = false := by (simp; omega)
        have b7 : (((n : Nat) : Int) == 7) = false := by (simp; omega)
        have b11 : (((n : Nat) : Int) == 11) = true := by rw [h_]; rfl
        have b15 : (((n : Nat) : Int) == 15) = false := by (simp; omega)
        have b4 : (((n : Nat) : Int) == 4) = false := by (simp; omega)
        have b8 : (((n : Nat) : Int) == 8) = false := by (simp; omega)
        have b12 : (((n : Nat) : Int) == 12) = false := by (simp; omega)
        have hcb : escutcheonref1_Clamp.cB n (bt a0 (n : Int)) = Go.bits .and .u8 (bt a0 (n : Int)) 15 := by unfold escutcheonref1_Clamp.cB; rw [if_pos (by omega)]
        have HCB := Lib.hid hcb
        clear hcb h_
        go_wp2_with fail
        go_round
        case rel => exact ⟨n + 1, hlt, by go_num, ⟨escutcheonref1_Clamp.stored hlt HX.out HCB.out⟩, ⟨fun j hj => (World.frozen?_setCell _ _ _ _).trans (HF.out j hj)⟩, ⟨HB.out.setCell (p := ⟨g, n, none⟩) LG.out _⟩⟩
        case measure => simp [intOf]; omega
      · have b0 := trivial
        have b3 : (((n : Nat) : Int) == 3) = false := by (simp; omega)
        have b7 : (((n : Nat) : Int) == 7) = false := by (simp; omega)
        have b11 : (((n : Nat) : Int) == 11) = false := by (simp; omega)
        have b15 : (((n : Nat) : Int) == 15) = true := by rw [h_]; rfl
        have b4 : (((n : Nat) : Int) == 4) = false := by (simp; omega)
        have b8 : (((n : Nat) : Int) == 8) = false := by (simp; omega)
        have b12 : (((n : Nat) : Int) == 12) = false := by (simp; omega)
        have hcb : escutcheonref1_Clamp.cB n (bt a0 (n : Int)) = Go.bits .and .u8 (bt a0 (n : Int)) 15 := by unfold escutcheonref1_Clamp.cB; rw [if_pos (by omega)]
        have HCB := Lib.hid hcb
        clear hcb h_
        go_wp2_with fail
        go_round
        case rel => exact ⟨n + 1, hlt, by go_num, ⟨escutcheonref1_Clamp.stored hlt HX.out HCB.out⟩, ⟨fun j hj => (World.frozen?_setCell _ _ _ _).trans (HF.out j hj)⟩, ⟨HB.out.setCell (p := ⟨g, n, none⟩) LG.out _⟩⟩
        case measure => simp [intOf]; omega
      · have b0 := trivial
        have b3 : (((n : Nat) : Int) == 3) = false := by (simp; omega)
        have b7 : (((n : Nat) : Int) == 7) = false := by (simp; omega)
        have b11 : (((n : Nat) : Int) == 11) = false := by (simp; omega)
        have b15 : (((n : Nat) : Int) == 15) = false := by (simp; omega)
        have b4 : (((n : Nat) : Int) == 4) = true := by rw [h_]; rfl
        have b8 : (((n : Nat) : Int) == 8) = false := by (simp; omega)
        have b12 : (((n : Nat) : Int) == 12) = false := by (simp; omega)
        have hcb : escutcheonref1_Clamp.cB n (bt a0 (n : Int)) = Go.bits .and .u8 (bt a0 (n : Int)) 252 := by unfold escutcheonref1_Clamp.cB; rw [if_neg (by omega), if_pos (by omega)]
        have HCB := Lib.hid hcb
        clear hcb h_
        go_wp2_with fail
        go_round
        case rel => exact ⟨n + 1, hlt, by go_num, ⟨escutcheonref1_Clamp.stored hlt HX.out HCB.out⟩, ⟨fun j hj => (World.frozen?_setCell _ _ _ _).trans (HF.out j hj)⟩, ⟨HB.out.setCell (p := ⟨g, n, none⟩) LG.out _⟩⟩
        case measure => simp [intOf]; omega
      · have b0 := trivial
        have b3 : (((n : Nat) : Int) == 3) = false := by (simp; omega)
        have b7 : (((n : Nat) : Int) == 7) = false := by (simp; omega)
        have b11 : (((n : Nat) : Int) == 11) = false := by (simp; omega)
        have b15 : (((n : Nat) : Int) == 15) = false := by (simp; omega)
        have b4 : (((n : Nat) : Int) == 4) = false := by (simp; omega)
        have b8 : (((n : Nat) : Int) == 8) = true := by rw [h_]; rfl
        have b12 : (((n : Nat) : Int) == 12) = false := by (simp; omega)
        have hcb : escutcheonref1_Clamp.cB n (bt a0 (n : Int)) = Go.bits .and .u8 (bt a0 (n : Int)) 252 := by unfold escutcheonref1_Clamp.cB; rw [if_neg (by omega), if_pos (by omega)]
        have HCB := Lib.hid hcb
        clear hcb h_
        go_wp2_with fail
        go_round
        case rel => exact ⟨n + 1, hlt, by go_num, ⟨escutcheonref1_Clamp.stored hlt HX.out HCB.out⟩, ⟨fun j hj => (World.frozen?_setCell _ _ _ _).trans (HF.out j hj)⟩, ⟨HB.out.setCell (p := ⟨g, n, none⟩) LG.out _⟩⟩
        case measure => simp [intOf]; omega
      · have b0 := trivial
        have b3 : (((n : Nat) : Int) == 3) = false := by (simp; omega)
        have b7 : (((n : Nat) : Int) == 7) = false := by (simp; omega)
        have b11 : (((n : Nat) : Int) == 11) = false := by (simp; omega)
        have b15 : (((n : Nat) : Int) == 15) = false := by (simp; omega)
        have b4 : (((n : Nat) : Int) == 4) = false := by (simp; omega)
        have b8 : (((n : Nat) : Int) == 8) = false := by (simp; omega)
        have b12 : (((n : Nat) : Int) == 12) = true := by rw [h_]; rfl
        have hcb : escutcheonref1_Clamp.cB n (bt a0 (n : Int)) = Go.bits .and .u8 (bt a0 (n : Int)) 252 := by unfold escutcheonref1_Clamp.cB; rw [if_neg (by omega), if_pos (by omega)]
        have HCB := Lib.hid hcb
        clear hcb h_
        go_wp2_with fail
        go_round
        case rel => exact ⟨n + 1, hlt, by go_num, ⟨escutcheonref1_Clamp.stored hlt HX.out HCB.out⟩, ⟨fun j hj => (World.frozen?_setCell _ _ _ _).trans (HF.out j hj)⟩, ⟨HB.out.setCell (p := ⟨g, n, none⟩) LG.out _⟩⟩
        case measure => simp [intOf]; omega
      · have b0 := trivial
        have b3 : (((n : Nat) : Int) == 3) = false := by (simp; omega)
        have b7 : (((n : Nat) : Int) == 7) = false := by (simp; omega)
        have b11 : (((n : Nat) : Int) == 11) = false := by (simp; omega)
        have b15 : (((n : Nat) : Int) == 15) = false := by (simp; omega)
        have b4 : (((n : Nat) : Int) == 4) = false := by (simp; omega)
        have b8 : (((n : Nat) : Int) == 8) = false := by (simp; omega)
        have b12 : (((n : Nat) : Int) == 12) = false := by (simp; omega)
        have hcb : escutcheonref1_Clamp.cB n (bt a0 (n : Int)) = bt a0 (n : Int) := by unfold escutcheonref1_Clamp.cB; rw [if_neg (by omega), if_neg (by omega)]
        have HCB := Lib.hid hcb
        clear hcb h_
        go_wp2_with fail
        go_round
        case rel => exact ⟨n + 1, hlt, by go_num, ⟨escutcheonref1_Clamp.same HX.out HCB.out⟩, ⟨HF.out⟩, ⟨HB.out⟩⟩
        case measure => simp [intOf]; omega
    · obtain rfl : n = 16 := by omega
      have hcv := run_convert_bytes_arg (P := Try.prog) wr 30 5 Try.underlying30 Try.underlying5 g 0 16 cap (escutcheonref1_Clamp.out a0) (by simp [escutcheonref1_Clamp.out]) (fun j hj => by
        rw [Nat.zero_add, HX.out j hj, if_pos hj, escutcheonref1_Clamp.getD_out a0 j hj]) 9 Try.underlying9
      go_wp2_with fail
      go_ret
      exact ⟨escutcheonref1_Clamp.ret_ HR.out, HB.out⟩


end Go.Proofs.Ytagoibmemonkaaa.P
