-- Written by wip/inj.py (the kit's print, with contracts typed by hand beside it).
import Derived.Test.YtagoibmemonkaaaPx0
namespace Go.Proofs.Ytagoibmemonkaaa.P
open Go.RowKit Go.Proofs.YtagoibmemonkaaaW.PrintWords Go.Proofs.YtagoibmemonkaaaW.PrintLast Go.Proofs.YtagoibmemonkaaaW.PrintMore
attribute [local go_sem] max2_int min2_int max_two min_two max_three min_three max_four min_four   -- for this text's walks alone
set_option linter.unusedVariables false
set_option linter.unusedSimpArgs false

/-! ### onetime_Clamp: function 12 (by hand) -/
def onetime_Clamp.cB (i : Nat) (x : Int) : Int := if i = 3 ∨ i = 7 ∨ i = 11 ∨ i = 15 then Go.bits .and .u8 x 15 else if i = 4 ∨ i = 8 ∨ i = 12 then Go.bits .and .u8 x 252 else x
def onetime_Clamp.out (a0 : ByteArray) : List Int := (List.range 16).map fun i : Nat => onetime_Clamp.cB i (bt a0 (i : Int))
def onetime_Clamp.f (a0 : ByteArray) : Option (ByteArray × Bool) := if a0.size = 32 then some (strOfNums (onetime_Clamp.out a0), true) else if a0.size ≤ 140737488351232 then some ((⟨#[]⟩ : ByteArray), false) else none
theorem onetime_Clamp.getD_out (a0 : ByteArray) (j : Nat) (h : j < 16) : (onetime_Clamp.out a0).getD j 0 = onetime_Clamp.cB j (bt a0 (j : Int)) := by
  unfold onetime_Clamp.out
  rw [List.getD_eq_getElem?_getD, List.getElem?_map, List.getElem?_range h]; rfl
theorem onetime_Clamp.ret_ {a b : ByteArray} (h : a = b) (x : Bool) : Ending.returned (.tuple #[.string a, .bool x]) = .returned (.tuple #[.string b, .bool x]) := by rw [h]
def onetime_Clamp.Cells (a0 : ByteArray) (g n : Nat) (wr : World) : Prop := ∀ j : Nat, j < 16 → wr.cell? ⟨g, j, none⟩ = some (.int .u8 (if j < n then onetime_Clamp.cB j (bt a0 (j : Int)) else bt a0 (j : Int)))
theorem onetime_Clamp.same {a0 : ByteArray} {g n : Nat} {wr : World} (h : onetime_Clamp.Cells a0 g n wr) (hb : onetime_Clamp.cB n (bt a0 (n : Int)) = bt a0 (n : Int)) : onetime_Clamp.Cells a0 g (n + 1) wr := by
  intro j hj
  rw [h j hj]
  by_cases e : j = n
  · subst e; rw [if_neg (Nat.lt_irrefl _), if_pos (Nat.lt_succ_self _), hb]
  · by_cases l : j < n
    · rw [if_pos l, if_pos (by omega)]
    · rw [if_neg l, if_neg (by omega)]
theorem onetime_Clamp.stored {a0 : ByteArray} {g n : Nat} {wr : World} {v : Int} (hn : n < 16) (h : onetime_Clamp.Cells a0 g n wr) (hb : onetime_Clamp.cB n (bt a0 (n : Int)) = v) : onetime_Clamp.Cells a0 g (n + 1) (wr.setCell ⟨g, n, none⟩ (.int .u8 v)) := by
  intro j hj
  by_cases e : j = n
  · subst e
    rw [World.cell?_setCell_same _ _ _ (h j hj), if_pos (Nat.lt_succ_self _), hb]
  · rw [World.cell?_setCell_other _ _ _ _ (by intro e2; injection e2 with _ e3 _; exact e e3.symm), h j hj]
    by_cases l : j < n
    · rw [if_pos l, if_pos (by omega)]
    · rw [if_neg l, if_neg (by omega)]
theorem onetime_Clamp.byte_at (s : ByteArray) (j : Nat) (h : j < s.size) : ((s.data.toList.getD j 0).toNat : Int) = bt s (j : Int) := by
  have h' : j < s.data.toList.length := h
  rw [List.getD_eq_getElem?_getD, List.getElem?_eq_getElem h', Option.getD_some, ← bt_at s (j : Int) (by simpa using h)]; rfl
set_option maxHeartbeats 4000000 in
set_option maxRecDepth 100000 in
theorem onetime_Clamp.calls (a0 : ByteArray) (r1 : ByteArray) (r2 : Bool) (w : World) (h : onetime_Clamp.f a0 = some (r1, r2)) :
    Calls Try.prog 12 #[.string a0] w fun e w' => e = .returned (.tuple #[.string r1, .bool r2]) ∧ Below w.heap.size w w' := by
  unfold onetime_Clamp.f at h
  by_cases hs : a0.size = 32
  case neg =>
    rw [if_neg hs] at h
    split at h
    case isFalse => cases h
    case isTrue hl =>
    simp only [Option.some.injEq, Prod.mk.injEq] at h
    obtain ⟨rfl, rfl⟩ := h
    have hn : ((a0.size : Int) != 32) = true := by simp; omega
    go_enter Try.func12, Try.ntmps12
    go_wp2_with fail
    go_ret2
    exact ⟨rfl, Below.refl _ _⟩
  rw [if_pos hs] at h
  simp only [Option.some.injEq, Prod.mk.injEq] at h
  obtain ⟨hr, rfl⟩ := h
  have HR := Lib.hid hr
  clear hr
  have HC := Lib.hid (fun (w : World) (s : ByteArray) => Lib.run_convert_string_bytes (P := Try.prog) w 9 30 5 s Try.underlying9 Try.underlying30 Try.underlying5)
  go_enter Try.func12, Try.ntmps12
  go_wp2_with fail
  rw [HC.out]
  have hes : (a0.extract 0 16).size = 16 := by rw [ByteArray.size_extract, hs]; rfl
  have HB := Aside0.mk (bytes_below (Below.refl w.heap.size w) (Nat.le_refl _) 5 (a0.extract 0 16))
  have HX := Aside0.mk (show ∀ j : Nat, j < 16 → (Lib.bytesWorld w 5 (a0.extract 0 16)).cell? ⟨w.heap.size, j, none⟩ = some (.int .u8 (bt a0 (j : Int))) from fun j hj => by
    rw [Lib.bytesWorld_cell w 5 _ j (by rw [hes]; exact hj), onetime_Clamp.byte_at _ _ (by rw [hes]; exact hj)]
    have h1 := bt_at (a0.extract 0 16) (j : Int) (by simpa [hes] using hj)
    have h2 := bt_at a0 (j : Int) (by simp; omega)
    rw [← h1, ← h2]
    simp [ByteArray.getElem_extract])
  have HF := Aside0.mk (show ∀ j : Nat, j < 16 → (Lib.bytesWorld w 5 (a0.extract 0 16)).frozen? ⟨w.heap.size, j, none⟩ = false from fun j hj => by
    have hl : j < (Lib.bytesCells w 5 (a0.extract 0 16)).size := by
      simp only [Lib.bytesCells, Array.size_append, Array.size_map]
      have : (a0.extract 0 16).data.size = 16 := hes
      omega
    simp only [World.frozen?, Lib.bytesWorld_at_new]
    rw [decide_eq_false (by omega), Bool.false_and])
  rw [hes]
  generalize grownCap w _ 0 5 = cap
  generalize Lib.bytesWorld w 5 _ = wz at *
  generalize hgg : w.heap.size = g at HX HF ⊢
  have LG := Aside0.mk (Nat.le_of_eq hgg)
  clear HC hes hgg
  go_wp2_with fail
  go_loopw [14] (fun v14 wr => ∃ n : Nat, n ≤ 16 ∧ v14 = .int .i64 n ∧ Aside0 (onetime_Clamp.Cells a0 g n wr) ∧ Aside0 (∀ j : Nat, j < 16 → wr.frozen? ⟨g, j, none⟩ = false) ∧ Aside0 (Below w.heap.size w wr)) (fun v14 _ => 16 - (intOf v14).toNat)
  case atStart => exact ⟨0, Nat.zero_le _, rfl, ⟨fun j hj => by rw [if_neg (Nat.not_lt_zero _)]; exact HX.out j hj⟩, HF, HB⟩
  case round =>
    clear HX HF HB
    obtain ⟨n, hn, rfl, HX, HF, HB⟩ := hrel
    by_cases hlt : n < 16
    · have hc : wr.cell? ⟨g, n, none⟩ = some (.int .u8 (bt a0 (n : Int))) := by have := HX.out n hlt; rwa [if_neg (Nat.lt_irrefl _)] at this
      have hf := HF.out n hlt
      have hcls : n = 3 ∨ n = 7 ∨ n = 11 ∨ n = 15 ∨ n = 4 ∨ n = 8 ∨ n = 12 ∨ (n ≠ 3 ∧ n ≠ 7 ∧ n ≠ 11 ∧ n ≠ 15 ∧ n ≠ 4 ∧ n ≠ 8 ∧ n ≠ 12) := by omega
      rcases hcls with h_ | h_ | h_ | h_ | h_ | h_ | h_ | h_
      · have b0 := trivial
        have b3 : (((n : Nat) : Int) == 3) = true := by rw [h_]; rfl
        have b7 : (((n : Nat) : Int) == 7) = false := by (simp; omega)
        have b11 : (((n : Nat) : Int) == 11) = false := by (simp; omega)
        have b15 : (((n : Nat) : Int) == 15) = false := by (simp; omega)
        have b4 : (((n : Nat) : Int) == 4) = false := by (simp; omega)
        have b8 : (((n : Nat) : Int) == 8) = false := by (simp; omega)
        have b12 : (((n : Nat) : Int) == 12) = false := by (simp; omega)
        have hcb : onetime_Clamp.cB n (bt a0 (n : Int)) = Go.bits .and .u8 (bt a0 (n : Int)) 15 := by unfold onetime_Clamp.cB; rw [if_pos (by omega)]
        have HCB := Lib.hid hcb
        clear hcb h_
        go_wp2_with fail
        go_round
        case rel => exact ⟨n + 1, hlt, by go_num, ⟨onetime_Clamp.stored hlt HX.out HCB.out⟩, ⟨fun j hj => (World.frozen?_setCell _ _ _ _).trans (HF.out j hj)⟩, ⟨HB.out.setCell (p := ⟨g, n, none⟩) LG.out _⟩⟩
        case measure => simp [intOf]; omega
      · have b0 := trivial
        have b3 : (((n : Nat) : Int) == 3) = false := by (simp; omega)
        have b7 : (((n : Nat) : Int) == 7) = true := by rw [h_]; rfl
        have b11 : (((n : Nat) : Int) == 11) = false := by (simp; omega)
        have b15 : (((n : Nat) : Int) == 15) = false := by (simp; omega)
        have b4 : (((n : Nat) : Int) == 4) = false := by (simp; omega)
        have b8 : (((n : Nat) : Int) == 8) = false := by (simp; omega)
        have b12 : (((n : Nat) : Int) == 12) = false := by (simp; omega)
        have hcb : onetime_Clamp.cB n (bt a0 (n : Int)) = Go.bits .and .u8 (bt a0 (n : Int)) 15 := by unfold onetime_Clamp.cB; rw [if_pos (by omega)]
        have HCB := Lib.hid hcb
        clear hcb h_
        go_wp2_with fail
        go_round
        case rel => exact ⟨n + 1, hlt, by go_num, ⟨onetime_Clamp.stored hlt HX.out HCB.out⟩, ⟨fun j hj => (World.frozen?_setCell _ _ _ _).trans (HF.out j hj)⟩, ⟨HB.out.setCell (p := ⟨g, n, none⟩) LG.out _⟩⟩
        case measure => simp [intOf]; omega
      · have b0 := trivial
        have b3 : (((n : Nat) : Int) == 3) = false := by (simp; omega)
        have b7 : (((n : Nat) : Int) == 7) = false := by (simp; omega)
        have b11 : (((n : Nat) : Int) == 11) = true := by rw [h_]; rfl
        have b15 : (((n : Nat) : Int) == 15) = false := by (simp; omega)
        have b4 : (((n : Nat) : Int) == 4) = false := by (simp; omega)
        have b8 : (((n : Nat) : Int) == 8) = false := by (simp; omega)
        have b12 : (((n : Nat) : Int) == 12) = false := by (simp; omega)
        have hcb : onetime_Clamp.cB n (bt a0 (n : Int)) = Go.bits .and .u8 (bt a0 (n : Int)) 15 := by unfold onetime_Clamp.cB; rw [if_pos (by omega)]
        have HCB := Lib.hid hcb
        clear hcb h_
        go_wp2_with fail
        go_round
        case rel => exact ⟨n + 1, hlt, by go_num, ⟨onetime_Clamp.stored hlt HX.out HCB.out⟩, ⟨fun j hj => (World.frozen?_setCell _ _ _ _).trans (HF.out j hj)⟩, ⟨HB.out.setCell (p := ⟨g, n, none⟩) LG.out _⟩⟩
        case measure => simp [intOf]; omega
      · have b0 := trivial
        have b3 : (((n : Nat) : Int) == 3) = false := by (simp; omega)
        have b7 : (((n : Nat) : Int) == 7) = false := by (simp; omega)
        have b11 : (((n : Nat) : Int) == 11) = false := by (simp; omega)
        have b15 : (((n : Nat) : Int) == 15) = true := by rw [h_]; rfl
        have b4 : (((n : Nat) : Int) == 4) = false := by (simp; omega)
        have b8 : (((n : Nat) : Int) == 8) = false := by (simp; omega)
        have b12 : (((n : Nat) : Int) == 12) = false := by (simp; omega)
        have hcb : onetime_Clamp.cB n (bt a0 (n : Int)) = Go.bits .and .u8 (bt a0 (n : Int)) 15 := by unfold onetime_Clamp.cB; rw [if_pos (by omega)]
        have HCB := Lib.hid hcb
        clear hcb h_
        go_wp2_with fail
        go_round
        case rel => exact ⟨n + 1, hlt, by go_num, ⟨onetime_Clamp.stored hlt HX.out HCB.out⟩, ⟨fun j hj => (World.frozen?_setCell _ _ _ _).trans (HF.out j hj)⟩, ⟨HB.out.setCell (p := ⟨g, n, none⟩) LG.out _⟩⟩
        case measure => simp [intOf]; omega
      · have b0 := trivial
        have b3 : (((n : Nat) : Int) == 3) = false := by (simp; omega)
        have b7 : (((n : Nat) : Int) == 7) = false := by (simp; omega)
        have b11 : (((n : Nat) : Int) == 11) = false := by (simp; omega)
        have b15 : (((n : Nat) : Int) == 15) = false := by (simp; omega)
        have b4 : (((n : Nat) : Int) == 4) = true := by rw [h_]; rfl
        have b8 : (((n : Nat) : Int) == 8) = false := by (simp; omega)
        have b12 : (((n : Nat) : Int) == 12) = false := by (simp; omega)
        have hcb : onetime_Clamp.cB n (bt a0 (n : Int)) = Go.bits .and .u8 (bt a0 (n : Int)) 252 := by unfold onetime_Clamp.cB; rw [if_neg (by omega), if_pos (by omega)]
        have HCB := Lib.hid hcb
        clear hcb h_
        go_wp2_with fail
        go_round
        case rel => exact ⟨n + 1, hlt, by go_num, ⟨onetime_Clamp.stored hlt HX.out HCB.out⟩, ⟨fun j hj => (World.frozen?_setCell _ _ _ _).trans (HF.out j hj)⟩, ⟨HB.out.setCell (p := ⟨g, n, none⟩) LG.out _⟩⟩
        case measure => simp [intOf]; omega
      · have b0 := trivial
        have b3 : (((n : Nat) : Int) == 3) = false := by (simp; omega)
        have b7 : (((n : Nat) : Int) == 7) = false := by (simp; omega)
        have b11 : (((n : Nat) : Int) == 11) = false := by (simp; omega)
        have b15 : (((n : Nat) : Int) == 15) = false := by (simp; omega)
        have b4 : (((n : Nat) : Int) == 4) = false := by (simp; omega)
        have b8 : (((n : Nat) : Int) == 8) = true := by rw [h_]; rfl
        have b12 : (((n : Nat) : Int) == 12) = false := by (simp; omega)
        have hcb : onetime_Clamp.cB n (bt a0 (n : Int)) = Go.bits .and .u8 (bt a0 (n : Int)) 252 := by unfold onetime_Clamp.cB; rw [if_neg (by omega), if_pos (by omega)]
        have HCB := Lib.hid hcb
        clear hcb h_
        go_wp2_with fail
        go_round
        case rel => exact ⟨n + 1, hlt, by go_num, ⟨onetime_Clamp.stored hlt HX.out HCB.out⟩, ⟨fun j hj => (World.frozen?_setCell _ _ _ _).trans (HF.out j hj)⟩, ⟨HB.out.setCell (p := ⟨g, n, none⟩) LG.out _⟩⟩
        case measure => simp [intOf]; omega
      · have b0 := trivial
        have b3 : (((n : Nat) : Int) == 3) = false := by (simp; omega)
        have b7 : (((n : Nat) : Int) == 7) = false := by (simp; omega)
        have b11 : (((n : Nat) : Int) == 11) = false := by (simp; omega)
        have b15 : (((n : Nat) : Int) == 15) = false := by (simp; omega)
        have b4 : (((n : Nat) : Int) == 4) = false := by (simp; omega)
        have b8 : (((n : Nat) : Int) == 8) = false := by (simp; omega)
        have b12 : (((n : Nat) : Int) == 12) = true := by rw [h_]; rfl
        have hcb : onetime_Clamp.cB n (bt a0 (n : Int)) = Go.bits .and .u8 (bt a0 (n : Int)) 252 := by unfold onetime_Clamp.cB; rw [if_neg (by omega), if_pos (by omega)]
        have HCB := Lib.hid hcb
        clear hcb h_
        go_wp2_with fail
        go_round
        case rel => exact ⟨n + 1, hlt, by go_num, ⟨onetime_Clamp.stored hlt HX.out HCB.out⟩, ⟨fun j hj => (World.frozen?_setCell _ _ _ _).trans (HF.out j hj)⟩, ⟨HB.out.setCell (p := ⟨g, n, none⟩) LG.out _⟩⟩
        case measure => simp [intOf]; omega
      · have b0 := trivial
        have b3 : (((n : Nat) : Int) == 3) = false := by (simp; omega)
        have b7 : (((n : Nat) : Int) == 7) = false := by (simp; omega)
        have b11 : (((n : Nat) : Int) == 11) = false := by (simp; omega)
        have b15 : (((n : Nat) : Int) == 15) = false := by (simp; omega)
        have b4 : (((n : Nat) : Int) == 4) = false := by (simp; omega)
        have b8 : (((n : Nat) : Int) == 8) = false := by (simp; omega)
        have b12 : (((n : Nat) : Int) == 12) = false := by (simp; omega)
        have hcb : onetime_Clamp.cB n (bt a0 (n : Int)) = bt a0 (n : Int) := by unfold onetime_Clamp.cB; rw [if_neg (by omega), if_neg (by omega)]
        have HCB := Lib.hid hcb
        clear hcb h_
        go_wp2_with fail
        go_round
        case rel => exact ⟨n + 1, hlt, by go_num, ⟨onetime_Clamp.same HX.out HCB.out⟩, ⟨HF.out⟩, ⟨HB.out⟩⟩
        case measure => simp [intOf]; omega
    · obtain rfl : n = 16 := by omega
      have hcv := run_convert_bytes_arg (P := Try.prog) wr 30 5 Try.underlying30 Try.underlying5 g 0 16 cap (onetime_Clamp.out a0) (by simp [onetime_Clamp.out]) (fun j hj => by
        rw [Nat.zero_add, HX.out j hj, if_pos hj, onetime_Clamp.getD_out a0 j hj]) 9 Try.underlying9
      go_wp2_with fail
      go_ret2
      exact ⟨onetime_Clamp.ret_ HR.out true, HB.out⟩


/-! ### octet_Little: function 19 -/
def octet_Little.l0 : Nat → ByteArray → Int → Int → Option (Int)
  | 0, _, _, _ => none
  | k + 1, x0, x3, x4 => if x4 ≥ 0 then (if 0 ≤ x4 then (if x4 < (x0.size : Int) then (octet_Little.l0 k x0 (Go.bits .or .u64 (IntKind.u64.wrap (x3 * 256)) (IntKind.u64.wrap (bt x0 x4))) (wrap64 (x4 - 1))) else (none)) else (none)) else (some x3)
def octet_Little.f (k : Nat) (a0 : ByteArray) : Option (Int) := octet_Little.l0 k a0 0 ((mn (a0.size : Int) 8) - 1)
theorem octet_Little.mono_l : ∀ k, (∀ y0 y1 y2, LeO (octet_Little.l0 k y0 y1 y2) (octet_Little.l0 (k + 1) y0 y1 y2))
  | 0 => fun _ _ _ r h => by simp [octet_Little.l0] at h
  | k + 1 => by
    have ih0 := octet_Little.mono_l k
    · intro y0 y1 y2
      unfold octet_Little.l0
      repeat' first
      | (with_reducible exact ih0 _ _ _)
      | (with_reducible exact LeO.refl _)
      | (with_reducible exact LeO.none _)
      | (with_reducible refine LeO.ite ?_ ?_)
      | (with_reducible refine LeO.bind ?_ (fun _ => ?_))
      | exact ih0 _ _ _
      | exact LeO.none _
      | refine LeO.ite ?_ ?_
      | refine LeO.bind ?_ (fun _ => ?_)
theorem octet_Little.mono : ∀ a0 k, LeO (octet_Little.f k a0) (octet_Little.f (k + 1) a0) := by
  intro a0 k
  have ih0 := octet_Little.mono_l k
  unfold octet_Little.f
  repeat' first
      | (with_reducible exact ih0 _ _ _)
      | (with_reducible exact LeO.refl _)
      | (with_reducible exact LeO.none _)
      | (with_reducible refine LeO.ite ?_ ?_)
      | (with_reducible refine LeO.bind ?_ (fun _ => ?_))
      | exact ih0 _ _ _
      | exact LeO.none _
      | refine LeO.ite ?_ ?_
      | refine LeO.bind ?_ (fun _ => ?_)
set_option maxHeartbeats 8000000 in
set_option maxRecDepth 100000 in
theorem octet_Little.calls (k : Nat) (a0 : ByteArray) (r : Int) (w : World) (h : octet_Little.f k a0 = some r) :
    Calls Try.prog 19 #[.string a0] w fun e w' => e = .returned (.int .u64 r) ∧ Below w.heap.size w w' := by
  have HB := Aside0.mk (Below.refl w.heap.size w)
  have H : (octet_Little.l0 k a0 0 ((mn (a0.size : Int) 8) - 1)) = some r := h
  clear h
  obtain ⟨ji2, hji2⟩ : ∃ j_ : Int, (mn (a0.size : Int) 8) = j_ := ⟨_, rfl⟩
  replace H : (octet_Little.l0 k a0 0 ((ji2) - 1)) = some r := by first | (rw [hji2] at H; exact H) | (simp only [hji2] at H ⊢; exact H)
  (try (have hji2h : ji2 ≤ 8 := by (rw [← hji2]; unfold mn; (repeat' split) <;> omega)))
  (try (have hji2g : ji2 ≤ 64 := by omega))
  (try (have hji2l : 0 ≤ ji2 := by (rw [← hji2]; unfold mn; (repeat' split) <;> omega)))
  (try (have hji2m : 0 ≤ ji2 := by omega))
  have hji2_ : (if 8 < (a0.size : Int) then 8 else (a0.size : Int)) = ji2 := hji2
  (try (have hji2_n := hji2_; simp only [Int.ofNat_lt] at hji2_n))
  have H' := Aside0.mk H
  clear H
  go_enter Try.func19, Try.ntmps19
  go_wp2
  go_loopg [3, 4] k (fun kq v3 v4 w' => ∃ (x3_1 : Int) (x4_1 : Int), v3 = .int .u64 x3_1 ∧ v4 = .int .i64 x4_1 ∧ Aside0 (octet_Little.l0 kq a0 x3_1 x4_1 = some r) ∧ Aside0 (kq ≤ k) ∧ Aside0 (Below w.heap.size w w'))
  case atStart => exact ⟨(0), ((ji2) - 1), (by first | rfl | (simp; done) | (simp [*]; done)), (by first | rfl | (simp; done) | (simp only [← hji2] <;> (first | rfl | simp)) | (simp [*]; done)), H', ⟨Nat.le_refl _⟩, ⟨by repeat (first | (with_reducible first | exact HB.out | apply below_alloc | apply pw_below_drewN | apply below_drew1) | exact HB.out)⟩⟩
  case round =>
    clear H'
    try clear c1
    try clear p2
    obtain ⟨x3_1, x4_1, rfl, rfl, HA, HK1, HB⟩ := hrel
    cases gk with
    | zero => exact absurd HA.out (by simp [octet_Little.l0])
    | succ k1 =>
      have H := HA.out
      clear HA
      simp only [octet_Little.l0] at H
      by_cases c3 : x4_1 ≥ 0
      · rw [if_pos c3] at H
        have c3b0 : decide (0 ≤ x4_1) = true := decide_eq_true c3
        clear c3
        by_cases c4 : 0 ≤ x4_1
        · rw [if_pos c4] at H
          have c4b0 : decide (0 ≤ x4_1) = true := decide_eq_true c4
          clear c4
          by_cases c5 : x4_1 < (a0.size : Int)
          · rw [if_pos c5] at H
            have c5b0 : decide (x4_1 < (a0.size : Int)) = true := decide_eq_true c5
            clear c5
            have H' := Aside0.mk H
            clear H
            have p6 : 0 ≤ (x4_1 : Int) := of_decide_eq_true (by first | (with_reducible assumption) | assumption)
            have q6 : x4_1 < (a0.size : Int) := of_decide_eq_true (by first | (with_reducible assumption) | assumption)
            have hx6 := bt_at a0 x4_1
            replace p6 := eq_true p6
            replace q6 := eq_true q6
            go_wp2
            go_roundg k1
            case measure => have := HK1.out; omega
            case rel => exact ⟨(Go.bits .or .u64 (IntKind.u64.wrap (x3_1 * 256)) (IntKind.u64.wrap (bt a0 x4_1))), (wrap64 (x4_1 - 1)), (by first | rfl | (simp; done) | (simp [*]; done)), (by first | rfl | (simp; done) | (simp [*]; done)), H', ⟨by have := HK1.out; omega⟩, ⟨by repeat (first | (with_reducible first | exact HB.out | apply below_alloc | apply pw_below_drewN | apply below_drew1) | exact HB.out)⟩⟩
          · rw [if_neg c5] at H
            exact absurd H (by simp)
        · rw [if_neg c4] at H
          exact absurd H (by simp)
      · rw [if_neg c3] at H
        have c3b0 : decide (0 ≤ x4_1) = false := decide_eq_false c3
        clear c3
        obtain rfl := Option.some.inj H
        go_wp2
        go_ret
        exact ⟨by first | rfl | (simp [errW_none, errW_some] <;> rfl) | (simp only [← hji2]; first | rfl | (simp [errW_none, errW_some] <;> rfl)) | (simp [*, errW_none, errW_some] <;> rfl), by repeat (first | (with_reducible first | exact HB.out | apply below_alloc | apply pw_below_drewN | apply below_drew1) | exact HB.out)⟩

end Go.Proofs.Ytagoibmemonkaaa.P
