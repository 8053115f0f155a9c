-- Written by wip/inj.py (the kit's print, with contracts typed by hand beside it).
import Derived.Test.YtagoibmemonkaaaPx0
import Derived.Test.YtagoibmemonkaaaPx3
import Derived.Test.YtagoibmemonkaaaPx4
namespace Go.Proofs.Ytagoibmemonkaaa.P
open Go.RowKit Go.Proofs.YtagoibmemonkaaaW.PrintWords Go.Proofs.YtagoibmemonkaaaW.PrintLast Go.Proofs.YtagoibmemonkaaaW.PrintMore
attribute [local go_sem] max2_int min2_int max_two min_two max_three min_three max_four min_four   -- for this text's walks alone
set_option linter.unusedVariables false
set_option linter.unusedSimpArgs false

/-! ### octet_Hex: function 17 (by hand) -/

def octet_Hex.D : ByteArray := (⟨#[48, 49, 50, 51, 52, 53, 54, 55, 56, 57, 97, 98, 99, 100, 101, 102]⟩ : ByteArray)
def octet_Hex.hx (c : UInt8) : List Int := [bt octet_Hex.D ((c.toNat : Int) / 16), bt octet_Hex.D ((c.toNat : Int) % 16)]
theorem octet_Hex.hx_len (l : List UInt8) : (l.flatMap octet_Hex.hx).length = 2 * l.length := by
  induction l with
  | nil => rfl
  | cons c l ih => rw [List.flatMap_cons, List.length_append, ih]; simp [octet_Hex.hx]; omega
theorem octet_Hex.ret_ {a b : ByteArray} (h : a = b) : Ending.returned (.string a) = .returned (.string b) := by rw [h]
theorem octet_Hex.snoc (s : ByteArray) (k : Nat) (h : k < s.size) : (s.data.toList.take (k + 1)).flatMap octet_Hex.hx = (s.data.toList.take k).flatMap octet_Hex.hx ++ octet_Hex.hx s[k] := by
  rw [List.take_succ_eq_append_getElem (by simpa using h), List.flatMap_append]; simp; rfl
def octet_Hex.f (a0 : ByteArray) : Option ByteArray := if a0.size ≤ 1000000 then some (strOfNums (a0.data.toList.flatMap octet_Hex.hx)) else none
set_option maxHeartbeats 4000000 in
set_option maxRecDepth 100000 in
theorem octet_Hex.calls (a0 : ByteArray) (r : ByteArray) (w : World) (h : octet_Hex.f a0 = some r) :
    Calls Try.prog 17 #[.string a0] w fun e w' => e = .returned (.string r) ∧ Below w.heap.size w w' := by
  unfold octet_Hex.f at h
  split at h
  case isFalse => cases h
  case isTrue hsz =>
  injection h with h
  have HR := Lib.hid h
  clear h
  have HC := Lib.hid (fun (w : World) (s : ByteArray) => Lib.run_convert_string_bytes (P := Try.prog) w 9 30 5 s Try.underlying9 Try.underlying30 Try.underlying5)
  go_enter Try.func17, Try.ntmps17
  go_wp2_with (((with_reducible refine gate_dst (N := 9) rfl ?_); refine R_makecap (Kd.int .u8) _ 5 rfl (N := 9) rfl 30 _ _ rfl (2 * (a0.size : Int)) rfl rfl Try.underlying30 (.int .u8 0) 1 info5 rfl (by decide) (by omega) 0 (ok := fun _ => True) (okp := fun _ => False) rfl (fun _ hk => hk.elim) trivial (by omega) (by omega) (Below.refl _ _) (Nat.le_refl _) ?_; intro v1 w1 ho hb hg hat))
  rw [HC.out]
  have HB := Aside0.mk (bytes_below hb (by have := hb.size; omega) 5 a0)
  have HO := Aside0.mk (Kd.R_below (Kd.R_elderB ho w1.heap.size (Nat.le_refl _)) (bytes_below (Below.refl _ _) (Nat.le_refl _) 5 a0))
  have HX := Aside0.mk (Lib.bytesWorld_cell w1 5 a0)
  have HS := Aside0.mk (show w1.heap.size < (Lib.bytesWorld w1 5 a0).heap.size by rw [Lib.bytesWorld_size]; omega)
  generalize grownCap w1 _ 0 5 = cap
  generalize Lib.bytesWorld w1 5 a0 = WB at *
  generalize w1.heap.size = g at *
  clear ho hb hg hat HC
  go_wp2_with fail
  go_loopw [3, 13] (fun v3 v13 wr => ∃ k : Nat, k ≤ a0.size ∧ v13 = .int .i64 k ∧ Aside0 (Kd.R (Kd.int .u8) 5 wr w.heap.size (fun b => True ∧ b ≠ g) v3 ((a0.data.toList.take k).flatMap octet_Hex.hx)) ∧ Aside0 (Below w.heap.size w wr) ∧ Aside0 (∀ j, j < a0.size → wr.cell? ⟨g, j, none⟩ = some (.int .u8 (a0.data.toList.getD j 0).toNat)) ∧ Aside0 (g < wr.heap.size)) (fun _ v13 _ => a0.size - (intOf v13).toNat)
  case atStart => exact ⟨0, Nat.zero_le _, rfl, HO, HB, HX, HS⟩
  case round =>
    clear HO HB HX HS
    obtain ⟨k, hk, rfl, HO, HB, HX, HS⟩ := hrel
    by_cases hlt : k < a0.size
    · have hc := HX.out k hlt
      go_wp2_with fail
      have HE := Lib.hid (octet_Hex.snoc a0 k hlt)
      generalize hcg : a0.data[k] = c8 at *
      have hcg' : a0[k] = c8 := hcg
      have b1 : (0 : Int) ≤ (c8.toNat : Int) / 16 := by omega
      have b2 : (c8.toNat : Int) / 16 < 16 := by have := c8.toNat_lt; omega
      have b3 : ∀ h : ((c8.toNat : Int) / 16).toNat < (⟨#[48, 49, 50, 51, 52, 53, 54, 55, 56, 57, 97, 98, 99, 100, 101, 102]⟩ : ByteArray).size, (((⟨#[48, 49, 50, 51, 52, 53, 54, 55, 56, 57, 97, 98, 99, 100, 101, 102]⟩ : ByteArray)[((c8.toNat : Int) / 16).toNat]'h).toNat : Int) = bt octet_Hex.D ((c8.toNat : Int) / 16) := bt_at octet_Hex.D ((c8.toNat : Int) / 16)
      have b4 : (0 : Int) ≤ (c8.toNat : Int) % 16 := by omega
      have b5 : (c8.toNat : Int) % 16 < 16 := by omega
      have b6 : ∀ h : ((c8.toNat : Int) % 16).toNat < (⟨#[48, 49, 50, 51, 52, 53, 54, 55, 56, 57, 97, 98, 99, 100, 101, 102]⟩ : ByteArray).size, (((⟨#[48, 49, 50, 51, 52, 53, 54, 55, 56, 57, 97, 98, 99, 100, 101, 102]⟩ : ByteArray)[((c8.toNat : Int) % 16).toNat]'h).toNat : Int) = bt octet_Hex.D ((c8.toNat : Int) % 16) := bt_at octet_Hex.D ((c8.toNat : Int) % 16)
      have b7 : Go.bits .and .u8 (c8.toNat : Int) 15 = (c8.toNat : Int) % 16 := u8_and15 _ (by omega) (by have := c8.toNat_lt; omega)
      have HO1 := Aside0.mk (Kd.R_drew HO.out)
      have HB1 := Aside0.mk (below_drew1 HB.out)
      have HX1 := Aside0.mk (show ∀ j, j < a0.size → wr.drew.cell? ⟨g, j, none⟩ = some (.int .u8 (a0.data.toList.getD j 0).toNat) from fun j hj => HX.out j hj)
      have HS1 := Aside0.mk (show g < wr.drew.heap.size from HS.out)
      clear HO HB HX HS hc
      refine start_ (n := 10) (S := fun w' => True) (ds := []) #[false, false, false, false, false, false, false, false, false, false] (by kernel_rfl) rfl rfl trivial (fun hHeld => ?_)
      generalize wr.drew = w2 at *
      refine pure_ (i := 0) (N := some 17) (v := ?_) (a' := ?_) #[true, false, false, false, false, false, false, false, false, false] rfl rfl (by kernel_rfl) (fun _ _ _ h => h) (Or.inl ⟨by rfl, ?_⟩) ?_ ?_
      rotate_left
      · intro w'
        go_simp
        with_reducible rfl
      rotate_left
      · simp only [Act.put, List.setIfInBounds_toArray, List.set_cons_zero, List.set_cons_succ, i64_w, i32_w, IntKind.wrap_u32]
        rfl
      refine pure_ (i := 1) (N := some 18) (v := ?_) (a' := ?_) #[true, true, false, false, false, false, false, false, false, false] rfl rfl (by kernel_rfl) (fun _ _ _ h => h) (Or.inl ⟨by rfl, ?_⟩) ?_ ?_
      rotate_left
      · intro w'
        go_simp
        with_reducible rfl
      rotate_left
      · simp only [Act.put, List.setIfInBounds_toArray, List.set_cons_zero, List.set_cons_succ, i64_w, i32_w, IntKind.wrap_u32]
        rfl
      refine pure_ (i := 4) (N := some 21) (v := ?_) (a' := ?_) #[true, true, false, false, true, false, false, false, false, false] rfl rfl (by kernel_rfl) (fun _ _ _ h => h) (Or.inl ⟨by rfl, ?_⟩) ?_ ?_
      rotate_left
      · intro w'
        go_simp
        with_reducible rfl
      rotate_left
      · simp only [Act.put, List.setIfInBounds_toArray, List.set_cons_zero, List.set_cons_succ, i64_w, i32_w, IntKind.wrap_u32]
        rfl
      refine pure_ (i := 2) (N := some 19) (v := ?_) (a' := ?_) #[true, true, true, false, true, false, false, false, false, false] rfl rfl (by kernel_rfl) (fun _ _ _ h => h) (Or.inl ⟨by rfl, ?_⟩) ?_ ?_
      rotate_left
      · intro w'
        go_simp
        with_reducible rfl
      rotate_left
      · simp only [Act.put, List.setIfInBounds_toArray, List.set_cons_zero, List.set_cons_succ, i64_w, i32_w, IntKind.wrap_u32]
        rfl
      refine pure_ (i := 5) (N := some 22) (v := ?_) (a' := ?_) #[true, true, true, false, true, true, false, false, false, false] rfl rfl (by kernel_rfl) (fun _ _ _ h => h) (Or.inl ⟨by rfl, ?_⟩) ?_ ?_
      rotate_left
      · intro w'
        go_simp
        with_reducible rfl
      rotate_left
      · simp only [Act.put, List.setIfInBounds_toArray, List.set_cons_zero, List.set_cons_succ, i64_w, i32_w, IntKind.wrap_u32]
        rfl
      refine take_ (i := 3) (N := some 20) (v := ?_) (a' := ?_) #[true, true, true, true, true, true, false, false, false, false] rfl rfl (by kernel_rfl) (fun _ _ _ h => h) (Or.inl ⟨by rfl, ?_⟩) hHeld ?_ ?_
      rotate_left
      · intro w' _
        go_simp
        with_reducible rfl
      rotate_left
      · simp only [Act.put, List.setIfInBounds_toArray, List.set_cons_zero, List.set_cons_succ, i64_w, i32_w, IntKind.wrap_u32]
        rfl
      refine take_ (i := 6) (N := some 23) (v := ?_) (a' := ?_) #[true, true, true, true, true, true, true, false, false, false] rfl rfl (by kernel_rfl) (fun _ _ _ h => h) (Or.inl ⟨by rfl, ?_⟩) hHeld ?_ ?_
      rotate_left
      · intro w' _
        go_simp
        with_reducible rfl
      rotate_left
      · simp only [Act.put, List.setIfInBounds_toArray, List.set_cons_zero, List.set_cons_succ, i64_w, i32_w, IntKind.wrap_u32]
        rfl
      refine one_ (i := 7) (N := some 24) #[true, true, true, true, true, true, true, true, false, false] rfl rfl (by kernel_rfl) (by decide) (fun K hK => ?_)
      refine Kd.R_lit_step (Kd.int .u8) _ 5 ?hg (N := 24) ?hd (xs := octet_Hex.hx c8) (inner := [.int .u8 (bt octet_Hex.D ((c8.toNat : Int) / 16)), .int .u8 (bt octet_Hex.D ((c8.toNat : Int) % 16))]) (ok := fun _ => True) (okp := fun _ => True) ?hr ?hp (fun _ hk => hk) trivial (Below.refl _ _) (Nat.le_refl _) (by simp [octet_Hex.hx]) ?_
      case hd => rfl
      case hg => rfl
      case hr => first | (go_simp; done) | (go_simp; rfl)
      case hp => exact (Reps.one (show Kd.M (Kd.int .u8) _ _ _ (bt octet_Hex.D ((c8.toNat : Int) / 16)) [.int .u8 (bt octet_Hex.D ((c8.toNat : Int) / 16))] from rfl) (Reps.one (show Kd.M (Kd.int .u8) _ _ _ (bt octet_Hex.D ((c8.toNat : Int) % 16)) [.int .u8 (bt octet_Hex.D ((c8.toNat : Int) % 16))] from rfl) (Reps.none _ _)))
      intro v2 w3 ho hb hg hat
      obtain ⟨A2, c2, e2⟩ := Kd.R_slice ho
      subst e2
      have HO2 := Aside0.mk (Kd.R_mono (Kd.R_elder' HO1.out (Kd.R_base ho) hb) (fun _ hk => hk.1))
      have HL2 := Aside0.mk (Kd.R_reads' ho).2.2
      have HB2 := Aside0.mk (below_step HB1.out hb)
      have HX2 := Aside0.mk (fun j (hj : j < a0.size) => (hb.cell (p := ⟨g, j, none⟩) HS1.out).trans (HX1.out j hj))
      have HS2 := Aside0.mk (Nat.lt_of_lt_of_le HS1.out hb.size)
      clear HO1 HB1 HX1 HS1 ho hb hg hat
      refine hK.out _ _ trivial (fun hHeld => ?_)
      clear hK K
      refine norm_ (a' := ?_) ?_ ?_
      rotate_left
      · show Act.put _ (some 24) _ = _
        simp only [Act.put, List.setIfInBounds_toArray, List.set_cons_zero, List.set_cons_succ, i64_w, i32_w, IntKind.wrap_u32]
        rfl
      refine one_ (i := 8) (N := some 25) #[true, true, true, true, true, true, true, true, true, false] rfl rfl (by kernel_rfl) (by decide) (fun K hK => ?_)
      refine Kd.R_append_rows_step (Kd.int .u8) (w0 := w) w.heap.size (by rfl) (.tmp 17) (.tmp 24) 30 5 (.int .u8 0) 1 rfl Try.underlying30 info5 rfl (by decide) (by omega) u3 ((a0.data.toList.take k).flatMap octet_Hex.hx) (octet_Hex.hx c8) _ _ _ (fun b => True ∧ b ≠ g) (fun _ => False) rfl rfl HO2.out HL2.out (fun _ _ h => h) (fun _ h => h.elim) ?aF HB2.out ?aS ?aL ?_
      case aF => exact fun b hb => ⟨trivial, by have := HS2.out; omega⟩
      case aS => exact HB2.out.size
      case aL =>
        have := octet_Hex.hx_len (a0.data.toList.take k)
        rw [List.length_take] at this
        have h2 : (octet_Hex.hx c8).length = 2 := rfl
        omega
      intro v4 w4 ho4 hb4 hg4 hat4
      refine hK.out _ _ trivial (fun hHeld => ?_)
      clear hK K
      refine norm_ (a' := ?_) ?_ ?_
      rotate_left
      · show Act.put _ (some 25) _ = _
        simp only [Act.put, List.setIfInBounds_toArray, List.set_cons_zero, List.set_cons_succ, i64_w, i32_w, IntKind.wrap_u32]
        rfl
      refine pure_ (i := 9) (N := some 3) (v := ?_) (a' := ?_) #[true, true, true, true, true, true, true, true, true, true] rfl rfl (by kernel_rfl) (fun _ _ _ h => h) (Or.inl ⟨by rfl, ?_⟩) ?_ ?_
      rotate_left
      · intro w'
        go_simp
        with_reducible rfl
      rotate_left
      · simp only [Act.put, List.setIfInBounds_toArray, List.set_cons_zero, List.set_cons_succ, i64_w, i32_w, IntKind.wrap_u32]
        rfl
      refine done_ (by kernel_rfl) ?_
      go_wp2_with fail
      go_round
      case rel =>
        refine ⟨k + 1, hlt, by go_num, ⟨?_⟩, ⟨hb4⟩, ⟨fun j hj => ?_⟩, ⟨Nat.lt_of_lt_of_le HS2.out hg4.size⟩⟩
        · rw [HE.out, hcg']; exact ho4
        · have hne : some g ≠ u3.ownBlock := fun h => (HO2.out.1 g h.symm).2 rfl
          have := hg4.block g HS2.out hne
          rw [← HX2.out j hj]
          simp [World.cell?, this]
      case measure => simp [intOf]; omega
    · have hk2 : k = a0.size := by omega
      have hcv := own_string (P := Try.prog) Try.underlying30 Try.underlying5 Try.underlying9 (Kd.own_of_R HO.out)
      have HE := Lib.hid (show strOfNums ((a0.data.toList.take k).flatMap octet_Hex.hx) = r by rw [← HR.out, List.take_of_length_le (by simp; omega)])
      clear hk2
      go_wp2_with fail
      go_ret
      exact ⟨octet_Hex.ret_ HE.out, HB.out⟩


/-! ### escutcheonlaw6_alive: function 9 -/
def escutcheonlaw6_alive.f (k : Nat)  : Option (Bool) := (octet_Unhex.f k (⟨#[56, 53, 100, 54, 98, 101, 55, 56, 53, 55, 53, 53, 54, 100, 51, 51, 55, 102, 52, 52, 53, 50, 102, 101, 52, 50, 100, 53, 48, 54, 97, 56, 48, 49, 48, 51, 56, 48, 56, 97, 102, 98, 48, 100, 98, 50, 102, 100, 52, 97, 98, 102, 102, 54, 97, 102, 52, 49, 52, 57, 102, 53, 49, 98]⟩ : ByteArray)).bind fun bt113 => ((onetime_Tag.f k bt113.1 (⟨#[67, 114, 121, 112, 116, 111, 103, 114, 97, 112, 104, 105, 99, 32, 70, 111, 114, 117, 109, 32, 82, 101, 115, 101, 97, 114, 99, 104, 32, 71, 114, 111, 117, 112]⟩ : ByteArray)).bind fun bt115 => (if bt115.2 = true then ((octet_Hex.f bt115.1).bind fun t117 => (some (t117.toList == ([97, 56, 48, 54, 49, 100, 99, 49, 51, 48, 53, 49, 51, 54, 99, 54, 99, 50, 50, 98, 56, 98, 97, 102, 48, 99, 48, 49, 50, 55, 97, 57] : List UInt8)))) else (none)))
theorem escutcheonlaw6_alive.mono : ∀ k, LeO (escutcheonlaw6_alive.f k ) (escutcheonlaw6_alive.f (k + 1) ) := by
  intro  k
  unfold escutcheonlaw6_alive.f
  repeat' first
      | (with_reducible exact octet_Unhex.mono _ _)
      | (with_reducible exact onetime_Tag.mono _ _ _)
      | (with_reducible exact LeO.refl _)
      | (with_reducible exact LeO.none _)
      | (with_reducible refine LeO.ite ?_ ?_)
      | (with_reducible refine LeO.bind ?_ (fun _ => ?_))
      | exact octet_Unhex.mono _ _
      | exact onetime_Tag.mono _ _ _
      | exact LeO.none _
      | refine LeO.ite ?_ ?_
      | refine LeO.bind ?_ (fun _ => ?_)
set_option maxHeartbeats 8000000 in
set_option maxRecDepth 100000 in
theorem escutcheonlaw6_alive.calls (k : Nat)  (r : Bool) (w : World) (h : escutcheonlaw6_alive.f k  = some r) :
    Calls Try.prog 9 #[] w fun e w' => e = .returned (.bool r) ∧ Below w.heap.size w w' := by
  have HB := Aside0.mk (Below.refl w.heap.size w)
  have H : ((octet_Unhex.f k (⟨#[56, 53, 100, 54, 98, 101, 55, 56, 53, 55, 53, 53, 54, 100, 51, 51, 55, 102, 52, 52, 53, 50, 102, 101, 52, 50, 100, 53, 48, 54, 97, 56, 48, 49, 48, 51, 56, 48, 56, 97, 102, 98, 48, 100, 98, 50, 102, 100, 52, 97, 98, 102, 102, 54, 97, 102, 52, 49, 52, 57, 102, 53, 49, 98]⟩ : ByteArray)).bind fun bt113 => ((onetime_Tag.f k bt113.1 (⟨#[67, 114, 121, 112, 116, 111, 103, 114, 97, 112, 104, 105, 99, 32, 70, 111, 114, 117, 109, 32, 82, 101, 115, 101, 97, 114, 99, 104, 32, 71, 114, 111, 117, 112]⟩ : ByteArray)).bind fun bt115 => (if bt115.2 = true then ((octet_Hex.f bt115.1).bind fun t117 => (some (t117.toList == ([97, 56, 48, 54, 49, 100, 99, 49, 51, 48, 53, 49, 51, 54, 99, 54, 99, 50, 50, 98, 56, 98, 97, 102, 48, 99, 48, 49, 50, 55, 97, 57] : List UInt8)))) else (none)))) = some r := h
  clear h
  replace H := Option.bind_eq_some_iff.mp H
  obtain ⟨⟨t113, t114⟩, A10, H⟩ := H
  replace H : ((onetime_Tag.f k t113 (⟨#[67, 114, 121, 112, 116, 111, 103, 114, 97, 112, 104, 105, 99, 32, 70, 111, 114, 117, 109, 32, 82, 101, 115, 101, 97, 114, 99, 104, 32, 71, 114, 111, 117, 112]⟩ : ByteArray)).bind fun bt115 => (if bt115.2 = true then ((octet_Hex.f bt115.1).bind fun t117 => (some (t117.toList == ([97, 56, 48, 54, 49, 100, 99, 49, 51, 48, 53, 49, 51, 54, 99, 54, 99, 50, 50, 98, 56, 98, 97, 102, 48, 99, 48, 49, 50, 55, 97, 57] : List UInt8)))) else (none))) = some r := H
  have A1 := Aside0.mk A10
  clear A10
  replace H := Option.bind_eq_some_iff.mp H
  obtain ⟨⟨t115, t116⟩, A20, H⟩ := H
  replace H : (if t116 = true then ((octet_Hex.f t115).bind fun t117 => (some (t117.toList == ([97, 56, 48, 54, 49, 100, 99, 49, 51, 48, 53, 49, 51, 54, 99, 54, 99, 50, 50, 98, 56, 98, 97, 102, 48, 99, 48, 49, 50, 55, 97, 57] : List UInt8)))) else (none)) = some r := H
  have A2 := Aside0.mk A20
  clear A20
  by_cases c3 : t116 = true
  · subst c3
    have H1 : ((octet_Hex.f t115).bind fun t117 => (some (t117.toList == ([97, 56, 48, 54, 49, 100, 99, 49, 51, 48, 53, 49, 51, 54, 99, 54, 99, 50, 50, 98, 56, 98, 97, 102, 48, 99, 48, 49, 50, 55, 97, 57] : List UInt8)))) = some r := by rw [if_pos rfl] at H; exact H
    clear H
    have H := H1
    clear H1
    replace H := Option.bind_eq_some_iff.mp H
    obtain ⟨t117, A40, H⟩ := H
    replace H : (some (t117.toList == ([97, 56, 48, 54, 49, 100, 99, 49, 51, 48, 53, 49, 51, 54, 99, 54, 99, 50, 50, 98, 56, 98, 97, 102, 48, 99, 48, 49, 50, 55, 97, 57] : List UInt8))) = some r := H
    have A4 := Aside0.mk A40
    clear A40
    obtain rfl := Option.some.inj H
    go_enter Try.func9, Try.ntmps9
    go_wp2_with (first | ((with_reducible refine gate_callee (f := 16) rfl ?_); refine goesL_ (some 6) rfl rfl Try.func16 (by kernel_rfl) rfl #[.string (⟨#[56, 53, 100, 54, 98, 101, 55, 56, 53, 55, 53, 53, 54, 100, 51, 51, 55, 102, 52, 52, 53, 50, 102, 101, 52, 50, 100, 53, 48, 54, 97, 56, 48, 49, 48, 51, 56, 48, 56, 97, 102, 98, 48, 100, 98, 50, 102, 100, 52, 97, 98, 102, 102, 54, 97, 102, 52, 49, 52, 57, 102, 53, 49, 98]⟩ : ByteArray)] rfl (by (try simp only [List.map_toArray, List.map_cons, List.map_nil]); first | done | rfl | (simp only [List.length_drop, List.length_take]; rfl)) ?_; (with_reducible refine (octet_Unhex.calls k (⟨#[56, 53, 100, 54, 98, 101, 55, 56, 53, 55, 53, 53, 54, 100, 51, 51, 55, 102, 52, 52, 53, 50, 102, 101, 52, 50, 100, 53, 48, 54, 97, 56, 48, 49, 48, 51, 56, 48, 56, 97, 102, 98, 48, 100, 98, 50, 102, 100, 52, 97, 98, 102, 102, 54, 97, 102, 52, 49, 52, 57, 102, 53, 49, 98]⟩ : ByteArray) t113 t114 _ A1.out).mono ?_); rintro e w5 ⟨rfl, hb⟩; refine ⟨_, rfl, ?_⟩; have n0_ := Aside0.mk (below_step (by repeat (first | (with_reducible first | exact HB.out | apply below_alloc | apply pw_below_drewN | apply below_drew1) | exact HB.out)) hb); clear HB; have HB := n0_; clear n0_; (try clear hb); (try clear hb2); (try clear hk); (try clear hi)) | ((with_reducible refine gate_callee (f := 11) rfl ?_); refine goesL_ (some 11) rfl rfl Try.func11 (by kernel_rfl) rfl #[.string t113, .string (⟨#[67, 114, 121, 112, 116, 111, 103, 114, 97, 112, 104, 105, 99, 32, 70, 111, 114, 117, 109, 32, 82, 101, 115, 101, 97, 114, 99, 104, 32, 71, 114, 111, 117, 112]⟩ : ByteArray)] rfl (by (try simp only [List.map_toArray, List.map_cons, List.map_nil]); first | done | rfl | (simp only [List.length_drop, List.length_take]; rfl)) ?_; (with_reducible refine (onetime_Tag.calls k t113 (⟨#[67, 114, 121, 112, 116, 111, 103, 114, 97, 112, 104, 105, 99, 32, 70, 111, 114, 117, 109, 32, 82, 101, 115, 101, 97, 114, 99, 104, 32, 71, 114, 111, 117, 112]⟩ : ByteArray) t115 true _ A2.out).mono ?_); rintro e w6 ⟨rfl, hb⟩; refine ⟨_, rfl, ?_⟩; have n0_ := Aside0.mk (below_step (by repeat (first | (with_reducible first | exact HB.out | apply below_alloc | apply pw_below_drewN | apply below_drew1) | exact HB.out)) hb); clear HB; have HB := n0_; clear n0_; (try clear hb); (try clear hb2); (try clear hk); (try clear hi)) | (go_at_call 17; (with_reducible refine (octet_Hex.calls t115 t117 _ A4.out).mono ?_); rintro e w7 ⟨rfl, hb⟩; have n0_ := Aside0.mk (below_step (by repeat (first | (with_reducible first | exact HB.out | apply below_alloc | apply pw_below_drewN | apply below_drew1) | exact HB.out)) hb); clear HB; have HB := n0_; clear n0_; (try clear hb); (try clear hb2); (try clear hk); (try clear hi)) | (go_at_call 16; (with_reducible refine (octet_Unhex.calls k (⟨#[56, 53, 100, 54, 98, 101, 55, 56, 53, 55, 53, 53, 54, 100, 51, 51, 55, 102, 52, 52, 53, 50, 102, 101, 52, 50, 100, 53, 48, 54, 97, 56, 48, 49, 48, 51, 56, 48, 56, 97, 102, 98, 48, 100, 98, 50, 102, 100, 52, 97, 98, 102, 102, 54, 97, 102, 52, 49, 52, 57, 102, 53, 49, 98]⟩ : ByteArray) t113 t114 _ A1.out).mono ?_); rintro e w5 ⟨rfl, hb⟩; have n0_ := Aside0.mk (below_step (by repeat (first | (with_reducible first | exact HB.out | apply below_alloc | apply pw_below_drewN | apply below_drew1) | exact HB.out)) hb); clear HB; have HB := n0_; clear n0_; (try clear hb); (try clear hb2); (try clear hk); (try clear hi)) | (go_at_call 11; (with_reducible refine (onetime_Tag.calls k t113 (⟨#[67, 114, 121, 112, 116, 111, 103, 114, 97, 112, 104, 105, 99, 32, 70, 111, 114, 117, 109, 32, 82, 101, 115, 101, 97, 114, 99, 104, 32, 71, 114, 111, 117, 112]⟩ : ByteArray) t115 true _ A2.out).mono ?_); rintro e w6 ⟨rfl, hb⟩; have n0_ := Aside0.mk (below_step (by repeat (first | (with_reducible first | exact HB.out | apply below_alloc | apply pw_below_drewN | apply below_drew1) | exact HB.out)) hb); clear HB; have HB := n0_; clear n0_; (try clear hb); (try clear hb2); (try clear hk); (try clear hi)))
    go_ret
    exact ⟨by first | rfl | (simp [errW_none, errW_some] <;> rfl) | (simp [*, errW_none, errW_some] <;> rfl), by repeat (first | (with_reducible first | exact HB.out | apply below_alloc | apply pw_below_drewN | apply below_drew1) | exact HB.out)⟩
  · replace c3 := Bool.eq_false_iff.mpr c3
    subst c3
    have H1 : (none) = some r := by rw [if_neg (show ¬ (false = true) by decide)] at H; exact H
    clear H
    have H := H1
    clear H1
    exact absurd H (by simp)

/-! ### escutcheonlaw5_Fill: function 10 -/
def escutcheonlaw5_Fill.l0 : Nat → ByteArray → Int → Option (ByteArray)
  | 0, _, _ => none
  | k + 1, x0, x1 => if (x0.size : Int) < x1 then (if x0.size + 1 ≤ 9223372036854775807 then (escutcheonlaw5_Fill.l0 k (x0 ++ (⟨#[0]⟩ : ByteArray)) x1) else (none)) else (if 0 ≤ x1 then (if x1 ≤ (x0.size : Int) then (some (x0.extract 0 (x1 : Int).toNat)) else (none)) else (none))
def escutcheonlaw5_Fill.f (k : Nat) (a0 : ByteArray) (a1 : Int) : Option (ByteArray) := escutcheonlaw5_Fill.l0 k a0 a1
theorem escutcheonlaw5_Fill.mono_l : ∀ k, (∀ y0 y1, LeO (escutcheonlaw5_Fill.l0 k y0 y1) (escutcheonlaw5_Fill.l0 (k + 1) y0 y1))
  | 0 => fun _ _ r h => by simp [escutcheonlaw5_Fill.l0] at h
  | k + 1 => by
    have ih0 := escutcheonlaw5_Fill.mono_l k
    · intro y0 y1
      unfold escutcheonlaw5_Fill.l0
      repeat' first
      | (with_reducible exact ih0 _ _)
      | (with_reducible exact LeO.refl _)
      | (with_reducible exact LeO.none _)
      | (with_reducible refine LeO.ite ?_ ?_)
      | (with_reducible refine LeO.bind ?_ (fun _ => ?_))
      | exact ih0 _ _
      | exact LeO.none _
      | refine LeO.ite ?_ ?_
      | refine LeO.bind ?_ (fun _ => ?_)
theorem escutcheonlaw5_Fill.mono : ∀ a0 a1 k, LeO (escutcheonlaw5_Fill.f k a0 a1) (escutcheonlaw5_Fill.f (k + 1) a0 a1) := by
  intro a0 a1 k
  have ih0 := escutcheonlaw5_Fill.mono_l k
  unfold escutcheonlaw5_Fill.f
  repeat' first
      | (with_reducible exact ih0 _ _)
      | (with_reducible exact LeO.refl _)
      | (with_reducible exact LeO.none _)
      | (with_reducible refine LeO.ite ?_ ?_)
      | (with_reducible refine LeO.bind ?_ (fun _ => ?_))
      | exact ih0 _ _
      | exact LeO.none _
      | refine LeO.ite ?_ ?_
      | refine LeO.bind ?_ (fun _ => ?_)
set_option maxHeartbeats 8000000 in
set_option maxRecDepth 100000 in
theorem escutcheonlaw5_Fill.calls (k : Nat) (a0 : ByteArray) (a1 : Int) (r : ByteArray) (w : World) (h : escutcheonlaw5_Fill.f k a0 a1 = some r) :
    Calls Try.prog 10 #[.string a0, .int .i64 a1] w fun e w' => e = .returned (.string r) ∧ Drawn0 w w' := by
  have H : (escutcheonlaw5_Fill.l0 k a0 a1) = some r := h
  clear h
  have H' := Aside0.mk H
  clear H
  go_enter Try.func10, Try.ntmps10
  go_wp2
  go_loopg [0] k (fun kq v0 w' => ∃ (x0_1 : ByteArray), v0 = .string x0_1 ∧ Aside0 (escutcheonlaw5_Fill.l0 kq x0_1 a1 = some r) ∧ Aside0 (kq ≤ k) ∧ Drawn0 w w')
  case atStart => exact ⟨(a0), (by first | rfl | (simp; done) | (simp [*]; done)), H', ⟨Nat.le_refl _⟩, by repeat (first | exact Drawn0.refl _ | apply Drawn0.step)⟩
  case round =>
    clear H'
    try clear c1
    try clear p2
    obtain ⟨x0_1, rfl, HA, HK1, ⟨m1, rfl⟩⟩ := hrel
    cases gk with
    | zero => exact absurd HA.out (by simp [escutcheonlaw5_Fill.l0])
    | succ k1 =>
      have H := HA.out
      clear HA
      simp only [escutcheonlaw5_Fill.l0] at H
      by_cases c3 : (x0_1.size : Int) < a1
      · rw [if_pos c3] at H
        have c3b0 : decide ((x0_1.size : Int) < a1) = true := decide_eq_true c3
        clear c3
        by_cases c4 : x0_1.size + 1 ≤ 9223372036854775807
        · rw [if_pos c4] at H
          have c4b0 := eq_true c4
          have c4b1 : decide (x0_1.size + 1 ≤ 9223372036854775807) = true := decide_eq_true c4
          try have c4b2 : (9223372036854775807 < x0_1.size + 1) = False := eq_false (Nat.not_lt.2 c4)
          have H' := Aside0.mk H
          clear H
          go_wp2
          go_roundg k1
          case measure => have := HK1.out; omega
          case rel => exact ⟨(x0_1 ++ (⟨#[0]⟩ : ByteArray)), (by first | rfl | (simp; done) | (simp [*]; done)), H', ⟨by have := HK1.out; omega⟩, by repeat (first | exact Drawn0.refl _ | apply Drawn0.step)⟩
        · rw [if_neg c4] at H
          exact absurd H (by simp)
      · rw [if_neg c3] at H
        have c3b0 : decide ((x0_1.size : Int) < a1) = false := decide_eq_false c3
        clear c3
        by_cases c5 : 0 ≤ a1
        · rw [if_pos c5] at H
          have c5b0 := eq_true c5
          have c5b1 : decide (0 ≤ a1) = true := decide_eq_true c5
          clear c5
          by_cases c6 : a1 ≤ (x0_1.size : Int)
          · rw [if_pos c6] at H
            have c6b0 := eq_true c6
            have c6b1 : decide (a1 ≤ (x0_1.size : Int)) = true := decide_eq_true c6
            clear c6
            obtain rfl := Option.some.inj H
            go_wp2
            go_ret
            exact ⟨by first | rfl | (simp; done) | (simp [*]; done), by repeat (first | exact Drawn0.refl _ | apply Drawn0.step)⟩
          · rw [if_neg c6] at H
            exact absurd H (by simp)
        · rw [if_neg c5] at H
          exact absurd H (by simp)

end Go.Proofs.Ytagoibmemonkaaa.P
