/- What this text proves serves the claim of its last text: a part of a verified executor, its walks and its runs (W10, XC2, W11, W12, W13, W14, W15, W16). -/
import Derived.Test.YtfaalljnklijjaaGreatDoorQ04
import Derived.KernelRfl
set_option linter.all false
section
namespace Go.Proofs.XCode
open Go.X
set_option linter.unusedSimpArgs false
set_option linter.unusedVariables false
set_option maxRecDepth 10000
theorem repeat_fn : E0.fn 41 = some (.intr 6) := intr_of (by kernel_rfl)
theorem repX_one (c n : Nat) : repX [c] n = List.replicate n c := by
  induction n with
  | zero => rfl
  | succ n ih =>
    show appX [c] (repX [c] n) = _
    rw [ih]; rfl
theorem repeat_ev (c n : Nat) (hn : n ≤ 1000000) (h : XH) : CallEv E0 41 [.str [c], .int .i64 (.ofNat n)] h (fun r k => r = .str (List.replicate n c) ∧ k = h) := by
  refine call_intr' repeat_fn 0 (v := .str (List.replicate n c)) (h' := h) ?_ ⟨rfl, rfl⟩
  have hE : E0.intr = intr := rfl
  have hi : ∀ f, intr f 6 [.str [c], .int .i64 (.ofNat n)] h = iRepeat [.str [c], .int .i64 (.ofNat n)] h := fun f => rfl
  rw [hE, hi]
  simp only [iRepeat, n_ble, n_mul, lenX_eq, List.length_singleton, Nat.one_mul, hn, decide_true, Bool.and_self, cond_true, repX_one]
theorem p_ixAgg (W : List Nat) (n i : Nat) (hn : n = W.length) (hi : i < n) : pIxAgg .one n 1 (.agg (words W)) (.int .i64 (.ofNat i)) = some (.int .u32 (.ofNat (W.getD i 0))) := by
  subst hn
  simp only [pIxAgg, natOf, n_ble, n_succ, Nat.succ_le_of_lt hi, decide_true, cond_true, takeP, n_mul, Nat.mul_one, nth_eq, words_get hi]
noncomputable def outF (W : List Nat) : Nat → List Nat
  | 0 => []
  | i + 1 => outF W i ++ putBig (W.getD i 0) 4
theorem putBig_len (v n : Nat) : (putBig v n).length = n := pbN_len v n n
theorem putBig_lt (v n : Nat) : ∀ i, (putBig v n).getD i 0 < 256 := pbN_lt v n n
theorem outF_len (W : List Nat) : ∀ i, (outF W i).length = 4 * i
  | 0 => rfl
  | i + 1 => by rw [outF, List.length_append, outF_len W i, putBig_len]; omega
theorem getD_append_lt {a b : List Nat} {m : Nat} (hm : 0 < m) (ha : ∀ i, a.getD i 0 < m) (hb : ∀ i, b.getD i 0 < m) : ∀ i, (a ++ b).getD i 0 < m := by
  intro i
  rw [List.getD_eq_getElem?_getD, List.getElem?_append]
  split
  · rw [← List.getD_eq_getElem?_getD]; exact ha i
  · rw [← List.getD_eq_getElem?_getD]; exact hb _
theorem outF_lt (W : List Nat) : ∀ i j, (outF W i).getD j 0 < 256
  | 0, j => by simp [outF]
  | i + 1, j => getD_append_lt (by decide) (outF_lt W i) (putBig_lt _ _) j
noncomputable def padL (n : Nat) : List Nat := ([128] ++ List.replicate ((119 - n % 64) % 64) 0) ++ putBig (n * 8) 8
theorem padL_len (n : Nat) : (padL n).length = 9 + (119 - n % 64) % 64 := by simp [padL, putBig_len]; omega
theorem padL_lt (n : Nat) : ∀ i, (padL n).getD i 0 < 256 := by
  refine getD_append_lt (by decide) (getD_append_lt (by decide) (fun i => ?_) (fun i => ?_)) (putBig_lt _ _)
  · cases i <;> simp
  · simp only [List.getD_eq_getElem?_getD, List.getElem?_replicate]
    split <;> decide
noncomputable def endW (W rest : List Nat) (n : Nat) : List Nat := mixN ((rest ++ padL n).length / 64) W (rest ++ padL n)
theorem mixN_len : ∀ (m : Nat) (W b : List Nat), W.length = 8 → (mixN m W b).length = 8
  | 0, W, b, h => h
  | m + 1, W, b, h => mixN_len m _ _ (mixF_len h)
theorem mixN_lt : ∀ (m : Nat) (W b : List Nat), (∀ i, W.getD i 0 < 4294967296) → ∀ i, (mixN m W b).getD i 0 < 4294967296
  | 0, W, b, h => h
  | m + 1, W, b, h => mixN_lt m _ _ (mixF_lt h)
theorem BldAt.ext {B b : Nat} {h k : XH} {s : List Nat} (hb : BldAt B h b s) (hx : HExt h k) : BldAt B k b s := by
  obtain ⟨p, buf, hg, hB, hlt, hp, hbuf⟩ := hb
  have := hx.le
  refine ⟨p, buf, (hx.get b hlt).trans hg, hB, by omega, hp, ?_⟩
  rcases hbuf with h1 | ⟨n, h1, h2, h3, h4, h5, h6⟩
  · exact .inl h1
  · exact .inr ⟨n, h1, h2, by omega, h4, h5, (hx.get n h3).trans h6⟩
theorem BldAt.start {h : XH} : BldAt h.next (h.new (.cells [.nilp, .nils] false (some (Nat.mul 2 167)))) h.next [] :=
  ⟨.nilp, .nils, by rw [XH.get_new, if_pos rfl], Nat.le_refl _, by simp only [XH.next_new]; omega, .inl rfl, .inl ⟨rfl, rfl⟩⟩
theorem Keep.ext {B : Nat} {h k l : XH} (h1 : Keep B h k) (hB : B ≤ k.next) (h2 : HExt k l) : Keep B h l := ⟨Nat.le_trans h1.1 h2.le, fun n hn => (h2.get n (by omega)).trans (h1.2 n hn)⟩
theorem Keep.trans {B : Nat} {h k l : XH} (h1 : Keep B h k) (h2 : Keep B k l) : Keep B h l := ⟨Nat.le_trans h1.1 h2.1, fun n hn => (h2.2 n hn).trans (h1.2 n hn)⟩
set_option maxHeartbeats 1000000 in
theorem DSum_call (d : Nat) (W rest : List Nat) (n : Nat) (hW : W.length = 8) (hWl : ∀ i, W.getD i 0 < 4294967296) (hr : ∀ i, rest.getD i 0 < 256) (hl : rest.length < 64) (hn : n ≤ 100000) (h : XH) (hd : d < h.next) (tg : Option Nat) (hg : h.get d = some (.cells (dCells true W rest n) false tg)) :
    CallEv E0 n_digest_Digest_Sum [.ptr d 0] h (fun r k => r = .str (outF (endW W rest n) 8) ∧ HExt h k) := by
  have l11 := r_loadN (n := 11) hg (dCells_len hW).symm
  have lm : n % 64 < 64 := Nat.mod_lt _ (by decide)
  refine call_fn fn_digest_Digest_Sum ?_
  simp only [args0_cons, args0_nil]
  repeat with_reducible first | refine nx ?_ | (refine nv ?_; simp (disch := first | omega | decide) only [bG, b_ptr_eql]; refine rg ?_)
  refine go_cond ?_
  simp (disch := first | omega | decide) only [bG]
  refine condGo_false ?_
  repeat with_reducible first | refine nx ?_ | (refine nv ?_; simp (disch := first | omega | decide) only [bG]; refine rg ?_)
  generalize hh1 : XH.new h _ = h1
  have n1 : h1.next = h.next + 1 := by rw [← hh1]; rfl
  have t1 : h1.get h.next = some (.cells table0 false (some (Nat.mul 2 336))) := by rw [← hh1, XH.get_new, if_pos rfl]; rfl
  have o1 : ∀ m, m < h.next → h1.get m = h.get m := fun m hm => by rw [← hh1, XH.get_new, if_neg (by omega)]
  clear hh1
  have d1 : h1.get d = some (.cells (dCells true W rest n) false tg) := (o1 d hd).trans hg
  have l11 := r_loadN (n := 11) d1 (dCells_len hW).symm
  have hst := e_storeN (h := h1.new (.cells (dCells false (List.replicate 8 0) [] 0) false (some (Nat.mul 2 290)))) (b := h1.next) (n := 11) (vs := dCells true W rest n) (by rw [XH.get_new, if_pos rfl]) (dCells_len hW).symm (by rw [dCells_len hW]; rfl) (by
    obtain ⟨a, b, c, d, e, f, g, i, rfl⟩ := list8 hW; rfl)
  have hst' := fun l (hl : l = dCells false (List.replicate 8 0) [] 0) => show eStore (h1.new (.cells l false (some (Nat.mul 2 290)))) 11 (.ptr h1.next 0) (.agg (dCells true W rest n)) = some (unit, (h1.new (.cells l false (some (Nat.mul 2 290)))).set h1.next (.cells (dCells true W rest n) false (some (Nat.mul 2 290)))) by rw [hl]; exact hst
  have hst2 := hst' _ dig_zero
  repeat with_reducible first | refine nx ?_ | (refine nv ?_; simp (disch := first | omega | decide) only [bG, l11, hst2]; refine rg ?_)
  generalize hh2 : XH.set (XH.new h1 _) _ _ = h2
  have n2 : h2.next = h1.next + 1 := by rw [← hh2]; rfl
  have x2 : h2.get h1.next = some (.cells (dCells true W rest n) false (some (Nat.mul 2 290))) := by rw [← hh2, XH.get_set, if_pos rfl]
  have o2 : ∀ m, m < h1.next → h2.get m = h1.get m := fun m hm => by rw [← hh2, XH.get_set, if_neg (by omega), XH.get_new, if_neg (by omega)]
  clear hh2 hst hst' hst2 l11
  have d2 := (o2 d (by omega)).trans d1
  have t2 := (o2 h.next (by omega)).trans t1
  have l10 := r_load1 (o := 10) d2 (d_10 hW)
  repeat with_reducible first | refine nx ?_ | (refine nv ?_; simp (disch := first | omega | decide) only [bG, l10]; refine rg ?_)
  refine callPl_ex (made_call h.next h2 _ (by omega) t2) ?_
  rintro _ h3 ⟨rfl, t3, e3⟩
  have n3 := e3.le
  have d3 := (e3.get d (by omega) (by omega)).trans d2
  have x3 := (e3.get h1.next (by omega) (by omega)).trans x2
  have l10' := r_load1 (o := 10) d3 (d_10 hW)
  repeat with_reducible first | refine nx ?_ | (refine nv ?_; simp (disch := first | omega | decide) only [bG, l10, l10']; refine rg ?_)
  refine callPl_of (repeat_ev 0 ((119 - n % 64) % 64) (by omega) h3) ?_
  have hm : n * 8 < 18446744073709551616 := by omega
  repeat with_reducible first | refine nx ?_ | (refine nv ?_; simp (disch := first | omega | decide) only [bG, l10, l10', Nat.mod_eq_of_lt hm]; refine rg ?_)
  refine callPl_ex (putBig_call (n * 8) 8 hm (by decide) (by decide) h3) ?_
  rintro _ h4 ⟨rfl, e4⟩
  have n4 := e4.le
  have d4 := (e4.get d (by omega)).trans d3
  have x4 := (e4.get h1.next (by omega)).trans x3
  have t4 := (e4.get h.next (by omega)).trans t3
  have lp := padL_len n
  have lr : ([128] ++ List.replicate ((119 - n % 64) % 64) 0).length = 1 + (119 - n % 64) % 64 := by simp; omega
  have lr2 : ([128] : List Nat).length = 1 := rfl
  have lr3 : (List.replicate ((119 - n % 64) % 64) 0 : List Nat).length = (119 - n % 64) % 64 := List.length_replicate
  have lr4 := putBig_len (n * 8) 8
  repeat with_reducible first | refine nx ?_ | (refine nv ?_; simp (disch := first | omega | decide) only [bG, l10, l10']; refine rg ?_)
  refine callPl_ex (add_call h1.next h.next true W rest (padL n) n hW hWl (getD_append_lt (by decide) hr (padL_lt n)) (by omega) hn h4 (by omega) (by omega) (by omega) _ _ x4 t4) ?_
  rintro _ h5 ⟨x5, e5⟩
  have n5 := e5.le
  rw [if_pos rfl] at x5
  generalize hr5 : (List.drop (64 * ((rest ++ padL n).length / 64)) (rest ++ padL n)) = r5 at x5
  have x5' : h5.get h1.next = some (.cells (dCells true (endW W rest n) r5 (n + (padL n).length)) false (some (Nat.mul 2 290))) := x5
  have hE8 : (endW W rest n).length = 8 := mixN_len _ _ _ hW
  have hEl := mixN_lt ((rest ++ padL n).length / 64) W (rest ++ padL n) hWl
  have hEl' : ∀ i, (endW W rest n).getD i 0 < 4294967296 := hEl
  refine plan_nil (by simp (disch := first | omega | decide) only [endOk, chkAt, addNew, newOk, rangeOk, distinctN, Nat.reduceLT, Nat.reduceAdd, Nat.reduceLeDiff, bP, bG, l10, l10', decide_eq_true]) ?_
  have lw := r_loadNo (h := h5.new (.cells [.nilp, .nils] false (some (Nat.mul 2 167)))) (b := h1.next) (o := 1) (n := 8) (by rw [XH.get_new, if_neg (by omega)]; exact x5') (by rw [dCells_len hE8]; decide)
  rw [d_w hE8] at lw
  repeat with_reducible first | refine nx ?_ | (refine nv ?_; simp (disch := first | omega | decide) only [bG, lw]; refine rg ?_)
  have hkx : HExt h h5 := ⟨by omega, fun m hm => by rw [e5.get m (by omega) (by omega), e4.get m (by omega), e3.get m (by omega) (by omega), o2 m (by omega), o1 m (by omega)]⟩
  generalize endW W rest n = W2 at hE8 hEl' ⊢
  refine go_loop_ind hE0 (fun m fr k => ∃ i, m = 8 - i ∧ i ≤ 8 ∧ BldAt h5.next k h5.next (outF W2 i) ∧ Keep h5.next (h5.new (.cells [.nilp, .nils] false (some (Nat.mul 2 167)))) k ∧
      ev fr (.t (ixOf 6)) = .ptr h5.next 0 ∧ ev fr (.t (ixOf 35)) = .agg (words W2) ∧ ev fr (.t (ixOf 36)) = .int .i64 (.ofNat i)) ?_ (n := 8) ?_
  · rintro m fr k IH ⟨i, rfl, hi, hb, hk, f6, f35, f36⟩
    have hkn := hk.1
    simp only [XH.next_new] at hkn
    repeat with_reducible first | refine nx ?_ | (refine nv ?_; simp (disch := first | omega | decide) only [bG, f36]; refine rg ?_)
    refine go_cond ?_
    simp (disch := first | omega | decide) only [bG]
    refine condGo_split (fun hc => ?_) (fun hc => ?_)
    · have hc := of_decide_eq_true hc
      have hv := hEl' i
      have hv' : W2.getD i 0 < 18446744073709551616 := by omega
      repeat with_reducible first | refine nx ?_ | (refine nv ?_; simp (disch := first | omega | decide) only [bG, f6, f35, f36, p_ixAgg W2 8 i hE8.symm hc]; refine rg ?_)
      refine callGo_ex (putBig_call (W2.getD i 0) 4 hv' (by decide) (by decide) k) ?_
      rintro _ k1 ⟨rfl, x1⟩
      repeat with_reducible first | refine nx ?_ | (refine nv ?_; simp (disch := first | omega | decide) only [bG, f6, f35, f36]; refine rg ?_)
      refine callGo_ex (write_call (hb.ext x1) (putBig (W2.getD i 0) 4) (fun e => by have := putBig_len (W2.getD i 0) 4; rw [e] at this; cases this) (by rw [outF_len, putBig_len]; omega)) ?_
      rintro _ k2 ⟨hb2, hk2⟩
      repeat with_reducible first | refine nx ?_ | (refine nv ?_; simp (disch := first | omega | decide) only [bG, f36]; refine rg ?_)
      refine ret_loop.2 (IH (8 - (i + 1)) _ _ (by omega) ⟨i + 1, rfl, by omega, hb2, (hk.ext (by omega) x1).trans hk2, ?_, ?_, ?_⟩) <;> simp (disch := first | omega | decide) only [bG, f6, f35, f36]
    · have hc := of_decide_eq_false hc
      obtain rfl : i = 8 := by omega
      repeat with_reducible first | refine nx ?_ | (refine nv ?_; simp (disch := first | omega | decide) only [bG, f6]; refine rg ?_)
      refine callGo_ex (string_call hb (outF_lt W2 8) (fun e => by have := outF_len W2 8; rw [e] at this; cases this) (by rw [outF_len]; omega)) ?_
      rintro _ k1 ⟨rfl, hk1⟩
      repeat with_reducible first | refine nx ?_ | (refine nv ?_; simp (disch := first | omega | decide) only [bG]; refine rg ?_)
      refine ret_nil.2 ⟨_, fin_tmp (.inr rfl), ?_, ?_⟩
      · simp (disch := first | omega | decide) only [bG]
      · have h1 := hk.trans hk1
        refine ⟨by have := h1.1; simp only [XH.next_new] at this; omega, fun m hm => ?_⟩
        rw [h1.2 m (by omega), XH.get_new, if_neg (by omega), hkx.get m hm]
  · refine ⟨0, rfl, by omega, BldAt.start, ⟨Nat.le_refl _, fun _ _ => rfl⟩, ?_, ?_, ?_⟩ <;> simp (disch := first | omega | decide) only [bG]
noncomputable def sumL (b : List Nat) : List Nat := outF (endW (mixN (b.length / 64) FI b) (b.drop (64 * (b.length / 64))) b.length) 8
theorem Sum_call (b : List Nat) (hb : ∀ i, b.getD i 0 < 256) (hl : b.length ≤ 1000) (h : XH) :
    CallEv E0 n_digest_Sum [.str b] h (fun r k => r = .str (sumL b) ∧ HExt h k) := by
  refine call_fn fn_digest_Sum ?_
  simp only [args0_cons, args0_nil]
  repeat with_reducible first | refine nx ?_ | (refine nv ?_; simp (disch := first | omega | decide) only [bG]; refine rg ?_)
  have gd : ∀ l : List XV, l = dCells false (List.replicate 8 0) [] 0 → (h.new (.cells l false (some (Nat.mul 2 290)))).get h.next = some (.cells (dCells false (List.replicate 8 0) [] 0) false (some (Nat.mul 2 290))) := fun l hl => by rw [XH.get_new, if_pos rfl, hl]
  refine callGo_ex (Add_call h.next false (List.replicate 8 0) [] b 0 rfl (fun i => by simp only [List.getD_eq_getElem?_getD, List.getElem?_replicate]; split <;> decide) hb (by simpa using (by omega : b.length ≤ 2000)) (by decide) _ (by simp only [XH.next_new]; omega) _ (gd _ dig_zero)) ?_
  rintro _ k ⟨g1, x1⟩
  have hk := x1.le
  simp only [XH.next_new] at hk
  simp only [List.nil_append, Bool.false_eq_true, if_false, Nat.zero_add] at g1
  repeat with_reducible first | refine nx ?_ | (refine nv ?_; simp (disch := first | omega | decide) only [bG]; refine rg ?_)
  refine callGo_ex (DSum_call h.next _ _ b.length (mixN_len _ _ _ rfl) (mixN_lt _ _ _ FI_lt) (fun i => by rw [getD_drop]; exact hb _) (by rw [List.length_drop]; omega) (by omega) k (by omega) _ g1) ?_
  rintro _ k2 ⟨rfl, x2⟩
  repeat with_reducible first | refine nx ?_ | (refine nv ?_; simp (disch := first | omega | decide) only [bG]; refine rg ?_)
  refine ret_nil.2 ⟨_, fin_tmp (.inr rfl), ?_, ?_⟩
  · simp (disch := first | omega | decide) only [bG]
    rfl
  · have := x2.le
    refine ⟨by omega, fun m hm => ?_⟩
    rw [x2.get m (by omega), x1.get m (by simp only [XH.next_new]; omega) (by omega), XH.get_new, if_neg (by omega)]
end Go.Proofs.XCode
end
section
namespace Go.Proofs.XCode
open Go.X Go.Proofs
set_option maxRecDepth 100000
-- escutcheon/octet.Xor
abbrev n_octet_Xor : Nat := 85
abbrev c_octet_Xor_0 : XC := XC.region [⟨(some (ixOf 4)), (.p (.mov (.c (.str [])))), none⟩]
abbrev c_octet_Xor_1 : XC := XC.region [⟨(some (ixOf 7)), (.p (.mov (.t (ixOf 0)))), none⟩,
  ⟨(some (ixOf 8)), (.r (.len .str (.t (ixOf 7)))), none⟩,
  ⟨(some (ixOf 9)), (.p (.mov (.t (ixOf 1)))), none⟩,
  ⟨(some (ixOf 10)), (.r (.len .str (.t (ixOf 9)))), none⟩,
  ⟨(some (ixOf 11)), (.p (.min [(.t (ixOf 8)), (.t (ixOf 10))])), none⟩,
  ⟨(some (ixOf 12)), (.a (.makeSlice 1 [(.int .u8 (.ofNat 0))] 1 (.t (ixOf 11)) (.t (ixOf 11)))), none⟩,
  ⟨(some (ixOf 5)), (.p (.mov (.t (ixOf 12)))), none⟩]
abbrev c_octet_Xor_2 : XC := XC.region [⟨(some (ixOf 13)), (.p (.mov (.t (ixOf 5)))), none⟩,
  ⟨(some (ixOf 14)), (.r (.len (.slice 5) (.t (ixOf 13)))), none⟩,
  ⟨(some (ixOf 15)), (.p (.mov (.c (.int .i64 (.ofNat 0))))), none⟩]
abbrev c_octet_Xor_3 : XC := XC.region [⟨(some (ixOf 16)), (.p (.bin (.int .i64) .lss (.t (ixOf 15)) (.t (ixOf 14)))), none⟩]
abbrev c_octet_Xor_4 : XC := XC.cond (.t (ixOf 16)) .skip (.exit 0)
abbrev c_octet_Xor_5 : XC := XC.region [⟨(some (ixOf 17)), (.p (.mov (.t (ixOf 15)))), none⟩,
  ⟨(some (ixOf 6)), (.p (.mov (.t (ixOf 17)))), none⟩]
abbrev c_octet_Xor_6 : XC := XC.drawn [⟨0, ⟨(some (ixOf 18)), (.p (.mov (.t (ixOf 5)))), none⟩, 0, 0, []⟩,
  ⟨1, ⟨(some (ixOf 19)), (.p (.mov (.t (ixOf 6)))), none⟩, 0, 0, []⟩,
  ⟨2, ⟨(some (ixOf 20)), (.p (.mov (.t (ixOf 0)))), none⟩, 0, 0, []⟩,
  ⟨3, ⟨(some (ixOf 21)), (.p (.mov (.t (ixOf 6)))), none⟩, 0, 0, []⟩,
  ⟨4, ⟨(some (ixOf 22)), (.p (.ixStr (.t (ixOf 20)) (.t (ixOf 21)))), none⟩, 0, 0, []⟩,
  ⟨5, ⟨(some (ixOf 23)), (.p (.mov (.t (ixOf 1)))), none⟩, 0, 0, []⟩,
  ⟨6, ⟨(some (ixOf 24)), (.p (.mov (.t (ixOf 6)))), none⟩, 0, 0, []⟩,
  ⟨7, ⟨(some (ixOf 25)), (.p (.ixStr (.t (ixOf 23)) (.t (ixOf 24)))), none⟩, 0, 0, []⟩,
  ⟨8, ⟨(some (ixOf 26)), (.p (.bin (.int .u8) .xor (.t (ixOf 22)) (.t (ixOf 25)))), none⟩, 0, 0, []⟩,
  ⟨9, ⟨(some (ixOf 27)), (.p (.idxL 1 (.t (ixOf 18)) (.t (ixOf 19)))), none⟩, 0, 0, []⟩,
  ⟨10, ⟨none, (.e (.store 1 (.t (ixOf 27)) (.t (ixOf 26)))), none⟩, 0, 1, []⟩]
abbrev c_octet_Xor_7 : XC := XC.seq c_octet_Xor_5 c_octet_Xor_6
abbrev c_octet_Xor_8 : XC := XC.block 1 c_octet_Xor_7
abbrev c_octet_Xor_9 : XC := XC.region [⟨(some (ixOf 28)), (.p (.bin (.int .i64) .add (.t (ixOf 15)) (.c (.int .i64 (.ofNat 1))))), none⟩,
  ⟨(some (ixOf 15)), (.p (.mov (.t (ixOf 28)))), none⟩]
abbrev c_octet_Xor_10 : XC := XC.seq c_octet_Xor_8 c_octet_Xor_9
abbrev c_octet_Xor_11 : XC := XC.seq c_octet_Xor_4 c_octet_Xor_10
abbrev c_octet_Xor_12 : XC := XC.seq c_octet_Xor_3 c_octet_Xor_11
abbrev c_octet_Xor_13 : XC := XC.loop c_octet_Xor_12
abbrev c_octet_Xor_14 : XC := XC.block 0 c_octet_Xor_13
abbrev c_octet_Xor_15 : XC := XC.seq c_octet_Xor_2 c_octet_Xor_14
abbrev c_octet_Xor_16 : XC := XC.region [⟨(some (ixOf 29)), (.p (.mov (.t (ixOf 5)))), none⟩,
  ⟨(some (ixOf 30)), (.r (.convBS (.t (ixOf 29)))), none⟩,
  ⟨(some (ixOf 4)), (.p (.mov (.t (ixOf 30)))), none⟩]
abbrev c_octet_Xor_17 : XC := XC.seq c_octet_Xor_16 .ret
abbrev c_octet_Xor_18 : XC := XC.seq c_octet_Xor_15 c_octet_Xor_17
abbrev c_octet_Xor_19 : XC := XC.seq c_octet_Xor_1 c_octet_Xor_18
abbrev c_octet_Xor_20 : XC := XC.seq c_octet_Xor_0 c_octet_Xor_19
abbrev x_octet_Xor : XFn := ⟨[.tmp (ixOf 4)], c_octet_Xor_20⟩
theorem mk_octet_Xor : mkFn tyT.get Tryz.f85 = some x_octet_Xor := by kernel_rfl
theorem fn_octet_Xor : E0.fn n_octet_Xor = some (.fn x_octet_Xor) := fn_of (by kernel_rfl) mk_octet_Xor
-- escutcheon/octet.PutLittle
abbrev n_octet_PutLittle : Nat := 89
abbrev c_octet_PutLittle_0 : XC := XC.region [⟨(some (ixOf 4)), (.p (.mov (.c (.str [])))), none⟩]
abbrev c_octet_PutLittle_1 : XC := XC.region [⟨(some (ixOf 7)), (.p (.mov (.t (ixOf 1)))), none⟩,
  ⟨(some (ixOf 8)), (.p (.bin (.int .i64) .lss (.t (ixOf 7)) (.c (.int .i64 (.ofNat 1))))), none⟩,
  ⟨(some (ixOf 9)), (.p (.mov (.t (ixOf 8)))), none⟩,
  ⟨(some (ixOf 10)), (.p (.mov (.t (ixOf 1)))), (some ((ixOf 9), false))⟩,
  ⟨(some (ixOf 11)), (.p (.bin (.int .i64) .gtr (.t (ixOf 10)) (.c (.int .i64 (.ofNat 8))))), (some ((ixOf 9), false))⟩,
  ⟨(some (ixOf 12)), (.p (.pick (.t (ixOf 9)) (.c (.bool true)) (.t (ixOf 11)))), none⟩]
abbrev c_octet_PutLittle_2 : XC := XC.region [⟨(some (ixOf 4)), (.p (.mov (.c (.str [])))), none⟩]
abbrev c_octet_PutLittle_3 : XC := XC.seq c_octet_PutLittle_2 .ret
abbrev c_octet_PutLittle_4 : XC := XC.cond (.t (ixOf 12)) c_octet_PutLittle_3 .skip
abbrev c_octet_PutLittle_5 : XC := XC.seq c_octet_PutLittle_1 c_octet_PutLittle_4
abbrev c_octet_PutLittle_6 : XC := XC.region [⟨(some (ixOf 13)), (.p (.mov (.t (ixOf 1)))), none⟩,
  ⟨(some (ixOf 14)), (.a (.makeSlice 1 [(.int .u8 (.ofNat 0))] 1 (.t (ixOf 13)) (.t (ixOf 13)))), none⟩,
  ⟨(some (ixOf 5)), (.p (.mov (.t (ixOf 14)))), none⟩]
abbrev c_octet_PutLittle_7 : XC := XC.region [⟨(some (ixOf 15)), (.p (.mov (.t (ixOf 5)))), none⟩,
  ⟨(some (ixOf 16)), (.r (.len (.slice 5) (.t (ixOf 15)))), none⟩,
  ⟨(some (ixOf 17)), (.p (.mov (.c (.int .i64 (.ofNat 0))))), none⟩]
abbrev c_octet_PutLittle_8 : XC := XC.region [⟨(some (ixOf 18)), (.p (.bin (.int .i64) .lss (.t (ixOf 17)) (.t (ixOf 16)))), none⟩]
abbrev c_octet_PutLittle_9 : XC := XC.cond (.t (ixOf 18)) .skip (.exit 0)
abbrev c_octet_PutLittle_10 : XC := XC.region [⟨(some (ixOf 19)), (.p (.mov (.t (ixOf 17)))), none⟩,
  ⟨(some (ixOf 6)), (.p (.mov (.t (ixOf 19)))), none⟩]
abbrev c_octet_PutLittle_11 : XC := XC.region [⟨(some (ixOf 20)), (.p (.mov (.t (ixOf 5)))), none⟩,
  ⟨(some (ixOf 21)), (.p (.mov (.t (ixOf 6)))), none⟩,
  ⟨(some (ixOf 22)), (.p (.mov (.t (ixOf 0)))), none⟩,
  ⟨(some (ixOf 23)), (.p (.mov (.t (ixOf 6)))), none⟩,
  ⟨(some (ixOf 24)), (.p (.bin (.int .i64) .mul (.c (.int .i64 (.ofNat 8))) (.t (ixOf 23)))), none⟩,
  ⟨(some (ixOf 25)), (.p (.bin (.int .u64) .shr (.t (ixOf 22)) (.t (ixOf 24)))), none⟩,
  ⟨(some (ixOf 26)), (.p (.convI .u8 (.t (ixOf 25)))), none⟩,
  ⟨(some (ixOf 27)), (.p (.idxL 1 (.t (ixOf 20)) (.t (ixOf 21)))), none⟩,
  ⟨none, (.e (.store 1 (.t (ixOf 27)) (.t (ixOf 26)))), none⟩]
abbrev c_octet_PutLittle_12 : XC := XC.seq c_octet_PutLittle_10 c_octet_PutLittle_11
abbrev c_octet_PutLittle_13 : XC := XC.block 1 c_octet_PutLittle_12
abbrev c_octet_PutLittle_14 : XC := XC.region [⟨(some (ixOf 28)), (.p (.bin (.int .i64) .add (.t (ixOf 17)) (.c (.int .i64 (.ofNat 1))))), none⟩,
  ⟨(some (ixOf 17)), (.p (.mov (.t (ixOf 28)))), none⟩]
abbrev c_octet_PutLittle_15 : XC := XC.seq c_octet_PutLittle_13 c_octet_PutLittle_14
abbrev c_octet_PutLittle_16 : XC := XC.seq c_octet_PutLittle_9 c_octet_PutLittle_15
abbrev c_octet_PutLittle_17 : XC := XC.seq c_octet_PutLittle_8 c_octet_PutLittle_16
abbrev c_octet_PutLittle_18 : XC := XC.loop c_octet_PutLittle_17
abbrev c_octet_PutLittle_19 : XC := XC.block 0 c_octet_PutLittle_18
abbrev c_octet_PutLittle_20 : XC := XC.seq c_octet_PutLittle_7 c_octet_PutLittle_19
abbrev c_octet_PutLittle_21 : XC := XC.region [⟨(some (ixOf 29)), (.p (.mov (.t (ixOf 5)))), none⟩,
  ⟨(some (ixOf 30)), (.r (.convBS (.t (ixOf 29)))), none⟩,
  ⟨(some (ixOf 4)), (.p (.mov (.t (ixOf 30)))), none⟩]
abbrev c_octet_PutLittle_22 : XC := XC.seq c_octet_PutLittle_21 .ret
abbrev c_octet_PutLittle_23 : XC := XC.seq c_octet_PutLittle_20 c_octet_PutLittle_22
abbrev c_octet_PutLittle_24 : XC := XC.seq c_octet_PutLittle_6 c_octet_PutLittle_23
abbrev c_octet_PutLittle_25 : XC := XC.seq c_octet_PutLittle_5 c_octet_PutLittle_24
abbrev c_octet_PutLittle_26 : XC := XC.seq c_octet_PutLittle_0 c_octet_PutLittle_25
abbrev x_octet_PutLittle : XFn := ⟨[.tmp (ixOf 4)], c_octet_PutLittle_26⟩
theorem mk_octet_PutLittle : mkFn tyT.get Tryz.f89 = some x_octet_PutLittle := by kernel_rfl
theorem fn_octet_PutLittle : E0.fn n_octet_PutLittle = some (.fn x_octet_PutLittle) := fn_of (by kernel_rfl) mk_octet_PutLittle
-- escutcheon/octet.Little
abbrev n_octet_Little : Nat := 137
abbrev c_octet_Little_0 : XC := XC.region [⟨(some (ixOf 2)), (.p (.mov (.c (.int .u64 (.ofNat 0))))), none⟩]
abbrev c_octet_Little_1 : XC := XC.region [⟨(some (ixOf 3)), (.p (.mov (.c (.int .u64 (.ofNat 0))))), none⟩]
abbrev c_octet_Little_2 : XC := XC.region [⟨(some (ixOf 5)), (.p (.mov (.t (ixOf 0)))), none⟩,
  ⟨(some (ixOf 6)), (.r (.len .str (.t (ixOf 5)))), none⟩,
  ⟨(some (ixOf 7)), (.p (.min [(.t (ixOf 6)), (.c (.int .i64 (.ofNat 8)))])), none⟩,
  ⟨(some (ixOf 8)), (.p (.bin (.int .i64) .sub (.t (ixOf 7)) (.c (.int .i64 (.ofNat 1))))), none⟩,
  ⟨(some (ixOf 4)), (.p (.mov (.t (ixOf 8)))), none⟩]
abbrev c_octet_Little_3 : XC := XC.region [⟨(some (ixOf 9)), (.p (.mov (.t (ixOf 4)))), none⟩,
  ⟨(some (ixOf 10)), (.p (.bin (.int .i64) .geq (.t (ixOf 9)) (.c (.int .i64 (.ofNat 0))))), none⟩]
abbrev c_octet_Little_4 : XC := XC.cond (.t (ixOf 10)) .skip (.exit 0)
abbrev c_octet_Little_5 : XC := XC.seq c_octet_Little_3 c_octet_Little_4
abbrev c_octet_Little_6 : XC := XC.region [⟨(some (ixOf 13)), (.p (.mov (.t (ixOf 3)))), none⟩,
  ⟨(some (ixOf 14)), (.p (.bin (.int .u64) .shl (.t (ixOf 13)) (.c (.int .u64 (.ofNat 8))))), none⟩,
  ⟨(some (ixOf 15)), (.p (.mov (.t (ixOf 0)))), none⟩,
  ⟨(some (ixOf 16)), (.p (.mov (.t (ixOf 4)))), none⟩,
  ⟨(some (ixOf 17)), (.p (.ixStr (.t (ixOf 15)) (.t (ixOf 16)))), none⟩,
  ⟨(some (ixOf 18)), (.p (.convI .u64 (.t (ixOf 17)))), none⟩,
  ⟨(some (ixOf 19)), (.p (.bin (.int .u64) .or (.t (ixOf 14)) (.t (ixOf 18)))), none⟩,
  ⟨(some (ixOf 3)), (.p (.mov (.t (ixOf 19)))), none⟩]
abbrev c_octet_Little_7 : XC := XC.block 1 c_octet_Little_6
abbrev c_octet_Little_8 : XC := XC.region [⟨(some (ixOf 11)), (.p (.mov (.t (ixOf 4)))), none⟩,
  ⟨(some (ixOf 12)), (.p (.bin (.int .i64) .sub (.t (ixOf 11)) (.c (.int .i64 (.ofNat 1))))), none⟩,
  ⟨(some (ixOf 4)), (.p (.mov (.t (ixOf 12)))), none⟩]
abbrev c_octet_Little_9 : XC := XC.seq c_octet_Little_7 c_octet_Little_8
abbrev c_octet_Little_10 : XC := XC.seq c_octet_Little_5 c_octet_Little_9
abbrev c_octet_Little_11 : XC := XC.loop c_octet_Little_10
abbrev c_octet_Little_12 : XC := XC.block 0 c_octet_Little_11
abbrev c_octet_Little_13 : XC := XC.seq c_octet_Little_2 c_octet_Little_12
abbrev c_octet_Little_14 : XC := XC.region [⟨(some (ixOf 20)), (.p (.mov (.t (ixOf 3)))), none⟩,
  ⟨(some (ixOf 2)), (.p (.mov (.t (ixOf 20)))), none⟩]
abbrev c_octet_Little_15 : XC := XC.seq c_octet_Little_14 .ret
abbrev c_octet_Little_16 : XC := XC.seq c_octet_Little_13 c_octet_Little_15
abbrev c_octet_Little_17 : XC := XC.seq c_octet_Little_1 c_octet_Little_16
abbrev c_octet_Little_18 : XC := XC.seq c_octet_Little_0 c_octet_Little_17
abbrev x_octet_Little : XFn := ⟨[.tmp (ixOf 2)], c_octet_Little_18⟩
theorem mk_octet_Little : mkFn tyT.get Tryz.f137 = some x_octet_Little := by kernel_rfl
theorem fn_octet_Little : E0.fn n_octet_Little = some (.fn x_octet_Little) := fn_of (by kernel_rfl) mk_octet_Little
-- escutcheon/stream.Quarter
abbrev n_stream_Quarter : Nat := 139
abbrev c_stream_Quarter_0 : XC := XC.region [⟨(some (ixOf 8)), (.p (.mov (.c (.int .u32 (.ofNat 0))))), none⟩,
  ⟨(some (ixOf 9)), (.p (.mov (.c (.int .u32 (.ofNat 0))))), none⟩,
  ⟨(some (ixOf 10)), (.p (.mov (.c (.int .u32 (.ofNat 0))))), none⟩,
  ⟨(some (ixOf 11)), (.p (.mov (.c (.int .u32 (.ofNat 0))))), none⟩]
abbrev c_stream_Quarter_1 : XC := XC.region [⟨(some (ixOf 12)), (.p (.mov (.t (ixOf 0)))), none⟩,
  ⟨(some (ixOf 13)), (.p (.mov (.t (ixOf 1)))), none⟩,
  ⟨(some (ixOf 14)), (.p (.bin (.int .u32) .add (.t (ixOf 12)) (.t (ixOf 13)))), none⟩,
  ⟨(some (ixOf 0)), (.p (.mov (.t (ixOf 14)))), none⟩]
abbrev c_stream_Quarter_2 : XC := XC.region [⟨(some (ixOf 15)), (.p (.mov (.t (ixOf 3)))), none⟩,
  ⟨(some (ixOf 16)), (.p (.mov (.t (ixOf 0)))), none⟩,
  ⟨(some (ixOf 17)), (.p (.bin (.int .u32) .xor (.t (ixOf 15)) (.t (ixOf 16)))), none⟩,
  ⟨(some (ixOf 18)), (.e (.call 185 [(.t (ixOf 17)), (.c (.int .i64 (.ofNat 16)))])), none⟩,
  ⟨(some (ixOf 3)), (.p (.mov (.t (ixOf 18)))), none⟩]
abbrev c_stream_Quarter_3 : XC := XC.region [⟨(some (ixOf 19)), (.p (.mov (.t (ixOf 2)))), none⟩,
  ⟨(some (ixOf 20)), (.p (.mov (.t (ixOf 3)))), none⟩,
  ⟨(some (ixOf 21)), (.p (.bin (.int .u32) .add (.t (ixOf 19)) (.t (ixOf 20)))), none⟩,
  ⟨(some (ixOf 2)), (.p (.mov (.t (ixOf 21)))), none⟩]
abbrev c_stream_Quarter_4 : XC := XC.region [⟨(some (ixOf 22)), (.p (.mov (.t (ixOf 1)))), none⟩,
  ⟨(some (ixOf 23)), (.p (.mov (.t (ixOf 2)))), none⟩,
  ⟨(some (ixOf 24)), (.p (.bin (.int .u32) .xor (.t (ixOf 22)) (.t (ixOf 23)))), none⟩,
  ⟨(some (ixOf 25)), (.e (.call 185 [(.t (ixOf 24)), (.c (.int .i64 (.ofNat 12)))])), none⟩,
  ⟨(some (ixOf 1)), (.p (.mov (.t (ixOf 25)))), none⟩]
abbrev c_stream_Quarter_5 : XC := XC.region [⟨(some (ixOf 26)), (.p (.mov (.t (ixOf 0)))), none⟩,
  ⟨(some (ixOf 27)), (.p (.mov (.t (ixOf 1)))), none⟩,
  ⟨(some (ixOf 28)), (.p (.bin (.int .u32) .add (.t (ixOf 26)) (.t (ixOf 27)))), none⟩,
  ⟨(some (ixOf 0)), (.p (.mov (.t (ixOf 28)))), none⟩]
abbrev c_stream_Quarter_6 : XC := XC.region [⟨(some (ixOf 29)), (.p (.mov (.t (ixOf 3)))), none⟩,
  ⟨(some (ixOf 30)), (.p (.mov (.t (ixOf 0)))), none⟩,
  ⟨(some (ixOf 31)), (.p (.bin (.int .u32) .xor (.t (ixOf 29)) (.t (ixOf 30)))), none⟩,
  ⟨(some (ixOf 32)), (.e (.call 185 [(.t (ixOf 31)), (.c (.int .i64 (.ofNat 8)))])), none⟩,
  ⟨(some (ixOf 3)), (.p (.mov (.t (ixOf 32)))), none⟩]
abbrev c_stream_Quarter_7 : XC := XC.region [⟨(some (ixOf 33)), (.p (.mov (.t (ixOf 2)))), none⟩,
  ⟨(some (ixOf 34)), (.p (.mov (.t (ixOf 3)))), none⟩,
  ⟨(some (ixOf 35)), (.p (.bin (.int .u32) .add (.t (ixOf 33)) (.t (ixOf 34)))), none⟩,
  ⟨(some (ixOf 2)), (.p (.mov (.t (ixOf 35)))), none⟩]
abbrev c_stream_Quarter_8 : XC := XC.region [⟨(some (ixOf 36)), (.p (.mov (.t (ixOf 1)))), none⟩,
  ⟨(some (ixOf 37)), (.p (.mov (.t (ixOf 2)))), none⟩,
  ⟨(some (ixOf 38)), (.p (.bin (.int .u32) .xor (.t (ixOf 36)) (.t (ixOf 37)))), none⟩,
  ⟨(some (ixOf 39)), (.e (.call 185 [(.t (ixOf 38)), (.c (.int .i64 (.ofNat 7)))])), none⟩,
  ⟨(some (ixOf 1)), (.p (.mov (.t (ixOf 39)))), none⟩]
abbrev c_stream_Quarter_9 : XC := XC.region [⟨(some (ixOf 40)), (.p (.mov (.t (ixOf 0)))), none⟩,
  ⟨(some (ixOf 41)), (.p (.mov (.t (ixOf 1)))), none⟩,
  ⟨(some (ixOf 42)), (.p (.mov (.t (ixOf 2)))), none⟩,
  ⟨(some (ixOf 43)), (.p (.mov (.t (ixOf 3)))), none⟩,
  ⟨(some (ixOf 8)), (.p (.mov (.t (ixOf 40)))), none⟩,
  ⟨(some (ixOf 9)), (.p (.mov (.t (ixOf 41)))), none⟩,
  ⟨(some (ixOf 10)), (.p (.mov (.t (ixOf 42)))), none⟩,
  ⟨(some (ixOf 11)), (.p (.mov (.t (ixOf 43)))), none⟩]
abbrev c_stream_Quarter_10 : XC := XC.seq c_stream_Quarter_9 .ret
abbrev c_stream_Quarter_11 : XC := XC.seq c_stream_Quarter_8 c_stream_Quarter_10
abbrev c_stream_Quarter_12 : XC := XC.seq c_stream_Quarter_7 c_stream_Quarter_11
abbrev c_stream_Quarter_13 : XC := XC.seq c_stream_Quarter_6 c_stream_Quarter_12
abbrev c_stream_Quarter_14 : XC := XC.seq c_stream_Quarter_5 c_stream_Quarter_13
abbrev c_stream_Quarter_15 : XC := XC.seq c_stream_Quarter_4 c_stream_Quarter_14
abbrev c_stream_Quarter_16 : XC := XC.seq c_stream_Quarter_3 c_stream_Quarter_15
abbrev c_stream_Quarter_17 : XC := XC.seq c_stream_Quarter_2 c_stream_Quarter_16
abbrev c_stream_Quarter_18 : XC := XC.seq c_stream_Quarter_1 c_stream_Quarter_17
abbrev c_stream_Quarter_19 : XC := XC.seq c_stream_Quarter_0 c_stream_Quarter_18
abbrev x_stream_Quarter : XFn := ⟨[.tmp (ixOf 8), .tmp (ixOf 9), .tmp (ixOf 10), .tmp (ixOf 11)], c_stream_Quarter_19⟩
theorem mk_stream_Quarter : mkFn tyT.get Tryz.f139 = some x_stream_Quarter := by kernel_rfl
theorem fn_stream_Quarter : E0.fn n_stream_Quarter = some (.fn x_stream_Quarter) := fn_of (by kernel_rfl) mk_stream_Quarter
-- escutcheon/stream.places
abbrev n_stream_places : Nat := 138
abbrev c_stream_places_0 : XC := XC.region [⟨(some (ixOf 0)), (.a (.alloc 228 (List.replicate 32 (.int .i64 (.ofNat 0))))), none⟩]
abbrev c_stream_places_1 : XC := XC.region [⟨(some (ixOf 1)), (.p (.build (List.replicate 4 (.int .i64 (.ofNat 0))) [(0, 1, (.c (.int .i64 (.ofNat 0)))), (1, 1, (.c (.int .i64 (.ofNat 4)))), (2, 1, (.c (.int .i64 (.ofNat 8)))), (3, 1, (.c (.int .i64 (.ofNat 12))))])), none⟩,
  ⟨(some (ixOf 2)), (.p (.build (List.replicate 4 (.int .i64 (.ofNat 0))) [(0, 1, (.c (.int .i64 (.ofNat 1)))), (1, 1, (.c (.int .i64 (.ofNat 5)))), (2, 1, (.c (.int .i64 (.ofNat 9)))), (3, 1, (.c (.int .i64 (.ofNat 13))))])), none⟩,
  ⟨(some (ixOf 3)), (.p (.build (List.replicate 4 (.int .i64 (.ofNat 0))) [(0, 1, (.c (.int .i64 (.ofNat 2)))), (1, 1, (.c (.int .i64 (.ofNat 6)))), (2, 1, (.c (.int .i64 (.ofNat 10)))), (3, 1, (.c (.int .i64 (.ofNat 14))))])), none⟩,
  ⟨(some (ixOf 4)), (.p (.build (List.replicate 4 (.int .i64 (.ofNat 0))) [(0, 1, (.c (.int .i64 (.ofNat 3)))), (1, 1, (.c (.int .i64 (.ofNat 7)))), (2, 1, (.c (.int .i64 (.ofNat 11)))), (3, 1, (.c (.int .i64 (.ofNat 15))))])), none⟩,
  ⟨(some (ixOf 5)), (.p (.build (List.replicate 4 (.int .i64 (.ofNat 0))) [(0, 1, (.c (.int .i64 (.ofNat 0)))), (1, 1, (.c (.int .i64 (.ofNat 5)))), (2, 1, (.c (.int .i64 (.ofNat 10)))), (3, 1, (.c (.int .i64 (.ofNat 15))))])), none⟩,
  ⟨(some (ixOf 6)), (.p (.build (List.replicate 4 (.int .i64 (.ofNat 0))) [(0, 1, (.c (.int .i64 (.ofNat 1)))), (1, 1, (.c (.int .i64 (.ofNat 6)))), (2, 1, (.c (.int .i64 (.ofNat 11)))), (3, 1, (.c (.int .i64 (.ofNat 12))))])), none⟩,
  ⟨(some (ixOf 7)), (.p (.build (List.replicate 4 (.int .i64 (.ofNat 0))) [(0, 1, (.c (.int .i64 (.ofNat 2)))), (1, 1, (.c (.int .i64 (.ofNat 7)))), (2, 1, (.c (.int .i64 (.ofNat 8)))), (3, 1, (.c (.int .i64 (.ofNat 13))))])), none⟩,
  ⟨(some (ixOf 8)), (.p (.build (List.replicate 4 (.int .i64 (.ofNat 0))) [(0, 1, (.c (.int .i64 (.ofNat 3)))), (1, 1, (.c (.int .i64 (.ofNat 4)))), (2, 1, (.c (.int .i64 (.ofNat 9)))), (3, 1, (.c (.int .i64 (.ofNat 14))))])), none⟩,
  ⟨(some (ixOf 9)), (.p (.build (List.replicate 32 (.int .i64 (.ofNat 0))) [(0, 4, (.t (ixOf 1))), (4, 4, (.t (ixOf 2))), (8, 4, (.t (ixOf 3))), (12, 4, (.t (ixOf 4))), (16, 4, (.t (ixOf 5))), (20, 4, (.t (ixOf 6))), (24, 4, (.t (ixOf 7))), (28, 4, (.t (ixOf 8)))])), none⟩,
  ⟨none, (.e (.store 32 (.t (ixOf 0)) (.t (ixOf 9)))), none⟩]
abbrev c_stream_places_2 : XC := XC.seq c_stream_places_1 .ret
abbrev c_stream_places_3 : XC := XC.seq c_stream_places_0 c_stream_places_2
abbrev x_stream_places : XFn := ⟨[.cell (ixOf 0) (.many 32)], c_stream_places_3⟩
theorem mk_stream_places : mkFn tyT.get Tryz.f138 = some x_stream_places := by kernel_rfl
theorem fn_stream_places : E0.fn n_stream_places = some (.fn x_stream_places) := fn_of (by kernel_rfl) mk_stream_places
-- escutcheon/stream.block
abbrev n_stream_block : Nat := 86
abbrev c_stream_block_0 : XC := XC.region [⟨(some (ixOf 6)), (.p (.mov (.c (.str [])))), none⟩]
abbrev c_stream_block_1 : XC := XC.region [⟨(some (ixOf 16)), (.p (.mov (.t (ixOf 0)))), none⟩,
  ⟨(some (ixOf 17)), (.p (.bin .str .add (.c (.str [101, 120, 112, 97, 110, 100, 32, 51, 50, 45, 98, 121, 116, 101, 32, 107])) (.t (ixOf 16)))), none⟩,
  ⟨(some (ixOf 18)), (.p (.mov (.t (ixOf 1)))), none⟩,
  ⟨(some (ixOf 19)), (.p (.convI .u64 (.t (ixOf 18)))), none⟩,
  ⟨(some (ixOf 20)), (.e (.call 89 [(.t (ixOf 19)), (.c (.int .i64 (.ofNat 4)))])), none⟩,
  ⟨(some (ixOf 21)), (.p (.bin .str .add (.t (ixOf 17)) (.t (ixOf 20)))), none⟩,
  ⟨(some (ixOf 22)), (.p (.mov (.t (ixOf 2)))), none⟩,
  ⟨(some (ixOf 23)), (.p (.bin .str .add (.t (ixOf 21)) (.t (ixOf 22)))), none⟩,
  ⟨(some (ixOf 7)), (.p (.mov (.t (ixOf 23)))), none⟩]
abbrev c_stream_block_2 : XC := XC.region [⟨(some (ixOf 8)), (.a (.alloc 226 (List.replicate 16 (.int .u32 (.ofNat 0))))), none⟩,
  ⟨(some (ixOf 9)), (.a (.alloc 226 (List.replicate 16 (.int .u32 (.ofNat 0))))), none⟩]
abbrev c_stream_block_3 : XC := XC.region [⟨(some (ixOf 24)), (.p (.mov (.c (.int .i64 (.ofNat 0))))), none⟩]
abbrev c_stream_block_4 : XC := XC.region [⟨(some (ixOf 25)), (.p (.bin (.int .i64) .lss (.t (ixOf 24)) (.c (.int .i64 (.ofNat 16))))), none⟩]
abbrev c_stream_block_5 : XC := XC.cond (.t (ixOf 25)) .skip (.exit 0)
abbrev c_stream_block_6 : XC := XC.region [⟨(some (ixOf 26)), (.p (.mov (.t (ixOf 24)))), none⟩,
  ⟨(some (ixOf 10)), (.p (.mov (.t (ixOf 26)))), none⟩]
abbrev c_stream_block_7 : XC := XC.region [⟨(some (ixOf 27)), (.p (.mov (.t (ixOf 10)))), none⟩,
  ⟨(some (ixOf 28)), (.p (.mov (.t (ixOf 7)))), none⟩,
  ⟨(some (ixOf 29)), (.p (.mov (.t (ixOf 10)))), none⟩,
  ⟨(some (ixOf 30)), (.p (.bin (.int .i64) .mul (.c (.int .i64 (.ofNat 4))) (.t (ixOf 29)))), none⟩,
  ⟨(some (ixOf 31)), (.p (.mov (.t (ixOf 10)))), none⟩,
  ⟨(some (ixOf 32)), (.p (.bin (.int .i64) .mul (.c (.int .i64 (.ofNat 4))) (.t (ixOf 31)))), none⟩,
  ⟨(some (ixOf 33)), (.p (.bin (.int .i64) .add (.t (ixOf 32)) (.c (.int .i64 (.ofNat 4))))), none⟩,
  ⟨(some (ixOf 34)), (.p (.sliceS (.t (ixOf 28)) (some (.t (ixOf 30))) (some (.t (ixOf 33))))), none⟩,
  ⟨(some (ixOf 35)), (.e (.call 137 [(.t (ixOf 34))])), none⟩,
  ⟨(some (ixOf 36)), (.p (.convI .u32 (.t (ixOf 35)))), none⟩,
  ⟨(some (ixOf 37)), (.p (.idxA 16 1 (.t (ixOf 8)) (.t (ixOf 27)))), none⟩,
  ⟨none, (.e (.store 1 (.t (ixOf 37)) (.t (ixOf 36)))), none⟩]
abbrev c_stream_block_8 : XC := XC.seq c_stream_block_6 c_stream_block_7
abbrev c_stream_block_9 : XC := XC.block 1 c_stream_block_8
abbrev c_stream_block_10 : XC := XC.region [⟨(some (ixOf 38)), (.p (.bin (.int .i64) .add (.t (ixOf 24)) (.c (.int .i64 (.ofNat 1))))), none⟩,
  ⟨(some (ixOf 24)), (.p (.mov (.t (ixOf 38)))), none⟩]
abbrev c_stream_block_11 : XC := XC.seq c_stream_block_9 c_stream_block_10
abbrev c_stream_block_12 : XC := XC.seq c_stream_block_5 c_stream_block_11
abbrev c_stream_block_13 : XC := XC.seq c_stream_block_4 c_stream_block_12
abbrev c_stream_block_14 : XC := XC.loop c_stream_block_13
abbrev c_stream_block_15 : XC := XC.block 0 c_stream_block_14
abbrev c_stream_block_16 : XC := XC.seq c_stream_block_3 c_stream_block_15
abbrev c_stream_block_17 : XC := XC.region [⟨(some (ixOf 39)), (.r (.load (.many 16) (.t (ixOf 8)))), none⟩,
  ⟨none, (.e (.store 16 (.t (ixOf 9)) (.t (ixOf 39)))), none⟩]
abbrev c_stream_block_18 : XC := XC.region [⟨(some (ixOf 40)), (.p (.mov (.c (.int .i64 (.ofNat 0))))), none⟩]
abbrev c_stream_block_19 : XC := XC.region [⟨(some (ixOf 41)), (.p (.bin (.int .i64) .lss (.t (ixOf 40)) (.c (.int .i64 (.ofNat 10))))), none⟩]
abbrev c_stream_block_20 : XC := XC.cond (.t (ixOf 41)) .skip (.exit 2)
abbrev c_stream_block_21 : XC := XC.region [⟨(some (ixOf 42)), (.e (.call 138 [])), none⟩,
  ⟨(some (ixOf 43)), (.p (.mov (.c (.int .i64 (.ofNat 0))))), none⟩]
abbrev c_stream_block_22 : XC := XC.region [⟨(some (ixOf 44)), (.p (.bin (.int .i64) .lss (.t (ixOf 43)) (.c (.int .i64 (.ofNat 8))))), none⟩]
abbrev c_stream_block_23 : XC := XC.cond (.t (ixOf 44)) .skip (.exit 4)
abbrev c_stream_block_24 : XC := XC.region [⟨(some (ixOf 45)), (.p (.ixAgg (.many 4) 8 4 (.t (ixOf 42)) (.t (ixOf 43)))), none⟩,
  ⟨(some (ixOf 12)), (.a (.alloc 227 (List.replicate 4 (.int .i64 (.ofNat 0))))), none⟩,
  ⟨none, (.e (.store 4 (.t (ixOf 12)) (.t (ixOf 45)))), none⟩]
abbrev c_stream_block_25 : XC := XC.drawn [⟨8, ⟨(some (ixOf 55)), (.p (.idxA 4 1 (.t (ixOf 12)) (.c (.int .i64 (.ofNat 0))))), none⟩, 0, 0, []⟩,
  ⟨9, ⟨(some (ixOf 56)), (.r (.load .one (.t (ixOf 55)))), none⟩, 0, 0, []⟩,
  ⟨10, ⟨(some (ixOf 57)), (.p (.idxA 16 1 (.t (ixOf 9)) (.t (ixOf 56)))), none⟩, 0, 0, []⟩,
  ⟨11, ⟨(some (ixOf 58)), (.r (.load .one (.t (ixOf 57)))), none⟩, 0, 0, []⟩,
  ⟨12, ⟨(some (ixOf 59)), (.p (.idxA 4 1 (.t (ixOf 12)) (.c (.int .i64 (.ofNat 1))))), none⟩, 0, 0, []⟩,
  ⟨13, ⟨(some (ixOf 60)), (.r (.load .one (.t (ixOf 59)))), none⟩, 0, 0, []⟩,
  ⟨14, ⟨(some (ixOf 61)), (.p (.idxA 16 1 (.t (ixOf 9)) (.t (ixOf 60)))), none⟩, 0, 0, []⟩,
  ⟨15, ⟨(some (ixOf 62)), (.r (.load .one (.t (ixOf 61)))), none⟩, 0, 0, []⟩,
  ⟨16, ⟨(some (ixOf 63)), (.p (.idxA 4 1 (.t (ixOf 12)) (.c (.int .i64 (.ofNat 2))))), none⟩, 0, 0, []⟩,
  ⟨17, ⟨(some (ixOf 64)), (.r (.load .one (.t (ixOf 63)))), none⟩, 0, 0, []⟩,
  ⟨18, ⟨(some (ixOf 65)), (.p (.idxA 16 1 (.t (ixOf 9)) (.t (ixOf 64)))), none⟩, 0, 0, []⟩,
  ⟨19, ⟨(some (ixOf 66)), (.r (.load .one (.t (ixOf 65)))), none⟩, 0, 0, []⟩,
  ⟨20, ⟨(some (ixOf 67)), (.p (.idxA 4 1 (.t (ixOf 12)) (.c (.int .i64 (.ofNat 3))))), none⟩, 0, 0, []⟩,
  ⟨21, ⟨(some (ixOf 68)), (.r (.load .one (.t (ixOf 67)))), none⟩, 0, 0, []⟩,
  ⟨22, ⟨(some (ixOf 69)), (.p (.idxA 16 1 (.t (ixOf 9)) (.t (ixOf 68)))), none⟩, 0, 0, []⟩,
  ⟨23, ⟨(some (ixOf 70)), (.r (.load .one (.t (ixOf 69)))), none⟩, 0, 0, []⟩,
  ⟨24, ⟨(some (ixOf 71)), (.e (.call 139 [(.t (ixOf 58)), (.t (ixOf 62)), (.t (ixOf 66)), (.t (ixOf 70))])), none⟩, 0, 1, []⟩,
  ⟨0, ⟨(some (ixOf 47)), (.p (.idxA 4 1 (.t (ixOf 12)) (.c (.int .i64 (.ofNat 0))))), none⟩, 0, 1, []⟩,
  ⟨1, ⟨(some (ixOf 48)), (.r (.load .one (.t (ixOf 47)))), none⟩, 0, 1, []⟩,
  ⟨25, ⟨(some (ixOf 46)), (.p (.mov (.t (ixOf 71)))), none⟩, 1, 1, []⟩,
  ⟨26, ⟨(some (ixOf 72)), (.p (.extract (.t (ixOf 46)) 0)), none⟩, 1, 1, []⟩,
  ⟨30, ⟨(some (ixOf 76)), (.p (.idxA 16 1 (.t (ixOf 9)) (.t (ixOf 48)))), none⟩, 1, 1, []⟩,
  ⟨31, ⟨none, (.e (.store 1 (.t (ixOf 76)) (.t (ixOf 72)))), none⟩, 1, 2, []⟩,
  ⟨2, ⟨(some (ixOf 49)), (.p (.idxA 4 1 (.t (ixOf 12)) (.c (.int .i64 (.ofNat 1))))), none⟩, 0, 2, []⟩,
  ⟨3, ⟨(some (ixOf 50)), (.r (.load .one (.t (ixOf 49)))), none⟩, 0, 2, []⟩,
  ⟨27, ⟨(some (ixOf 73)), (.p (.extract (.t (ixOf 46)) 1)), none⟩, 1, 2, []⟩,
  ⟨32, ⟨(some (ixOf 77)), (.p (.idxA 16 1 (.t (ixOf 9)) (.t (ixOf 50)))), none⟩, 2, 2, []⟩,
  ⟨33, ⟨none, (.e (.store 1 (.t (ixOf 77)) (.t (ixOf 73)))), none⟩, 2, 3, []⟩,
  ⟨4, ⟨(some (ixOf 51)), (.p (.idxA 4 1 (.t (ixOf 12)) (.c (.int .i64 (.ofNat 2))))), none⟩, 0, 3, []⟩,
  ⟨5, ⟨(some (ixOf 52)), (.r (.load .one (.t (ixOf 51)))), none⟩, 0, 3, []⟩,
  ⟨28, ⟨(some (ixOf 74)), (.p (.extract (.t (ixOf 46)) 2)), none⟩, 1, 3, []⟩,
  ⟨34, ⟨(some (ixOf 78)), (.p (.idxA 16 1 (.t (ixOf 9)) (.t (ixOf 52)))), none⟩, 3, 3, []⟩,
  ⟨35, ⟨none, (.e (.store 1 (.t (ixOf 78)) (.t (ixOf 74)))), none⟩, 3, 4, []⟩,
  ⟨6, ⟨(some (ixOf 53)), (.p (.idxA 4 1 (.t (ixOf 12)) (.c (.int .i64 (.ofNat 3))))), none⟩, 0, 4, []⟩,
  ⟨7, ⟨(some (ixOf 54)), (.r (.load .one (.t (ixOf 53)))), none⟩, 0, 4, []⟩,
  ⟨29, ⟨(some (ixOf 75)), (.p (.extract (.t (ixOf 46)) 3)), none⟩, 1, 4, []⟩,
  ⟨36, ⟨(some (ixOf 79)), (.p (.idxA 16 1 (.t (ixOf 9)) (.t (ixOf 54)))), none⟩, 4, 4, []⟩,
  ⟨37, ⟨none, (.e (.store 1 (.t (ixOf 79)) (.t (ixOf 75)))), none⟩, 4, 5, []⟩]
abbrev c_stream_block_26 : XC := XC.seq c_stream_block_24 c_stream_block_25
abbrev c_stream_block_27 : XC := XC.block 5 c_stream_block_26
abbrev c_stream_block_28 : XC := XC.region [⟨(some (ixOf 80)), (.p (.bin (.int .i64) .add (.t (ixOf 43)) (.c (.int .i64 (.ofNat 1))))), none⟩,
  ⟨(some (ixOf 43)), (.p (.mov (.t (ixOf 80)))), none⟩]
abbrev c_stream_block_29 : XC := XC.seq c_stream_block_27 c_stream_block_28
abbrev c_stream_block_30 : XC := XC.seq c_stream_block_23 c_stream_block_29
abbrev c_stream_block_31 : XC := XC.seq c_stream_block_22 c_stream_block_30
abbrev c_stream_block_32 : XC := XC.loop c_stream_block_31
abbrev c_stream_block_33 : XC := XC.block 4 c_stream_block_32
abbrev c_stream_block_34 : XC := XC.seq c_stream_block_21 c_stream_block_33
abbrev c_stream_block_35 : XC := XC.block 3 c_stream_block_34
abbrev c_stream_block_36 : XC := XC.region [⟨(some (ixOf 81)), (.p (.bin (.int .i64) .add (.t (ixOf 40)) (.c (.int .i64 (.ofNat 1))))), none⟩,
  ⟨(some (ixOf 40)), (.p (.mov (.t (ixOf 81)))), none⟩]
abbrev c_stream_block_37 : XC := XC.seq c_stream_block_35 c_stream_block_36
abbrev c_stream_block_38 : XC := XC.seq c_stream_block_20 c_stream_block_37
abbrev c_stream_block_39 : XC := XC.seq c_stream_block_19 c_stream_block_38
abbrev c_stream_block_40 : XC := XC.loop c_stream_block_39
abbrev c_stream_block_41 : XC := XC.block 2 c_stream_block_40
abbrev c_stream_block_42 : XC := XC.seq c_stream_block_18 c_stream_block_41
abbrev c_stream_block_43 : XC := XC.region [⟨(some (ixOf 13)), (.a (.alloc 167 [.nilp, .nils])), none⟩]
abbrev c_stream_block_44 : XC := XC.region [⟨(some (ixOf 82)), (.r (.load (.many 16) (.t (ixOf 9)))), none⟩,
  ⟨(some (ixOf 83)), (.p (.mov (.c (.int .i64 (.ofNat 0))))), none⟩]
abbrev c_stream_block_45 : XC := XC.region [⟨(some (ixOf 84)), (.p (.bin (.int .i64) .lss (.t (ixOf 83)) (.c (.int .i64 (.ofNat 16))))), none⟩]
abbrev c_stream_block_46 : XC := XC.cond (.t (ixOf 84)) .skip (.exit 6)
abbrev c_stream_block_47 : XC := XC.region [⟨(some (ixOf 85)), (.p (.mov (.t (ixOf 83)))), none⟩,
  ⟨(some (ixOf 86)), (.p (.ixAgg .one 16 1 (.t (ixOf 82)) (.t (ixOf 83)))), none⟩,
  ⟨(some (ixOf 14)), (.p (.mov (.t (ixOf 85)))), none⟩,
  ⟨(some (ixOf 15)), (.p (.mov (.t (ixOf 86)))), none⟩]
abbrev c_stream_block_48 : XC := XC.region [⟨(some (ixOf 87)), (.p (.mov (.t (ixOf 15)))), none⟩,
  ⟨(some (ixOf 88)), (.p (.mov (.t (ixOf 14)))), none⟩,
  ⟨(some (ixOf 89)), (.p (.idxA 16 1 (.t (ixOf 8)) (.t (ixOf 88)))), none⟩,
  ⟨(some (ixOf 90)), (.r (.load .one (.t (ixOf 89)))), none⟩,
  ⟨(some (ixOf 91)), (.p (.bin (.int .u32) .add (.t (ixOf 87)) (.t (ixOf 90)))), none⟩,
  ⟨(some (ixOf 92)), (.p (.convI .u64 (.t (ixOf 91)))), none⟩,
  ⟨(some (ixOf 93)), (.e (.call 89 [(.t (ixOf 92)), (.c (.int .i64 (.ofNat 4)))])), none⟩,
  ⟨(some (ixOf 94)), (.e (.call 80 [(.t (ixOf 13)), (.t (ixOf 93))])), none⟩]
abbrev c_stream_block_49 : XC := XC.seq c_stream_block_47 c_stream_block_48
abbrev c_stream_block_50 : XC := XC.block 7 c_stream_block_49
abbrev c_stream_block_51 : XC := XC.region [⟨(some (ixOf 95)), (.p (.bin (.int .i64) .add (.t (ixOf 83)) (.c (.int .i64 (.ofNat 1))))), none⟩,
  ⟨(some (ixOf 83)), (.p (.mov (.t (ixOf 95)))), none⟩]
abbrev c_stream_block_52 : XC := XC.seq c_stream_block_50 c_stream_block_51
abbrev c_stream_block_53 : XC := XC.seq c_stream_block_46 c_stream_block_52
abbrev c_stream_block_54 : XC := XC.seq c_stream_block_45 c_stream_block_53
abbrev c_stream_block_55 : XC := XC.loop c_stream_block_54
abbrev c_stream_block_56 : XC := XC.block 6 c_stream_block_55
abbrev c_stream_block_57 : XC := XC.seq c_stream_block_44 c_stream_block_56
abbrev c_stream_block_58 : XC := XC.region [⟨(some (ixOf 96)), (.e (.call 82 [(.t (ixOf 13))])), none⟩,
  ⟨(some (ixOf 6)), (.p (.mov (.t (ixOf 96)))), none⟩]
abbrev c_stream_block_59 : XC := XC.seq c_stream_block_58 .ret
abbrev c_stream_block_60 : XC := XC.seq c_stream_block_57 c_stream_block_59
abbrev c_stream_block_61 : XC := XC.seq c_stream_block_43 c_stream_block_60
abbrev c_stream_block_62 : XC := XC.seq c_stream_block_42 c_stream_block_61
abbrev c_stream_block_63 : XC := XC.seq c_stream_block_17 c_stream_block_62
abbrev c_stream_block_64 : XC := XC.seq c_stream_block_16 c_stream_block_63
abbrev c_stream_block_65 : XC := XC.seq c_stream_block_2 c_stream_block_64
abbrev c_stream_block_66 : XC := XC.seq c_stream_block_1 c_stream_block_65
abbrev c_stream_block_67 : XC := XC.seq c_stream_block_0 c_stream_block_66
abbrev x_stream_block : XFn := ⟨[.tmp (ixOf 6)], c_stream_block_67⟩
theorem mk_stream_block : mkFn tyT.get Tryz.f86 = some x_stream_block := by kernel_rfl
theorem fn_stream_block : E0.fn n_stream_block = some (.fn x_stream_block) := fn_of (by kernel_rfl) mk_stream_block
-- escutcheon/stream.Block
abbrev n_stream_Block : Nat := 88
abbrev c_stream_Block_0 : XC := XC.region [⟨(some (ixOf 6)), (.p (.mov (.c (.str [])))), none⟩,
  ⟨(some (ixOf 7)), (.p (.mov (.c (.bool false)))), none⟩]
abbrev c_stream_Block_1 : XC := XC.region [⟨(some (ixOf 8)), (.p (.mov (.t (ixOf 0)))), none⟩,
  ⟨(some (ixOf 9)), (.p (.mov (.t (ixOf 2)))), none⟩,
  ⟨(some (ixOf 10)), (.e (.call 83 [(.t (ixOf 8)), (.t (ixOf 9))])), none⟩,
  ⟨(some (ixOf 11)), (.p (.un .not (.t (ixOf 10)))), none⟩]
abbrev c_stream_Block_2 : XC := XC.region [⟨(some (ixOf 6)), (.p (.mov (.c (.str [])))), none⟩,
  ⟨(some (ixOf 7)), (.p (.mov (.c (.bool false)))), none⟩]
abbrev c_stream_Block_3 : XC := XC.seq c_stream_Block_2 .ret
abbrev c_stream_Block_4 : XC := XC.cond (.t (ixOf 11)) c_stream_Block_3 .skip
abbrev c_stream_Block_5 : XC := XC.seq c_stream_Block_1 c_stream_Block_4
abbrev c_stream_Block_6 : XC := XC.region [⟨(some (ixOf 12)), (.p (.mov (.t (ixOf 0)))), none⟩,
  ⟨(some (ixOf 13)), (.p (.mov (.t (ixOf 1)))), none⟩,
  ⟨(some (ixOf 14)), (.p (.mov (.t (ixOf 2)))), none⟩,
  ⟨(some (ixOf 15)), (.e (.call 86 [(.t (ixOf 12)), (.t (ixOf 13)), (.t (ixOf 14))])), none⟩,
  ⟨(some (ixOf 6)), (.p (.mov (.t (ixOf 15)))), none⟩,
  ⟨(some (ixOf 7)), (.p (.mov (.c (.bool true)))), none⟩]
abbrev c_stream_Block_7 : XC := XC.seq c_stream_Block_6 .ret
abbrev c_stream_Block_8 : XC := XC.seq c_stream_Block_5 c_stream_Block_7
abbrev c_stream_Block_9 : XC := XC.seq c_stream_Block_0 c_stream_Block_8
abbrev x_stream_Block : XFn := ⟨[.tmp (ixOf 6), .tmp (ixOf 7)], c_stream_Block_9⟩
theorem mk_stream_Block : mkFn tyT.get Tryz.f88 = some x_stream_Block := by kernel_rfl
theorem fn_stream_Block : E0.fn n_stream_Block = some (.fn x_stream_Block) := fn_of (by kernel_rfl) mk_stream_Block
-- escutcheon/stream.right
abbrev n_stream_right : Nat := 83
abbrev c_stream_right_0 : XC := XC.region [⟨(some (ixOf 4)), (.p (.mov (.c (.bool false)))), none⟩]
abbrev c_stream_right_1 : XC := XC.region [⟨(some (ixOf 5)), (.p (.mov (.t (ixOf 0)))), none⟩,
  ⟨(some (ixOf 6)), (.r (.len .str (.t (ixOf 5)))), none⟩,
  ⟨(some (ixOf 7)), (.p (.bin (.int .i64) .eql (.t (ixOf 6)) (.c (.int .i64 (.ofNat 32))))), none⟩,
  ⟨(some (ixOf 8)), (.p (.mov (.t (ixOf 7)))), none⟩,
  ⟨(some (ixOf 9)), (.p (.mov (.t (ixOf 1)))), (some ((ixOf 8), true))⟩,
  ⟨(some (ixOf 10)), (.r (.len .str (.t (ixOf 9)))), (some ((ixOf 8), true))⟩,
  ⟨(some (ixOf 11)), (.p (.bin (.int .i64) .eql (.t (ixOf 10)) (.c (.int .i64 (.ofNat 12))))), (some ((ixOf 8), true))⟩,
  ⟨(some (ixOf 12)), (.p (.pick (.t (ixOf 8)) (.t (ixOf 11)) (.c (.bool false)))), none⟩,
  ⟨(some (ixOf 4)), (.p (.mov (.t (ixOf 12)))), none⟩]
abbrev c_stream_right_2 : XC := XC.seq c_stream_right_1 .ret
abbrev c_stream_right_3 : XC := XC.seq c_stream_right_0 c_stream_right_2
abbrev x_stream_right : XFn := ⟨[.tmp (ixOf 4)], c_stream_right_3⟩
theorem mk_stream_right : mkFn tyT.get Tryz.f83 = some x_stream_right := by kernel_rfl
theorem fn_stream_right : E0.fn n_stream_right = some (.fn x_stream_right) := fn_of (by kernel_rfl) mk_stream_right
-- escutcheon/stream.Xor
abbrev n_stream_Xor : Nat := 42
abbrev c_stream_Xor_0 : XC := XC.region [⟨(some (ixOf 8)), (.p (.mov (.c (.str [])))), none⟩,
  ⟨(some (ixOf 9)), (.p (.mov (.c (.bool false)))), none⟩]
abbrev c_stream_Xor_1 : XC := XC.region [⟨(some (ixOf 13)), (.p (.mov (.t (ixOf 0)))), none⟩,
  ⟨(some (ixOf 14)), (.p (.mov (.t (ixOf 2)))), none⟩,
  ⟨(some (ixOf 15)), (.e (.call 83 [(.t (ixOf 13)), (.t (ixOf 14))])), none⟩,
  ⟨(some (ixOf 16)), (.p (.un .not (.t (ixOf 15)))), none⟩]
abbrev c_stream_Xor_2 : XC := XC.region [⟨(some (ixOf 8)), (.p (.mov (.c (.str [])))), none⟩,
  ⟨(some (ixOf 9)), (.p (.mov (.c (.bool false)))), none⟩]
abbrev c_stream_Xor_3 : XC := XC.seq c_stream_Xor_2 .ret
abbrev c_stream_Xor_4 : XC := XC.cond (.t (ixOf 16)) c_stream_Xor_3 .skip
abbrev c_stream_Xor_5 : XC := XC.seq c_stream_Xor_1 c_stream_Xor_4
abbrev c_stream_Xor_6 : XC := XC.region [⟨(some (ixOf 10)), (.a (.alloc 174 [(.int .u32 (.ofNat 0))])), none⟩]
abbrev c_stream_Xor_7 : XC := XC.region [⟨(some (ixOf 17)), (.p (.mov (.t (ixOf 1)))), none⟩,
  ⟨(some (ixOf 18)), (.e (.call 84 [(.t (ixOf 10)), (.t (ixOf 17))])), none⟩]
abbrev c_stream_Xor_8 : XC := XC.region [⟨(some (ixOf 11)), (.a (.alloc 167 [.nilp, .nils])), none⟩]
abbrev c_stream_Xor_9 : XC := XC.region [⟨(some (ixOf 19)), (.p (.mov (.t (ixOf 3)))), none⟩,
  ⟨(some (ixOf 20)), (.r (.len .str (.t (ixOf 19)))), none⟩,
  ⟨(some (ixOf 21)), (.p (.bin (.int .i64) .gtr (.t (ixOf 20)) (.c (.int .i64 (.ofNat 0))))), none⟩]
abbrev c_stream_Xor_10 : XC := XC.cond (.t (ixOf 21)) .skip (.exit 0)
abbrev c_stream_Xor_11 : XC := XC.seq c_stream_Xor_9 c_stream_Xor_10
abbrev c_stream_Xor_12 : XC := XC.region [⟨(some (ixOf 22)), (.p (.mov (.t (ixOf 3)))), none⟩,
  ⟨(some (ixOf 23)), (.r (.len .str (.t (ixOf 22)))), none⟩,
  ⟨(some (ixOf 24)), (.p (.min [(.t (ixOf 23)), (.c (.int .i64 (.ofNat 64)))])), none⟩,
  ⟨(some (ixOf 12)), (.p (.mov (.t (ixOf 24)))), none⟩]
abbrev c_stream_Xor_13 : XC := XC.drawn [⟨4, ⟨(some (ixOf 29)), (.e (.call 87 [(.t (ixOf 10)), (.c (.int .u32 (.ofNat 1)))])), none⟩, 0, 1, []⟩,
  ⟨3, ⟨(some (ixOf 28)), (.p (.mov (.t (ixOf 0)))), none⟩, 0, 1, []⟩,
  ⟨5, ⟨(some (ixOf 30)), (.p (.bin (.int .u32) .sub (.t (ixOf 29)) (.c (.int .u32 (.ofNat 1))))), none⟩, 1, 1, []⟩,
  ⟨6, ⟨(some (ixOf 31)), (.p (.mov (.t (ixOf 2)))), none⟩, 0, 1, []⟩,
  ⟨7, ⟨(some (ixOf 32)), (.e (.call 86 [(.t (ixOf 28)), (.t (ixOf 30)), (.t (ixOf 31))])), none⟩, 1, 2, []⟩,
  ⟨0, ⟨(some (ixOf 25)), (.p (.mov (.t (ixOf 3)))), none⟩, 0, 2, []⟩,
  ⟨1, ⟨(some (ixOf 26)), (.p (.mov (.t (ixOf 12)))), none⟩, 0, 2, []⟩,
  ⟨2, ⟨(some (ixOf 27)), (.p (.sliceS (.t (ixOf 25)) none (some (.t (ixOf 26))))), none⟩, 0, 2, []⟩,
  ⟨8, ⟨(some (ixOf 33)), (.e (.call 85 [(.t (ixOf 27)), (.t (ixOf 32))])), none⟩, 2, 3, []⟩,
  ⟨9, ⟨(some (ixOf 34)), (.e (.call 80 [(.t (ixOf 11)), (.t (ixOf 33))])), none⟩, 3, 4, []⟩]
abbrev c_stream_Xor_14 : XC := XC.region [⟨(some (ixOf 35)), (.p (.mov (.t (ixOf 3)))), none⟩,
  ⟨(some (ixOf 36)), (.p (.mov (.t (ixOf 12)))), none⟩,
  ⟨(some (ixOf 37)), (.p (.sliceS (.t (ixOf 35)) (some (.t (ixOf 36))) none)), none⟩,
  ⟨(some (ixOf 3)), (.p (.mov (.t (ixOf 37)))), none⟩]
abbrev c_stream_Xor_15 : XC := XC.seq c_stream_Xor_13 c_stream_Xor_14
abbrev c_stream_Xor_16 : XC := XC.seq c_stream_Xor_12 c_stream_Xor_15
abbrev c_stream_Xor_17 : XC := XC.block 1 c_stream_Xor_16
abbrev c_stream_Xor_18 : XC := XC.seq c_stream_Xor_11 c_stream_Xor_17
abbrev c_stream_Xor_19 : XC := XC.loop c_stream_Xor_18
abbrev c_stream_Xor_20 : XC := XC.block 0 c_stream_Xor_19
abbrev c_stream_Xor_21 : XC := XC.region [⟨(some (ixOf 38)), (.e (.call 82 [(.t (ixOf 11))])), none⟩,
  ⟨(some (ixOf 8)), (.p (.mov (.t (ixOf 38)))), none⟩,
  ⟨(some (ixOf 9)), (.p (.mov (.c (.bool true)))), none⟩]
abbrev c_stream_Xor_22 : XC := XC.seq c_stream_Xor_21 .ret
abbrev c_stream_Xor_23 : XC := XC.seq c_stream_Xor_20 c_stream_Xor_22
abbrev c_stream_Xor_24 : XC := XC.seq c_stream_Xor_8 c_stream_Xor_23
abbrev c_stream_Xor_25 : XC := XC.seq c_stream_Xor_7 c_stream_Xor_24
abbrev c_stream_Xor_26 : XC := XC.seq c_stream_Xor_6 c_stream_Xor_25
abbrev c_stream_Xor_27 : XC := XC.seq c_stream_Xor_5 c_stream_Xor_26
abbrev c_stream_Xor_28 : XC := XC.seq c_stream_Xor_0 c_stream_Xor_27
abbrev x_stream_Xor : XFn := ⟨[.tmp (ixOf 8), .tmp (ixOf 9)], c_stream_Xor_28⟩
theorem mk_stream_Xor : mkFn tyT.get Tryz.f42 = some x_stream_Xor := by kernel_rfl
theorem fn_stream_Xor : E0.fn n_stream_Xor = some (.fn x_stream_Xor) := fn_of (by kernel_rfl) mk_stream_Xor
-- escutcheon/onetime.Clamp
abbrev n_onetime_Clamp : Nat := 141
abbrev c_onetime_Clamp_0 : XC := XC.region [⟨(some (ixOf 2)), (.p (.mov (.c (.str [])))), none⟩,
  ⟨(some (ixOf 3)), (.p (.mov (.c (.bool false)))), none⟩]
abbrev c_onetime_Clamp_1 : XC := XC.region [⟨(some (ixOf 6)), (.p (.mov (.t (ixOf 0)))), none⟩,
  ⟨(some (ixOf 7)), (.r (.len .str (.t (ixOf 6)))), none⟩,
  ⟨(some (ixOf 8)), (.p (.bin (.int .i64) .neq (.t (ixOf 7)) (.c (.int .i64 (.ofNat 32))))), none⟩]
abbrev c_onetime_Clamp_2 : XC := XC.region [⟨(some (ixOf 2)), (.p (.mov (.c (.str [])))), none⟩,
  ⟨(some (ixOf 3)), (.p (.mov (.c (.bool false)))), none⟩]
abbrev c_onetime_Clamp_3 : XC := XC.seq c_onetime_Clamp_2 .ret
abbrev c_onetime_Clamp_4 : XC := XC.cond (.t (ixOf 8)) c_onetime_Clamp_3 .skip
abbrev c_onetime_Clamp_5 : XC := XC.seq c_onetime_Clamp_1 c_onetime_Clamp_4
abbrev c_onetime_Clamp_6 : XC := XC.region [⟨(some (ixOf 9)), (.p (.mov (.t (ixOf 0)))), none⟩,
  ⟨(some (ixOf 10)), (.p (.sliceS (.t (ixOf 9)) none (some (.c (.int .i64 (.ofNat 16)))))), none⟩,
  ⟨(some (ixOf 11)), (.a (.convSB (.t (ixOf 10)))), none⟩,
  ⟨(some (ixOf 4)), (.p (.mov (.t (ixOf 11)))), none⟩]
abbrev c_onetime_Clamp_7 : XC := XC.region [⟨(some (ixOf 12)), (.p (.mov (.t (ixOf 4)))), none⟩,
  ⟨(some (ixOf 13)), (.r (.len (.slice 5) (.t (ixOf 12)))), none⟩,
  ⟨(some (ixOf 14)), (.p (.mov (.c (.int .i64 (.ofNat 0))))), none⟩]
abbrev c_onetime_Clamp_8 : XC := XC.region [⟨(some (ixOf 15)), (.p (.bin (.int .i64) .lss (.t (ixOf 14)) (.t (ixOf 13)))), none⟩]
abbrev c_onetime_Clamp_9 : XC := XC.cond (.t (ixOf 15)) .skip (.exit 0)
abbrev c_onetime_Clamp_10 : XC := XC.region [⟨(some (ixOf 16)), (.p (.mov (.t (ixOf 14)))), none⟩,
  ⟨(some (ixOf 5)), (.p (.mov (.t (ixOf 16)))), none⟩]
abbrev c_onetime_Clamp_11 : XC := XC.region [⟨(some (ixOf 17)), (.p (.mov (.t (ixOf 5)))), none⟩]
abbrev c_onetime_Clamp_12 : XC := XC.region [⟨(some (ixOf 19)), (.p (.bin (.int .i64) .eql (.t (ixOf 17)) (.c (.int .i64 (.ofNat 3))))), none⟩,
  ⟨(some (ixOf 18)), (.p (.mov (.t (ixOf 19)))), none⟩]
abbrev c_onetime_Clamp_13 : XC := XC.region [⟨(some (ixOf 20)), (.p (.bin (.int .i64) .eql (.t (ixOf 17)) (.c (.int .i64 (.ofNat 7))))), none⟩,
  ⟨(some (ixOf 18)), (.p (.mov (.t (ixOf 20)))), none⟩]
abbrev c_onetime_Clamp_14 : XC := XC.region [⟨(some (ixOf 21)), (.p (.bin (.int .i64) .eql (.t (ixOf 17)) (.c (.int .i64 (.ofNat 11))))), none⟩,
  ⟨(some (ixOf 18)), (.p (.mov (.t (ixOf 21)))), none⟩]
abbrev c_onetime_Clamp_15 : XC := XC.region [⟨(some (ixOf 22)), (.p (.bin (.int .i64) .eql (.t (ixOf 17)) (.c (.int .i64 (.ofNat 15))))), none⟩,
  ⟨(some (ixOf 18)), (.p (.mov (.t (ixOf 22)))), none⟩]
abbrev c_onetime_Clamp_16 : XC := XC.cond (.t (ixOf 18)) .skip c_onetime_Clamp_15
abbrev c_onetime_Clamp_17 : XC := XC.seq c_onetime_Clamp_14 c_onetime_Clamp_16
abbrev c_onetime_Clamp_18 : XC := XC.cond (.t (ixOf 18)) .skip c_onetime_Clamp_17
abbrev c_onetime_Clamp_19 : XC := XC.seq c_onetime_Clamp_13 c_onetime_Clamp_18
abbrev c_onetime_Clamp_20 : XC := XC.cond (.t (ixOf 18)) .skip c_onetime_Clamp_19
abbrev c_onetime_Clamp_21 : XC := XC.seq c_onetime_Clamp_12 c_onetime_Clamp_20
abbrev c_onetime_Clamp_22 : XC := XC.region [⟨(some (ixOf 23)), (.p (.mov (.t (ixOf 4)))), none⟩,
  ⟨(some (ixOf 24)), (.p (.mov (.t (ixOf 5)))), none⟩,
  ⟨(some (ixOf 25)), (.p (.idxL 1 (.t (ixOf 23)) (.t (ixOf 24)))), none⟩,
  ⟨(some (ixOf 26)), (.r (.load .one (.t (ixOf 25)))), none⟩,
  ⟨(some (ixOf 27)), (.p (.bin (.int .u8) .and (.t (ixOf 26)) (.c (.int .u8 (.ofNat 15))))), none⟩,
  ⟨(some (ixOf 28)), (.p (.idxL 1 (.t (ixOf 23)) (.t (ixOf 24)))), none⟩,
  ⟨none, (.e (.store 1 (.t (ixOf 28)) (.t (ixOf 27)))), none⟩]
abbrev c_onetime_Clamp_23 : XC := XC.region [⟨(some (ixOf 30)), (.p (.bin (.int .i64) .eql (.t (ixOf 17)) (.c (.int .i64 (.ofNat 4))))), none⟩,
  ⟨(some (ixOf 29)), (.p (.mov (.t (ixOf 30)))), none⟩]
abbrev c_onetime_Clamp_24 : XC := XC.region [⟨(some (ixOf 31)), (.p (.bin (.int .i64) .eql (.t (ixOf 17)) (.c (.int .i64 (.ofNat 8))))), none⟩,
  ⟨(some (ixOf 29)), (.p (.mov (.t (ixOf 31)))), none⟩]
abbrev c_onetime_Clamp_25 : XC := XC.region [⟨(some (ixOf 32)), (.p (.bin (.int .i64) .eql (.t (ixOf 17)) (.c (.int .i64 (.ofNat 12))))), none⟩,
  ⟨(some (ixOf 29)), (.p (.mov (.t (ixOf 32)))), none⟩]
abbrev c_onetime_Clamp_26 : XC := XC.cond (.t (ixOf 29)) .skip c_onetime_Clamp_25
abbrev c_onetime_Clamp_27 : XC := XC.seq c_onetime_Clamp_24 c_onetime_Clamp_26
abbrev c_onetime_Clamp_28 : XC := XC.cond (.t (ixOf 29)) .skip c_onetime_Clamp_27
abbrev c_onetime_Clamp_29 : XC := XC.seq c_onetime_Clamp_23 c_onetime_Clamp_28
abbrev c_onetime_Clamp_30 : XC := XC.region [⟨(some (ixOf 33)), (.p (.mov (.t (ixOf 4)))), none⟩,
  ⟨(some (ixOf 34)), (.p (.mov (.t (ixOf 5)))), none⟩,
  ⟨(some (ixOf 35)), (.p (.idxL 1 (.t (ixOf 33)) (.t (ixOf 34)))), none⟩,
  ⟨(some (ixOf 36)), (.r (.load .one (.t (ixOf 35)))), none⟩,
  ⟨(some (ixOf 37)), (.p (.bin (.int .u8) .and (.t (ixOf 36)) (.c (.int .u8 (.ofNat 252))))), none⟩,
  ⟨(some (ixOf 38)), (.p (.idxL 1 (.t (ixOf 33)) (.t (ixOf 34)))), none⟩,
  ⟨none, (.e (.store 1 (.t (ixOf 38)) (.t (ixOf 37)))), none⟩]
abbrev c_onetime_Clamp_31 : XC := XC.cond (.t (ixOf 29)) c_onetime_Clamp_30 .skip
abbrev c_onetime_Clamp_32 : XC := XC.seq c_onetime_Clamp_29 c_onetime_Clamp_31
abbrev c_onetime_Clamp_33 : XC := XC.cond (.t (ixOf 18)) c_onetime_Clamp_22 c_onetime_Clamp_32
abbrev c_onetime_Clamp_34 : XC := XC.seq c_onetime_Clamp_21 c_onetime_Clamp_33
abbrev c_onetime_Clamp_35 : XC := XC.block 2 c_onetime_Clamp_34
abbrev c_onetime_Clamp_36 : XC := XC.seq c_onetime_Clamp_11 c_onetime_Clamp_35
abbrev c_onetime_Clamp_37 : XC := XC.seq c_onetime_Clamp_10 c_onetime_Clamp_36
abbrev c_onetime_Clamp_38 : XC := XC.block 1 c_onetime_Clamp_37
abbrev c_onetime_Clamp_39 : XC := XC.region [⟨(some (ixOf 39)), (.p (.bin (.int .i64) .add (.t (ixOf 14)) (.c (.int .i64 (.ofNat 1))))), none⟩,
  ⟨(some (ixOf 14)), (.p (.mov (.t (ixOf 39)))), none⟩]
abbrev c_onetime_Clamp_40 : XC := XC.seq c_onetime_Clamp_38 c_onetime_Clamp_39
abbrev c_onetime_Clamp_41 : XC := XC.seq c_onetime_Clamp_9 c_onetime_Clamp_40
abbrev c_onetime_Clamp_42 : XC := XC.seq c_onetime_Clamp_8 c_onetime_Clamp_41
abbrev c_onetime_Clamp_43 : XC := XC.loop c_onetime_Clamp_42
abbrev c_onetime_Clamp_44 : XC := XC.block 0 c_onetime_Clamp_43
abbrev c_onetime_Clamp_45 : XC := XC.seq c_onetime_Clamp_7 c_onetime_Clamp_44
abbrev c_onetime_Clamp_46 : XC := XC.region [⟨(some (ixOf 40)), (.p (.mov (.t (ixOf 4)))), none⟩,
  ⟨(some (ixOf 41)), (.r (.convBS (.t (ixOf 40)))), none⟩,
  ⟨(some (ixOf 2)), (.p (.mov (.t (ixOf 41)))), none⟩,
  ⟨(some (ixOf 3)), (.p (.mov (.c (.bool true)))), none⟩]
abbrev c_onetime_Clamp_47 : XC := XC.seq c_onetime_Clamp_46 .ret
abbrev c_onetime_Clamp_48 : XC := XC.seq c_onetime_Clamp_45 c_onetime_Clamp_47
abbrev c_onetime_Clamp_49 : XC := XC.seq c_onetime_Clamp_6 c_onetime_Clamp_48
abbrev c_onetime_Clamp_50 : XC := XC.seq c_onetime_Clamp_5 c_onetime_Clamp_49
abbrev c_onetime_Clamp_51 : XC := XC.seq c_onetime_Clamp_0 c_onetime_Clamp_50
abbrev x_onetime_Clamp : XFn := ⟨[.tmp (ixOf 2), .tmp (ixOf 3)], c_onetime_Clamp_51⟩
theorem mk_onetime_Clamp : mkFn tyT.get Tryz.f141 = some x_onetime_Clamp := by kernel_rfl
theorem fn_onetime_Clamp : E0.fn n_onetime_Clamp = some (.fn x_onetime_Clamp) := fn_of (by kernel_rfl) mk_onetime_Clamp
-- escutcheon/onetime.split
abbrev n_onetime_split : Nat := 142
abbrev c_onetime_split_0 : XC := XC.region [⟨(some (ixOf 6)), (.a (.alloc 234 (List.replicate 5 (.int .u64 (.ofNat 0))))), none⟩]
abbrev c_onetime_split_1 : XC := XC.region [⟨(some (ixOf 7)), (.p (.mov (.t (ixOf 0)))), none⟩,
  ⟨(some (ixOf 8)), (.p (.bin (.int .u64) .and (.t (ixOf 7)) (.c (.int .u64 (.ofNat 67108863))))), none⟩,
  ⟨(some (ixOf 9)), (.p (.mov (.t (ixOf 0)))), none⟩,
  ⟨(some (ixOf 10)), (.p (.bin (.int .u64) .shr (.t (ixOf 9)) (.c (.int .u64 (.ofNat 26))))), none⟩,
  ⟨(some (ixOf 11)), (.p (.bin (.int .u64) .and (.t (ixOf 10)) (.c (.int .u64 (.ofNat 67108863))))), none⟩,
  ⟨(some (ixOf 12)), (.p (.mov (.t (ixOf 0)))), none⟩,
  ⟨(some (ixOf 13)), (.p (.bin (.int .u64) .shr (.t (ixOf 12)) (.c (.int .u64 (.ofNat 52))))), none⟩,
  ⟨(some (ixOf 14)), (.p (.mov (.t (ixOf 1)))), none⟩,
  ⟨(some (ixOf 15)), (.p (.bin (.int .u64) .shl (.t (ixOf 14)) (.c (.int .u64 (.ofNat 12))))), none⟩,
  ⟨(some (ixOf 16)), (.p (.bin (.int .u64) .or (.t (ixOf 13)) (.t (ixOf 15)))), none⟩,
  ⟨(some (ixOf 17)), (.p (.bin (.int .u64) .and (.t (ixOf 16)) (.c (.int .u64 (.ofNat 67108863))))), none⟩,
  ⟨(some (ixOf 18)), (.p (.mov (.t (ixOf 1)))), none⟩,
  ⟨(some (ixOf 19)), (.p (.bin (.int .u64) .shr (.t (ixOf 18)) (.c (.int .u64 (.ofNat 14))))), none⟩,
  ⟨(some (ixOf 20)), (.p (.bin (.int .u64) .and (.t (ixOf 19)) (.c (.int .u64 (.ofNat 67108863))))), none⟩,
  ⟨(some (ixOf 21)), (.p (.mov (.t (ixOf 1)))), none⟩,
  ⟨(some (ixOf 22)), (.p (.bin (.int .u64) .shr (.t (ixOf 21)) (.c (.int .u64 (.ofNat 40))))), none⟩,
  ⟨(some (ixOf 23)), (.p (.mov (.t (ixOf 2)))), none⟩,
  ⟨(some (ixOf 24)), (.p (.bin (.int .u64) .shl (.t (ixOf 23)) (.c (.int .u64 (.ofNat 24))))), none⟩,
  ⟨(some (ixOf 25)), (.p (.bin (.int .u64) .or (.t (ixOf 22)) (.t (ixOf 24)))), none⟩,
  ⟨(some (ixOf 26)), (.p (.build (List.replicate 5 (.int .u64 (.ofNat 0))) [(0, 1, (.t (ixOf 8))), (1, 1, (.t (ixOf 11))), (2, 1, (.t (ixOf 17))), (3, 1, (.t (ixOf 20))), (4, 1, (.t (ixOf 25)))])), none⟩,
  ⟨none, (.e (.store 5 (.t (ixOf 6)) (.t (ixOf 26)))), none⟩]
abbrev c_onetime_split_2 : XC := XC.seq c_onetime_split_1 .ret
abbrev c_onetime_split_3 : XC := XC.seq c_onetime_split_0 c_onetime_split_2
abbrev x_onetime_split : XFn := ⟨[.cell (ixOf 6) (.many 5)], c_onetime_split_3⟩
theorem mk_onetime_split : mkFn tyT.get Tryz.f142 = some x_onetime_split := by kernel_rfl
theorem fn_onetime_split : E0.fn n_onetime_split = some (.fn x_onetime_split) := fn_of (by kernel_rfl) mk_onetime_split
-- (escutcheon/onetime.number).plus
abbrev n_onetime_number_plus : Nat := 143
abbrev c_onetime_number_plus_0 : XC := XC.region [⟨(some (ixOf 2)), (.a (.box (.t (ixOf 0)))), none⟩,
  ⟨(some (ixOf 3)), (.a (.box (.t (ixOf 1)))), none⟩,
  ⟨(some (ixOf 4)), (.a (.alloc 234 (List.replicate 5 (.int .u64 (.ofNat 0))))), none⟩]
abbrev c_onetime_number_plus_1 : XC := XC.region [⟨(some (ixOf 6)), (.p (.mov (.c (.int .i64 (.ofNat 0))))), none⟩]
abbrev c_onetime_number_plus_2 : XC := XC.region [⟨(some (ixOf 7)), (.p (.bin (.int .i64) .lss (.t (ixOf 6)) (.c (.int .i64 (.ofNat 5))))), none⟩]
abbrev c_onetime_number_plus_3 : XC := XC.cond (.t (ixOf 7)) .skip (.exit 0)
abbrev c_onetime_number_plus_4 : XC := XC.region [⟨(some (ixOf 8)), (.p (.mov (.t (ixOf 6)))), none⟩,
  ⟨(some (ixOf 5)), (.p (.mov (.t (ixOf 8)))), none⟩]
abbrev c_onetime_number_plus_5 : XC := XC.drawn [⟨0, ⟨(some (ixOf 9)), (.p (.mov (.t (ixOf 5)))), none⟩, 0, 0, []⟩,
  ⟨1, ⟨(some (ixOf 10)), (.p (.idxA 5 1 (.t (ixOf 2)) (.t (ixOf 9)))), none⟩, 0, 0, []⟩,
  ⟨2, ⟨(some (ixOf 11)), (.r (.load .one (.t (ixOf 10)))), none⟩, 0, 0, []⟩,
  ⟨3, ⟨(some (ixOf 12)), (.p (.mov (.t (ixOf 5)))), none⟩, 0, 0, []⟩,
  ⟨4, ⟨(some (ixOf 13)), (.p (.idxA 5 1 (.t (ixOf 3)) (.t (ixOf 12)))), none⟩, 0, 0, []⟩,
  ⟨5, ⟨(some (ixOf 14)), (.r (.load .one (.t (ixOf 13)))), none⟩, 0, 0, []⟩,
  ⟨6, ⟨(some (ixOf 15)), (.p (.bin (.int .u64) .add (.t (ixOf 11)) (.t (ixOf 14)))), none⟩, 0, 0, []⟩,
  ⟨7, ⟨(some (ixOf 16)), (.p (.idxA 5 1 (.t (ixOf 2)) (.t (ixOf 9)))), none⟩, 0, 0, []⟩,
  ⟨8, ⟨none, (.e (.store 1 (.t (ixOf 16)) (.t (ixOf 15)))), none⟩, 0, 1, []⟩]
abbrev c_onetime_number_plus_6 : XC := XC.seq c_onetime_number_plus_4 c_onetime_number_plus_5
abbrev c_onetime_number_plus_7 : XC := XC.block 1 c_onetime_number_plus_6
abbrev c_onetime_number_plus_8 : XC := XC.region [⟨(some (ixOf 17)), (.p (.bin (.int .i64) .add (.t (ixOf 6)) (.c (.int .i64 (.ofNat 1))))), none⟩,
  ⟨(some (ixOf 6)), (.p (.mov (.t (ixOf 17)))), none⟩]
abbrev c_onetime_number_plus_9 : XC := XC.seq c_onetime_number_plus_7 c_onetime_number_plus_8
abbrev c_onetime_number_plus_10 : XC := XC.seq c_onetime_number_plus_3 c_onetime_number_plus_9
abbrev c_onetime_number_plus_11 : XC := XC.seq c_onetime_number_plus_2 c_onetime_number_plus_10
abbrev c_onetime_number_plus_12 : XC := XC.loop c_onetime_number_plus_11
abbrev c_onetime_number_plus_13 : XC := XC.block 0 c_onetime_number_plus_12
abbrev c_onetime_number_plus_14 : XC := XC.seq c_onetime_number_plus_1 c_onetime_number_plus_13
abbrev c_onetime_number_plus_15 : XC := XC.region [⟨(some (ixOf 18)), (.r (.load (.many 5) (.t (ixOf 2)))), none⟩,
  ⟨none, (.e (.store 5 (.t (ixOf 4)) (.t (ixOf 18)))), none⟩]
abbrev c_onetime_number_plus_16 : XC := XC.seq c_onetime_number_plus_15 .ret
abbrev c_onetime_number_plus_17 : XC := XC.seq c_onetime_number_plus_14 c_onetime_number_plus_16
abbrev c_onetime_number_plus_18 : XC := XC.seq c_onetime_number_plus_0 c_onetime_number_plus_17
abbrev x_onetime_number_plus : XFn := ⟨[.cell (ixOf 4) (.many 5)], c_onetime_number_plus_18⟩
theorem mk_onetime_number_plus : mkFn tyT.get Tryz.f143 = some x_onetime_number_plus := by kernel_rfl
theorem fn_onetime_number_plus : E0.fn n_onetime_number_plus = some (.fn x_onetime_number_plus) := fn_of (by kernel_rfl) mk_onetime_number_plus
-- (escutcheon/onetime.number).carry
abbrev n_onetime_number_carry : Nat := 186
abbrev c_onetime_number_carry_0 : XC := XC.region [⟨(some (ixOf 1)), (.a (.box (.t (ixOf 0)))), none⟩,
  ⟨(some (ixOf 2)), (.a (.alloc 234 (List.replicate 5 (.int .u64 (.ofNat 0))))), none⟩]
abbrev c_onetime_number_carry_1 : XC := XC.region [⟨(some (ixOf 5)), (.p (.mov (.c (.int .i64 (.ofNat 0))))), none⟩]
abbrev c_onetime_number_carry_2 : XC := XC.region [⟨(some (ixOf 6)), (.p (.bin (.int .i64) .lss (.t (ixOf 5)) (.c (.int .i64 (.ofNat 3))))), none⟩]
abbrev c_onetime_number_carry_3 : XC := XC.cond (.t (ixOf 6)) .skip (.exit 0)
abbrev c_onetime_number_carry_4 : XC := XC.region [⟨(some (ixOf 3)), (.p (.mov (.c (.int .u64 (.ofNat 0))))), none⟩]
abbrev c_onetime_number_carry_5 : XC := XC.region [⟨(some (ixOf 7)), (.p (.mov (.c (.int .i64 (.ofNat 0))))), none⟩]
abbrev c_onetime_number_carry_6 : XC := XC.region [⟨(some (ixOf 8)), (.p (.bin (.int .i64) .lss (.t (ixOf 7)) (.c (.int .i64 (.ofNat 5))))), none⟩]
abbrev c_onetime_number_carry_7 : XC := XC.cond (.t (ixOf 8)) .skip (.exit 2)
abbrev c_onetime_number_carry_8 : XC := XC.region [⟨(some (ixOf 9)), (.p (.mov (.t (ixOf 7)))), none⟩,
  ⟨(some (ixOf 4)), (.p (.mov (.t (ixOf 9)))), none⟩]
abbrev c_onetime_number_carry_9 : XC := XC.region [⟨(some (ixOf 10)), (.p (.mov (.t (ixOf 4)))), none⟩,
  ⟨(some (ixOf 11)), (.p (.idxA 5 1 (.t (ixOf 1)) (.t (ixOf 10)))), none⟩,
  ⟨(some (ixOf 12)), (.r (.load .one (.t (ixOf 11)))), none⟩,
  ⟨(some (ixOf 13)), (.p (.mov (.t (ixOf 3)))), none⟩,
  ⟨(some (ixOf 14)), (.p (.bin (.int .u64) .add (.t (ixOf 12)) (.t (ixOf 13)))), none⟩,
  ⟨(some (ixOf 15)), (.p (.idxA 5 1 (.t (ixOf 1)) (.t (ixOf 10)))), none⟩,
  ⟨none, (.e (.store 1 (.t (ixOf 15)) (.t (ixOf 14)))), none⟩]
abbrev c_onetime_number_carry_10 : XC := XC.region [⟨(some (ixOf 16)), (.p (.mov (.t (ixOf 4)))), none⟩,
  ⟨(some (ixOf 17)), (.p (.idxA 5 1 (.t (ixOf 1)) (.t (ixOf 16)))), none⟩,
  ⟨(some (ixOf 18)), (.r (.load .one (.t (ixOf 17)))), none⟩,
  ⟨(some (ixOf 19)), (.p (.bin (.int .u64) .shr (.t (ixOf 18)) (.c (.int .u64 (.ofNat 26))))), none⟩,
  ⟨(some (ixOf 3)), (.p (.mov (.t (ixOf 19)))), none⟩]
abbrev c_onetime_number_carry_11 : XC := XC.region [⟨(some (ixOf 20)), (.p (.mov (.t (ixOf 4)))), none⟩,
  ⟨(some (ixOf 21)), (.p (.idxA 5 1 (.t (ixOf 1)) (.t (ixOf 20)))), none⟩,
  ⟨(some (ixOf 22)), (.r (.load .one (.t (ixOf 21)))), none⟩,
  ⟨(some (ixOf 23)), (.p (.bin (.int .u64) .and (.t (ixOf 22)) (.c (.int .u64 (.ofNat 67108863))))), none⟩,
  ⟨(some (ixOf 24)), (.p (.idxA 5 1 (.t (ixOf 1)) (.t (ixOf 20)))), none⟩,
  ⟨none, (.e (.store 1 (.t (ixOf 24)) (.t (ixOf 23)))), none⟩]
abbrev c_onetime_number_carry_12 : XC := XC.seq c_onetime_number_carry_10 c_onetime_number_carry_11
abbrev c_onetime_number_carry_13 : XC := XC.seq c_onetime_number_carry_9 c_onetime_number_carry_12
abbrev c_onetime_number_carry_14 : XC := XC.seq c_onetime_number_carry_8 c_onetime_number_carry_13
abbrev c_onetime_number_carry_15 : XC := XC.block 3 c_onetime_number_carry_14
abbrev c_onetime_number_carry_16 : XC := XC.region [⟨(some (ixOf 25)), (.p (.bin (.int .i64) .add (.t (ixOf 7)) (.c (.int .i64 (.ofNat 1))))), none⟩,
  ⟨(some (ixOf 7)), (.p (.mov (.t (ixOf 25)))), none⟩]
abbrev c_onetime_number_carry_17 : XC := XC.seq c_onetime_number_carry_15 c_onetime_number_carry_16
abbrev c_onetime_number_carry_18 : XC := XC.seq c_onetime_number_carry_7 c_onetime_number_carry_17
abbrev c_onetime_number_carry_19 : XC := XC.seq c_onetime_number_carry_6 c_onetime_number_carry_18
abbrev c_onetime_number_carry_20 : XC := XC.loop c_onetime_number_carry_19
abbrev c_onetime_number_carry_21 : XC := XC.block 2 c_onetime_number_carry_20
abbrev c_onetime_number_carry_22 : XC := XC.seq c_onetime_number_carry_5 c_onetime_number_carry_21
abbrev c_onetime_number_carry_23 : XC := XC.region [⟨(some (ixOf 26)), (.p (.idxA 5 1 (.t (ixOf 1)) (.c (.int .i64 (.ofNat 0))))), none⟩,
  ⟨(some (ixOf 27)), (.r (.load .one (.t (ixOf 26)))), none⟩,
  ⟨(some (ixOf 28)), (.p (.mov (.t (ixOf 3)))), none⟩,
  ⟨(some (ixOf 29)), (.p (.bin (.int .u64) .mul (.t (ixOf 28)) (.c (.int .u64 (.ofNat 5))))), none⟩,
  ⟨(some (ixOf 30)), (.p (.bin (.int .u64) .add (.t (ixOf 27)) (.t (ixOf 29)))), none⟩,
  ⟨(some (ixOf 31)), (.p (.idxA 5 1 (.t (ixOf 1)) (.c (.int .i64 (.ofNat 0))))), none⟩,
  ⟨none, (.e (.store 1 (.t (ixOf 31)) (.t (ixOf 30)))), none⟩]
abbrev c_onetime_number_carry_24 : XC := XC.seq c_onetime_number_carry_22 c_onetime_number_carry_23
abbrev c_onetime_number_carry_25 : XC := XC.seq c_onetime_number_carry_4 c_onetime_number_carry_24
abbrev c_onetime_number_carry_26 : XC := XC.block 1 c_onetime_number_carry_25
abbrev c_onetime_number_carry_27 : XC := XC.region [⟨(some (ixOf 32)), (.p (.bin (.int .i64) .add (.t (ixOf 5)) (.c (.int .i64 (.ofNat 1))))), none⟩,
  ⟨(some (ixOf 5)), (.p (.mov (.t (ixOf 32)))), none⟩]
abbrev c_onetime_number_carry_28 : XC := XC.seq c_onetime_number_carry_26 c_onetime_number_carry_27
abbrev c_onetime_number_carry_29 : XC := XC.seq c_onetime_number_carry_3 c_onetime_number_carry_28
abbrev c_onetime_number_carry_30 : XC := XC.seq c_onetime_number_carry_2 c_onetime_number_carry_29
abbrev c_onetime_number_carry_31 : XC := XC.loop c_onetime_number_carry_30
abbrev c_onetime_number_carry_32 : XC := XC.block 0 c_onetime_number_carry_31
abbrev c_onetime_number_carry_33 : XC := XC.seq c_onetime_number_carry_1 c_onetime_number_carry_32
abbrev c_onetime_number_carry_34 : XC := XC.region [⟨(some (ixOf 33)), (.r (.load (.many 5) (.t (ixOf 1)))), none⟩,
  ⟨none, (.e (.store 5 (.t (ixOf 2)) (.t (ixOf 33)))), none⟩]
abbrev c_onetime_number_carry_35 : XC := XC.seq c_onetime_number_carry_34 .ret
abbrev c_onetime_number_carry_36 : XC := XC.seq c_onetime_number_carry_33 c_onetime_number_carry_35
abbrev c_onetime_number_carry_37 : XC := XC.seq c_onetime_number_carry_0 c_onetime_number_carry_36
abbrev x_onetime_number_carry : XFn := ⟨[.cell (ixOf 2) (.many 5)], c_onetime_number_carry_37⟩
theorem mk_onetime_number_carry : mkFn tyT.get Tryz.f186 = some x_onetime_number_carry := by kernel_rfl
theorem fn_onetime_number_carry : E0.fn n_onetime_number_carry = some (.fn x_onetime_number_carry) := fn_of (by kernel_rfl) mk_onetime_number_carry
-- (escutcheon/onetime.number).times
abbrev n_onetime_number_times : Nat := 144
abbrev c_onetime_number_times_0 : XC := XC.region [⟨(some (ixOf 2)), (.a (.box (.t (ixOf 0)))), none⟩,
  ⟨(some (ixOf 3)), (.a (.box (.t (ixOf 1)))), none⟩,
  ⟨(some (ixOf 4)), (.a (.alloc 234 (List.replicate 5 (.int .u64 (.ofNat 0))))), none⟩]
abbrev c_onetime_number_times_1 : XC := XC.region [⟨(some (ixOf 5)), (.a (.alloc 234 (List.replicate 5 (.int .u64 (.ofNat 0))))), none⟩]
abbrev c_onetime_number_times_2 : XC := XC.region [⟨(some (ixOf 8)), (.p (.mov (.c (.int .i64 (.ofNat 0))))), none⟩]
abbrev c_onetime_number_times_3 : XC := XC.region [⟨(some (ixOf 9)), (.p (.bin (.int .i64) .lss (.t (ixOf 8)) (.c (.int .i64 (.ofNat 5))))), none⟩]
abbrev c_onetime_number_times_4 : XC := XC.cond (.t (ixOf 9)) .skip (.exit 0)
abbrev c_onetime_number_times_5 : XC := XC.region [⟨(some (ixOf 10)), (.p (.mov (.t (ixOf 8)))), none⟩,
  ⟨(some (ixOf 6)), (.p (.mov (.t (ixOf 10)))), none⟩]
abbrev c_onetime_number_times_6 : XC := XC.region [⟨(some (ixOf 11)), (.p (.mov (.c (.int .i64 (.ofNat 0))))), none⟩]
abbrev c_onetime_number_times_7 : XC := XC.region [⟨(some (ixOf 12)), (.p (.bin (.int .i64) .lss (.t (ixOf 11)) (.c (.int .i64 (.ofNat 5))))), none⟩]
abbrev c_onetime_number_times_8 : XC := XC.cond (.t (ixOf 12)) .skip (.exit 2)
abbrev c_onetime_number_times_9 : XC := XC.region [⟨(some (ixOf 13)), (.p (.mov (.t (ixOf 11)))), none⟩,
  ⟨(some (ixOf 7)), (.p (.mov (.t (ixOf 13)))), none⟩]
abbrev c_onetime_number_times_10 : XC := XC.region [⟨(some (ixOf 14)), (.p (.mov (.t (ixOf 7)))), none⟩,
  ⟨(some (ixOf 15)), (.p (.mov (.t (ixOf 6)))), none⟩,
  ⟨(some (ixOf 16)), (.p (.bin (.int .i64) .leq (.t (ixOf 14)) (.t (ixOf 15)))), none⟩]
abbrev c_onetime_number_times_11 : XC := XC.drawn [⟨0, ⟨(some (ixOf 17)), (.p (.mov (.t (ixOf 6)))), none⟩, 0, 0, []⟩,
  ⟨1, ⟨(some (ixOf 18)), (.p (.idxA 5 1 (.t (ixOf 5)) (.t (ixOf 17)))), none⟩, 0, 0, []⟩,
  ⟨2, ⟨(some (ixOf 19)), (.r (.load .one (.t (ixOf 18)))), none⟩, 0, 0, []⟩,
  ⟨3, ⟨(some (ixOf 20)), (.p (.mov (.t (ixOf 7)))), none⟩, 0, 0, []⟩,
  ⟨4, ⟨(some (ixOf 21)), (.p (.idxA 5 1 (.t (ixOf 2)) (.t (ixOf 20)))), none⟩, 0, 0, []⟩,
  ⟨5, ⟨(some (ixOf 22)), (.r (.load .one (.t (ixOf 21)))), none⟩, 0, 0, []⟩,
  ⟨6, ⟨(some (ixOf 23)), (.p (.mov (.t (ixOf 6)))), none⟩, 0, 0, []⟩,
  ⟨7, ⟨(some (ixOf 24)), (.p (.mov (.t (ixOf 7)))), none⟩, 0, 0, []⟩,
  ⟨8, ⟨(some (ixOf 25)), (.p (.bin (.int .i64) .sub (.t (ixOf 23)) (.t (ixOf 24)))), none⟩, 0, 0, []⟩,
  ⟨9, ⟨(some (ixOf 26)), (.p (.idxA 5 1 (.t (ixOf 3)) (.t (ixOf 25)))), none⟩, 0, 0, []⟩,
  ⟨10, ⟨(some (ixOf 27)), (.r (.load .one (.t (ixOf 26)))), none⟩, 0, 0, []⟩,
  ⟨11, ⟨(some (ixOf 28)), (.p (.bin (.int .u64) .mul (.t (ixOf 22)) (.t (ixOf 27)))), none⟩, 0, 0, []⟩,
  ⟨12, ⟨(some (ixOf 29)), (.p (.bin (.int .u64) .add (.t (ixOf 19)) (.t (ixOf 28)))), none⟩, 0, 0, []⟩,
  ⟨13, ⟨(some (ixOf 30)), (.p (.idxA 5 1 (.t (ixOf 5)) (.t (ixOf 17)))), none⟩, 0, 0, []⟩,
  ⟨14, ⟨none, (.e (.store 1 (.t (ixOf 30)) (.t (ixOf 29)))), none⟩, 0, 1, []⟩]
abbrev c_onetime_number_times_12 : XC := XC.drawn [⟨0, ⟨(some (ixOf 31)), (.p (.mov (.t (ixOf 6)))), none⟩, 0, 0, []⟩,
  ⟨1, ⟨(some (ixOf 32)), (.p (.idxA 5 1 (.t (ixOf 5)) (.t (ixOf 31)))), none⟩, 0, 0, []⟩,
  ⟨2, ⟨(some (ixOf 33)), (.r (.load .one (.t (ixOf 32)))), none⟩, 0, 0, []⟩,
  ⟨3, ⟨(some (ixOf 34)), (.p (.mov (.t (ixOf 7)))), none⟩, 0, 0, []⟩,
  ⟨4, ⟨(some (ixOf 35)), (.p (.idxA 5 1 (.t (ixOf 2)) (.t (ixOf 34)))), none⟩, 0, 0, []⟩,
  ⟨5, ⟨(some (ixOf 36)), (.r (.load .one (.t (ixOf 35)))), none⟩, 0, 0, []⟩,
  ⟨6, ⟨(some (ixOf 37)), (.p (.mov (.t (ixOf 6)))), none⟩, 0, 0, []⟩,
  ⟨7, ⟨(some (ixOf 38)), (.p (.bin (.int .i64) .add (.c (.int .i64 (.ofNat 5))) (.t (ixOf 37)))), none⟩, 0, 0, []⟩,
  ⟨8, ⟨(some (ixOf 39)), (.p (.mov (.t (ixOf 7)))), none⟩, 0, 0, []⟩,
  ⟨9, ⟨(some (ixOf 40)), (.p (.bin (.int .i64) .sub (.t (ixOf 38)) (.t (ixOf 39)))), none⟩, 0, 0, []⟩,
  ⟨10, ⟨(some (ixOf 41)), (.p (.idxA 5 1 (.t (ixOf 3)) (.t (ixOf 40)))), none⟩, 0, 0, []⟩,
  ⟨11, ⟨(some (ixOf 42)), (.r (.load .one (.t (ixOf 41)))), none⟩, 0, 0, []⟩,
  ⟨12, ⟨(some (ixOf 43)), (.p (.bin (.int .u64) .mul (.t (ixOf 36)) (.t (ixOf 42)))), none⟩, 0, 0, []⟩,
  ⟨13, ⟨(some (ixOf 44)), (.p (.bin (.int .u64) .mul (.t (ixOf 43)) (.c (.int .u64 (.ofNat 5))))), none⟩, 0, 0, []⟩,
  ⟨14, ⟨(some (ixOf 45)), (.p (.bin (.int .u64) .add (.t (ixOf 33)) (.t (ixOf 44)))), none⟩, 0, 0, []⟩,
  ⟨15, ⟨(some (ixOf 46)), (.p (.idxA 5 1 (.t (ixOf 5)) (.t (ixOf 31)))), none⟩, 0, 0, []⟩,
  ⟨16, ⟨none, (.e (.store 1 (.t (ixOf 46)) (.t (ixOf 45)))), none⟩, 0, 1, []⟩]
abbrev c_onetime_number_times_13 : XC := XC.cond (.t (ixOf 16)) c_onetime_number_times_11 c_onetime_number_times_12
abbrev c_onetime_number_times_14 : XC := XC.seq c_onetime_number_times_10 c_onetime_number_times_13
abbrev c_onetime_number_times_15 : XC := XC.seq c_onetime_number_times_9 c_onetime_number_times_14
abbrev c_onetime_number_times_16 : XC := XC.block 3 c_onetime_number_times_15
abbrev c_onetime_number_times_17 : XC := XC.region [⟨(some (ixOf 47)), (.p (.bin (.int .i64) .add (.t (ixOf 11)) (.c (.int .i64 (.ofNat 1))))), none⟩,
  ⟨(some (ixOf 11)), (.p (.mov (.t (ixOf 47)))), none⟩]
abbrev c_onetime_number_times_18 : XC := XC.seq c_onetime_number_times_16 c_onetime_number_times_17
abbrev c_onetime_number_times_19 : XC := XC.seq c_onetime_number_times_8 c_onetime_number_times_18
abbrev c_onetime_number_times_20 : XC := XC.seq c_onetime_number_times_7 c_onetime_number_times_19
abbrev c_onetime_number_times_21 : XC := XC.loop c_onetime_number_times_20
abbrev c_onetime_number_times_22 : XC := XC.block 2 c_onetime_number_times_21
abbrev c_onetime_number_times_23 : XC := XC.seq c_onetime_number_times_6 c_onetime_number_times_22
abbrev c_onetime_number_times_24 : XC := XC.seq c_onetime_number_times_5 c_onetime_number_times_23
abbrev c_onetime_number_times_25 : XC := XC.block 1 c_onetime_number_times_24
abbrev c_onetime_number_times_26 : XC := XC.region [⟨(some (ixOf 48)), (.p (.bin (.int .i64) .add (.t (ixOf 8)) (.c (.int .i64 (.ofNat 1))))), none⟩,
  ⟨(some (ixOf 8)), (.p (.mov (.t (ixOf 48)))), none⟩]
abbrev c_onetime_number_times_27 : XC := XC.seq c_onetime_number_times_25 c_onetime_number_times_26
abbrev c_onetime_number_times_28 : XC := XC.seq c_onetime_number_times_4 c_onetime_number_times_27
abbrev c_onetime_number_times_29 : XC := XC.seq c_onetime_number_times_3 c_onetime_number_times_28
abbrev c_onetime_number_times_30 : XC := XC.loop c_onetime_number_times_29
abbrev c_onetime_number_times_31 : XC := XC.block 0 c_onetime_number_times_30
abbrev c_onetime_number_times_32 : XC := XC.seq c_onetime_number_times_2 c_onetime_number_times_31
abbrev c_onetime_number_times_33 : XC := XC.region [⟨(some (ixOf 49)), (.r (.load (.many 5) (.t (ixOf 5)))), none⟩,
  ⟨(some (ixOf 50)), (.e (.call 186 [(.t (ixOf 49))])), none⟩,
  ⟨none, (.e (.store 5 (.t (ixOf 4)) (.t (ixOf 50)))), none⟩]
abbrev c_onetime_number_times_34 : XC := XC.seq c_onetime_number_times_33 .ret
abbrev c_onetime_number_times_35 : XC := XC.seq c_onetime_number_times_32 c_onetime_number_times_34
abbrev c_onetime_number_times_36 : XC := XC.seq c_onetime_number_times_1 c_onetime_number_times_35
abbrev c_onetime_number_times_37 : XC := XC.seq c_onetime_number_times_0 c_onetime_number_times_36
abbrev x_onetime_number_times : XFn := ⟨[.cell (ixOf 4) (.many 5)], c_onetime_number_times_37⟩
theorem mk_onetime_number_times : mkFn tyT.get Tryz.f144 = some x_onetime_number_times := by kernel_rfl
theorem fn_onetime_number_times : E0.fn n_onetime_number_times = some (.fn x_onetime_number_times) := fn_of (by kernel_rfl) mk_onetime_number_times
-- (escutcheon/onetime.number).whole
abbrev n_onetime_number_whole : Nat := 145
abbrev c_onetime_number_whole_0 : XC := XC.region [⟨(some (ixOf 1)), (.a (.box (.t (ixOf 0)))), none⟩,
  ⟨(some (ixOf 2)), (.a (.alloc 234 (List.replicate 5 (.int .u64 (.ofNat 0))))), none⟩]
abbrev c_onetime_number_whole_1 : XC := XC.region [⟨(some (ixOf 6)), (.r (.load (.many 5) (.t (ixOf 1)))), none⟩,
  ⟨(some (ixOf 7)), (.e (.call 186 [(.t (ixOf 6))])), none⟩,
  ⟨none, (.e (.store 5 (.t (ixOf 1)) (.t (ixOf 7)))), none⟩]
abbrev c_onetime_number_whole_2 : XC := XC.region [⟨(some (ixOf 8)), (.r (.load (.many 5) (.t (ixOf 1)))), none⟩,
  ⟨(some (ixOf 3)), (.a (.alloc 234 (List.replicate 5 (.int .u64 (.ofNat 0))))), none⟩,
  ⟨none, (.e (.store 5 (.t (ixOf 3)) (.t (ixOf 8)))), none⟩,
  ⟨(some (ixOf 4)), (.p (.mov (.c (.int .u64 (.ofNat 5))))), none⟩]
abbrev c_onetime_number_whole_3 : XC := XC.region [⟨(some (ixOf 9)), (.p (.mov (.c (.int .i64 (.ofNat 0))))), none⟩]
abbrev c_onetime_number_whole_4 : XC := XC.region [⟨(some (ixOf 10)), (.p (.bin (.int .i64) .lss (.t (ixOf 9)) (.c (.int .i64 (.ofNat 5))))), none⟩]
abbrev c_onetime_number_whole_5 : XC := XC.cond (.t (ixOf 10)) .skip (.exit 0)
abbrev c_onetime_number_whole_6 : XC := XC.region [⟨(some (ixOf 11)), (.p (.mov (.t (ixOf 9)))), none⟩,
  ⟨(some (ixOf 5)), (.p (.mov (.t (ixOf 11)))), none⟩]
abbrev c_onetime_number_whole_7 : XC := XC.region [⟨(some (ixOf 12)), (.p (.mov (.t (ixOf 5)))), none⟩,
  ⟨(some (ixOf 13)), (.p (.idxA 5 1 (.t (ixOf 3)) (.t (ixOf 12)))), none⟩,
  ⟨(some (ixOf 14)), (.r (.load .one (.t (ixOf 13)))), none⟩,
  ⟨(some (ixOf 15)), (.p (.mov (.t (ixOf 4)))), none⟩,
  ⟨(some (ixOf 16)), (.p (.bin (.int .u64) .add (.t (ixOf 14)) (.t (ixOf 15)))), none⟩,
  ⟨(some (ixOf 17)), (.p (.idxA 5 1 (.t (ixOf 3)) (.t (ixOf 12)))), none⟩,
  ⟨none, (.e (.store 1 (.t (ixOf 17)) (.t (ixOf 16)))), none⟩]
abbrev c_onetime_number_whole_8 : XC := XC.region [⟨(some (ixOf 18)), (.p (.mov (.t (ixOf 5)))), none⟩,
  ⟨(some (ixOf 19)), (.p (.idxA 5 1 (.t (ixOf 3)) (.t (ixOf 18)))), none⟩,
  ⟨(some (ixOf 20)), (.r (.load .one (.t (ixOf 19)))), none⟩,
  ⟨(some (ixOf 21)), (.p (.bin (.int .u64) .shr (.t (ixOf 20)) (.c (.int .u64 (.ofNat 26))))), none⟩,
  ⟨(some (ixOf 4)), (.p (.mov (.t (ixOf 21)))), none⟩]
abbrev c_onetime_number_whole_9 : XC := XC.region [⟨(some (ixOf 22)), (.p (.mov (.t (ixOf 5)))), none⟩,
  ⟨(some (ixOf 23)), (.p (.idxA 5 1 (.t (ixOf 3)) (.t (ixOf 22)))), none⟩,
  ⟨(some (ixOf 24)), (.r (.load .one (.t (ixOf 23)))), none⟩,
  ⟨(some (ixOf 25)), (.p (.bin (.int .u64) .and (.t (ixOf 24)) (.c (.int .u64 (.ofNat 67108863))))), none⟩,
  ⟨(some (ixOf 26)), (.p (.idxA 5 1 (.t (ixOf 3)) (.t (ixOf 22)))), none⟩,
  ⟨none, (.e (.store 1 (.t (ixOf 26)) (.t (ixOf 25)))), none⟩]
abbrev c_onetime_number_whole_10 : XC := XC.seq c_onetime_number_whole_8 c_onetime_number_whole_9
abbrev c_onetime_number_whole_11 : XC := XC.seq c_onetime_number_whole_7 c_onetime_number_whole_10
abbrev c_onetime_number_whole_12 : XC := XC.seq c_onetime_number_whole_6 c_onetime_number_whole_11
abbrev c_onetime_number_whole_13 : XC := XC.block 1 c_onetime_number_whole_12
abbrev c_onetime_number_whole_14 : XC := XC.region [⟨(some (ixOf 27)), (.p (.bin (.int .i64) .add (.t (ixOf 9)) (.c (.int .i64 (.ofNat 1))))), none⟩,
  ⟨(some (ixOf 9)), (.p (.mov (.t (ixOf 27)))), none⟩]
abbrev c_onetime_number_whole_15 : XC := XC.seq c_onetime_number_whole_13 c_onetime_number_whole_14
abbrev c_onetime_number_whole_16 : XC := XC.seq c_onetime_number_whole_5 c_onetime_number_whole_15
abbrev c_onetime_number_whole_17 : XC := XC.seq c_onetime_number_whole_4 c_onetime_number_whole_16
abbrev c_onetime_number_whole_18 : XC := XC.loop c_onetime_number_whole_17
abbrev c_onetime_number_whole_19 : XC := XC.block 0 c_onetime_number_whole_18
abbrev c_onetime_number_whole_20 : XC := XC.seq c_onetime_number_whole_3 c_onetime_number_whole_19
abbrev c_onetime_number_whole_21 : XC := XC.region [⟨(some (ixOf 28)), (.p (.mov (.t (ixOf 4)))), none⟩,
  ⟨(some (ixOf 29)), (.p (.bin (.int .u64) .gtr (.t (ixOf 28)) (.c (.int .u64 (.ofNat 0))))), none⟩]
abbrev c_onetime_number_whole_22 : XC := XC.region [⟨(some (ixOf 30)), (.r (.load (.many 5) (.t (ixOf 3)))), none⟩,
  ⟨none, (.e (.store 5 (.t (ixOf 2)) (.t (ixOf 30)))), none⟩]
abbrev c_onetime_number_whole_23 : XC := XC.seq c_onetime_number_whole_22 .ret
abbrev c_onetime_number_whole_24 : XC := XC.cond (.t (ixOf 29)) c_onetime_number_whole_23 .skip
abbrev c_onetime_number_whole_25 : XC := XC.seq c_onetime_number_whole_21 c_onetime_number_whole_24
abbrev c_onetime_number_whole_26 : XC := XC.region [⟨(some (ixOf 31)), (.r (.load (.many 5) (.t (ixOf 1)))), none⟩,
  ⟨none, (.e (.store 5 (.t (ixOf 2)) (.t (ixOf 31)))), none⟩]
abbrev c_onetime_number_whole_27 : XC := XC.seq c_onetime_number_whole_26 .ret
abbrev c_onetime_number_whole_28 : XC := XC.seq c_onetime_number_whole_25 c_onetime_number_whole_27
abbrev c_onetime_number_whole_29 : XC := XC.seq c_onetime_number_whole_20 c_onetime_number_whole_28
abbrev c_onetime_number_whole_30 : XC := XC.seq c_onetime_number_whole_2 c_onetime_number_whole_29
abbrev c_onetime_number_whole_31 : XC := XC.seq c_onetime_number_whole_1 c_onetime_number_whole_30
abbrev c_onetime_number_whole_32 : XC := XC.seq c_onetime_number_whole_0 c_onetime_number_whole_31
abbrev x_onetime_number_whole : XFn := ⟨[.cell (ixOf 2) (.many 5)], c_onetime_number_whole_32⟩
theorem mk_onetime_number_whole : mkFn tyT.get Tryz.f145 = some x_onetime_number_whole := by kernel_rfl
theorem fn_onetime_number_whole : E0.fn n_onetime_number_whole = some (.fn x_onetime_number_whole) := fn_of (by kernel_rfl) mk_onetime_number_whole
-- escutcheon/onetime.Tag
abbrev n_onetime_Tag : Nat := 90
abbrev c_onetime_Tag_0 : XC := XC.region [⟨(some (ixOf 4)), (.p (.mov (.c (.str [])))), none⟩,
  ⟨(some (ixOf 5)), (.p (.mov (.c (.bool false)))), none⟩]
abbrev c_onetime_Tag_1 : XC := XC.region [⟨(some (ixOf 18)), (.p (.mov (.t (ixOf 0)))), none⟩,
  ⟨(some (ixOf 19)), (.e (.call 141 [(.t (ixOf 18))])), none⟩,
  ⟨(some (ixOf 17)), (.p (.mov (.t (ixOf 19)))), none⟩,
  ⟨(some (ixOf 20)), (.p (.extract (.t (ixOf 17)) 0)), none⟩,
  ⟨(some (ixOf 21)), (.p (.extract (.t (ixOf 17)) 1)), none⟩,
  ⟨(some (ixOf 6)), (.p (.mov (.t (ixOf 20)))), none⟩,
  ⟨(some (ixOf 7)), (.p (.mov (.t (ixOf 21)))), none⟩]
abbrev c_onetime_Tag_2 : XC := XC.region [⟨(some (ixOf 22)), (.p (.mov (.t (ixOf 7)))), none⟩,
  ⟨(some (ixOf 23)), (.p (.un .not (.t (ixOf 22)))), none⟩]
abbrev c_onetime_Tag_3 : XC := XC.region [⟨(some (ixOf 4)), (.p (.mov (.c (.str [])))), none⟩,
  ⟨(some (ixOf 5)), (.p (.mov (.c (.bool false)))), none⟩]
abbrev c_onetime_Tag_4 : XC := XC.seq c_onetime_Tag_3 .ret
abbrev c_onetime_Tag_5 : XC := XC.cond (.t (ixOf 23)) c_onetime_Tag_4 .skip
abbrev c_onetime_Tag_6 : XC := XC.seq c_onetime_Tag_2 c_onetime_Tag_5
abbrev c_onetime_Tag_7 : XC := XC.drawn [⟨0, ⟨(some (ixOf 24)), (.p (.mov (.t (ixOf 6)))), none⟩, 0, 0, []⟩,
  ⟨1, ⟨(some (ixOf 25)), (.p (.sliceS (.t (ixOf 24)) none (some (.c (.int .i64 (.ofNat 8)))))), none⟩, 0, 0, []⟩,
  ⟨2, ⟨(some (ixOf 26)), (.e (.call 137 [(.t (ixOf 25))])), none⟩, 0, 1, []⟩,
  ⟨3, ⟨(some (ixOf 27)), (.p (.mov (.t (ixOf 6)))), none⟩, 0, 1, []⟩,
  ⟨4, ⟨(some (ixOf 28)), (.p (.sliceS (.t (ixOf 27)) (some (.c (.int .i64 (.ofNat 8)))) none)), none⟩, 0, 1, []⟩,
  ⟨5, ⟨(some (ixOf 29)), (.e (.call 137 [(.t (ixOf 28))])), none⟩, 1, 2, []⟩,
  ⟨6, ⟨(some (ixOf 30)), (.e (.call 142 [(.t (ixOf 26)), (.t (ixOf 29)), (.c (.int .u64 (.ofNat 0)))])), none⟩, 2, 3, []⟩,
  ⟨7, ⟨(some (ixOf 8)), (.a (.alloc 234 (List.replicate 5 (.int .u64 (.ofNat 0))))), none⟩, 0, 3, []⟩,
  ⟨8, ⟨none, (.e (.store 5 (.t (ixOf 8)) (.t (ixOf 30)))), none⟩, 3, 4, [7]⟩]
abbrev c_onetime_Tag_8 : XC := XC.region [⟨(some (ixOf 9)), (.a (.alloc 234 (List.replicate 5 (.int .u64 (.ofNat 0))))), none⟩]
abbrev c_onetime_Tag_9 : XC := XC.region [⟨(some (ixOf 31)), (.p (.mov (.t (ixOf 1)))), none⟩,
  ⟨(some (ixOf 32)), (.r (.len .str (.t (ixOf 31)))), none⟩,
  ⟨(some (ixOf 33)), (.p (.bin (.int .i64) .gtr (.t (ixOf 32)) (.c (.int .i64 (.ofNat 0))))), none⟩]
abbrev c_onetime_Tag_10 : XC := XC.cond (.t (ixOf 33)) .skip (.exit 0)
abbrev c_onetime_Tag_11 : XC := XC.seq c_onetime_Tag_9 c_onetime_Tag_10
abbrev c_onetime_Tag_12 : XC := XC.region [⟨(some (ixOf 34)), (.p (.mov (.t (ixOf 1)))), none⟩,
  ⟨(some (ixOf 35)), (.r (.len .str (.t (ixOf 34)))), none⟩,
  ⟨(some (ixOf 36)), (.p (.min [(.t (ixOf 35)), (.c (.int .i64 (.ofNat 16)))])), none⟩,
  ⟨(some (ixOf 10)), (.p (.mov (.t (ixOf 36)))), none⟩]
abbrev c_onetime_Tag_13 : XC := XC.region [⟨(some (ixOf 37)), (.a (.makeSlice 1 [(.int .u8 (.ofNat 0))] 1 (.c (.int .i64 (.ofNat 17))) (.c (.int .i64 (.ofNat 17))))), none⟩,
  ⟨(some (ixOf 11)), (.p (.mov (.t (ixOf 37)))), none⟩]
abbrev c_onetime_Tag_14 : XC := XC.region [⟨(some (ixOf 38)), (.p (.mov (.t (ixOf 11)))), none⟩,
  ⟨(some (ixOf 39)), (.p (.mov (.t (ixOf 1)))), none⟩,
  ⟨(some (ixOf 40)), (.p (.mov (.t (ixOf 10)))), none⟩,
  ⟨(some (ixOf 41)), (.p (.sliceS (.t (ixOf 39)) none (some (.t (ixOf 40))))), none⟩,
  ⟨(some (ixOf 42)), (.e (.copy 1 (.t (ixOf 38)) (.t (ixOf 41)))), none⟩]
abbrev c_onetime_Tag_15 : XC := XC.region [⟨(some (ixOf 43)), (.p (.mov (.t (ixOf 11)))), none⟩,
  ⟨(some (ixOf 44)), (.p (.mov (.t (ixOf 10)))), none⟩,
  ⟨(some (ixOf 45)), (.p (.idxL 1 (.t (ixOf 43)) (.t (ixOf 44)))), none⟩,
  ⟨none, (.e (.store 1 (.t (ixOf 45)) (.c (.int .u8 (.ofNat 1))))), none⟩]
abbrev c_onetime_Tag_16 : XC := XC.region [⟨(some (ixOf 46)), (.p (.mov (.t (ixOf 11)))), none⟩,
  ⟨(some (ixOf 47)), (.r (.convBS (.t (ixOf 46)))), none⟩,
  ⟨(some (ixOf 12)), (.p (.mov (.t (ixOf 47)))), none⟩]
abbrev c_onetime_Tag_17 : XC := XC.drawn [⟨1, ⟨(some (ixOf 49)), (.p (.mov (.t (ixOf 12)))), none⟩, 0, 0, []⟩,
  ⟨2, ⟨(some (ixOf 50)), (.p (.sliceS (.t (ixOf 49)) none (some (.c (.int .i64 (.ofNat 8)))))), none⟩, 0, 0, []⟩,
  ⟨3, ⟨(some (ixOf 51)), (.e (.call 137 [(.t (ixOf 50))])), none⟩, 0, 1, []⟩,
  ⟨4, ⟨(some (ixOf 52)), (.p (.mov (.t (ixOf 12)))), none⟩, 0, 1, []⟩,
  ⟨5, ⟨(some (ixOf 53)), (.p (.sliceS (.t (ixOf 52)) (some (.c (.int .i64 (.ofNat 8)))) (some (.c (.int .i64 (.ofNat 16)))))), none⟩, 0, 1, []⟩,
  ⟨6, ⟨(some (ixOf 54)), (.e (.call 137 [(.t (ixOf 53))])), none⟩, 1, 2, []⟩,
  ⟨7, ⟨(some (ixOf 55)), (.p (.mov (.t (ixOf 12)))), none⟩, 0, 2, []⟩,
  ⟨8, ⟨(some (ixOf 56)), (.p (.ixStr (.t (ixOf 55)) (.c (.int .i64 (.ofNat 16))))), none⟩, 0, 2, []⟩,
  ⟨9, ⟨(some (ixOf 57)), (.p (.convI .u64 (.t (ixOf 56)))), none⟩, 0, 2, []⟩,
  ⟨10, ⟨(some (ixOf 58)), (.e (.call 142 [(.t (ixOf 51)), (.t (ixOf 54)), (.t (ixOf 57))])), none⟩, 2, 3, []⟩,
  ⟨0, ⟨(some (ixOf 48)), (.r (.load (.many 5) (.t (ixOf 9)))), none⟩, 0, 3, []⟩,
  ⟨11, ⟨(some (ixOf 59)), (.e (.call 143 [(.t (ixOf 48)), (.t (ixOf 58))])), none⟩, 3, 4, []⟩,
  ⟨12, ⟨(some (ixOf 60)), (.r (.load (.many 5) (.t (ixOf 8)))), none⟩, 0, 4, []⟩,
  ⟨13, ⟨(some (ixOf 61)), (.e (.call 144 [(.t (ixOf 59)), (.t (ixOf 60))])), none⟩, 4, 5, []⟩,
  ⟨14, ⟨none, (.e (.store 5 (.t (ixOf 9)) (.t (ixOf 61)))), none⟩, 5, 6, []⟩]
abbrev c_onetime_Tag_18 : XC := XC.region [⟨(some (ixOf 62)), (.p (.mov (.t (ixOf 1)))), none⟩,
  ⟨(some (ixOf 63)), (.p (.mov (.t (ixOf 10)))), none⟩,
  ⟨(some (ixOf 64)), (.p (.sliceS (.t (ixOf 62)) (some (.t (ixOf 63))) none)), none⟩,
  ⟨(some (ixOf 1)), (.p (.mov (.t (ixOf 64)))), none⟩]
abbrev c_onetime_Tag_19 : XC := XC.seq c_onetime_Tag_17 c_onetime_Tag_18
abbrev c_onetime_Tag_20 : XC := XC.seq c_onetime_Tag_16 c_onetime_Tag_19
abbrev c_onetime_Tag_21 : XC := XC.seq c_onetime_Tag_15 c_onetime_Tag_20
abbrev c_onetime_Tag_22 : XC := XC.seq c_onetime_Tag_14 c_onetime_Tag_21
abbrev c_onetime_Tag_23 : XC := XC.seq c_onetime_Tag_13 c_onetime_Tag_22
abbrev c_onetime_Tag_24 : XC := XC.seq c_onetime_Tag_12 c_onetime_Tag_23
abbrev c_onetime_Tag_25 : XC := XC.block 1 c_onetime_Tag_24
abbrev c_onetime_Tag_26 : XC := XC.seq c_onetime_Tag_11 c_onetime_Tag_25
abbrev c_onetime_Tag_27 : XC := XC.loop c_onetime_Tag_26
abbrev c_onetime_Tag_28 : XC := XC.block 0 c_onetime_Tag_27
abbrev c_onetime_Tag_29 : XC := XC.region [⟨(some (ixOf 65)), (.r (.load (.many 5) (.t (ixOf 9)))), none⟩,
  ⟨(some (ixOf 66)), (.e (.call 145 [(.t (ixOf 65))])), none⟩,
  ⟨none, (.e (.store 5 (.t (ixOf 9)) (.t (ixOf 66)))), none⟩]
abbrev c_onetime_Tag_30 : XC := XC.drawn [⟨10, ⟨(some (ixOf 78)), (.p (.mov (.t (ixOf 0)))), none⟩, 0, 0, []⟩,
  ⟨11, ⟨(some (ixOf 79)), (.p (.sliceS (.t (ixOf 78)) (some (.c (.int .i64 (.ofNat 16)))) (some (.c (.int .i64 (.ofNat 24)))))), none⟩, 0, 0, []⟩,
  ⟨12, ⟨(some (ixOf 80)), (.e (.call 137 [(.t (ixOf 79))])), none⟩, 0, 1, []⟩,
  ⟨0, ⟨(some (ixOf 68)), (.p (.idxA 5 1 (.t (ixOf 9)) (.c (.int .i64 (.ofNat 0))))), none⟩, 0, 1, []⟩,
  ⟨1, ⟨(some (ixOf 69)), (.r (.load .one (.t (ixOf 68)))), none⟩, 0, 1, []⟩,
  ⟨2, ⟨(some (ixOf 70)), (.p (.idxA 5 1 (.t (ixOf 9)) (.c (.int .i64 (.ofNat 1))))), none⟩, 0, 1, []⟩,
  ⟨3, ⟨(some (ixOf 71)), (.r (.load .one (.t (ixOf 70)))), none⟩, 0, 1, []⟩,
  ⟨4, ⟨(some (ixOf 72)), (.p (.bin (.int .u64) .shl (.t (ixOf 71)) (.c (.int .u64 (.ofNat 26))))), none⟩, 0, 1, []⟩,
  ⟨5, ⟨(some (ixOf 73)), (.p (.bin (.int .u64) .or (.t (ixOf 69)) (.t (ixOf 72)))), none⟩, 0, 1, []⟩,
  ⟨6, ⟨(some (ixOf 74)), (.p (.idxA 5 1 (.t (ixOf 9)) (.c (.int .i64 (.ofNat 2))))), none⟩, 0, 1, []⟩,
  ⟨7, ⟨(some (ixOf 75)), (.r (.load .one (.t (ixOf 74)))), none⟩, 0, 1, []⟩,
  ⟨8, ⟨(some (ixOf 76)), (.p (.bin (.int .u64) .shl (.t (ixOf 75)) (.c (.int .u64 (.ofNat 52))))), none⟩, 0, 1, []⟩,
  ⟨9, ⟨(some (ixOf 77)), (.p (.bin (.int .u64) .or (.t (ixOf 73)) (.t (ixOf 76)))), none⟩, 0, 1, []⟩,
  ⟨13, ⟨(some (ixOf 81)), (.e (.call 146 [(.t (ixOf 77)), (.t (ixOf 80)), (.c (.int .u64 (.ofNat 0)))])), none⟩, 1, 2, []⟩,
  ⟨14, ⟨(some (ixOf 67)), (.p (.mov (.t (ixOf 81)))), none⟩, 2, 2, []⟩,
  ⟨15, ⟨(some (ixOf 82)), (.p (.extract (.t (ixOf 67)) 0)), none⟩, 2, 2, []⟩,
  ⟨16, ⟨(some (ixOf 83)), (.p (.extract (.t (ixOf 67)) 1)), none⟩, 2, 2, []⟩,
  ⟨17, ⟨(some (ixOf 13)), (.p (.mov (.t (ixOf 82)))), none⟩, 2, 2, []⟩,
  ⟨18, ⟨(some (ixOf 14)), (.p (.mov (.t (ixOf 83)))), none⟩, 2, 2, []⟩]
abbrev c_onetime_Tag_31 : XC := XC.drawn [⟨11, ⟨(some (ixOf 96)), (.p (.mov (.t (ixOf 0)))), none⟩, 0, 0, []⟩,
  ⟨12, ⟨(some (ixOf 97)), (.p (.sliceS (.t (ixOf 96)) (some (.c (.int .i64 (.ofNat 24)))) none)), none⟩, 0, 0, []⟩,
  ⟨13, ⟨(some (ixOf 98)), (.e (.call 137 [(.t (ixOf 97))])), none⟩, 0, 1, []⟩,
  ⟨0, ⟨(some (ixOf 85)), (.p (.idxA 5 1 (.t (ixOf 9)) (.c (.int .i64 (.ofNat 2))))), none⟩, 0, 1, []⟩,
  ⟨1, ⟨(some (ixOf 86)), (.r (.load .one (.t (ixOf 85)))), none⟩, 0, 1, []⟩,
  ⟨2, ⟨(some (ixOf 87)), (.p (.bin (.int .u64) .shr (.t (ixOf 86)) (.c (.int .u64 (.ofNat 12))))), none⟩, 0, 1, []⟩,
  ⟨3, ⟨(some (ixOf 88)), (.p (.idxA 5 1 (.t (ixOf 9)) (.c (.int .i64 (.ofNat 3))))), none⟩, 0, 1, []⟩,
  ⟨4, ⟨(some (ixOf 89)), (.r (.load .one (.t (ixOf 88)))), none⟩, 0, 1, []⟩,
  ⟨5, ⟨(some (ixOf 90)), (.p (.bin (.int .u64) .shl (.t (ixOf 89)) (.c (.int .u64 (.ofNat 14))))), none⟩, 0, 1, []⟩,
  ⟨6, ⟨(some (ixOf 91)), (.p (.bin (.int .u64) .or (.t (ixOf 87)) (.t (ixOf 90)))), none⟩, 0, 1, []⟩,
  ⟨7, ⟨(some (ixOf 92)), (.p (.idxA 5 1 (.t (ixOf 9)) (.c (.int .i64 (.ofNat 4))))), none⟩, 0, 1, []⟩,
  ⟨8, ⟨(some (ixOf 93)), (.r (.load .one (.t (ixOf 92)))), none⟩, 0, 1, []⟩,
  ⟨9, ⟨(some (ixOf 94)), (.p (.bin (.int .u64) .shl (.t (ixOf 93)) (.c (.int .u64 (.ofNat 40))))), none⟩, 0, 1, []⟩,
  ⟨10, ⟨(some (ixOf 95)), (.p (.bin (.int .u64) .or (.t (ixOf 91)) (.t (ixOf 94)))), none⟩, 0, 1, []⟩,
  ⟨14, ⟨(some (ixOf 99)), (.p (.mov (.t (ixOf 14)))), none⟩, 0, 1, []⟩,
  ⟨15, ⟨(some (ixOf 100)), (.e (.call 146 [(.t (ixOf 95)), (.t (ixOf 98)), (.t (ixOf 99))])), none⟩, 1, 2, []⟩,
  ⟨16, ⟨(some (ixOf 84)), (.p (.mov (.t (ixOf 100)))), none⟩, 2, 2, []⟩,
  ⟨17, ⟨(some (ixOf 101)), (.p (.extract (.t (ixOf 84)) 0)), none⟩, 2, 2, []⟩,
  ⟨18, ⟨(some (ixOf 102)), (.p (.extract (.t (ixOf 84)) 1)), none⟩, 2, 2, []⟩,
  ⟨19, ⟨(some (ixOf 15)), (.p (.mov (.t (ixOf 101)))), none⟩, 2, 2, []⟩,
  ⟨20, ⟨(some (ixOf 16)), (.p (.mov (.t (ixOf 102)))), none⟩, 2, 2, []⟩]
abbrev c_onetime_Tag_32 : XC := XC.region [⟨(some (ixOf 103)), (.p (.mov (.t (ixOf 13)))), none⟩,
  ⟨(some (ixOf 104)), (.e (.call 89 [(.t (ixOf 103)), (.c (.int .i64 (.ofNat 8)))])), none⟩,
  ⟨(some (ixOf 105)), (.p (.mov (.t (ixOf 15)))), none⟩,
  ⟨(some (ixOf 106)), (.e (.call 89 [(.t (ixOf 105)), (.c (.int .i64 (.ofNat 8)))])), none⟩,
  ⟨(some (ixOf 107)), (.p (.bin .str .add (.t (ixOf 104)) (.t (ixOf 106)))), none⟩,
  ⟨(some (ixOf 4)), (.p (.mov (.t (ixOf 107)))), none⟩,
  ⟨(some (ixOf 5)), (.p (.mov (.c (.bool true)))), none⟩]
abbrev c_onetime_Tag_33 : XC := XC.seq c_onetime_Tag_32 .ret
abbrev c_onetime_Tag_34 : XC := XC.seq c_onetime_Tag_31 c_onetime_Tag_33
abbrev c_onetime_Tag_35 : XC := XC.seq c_onetime_Tag_30 c_onetime_Tag_34
abbrev c_onetime_Tag_36 : XC := XC.seq c_onetime_Tag_29 c_onetime_Tag_35
abbrev c_onetime_Tag_37 : XC := XC.seq c_onetime_Tag_28 c_onetime_Tag_36
abbrev c_onetime_Tag_38 : XC := XC.seq c_onetime_Tag_8 c_onetime_Tag_37
abbrev c_onetime_Tag_39 : XC := XC.seq c_onetime_Tag_7 c_onetime_Tag_38
abbrev c_onetime_Tag_40 : XC := XC.seq c_onetime_Tag_6 c_onetime_Tag_39
abbrev c_onetime_Tag_41 : XC := XC.seq c_onetime_Tag_1 c_onetime_Tag_40
abbrev c_onetime_Tag_42 : XC := XC.seq c_onetime_Tag_0 c_onetime_Tag_41
abbrev x_onetime_Tag : XFn := ⟨[.tmp (ixOf 4), .tmp (ixOf 5)], c_onetime_Tag_42⟩
theorem mk_onetime_Tag : mkFn tyT.get Tryz.f90 = some x_onetime_Tag := by kernel_rfl
theorem fn_onetime_Tag : E0.fn n_onetime_Tag = some (.fn x_onetime_Tag) := fn_of (by kernel_rfl) mk_onetime_Tag
end Go.Proofs.XCode
end
section
namespace Go.Proofs.XCode
open Go.X
set_option linter.unusedSimpArgs false
set_option linter.unusedVariables false
theorem p_min2 (k j : IntKind) (a b : Nat) : pMin [.int k (.ofNat a), .int j (.ofNat b)] = some (.int k (.ofNat (min a b))) := by
  have e : foldMin (.ofNat a) [.int j (.ofNat b)] k = some (.int k (bif ltI (.ofNat b) (.ofNat a) then .ofNat b else .ofNat a)) := rfl
  rw [show pMin [.int k (.ofNat a), .int j (.ofNat b)] = foldMin (.ofNat a) [.int j (.ofNat b)] k from rfl, e]
  simp only [ltI, n_ble, n_succ]
  by_cases h : b + 1 ≤ a
  · simp only [h, decide_true, cond_true]; rw [Nat.min_eq_right (by omega)]
  · simp only [h, decide_false, cond_false]; rw [Nat.min_eq_left (by omega)]
def xorL (a b : List Nat) : List Nat := List.zipWith (fun x y => x ^^^ y) a b
theorem xorL_len (a b : List Nat) : (xorL a b).length = min a.length b.length := by simp [xorL]
theorem xor_lt8 {x y : Nat} (h : x < 256) (h' : y < 256) : x ^^^ y < 256 := Nat.xor_lt_two_pow (n := 8) h h'
theorem xorL_get {a b : List Nat} {i : Nat} (h : i < min a.length b.length) : (xorL a b).getD i 0 = a.getD i 0 ^^^ b.getD i 0 := by
  have h1 : i < a.length := by omega
  have h2 : i < b.length := by omega
  simp [xorL, List.getD_eq_getElem?_getD, List.getElem?_zipWith, List.getElem?_eq_getElem h1, List.getElem?_eq_getElem h2]
theorem xorL_lt {a b : List Nat} (ha : ∀ i, a.getD i 0 < 256) (hb : ∀ i, b.getD i 0 < 256) : ∀ i, (xorL a b).getD i 0 < 256 := by
  intro i
  by_cases h : i < min a.length b.length
  · rw [xorL_get h]; exact xor_lt8 (ha i) (hb i)
  · rw [List.getD_eq_getElem?_getD, List.getElem?_eq_none (by rw [xorL_len]; omega)]; decide
theorem get_of {s : List Nat} {i : Nat} (h : i < s.length) : s[i]? = some (s.getD i 0) := by
  rw [List.getD_eq_getElem?_getD, List.getElem?_eq_getElem h]; rfl
theorem xor_call (a b : List Nat) (ha : ∀ i, a.getD i 0 < 256) (hb : ∀ i, b.getD i 0 < 256) (hl : a.length ≤ 100000) (h : XH) : CallEv E0 n_octet_Xor [.str a, .str b] h (fun r k => r = .str (xorL a b) ∧ HExt h k) := by
  have hz := xorL_len a b
  generalize hzz : xorL a b = z at hz
  have hm : min a.length b.length ≤ a.length := Nat.min_le_left _ _
  have hm2 : min a.length b.length ≤ b.length := Nat.min_le_right _ _
  have hzl := xorL_lt ha hb
  rw [hzz] at hzl
  have p0 : part z 0 = List.replicate z.length (XV.int .u8 (.ofNat 0)) := by simp [part, u8s, mapX_eq]
  refine call_fn fn_octet_Xor ?_
  simp only [args0_cons, args0_nil]
  repeat with_reducible first | refine nx ?_ | (refine nv ?_; simp (disch := first | omega | decide) only [bG, p_min2, ← hz, a_mk _ _ _ _ _ (Nat.le_refl z.length), flat1]; refine rg ?_)
  refine go_loop_ind hE0 (fun m fr k => ∃ i, m = z.length - i ∧ i ≤ z.length ∧ HExt h k ∧ h.next + 1 ≤ k.next ∧ k.get h.next = some (.cells (part z i) false none) ∧
      ev fr (.t (ixOf 0)) = .str a ∧ ev fr (.t (ixOf 1)) = .str b ∧ ev fr (.t (ixOf 5)) = .slice h.next 0 z.length z.length 1 true ∧ ev fr (.t (ixOf 14)) = .int .i64 (.ofNat z.length) ∧ ev fr (.t (ixOf 15)) = .int .i64 (.ofNat i)) ?_ (n := z.length) ?_
  · rintro m fr k IH ⟨i, rfl, hi, hx, hn, hg, f0, f1, f5, f14, f15⟩
    repeat with_reducible first | refine nx ?_ | (refine nv ?_; simp (disch := first | omega | decide) only [bG, f14, f15]; refine rg ?_)
    refine go_cond ?_
    simp (disch := first | omega | decide) only [bG]
    refine condGo_split (fun hc => ?_) (fun hc => ?_)
    · have hc := of_decide_eq_true hc
      have hv : (wrapX .u8 (.ofNat (a.getD i 0 % 256 ^^^ b.getD i 0 % 256))) = .ofNat (z.getD i 0) := by
        rw [Nat.mod_eq_of_lt (ha i), Nat.mod_eq_of_lt (hb i), wrap_u8 (xor_lt8 (ha i) (hb i)), ← hzz, xorL_get (by omega)]
      have hst := e_store_one (b := h.next) (o := i) (v := .int .u8 (.ofNat (z.getD i 0))) hg (by rw [part_len hi]; omega) rfl
      rw [part_set hc] at hst
      repeat with_reducible first | refine nx ?_ | (refine nv ?_; simp (disch := first | omega | decide) only [bG, f0, f1, f5, f15, p_ixStr a i _ (get_of (by omega)), p_ixStr b i _ (get_of (by omega)), hv, hst]; refine rg ?_)
      refine plan_nil (by simp (disch := first | omega | decide) only [endOk, chkAt, addNew, newOk, rangeOk, distinctN, Nat.reduceLT, Nat.reduceAdd, Nat.reduceLeDiff, bP, bG]) ?_
      repeat with_reducible first | refine nx ?_ | (refine nv ?_; simp (disch := first | omega | decide) only [bG, f15]; refine rg ?_)
      refine ret_loop.2 (IH (z.length - (i + 1)) _ _ (by omega) ⟨i + 1, rfl, by omega, hx.set (m := h.next) (by omega) _, ?_, ?_, ?_, ?_, ?_, ?_, ?_⟩)
      · simp only [XH.next_set]; omega
      · rw [XH.get_set, if_pos rfl]
      all_goals simp (disch := first | omega | decide) only [bG, f0, f1, f5, f14, f15]
    · have hc := of_decide_eq_false hc
      obtain rfl : i = z.length := by omega
      have hcv := r_convBS (h := k) (b := h.next) (o := 0) (len := z.length) (cap := z.length) (ex := true) (s := z) (by rw [cells_b hg (by rw [part_len (Nat.le_refl _)]; omega), part_all, List.drop_zero, List.take_of_length_le (by rw [u8s_length]; exact Nat.le_refl _)]) (lt_all hzl)
      repeat with_reducible first | refine nx ?_ | (refine nv ?_; simp (disch := first | omega | decide) only [bG, f5, hcv]; refine rg ?_)
      refine ret_nil.2 ⟨_, fin_tmp (.inr rfl), ?_, hx⟩
      simp (disch := first | omega | decide) only [bG]
  · refine ⟨0, rfl, by omega, (HExt.refl h).new _, ?_, ?_, ?_, ?_, ?_, ?_, ?_⟩
    · simp only [XH.next_new]; omega
    · rw [XH.get_new, if_pos rfl, p0]
    all_goals simp (disch := first | omega | decide) only [bG]
def plN (v n : Nat) : Nat → List Nat
  | 0 => List.replicate n 0
  | i + 1 => (plN v n i).set i (v >>> (8 * i) % 256)
theorem plN_len (v n : Nat) : ∀ i, (plN v n i).length = n
  | 0 => by simp [plN]
  | i + 1 => by rw [plN, List.length_set, plN_len v n i]
theorem plN_lt (v n : Nat) : ∀ i j, (plN v n i).getD j 0 < 256
  | 0, j => by
    simp only [plN, List.getD_eq_getElem?_getD, List.getElem?_replicate]
    split <;> decide
  | i + 1, j => getD_set_lt (by decide) (plN_lt v n i) (Nat.mod_lt _ (by decide)) j
noncomputable def putLittle (v n : Nat) : List Nat := plN v n n
theorem putLittle_len (v n : Nat) : (putLittle v n).length = n := plN_len v n n
theorem putLittle_lt (v n : Nat) : ∀ i, (putLittle v n).getD i 0 < 256 := plN_lt v n n
theorem putLittle_call (v n : Nat) (hv : v < 18446744073709551616) (h1 : 1 ≤ n) (h8 : n ≤ 8) (h : XH) : CallEv E0 n_octet_PutLittle [.int .u64 (.ofNat v), .int .i64 (.ofNat n)] h (fun r k => r = .str (putLittle v n) ∧ HExt h k) := by
  have c1 : ¬ n < 1 := by omega
  have c2 : ¬ 8 < n := by omega
  refine call_fn fn_octet_PutLittle ?_
  simp only [args0_cons, args0_nil]
  repeat with_reducible first | refine nx ?_ | (refine nv ?_; simp (disch := first | omega | decide) only [bG, c1, c2, decide_false, cond_false]; refine rg ?_)
  refine go_cond ?_
  simp (disch := first | omega | decide) only [bG, c1, c2, decide_false, cond_false]
  refine condGo_false ?_
  repeat with_reducible first | refine nx ?_ | (refine nv ?_; simp (disch := first | omega | decide) only [bG, a_mk _ _ _ _ _ (Nat.le_refl n), flat1, rep_u8s]; refine rg ?_)
  refine go_loop_ind hE0 (fun m fr k => ∃ i, m = n - i ∧ i ≤ n ∧ HExt h k ∧ h.next + 1 ≤ k.next ∧ k.get h.next = some (.cells (u8s (plN v n i)) false none) ∧
      ev fr (.t (ixOf 0)) = .int .u64 (.ofNat v) ∧ ev fr (.t (ixOf 1)) = .int .i64 (.ofNat n) ∧ ev fr (.t (ixOf 5)) = .slice h.next 0 n n 1 true ∧ ev fr (.t (ixOf 16)) = .int .i64 (.ofNat n) ∧ ev fr (.t (ixOf 17)) = .int .i64 (.ofNat i)) ?_ (n := n) ?_
  · rintro m fr k IH ⟨i, rfl, hi, hx, hn, hg, f0, f1, f5, f16, f17⟩
    repeat with_reducible first | refine nx ?_ | (refine nv ?_; simp (disch := first | omega | decide) only [bG, f16, f17]; refine rg ?_)
    refine go_cond ?_
    simp (disch := first | omega | decide) only [bG]
    refine condGo_split (fun hc => ?_) (fun hc => ?_)
    · have hc := of_decide_eq_true hc
      have hb : 8 * i ≤ IntKind.u64.bits := by show 8 * i ≤ 64; omega
      have hst := e_store_one (b := h.next) (o := i) (v := .int .u8 (.ofNat (v >>> (8 * i) % 256))) hg (by rw [u8s_length, plN_len]; omega) rfl
      rw [u8s_set] at hst
      repeat with_reducible first | refine nx ?_ | (refine nv ?_; simp (disch := first | omega | decide) only [bG, f0, f1, f5, f17, hb, wrap_u8m, hst]; refine rg ?_)
      refine ret_loop.2 (IH (n - (i + 1)) _ _ (by omega) ⟨i + 1, rfl, by omega, hx.set (m := h.next) (by omega) _, ?_, ?_, ?_, ?_, ?_, ?_, ?_⟩)
      · simp only [XH.next_set]; omega
      · rw [XH.get_set, if_pos rfl]; rfl
      all_goals simp (disch := first | omega | decide) only [bG, f0, f1, f5, f16, f17]
    · have hc := of_decide_eq_false hc
      obtain rfl : i = n := by omega
      have hcv := r_convBS (h := k) (b := h.next) (o := 0) (len := i) (cap := i) (ex := true) (s := plN v i i) (by rw [cells_b hg (by rw [u8s_length, plN_len]; omega), List.drop_zero, List.take_of_length_le (by rw [u8s_length, plN_len]; exact Nat.le_refl _)]) (lt_all (plN_lt _ _ _))
      repeat with_reducible first | refine nx ?_ | (refine nv ?_; simp (disch := first | omega | decide) only [bG, f5, hcv]; refine rg ?_)
      refine ret_nil.2 ⟨_, fin_tmp (.inr rfl), ?_, hx⟩
      simp (disch := first | omega | decide) only [bG]
      rfl
  · refine ⟨0, rfl, by omega, (HExt.refl h).new _, ?_, ?_, ?_, ?_, ?_, ?_, ?_⟩
    · simp only [XH.next_new]; omega
    · rw [XH.get_new, if_pos rfl]; rfl
    all_goals simp (disch := first | omega | decide) only [bG]
def littleN : List Nat → Nat
  | [] => 0
  | c :: l => littleN l * 256 + c
theorem littleN_lt : ∀ (l : List Nat), (∀ i, l.getD i 0 < 256) → littleN l < 256 ^ l.length
  | [], _ => by simp [littleN]
  | c :: l, h => by
    have h0 : c < 256 := by simpa using h 0
    have := littleN_lt l (fun i => by simpa using h (i + 1))
    rw [littleN, List.length_cons, Nat.pow_succ]
    omega
def idxI : Nat → Int
  | 0 => .negSucc 0
  | r + 1 => .ofNat r
theorem little_call (s : List Nat) (hs : ∀ i, s.getD i 0 < 256) (h1 : 1 ≤ s.length) (hl : s.length ≤ 8) (h : XH) : CallEv E0 n_octet_Little [.str s] h (fun r k => r = .int .u64 (.ofNat (littleN s)) ∧ k = h) := by
  have hmin : min s.length 8 = s.length := Nat.min_eq_left hl
  refine call_fn fn_octet_Little ?_
  simp only [args0_cons, args0_nil]
  repeat with_reducible first | refine nx ?_ | (refine nv ?_; simp (disch := first | omega | decide) only [bG, p_min2, hmin]; refine rg ?_)
  refine go_loop_ind hE0 (fun m fr k => k = h ∧ m ≤ s.length ∧ ev fr (.t (ixOf 0)) = .str s ∧ ev fr (.t (ixOf 3)) = .int .u64 (.ofNat (littleN (s.drop m))) ∧ ev fr (.t (ixOf 4)) = .int .i64 (idxI m)) ?_ (n := s.length) ?_
  · rintro m fr k IH ⟨rfl, hi, f0, f3, f4⟩
    cases m with
    | zero =>
      have e1 : xbin (.int .i64) .geq (.int .i64 (idxI 0)) (.int .i64 (.ofNat 0)) = some (.bool false) := rfl
      rw [List.drop_zero] at f3
      repeat with_reducible first | refine nx ?_ | (refine nv ?_; simp (disch := first | omega | decide) only [bG, f4, e1]; refine rg ?_)
      refine go_cond ?_
      simp (disch := first | omega | decide) only [bG, f4, e1]
      refine condGo_false ?_
      repeat with_reducible first | refine nx ?_ | (refine nv ?_; simp (disch := first | omega | decide) only [bG, f3]; refine rg ?_)
      refine ret_nil.2 ⟨_, fin_tmp (.inr rfl), ?_, rfl⟩
      simp (disch := first | omega | decide) only [bG]
    | succ m =>
      have f4' : ev fr (.t (ixOf 4)) = .int .i64 (.ofNat m) := f4
      repeat with_reducible first | refine nx ?_ | (refine nv ?_; simp (disch := first | omega | decide) only [bG, f4', Nat.zero_le, decide_true]; refine rg ?_)
      refine go_cond ?_
      simp (disch := first | omega | decide) only [bG, f4', Nat.zero_le, decide_true]
      refine condGo_true ?_
      have hb : littleN (s.drop (m + 1)) < 256 ^ 7 := by
        refine Nat.lt_of_lt_of_le (littleN_lt _ (fun i => by rw [getD_drop]; exact hs _)) (Nat.pow_le_pow_right (by decide) ?_)
        rw [List.length_drop]; omega
      have hc := hs m
      have h8 : 8 ≤ IntKind.u64.bits := by decide
      have hl1 : (littleN (s.drop (m + 1)) <<< 8) % 18446744073709551616 = littleN (s.drop (m + 1)) <<< 8 := Nat.mod_eq_of_lt (by rw [Nat.shiftLeft_eq]; omega)
      have e2 : ∀ m, xbin (.int .i64) .sub (.int .i64 (.ofNat m)) (.int .i64 (.ofNat 1)) = some (.int .i64 (if m = 0 then .negSucc 0 else wrapX .i64 (.ofNat (m - 1)))) := by
        intro m
        cases m with
        | zero => rfl
        | succ m => rw [b_sub _ _ _ _ (by omega), if_neg (by omega)]
      repeat with_reducible first | refine nx ?_ | (refine nv ?_; simp (disch := first | omega | decide) only [bG, f0, f3, f4', h8, p_ixStr s m _ (get_of (by omega)), e2]; refine rg ?_)
      refine ret_loop.2 (IH m _ _ (by omega) ⟨rfl, by omega, ?_, ?_, ?_⟩)
      · simp (disch := first | omega | decide) only [bG, f0]
      · simp (disch := first | omega | decide) only [bG, f0, f3, wrapX, n_mod]
        rw [hl1, Nat.mod_eq_of_lt (by omega : s.getD m 0 < 18446744073709551616), shl8_or hc, Nat.mod_eq_of_lt (by omega), List.drop_eq_getElem_cons (by omega : m < s.length), littleN, List.getD_eq_getElem?_getD, List.getElem?_eq_getElem (by omega : m < s.length)]
        rfl
      · simp (disch := first | omega | decide) only [bG]
        cases m with
        | zero => rfl
        | succ m => first | rfl | (rw [if_neg (by omega), wrap_i64 (by omega)]; rfl)
  · refine ⟨rfl, Nat.le_refl _, ?_, ?_, ?_⟩
    · simp (disch := first | omega | decide) only [bG]
    · rw [List.drop_length]
      simp (disch := first | omega | decide) only [bG]
      rfl
    · simp (disch := first | omega | decide) only [bG]
      obtain ⟨n, hn⟩ : ∃ n, s.length = n + 1 := ⟨s.length - 1, by omega⟩
      rw [hn]; rfl
def rol (x n : Nat) : Nat := (x <<< n) % 4294967296 ||| x >>> (32 - n)
theorem rol_lt {x n : Nat} (h : x < 4294967296) : rol x n < 4294967296 := or_lt (mod_lt32 _) (shr_lt h)
theorem leftp (x n : Nat) (hx : x < 4294967296) (hn : n < 32) (h : XH) : CallEv E0 n_octet_Left [.int .u32 (.ofNat x), .int .i64 (.ofNat n)] h (fun r k => r = .int .u32 (.ofNat (rol x n)) ∧ k = h) := by
  have e1 : n % 32 = n := Nat.mod_eq_of_lt hn
  have e3 : (n + 32) % 32 = n := by omega
  refine call_fn fn_octet_Left ?_
  simp only [args0_cons, args0_nil]
  repeat with_reducible first | refine nx ?_ | (refine nv ?_; simp (disch := first | omega | decide) only [bG, e1, e3]; refine rg ?_)
  refine callGo_of (rot32 _ _ hx hn _) ?_
  repeat with_reducible first | refine nx ?_ | (refine nv ?_; simp (disch := first | omega | decide) only [bG]; refine rg ?_)
  refine ret_nil.2 ⟨_, fin_tmp (.inr rfl), ?_, rfl⟩
  simp (disch := first | omega | decide) only [bG]
  rfl
end Go.Proofs.XCode
end
section
namespace Go.Proofs.XCode
open Go.X
set_option linter.unusedSimpArgs false
set_option linter.unusedVariables false
def q1 (a b : Nat) : Nat := (a + b) % 4294967296
structure Q4 where
  (a b c d : Nat)
def quarter (a b c d : Nat) : Q4 :=
  let a1 := (a + b) % 4294967296
  let d1 := rol (d ^^^ a1) 16
  let c1 := (c + d1) % 4294967296
  let b1 := rol (b ^^^ c1) 12
  let a2 := (a1 + b1) % 4294967296
  let d2 := rol (d1 ^^^ a2) 8
  let c2 := (c1 + d2) % 4294967296
  ⟨a2, rol (b1 ^^^ c2) 7, c2, d2⟩
theorem xor_mod {x y : Nat} (h : x < 4294967296) (h' : y < 4294967296) : (x % 4294967296 ^^^ y % 4294967296) % 4294967296 = x ^^^ y := by
  rw [Nat.mod_eq_of_lt h, Nat.mod_eq_of_lt h', Nat.mod_eq_of_lt (xor_lt h h')]
theorem quarter_lt {a b c d : Nat} (ha : a < 4294967296) (hb : b < 4294967296) (hc : c < 4294967296) (hd : d < 4294967296) : (quarter a b c d).a < 4294967296 ∧ (quarter a b c d).b < 4294967296 ∧ (quarter a b c d).c < 4294967296 ∧ (quarter a b c d).d < 4294967296 := by
  have d1 := rol_lt (n := 16) (xor_lt hd (mod_lt32 (a + b)))
  refine ⟨mod_lt32 _, ?_, mod_lt32 _, ?_⟩
  · exact rol_lt (xor_lt (rol_lt (xor_lt hb (mod_lt32 _))) (mod_lt32 _))
  · exact rol_lt (xor_lt d1 (mod_lt32 _))
theorem quarter_call (a b c d : Nat) (ha : a < 4294967296) (hb : b < 4294967296) (hc : c < 4294967296) (hd : d < 4294967296) (h : XH) :
    CallEv E0 n_stream_Quarter [.int .u32 (.ofNat a), .int .u32 (.ofNat b), .int .u32 (.ofNat c), .int .u32 (.ofNat d)] h (fun r k => r = .tup [.int .u32 (.ofNat (quarter a b c d).a), .int .u32 (.ofNat (quarter a b c d).b), .int .u32 (.ofNat (quarter a b c d).c), .int .u32 (.ofNat (quarter a b c d).d)] ∧ k = h) := by
  have a1 := mod_lt32 (a + b)
  have x1 := xor_mod hd a1
  have d1 := rol_lt (n := 16) (xor_lt hd a1)
  have c1 := mod_lt32 (c + rol (d ^^^ (a + b) % 4294967296) 16)
  have x2 := xor_mod hb c1
  have b1 := rol_lt (n := 12) (xor_lt hb c1)
  have a2 := mod_lt32 ((a + b) % 4294967296 + rol (b ^^^ (c + rol (d ^^^ (a + b) % 4294967296) 16) % 4294967296) 12)
  have x3 := xor_mod d1 a2
  have d2 := rol_lt (n := 8) (xor_lt d1 a2)
  have c2 := mod_lt32 ((c + rol (d ^^^ (a + b) % 4294967296) 16) % 4294967296 + rol (rol (d ^^^ (a + b) % 4294967296) 16 ^^^ ((a + b) % 4294967296 + rol (b ^^^ (c + rol (d ^^^ (a + b) % 4294967296) 16) % 4294967296) 12) % 4294967296) 8)
  have x4 := xor_mod b1 c2
  refine call_fn fn_stream_Quarter ?_
  simp only [args0_cons, args0_nil]
  repeat with_reducible first | refine nx ?_ | (refine nv ?_; simp (disch := first | omega | decide) only [bG, x1]; refine rg ?_)
  refine callGo_of (leftp _ 16 (xor_lt hd a1) (by decide) _) ?_
  repeat with_reducible first | refine nx ?_ | (refine nv ?_; simp (disch := first | omega | decide) only [bG, x2]; refine rg ?_)
  refine callGo_of (leftp _ 12 (xor_lt hb c1) (by decide) _) ?_
  repeat with_reducible first | refine nx ?_ | (refine nv ?_; simp (disch := first | omega | decide) only [bG, x3]; refine rg ?_)
  refine callGo_of (leftp _ 8 (xor_lt d1 a2) (by decide) _) ?_
  repeat with_reducible first | refine nx ?_ | (refine nv ?_; simp (disch := first | omega | decide) only [bG, x4]; refine rg ?_)
  refine callGo_of (leftp _ 7 (xor_lt b1 c2) (by decide) _) ?_
  repeat with_reducible first | refine nx ?_ | (refine nv ?_; simp (disch := first | omega | decide) only [bG]; refine rg ?_)
  refine ret_nil.2 ⟨_, by rw [show ([.tmp (ixOf 8), .tmp (ixOf 9), .tmp (ixOf 10), .tmp (ixOf 11)] : List XRes) = [8, 9, 10, 11].map fun i => .tmp (ixOf i) from rfl, fin_tmps (.inr rfl)], ?_, rfl⟩
  simp only [List.map_cons, List.map_nil]
  simp (disch := first | omega | decide) only [bG, tupOf]
  rfl
def placesL : List Nat := [0, 4, 8, 12, 1, 5, 9, 13, 2, 6, 10, 14, 3, 7, 11, 15, 0, 5, 10, 15, 1, 6, 11, 12, 2, 7, 8, 13, 3, 4, 9, 14]
def ints (l : List Nat) : List XV := l.map fun n => .int .i64 (.ofNat n)
theorem ints_length (l : List Nat) : (ints l).length = l.length := by simp [ints]
theorem ints_get {l : List Nat} {i : Nat} (h : i < l.length) : (ints l)[i]? = some (.int .i64 (.ofNat (l.getD i 0))) := by
  simp [ints, List.getElem?_map, List.getElem?_eq_getElem h, List.getD_eq_getElem?_getD]
theorem ints_one (l : List Nat) : allOne (ints l) = true := by
  induction l with
  | nil => rfl
  | cons a l ih => exact ih
theorem places_call (h : XH) : CallEv E0 n_stream_places [] h (fun r k => r = .agg (ints placesL) ∧ HExt h k) := by
  have f4 : ∀ a b c d : Nat, pBuild (List.replicate 4 (.int .i64 (.ofNat 0))) [(0, 1, .int .i64 (.ofNat a)), (1, 1, .int .i64 (.ofNat b)), (2, 1, .int .i64 (.ofNat c)), (3, 1, .int .i64 (.ofNat d))] = some (.agg (ints [a, b, c, d])) := fun _ _ _ _ => rfl
  have f8 : pBuild (List.replicate 32 (.int .i64 (.ofNat 0))) [(0, 4, .agg (ints [0, 4, 8, 12])), (4, 4, .agg (ints [1, 5, 9, 13])), (8, 4, .agg (ints [2, 6, 10, 14])), (12, 4, .agg (ints [3, 7, 11, 15])), (16, 4, .agg (ints [0, 5, 10, 15])), (20, 4, .agg (ints [1, 6, 11, 12])), (24, 4, .agg (ints [2, 7, 8, 13])), (28, 4, .agg (ints [3, 4, 9, 14]))] = some (.agg (ints placesL)) := rfl
  refine call_fn fn_stream_places ?_
  simp only [args0_nil]
  have hst := e_storeN (h := h.new (.cells (List.replicate 32 (.int .i64 (.ofNat 0))) false (some (Nat.mul 2 228)))) (b := h.next) (n := 32) (c := List.replicate 32 (.int .i64 (.ofNat 0))) (vs := ints placesL) (by rw [XH.get_new, if_pos rfl]) rfl rfl (ints_one _)
  repeat with_reducible first | refine nx ?_ | (refine nv ?_; simp (disch := first | omega | decide) only [bG, f4, f8, hst]; refine rg ?_)
  refine ret_nil.2 ⟨_, fin_cell (.inr rfl) (v := .agg (ints placesL)) ?_, rfl, ((HExt.refl h).new _).set (m := h.next) (Nat.le_refl _) _⟩
  simp (disch := first | omega | decide) only [bG]
  exact r_loadN (by rw [XH.get_set, if_pos rfl]) rfl
end Go.Proofs.XCode
end
section
namespace Go.Proofs.XCode
open Go.X
set_option linter.unusedSimpArgs false
set_option linter.unusedVariables false
noncomputable def blockAll (key : List Nat) (ctr : Nat) (nonce : List Nat) : List Nat := (([101, 120, 112, 97, 110, 100, 32, 51, 50, 45, 98, 121, 116, 101, 32, 107] ++ key) ++ putLittle ctr 4) ++ nonce
def iniN (all : List Nat) : Nat → List Nat
  | 0 => List.replicate 16 0
  | i + 1 => (iniN all i).set i (littleN ((all.drop (4 * i)).take 4))
def qstep (X : List Nat) (j : Nat) : List Nat :=
  let r := quarter (X.getD (placesL.getD (4 * j) 0) 0) (X.getD (placesL.getD (4 * j + 1) 0) 0) (X.getD (placesL.getD (4 * j + 2) 0) 0) (X.getD (placesL.getD (4 * j + 3) 0) 0)
  (((X.set (placesL.getD (4 * j) 0) r.a).set (placesL.getD (4 * j + 1) 0) r.b).set (placesL.getD (4 * j + 2) 0) r.c).set (placesL.getD (4 * j + 3) 0) r.d
def qsteps (X : List Nat) : Nat → List Nat
  | 0 => X
  | j + 1 => qstep (qsteps X j) j
def rnds (X : List Nat) : Nat → List Nat
  | 0 => X
  | r + 1 => qsteps (rnds X r) 8
noncomputable def outB (x f : List Nat) : Nat → List Nat
  | 0 => []
  | i + 1 => outB x f i ++ putLittle ((x.getD i 0 + f.getD i 0) % 4294967296) 4
noncomputable def blockL (key : List Nat) (ctr : Nat) (nonce : List Nat) : List Nat :=
  outB (rnds (iniN (blockAll key ctr nonce) 16) 10) (iniN (blockAll key ctr nonce) 16) 16
theorem iniN_len (all : List Nat) : ∀ i, (iniN all i).length = 16
  | 0 => by simp [iniN]
  | i + 1 => by rw [iniN, List.length_set, iniN_len all i]
theorem lit4_lt {all : List Nat} (h : ∀ i, all.getD i 0 < 256) (i : Nat) : littleN ((all.drop (4 * i)).take 4) < 4294967296 := by
  have := littleN_lt ((all.drop (4 * i)).take 4) (getD_part h _ _)
  have hl : ((all.drop (4 * i)).take 4).length ≤ 4 := by rw [List.length_take]; omega
  have := Nat.pow_le_pow_right (n := 256) (by decide) hl
  omega
theorem iniN_lt {all : List Nat} (h : ∀ i, all.getD i 0 < 256) : ∀ i j, (iniN all i).getD j 0 < 4294967296
  | 0, j => by
    simp only [iniN, List.getD_eq_getElem?_getD, List.getElem?_replicate]
    split <;> decide
  | i + 1, j => getD_set_lt (by decide) (iniN_lt h i) (lit4_lt h i) j
theorem qstep_len (X : List Nat) (j : Nat) : (qstep X j).length = X.length := by simp [qstep]
theorem qstep_lt {X : List Nat} (hX : ∀ i, X.getD i 0 < 4294967296) (j : Nat) : ∀ i, (qstep X j).getD i 0 < 4294967296 := by
  obtain ⟨h1, h2, h3, h4⟩ := quarter_lt (hX (placesL.getD (4 * j) 0)) (hX (placesL.getD (4 * j + 1) 0)) (hX (placesL.getD (4 * j + 2) 0)) (hX (placesL.getD (4 * j + 3) 0))
  exact getD_set_lt (by decide) (getD_set_lt (by decide) (getD_set_lt (by decide) (getD_set_lt (by decide) hX h1) h2) h3) h4
theorem qsteps_len (X : List Nat) : ∀ j, (qsteps X j).length = X.length
  | 0 => rfl
  | j + 1 => by rw [qsteps, qstep_len, qsteps_len X j]
theorem qsteps_lt {X : List Nat} (hX : ∀ i, X.getD i 0 < 4294967296) : ∀ j i, (qsteps X j).getD i 0 < 4294967296
  | 0, i => hX i
  | j + 1, i => qstep_lt (qsteps_lt hX j) j i
theorem rnds_len (X : List Nat) : ∀ j, (rnds X j).length = X.length
  | 0 => rfl
  | j + 1 => by rw [rnds, qsteps_len, rnds_len X j]
theorem rnds_lt {X : List Nat} (hX : ∀ i, X.getD i 0 < 4294967296) : ∀ j i, (rnds X j).getD i 0 < 4294967296
  | 0, i => hX i
  | j + 1, i => qsteps_lt (rnds_lt hX j) 8 i
theorem outB_len (x f : List Nat) : ∀ i, (outB x f i).length = 4 * i
  | 0 => rfl
  | i + 1 => by rw [outB, List.length_append, outB_len x f i, putLittle_len]; omega
theorem outB_lt (x f : List Nat) : ∀ i j, (outB x f i).getD j 0 < 256
  | 0, j => by simp [outB]
  | i + 1, j => getD_append_lt (by decide) (outB_lt x f i) (putLittle_lt _ _) j
theorem blockL_len (key : List Nat) (ctr : Nat) (nonce : List Nat) : (blockL key ctr nonce).length = 64 := outB_len _ _ _
theorem blockL_lt (key : List Nat) (ctr : Nat) (nonce : List Nat) : ∀ i, (blockL key ctr nonce).getD i 0 < 256 := outB_lt _ _ _
theorem p_ixAgg4 (j : Nat) (hj : j < 8) : pIxAgg (.many 4) 8 4 (.agg (ints placesL)) (.int .i64 (.ofNat j)) = some (.agg (ints [placesL.getD (4 * j) 0, placesL.getD (4 * j + 1) 0, placesL.getD (4 * j + 2) 0, placesL.getD (4 * j + 3) 0])) := by
  match j, hj with
  | 0, _ => rfl
  | 1, _ => rfl
  | 2, _ => rfl
  | 3, _ => rfl
  | 4, _ => rfl
  | 5, _ => rfl
  | 6, _ => rfl
  | 7, _ => rfl
theorem placesL_lt : ∀ i, placesL.getD i 0 < 16 := by
  have h : ∀ x ∈ placesL, x < 16 := by decide
  intro i
  rw [List.getD_eq_getElem?_getD]
  cases e : placesL[i]? with
  | none => decide
  | some x => exact h x (List.mem_of_getElem? e)
set_option maxHeartbeats 2000000 in
theorem block_call (key nonce : List Nat) (ctr : Nat) (hk : ∀ i, key.getD i 0 < 256) (hn : ∀ i, nonce.getD i 0 < 256) (hkl : key.length = 32) (hnl : nonce.length = 12) (hc : ctr < 4294967296) (h : XH) :
    CallEv E0 n_stream_block [.str key, .int .u32 (.ofNat ctr), .str nonce] h (fun r k => r = .str (blockL key ctr nonce) ∧ HExt h k) := by
  have lb : ([101, 120, 112, 97, 110, 100, 32, 51, 50, 45, 98, 121, 116, 101, 32, 107] : List Nat).length = 16 := rfl
  have l1 : (([101, 120, 112, 97, 110, 100, 32, 51, 50, 45, 98, 121, 116, 101, 32, 107] : List Nat) ++ key).length = 48 := by rw [List.length_append, hkl]; rfl
  have l2 := putLittle_len ctr 4
  have l3 : ((([101, 120, 112, 97, 110, 100, 32, 51, 50, 45, 98, 121, 116, 101, 32, 107] : List Nat) ++ key) ++ putLittle ctr 4).length = 52 := by rw [List.length_append, l1, l2]
  have hal : (blockAll key ctr nonce).length = 64 := by rw [blockAll, List.length_append, l3, hnl]
  have hall : ∀ i, (blockAll key ctr nonce).getD i 0 < 256 := by
    refine getD_append_lt (by decide) (getD_append_lt (by decide) (getD_append_lt (by decide) ?_ hk) (putLittle_lt _ _)) hn
    intro i
    have h : ∀ x ∈ ([101, 120, 112, 97, 110, 100, 32, 51, 50, 45, 98, 121, 116, 101, 32, 107] : List Nat), x < 256 := by decide
    rw [List.getD_eq_getElem?_getD]
    cases e : ([101, 120, 112, 97, 110, 100, 32, 51, 50, 45, 98, 121, 116, 101, 32, 107] : List Nat)[i]? with
    | none => decide
    | some x => exact h x (List.mem_of_getElem? e)
  refine call_fn fn_stream_block ?_
  simp only [args0_cons, args0_nil]
  repeat with_reducible first | refine nx ?_ | (refine nv ?_; simp (disch := first | omega | decide) only [bG]; refine rg ?_)
  refine callGo_ex (putLittle_call ctr 4 (by omega) (by decide) (by decide) h) ?_
  rintro _ k ⟨rfl, hx⟩
  have e0 : (([101, 120, 112, 97, 110, 100, 32, 51, 50, 45, 98, 121, 116, 101, 32, 107] ++ key) ++ putLittle ctr 4) ++ nonce = blockAll key ctr nonce := rfl
  repeat with_reducible first | refine nx ?_ | (refine nv ?_; simp (disch := first | omega | decide) only [bG, e0, rep_words]; refine rg ?_)
  have htgt : blockL key ctr nonce = outB (rnds (iniN (blockAll key ctr nonce) 16) 10) (iniN (blockAll key ctr nonce) 16) 16 := rfl
  rw [htgt]
  clear htgt e0
  generalize blockAll key ctr nonce = all at hal hall ⊢
  clear l1 l2 l3 lb
  obtain ⟨n8, hn8⟩ : ∃ n8, n8 = k.next := ⟨_, rfl⟩
  have hx8 : h.next ≤ n8 := by rw [hn8]; exact hx.le
  refine go_loop_ind hE0 (fun m fr kk => ∃ i, m = 16 - i ∧ i ≤ 16 ∧ HExt h kk ∧ n8 + 2 ≤ kk.next ∧ kk.get n8 = some (.cells (words (iniN all i)) false (some (Nat.mul 2 226))) ∧ kk.get (n8 + 1) = some (.cells (words (List.replicate 16 0)) false (some (Nat.mul 2 226))) ∧
      ev fr (.t (ixOf 7)) = .str all ∧ ev fr (.t (ixOf 8)) = .ptr n8 0 ∧ ev fr (.t (ixOf 9)) = .ptr (n8 + 1) 0 ∧ ev fr (.t (ixOf 24)) = .int .i64 (.ofNat i)) ?_ (n := 16) ?_
  · clear hx hn8
    rintro m fr kk IH ⟨i, rfl, hi, hx, hkn, g8, g9, f7, f8, f9, f24⟩
    repeat with_reducible first | refine nx ?_ | (refine nv ?_; simp (disch := first | omega | decide) only [bG, f24]; refine rg ?_)
    refine go_cond ?_
    simp (disch := first | omega | decide) only [bG]
    refine condGo_split (fun hc => ?_) (fun hc => ?_)
    · have hc := of_decide_eq_true hc
      have e4 : 4 * i + 4 - 4 * i = 4 := by omega
      repeat with_reducible first | refine nx ?_ | (refine nv ?_; simp (disch := first | omega | decide) only [bG, f7, f8, f24, e4]; refine rg ?_)
      refine callGo_of (little_call _ (getD_part hall _ _) (by rw [List.length_take, List.length_drop]; omega) (by rw [List.length_take]; omega) kk) ?_
      have hv := Nat.mod_eq_of_lt (lit4_lt hall i)
      have hst := e_store_w (o := i) (v := littleN ((all.drop (4 * i)).take 4)) g8 (by rw [iniN_len]; omega)
      repeat with_reducible first | refine nx ?_ | (refine nv ?_; simp (disch := first | omega | decide) only [bG, f7, f8, f24, hv, hst]; refine rg ?_)
      refine ret_loop.2 (IH (16 - (i + 1)) _ _ (by omega) ⟨i + 1, rfl, by omega, hx.set (m := n8) (by omega) _, ?_, ?_, ?_, ?_, ?_, ?_, ?_⟩)
      · simp only [XH.next_set]; omega
      · rw [XH.get_set, if_pos rfl]; rfl
      · rw [XH.get_set, if_neg (by omega)]; exact g9
      all_goals simp (disch := first | omega | decide) only [bG, f7, f8, f9, f24]
    · have hc := of_decide_eq_false hc
      obtain rfl : i = 16 := by omega
      have hF8 := iniN_len all 16
      have hFl := iniN_lt hall 16
      have lF := r_loadN (n := 16) g8 (by rw [words_length, hF8])
      have hst := e_storeN (n := 16) g9 (vs := words (iniN all 16)) (by rw [words_length, hF8]) (by rw [words_length, words_length, hF8]; simp) (words_one _)
      repeat with_reducible first | refine nx ?_ | (refine nv ?_; simp (disch := first | omega | decide) only [bG, f8, f9, lF, hst]; refine rg ?_)
      have hx0 : HExt h (kk.set (n8 + 1) (.cells (words (iniN all 16)) false (some (Nat.mul 2 226)))) := hx.set (m := n8 + 1) (by omega) _
      have g8' : (kk.set (n8 + 1) (.cells (words (iniN all 16)) false (some (Nat.mul 2 226)))).get n8 = some (.cells (words (iniN all 16)) false (some (Nat.mul 2 226))) := by rw [XH.get_set, if_neg (by omega)]; exact g8
      have g9' : (kk.set (n8 + 1) (.cells (words (iniN all 16)) false (some (Nat.mul 2 226)))).get (n8 + 1) = some (.cells (words (iniN all 16)) false (some (Nat.mul 2 226))) := by rw [XH.get_set, if_pos rfl]
      have hk0 : n8 + 2 ≤ (kk.set (n8 + 1) (.cells (words (iniN all 16)) false (some (Nat.mul 2 226)))).next := hkn
      generalize (kk.set (n8 + 1) (.cells (words (iniN all 16)) false (some (Nat.mul 2 226)))) = k0 at hx0 g8' g9' hk0 ⊢
      generalize iniN all 16 = F at hF8 hFl g8' g9' ⊢
      clear IH g8 g9 lF hst hc hi hkn hx f24
      -- the rounds
      refine go_loop_ind hE0 (fun m fr k => ∃ r, m = 10 - r ∧ r ≤ 10 ∧ HExt h k ∧ n8 + 2 ≤ k.next ∧ k.get n8 = some (.cells (words F) false (some (Nat.mul 2 226))) ∧ k.get (n8 + 1) = some (.cells (words (rnds F r)) false (some (Nat.mul 2 226))) ∧
          ev fr (.t (ixOf 8)) = .ptr n8 0 ∧ ev fr (.t (ixOf 9)) = .ptr (n8 + 1) 0 ∧ ev fr (.t (ixOf 40)) = .int .i64 (.ofNat r)) ?_ (n := 10) ?_
      · clear hx0 g8' g9' hk0 f7 f8 f9
        rintro m fr k IH ⟨r, rfl, hr, hx, hkn, g8, g9, f8, f9, f40⟩
        repeat with_reducible first | refine nx ?_ | (refine nv ?_; simp (disch := first | omega | decide) only [bG, f40]; refine rg ?_)
        refine go_cond ?_
        simp (disch := first | omega | decide) only [bG]
        refine condGo_split (fun hc => ?_) (fun hc => ?_)
        · have hc := of_decide_eq_true hc
          repeat with_reducible first | refine nx ?_ | (refine nv ?_; simp (disch := first | omega | decide) only [bG]; refine rg ?_)
          refine callGo_ex (places_call k) ?_
          rintro _ k1 ⟨rfl, x1⟩
          have hk1 := x1.le
          have hX8 : (rnds F r).length = 16 := by rw [rnds_len, hF8]
          have hXl := rnds_lt hFl r
          have hX' : ∀ j, qsteps (rnds F r) j = qsteps (rnds F r) j := fun _ => rfl
          repeat with_reducible first | refine nx ?_ | (refine nv ?_; simp (disch := first | omega | decide) only [bG]; refine rg ?_)
          refine go_loop_ind hE0 (fun m fr k => ∃ j, m = 8 - j ∧ j ≤ 8 ∧ HExt h k ∧ n8 + 2 ≤ k.next ∧ k.get n8 = some (.cells (words F) false (some (Nat.mul 2 226))) ∧ k.get (n8 + 1) = some (.cells (words (qsteps (rnds F r) j)) false (some (Nat.mul 2 226))) ∧
              ev fr (.t (ixOf 8)) = .ptr n8 0 ∧ ev fr (.t (ixOf 9)) = .ptr (n8 + 1) 0 ∧ ev fr (.t (ixOf 40)) = .int .i64 (.ofNat r) ∧ ev fr (.t (ixOf 42)) = .agg (ints placesL) ∧ ev fr (.t (ixOf 43)) = .int .i64 (.ofNat j)) ?_ (n := 8) ?_
          · rintro m fr2 k2 IH2 ⟨j, rfl, hj, hx2, hkn2, g82, g92, f8, f9, f40, f42, f43⟩
            repeat with_reducible first | refine nx ?_ | (refine nv ?_; simp (disch := first | omega | decide) only [bG, f43]; refine rg ?_)
            refine go_cond ?_
            simp (disch := first | omega | decide) only [bG]
            refine condGo_split (fun hc2 => ?_) (fun hc2 => ?_)
            · have hc2 := of_decide_eq_true hc2
              have hYl : ∀ i, (qsteps (rnds F r) j).getD i 0 < 4294967296 := qsteps_lt hXl j
              have hY8 : (qsteps (rnds F r) j).length = 16 := by rw [qsteps_len, hX8]
              have hstp : qsteps (rnds F r) (j + 1) = qstep (qsteps (rnds F r) j) j := rfl
              generalize qsteps (rnds F r) j = Y at hYl hY8 hstp g92
              have hp0 := placesL_lt (4 * j)
              have hp1 := placesL_lt (4 * j + 1)
              have hp2 := placesL_lt (4 * j + 2)
              have hp3 := placesL_lt (4 * j + 3)
              rw [qstep] at hstp
              have hix := p_ixAgg4 j hc2
              obtain ⟨P0, e0⟩ : ∃ p, p = placesL.getD (4 * j) 0 := ⟨_, rfl⟩
              obtain ⟨P1, e1⟩ : ∃ p, p = placesL.getD (4 * j + 1) 0 := ⟨_, rfl⟩
              obtain ⟨P2, e2⟩ : ∃ p, p = placesL.getD (4 * j + 2) 0 := ⟨_, rfl⟩
              obtain ⟨P3, e3⟩ : ∃ p, p = placesL.getD (4 * j + 3) 0 := ⟨_, rfl⟩
              rw [← e0, ← e1, ← e2, ← e3] at hix hstp
              rw [← e0] at hp0
              rw [← e1] at hp1
              rw [← e2] at hp2
              rw [← e3] at hp3
              have hst4 := e_storeN (h := k2.new (.cells (List.replicate 4 (.int .i64 (.ofNat 0))) false (some (Nat.mul 2 227)))) (b := k2.next) (n := 4) (c := List.replicate 4 (.int .i64 (.ofNat 0))) (vs := ints [P0, P1, P2, P3]) (by rw [XH.get_new, if_pos rfl]) rfl rfl (ints_one _)
              repeat with_reducible first | refine nx ?_ | (refine nv ?_; simp (disch := first | omega | decide) only [bG, f42, f43, hix, hst4]; refine rg ?_)
              obtain ⟨n12, hn12⟩ : ∃ n, n = k2.next := ⟨_, rfl⟩
              have hx3 : HExt h ((k2.new (.cells (List.replicate 4 (.int .i64 (.ofNat 0))) false (some (Nat.mul 2 227)))).set k2.next (.cells (ints [P0, P1, P2, P3]) false (some (Nat.mul 2 227)))) := (hx2.new _).set (m := k2.next) (by omega) _
              have g83 : ((k2.new (.cells (List.replicate 4 (.int .i64 (.ofNat 0))) false (some (Nat.mul 2 227)))).set k2.next (.cells (ints [P0, P1, P2, P3]) false (some (Nat.mul 2 227)))).get n8 = some (.cells (words F) false (some (Nat.mul 2 226))) := by rw [XH.get_set, if_neg (by omega), XH.get_new, if_neg (by omega)]; exact g82
              have g93 : ((k2.new (.cells (List.replicate 4 (.int .i64 (.ofNat 0))) false (some (Nat.mul 2 227)))).set k2.next (.cells (ints [P0, P1, P2, P3]) false (some (Nat.mul 2 227)))).get (n8 + 1) = some (.cells (words Y) false (some (Nat.mul 2 226))) := by rw [XH.get_set, if_neg (by omega), XH.get_new, if_neg (by omega)]; exact g92
              have gp3 : ((k2.new (.cells (List.replicate 4 (.int .i64 (.ofNat 0))) false (some (Nat.mul 2 227)))).set k2.next (.cells (ints [P0, P1, P2, P3]) false (some (Nat.mul 2 227)))).get n12 = some (.cells (ints [P0, P1, P2, P3]) false (some (Nat.mul 2 227))) := by rw [hn12, XH.get_set, if_pos rfl]
              have hk3 : n12 + 1 ≤ ((k2.new (.cells (List.replicate 4 (.int .i64 (.ofNat 0))) false (some (Nat.mul 2 227)))).set k2.next (.cells (ints [P0, P1, P2, P3]) false (some (Nat.mul 2 227)))).next := by rw [hn12]; exact Nat.le_refl _
              generalize ((k2.new (.cells (List.replicate 4 (.int .i64 (.ofNat 0))) false (some (Nat.mul 2 227)))).set k2.next (.cells (ints [P0, P1, P2, P3]) false (some (Nat.mul 2 227)))) = k3 at hx3 g83 g93 gp3 hk3 ⊢
              rw [← hn12]
              have hn12' : n8 + 2 ≤ n12 := by omega
              clear hst4 hix g82 g92
              have a0 := r_load1 (o := 0) gp3 rfl
              have a1 := r_load1 (o := 1) gp3 rfl
              have a2 := r_load1 (o := 2) gp3 rfl
              have a3 := r_load1 (o := 3) gp3 rfl
              have b0 := r_load1 (o := P0) g93 (words_get (by omega))
              have b1 := r_load1 (o := P1) g93 (words_get (by omega))
              have b2 := r_load1 (o := P2) g93 (words_get (by omega))
              have b3 := r_load1 (o := P3) g93 (words_get (by omega))
              repeat with_reducible first | refine nx ?_ | (refine nv ?_; simp (disch := first | omega | decide) only [bG, f9, a0, a1, a2, a3, b0, b1, b2, b3]; refine rg ?_)
              refine callPl_of (quarter_call _ _ _ _ (hYl _) (hYl _) (hYl _) (hYl _) _) ?_
              have s0 := e_store_w (o := P0) (v := (quarter (Y.getD P0 0) (Y.getD P1 0) (Y.getD P2 0) (Y.getD P3 0)).a) g93 (by omega)
              have s1 := e_store_w (h := k3.set (n8 + 1) (.cells (words (Y.set P0 (quarter (Y.getD P0 0) (Y.getD P1 0) (Y.getD P2 0) (Y.getD P3 0)).a)) false (some (Nat.mul 2 226)))) (o := P1) (v := (quarter (Y.getD P0 0) (Y.getD P1 0) (Y.getD P2 0) (Y.getD P3 0)).b) (by rw [XH.get_set, if_pos rfl]) (by simp only [List.length_set]; omega)
              have s2 := e_store_w (h := (k3.set (n8 + 1) (.cells (words (Y.set P0 (quarter (Y.getD P0 0) (Y.getD P1 0) (Y.getD P2 0) (Y.getD P3 0)).a)) false (some (Nat.mul 2 226)))).set (n8 + 1) (.cells (words ((Y.set P0 (quarter (Y.getD P0 0) (Y.getD P1 0) (Y.getD P2 0) (Y.getD P3 0)).a).set P1 (quarter (Y.getD P0 0) (Y.getD P1 0) (Y.getD P2 0) (Y.getD P3 0)).b)) false (some (Nat.mul 2 226)))) (o := P2) (v := (quarter (Y.getD P0 0) (Y.getD P1 0) (Y.getD P2 0) (Y.getD P3 0)).c) (by rw [XH.get_set, if_pos rfl]) (by simp only [List.length_set]; omega)
              have s3 := e_store_w (h := ((k3.set (n8 + 1) (.cells (words (Y.set P0 (quarter (Y.getD P0 0) (Y.getD P1 0) (Y.getD P2 0) (Y.getD P3 0)).a)) false (some (Nat.mul 2 226)))).set (n8 + 1) (.cells (words ((Y.set P0 (quarter (Y.getD P0 0) (Y.getD P1 0) (Y.getD P2 0) (Y.getD P3 0)).a).set P1 (quarter (Y.getD P0 0) (Y.getD P1 0) (Y.getD P2 0) (Y.getD P3 0)).b)) false (some (Nat.mul 2 226)))).set (n8 + 1) (.cells (words (((Y.set P0 (quarter (Y.getD P0 0) (Y.getD P1 0) (Y.getD P2 0) (Y.getD P3 0)).a).set P1 (quarter (Y.getD P0 0) (Y.getD P1 0) (Y.getD P2 0) (Y.getD P3 0)).b).set P2 (quarter (Y.getD P0 0) (Y.getD P1 0) (Y.getD P2 0) (Y.getD P3 0)).c)) false (some (Nat.mul 2 226)))) (o := P3) (v := (quarter (Y.getD P0 0) (Y.getD P1 0) (Y.getD P2 0) (Y.getD P3 0)).d) (by rw [XH.get_set, if_pos rfl]) (by simp only [List.length_set]; omega)
              repeat with_reducible first | refine nx ?_ | (refine nv ?_; simp (disch := first | omega | decide) only [bG, f9, a0, a1, a2, a3, s0, s1, s2, s3]; refine rg ?_)
              refine plan_nil (by simp (disch := first | omega | decide) only [endOk, chkAt, addNew, newOk, rangeOk, distinctN, Nat.reduceLT, Nat.reduceAdd, Nat.reduceLeDiff, bP, bG, f9, a0, a1, a2, a3, b0, b1, b2, b3]) ?_
              repeat with_reducible first | refine nx ?_ | (refine nv ?_; simp (disch := first | omega | decide) only [bG, f43]; refine rg ?_)
              rw [← hstp]
              refine ret_loop.2 (IH2 (8 - (j + 1)) _ _ (by omega) ⟨j + 1, rfl, by omega, (((hx3.set (m := n8 + 1) (by omega) _).set (m := n8 + 1) (by omega) _).set (m := n8 + 1) (by omega) _).set (m := n8 + 1) (by omega) _, ?_, ?_, ?_, ?_, ?_, ?_, ?_, ?_⟩)
              · simp only [XH.next_set]; omega
              · simp only [XH.get_set, if_neg (show n8 ≠ n8 + 1 by omega)]; exact g83
              · rw [XH.get_set, if_pos rfl]
              all_goals simp (disch := first | omega | decide) only [bG, f8, f9, f40, f42, f43]
            · have hc2 := of_decide_eq_false hc2
              obtain rfl : j = 8 := by omega
              repeat with_reducible first | refine nx ?_ | (refine nv ?_; simp (disch := first | omega | decide) only [bG, f40]; refine rg ?_)
              refine ret_loop.2 (IH (10 - (r + 1)) _ _ (by omega) ⟨r + 1, rfl, by omega, hx2, hkn2, g82, g92, ?_, ?_, ?_⟩) <;> simp (disch := first | omega | decide) only [bG, f8, f9, f40]
          · refine ⟨0, rfl, by omega, hx.trans x1, by omega, (x1.get n8 (by omega)).trans g8, (x1.get (n8 + 1) (by omega)).trans g9, ?_, ?_, ?_, ?_, ?_⟩ <;> simp (disch := first | omega | decide) only [bG, f8, f9, f40]
        · have hc := of_decide_eq_false hc
          obtain rfl : r = 10 := by omega
          have hX8 : (rnds F 10).length = 16 := by rw [rnds_len, hF8]
          generalize rnds F 10 = X at hX8 g9 ⊢
          have lX := r_loadN (h := k) (n := 16) g9 (by rw [words_length, hX8])
          repeat with_reducible first | refine nx ?_ | (refine nv ?_; simp (disch := first | omega | decide) only [bG, f9, lX]; refine rg ?_)
          obtain ⟨kb, hkb⟩ : ∃ kb, kb = k := ⟨_, rfl⟩
          refine go_loop_ind hE0 (fun m fr kk => ∃ i, m = 16 - i ∧ i ≤ 16 ∧ BldAt k.next kk k.next (outB X F i) ∧ Keep k.next (k.new (.cells [.nilp, .nils] false (some (Nat.mul 2 167)))) kk ∧
              ev fr (.t (ixOf 8)) = .ptr n8 0 ∧ ev fr (.t (ixOf 13)) = .ptr k.next 0 ∧ ev fr (.t (ixOf 82)) = .agg (words X) ∧ ev fr (.t (ixOf 83)) = .int .i64 (.ofNat i)) ?_ (n := 16) ?_
          · rintro m fr3 kk IH3 ⟨i, rfl, hi, hb, hkp, f8, f13, f82, f83⟩
            have hkn3 := hkp.1
            simp only [XH.next_new] at hkn3
            repeat with_reducible first | refine nx ?_ | (refine nv ?_; simp (disch := first | omega | decide) only [bG, f83]; refine rg ?_)
            refine go_cond ?_
            simp (disch := first | omega | decide) only [bG]
            refine condGo_split (fun hc => ?_) (fun hc => ?_)
            · have hc := of_decide_eq_true hc
              have g8k : kk.get n8 = some (.cells (words F) false (some (Nat.mul 2 226))) := by rw [hkp.2 n8 (by omega), XH.get_new, if_neg (by omega)]; exact g8
              have lf := r_load1 (o := i) g8k (words_get (by omega))
              have hv := mod_lt32 (X.getD i 0 + F.getD i 0)
              have hv' : (X.getD i 0 + F.getD i 0) % 4294967296 < 18446744073709551616 := by omega
              repeat with_reducible first | refine nx ?_ | (refine nv ?_; simp (disch := first | omega | decide) only [bG, f8, f13, f82, f83, p_ixAgg X 16 i hX8.symm hc, lf]; refine rg ?_)
              refine callGo_ex (putLittle_call _ 4 hv' (by decide) (by decide) kk) ?_
              rintro _ k1 ⟨rfl, x1⟩
              repeat with_reducible first | refine nx ?_ | (refine nv ?_; simp (disch := first | omega | decide) only [bG, f8, f13, f82, f83]; refine rg ?_)
              refine callGo_ex (write_call (hb.ext x1) (putLittle ((X.getD i 0 + F.getD i 0) % 4294967296) 4) (fun e => by have := putLittle_len ((X.getD i 0 + F.getD i 0) % 4294967296) 4; rw [e] at this; cases this) (by rw [outB_len, putLittle_len]; omega)) ?_
              rintro _ k2 ⟨hb2, hk2⟩
              repeat with_reducible first | refine nx ?_ | (refine nv ?_; simp (disch := first | omega | decide) only [bG, f83]; refine rg ?_)
              refine ret_loop.2 (IH3 (16 - (i + 1)) _ _ (by omega) ⟨i + 1, rfl, by omega, hb2, (hkp.ext (by omega) x1).trans hk2, ?_, ?_, ?_, ?_⟩) <;> simp (disch := first | omega | decide) only [bG, f8, f13, f82, f83]
            · have hc := of_decide_eq_false hc
              obtain rfl : i = 16 := by omega
              repeat with_reducible first | refine nx ?_ | (refine nv ?_; simp (disch := first | omega | decide) only [bG, f13]; refine rg ?_)
              refine callGo_ex (string_call hb (outB_lt X F 16) (fun e => by have := outB_len X F 16; rw [e] at this; cases this) (by rw [outB_len]; omega)) ?_
              rintro _ k1 ⟨rfl, hk1⟩
              repeat with_reducible first | refine nx ?_ | (refine nv ?_; simp (disch := first | omega | decide) only [bG]; refine rg ?_)
              refine ret_nil.2 ⟨_, fin_tmp (.inr rfl), ?_, ?_⟩
              · simp (disch := first | omega | decide) only [bG]
              · have h1 := hkp.trans hk1
                refine ⟨by have := h1.1; simp only [XH.next_new] at this; omega, fun m hm => ?_⟩
                rw [h1.2 m (by omega), XH.get_new, if_neg (by omega), hx.get m hm]
          · refine ⟨0, rfl, by omega, BldAt.start, ⟨Nat.le_refl _, fun _ _ => rfl⟩, ?_, ?_, ?_, ?_⟩ <;> simp (disch := first | omega | decide) only [bG, f8]
      · refine ⟨0, rfl, by omega, hx0, hk0, g8', g9', ?_, ?_, ?_⟩ <;> simp (disch := first | omega | decide) only [bG, f8, f9]
  · refine ⟨0, rfl, by omega, (hx.new _).new _, ?_, ?_, ?_, ?_, ?_, ?_, ?_⟩
    · simp only [XH.next_new]; omega
    · rw [hn8, XH.get_new, XH.next_new, if_neg (by omega), XH.get_new, if_pos rfl]; rfl
    · rw [hn8, XH.get_new, XH.next_new, if_pos rfl]
    all_goals (try rw [hn8])
    all_goals simp (disch := first | omega | decide) only [bG]
end Go.Proofs.XCode
end
section
namespace Go.Proofs.XCode
open Go.X
set_option linter.unusedSimpArgs false
set_option linter.unusedVariables false
def quads (l : List Nat) : List XV := l.map fun w => .int .u64 (.ofNat w)
theorem quads_length (l : List Nat) : (quads l).length = l.length := by simp [quads]
theorem quads_get {l : List Nat} {i : Nat} (h : i < l.length) : (quads l)[i]? = some (.int .u64 (.ofNat (l.getD i 0))) := by
  simp [quads, List.getElem?_map, List.getElem?_eq_getElem h, List.getD_eq_getElem?_getD]
theorem quads_one (l : List Nat) : allOne (quads l) = true := by
  induction l with
  | nil => rfl
  | cons a l ih => exact ih
theorem rep_quads (n : Nat) : List.replicate n (XV.int .u64 (.ofNat 0)) = quads (List.replicate n 0) := by simp [quads]
theorem e_store_q {h : XH} {b o : Nat} {c : List Nat} {tg : Option Nat} {v : Nat} (hg : h.get b = some (.cells (quads c) false tg)) (hc : o < c.length) : eStore h 1 (.ptr b o) (.int .u64 (.ofNat v)) = some (unit, h.set b (.cells (quads (c.set o v)) false tg)) := by
  rw [e_store_one hg (by rw [quads_length]; exact hc) rfl]
  simp [quads, List.map_set]
theorem wrap_u64m (n : Nat) : wrapX .u64 (.ofNat n) = .ofNat (n % 18446744073709551616) := rfl
theorem fill5 (a b c d e : Nat) : pBuild (quads (List.replicate 5 0)) [(0, 1, .int .u64 (.ofNat a)), (1, 1, .int .u64 (.ofNat b)), (2, 1, .int .u64 (.ofNat c)), (3, 1, .int .u64 (.ofNat d)), (4, 1, .int .u64 (.ofNat e))] = some (.agg (quads [a, b, c, d, e])) := rfl
def Fresh (h : XH) : Prop := ∀ n, h.next ≤ n → h.get n = none
theorem Fresh.new {h : XH} (hf : Fresh h) (o : XO) : Fresh (h.new o) := fun n hn => by
  rw [XH.next_new] at hn
  rw [XH.get_new, if_neg (by omega)]
  exact hf n (by omega)
theorem Fresh.set {h : XH} (hf : Fresh h) {m : Nat} (hm : m < h.next) (o : XO) : Fresh (h.set m o) := fun n hn => by
  rw [XH.next_set] at hn
  rw [XH.get_set, if_neg (by omega)]
  exact hf n hn
abbrev W64 : Nat := 18446744073709551616
def maskN (x : Nat) : Nat := (x % 18446744073709551616 &&& 67108863 % 18446744073709551616) % 18446744073709551616
def orN (x y : Nat) : Nat := (x % 18446744073709551616 ||| y % 18446744073709551616) % 18446744073709551616
def shlN (x n : Nat) : Nat := (x <<< n) % 18446744073709551616
def splitL (low high top : Nat) : List Nat := [maskN low, maskN (low >>> 26), maskN (orN (low >>> 52) (shlN high 12)), maskN (high >>> 14), orN (high >>> 40) (shlN top 24)]
theorem splitL_len (a b c : Nat) : (splitL a b c).length = 5 := rfl
theorem split_call (low high top : Nat) (h : XH) : CallEv E0 n_onetime_split [.int .u64 (.ofNat low), .int .u64 (.ofNat high), .int .u64 (.ofNat top)] h (fun r k => r = .agg (quads (splitL low high top)) ∧ HExt h k ∧ (Fresh h → Fresh k)) := by
  have b26 : 26 ≤ IntKind.u64.bits := by decide
  have b52 : 52 ≤ IntKind.u64.bits := by decide
  have b12 : 12 ≤ IntKind.u64.bits := by decide
  have b14 : 14 ≤ IntKind.u64.bits := by decide
  have b40 : 40 ≤ IntKind.u64.bits := by decide
  have b24 : 24 ≤ IntKind.u64.bits := by decide
  have hst := e_storeN (h := h.new (.cells (quads (List.replicate 5 0)) false (some (Nat.mul 2 234)))) (b := h.next) (n := 5) (c := quads (List.replicate 5 0)) (vs := quads (splitL low high top)) (by rw [XH.get_new, if_pos rfl]) rfl rfl (quads_one _)
  simp only [splitL, maskN, orN, shlN] at hst
  refine call_fn fn_onetime_split ?_
  simp only [args0_cons, args0_nil]
  repeat with_reducible first | refine nx ?_ | (refine nv ?_; simp (disch := first | omega | decide) only [bG, b26, b52, b12, b14, b40, b24, wrap_u64m, fill5, rep_quads, hst]; refine rg ?_)
  refine ret_nil.2 ⟨_, fin_cell (.inr rfl) (v := .agg (quads (splitL low high top))) ?_, rfl, ((HExt.refl h).new _).set (m := h.next) (Nat.le_refl _) _, fun hf => (hf.new _).set (by rw [XH.next_new]; omega) _⟩
  simp (disch := first | omega | decide) only [bG]
  exact r_loadN (by rw [XH.get_set, if_pos rfl]; rfl) rfl
def plusF (x y : List Nat) : Nat → List Nat
  | 0 => x
  | i + 1 => (plusF x y i).set i (((plusF x y i).getD i 0 + y.getD i 0) % 18446744073709551616)
theorem plusF_len (x y : List Nat) : ∀ i, (plusF x y i).length = x.length
  | 0 => rfl
  | i + 1 => by rw [plusF, List.length_set, plusF_len x y i]
theorem plus_call (x y : List Nat) (hx : x.length = 5) (hy : y.length = 5) (h : XH) : CallEv E0 n_onetime_number_plus [.agg (quads x), .agg (quads y)] h (fun r k => r = .agg (quads (plusF x y 5)) ∧ HExt h k) := by
  refine call_fn fn_onetime_number_plus ?_
  simp only [args0_cons, args0_nil]
  repeat with_reducible first | refine nx ?_ | (refine nv ?_; simp (disch := first | omega | decide) only [bG, XV.cells, rep_quads]; refine rg ?_)
  refine go_loop_ind hE0 (fun m fr k => ∃ i, m = 5 - i ∧ i ≤ 5 ∧ HExt h k ∧ h.next + 3 ≤ k.next ∧ k.get h.next = some (.cells (quads (plusF x y i)) false none) ∧ k.get (h.next + 1) = some (.cells (quads y) false none) ∧ k.get (h.next + 1 + 1) = some (.cells (quads (List.replicate 5 0)) false (some (Nat.mul 2 234))) ∧
      ev fr (.t (ixOf 2)) = .ptr h.next 0 ∧ ev fr (.t (ixOf 3)) = .ptr (h.next + 1) 0 ∧ ev fr (.t (ixOf 4)) = .ptr (h.next + 1 + 1) 0 ∧ ev fr (.t (ixOf 6)) = .int .i64 (.ofNat i)) ?_ (n := 5) ?_
  · rintro m fr k IH ⟨i, rfl, hi, hxt, hn, g0, g1, g2, f2, f3, f4, f6⟩
    have hl := plusF_len x y i
    repeat with_reducible first | refine nx ?_ | (refine nv ?_; simp (disch := first | omega | decide) only [bG, f6]; refine rg ?_)
    refine go_cond ?_
    simp (disch := first | omega | decide) only [bG]
    refine condGo_split (fun hc => ?_) (fun hc => ?_)
    · have hc := of_decide_eq_true hc
      have l0 := r_load1 (o := i) g0 (quads_get (by omega))
      have l1 := r_load1 (o := i) g1 (quads_get (by omega))
      have hst := fun v => e_store_q (o := i) (v := v) g0 (by omega)
      repeat with_reducible first | refine nx ?_ | (refine nv ?_; simp (disch := first | omega | decide) only [bG, f2, f3, f6, l0, l1, wrap_u64m, hst]; refine rg ?_)
      refine plan_nil (by simp (disch := first | omega | decide) only [endOk, chkAt, addNew, newOk, rangeOk, distinctN, Nat.reduceLT, Nat.reduceAdd, Nat.reduceLeDiff, bP, bG, f2, f3, f6, l0, l1]) ?_
      repeat with_reducible first | refine nx ?_ | (refine nv ?_; simp (disch := first | omega | decide) only [bG, f6]; refine rg ?_)
      refine ret_loop.2 (IH (5 - (i + 1)) _ _ (by omega) ⟨i + 1, rfl, by omega, hxt.set (m := h.next) (by omega) _, ?_, ?_, ?_, ?_, ?_, ?_, ?_, ?_⟩)
      · simp only [XH.next_set]; omega
      · rw [XH.get_set, if_pos rfl]; rfl
      · rw [XH.get_set, if_neg (by omega)]; exact g1
      · rw [XH.get_set, if_neg (by omega)]; exact g2
      all_goals simp (disch := first | omega | decide) only [bG, f2, f3, f4, f6]
    · have hc := of_decide_eq_false hc
      obtain rfl : i = 5 := by omega
      have lr := r_loadN (n := 5) g0 (by rw [quads_length, hl, hx])
      have hst := e_storeN (n := 5) g2 (vs := quads (plusF x y 5)) (by rw [quads_length, hl, hx]) (by rw [quads_length, quads_length, hl, hx]; rfl) (quads_one _)
      repeat with_reducible first | refine nx ?_ | (refine nv ?_; simp (disch := first | omega | decide) only [bG, f2, f4, lr, hst]; refine rg ?_)
      refine ret_nil.2 ⟨_, fin_cell (.inr rfl) (v := .agg (quads (plusF x y 5))) ?_, rfl, hxt.set (m := h.next + 1 + 1) (by omega) _⟩
      simp (disch := first | omega | decide) only [bG, f4]
      exact r_loadN (by rw [XH.get_set, if_pos rfl]) (by rw [quads_length, hl, hx])
  · refine ⟨0, rfl, by omega, (((HExt.refl h).new _).new _).new _, ?_, ?_, ?_, ?_, ?_, ?_, ?_, ?_⟩
    · simp only [XH.next_new]; omega
    · simp only [XH.get_new, XH.next_new]
      rw [if_neg (by omega), if_neg (by omega), if_true]; rfl
    · simp only [XH.get_new, XH.next_new]
      rw [if_neg (by omega), if_true]
    · simp only [XH.get_new, XH.next_new]
      rw [if_true]
    all_goals simp (disch := first | omega | decide) only [bG]
def cstep (p : List Nat × Nat) (i : Nat) : List Nat × Nat :=
  let v := (p.1.getD i 0 + p.2) % 18446744073709551616
  (p.1.set i (maskN v), v >>> 26)
def cF (x : List Nat) (c : Nat) : Nat → List Nat × Nat
  | 0 => (x, c)
  | i + 1 => cstep (cF x c i) i
theorem cF_len (x : List Nat) (c : Nat) : ∀ i, (cF x c i).1.length = x.length
  | 0 => rfl
  | i + 1 => by rw [cF, cstep, List.length_set, cF_len x c i]
def carry1 (x : List Nat) : List Nat := (cF x 0 5).1.set 0 (((cF x 0 5).1.getD 0 0 + ((cF x 0 5).2 * 5) % 18446744073709551616) % 18446744073709551616)
theorem carry1_len (x : List Nat) : (carry1 x).length = x.length := by rw [carry1, List.length_set, cF_len]
def carryF (x : List Nat) : Nat → List Nat
  | 0 => x
  | i + 1 => carry1 (carryF x i)
theorem carryF_len (x : List Nat) : ∀ i, (carryF x i).length = x.length
  | 0 => rfl
  | i + 1 => by rw [carryF, carry1_len, carryF_len x i]
theorem getD_set_self {l : List Nat} {i v : Nat} (h : i < l.length) : (l.set i v).getD i 0 = v := by
  rw [List.getD_eq_getElem?_getD, List.getElem?_set, if_pos rfl, if_pos h]; rfl
set_option maxHeartbeats 1000000 in
theorem carry_call (x : List Nat) (hx : x.length = 5) (h : XH) : CallEv E0 n_onetime_number_carry [.agg (quads x)] h (fun r k => r = .agg (quads (carryF x 3)) ∧ HExt h k) := by
  have b26 : 26 ≤ IntKind.u64.bits := by decide
  refine call_fn fn_onetime_number_carry ?_
  simp only [args0_cons, args0_nil]
  repeat with_reducible first | refine nx ?_ | (refine nv ?_; simp (disch := first | omega | decide) only [bG, XV.cells, rep_quads]; refine rg ?_)
  refine go_loop_ind hE0 (fun m fr k => ∃ p, m = 3 - p ∧ p ≤ 3 ∧ HExt h k ∧ h.next + 2 ≤ k.next ∧ k.get h.next = some (.cells (quads (carryF x p)) false none) ∧ k.get (h.next + 1) = some (.cells (quads (List.replicate 5 0)) false (some (Nat.mul 2 234))) ∧
      ev fr (.t (ixOf 1)) = .ptr h.next 0 ∧ ev fr (.t (ixOf 2)) = .ptr (h.next + 1) 0 ∧ ev fr (.t (ixOf 5)) = .int .i64 (.ofNat p)) ?_ (n := 3) ?_
  · rintro m fr k IH ⟨p, rfl, hp, hxt, hn, g0, g1, f1, f2, f5⟩
    have hl : (carryF x p).length = 5 := by rw [carryF_len, hx]
    repeat with_reducible first | refine nx ?_ | (refine nv ?_; simp (disch := first | omega | decide) only [bG, f5]; refine rg ?_)
    refine go_cond ?_
    simp (disch := first | omega | decide) only [bG]
    refine condGo_split (fun hc => ?_) (fun hc => ?_)
    · have hc := of_decide_eq_true hc
      have hsu : carryF x (p + 1) = carry1 (carryF x p) := rfl
      generalize carryF x p = Y at hl hsu g0
      repeat with_reducible first | refine nx ?_ | (refine nv ?_; simp (disch := first | omega | decide) only [bG]; refine rg ?_)
      refine go_loop_ind hE0 (fun m fr k => ∃ i, m = 5 - i ∧ i ≤ 5 ∧ HExt h k ∧ h.next + 2 ≤ k.next ∧ k.get h.next = some (.cells (quads (cF Y 0 i).1) false none) ∧ k.get (h.next + 1) = some (.cells (quads (List.replicate 5 0)) false (some (Nat.mul 2 234))) ∧
          ev fr (.t (ixOf 1)) = .ptr h.next 0 ∧ ev fr (.t (ixOf 2)) = .ptr (h.next + 1) 0 ∧ ev fr (.t (ixOf 3)) = .int .u64 (.ofNat (cF Y 0 i).2) ∧ ev fr (.t (ixOf 5)) = .int .i64 (.ofNat p) ∧ ev fr (.t (ixOf 7)) = .int .i64 (.ofNat i)) ?_ (n := 5) ?_
      · rintro m fr2 k2 IH2 ⟨i, rfl, hi, hxt2, hn2, g02, g12, f1, f2, f3, f5, f7⟩
        repeat with_reducible first | refine nx ?_ | (refine nv ?_; simp (disch := first | omega | decide) only [bG, f7]; refine rg ?_)
        refine go_cond ?_
        simp (disch := first | omega | decide) only [bG]
        refine condGo_split (fun hc2 => ?_) (fun hc2 => ?_)
        · have hc2 := of_decide_eq_true hc2
          have hZ : (cF Y 0 i).1.length = 5 := by rw [cF_len, hl]
          have hst1 : cF Y 0 (i + 1) = cstep (cF Y 0 i) i := rfl
          generalize cF Y 0 i = Z at hZ hst1 g02 f3
          obtain ⟨Z, c⟩ := Z
          simp only at hZ g02 f3
          have l0 := r_load1 (o := i) g02 (quads_get (by omega))
          have s0 := e_store_q (o := i) (v := (Z.getD i 0 + c) % 18446744073709551616) g02 (by omega)
          have g03 : (k2.set h.next (.cells (quads (Z.set i ((Z.getD i 0 + c) % 18446744073709551616))) false none)).get h.next = some (.cells (quads (Z.set i ((Z.getD i 0 + c) % 18446744073709551616))) false none) := by rw [XH.get_set, if_pos rfl]
          have l1 := r_load1 (o := i) g03 (quads_get (by rw [List.length_set]; omega))
          rw [getD_set_self (by omega)] at l1
          have s1 := e_store_q (o := i) (v := maskN ((Z.getD i 0 + c) % 18446744073709551616)) g03 (by rw [List.length_set]; omega)
          rw [List.set_set] at s1
          simp only [maskN] at s1
          repeat with_reducible first | refine nx ?_ | (refine nv ?_; simp (disch := first | omega | decide) only [bG, f1, f3, f7, l0, b26, wrap_u64m, s0, l1, s1]; refine rg ?_)
          refine ret_loop.2 (IH2 (5 - (i + 1)) _ _ (by omega) ⟨i + 1, rfl, by omega, (hxt2.set (m := h.next) (by omega) _).set (m := h.next) (by omega) _, ?_, ?_, ?_, ?_, ?_, ?_, ?_, ?_⟩)
          · simp only [XH.next_set]; omega
          · rw [XH.get_set, if_pos rfl, hst1]; rfl
          · simp only [XH.get_set, if_neg (show h.next + 1 ≠ h.next by omega)]; exact g12
          · simp (disch := first | omega | decide) only [bG, f1]
          · simp (disch := first | omega | decide) only [bG, f2]
          · rw [hst1]
            simp (disch := first | omega | decide) only [bG]
            rfl
          all_goals simp (disch := first | omega | decide) only [bG, f5, f7]
        · have hc2 := of_decide_eq_false hc2
          obtain rfl : i = 5 := by omega
          have hZ : (cF Y 0 5).1.length = 5 := by rw [cF_len, hl]
          rw [carry1] at hsu
          generalize cF Y 0 5 = Z at hZ hsu g02 f3
          obtain ⟨Z, c⟩ := Z
          simp only at hZ g02 f3 hsu
          have l0 := r_load1 (o := 0) g02 (quads_get (by omega))
          have s0 := fun v => e_store_q (o := 0) (v := v) g02 (by omega)
          repeat with_reducible first | refine nx ?_ | (refine nv ?_; simp (disch := first | omega | decide) only [bG, f1, f3, f5, l0, wrap_u64m, s0]; refine rg ?_)
          refine ret_loop.2 (IH (3 - (p + 1)) _ _ (by omega) ⟨p + 1, rfl, by omega, hxt2.set (m := h.next) (by omega) _, ?_, ?_, ?_, ?_, ?_, ?_⟩)
          · simp only [XH.next_set]; omega
          · rw [XH.get_set, if_pos rfl, hsu]
          · rw [XH.get_set, if_neg (by omega)]; exact g12
          all_goals simp (disch := first | omega | decide) only [bG, f1, f2, f5]
      · refine ⟨0, rfl, by omega, hxt, hn, g0, g1, ?_, ?_, ?_, ?_, ?_⟩
        · simp (disch := first | omega | decide) only [bG, f1]
        · simp (disch := first | omega | decide) only [bG, f2]
        · simp (disch := first | omega | decide) only [bG]
          rfl
        · simp (disch := first | omega | decide) only [bG, f5]
        · simp (disch := first | omega | decide) only [bG]
    · have hc := of_decide_eq_false hc
      obtain rfl : p = 3 := by omega
      have lr := r_loadN (n := 5) g0 (by rw [quads_length, hl])
      have hst := e_storeN (n := 5) g1 (vs := quads (carryF x 3)) (by rw [quads_length, hl]) (by rw [quads_length, quads_length, hl]; rfl) (quads_one _)
      repeat with_reducible first | refine nx ?_ | (refine nv ?_; simp (disch := first | omega | decide) only [bG, f1, f2, lr, hst]; refine rg ?_)
      refine ret_nil.2 ⟨_, fin_cell (.inr rfl) (v := .agg (quads (carryF x 3))) ?_, rfl, hxt.set (m := h.next + 1) (by omega) _⟩
      simp (disch := first | omega | decide) only [bG, f2]
      exact r_loadN (by rw [XH.get_set, if_pos rfl]) (by rw [quads_length, hl])
  · refine ⟨0, rfl, by omega, ((HExt.refl h).new _).new _, ?_, ?_, ?_, ?_, ?_, ?_⟩
    · simp only [XH.next_new]; omega
    · simp only [XH.get_new, XH.next_new]
      rw [if_neg (by omega), if_true]; rfl
    · simp only [XH.get_new, XH.next_new]
      rw [if_true]
    all_goals simp (disch := first | omega | decide) only [bG]
end Go.Proofs.XCode
end
section
namespace Go.Proofs.XCode
open Go.X
set_option linter.unusedSimpArgs false
set_option linter.unusedVariables false
def tstep (x y : List Nat) (i j : Nat) (T : List Nat) : List Nat :=
  if j ≤ i then T.set i ((T.getD i 0 + (x.getD j 0 * y.getD (i - j) 0) % 18446744073709551616) % 18446744073709551616)
  else T.set i ((T.getD i 0 + (((x.getD j 0 * y.getD (5 + i - j) 0) % 18446744073709551616) * 5) % 18446744073709551616) % 18446744073709551616)
def tin (x y : List Nat) (i : Nat) (T : List Nat) : Nat → List Nat
  | 0 => T
  | j + 1 => tstep x y i j (tin x y i T j)
theorem tstep_len (x y : List Nat) (i j : Nat) (T : List Nat) : (tstep x y i j T).length = T.length := by
  unfold tstep; split <;> rw [List.length_set]
theorem tin_len (x y : List Nat) (i : Nat) (T : List Nat) : ∀ j, (tin x y i T j).length = T.length
  | 0 => rfl
  | j + 1 => by rw [tin, tstep_len, tin_len x y i T j]
def tout (x y : List Nat) : Nat → List Nat
  | 0 => List.replicate 5 0
  | i + 1 => tin x y i (tout x y i) 5
theorem tout_len (x y : List Nat) : ∀ i, (tout x y i).length = 5
  | 0 => rfl
  | i + 1 => by rw [tout, tin_len, tout_len x y i]
set_option maxHeartbeats 1000000 in
theorem times_call (x y : List Nat) (hx : x.length = 5) (hy : y.length = 5) (h : XH) : CallEv E0 n_onetime_number_times [.agg (quads x), .agg (quads y)] h (fun r k => r = .agg (quads (carryF (tout x y 5) 3)) ∧ HExt h k) := by
  refine call_fn fn_onetime_number_times ?_
  simp only [args0_cons, args0_nil]
  repeat with_reducible first | refine nx ?_ | (refine nv ?_; simp (disch := first | omega | decide) only [bG, XV.cells, rep_quads]; refine rg ?_)
  refine go_loop_ind hE0 (fun m fr k => ∃ i, m = 5 - i ∧ i ≤ 5 ∧ HExt h k ∧ h.next + 4 ≤ k.next ∧ k.get h.next = some (.cells (quads x) false none) ∧ k.get (h.next + 1) = some (.cells (quads y) false none) ∧ k.get (h.next + 1 + 1) = some (.cells (quads (List.replicate 5 0)) false (some (Nat.mul 2 234))) ∧ k.get (h.next + 1 + 1 + 1) = some (.cells (quads (tout x y i)) false (some (Nat.mul 2 234))) ∧
      ev fr (.t (ixOf 2)) = .ptr h.next 0 ∧ ev fr (.t (ixOf 3)) = .ptr (h.next + 1) 0 ∧ ev fr (.t (ixOf 4)) = .ptr (h.next + 1 + 1) 0 ∧ ev fr (.t (ixOf 5)) = .ptr (h.next + 1 + 1 + 1) 0 ∧ ev fr (.t (ixOf 8)) = .int .i64 (.ofNat i)) ?_ (n := 5) ?_
  · rintro m fr k IH ⟨i, rfl, hi, hxt, hn, g0, g1, g2, g3, f2, f3, f4, f5, f8⟩
    have hl := tout_len x y i
    repeat with_reducible first | refine nx ?_ | (refine nv ?_; simp (disch := first | omega | decide) only [bG, f8]; refine rg ?_)
    refine go_cond ?_
    simp (disch := first | omega | decide) only [bG]
    refine condGo_split (fun hc => ?_) (fun hc => ?_)
    · have hc := of_decide_eq_true hc
      have hsu : tout x y (i + 1) = tin x y i (tout x y i) 5 := rfl
      generalize tout x y i = Y at hl hsu g3
      repeat with_reducible first | refine nx ?_ | (refine nv ?_; simp (disch := first | omega | decide) only [bG, f8]; refine rg ?_)
      refine go_loop_ind hE0 (fun m fr k => ∃ j, m = 5 - j ∧ j ≤ 5 ∧ HExt h k ∧ h.next + 4 ≤ k.next ∧ k.get h.next = some (.cells (quads x) false none) ∧ k.get (h.next + 1) = some (.cells (quads y) false none) ∧ k.get (h.next + 1 + 1) = some (.cells (quads (List.replicate 5 0)) false (some (Nat.mul 2 234))) ∧ k.get (h.next + 1 + 1 + 1) = some (.cells (quads (tin x y i Y j)) false (some (Nat.mul 2 234))) ∧
          ev fr (.t (ixOf 2)) = .ptr h.next 0 ∧ ev fr (.t (ixOf 3)) = .ptr (h.next + 1) 0 ∧ ev fr (.t (ixOf 4)) = .ptr (h.next + 1 + 1) 0 ∧ ev fr (.t (ixOf 5)) = .ptr (h.next + 1 + 1 + 1) 0 ∧ ev fr (.t (ixOf 6)) = .int .i64 (.ofNat i) ∧ ev fr (.t (ixOf 8)) = .int .i64 (.ofNat i) ∧ ev fr (.t (ixOf 11)) = .int .i64 (.ofNat j)) ?_ (n := 5) ?_
      · rintro m fr2 k2 IH2 ⟨j, rfl, hj, hxt2, hn2, g02, g12, g22, g32, f2, f3, f4, f5, f6, f8, f11⟩
        repeat with_reducible first | refine nx ?_ | (refine nv ?_; simp (disch := first | omega | decide) only [bG, f11]; refine rg ?_)
        refine go_cond ?_
        simp (disch := first | omega | decide) only [bG]
        refine condGo_split (fun hc2 => ?_) (fun hc2 => ?_)
        · have hc2 := of_decide_eq_true hc2
          have hZ : (tin x y i Y j).length = 5 := by rw [tin_len, hl]
          have hst1 : tin x y i Y (j + 1) = tstep x y i j (tin x y i Y j) := rfl
          generalize tin x y i Y j = Z at hZ hst1 g32
          have l0 := r_load1 (o := i) g32 (quads_get (by omega))
          have l1 := r_load1 (o := j) g02 (quads_get (by omega))
          have s0 := fun v => e_store_q (o := i) (v := v) g32 (by omega)
          repeat with_reducible first | refine nx ?_ | (refine nv ?_; simp (disch := first | omega | decide) only [bG, f6, f11]; refine rg ?_)
          refine go_cond ?_
          simp (disch := first | omega | decide) only [bG]
          refine condGo_split (fun hc3 => ?_) (fun hc3 => ?_)
          · have hc3 := of_decide_eq_true hc3
            have l2 := r_load1 (o := i - j) g12 (quads_get (by omega))
            rw [tstep, if_pos hc3] at hst1
            repeat with_reducible first | refine nx ?_ | (refine nv ?_; simp (disch := first | omega | decide) only [bG, f2, f3, f5, f6, f11, l0, l1, l2, wrap_u64m, s0]; refine rg ?_)
            refine plan_nil (by simp (disch := first | omega | decide) only [endOk, chkAt, addNew, newOk, rangeOk, distinctN, Nat.reduceLT, Nat.reduceAdd, Nat.reduceLeDiff, bP, bG, f2, f3, f5, f6, f11, l0, l1, l2]) ?_
            repeat with_reducible first | refine nx ?_ | (refine nv ?_; simp (disch := first | omega | decide) only [bG, f11]; refine rg ?_)
            refine ret_loop.2 (IH2 (5 - (j + 1)) _ _ (by omega) ⟨j + 1, rfl, by omega, hxt2.set (m := h.next + 1 + 1 + 1) (by omega) _, ?_, ?_, ?_, ?_, ?_, ?_, ?_, ?_, ?_, ?_, ?_, ?_⟩)
            · simp only [XH.next_set]; omega
            · rw [XH.get_set, if_neg (by omega)]; exact g02
            · rw [XH.get_set, if_neg (by omega)]; exact g12
            · rw [XH.get_set, if_neg (by omega)]; exact g22
            · rw [XH.get_set, if_pos rfl, hst1]
            all_goals simp (disch := first | omega | decide) only [bG, f2, f3, f4, f5, f6, f8, f11]
          · have hc3 := of_decide_eq_false hc3
            have l2 := r_load1 (o := 5 + i - j) g12 (quads_get (by omega))
            rw [tstep, if_neg hc3] at hst1
            repeat with_reducible first | refine nx ?_ | (refine nv ?_; simp (disch := first | omega | decide) only [bG, f2, f3, f5, f6, f11, l0, l1, l2, wrap_u64m, s0]; refine rg ?_)
            refine plan_nil (by simp (disch := first | omega | decide) only [endOk, chkAt, addNew, newOk, rangeOk, distinctN, Nat.reduceLT, Nat.reduceAdd, Nat.reduceLeDiff, bP, bG, f2, f3, f5, f6, f11, l0, l1, l2]) ?_
            repeat with_reducible first | refine nx ?_ | (refine nv ?_; simp (disch := first | omega | decide) only [bG, f11]; refine rg ?_)
            refine ret_loop.2 (IH2 (5 - (j + 1)) _ _ (by omega) ⟨j + 1, rfl, by omega, hxt2.set (m := h.next + 1 + 1 + 1) (by omega) _, ?_, ?_, ?_, ?_, ?_, ?_, ?_, ?_, ?_, ?_, ?_, ?_⟩)
            · simp only [XH.next_set]; omega
            · rw [XH.get_set, if_neg (by omega)]; exact g02
            · rw [XH.get_set, if_neg (by omega)]; exact g12
            · rw [XH.get_set, if_neg (by omega)]; exact g22
            · rw [XH.get_set, if_pos rfl, hst1]
            all_goals simp (disch := first | omega | decide) only [bG, f2, f3, f4, f5, f6, f8, f11]
        · have hc2 := of_decide_eq_false hc2
          obtain rfl : j = 5 := by omega
          repeat with_reducible first | refine nx ?_ | (refine nv ?_; simp (disch := first | omega | decide) only [bG, f8]; refine rg ?_)
          refine ret_loop.2 (IH (5 - (i + 1)) _ _ (by omega) ⟨i + 1, rfl, by omega, hxt2, hn2, g02, g12, g22, ?_, ?_, ?_, ?_, ?_, ?_⟩)
          · rw [hsu]; exact g32
          all_goals simp (disch := first | omega | decide) only [bG, f2, f3, f4, f5, f8]
      · refine ⟨0, rfl, by omega, hxt, hn, g0, g1, g2, g3, ?_, ?_, ?_, ?_, ?_, ?_, ?_⟩
        all_goals simp (disch := first | omega | decide) only [bG, f2, f3, f4, f5, f8]
    · have hc := of_decide_eq_false hc
      obtain rfl : i = 5 := by omega
      have lr := r_loadN (n := 5) g3 (by rw [quads_length, hl])
      repeat with_reducible first | refine nx ?_ | (refine nv ?_; simp (disch := first | omega | decide) only [bG, f5, lr]; refine rg ?_)
      refine callGo_ex (carry_call (tout x y 5) hl k) ?_
      rintro r k3 ⟨rfl, hxt3⟩
      have g4 : k3.get (h.next + 1 + 1) = _ := (hxt3.get _ (by omega)).trans g2
      have hst := e_storeN (n := 5) g4 (vs := quads (carryF (tout x y 5) 3)) (by rw [quads_length, carryF_len, hl]) (by rw [quads_length, quads_length, carryF_len, hl]; rfl) (quads_one _)
      repeat with_reducible first | refine nx ?_ | (refine nv ?_; simp (disch := first | omega | decide) only [bG, f4, hst]; refine rg ?_)
      refine ret_nil.2 ⟨_, fin_cell (.inr rfl) (v := .agg (quads (carryF (tout x y 5) 3))) ?_, rfl, (hxt.trans hxt3).set (m := h.next + 1 + 1) (by omega) _⟩
      simp (disch := first | omega | decide) only [bG, f4]
      exact r_loadN (by rw [XH.get_set, if_pos rfl]) (by rw [quads_length, carryF_len, hl])
  · refine ⟨0, rfl, by omega, ((((HExt.refl h).new _).new _).new _).new _, ?_, ?_, ?_, ?_, ?_, ?_, ?_, ?_, ?_, ?_⟩
    · simp only [XH.next_new]; omega
    · simp only [XH.get_new, XH.next_new]
      rw [if_neg (by omega), if_neg (by omega), if_neg (by omega), if_true]
    · simp only [XH.get_new, XH.next_new]
      rw [if_neg (by omega), if_neg (by omega), if_true]
    · simp only [XH.get_new, XH.next_new]
      rw [if_neg (by omega), if_true]
    · simp only [XH.get_new, XH.next_new]
      rw [if_true]; rfl
    all_goals simp (disch := first | omega | decide) only [bG]
def wholeF (x : List Nat) : List Nat :=
  if 0 < (cF (carryF x 3) 5 5).2 then (cF (carryF x 3) 5 5).1 else carryF x 3
set_option maxHeartbeats 1000000 in
theorem whole_call (x : List Nat) (hx : x.length = 5) (h : XH) : CallEv E0 n_onetime_number_whole [.agg (quads x)] h (fun r k => r = .agg (quads (wholeF x)) ∧ HExt h k) := by
  have b26 : 26 ≤ IntKind.u64.bits := by decide
  refine call_fn fn_onetime_number_whole ?_
  simp only [args0_cons, args0_nil]
  have l0 : rLoad ((h.new (.cells (quads x) false none)).new (.cells (quads (List.replicate 5 0)) false (some (Nat.mul 2 234)))) (.many 5) (.ptr h.next 0) = some (.agg (quads x)) :=
    r_loadN (n := 5) (by simp only [XH.get_new, XH.next_new]; rw [if_neg (by omega), if_true]) (by rw [quads_length, hx])
  repeat with_reducible first | refine nx ?_ | (refine nv ?_; simp (disch := first | omega | decide) only [bG, XV.cells, rep_quads, l0]; refine rg ?_)
  refine callGo_ex (carry_call x hx _) ?_
  rintro r k ⟨rfl, hxt⟩
  have hl : (carryF x 3).length = 5 := by rw [carryF_len, hx]
  have hn := hxt.le
  simp only [XH.next_new] at hn
  have hxt0 : HExt h k := (((HExt.refl h).new _).new _).trans hxt
  have g0 : k.get h.next = some (.cells (quads x) false none) := (hxt.get _ (by simp only [XH.next_new]; omega)).trans (by simp only [XH.get_new, XH.next_new]; rw [if_neg (by omega), if_true])
  have g1 : k.get (h.next + 1) = some (.cells (quads (List.replicate 5 0)) false (some (Nat.mul 2 234))) := (hxt.get _ (by simp only [XH.next_new]; omega)).trans (by simp only [XH.get_new, XH.next_new]; rw [if_true])
  have hst := e_storeN (n := 5) g0 (vs := quads (carryF x 3)) (by rw [quads_length, hl]) (by rw [quads_length, quads_length, hl, hx]) (quads_one _)
  have hw : wholeF x = if 0 < (cF (carryF x 3) 5 5).2 then (cF (carryF x 3) 5 5).1 else carryF x 3 := rfl
  generalize carryF x 3 = Y at hl hst hw
  have l1 : rLoad (k.set h.next (.cells (quads Y) false none)) (.many 5) (.ptr h.next 0) = some (.agg (quads Y)) := r_loadN (by rw [XH.get_set, if_pos rfl]) (by rw [quads_length, hl])
  have hst2 := e_storeN (h := (k.set h.next (.cells (quads Y) false none)).new (.cells (quads (List.replicate 5 0)) false (some (Nat.mul 2 234)))) (b := k.next) (n := 5) (c := quads (List.replicate 5 0)) (vs := quads Y) (by rw [XH.get_new, if_pos (by rw [XH.next_set])]) (by rw [quads_length, hl]) (by rw [quads_length, quads_length, hl]; rfl) (quads_one _)
  repeat with_reducible first | refine nx ?_ | (refine nv ?_; simp (disch := first | omega | decide) only [bG, XV.cells, rep_quads, hst, l1, hst2]; refine rg ?_)
  refine go_loop_ind hE0 (fun m fr q => ∃ i, m = 5 - i ∧ i ≤ 5 ∧ HExt h q ∧ k.next + 1 ≤ q.next ∧ q.get h.next = some (.cells (quads Y) false none) ∧ q.get (h.next + 1) = some (.cells (quads (List.replicate 5 0)) false (some (Nat.mul 2 234))) ∧ q.get k.next = some (.cells (quads (cF Y 5 i).1) false (some (Nat.mul 2 234))) ∧
      ev fr (.t (ixOf 1)) = .ptr h.next 0 ∧ ev fr (.t (ixOf 2)) = .ptr (h.next + 1) 0 ∧ ev fr (.t (ixOf 3)) = .ptr k.next 0 ∧ ev fr (.t (ixOf 4)) = .int .u64 (.ofNat (cF Y 5 i).2) ∧ ev fr (.t (ixOf 9)) = .int .i64 (.ofNat i)) ?_ (n := 5) ?_
  · rintro m fr q IH ⟨i, rfl, hi, hq, hqn, g0, g1, g2, f1, f2, f3, f4, f9⟩
    repeat with_reducible first | refine nx ?_ | (refine nv ?_; simp (disch := first | omega | decide) only [bG, f9]; refine rg ?_)
    refine go_cond ?_
    simp (disch := first | omega | decide) only [bG]
    refine condGo_split (fun hc => ?_) (fun hc => ?_)
    · have hc := of_decide_eq_true hc
      have hZ : (cF Y 5 i).1.length = 5 := by rw [cF_len, hl]
      have hst1 : cF Y 5 (i + 1) = cstep (cF Y 5 i) i := rfl
      generalize cF Y 5 i = Z at hZ hst1 g2 f4
      obtain ⟨Z, c⟩ := Z
      simp only at hZ g2 f4
      have l0 := r_load1 (o := i) g2 (quads_get (by omega))
      have s0 := e_store_q (o := i) (v := (Z.getD i 0 + c) % 18446744073709551616) g2 (by omega)
      have g03 : (q.set k.next (.cells (quads (Z.set i ((Z.getD i 0 + c) % 18446744073709551616))) false (some (Nat.mul 2 234)))).get k.next = some (.cells (quads (Z.set i ((Z.getD i 0 + c) % 18446744073709551616))) false (some (Nat.mul 2 234))) := by rw [XH.get_set, if_pos rfl]
      have l1 := r_load1 (o := i) g03 (quads_get (by rw [List.length_set]; omega))
      rw [getD_set_self (by omega)] at l1
      have s1 := e_store_q (o := i) (v := maskN ((Z.getD i 0 + c) % 18446744073709551616)) g03 (by rw [List.length_set]; omega)
      rw [List.set_set] at s1
      simp only [maskN] at s1
      repeat with_reducible first | refine nx ?_ | (refine nv ?_; simp (disch := first | omega | decide) only [bG, f3, f4, f9, l0, b26, wrap_u64m, s0, l1, s1]; refine rg ?_)
      refine ret_loop.2 (IH (5 - (i + 1)) _ _ (by omega) ⟨i + 1, rfl, by omega, (hq.set (m := k.next) (by omega) _).set (m := k.next) (by omega) _, ?_, ?_, ?_, ?_, ?_, ?_, ?_, ?_, ?_⟩)
      · simp only [XH.next_set]; omega
      · simp only [XH.get_set, if_neg (show h.next ≠ k.next by omega)]; exact g0
      · simp only [XH.get_set, if_neg (show h.next + 1 ≠ k.next by omega)]; exact g1
      · rw [XH.get_set, if_pos rfl, hst1]; rfl
      · simp (disch := first | omega | decide) only [bG, f1]
      · simp (disch := first | omega | decide) only [bG, f2]
      · simp (disch := first | omega | decide) only [bG, f3]
      · rw [hst1]
        simp (disch := first | omega | decide) only [bG]
        rfl
      all_goals simp (disch := first | omega | decide) only [bG, f9]
    · have hc := of_decide_eq_false hc
      obtain rfl : i = 5 := by omega
      have hZ : (cF Y 5 5).1.length = 5 := by rw [cF_len, hl]
      generalize cF Y 5 5 = Z at hZ hw g2 f4
      obtain ⟨Z, c⟩ := Z
      simp only at hZ g2 f4 hw
      repeat with_reducible first | refine nx ?_ | (refine nv ?_; simp (disch := first | omega | decide) only [bG, f4]; refine rg ?_)
      refine go_cond ?_
      simp (disch := first | omega | decide) only [bG]
      refine condGo_split (fun hc2 => ?_) (fun hc2 => ?_)
      · have hc2 := of_decide_eq_true hc2
        rw [if_pos hc2] at hw
        have lr := r_loadN (n := 5) g2 (by rw [quads_length, hZ])
        have hst := e_storeN (n := 5) g1 (vs := quads Z) (by rw [quads_length, hZ]) (by rw [quads_length, quads_length, hZ]; rfl) (quads_one _)
        repeat with_reducible first | refine nx ?_ | (refine nv ?_; simp (disch := first | omega | decide) only [bG, f2, f3, lr, hst]; refine rg ?_)
        refine ret_nil.2 ⟨_, fin_cell (.inr rfl) (v := .agg (quads (wholeF x))) ?_, rfl, hq.set (m := h.next + 1) (by omega) _⟩
        simp (disch := first | omega | decide) only [bG, f2]
        exact r_loadN (by rw [XH.get_set, if_pos rfl, hw]) (by rw [hw, quads_length, hZ])
      · have hc2 := of_decide_eq_false hc2
        rw [if_neg hc2] at hw
        have lr := r_loadN (n := 5) g0 (by rw [quads_length, hl])
        have hst := e_storeN (n := 5) g1 (vs := quads Y) (by rw [quads_length, hl]) (by rw [quads_length, quads_length, hl]; rfl) (quads_one _)
        repeat with_reducible first | refine nx ?_ | (refine nv ?_; simp (disch := first | omega | decide) only [bG, f1, f2, lr, hst]; refine rg ?_)
        refine ret_nil.2 ⟨_, fin_cell (.inr rfl) (v := .agg (quads (wholeF x))) ?_, rfl, hq.set (m := h.next + 1) (by omega) _⟩
        simp (disch := first | omega | decide) only [bG, f2]
        exact r_loadN (by rw [XH.get_set, if_pos rfl, hw]) (by rw [hw, quads_length, hl])
  · refine ⟨0, rfl, by omega, ?_, ?_, ?_, ?_, ?_, ?_, ?_, ?_, ?_, ?_⟩
    · exact ((hxt0.set (m := h.next) (by omega) _).new _).set (m := k.next) (by omega) _
    · simp only [XH.next_set, XH.next_new]; omega
    · simp only [XH.get_set, XH.get_new, XH.next_set]
      rw [if_neg (by omega), if_neg (by omega), if_true]
    · simp only [XH.get_set, XH.get_new, XH.next_set]
      rw [if_neg (by omega), if_neg (by omega), if_neg (by omega)]; exact g1
    · rw [XH.get_set, if_pos rfl]; rfl
    · simp (disch := first | omega | decide) only [bG]
    · simp (disch := first | omega | decide) only [bG]
    · simp (disch := first | omega | decide) only [bG]
    · simp (disch := first | omega | decide) only [bG]
      rfl
    · simp (disch := first | omega | decide) only [bG]
end Go.Proofs.XCode
end
section
namespace Go.Proofs.XCode
open Go.X
set_option linter.unusedSimpArgs false
set_option linter.unusedVariables false
def clampAt (i : Nat) (c : List Nat) : List Nat :=
  if i = 3 ∨ i = 7 ∨ i = 11 ∨ i = 15 then c.set i (c.getD i 0 % 256 &&& 15)
  else if i = 4 ∨ i = 8 ∨ i = 12 then c.set i (c.getD i 0 % 256 &&& 252) else c
def clampN (c : List Nat) : Nat → List Nat
  | 0 => c
  | i + 1 => clampAt i (clampN c i)
theorem clampAt_len (i : Nat) (c : List Nat) : (clampAt i c).length = c.length := by
  unfold clampAt; split
  · rw [List.length_set]
  · split
    · rw [List.length_set]
    · rfl
theorem clampN_len (c : List Nat) : ∀ i, (clampN c i).length = c.length
  | 0 => rfl
  | i + 1 => by rw [clampN, clampAt_len, clampN_len c i]
theorem and_lt8 (x y : Nat) (h : y < 256) : x % 256 &&& y < 256 := Nat.lt_of_le_of_lt Nat.and_le_right h
theorem clampAt_lt {i : Nat} {c : List Nat} (hc : ∀ j, c.getD j 0 < 256) : ∀ j, (clampAt i c).getD j 0 < 256 := by
  unfold clampAt; split
  · exact getD_set_lt (by decide) hc (and_lt8 _ _ (by decide))
  · split
    · exact getD_set_lt (by decide) hc (and_lt8 _ _ (by decide))
    · exact hc
theorem clampN_lt {c : List Nat} (hc : ∀ j, c.getD j 0 < 256) : ∀ i j, (clampN c i).getD j 0 < 256
  | 0 => hc
  | i + 1 => clampAt_lt (clampN_lt hc i)
theorem wrap_and (x y : Nat) (h : y < 256) : wrapX .u8 (.ofNat (x % 256 &&& y % 256)) = .ofNat (x % 256 &&& y) := by
  rw [Nat.mod_eq_of_lt h, wrap_u8 (and_lt8 x y h)]
theorem e_store_b {h : XH} {b o : Nat} {c : List Nat} {tg : Option Nat} {v : Nat} (hg : h.get b = some (.cells (u8s c) false tg)) (hc : o < c.length) : eStore h 1 (.ptr b o) (.int .u8 (.ofNat v)) = some (unit, h.set b (.cells (u8s (c.set o v)) false tg)) := by
  rw [e_store_one hg (by rw [u8s_length]; exact hc) rfl, u8s_set]
def clampL (key : List Nat) : List Nat := clampN (key.take 16) 16
theorem clampL_len (key : List Nat) (hk : key.length = 32) : (clampL key).length = 16 := by rw [clampL, clampN_len, List.length_take, hk]; rfl
theorem clampL_lt {key : List Nat} (hk : ∀ i, key.getD i 0 < 256) : ∀ i, (clampL key).getD i 0 < 256 := clampN_lt (fun j => by
  rw [getD_take]; split
  · exact hk _
  · decide) 16
set_option maxHeartbeats 2000000 in
theorem clamp_call (key : List Nat) (hk : ∀ i, key.getD i 0 < 256) (hkl : key.length = 32) (h : XH) : CallEv E0 n_onetime_Clamp [.str key] h (fun r k => r = .tup [.str (clampL key), .bool true] ∧ HExt h k ∧ (Fresh h → Fresh k)) := by
  have hcl : clampL key = clampN (key.take 16) 16 := rfl
  have htk : (key.take 16).length = 16 := by rw [List.length_take, hkl]; rfl
  have htl : ∀ i, (key.take 16).getD i 0 < 256 := fun j => by
    rw [getD_take]; split
    · exact hk _
    · decide
  have hcs := p_sliceS_hi key 16 .i64 (by omega)
  generalize key.take 16 = s at hcl htk htl hcs
  refine call_fn fn_onetime_Clamp ?_
  simp only [args0_cons, args0_nil]
  repeat with_reducible first | refine nx ?_ | (refine nw ?_; simp (disch := first | omega | decide) only [bG, hkl, ne_eq, not_true_eq_false, hcs, htk]; refine rg ?_)
  refine go_loop_ind hE0 (fun m fr k => ∃ i, m = 16 - i ∧ i ≤ 16 ∧ HExt h k ∧ (Fresh h → Fresh k) ∧ h.next + 1 ≤ k.next ∧ k.get h.next = some (.cells (u8s (clampN s i)) false none) ∧
      ev fr (.t (ixOf 4)) = .slice h.next 0 16 16 1 false ∧ ev fr (.t (ixOf 13)) = .int .i64 (.ofNat 16) ∧ ev fr (.t (ixOf 14)) = .int .i64 (.ofNat i)) ?_ (n := 16) ?_
  · rintro m fr k IH ⟨i, rfl, hi, hx, hfr, hn, hg, f4, f13, f14⟩
    repeat with_reducible first | refine nx ?_ | (refine nv ?_; simp (disch := first | omega | decide) only [bG, f13, f14]; refine rg ?_)
    refine go_cond ?_
    simp (disch := first | omega | decide) only [bG]
    refine condGo_split (fun hc => ?_) (fun hc => ?_)
    · have hc := of_decide_eq_true hc
      have hsu : clampN s (i + 1) = clampAt i (clampN s i) := rfl
      have hl : (clampN s i).length = 16 := by rw [clampN_len, htk]
      generalize clampN s i = c at hl hsu hg
      have l0 := r_load1 (o := i) hg (u8s_get (by omega))
      have s0 := fun v => e_store_b (o := i) (v := v) hg (by omega)
      have IH' := fun fr' h' hh => IH (16 - (i + 1)) fr' h' (by omega) ⟨i + 1, rfl, hh⟩
      have e : i = 0 ∨ i = 1 ∨ i = 2 ∨ i = 3 ∨ i = 4 ∨ i = 5 ∨ i = 6 ∨ i = 7 ∨ i = 8 ∨ i = 9 ∨ i = 10 ∨ i = 11 ∨ i = 12 ∨ i = 13 ∨ i = 14 ∨ i = 15 := by omega
      rcases e with rfl | rfl | rfl | rfl | rfl | rfl | rfl | rfl | rfl | rfl | rfl | rfl | rfl | rfl | rfl | rfl
      all_goals
        repeat with_reducible first | refine nx ?_ | (refine nw ?_; simp (disch := first | omega | decide) only [bG, f4, f14, l0, s0, wrap_and, Nat.reduceEqDiff]; refine rg ?_)
        refine ret_loop.2 (IH' _ _ ⟨by decide, ?_, ?_, ?_, ?_, ?_, ?_, ?_⟩)
        · first | exact hx | exact hx.set (m := h.next) (by omega) _
        · first | exact hfr | exact fun hf => (hfr hf).set (m := h.next) (by omega) _
        · first | exact hn | (simp only [XH.next_set]; exact hn)
        · rw [hsu]
          first | exact hg | (rw [XH.get_set, if_pos rfl]; rfl)
        all_goals simp (disch := first | omega | decide) only [bG, f4, f13, f14]
    · have hc := of_decide_eq_false hc
      obtain rfl : i = 16 := by omega
      have hl : (clampN s 16).length = 16 := by rw [clampN_len, htk]
      have hlt := clampN_lt htl 16
      rw [← hcl] at hl hlt hg
      have hcv := r_convBS (h := k) (b := h.next) (o := 0) (len := 16) (cap := 16) (ex := false) (s := clampL key) (by rw [cells_b hg (by rw [u8s_length]; omega), List.drop_zero, List.take_of_length_le (by rw [u8s_length]; omega)]) (lt_all hlt)
      repeat with_reducible first | refine nx ?_ | (refine nv ?_; simp (disch := first | omega | decide) only [bG, f4, hcv]; refine rg ?_)
      refine ret_nil.2 ⟨_, fin_tmps (l := [2, 3]) (.inr rfl), ?_, hx, hfr⟩
      simp only [List.map]
      simp (disch := first | omega | decide) only [bG]
      rfl
  · refine ⟨0, rfl, by omega, (HExt.refl h).new _, fun hf => hf.new _, ?_, ?_, ?_, ?_, ?_⟩
    · simp only [XH.next_new]; omega
    · rw [XH.get_new, if_pos rfl]; rfl
    all_goals simp (disch := first | omega | decide) only [bG]
theorem right_call (key nonce : List Nat) (hkl : key.length = 32) (hnl : nonce.length = 12) (h : XH) : CallEv E0 n_stream_right [.str key, .str nonce] h (fun r k => r = .bool true ∧ k = h) := by
  refine call_fn fn_stream_right ?_
  simp only [args0_cons, args0_nil]
  repeat with_reducible first | refine nx ?_ | (refine nw ?_; simp (disch := first | omega | decide) only [bG, hkl, hnl]; refine rg ?_)
  refine ret_nil.2 ⟨_, fin_tmp (.inr rfl), ?_, rfl⟩
  simp (disch := first | omega | decide) only [bG, cond_true]
theorem blockC_call (key nonce : List Nat) (ctr : Nat) (hk : ∀ i, key.getD i 0 < 256) (hn : ∀ i, nonce.getD i 0 < 256) (hkl : key.length = 32) (hnl : nonce.length = 12) (hc : ctr < 4294967296) (h : XH) :
    CallEv E0 n_stream_Block [.str key, .int .u32 (.ofNat ctr), .str nonce] h (fun r k => r = .tup [.str (blockL key ctr nonce), .bool true] ∧ HExt h k) := by
  refine call_fn fn_stream_Block ?_
  simp only [args0_cons, args0_nil]
  repeat with_reducible first | refine nx ?_ | (refine nv ?_; simp (disch := first | omega | decide) only [bG]; refine rg ?_)
  refine callGo_ex (right_call key nonce hkl hnl _) ?_
  rintro r k ⟨rfl, rfl⟩
  repeat with_reducible first | refine nx ?_ | (refine nw ?_; simp (disch := first | omega | decide) only [bG, u_not, Bool.not_true]; refine rg ?_)
  refine callGo_ex (block_call key nonce ctr hk hn hkl hnl hc _) ?_
  rintro r k ⟨rfl, hx⟩
  repeat with_reducible first | refine nx ?_ | (refine nv ?_; simp (disch := first | omega | decide) only [bG]; refine rg ?_)
  refine ret_nil.2 ⟨_, fin_tmps (l := [6, 7]) (.inr rfl), ?_, hx⟩
  simp only [List.map]
  simp (disch := first | omega | decide) only [bG]
  rfl
end Go.Proofs.XCode
end
