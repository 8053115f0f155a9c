/- What this text proves serves the claim of its last text: a part of a verified executor, its walks and its runs (W17, X3, P1, P2, P3, X4, S28, S29, S31, W18, XC3, W19, Dat, KE, S32, KW). -/
import Derived.Test.YtfaalljnklijjaaGreatDoorQ05
import Derived.Test.YtfaalljnklijjaaGreatDoorQ00
import Derived.Test.YtfaalljnklijjaaGreatDoorQ02
import Derived.Test.YtfaalljnklijjaaGreatDoorQ04
import Derived.KernelRfl
set_option linter.all false
section
namespace Go.Proofs.XCode
open Go.X
set_option linter.unusedSimpArgs false
set_option linter.unusedVariables false
theorem add64_fn : E0.fn 146 = some (.intr 11) := intr_of (by kernel_rfl)
theorem add64_call (x y c : Nat) (hc : c ≤ 1) (h : XH) : CallEv E0 146 [.int .u64 (.ofNat x), .int .u64 (.ofNat y), .int .u64 (.ofNat c)] h (fun r k => r = .tup [.int .u64 (.ofNat ((x + y + c) % 18446744073709551616)), .int .u64 (.ofNat ((x + y + c) / 18446744073709551616))] ∧ k = h) := by
  have hE : E0.intr = intr := rfl
  have hi : ∀ cl, intr cl 11 [.int .u64 (.ofNat x), .int .u64 (.ofNat y), .int .u64 (.ofNat c)] h = iAdd64 [.int .u64 (.ofNat x), .int .u64 (.ofNat y), .int .u64 (.ofNat c)] h := fun cl => rfl
  refine call_intr' add64_fn 0 ?_ ⟨rfl, rfl⟩
  rw [hE, hi]
  simp only [iAdd64, n_ble, hc, decide_true, cond_true]
  rfl
theorem e_copy {h : XH} {b len cap : Nat} {c w : List Nat} {ex : Bool} {tg : Option Nat} (hg : h.get b = some (.cells (u8s c) false tg)) (hl : w.length ≤ len) (hc : w.length ≤ c.length) : eCopy h 1 (.slice b 0 len cap 1 ex) (.str w) = some (.int .i64 (.ofNat w.length), h.set b (.cells (u8s (w ++ c.drop w.length)) false tg)) := by
  have h1 : lenOf (.str w) = some w.length := by simp [lenOf, lenX_eq]
  have h2 : cellsOf h 1 w.length (.str w) = some (u8s w) := by
    show (bif Nat.beq 1 1 then some (u8s (takeX w.length w)) else none) = _
    rw [takeX_eq, List.take_length]; rfl
  have h3 : splice (u8s c) 0 (u8s w) = u8s (w ++ c.drop w.length) := by
    simp only [splice_eq, List.take_zero, List.nil_append, Nat.zero_add, u8s_length, u8s_append]
    simp [u8s, mapX_eq, List.map_drop]
  have h4 : lenOf (.slice b 0 len cap 1 ex) = some len := rfl
  have h5 : Nat.min w.length len = w.length := Nat.min_eq_left hl
  simp only [eCopy, h1, h4, h5, h2, Nat.beq_refl, cond_true, wr, hg, n_ble, n_add, Nat.zero_add, lenX_eq, u8s_length, hc, decide_true, u8s_one, Bool.and_self, h3]
theorem drop_min (l : List Nat) (n : Nat) : l.drop (min l.length n) = l.drop n := by
  by_cases h : n ≤ l.length
  · rw [Nat.min_eq_right h]
  · rw [Nat.min_eq_left (by omega), List.drop_of_length_le (Nat.le_refl _), List.drop_of_length_le (by omega)]
def pad17 (n : Nat) (w : List Nat) : List Nat := (w.take n ++ (List.replicate 17 0).drop (w.take n).length).set n 1
theorem pad17_len {n : Nat} {w : List Nat} (h1 : n ≤ w.length) (h2 : n ≤ 16) : (pad17 n w).length = 17 := by
  have : (w.take n).length = n := by rw [List.length_take]; omega
  rw [pad17, List.length_set, List.length_append, List.length_drop, List.length_replicate, this]; omega
theorem app_lt {a b : List Nat} {m : Nat} (ha : ∀ i, a.getD i 0 < m) (hb : ∀ i, b.getD i 0 < m) : ∀ i, (a ++ b).getD i 0 < m := fun i => by
  rw [List.getD_eq_getElem?_getD, List.getElem?_append]
  split
  · rw [← List.getD_eq_getElem?_getD]; exact ha i
  · rw [← List.getD_eq_getElem?_getD]; exact hb _
theorem rep_lt (n m : Nat) (h : 0 < m) : ∀ i, (List.replicate n 0).getD i 0 < m := fun i => by
  rw [List.getD_eq_getElem?_getD, List.getElem?_replicate]; split <;> simpa using h
theorem take_lt {l : List Nat} {m : Nat} (hm : 0 < m) (hl : ∀ i, l.getD i 0 < m) (n : Nat) : ∀ i, (l.take n).getD i 0 < m := fun i => by
  rw [getD_take]; split
  · exact hl i
  · exact hm
theorem drop_lt {l : List Nat} {m : Nat} (hl : ∀ i, l.getD i 0 < m) (n : Nat) : ∀ i, (l.drop n).getD i 0 < m := fun i => by
  rw [getD_drop]; exact hl _
theorem pad17_lt {n : Nat} {w : List Nat} (hw : ∀ i, w.getD i 0 < 256) : ∀ i, (pad17 n w).getD i 0 < 256 :=
  getD_set_lt (by decide) (app_lt (take_lt (by decide) hw n) (drop_lt (rep_lt 17 256 (by decide)) _)) (by decide)
def limbsL (d : List Nat) : List Nat := splitL (littleN (d.take 8)) (littleN ((d.drop 8).take (16 - 8))) (d.getD 16 0 % 18446744073709551616)
def tagStep (r acc w : List Nat) : List Nat := carryF (tout (plusF acc (limbsL (pad17 (min w.length 16) w)) 5) r 5) 3
def tagJ (r m : List Nat) : Nat → List Nat
  | 0 => List.replicate 5 0
  | j + 1 => tagStep r (tagJ r m j) (m.drop (16 * j))
theorem tagJ_len (r m : List Nat) : ∀ j, (tagJ r m j).length = 5
  | 0 => rfl
  | j + 1 => by rw [tagJ, tagStep, carryF_len, tout_len]
def tagR (key : List Nat) : List Nat := splitL (littleN ((clampL key).take 8)) (littleN ((clampL key).drop 8)) 0
noncomputable def tagEnd (key w : List Nat) : List Nat :=
  let lo := orN (orN (w.getD 0 0) (shlN (w.getD 1 0) 26)) (shlN (w.getD 2 0) 52)
  let hi := orN (orN (w.getD 2 0 >>> 12) (shlN (w.getD 3 0) 14)) (shlN (w.getD 4 0) 40)
  let a := lo + littleN ((key.drop 16).take (24 - 16)) + 0
  let b := hi + littleN (key.drop 24) + a / 18446744073709551616
  putLittle (a % 18446744073709551616) 8 ++ putLittle (b % 18446744073709551616) 8
noncomputable def tagL (key m : List Nat) : List Nat := tagEnd key (wholeF (tagJ (tagR key) m ((m.length + 15) / 16)))
theorem wholeF_len (x : List Nat) (h : x.length = 5) : (wholeF x).length = 5 := by
  unfold wholeF; split
  · rw [cF_len, carryF_len, h]
  · rw [carryF_len, h]
set_option maxHeartbeats 4000000 in
theorem tag_call (key msg : List Nat) (hk : ∀ i, key.getD i 0 < 256) (hkl : key.length = 32) (hm : ∀ i, msg.getD i 0 < 256) (hml : msg.length ≤ 100000) (h : XH) (hfr : Fresh h) :
    CallEv E0 n_onetime_Tag [.str key, .str msg] h (fun r k => r = .tup [.str (tagL key msg), .bool true] ∧ HExt h k) := by
  have hR : tagR key = splitL (littleN ((clampL key).take 8)) (littleN ((clampL key).drop 8)) 0 := rfl
  refine call_fn fn_onetime_Tag ?_
  simp only [args0_cons, args0_nil]
  repeat with_reducible first | refine nx ?_ | (refine nv ?_; simp (disch := first | omega | decide) only [bG]; refine rg ?_)
  refine callGo_ex (clamp_call key hk hkl h) ?_
  rintro _ k1 ⟨rfl, x1, fr1⟩
  have hcl := clampL_len key hkl
  have hclt := clampL_lt hk
  generalize clampL key = C at hcl hclt hR
  repeat with_reducible first | refine nx ?_ | (refine nw ?_; simp (disch := first | omega | decide) only [bG, u_not, Bool.not_true]; refine rg ?_)
  refine callPl_ex (little_call (C.take 8) (take_lt (by decide) hclt 8) (by rw [List.length_take]; omega) (by rw [List.length_take]; omega) k1) ?_
  rintro _ q ⟨rfl, hq⟩
  rw [hq]
  clear hq q
  repeat with_reducible first | refine nx ?_ | (refine nv ?_; simp (disch := first | omega | decide) only [bG]; refine rg ?_)
  refine callPl_ex (little_call (C.drop 8) (drop_lt hclt 8) (by rw [List.length_drop]; omega) (by rw [List.length_drop]; omega) k1) ?_
  rintro _ q ⟨rfl, hq⟩
  rw [hq]
  clear hq q
  repeat with_reducible first | refine nx ?_ | (refine nv ?_; simp (disch := first | omega | decide) only [bG]; refine rg ?_)
  refine callPl_ex (split_call _ _ 0 k1) ?_
  rintro _ k2 ⟨rfl, x2, fr2⟩
  rw [← hR]
  have hRl : (tagR key).length = 5 := by rw [hR]; rfl
  have hL : tagL key msg = tagEnd key (wholeF (tagJ (tagR key) msg ((msg.length + 15) / 16))) := rfl
  generalize tagR key = R at hRl hL ⊢
  have f1 := fr1 hfr
  have n1 := x1.le
  have n2 := x2.le
  have hf1 := f1 k2.next n2
  have hf2 := fr2 f1 k2.next (Nat.le_refl _)
  have hst := e_storeN (h := k2.new (.cells (quads (List.replicate 5 0)) false (some (Nat.mul 2 234)))) (b := k2.next) (n := 5) (c := quads (List.replicate 5 0)) (vs := quads R) (by rw [XH.get_new, if_pos rfl]) (by rw [quads_length, hRl]) (by rw [quads_length, quads_length, hRl]; rfl) (quads_one _)
  repeat with_reducible first | refine nx ?_ | (refine nv ?_; simp (disch := first | omega | decide) only [bG, rep_quads, hst]; refine rg ?_)
  have n2' : k1.next ≤ k2.next + 1 := by omega
  have n2'' : k2.next ≤ k2.next + 1 := by omega
  have n2b : k1.next < k2.next + 1 := by omega
  have n2c : k2.next < k2.next + 1 := by omega
  have hlx : (lenX [k2, k1, k1, k1]).pred = 3 := rfl
  refine plan_nil (by simp (disch := first | omega | decide) only [endOk, chkAt, addNew, newOk, rangeOk, distinctN, Nat.reduceLT, Nat.reduceAdd, Nat.reduceLeDiff, bP, bG, hf1, hf2, n2, n2', n2'', n2b, n2c, hlx]) ?_
  have gR : (k2.new (.cells (quads (List.replicate 5 0)) false (some (Nat.mul 2 234)))).set k2.next (.cells (quads R) false (some (Nat.mul 2 234))) = k2.new (.cells (quads R) false (some (Nat.mul 2 234))) ∨ True := .inr trivial
  clear gR
  repeat with_reducible first | refine nx ?_ | (refine nv ?_; simp (disch := first | omega | decide) only [bG, rep_quads]; refine rg ?_)
  have hnb : 16 * ((msg.length + 15) / 16) ≤ msg.length + 15 ∧ msg.length ≤ 16 * ((msg.length + 15) / 16) := by omega
  generalize (msg.length + 15) / 16 = nb at hnb hL
  refine go_loop_ind hE0 (fun m fr q => ∃ j, m = nb - j ∧ j ≤ nb ∧ HExt h q ∧ k2.next + 2 ≤ q.next ∧ q.get k2.next = some (.cells (quads R) false (some (Nat.mul 2 234))) ∧ q.get (k2.next + 1) = some (.cells (quads (tagJ R msg j)) false (some (Nat.mul 2 234))) ∧
      ev fr (.t (ixOf 0)) = .str key ∧ ev fr (.t (ixOf 1)) = .str (msg.drop (16 * j)) ∧ ev fr (.t (ixOf 8)) = .ptr k2.next 0 ∧ ev fr (.t (ixOf 9)) = .ptr (k2.next + 1) 0) ?_ (n := nb) ?_
  · rintro m fr q IH ⟨j, rfl, hj, hx, hqn, g8, g9, f0, f1, f8, f9⟩
    have hM : (msg.drop (16 * j)).length = msg.length - 16 * j := by rw [List.length_drop]
    have hMl := drop_lt hm (16 * j)
    have hA : (tagJ R msg j).length = 5 := tagJ_len _ _ _
    have hst1 : tagJ R msg (j + 1) = tagStep R (tagJ R msg j) (msg.drop (16 * j)) := rfl
    have hdr : (msg.drop (16 * j)).drop (min (msg.drop (16 * j)).length 16) = msg.drop (16 * (j + 1)) := by
      rw [drop_min, List.drop_drop, Nat.mul_succ]
    generalize hMM : msg.drop (16 * j) = M at hM hMl hst1 hdr f1
    repeat with_reducible first | refine nx ?_ | (refine nv ?_; simp (disch := first | omega | decide) only [bG, f1]; refine rg ?_)
    refine go_cond ?_
    simp (disch := first | omega | decide) only [bG]
    refine condGo_split (fun hc => ?_) (fun hc => ?_)
    · have hc := of_decide_eq_true hc
      generalize tagJ R msg j = A at hA hst1 g9
      have hn1 : min M.length 16 ≤ M.length := Nat.min_le_left _ _
      have hn2 : min M.length 16 ≤ 16 := Nat.min_le_right _ _
      rw [tagStep] at hst1
      have hD := pad17_len hn1 hn2
      have hDl := pad17_lt (n := min M.length 16) hMl
      repeat with_reducible first | refine nx ?_ | (refine nv ?_; simp (disch := first | omega | decide) only [bG, f1, p_min2]; refine rg ?_)
      generalize min M.length 16 = n at hn1 hn2 hst1 hD hDl hdr ⊢
      have htl : (M.take n).length = n := by rw [List.length_take]; omega
      have hDe : pad17 n M = (M.take n ++ (List.replicate 17 0).drop n).set n 1 := by rw [pad17, htl]
      have hcp := e_copy (h := q.new (.cells (u8s (List.replicate 17 0)) false none)) (b := q.next) (len := 17) (cap := 17) (c := List.replicate 17 0) (w := M.take n) (ex := true) (tg := none) (by rw [XH.get_new, if_pos rfl]) (by omega) (by rw [htl, List.length_replicate]; omega)
      rw [htl] at hcp
      have hs1 := e_store_b (h := (q.new (.cells (u8s (List.replicate 17 0)) false none)).set q.next (.cells (u8s (M.take n ++ (List.replicate 17 0).drop n)) false none)) (b := q.next) (o := n) (tg := none) (v := 1) (by rw [XH.get_set, if_pos rfl]) (by rw [List.length_append, htl, List.length_drop, List.length_replicate]; omega)
      rw [← hDe] at hs1
      obtain ⟨q3, hq3⟩ : ∃ q3, q3 = ((q.new (.cells (u8s (List.replicate 17 0)) false none)).set q.next (.cells (u8s (M.take n ++ (List.replicate 17 0).drop n)) false none)).set q.next (.cells (u8s (pad17 n M)) false none) := ⟨_, rfl⟩
      rw [← hq3] at hs1
      repeat with_reducible first | refine nx ?_ | (refine nv ?_; simp (disch := first | omega | decide) only [bG, f1, a_mk _ _ _ _ _ (Nat.le_refl 17), flat1, rep_u8s, hcp, hs1]; refine rg ?_)
      have g3 : q3.get q.next = some (.cells (u8s (pad17 n M)) false none) := by rw [hq3, XH.get_set, if_pos rfl]
      have g83 : q3.get k2.next = some (.cells (quads R) false (some (Nat.mul 2 234))) := by
        rw [hq3, XH.get_set, if_neg (by omega), XH.get_set, if_neg (by omega), XH.get_new, if_neg (by omega)]; exact g8
      have g93 : q3.get (k2.next + 1) = some (.cells (quads A) false (some (Nat.mul 2 234))) := by
        rw [hq3, XH.get_set, if_neg (by omega), XH.get_set, if_neg (by omega), XH.get_new, if_neg (by omega)]; exact g9
      have hx3 : HExt h q3 := by rw [hq3]; exact ((hx.new _).set (m := q.next) (by omega) _).set (m := q.next) (by omega) _
      have hqn3 : q3.next = q.next + 1 := by rw [hq3]; rfl
      clear hs1 hcp hq3 g8 g9 hst
      generalize pad17 n M = D at hD hDl hst1 g3 hDe
      have hcv := r_convBS (h := q3) (b := q.next) (o := 0) (len := 17) (cap := 17) (ex := true) (s := D) (by rw [cells_b g3 (by rw [u8s_length]; omega), List.drop_zero, List.take_of_length_le (by rw [u8s_length]; omega)]) (lt_all hDl)
      have l8 := r_loadN (n := 5) g83 (by rw [quads_length, hRl])
      have l9 := r_loadN (n := 5) g93 (by rw [quads_length, hA])
      repeat with_reducible first | refine nx ?_ | (refine nv ?_; simp (disch := first | omega | decide) only [bG, hcv]; refine rg ?_)
      refine callPl_ex (little_call (D.take 8) (take_lt (by decide) hDl 8) (by rw [List.length_take]; omega) (by rw [List.length_take]; omega) q3) ?_
      rintro _ q ⟨rfl, hq⟩
      rw [hq]
      clear hq q
      repeat with_reducible first | refine nx ?_ | (refine nv ?_; simp (disch := first | omega | decide) only [bG, hcv]; refine rg ?_)
      refine callPl_ex (little_call ((D.drop 8).take (16 - 8)) (take_lt (by decide) (drop_lt hDl 8) _) (by rw [List.length_take, List.length_drop]; omega) (by rw [List.length_take]; omega) q3) ?_
      rintro _ q ⟨rfl, hq⟩
      rw [hq]
      clear hq q
      have hD16 : D[16]? = some (D.getD 16 0) := get_of (by omega)
      repeat with_reducible first | refine nx ?_ | (refine nv ?_; simp (disch := first | omega | decide) only [bG, hcv, p_ixStr D 16 _ hD16, wrap_u64m]; refine rg ?_)
      refine callPl_ex (split_call _ _ _ q3) ?_
      rintro _ q4 ⟨rfl, x4, _⟩
      have hB : (limbsL D).length = 5 := rfl
      have hlb : limbsL D = splitL (littleN (D.take 8)) (littleN ((D.drop 8).take (16 - 8))) (D.getD 16 0 % 18446744073709551616) := rfl
      rw [← hlb]
      generalize limbsL D = B at hB hst1 ⊢
      have n4 := x4.le
      have g84 := (x4.get _ (show k2.next < q3.next by omega)).trans g83
      have g94 := (x4.get _ (show k2.next + 1 < q3.next by omega)).trans g93
      have l84 := r_loadN (n := 5) g84 (by rw [quads_length, hRl])
      have l94 := r_loadN (n := 5) g94 (by rw [quads_length, hA])
      repeat with_reducible first | refine nx ?_ | (refine nv ?_; simp (disch := first | omega | decide) only [bG, f9, l94]; refine rg ?_)
      refine callPl_ex (plus_call A B hA hB q4) ?_
      rintro _ q5 ⟨rfl, x5⟩
      have n5 := x5.le
      have g85 := (x5.get _ (show k2.next < q4.next by omega)).trans g84
      have g95 := (x5.get _ (show k2.next + 1 < q4.next by omega)).trans g94
      have l85 := r_loadN (n := 5) g85 (by rw [quads_length, hRl])
      repeat with_reducible first | refine nx ?_ | (refine nv ?_; simp (disch := first | omega | decide) only [bG, f8, l85]; refine rg ?_)
      have hS : (plusF A B 5).length = 5 := by rw [plusF_len, hA]
      generalize plusF A B 5 = S at hS hst1 ⊢
      refine callPl_ex (times_call S R hS hRl q5) ?_
      rintro _ q6 ⟨rfl, x6⟩
      have n6 := x6.le
      have g86 := (x6.get _ (show k2.next < q5.next by omega)).trans g85
      have g96 := (x6.get _ (show k2.next + 1 < q5.next by omega)).trans g95
      have hT : (carryF (tout S R 5) 3).length = 5 := by rw [carryF_len, tout_len]
      generalize carryF (tout S R 5) 3 = T at hT hst1 ⊢
      have hst := e_storeN (n := 5) g96 (vs := quads T) (by rw [quads_length, hT]) (by rw [quads_length, quads_length, hA, hT]) (quads_one _)
      repeat with_reducible first | refine nx ?_ | (refine nv ?_; simp (disch := first | omega | decide) only [bG, f9, hst]; refine rg ?_)
      have a1 : q3.next ≤ q5.next := by omega
      have a2 : q3.next ≤ q6.next := by omega
      have a3 : q4.next ≤ q6.next := by omega
      refine plan_nil (by simp (disch := first | omega | decide) only [endOk, chkAt, addNew, newOk, rangeOk, distinctN, Nat.reduceLT, Nat.reduceAdd, Nat.reduceLeDiff, bP, bG, f8, f9, l8, l9, l84, l94, l85, n4, n5, n6, a1, a2, a3, hcv]) ?_
      repeat with_reducible first | refine nx ?_ | (refine nv ?_; simp (disch := first | omega | decide) only [bG, f1, hdr]; refine rg ?_)
      refine ret_loop.2 (IH (nb - (j + 1)) _ _ (by omega) ⟨j + 1, rfl, by omega, (((hx3.trans x4).trans x5).trans x6).set (m := k2.next + 1) (by omega) _, ?_, ?_, ?_, ?_, ?_, ?_, ?_⟩)
      · simp only [XH.next_set]; omega
      · rw [XH.get_set, if_neg (by omega)]; exact g86
      · rw [XH.get_set, if_pos rfl, hst1]
      · simp (disch := first | omega | decide) only [bG, f0]
      · simp (disch := first | omega | decide) only [bG, hdr]
      · simp (disch := first | omega | decide) only [bG, f8]
      · simp (disch := first | omega | decide) only [bG, f9]
    · have hc := of_decide_eq_false hc
      obtain rfl : j = nb := by omega
      have l9 := r_loadN (n := 5) g9 (by rw [quads_length, hA])
      repeat with_reducible first | refine nx ?_ | (refine nv ?_; simp (disch := first | omega | decide) only [bG, f9, l9]; refine rg ?_)
      refine callGo_ex (whole_call _ hA q) ?_
      rintro _ q2 ⟨rfl, x3⟩
      have n3 := x3.le
      have hW := wholeF_len _ hA
      have g92 := (x3.get _ (show k2.next + 1 < q.next by omega)).trans g9
      generalize wholeF (tagJ R msg j) = W at hW hL ⊢
      have hst := e_storeN (n := 5) g92 (vs := quads W) (by rw [quads_length, hW]) (by rw [quads_length, quads_length, hA, hW]) (quads_one _)
      repeat with_reducible first | refine nx ?_ | (refine nv ?_; simp (disch := first | omega | decide) only [bG, f9, hst]; refine rg ?_)
      have hx3 : HExt h (q2.set (k2.next + 1) (.cells (quads W) false (some (Nat.mul 2 234)))) := (hx.trans x3).set (m := k2.next + 1) (by omega) _
      have g93 : (q2.set (k2.next + 1) (.cells (quads W) false (some (Nat.mul 2 234)))).get (k2.next + 1) = some (.cells (quads W) false (some (Nat.mul 2 234))) := by rw [XH.get_set, if_pos rfl]
      generalize q2.set (k2.next + 1) (.cells (quads W) false (some (Nat.mul 2 234))) = q3 at hx3 g93 ⊢
      clear hst g9 g92 l9 hst1 hdr hMM
      have a0 := r_load1 (o := 0) g93 (quads_get (by omega))
      have a1 := r_load1 (o := 1) g93 (quads_get (by omega))
      have a2 := r_load1 (o := 2) g93 (quads_get (by omega))
      have a3 := r_load1 (o := 3) g93 (quads_get (by omega))
      have a4 := r_load1 (o := 4) g93 (quads_get (by omega))
      have b26 : 26 ≤ IntKind.u64.bits := by decide
      have b52 : 52 ≤ IntKind.u64.bits := by decide
      have b12 : 12 ≤ IntKind.u64.bits := by decide
      have b14 : 14 ≤ IntKind.u64.bits := by decide
      have b40 : 40 ≤ IntKind.u64.bits := by decide
      have k16 : ((key.drop 16).take (24 - 16)).length = 8 := by rw [List.length_take, List.length_drop]; omega
      have k24 : (key.drop 24).length = 8 := by rw [List.length_drop]; omega
      have z16 := littleN_lt ((key.drop 16).take (24 - 16)) (take_lt (by decide) (drop_lt hk 16) _)
      have z24 := littleN_lt (key.drop 24) (drop_lt hk 24)
      rw [k16] at z16
      rw [k24] at z24
      repeat with_reducible first | refine nx ?_ | (refine nv ?_; simp (disch := first | omega | decide) only [bG, f0, f9]; refine rg ?_)
      refine callPl_ex (little_call ((key.drop 16).take (24 - 16)) (take_lt (by decide) (drop_lt hk 16) _) (by omega) (by omega) q3) ?_
      rintro _ q ⟨rfl, hq⟩
      rw [hq]
      clear hq q
      repeat with_reducible first | refine nx ?_ | (refine nv ?_; simp (disch := first | omega | decide) only [bG, f0, f9, a0, a1, a2, b26, b52, wrap_u64m]; refine rg ?_)
      refine callPl_ex (add64_call (orN (orN (W.getD 0 0) (shlN (W.getD 1 0) 26)) (shlN (W.getD 2 0) 52)) (littleN ((key.drop 16).take (24 - 16))) 0 (by decide) q3) ?_
      rintro _ q ⟨rfl, hq⟩
      rw [hq]
      clear hq q
      repeat with_reducible first | refine nx ?_ | (refine nv ?_; simp (disch := first | omega | decide) only [bG]; refine rg ?_)
      refine plan_nil (by simp (disch := first | omega | decide) only [endOk, chkAt, addNew, newOk, rangeOk, distinctN, Nat.reduceLT, Nat.reduceAdd, Nat.reduceLeDiff, bP, bG, f9, a0, a1, a2]) ?_
      rw [tagEnd] at hL
      have h1 : orN (orN (W.getD 0 0) (shlN (W.getD 1 0) 26)) (shlN (W.getD 2 0) 52) < 18446744073709551616 := Nat.mod_lt _ (by decide)
      generalize orN (orN (W.getD 0 0) (shlN (W.getD 1 0) 26)) (shlN (W.getD 2 0) 52) = LO at h1 hL ⊢
      have h2 : (LO + littleN ((key.drop 16).take (24 - 16)) + 0) / 18446744073709551616 ≤ 1 := by
        have : littleN ((key.drop 16).take (24 - 16)) < 18446744073709551616 := z16
        omega
      generalize LO + littleN ((key.drop 16).take (24 - 16)) + 0 = SA at h2 hL ⊢
      repeat with_reducible first | refine nx ?_ | (refine nv ?_; simp (disch := first | omega | decide) only [bG, f0, f9]; refine rg ?_)
      refine callPl_ex (little_call (key.drop 24) (drop_lt hk 24) (by omega) (by omega) q3) ?_
      rintro _ q ⟨rfl, hq⟩
      rw [hq]
      clear hq q
      repeat with_reducible first | refine nx ?_ | (refine nv ?_; simp (disch := first | omega | decide) only [bG, f0, f9, a2, a3, a4, b12, b14, b40, wrap_u64m]; refine rg ?_)
      refine callPl_ex (add64_call (orN (orN (W.getD 2 0 >>> 12) (shlN (W.getD 3 0) 14)) (shlN (W.getD 4 0) 40)) (littleN (key.drop 24)) (SA / 18446744073709551616) h2 q3) ?_
      rintro _ q ⟨rfl, hq⟩
      rw [hq]
      clear hq q
      repeat with_reducible first | refine nx ?_ | (refine nv ?_; simp (disch := first | omega | decide) only [bG]; refine rg ?_)
      refine plan_nil (by simp (disch := first | omega | decide) only [endOk, chkAt, addNew, newOk, rangeOk, distinctN, Nat.reduceLT, Nat.reduceAdd, Nat.reduceLeDiff, bP, bG, f9, a2, a3, a4, b12]) ?_
      generalize orN (orN (W.getD 2 0 >>> 12) (shlN (W.getD 3 0) 14)) (shlN (W.getD 4 0) 40) + littleN (key.drop 24) + SA / 18446744073709551616 = SB at hL ⊢
      repeat with_reducible first | refine nx ?_ | (refine nv ?_; simp (disch := first | omega | decide) only [bG]; refine rg ?_)
      refine callGo_ex (putLittle_call (SA % 18446744073709551616) 8 (Nat.mod_lt _ (by decide)) (by decide) (by decide) q3) ?_
      rintro _ q4 ⟨rfl, x4⟩
      repeat with_reducible first | refine nx ?_ | (refine nv ?_; simp (disch := first | omega | decide) only [bG]; refine rg ?_)
      refine callGo_ex (putLittle_call (SB % 18446744073709551616) 8 (Nat.mod_lt _ (by decide)) (by decide) (by decide) q4) ?_
      rintro _ q5 ⟨rfl, x5⟩
      have p1 := putLittle_len (SA % 18446744073709551616) 8
      have p2 := putLittle_len (SB % 18446744073709551616) 8
      repeat with_reducible first | refine nx ?_ | (refine nv ?_; simp (disch := first | omega | decide) only [bG]; refine rg ?_)
      refine ret_nil.2 ⟨_, fin_tmps (l := [4, 5]) (.inr rfl), ?_, (hx3.trans x4).trans x5⟩
      simp only [List.map]
      simp (disch := first | omega | decide) only [bG]
      rw [hL]
      rfl
  · refine ⟨0, rfl, by omega, ?_, ?_, ?_, ?_, ?_, ?_, ?_, ?_⟩
    · exact (((x1.trans x2).new _).set (m := k2.next) (by omega) _).new _
    · simp only [XH.next_set, XH.next_new]; omega
    · simp only [XH.get_set, XH.get_new, XH.next_set, XH.next_new]
      rw [if_neg (by omega), if_true]
    · simp only [XH.get_set, XH.get_new, XH.next_set, XH.next_new]
      rw [if_true]; rfl
    · simp (disch := first | omega | decide) only [bG]
    · simp (disch := first | omega | decide) only [bG]
      rw [Nat.mul_zero, List.drop_zero]
    · simp (disch := first | omega | decide) only [bG]
    · simp (disch := first | omega | decide) only [bG]
end Go.Proofs.XCode
end
section
namespace Go.X
noncomputable section
def forceK {α : Type} (n : Nat) (k : Nat → α) : α := Nat.rec (k 0) (fun m _ => k (Nat.succ m)) n
def forceL {α : Type} (l : List Nat) : (List Nat → α) → α := List.rec (fun k => k []) (fun a _ ih k => forceK a fun a' => ih fun l' => k (a' :: l')) l
def rolK (x n : Nat) : Nat := Nat.lor (Nat.mod (Nat.shiftLeft x n) 4294967296) (Nat.shiftRight x (Nat.sub 32 n))
def qF {α : Type} (a b c d : Nat) (k : Nat → Nat → Nat → Nat → α) : α :=
  forceK (add32 a b) fun a => forceK (rolK (Nat.xor d a) 16) fun d => forceK (add32 c d) fun c => forceK (rolK (Nat.xor b c) 12) fun b =>
  forceK (add32 a b) fun a => forceK (rolK (Nat.xor d a) 8) fun d => forceK (add32 c d) fun c => forceK (rolK (Nat.xor b c) 7) fun b => k a b c d
def dblF {α : Type} (X : List Nat) (k : List Nat → α) : α := match X with
  | [x0, x1, x2, x3, x4, x5, x6, x7, x8, x9, x10, x11, x12, x13, x14, x15] =>
    qF x0 x4 x8 x12 fun x0 x4 x8 x12 => qF x1 x5 x9 x13 fun x1 x5 x9 x13 => qF x2 x6 x10 x14 fun x2 x6 x10 x14 => qF x3 x7 x11 x15 fun x3 x7 x11 x15 =>
    qF x0 x5 x10 x15 fun x0 x5 x10 x15 => qF x1 x6 x11 x12 fun x1 x6 x11 x12 => qF x2 x7 x8 x13 fun x2 x7 x8 x13 => qF x3 x4 x9 x14 fun x3 x4 x9 x14 =>
    k [x0, x1, x2, x3, x4, x5, x6, x7, x8, x9, x10, x11, x12, x13, x14, x15]
  | _ => k X
def itF {α : Type} (n : Nat) : List Nat → (List Nat → α) → α := Nat.rec (fun X k => k X) (fun _ ih X k => dblF X fun Y => ih Y k) n
def leW : List Nat → Nat := List.rec 0 (fun c _ ih => Nat.add (Nat.mul ih 256) c)
def wordsLE : List Nat → List Nat
  | a :: b :: c :: d :: r => leW [a, b, c, d] :: wordsLE r
  | _ => []
def le4 (w : Nat) : List Nat := [Nat.mod w 256, Nat.mod (Nat.shiftRight w 8) 256, Nat.mod (Nat.shiftRight w 16) 256, Nat.mod (Nat.shiftRight w 24) 256]
def outW : List Nat → List Nat → List Nat
  | x :: xs, f :: fs => forceK (add32 x f) fun w => appX (le4 w) (outW xs fs)
  | _, _ => []
def sigB : List Nat := [101, 120, 112, 97, 110, 100, 32, 51, 50, 45, 98, 121, 116, 101, 32, 107]
def blockK (key : List Nat) (ctr : Nat) (nonce : List Nat) : List Nat :=
  forceL (wordsLE (appX sigB (appX key (appX (le4 ctr) nonce)))) fun F => itF 10 F fun X => forceL (outW X F) fun r => r
def xorK (a b : List Nat) : List Nat := forceL (List.zipWith Nat.xor a b) fun r => r
def lowK (x : Nat) : Nat := Nat.mod x 18446744073709551616
def maskK (x : Nat) : Nat := Nat.land x 67108863
def orK (x y : Nat) : Nat := Nat.mod (Nat.lor (Nat.mod x 18446744073709551616) (Nat.mod y 18446744073709551616)) 18446744073709551616
def shlK (x n : Nat) : Nat := lowK (Nat.shiftLeft x n)
def splitK {α : Type} (low high top : Nat) (k : List Nat → α) : α :=
  forceK (maskK low) fun a => forceK (maskK (Nat.shiftRight low 26)) fun b => forceK (maskK (orK (Nat.shiftRight low 52) (shlK high 12))) fun c => forceK (maskK (Nat.shiftRight high 14)) fun d => forceK (orK (Nat.shiftRight high 40) (shlK top 24)) fun e => k [a, b, c, d, e]
def carK {α : Type} (x : List Nat) (k : List Nat → α) : α := match x with
  | [a, b, c, d, e] =>
    forceK (lowK a) fun v0 => forceK (lowK (Nat.add b (Nat.shiftRight v0 26))) fun v1 => forceK (lowK (Nat.add c (Nat.shiftRight v1 26))) fun v2 => forceK (lowK (Nat.add d (Nat.shiftRight v2 26))) fun v3 => forceK (lowK (Nat.add e (Nat.shiftRight v3 26))) fun v4 =>
    forceL [lowK (Nat.add (maskK v0) (lowK (Nat.mul (Nat.shiftRight v4 26) 5))), maskK v1, maskK v2, maskK v3, maskK v4] k
  | _ => k x
def car3K {α : Type} (x : List Nat) (k : List Nat → α) : α := carK x fun x => carK x fun x => carK x k
def pK (T x y : Nat) : Nat := lowK (Nat.add T (lowK (Nat.mul x y)))
def qK (T x y : Nat) : Nat := lowK (Nat.add T (lowK (Nat.mul (lowK (Nat.mul x y)) 5)))
def mulK {α : Type} (x y : List Nat) (k : List Nat → α) : α := match x, y with
  | [x0, x1, x2, x3, x4], [y0, y1, y2, y3, y4] =>
    forceL [qK (qK (qK (qK (pK 0 x0 y0) x1 y4) x2 y3) x3 y2) x4 y1, qK (qK (qK (pK (pK 0 x0 y1) x1 y0) x2 y4) x3 y3) x4 y2, qK (qK (pK (pK (pK 0 x0 y2) x1 y1) x2 y0) x3 y4) x4 y3, qK (pK (pK (pK (pK 0 x0 y3) x1 y2) x2 y1) x3 y0) x4 y4, pK (pK (pK (pK (pK 0 x0 y4) x1 y3) x2 y2) x3 y1) x4 y0] k
  | _, _ => k []
def addK {α : Type} (x y : List Nat) (k : List Nat → α) : α := match x, y with
  | [x0, x1, x2, x3, x4], [y0, y1, y2, y3, y4] => forceL [lowK (Nat.add x0 y0), lowK (Nat.add x1 y1), lowK (Nat.add x2 y2), lowK (Nat.add x3 y3), lowK (Nat.add x4 y4)] k
  | _, _ => k []
def pieceK (w : List Nat) : List Nat := takeX 17 (appX (takeX 16 w) (1 :: List.replicate 16 0))
def goK {α : Type} (r : List Nat) (n : Nat) : List Nat → List Nat → (List Nat → α) → α :=
  Nat.rec (fun acc _ k => k acc) (fun _ ih acc m k =>
    forceK (leW (takeX 8 (pieceK m))) fun lo => forceK (leW (takeX 8 (dropX 8 (pieceK m)))) fun hi => forceK (leW (dropX 16 (pieceK m))) fun top =>
    splitK lo hi top fun b => addK acc b fun s => mulK s r fun t => car3K t fun t => ih t (dropX 16 m) k) n
def wholeK {α : Type} (x : List Nat) (k : List Nat → α) : α := car3K x fun x => match x with
  | [a, b, c, d, e] =>
    forceK (lowK (Nat.add a 5)) fun v0 => forceK (lowK (Nat.add b (Nat.shiftRight v0 26))) fun v1 => forceK (lowK (Nat.add c (Nat.shiftRight v1 26))) fun v2 => forceK (lowK (Nat.add d (Nat.shiftRight v2 26))) fun v3 => forceK (lowK (Nat.add e (Nat.shiftRight v3 26))) fun v4 =>
    bif Nat.ble 1 (Nat.shiftRight v4 26) then forceL [maskK v0, maskK v1, maskK v2, maskK v3, maskK v4] k else k x
  | _ => k x
def clampK (key : List Nat) : List Nat := match takeX 16 key with
  | [a, b, c, d, e, f, g, h, i, j, l, m, n, o, p, q] => [a, b, c, Nat.land (Nat.mod d 256) 15, Nat.land (Nat.mod e 256) 252, f, g, Nat.land (Nat.mod h 256) 15, Nat.land (Nat.mod i 256) 252, j, l, Nat.land (Nat.mod m 256) 15, Nat.land (Nat.mod n 256) 252, o, p, Nat.land (Nat.mod q 256) 15]
  | l => l
def le8 (w : Nat) : List Nat := [Nat.mod w 256, Nat.mod (Nat.shiftRight w 8) 256, Nat.mod (Nat.shiftRight w 16) 256, Nat.mod (Nat.shiftRight w 24) 256, Nat.mod (Nat.shiftRight w 32) 256, Nat.mod (Nat.shiftRight w 40) 256, Nat.mod (Nat.shiftRight w 48) 256, Nat.mod (Nat.shiftRight w 56) 256]
def endK (key w : List Nat) : List Nat := match w with
  | [a, b, c, d, e] =>
    forceK (Nat.add (orK (orK a (shlK b 26)) (shlK c 52)) (leW (takeX 8 (dropX 16 key)))) fun s =>
    forceK (Nat.add (Nat.add (orK (orK (Nat.shiftRight c 12) (shlK d 14)) (shlK e 40)) (leW (dropX 24 key))) (Nat.div s 18446744073709551616)) fun t =>
    forceL (appX (le8 (lowK s)) (le8 (lowK t))) fun r => r
  | _ => []
def tagK (key m : List Nat) : List Nat :=
  forceL (clampK key) fun c => forceK (leW (takeX 8 c)) fun lo => forceK (leW (dropX 8 c)) fun hi => splitK lo hi 0 fun r =>
  goK r (Nat.div (Nat.add (lenX m) 15) 16) [0, 0, 0, 0, 0] m fun a => wholeK a fun w => endK key w
def schedK {α : Type} (n : Nat) : List Nat → (List Nat → α) → α := Nat.rec (fun w k => k w) (fun _ ih w k => match w with
  | w1 :: w2 :: w3 :: w4 :: w5 :: w6 :: w7 :: w8 :: w9 :: w10 :: w11 :: w12 :: w13 :: w14 :: w15 :: w16 :: r =>
    forceK (Nat.mod (Nat.add (Nat.add (Nat.add w16 (sg0 w15)) w7) (sg1 w2)) 4294967296) fun v => ih (v :: w1 :: w2 :: w3 :: w4 :: w5 :: w6 :: w7 :: w8 :: w9 :: w10 :: w11 :: w12 :: w13 :: w14 :: w15 :: w16 :: r) k
  | w => k w) n
def roundsK {α : Type} : List Nat → List Nat → S8 → (S8 → α) → α
  | kk :: ks, w :: ws, ⟨a, b, c, d, e, f, g, h⟩, k =>
    forceK (Nat.add (Nat.add (Nat.add (Nat.add h (bg1 e)) (chh e f g)) kk) w) fun t1 =>
    forceK (Nat.mod (Nat.add t1 (Nat.add (bg0 a) (maj a b c))) 4294967296) fun x => forceK (Nat.mod (Nat.add d t1) 4294967296) fun y => roundsK ks ws ⟨x, a, b, c, y, e, f, g⟩ k
  | _, _, s, k => k s
def revA : List Nat → List Nat → List Nat := List.rec (fun a => a) (fun x _ ih a => ih (x :: a))
def mixK {α : Type} (s : S8) (blk : List Nat) (k : S8 → α) : α :=
  forceL (word4 blk) fun w => schedK 48 (revA w []) fun w => roundsK kWords (revA w []) s fun s' =>
  match s, s' with
  | ⟨a, b, c, d, e, f, g, h⟩, ⟨a', b', c', d', e', f', g', h'⟩ =>
    forceK (add32 a a') fun a => forceK (add32 b b') fun b => forceK (add32 c c') fun c => forceK (add32 d d') fun d => forceK (add32 e e') fun e => forceK (add32 f f') fun f => forceK (add32 g g') fun g => forceK (add32 h h') fun h => k ⟨a, b, c, d, e, f, g, h⟩
def mixAK {α : Type} (n : Nat) : S8 → List Nat → (S8 → α) → α := Nat.rec (fun s _ k => k s) (fun _ ih s b k => mixK s (takeX 64 b) fun s => ih s (dropX 64 b) k) n
def be8K (w : Nat) : List Nat := [Nat.mod (Nat.shiftRight w 56) 256, Nat.mod (Nat.shiftRight w 48) 256, Nat.mod (Nat.shiftRight w 40) 256, Nat.mod (Nat.shiftRight w 32) 256, Nat.mod (Nat.shiftRight w 24) 256, Nat.mod (Nat.shiftRight w 16) 256, Nat.mod (Nat.shiftRight w 8) 256, Nat.mod w 256]
def padK (b : List Nat) : List Nat := appX b (128 :: appX (List.replicate (Nat.mod (Nat.sub 119 (Nat.mod (lenX b) 64)) 64) 0) (be8K (Nat.mul (lenX b) 8)))
def shaK (b : List Nat) : List Nat := mixAK (Nat.div (lenX (padK b)) 64) iWords (padK b) fun s => forceL (shaOut s) fun r => r
def putBigK (v n : Nat) : List Nat := forceL (Nat.rec [] (fun m ih => Nat.mod (Nat.shiftRight v (Nat.mul 8 m)) 256 :: ih) n) fun r => r
end
end Go.X
end
section
namespace Go.Proofs.XCode.Fast
open Go.X Go.Proofs.XCode
set_option linter.unusedSimpArgs false
theorem forceK_eq {α : Type} (n : Nat) (k : Nat → α) : forceK n k = k n := by cases n <;> rfl
theorem forceL_eq {α : Type} : ∀ (l : List Nat) (k : List Nat → α), forceL l k = k l
  | [], _ => rfl
  | a :: l, k => by
    show forceK a (fun a' => forceL l fun l' => k (a' :: l')) = _
    rw [forceK_eq, forceL_eq l]
theorem qF_eq {α : Type} (a b c d : Nat) (k : Nat → Nat → Nat → Nat → α) : qF a b c d k = k (quarter a b c d).a (quarter a b c d).b (quarter a b c d).c (quarter a b c d).d := by
  simp only [qF, forceK_eq]; rfl
theorem list16 {l : List Nat} (h : l.length = 16) : ∃ x0 x1 x2 x3 x4 x5 x6 x7 x8 x9 x10 x11 x12 x13 x14 x15, l = [x0, x1, x2, x3, x4, x5, x6, x7, x8, x9, x10, x11, x12, x13, x14, x15] := by
  match l, h with
  | [x0, x1, x2, x3, x4, x5, x6, x7, x8, x9, x10, x11, x12, x13, x14, x15], _ => exact ⟨x0, x1, x2, x3, x4, x5, x6, x7, x8, x9, x10, x11, x12, x13, x14, x15, rfl⟩
theorem qstep_len (X : List Nat) (j : Nat) : (qstep X j).length = X.length := by simp [qstep]
theorem qsteps_len (X : List Nat) : ∀ j, (qsteps X j).length = X.length
  | 0 => rfl
  | j + 1 => by rw [qsteps, qstep_len, qsteps_len X j]
theorem qstep_0 (x0 x1 x2 x3 x4 x5 x6 x7 x8 x9 x10 x11 x12 x13 x14 x15 : Nat) : qstep [x0, x1, x2, x3, x4, x5, x6, x7, x8, x9, x10, x11, x12, x13, x14, x15] 0 = [(quarter x0 x4 x8 x12).a, x1, x2, x3, (quarter x0 x4 x8 x12).b, x5, x6, x7, (quarter x0 x4 x8 x12).c, x9, x10, x11, (quarter x0 x4 x8 x12).d, x13, x14, x15] := rfl
theorem qstep_1 (x0 x1 x2 x3 x4 x5 x6 x7 x8 x9 x10 x11 x12 x13 x14 x15 : Nat) : qstep [x0, x1, x2, x3, x4, x5, x6, x7, x8, x9, x10, x11, x12, x13, x14, x15] 1 = [x0, (quarter x1 x5 x9 x13).a, x2, x3, x4, (quarter x1 x5 x9 x13).b, x6, x7, x8, (quarter x1 x5 x9 x13).c, x10, x11, x12, (quarter x1 x5 x9 x13).d, x14, x15] := rfl
theorem qstep_2 (x0 x1 x2 x3 x4 x5 x6 x7 x8 x9 x10 x11 x12 x13 x14 x15 : Nat) : qstep [x0, x1, x2, x3, x4, x5, x6, x7, x8, x9, x10, x11, x12, x13, x14, x15] 2 = [x0, x1, (quarter x2 x6 x10 x14).a, x3, x4, x5, (quarter x2 x6 x10 x14).b, x7, x8, x9, (quarter x2 x6 x10 x14).c, x11, x12, x13, (quarter x2 x6 x10 x14).d, x15] := rfl
theorem qstep_3 (x0 x1 x2 x3 x4 x5 x6 x7 x8 x9 x10 x11 x12 x13 x14 x15 : Nat) : qstep [x0, x1, x2, x3, x4, x5, x6, x7, x8, x9, x10, x11, x12, x13, x14, x15] 3 = [x0, x1, x2, (quarter x3 x7 x11 x15).a, x4, x5, x6, (quarter x3 x7 x11 x15).b, x8, x9, x10, (quarter x3 x7 x11 x15).c, x12, x13, x14, (quarter x3 x7 x11 x15).d] := rfl
theorem qstep_4 (x0 x1 x2 x3 x4 x5 x6 x7 x8 x9 x10 x11 x12 x13 x14 x15 : Nat) : qstep [x0, x1, x2, x3, x4, x5, x6, x7, x8, x9, x10, x11, x12, x13, x14, x15] 4 = [(quarter x0 x5 x10 x15).a, x1, x2, x3, x4, (quarter x0 x5 x10 x15).b, x6, x7, x8, x9, (quarter x0 x5 x10 x15).c, x11, x12, x13, x14, (quarter x0 x5 x10 x15).d] := rfl
theorem qstep_5 (x0 x1 x2 x3 x4 x5 x6 x7 x8 x9 x10 x11 x12 x13 x14 x15 : Nat) : qstep [x0, x1, x2, x3, x4, x5, x6, x7, x8, x9, x10, x11, x12, x13, x14, x15] 5 = [x0, (quarter x1 x6 x11 x12).a, x2, x3, x4, x5, (quarter x1 x6 x11 x12).b, x7, x8, x9, x10, (quarter x1 x6 x11 x12).c, (quarter x1 x6 x11 x12).d, x13, x14, x15] := rfl
theorem qstep_6 (x0 x1 x2 x3 x4 x5 x6 x7 x8 x9 x10 x11 x12 x13 x14 x15 : Nat) : qstep [x0, x1, x2, x3, x4, x5, x6, x7, x8, x9, x10, x11, x12, x13, x14, x15] 6 = [x0, x1, (quarter x2 x7 x8 x13).a, x3, x4, x5, x6, (quarter x2 x7 x8 x13).b, (quarter x2 x7 x8 x13).c, x9, x10, x11, x12, (quarter x2 x7 x8 x13).d, x14, x15] := rfl
theorem qstep_7 (x0 x1 x2 x3 x4 x5 x6 x7 x8 x9 x10 x11 x12 x13 x14 x15 : Nat) : qstep [x0, x1, x2, x3, x4, x5, x6, x7, x8, x9, x10, x11, x12, x13, x14, x15] 7 = [x0, x1, x2, (quarter x3 x4 x9 x14).a, (quarter x3 x4 x9 x14).b, x5, x6, x7, x8, (quarter x3 x4 x9 x14).c, x10, x11, x12, x13, (quarter x3 x4 x9 x14).d, x15] := rfl
theorem dblF_eq {α : Type} {X : List Nat} (h : X.length = 16) (k : List Nat → α) : dblF X k = k (qsteps X 8) := by
  obtain ⟨x0, x1, x2, x3, x4, x5, x6, x7, x8, x9, x10, x11, x12, x13, x14, x15, rfl⟩ := list16 h
  simp only [dblF, qF_eq, qsteps, qstep_0, qstep_1, qstep_2, qstep_3, qstep_4, qstep_5, qstep_6, qstep_7]
theorem rnds_succ (X : List Nat) : ∀ n, rnds X (n + 1) = rnds (qsteps X 8) n
  | 0 => by simp only [rnds]
  | n + 1 => by rw [rnds, rnds_succ X n, rnds]
theorem itF_succ {α : Type} (n : Nat) (X : List Nat) (k : List Nat → α) : itF (n + 1) X k = dblF X (fun Y => itF n Y k) := by unfold itF; rfl
theorem itF_eq {α : Type} : ∀ (n : Nat) {X : List Nat} (_ : X.length = 16) (k : List Nat → α), itF n X k = k (rnds X n) := by
  intro n
  induction n with
  | zero => intro X _ k; rfl
  | succ n ih =>
    intro X h k
    rw [itF_succ, dblF_eq h, ih (by rw [qsteps_len, h]), rnds_succ]
theorem rnds_len (X : List Nat) : ∀ n, (rnds X n).length = X.length
  | 0 => rfl
  | n + 1 => by rw [rnds, qsteps_len, rnds_len X n]
theorem le4_eq (w : Nat) : le4 w = putLittle w 4 := rfl
theorem add32_eq (x y : Nat) : add32 x y = (x + y) % 4294967296 := rfl
theorem outW_eq {X F : List Nat} (h : X.length = 16) (h' : F.length = 16) : outW X F = outB X F 16 := by
  obtain ⟨x0, x1, x2, x3, x4, x5, x6, x7, x8, x9, x10, x11, x12, x13, x14, x15, rfl⟩ := list16 h
  obtain ⟨y0, y1, y2, y3, y4, y5, y6, y7, y8, y9, y10, y11, y12, y13, y14, y15, rfl⟩ := list16 h'
  simp only [outW, forceK_eq, appX_eq, le4_eq, add32_eq, outB, List.getD_cons_zero, List.getD_cons_succ, List.nil_append, List.append_assoc, List.append_nil]
theorem split16 {l : List Nat} {n : Nat} (h : l.length = 16 + n) : ∃ x0 x1 x2 x3 x4 x5 x6 x7 x8 x9 x10 x11 x12 x13 x14 x15 r, l = x0 :: x1 :: x2 :: x3 :: x4 :: x5 :: x6 :: x7 :: x8 :: x9 :: x10 :: x11 :: x12 :: x13 :: x14 :: x15 :: r ∧ r.length = n := by
  have h1 : (l.take 16).length = 16 := by rw [List.length_take]; omega
  obtain ⟨x0, x1, x2, x3, x4, x5, x6, x7, x8, x9, x10, x11, x12, x13, x14, x15, e⟩ := list16 h1
  refine ⟨x0, x1, x2, x3, x4, x5, x6, x7, x8, x9, x10, x11, x12, x13, x14, x15, l.drop 16, ?_, by rw [List.length_drop]; omega⟩
  have := List.take_append_drop 16 l
  rw [e] at this
  simpa using this.symm
theorem iniN_len (l : List Nat) : ∀ n, (iniN l n).length = 16
  | 0 => rfl
  | n + 1 => by rw [iniN, List.length_set, iniN_len l n]
theorem leW_eq : ∀ l, leW l = littleN l
  | [] => rfl
  | a :: l => by
    show leW l * 256 + a = _
    rw [leW_eq l]; rfl
theorem ini_eq {l : List Nat} (h : l.length = 64) : wordsLE l = iniN l 16 := by
  obtain ⟨x0, x1, x2, x3, x4, x5, x6, x7, x8, x9, x10, x11, x12, x13, x14, x15, r, rfl, h⟩ := split16 (n := 48) h
  obtain ⟨y0, y1, y2, y3, y4, y5, y6, y7, y8, y9, y10, y11, y12, y13, y14, y15, r, rfl, h⟩ := split16 (n := 32) (by simpa using h)
  obtain ⟨z0, z1, z2, z3, z4, z5, z6, z7, z8, z9, z10, z11, z12, z13, z14, z15, r, rfl, h⟩ := split16 (n := 16) (by simpa using h)
  obtain ⟨w0, w1, w2, w3, w4, w5, w6, w7, w8, w9, w10, w11, w12, w13, w14, w15, rfl⟩ := list16 (by simpa using h)
  rfl
theorem putLittle_len (v n : Nat) : (putLittle v n).length = n := by
  unfold putLittle
  suffices ∀ i, (plN v n i).length = n from this n
  intro i
  induction i with
  | zero => simp [plN]
  | succ i ih => rw [plN, List.length_set, ih]
theorem blockK_eq {key nonce : List Nat} (ctr : Nat) (hk : key.length = 32) (hn : nonce.length = 12) : blockK key ctr nonce = blockL key ctr nonce := by
  have h : appX sigB (appX key (appX (le4 ctr) nonce)) = blockAll key ctr nonce := by
    have : le4 ctr = putLittle ctr 4 := rfl
    simp only [appX_eq, blockAll, sigB, this, List.append_assoc]
  have hl : (blockAll key ctr nonce).length = 64 := by simp [blockAll, hk, hn, putLittle_len]
  unfold blockK
  rw [h, ini_eq hl, forceL_eq, itF_eq 10 (iniN_len _ _), forceL_eq, outW_eq (by rw [rnds_len, iniN_len]) (iniN_len _ _)]
  rfl
theorem xorK_eq (a b : List Nat) : xorK a b = xorL a b := by unfold xorK; rw [forceL_eq]; rfl
theorem putBigK_eq {v n : Nat} (h : n ≤ 8) : putBigK v n = putBig v n := by
  unfold putBigK
  rw [forceL_eq]
  match n, h with
  | 0, _ => rfl
  | 1, _ => rfl
  | 2, _ => rfl
  | 3, _ => rfl
  | 4, _ => rfl
  | 5, _ => rfl
  | 6, _ => rfl
  | 7, _ => rfl
  | 8, _ => rfl
end Go.Proofs.XCode.Fast
end
section
namespace Go.Proofs.XCode.Fast
open Go.X Go.Proofs.XCode
set_option linter.unusedSimpArgs false
theorem list5 {l : List Nat} (h : l.length = 5) : ∃ a b c d e, l = [a, b, c, d, e] := by
  match l, h with
  | [a, b, c, d, e], _ => exact ⟨a, b, c, d, e, rfl⟩
theorem maskK_eq (x : Nat) : maskK x = maskN x := by
  unfold maskK maskN
  show x &&& 67108863 = _
  rw [show (67108863 : Nat) % 18446744073709551616 = 67108863 from rfl, show (67108863 : Nat) = 2 ^ 26 - 1 from rfl, Nat.and_two_pow_sub_one_eq_mod, Nat.and_two_pow_sub_one_eq_mod]
  omega
theorem orK_eq (x y : Nat) : orK x y = orN x y := rfl
theorem shlK_eq (x n : Nat) : shlK x n = shlN x n := rfl
theorem splitK_eq {α : Type} (lo hi top : Nat) (k : List Nat → α) : splitK lo hi top k = k (splitL lo hi top) := by
  simp only [splitK, forceK_eq, maskK_eq, orK_eq, shlK_eq]
  rfl
theorem carK_eq {α : Type} {x : List Nat} (h : x.length = 5) (k : List Nat → α) : carK x k = k (carry1 x) := by
  obtain ⟨a, b, c, d, e, rfl⟩ := list5 h
  simp only [carK, forceK_eq, forceL_eq, maskK_eq]
  rfl
theorem carry1_len' (x : List Nat) (h : x.length = 5) : (carry1 x).length = 5 := by
  obtain ⟨a, b, c, d, e, rfl⟩ := list5 h
  rfl
theorem carryF_len' (x : List Nat) (h : x.length = 5) : ∀ n, (carryF x n).length = 5
  | 0 => h
  | n + 1 => by rw [carryF]; exact carry1_len' _ (carryF_len' x h n)
theorem car3K_eq {α : Type} {x : List Nat} (h : x.length = 5) (k : List Nat → α) : car3K x k = k (carryF x 3) := by
  unfold car3K
  rw [carK_eq h, carK_eq (carry1_len' _ h), carK_eq (carry1_len' _ (carry1_len' _ h))]
  rfl
theorem tin_0 (x0 x1 x2 x3 x4 y0 y1 y2 y3 y4 t0 t1 t2 t3 t4 : Nat) : tin [x0, x1, x2, x3, x4] [y0, y1, y2, y3, y4] 0 [t0, t1, t2, t3, t4] 5 = [(qK (qK (qK (qK (pK t0 x0 y0) x1 y4) x2 y3) x3 y2) x4 y1), t1, t2, t3, t4] := rfl
theorem tin_1 (x0 x1 x2 x3 x4 y0 y1 y2 y3 y4 t0 t1 t2 t3 t4 : Nat) : tin [x0, x1, x2, x3, x4] [y0, y1, y2, y3, y4] 1 [t0, t1, t2, t3, t4] 5 = [t0, (qK (qK (qK (pK (pK t1 x0 y1) x1 y0) x2 y4) x3 y3) x4 y2), t2, t3, t4] := rfl
theorem tin_2 (x0 x1 x2 x3 x4 y0 y1 y2 y3 y4 t0 t1 t2 t3 t4 : Nat) : tin [x0, x1, x2, x3, x4] [y0, y1, y2, y3, y4] 2 [t0, t1, t2, t3, t4] 5 = [t0, t1, (qK (qK (pK (pK (pK t2 x0 y2) x1 y1) x2 y0) x3 y4) x4 y3), t3, t4] := rfl
theorem tin_3 (x0 x1 x2 x3 x4 y0 y1 y2 y3 y4 t0 t1 t2 t3 t4 : Nat) : tin [x0, x1, x2, x3, x4] [y0, y1, y2, y3, y4] 3 [t0, t1, t2, t3, t4] 5 = [t0, t1, t2, (qK (pK (pK (pK (pK t3 x0 y3) x1 y2) x2 y1) x3 y0) x4 y4), t4] := rfl
theorem tin_4 (x0 x1 x2 x3 x4 y0 y1 y2 y3 y4 t0 t1 t2 t3 t4 : Nat) : tin [x0, x1, x2, x3, x4] [y0, y1, y2, y3, y4] 4 [t0, t1, t2, t3, t4] 5 = [t0, t1, t2, t3, (pK (pK (pK (pK (pK t4 x0 y4) x1 y3) x2 y2) x3 y1) x4 y0)] := rfl
theorem mulK_eq {α : Type} {x y : List Nat} (h : x.length = 5) (h' : y.length = 5) (k : List Nat → α) : mulK x y k = k (tout x y 5) := by
  obtain ⟨a, b, c, d, e, rfl⟩ := list5 h
  obtain ⟨a', b', c', d', e', rfl⟩ := list5 h'
  simp only [mulK, forceL_eq, tout, List.replicate, tin_0, tin_1, tin_2, tin_3, tin_4]
theorem addK_eq {α : Type} {x y : List Nat} (h : x.length = 5) (h' : y.length = 5) (k : List Nat → α) : addK x y k = k (plusF x y 5) := by
  obtain ⟨a, b, c, d, e, rfl⟩ := list5 h
  obtain ⟨a', b', c', d', e', rfl⟩ := list5 h'
  simp only [addK, forceL_eq]
  rfl
theorem tout_len' (x y : List Nat) : (tout x y 5).length = 5 := by
  suffices ∀ i, (tout x y i).length = 5 from this 5
  have ts : ∀ i j T, (tstep x y i j T).length = T.length := fun i j T => by unfold tstep; split <;> simp
  have ti : ∀ i T j, (tin x y i T j).length = T.length := fun i T j => by
    induction j with
    | zero => rfl
    | succ j ih => rw [tin, ts, ih]
  intro i
  induction i with
  | zero => rfl
  | succ i ih => rw [tout, ti, ih]
theorem plusF_len' (x y : List Nat) : ∀ n, (plusF x y n).length = x.length
  | 0 => rfl
  | n + 1 => by rw [plusF, List.length_set, plusF_len' x y n]
theorem piece_eq (w : List Nat) : pieceK w = pad17 (min w.length 16) w := by
  unfold pieceK pad17
  simp only [appX_eq, takeX_eq]
  have h1 : w.take (min w.length 16) = w.take 16 := by
    rcases Nat.le_total w.length 16 with h | h
    · rw [Nat.min_eq_left h, List.take_of_length_le (Nat.le_refl _), List.take_of_length_le h]
    · rw [Nat.min_eq_right h]
  have h2 : (w.take 16).length = min w.length 16 := by rw [List.length_take, Nat.min_comm]
  rw [h1, ← h2]
  generalize hu : w.take 16 = u
  have hl : u.length ≤ 16 := by rw [← hu, List.length_take]; omega
  rw [List.set_append, if_neg (by omega), Nat.sub_self, List.drop_replicate]
  obtain ⟨m, hm⟩ : ∃ m, 17 - u.length = m + 1 := ⟨16 - u.length, by omega⟩
  rw [hm, show (List.replicate (m + 1) 0).set 0 1 = 1 :: List.replicate m 0 from rfl, List.take_append, List.take_of_length_le (by omega), hm, List.take_succ_cons, List.take_replicate]
  congr 3
  omega
theorem pad17_len (w : List Nat) : (pad17 (min w.length 16) w).length = 17 := by
  rw [← piece_eq]
  unfold pieceK
  simp only [appX_eq, takeX_eq, List.length_take, List.length_append, List.length_cons, List.length_replicate]
  omega
theorem pad17_top (w : List Nat) : (pad17 (min w.length 16) w).getD 16 0 ≤ 1 := by
  rw [← piece_eq]
  unfold pieceK
  simp only [appX_eq, takeX_eq]
  have hl : (w.take 16).length ≤ 16 := by rw [List.length_take]; omega
  rw [List.getD_eq_getElem?_getD, List.getElem?_take, if_pos (by omega), List.getElem?_append, if_neg (by omega)]
  cases 16 - (w.take 16).length with
  | zero => simp
  | succ n => rw [List.getElem?_cons_succ, List.getElem?_replicate]; split <;> simp
theorem limbsK_eq {α : Type} (w : List Nat) (k : List Nat → α) : splitK (leW (takeX 8 (pieceK w))) (leW (takeX 8 (dropX 8 (pieceK w)))) (leW (dropX 16 (pieceK w))) k = k (limbsL (pad17 (min w.length 16) w)) := by
  rw [splitK_eq, piece_eq, limbsL]
  have hl := pad17_len w
  have ht := pad17_top w
  generalize pad17 (min w.length 16) w = d at *
  simp only [takeX_eq, dropX_eq, leW_eq]
  obtain ⟨x0, x1, x2, x3, x4, x5, x6, x7, x8, x9, x10, x11, x12, x13, x14, x15, r, rfl, h⟩ := split16 (n := 1) hl
  match r, h with
  | [a], _ =>
    have e : ([x0, x1, x2, x3, x4, x5, x6, x7, x8, x9, x10, x11, x12, x13, x14, x15, a].getD 16 0) = a := rfl
    rw [e] at ht ⊢
    have e2 : littleN (List.drop 16 [x0, x1, x2, x3, x4, x5, x6, x7, x8, x9, x10, x11, x12, x13, x14, x15, a]) = a := by
      show (0 * 256 + a : Nat) = a
      omega
    rw [e2, Nat.mod_eq_of_lt (by omega : a < 18446744073709551616)]
def goF (r : List Nat) : Nat → List Nat → List Nat → List Nat
  | 0, acc, _ => acc
  | n + 1, acc, m => goF r n (tagStep r acc m) (m.drop 16)
theorem goF_last (r : List Nat) : ∀ n acc m, goF r (n + 1) acc m = tagStep r (goF r n acc m) (m.drop (16 * n))
  | 0, acc, m => by simp [goF]
  | n + 1, acc, m => by
    rw [goF, goF_last r n, goF, List.drop_drop]
    congr 2
    omega
theorem tagJ_go (r m : List Nat) : ∀ n, tagJ r m n = goF r n (List.replicate 5 0) m
  | 0 => rfl
  | n + 1 => by rw [goF_last, tagJ, tagJ_go r m n]
theorem splitL_len (a b c : Nat) : (splitL a b c).length = 5 := rfl
theorem tagStep_len (r acc w : List Nat) : (tagStep r acc w).length = 5 := carryF_len' _ (tout_len' _ _) 3
theorem goK_eq {α : Type} (r : List Nat) (hr : r.length = 5) : ∀ (n : Nat) (acc m : List Nat) (_ : acc.length = 5) (k : List Nat → α), goK r n acc m k = k (goF r n acc m)
  | 0, _, _, _, _ => rfl
  | n + 1, acc, m, ha, k => by
    have : goK r (n + 1) acc m k = forceK (leW (takeX 8 (pieceK m))) fun lo => forceK (leW (takeX 8 (dropX 8 (pieceK m)))) fun hi => forceK (leW (dropX 16 (pieceK m))) fun top =>
      splitK lo hi top fun b => addK acc b fun s => mulK s r fun t => car3K t fun t => goK r n t (dropX 16 m) k := rfl
    rw [this]
    simp only [forceK_eq]
    rw [limbsK_eq, addK_eq ha (show (limbsL _).length = 5 from rfl), mulK_eq (by rw [plusF_len', ha]) hr, car3K_eq (tout_len' _ _), goK_eq r hr n _ _ (carryF_len' _ (tout_len' _ _) 3), dropX_eq]
    rfl
theorem wholeK_eq {α : Type} {x : List Nat} (h : x.length = 5) (k : List Nat → α) : wholeK x k = k (wholeF x) := by
  unfold wholeK wholeF
  rw [car3K_eq h]
  have h3 := carryF_len' x h 3
  generalize carryF x 3 = y at *
  obtain ⟨a, b, c, d, e, rfl⟩ := list5 h3
  simp only [forceK_eq, forceL_eq, maskK_eq]
  have e1 : (cF [a, b, c, d, e] 5 5).2 = Nat.shiftRight (lowK (Nat.add e (Nat.shiftRight (lowK (Nat.add d (Nat.shiftRight (lowK (Nat.add c (Nat.shiftRight (lowK (Nat.add b (Nat.shiftRight (lowK (Nat.add a 5)) 26))) 26))) 26))) 26))) 26 := rfl
  rw [e1]
  generalize hv : Nat.shiftRight (lowK (Nat.add e (Nat.shiftRight (lowK (Nat.add d (Nat.shiftRight (lowK (Nat.add c (Nat.shiftRight (lowK (Nat.add b (Nat.shiftRight (lowK (Nat.add a 5)) 26))) 26))) 26))) 26))) 26 = v
  cases hb : Nat.ble 1 v with
  | true =>
    rw [if_pos (show 0 < v from Nat.le_of_ble_eq_true hb)]
    rfl
  | false =>
    rw [if_neg (fun hh : 0 < v => by rw [Nat.ble_eq_true_of_le hh] at hb; cases hb)]
    rfl
theorem wholeF_len (x : List Nat) (h : x.length = 5) : (wholeF x).length = 5 := by
  unfold wholeF
  have h3 := carryF_len' x h 3
  generalize carryF x 3 = y at *
  obtain ⟨a, b, c, d, e, rfl⟩ := list5 h3
  split <;> rfl
theorem clampK_eq {key : List Nat} (h : key.length = 32) : clampK key = clampL key := by
  obtain ⟨x0, x1, x2, x3, x4, x5, x6, x7, x8, x9, x10, x11, x12, x13, x14, x15, r, rfl, h⟩ := split16 (n := 16) h
  rfl
theorem le8_eq (w : Nat) : le8 w = putLittle w 8 := rfl
theorem endK_eq {key w : List Nat} (hk : key.length = 32) (h : w.length = 5) : endK key w = tagEnd key w := by
  obtain ⟨a, b, c, d, e, rfl⟩ := list5 h
  simp only [endK, forceK_eq, forceL_eq, appX_eq, le8_eq, takeX_eq, dropX_eq, leW_eq, orK_eq, shlK_eq]
  rfl
theorem tagK_eq {key : List Nat} (m : List Nat) (hk : key.length = 32) : tagK key m = tagL key m := by
  unfold tagK
  rw [forceL_eq, clampK_eq hk]
  simp only [forceK_eq, splitK_eq, leW_eq, takeX_eq, dropX_eq, lenX_eq]
  rw [goK_eq _ (splitL_len _ _ _) _ _ _ rfl]
  have hg : ∀ n acc m, acc.length = 5 → (goF (splitL (littleN (List.take 8 (clampL key))) (littleN (List.drop 8 (clampL key))) 0) n acc m).length = 5 := by
    intro n
    induction n with
    | zero => intro acc m h; exact h
    | succ n ih => intro acc m h; exact ih _ _ (tagStep_len _ _ _)
  rw [wholeK_eq (hg _ _ _ rfl), endK_eq hk (wholeF_len _ (hg _ _ _ rfl)), tagL, tagJ_go]
  rfl
end Go.Proofs.XCode.Fast
end
section
namespace Go.Proofs.XCode.Fast
open Go.X Go.Proofs.XCode
set_option linter.unusedSimpArgs false
theorem rotr_eq (x n : Nat) : rotr x n = ror x n := by unfold rotr ror; exact Nat.or_comm _ _
def toL : S8 → List Nat | ⟨a, b, c, d, e, f, g, h⟩ => [a, b, c, d, e, f, g, h]
def rnd8 (kk w : Nat) : S8 → S8
  | ⟨a, b, c, d, e, f, g, h⟩ =>
    ⟨Nat.mod (Nat.add (Nat.add (Nat.add (Nat.add (Nat.add h (bg1 e)) (chh e f g)) kk) w) (Nat.add (bg0 a) (maj a b c))) 4294967296, a, b, c, Nat.mod (Nat.add d (Nat.add (Nat.add (Nat.add (Nat.add h (bg1 e)) (chh e f g)) kk) w)) 4294967296, e, f, g⟩
theorem bg1_eq (x : Nat) : bg1 x = (ror x 6 ^^^ ror x 11 ^^^ ror x 25) := by simp only [bg1, rotr_eq]; rfl
theorem bg0_eq (x : Nat) : bg0 x = (ror x 2 ^^^ ror x 13 ^^^ ror x 22) := by simp only [bg0, rotr_eq]; rfl
theorem sg0_eq (x : Nat) : sg0 x = (ror x 7 ^^^ ror x 18 ^^^ x >>> 3) := by simp only [sg0, rotr_eq]; rfl
theorem sg1_eq (x : Nat) : sg1 x = (ror x 17 ^^^ ror x 19 ^^^ x >>> 10) := by simp only [sg1, rotr_eq]; rfl
theorem rnd8_eq (K W : List Nat) (s : S8) (i : Nat) : roundS K W (toL s) i = toL (rnd8 (K.getD i 0) (W.getD i 0) s) := by
  obtain ⟨a, b, c, d, e, f, g, h⟩ := s
  have hm : maj a b c = ((a &&& b) ^^^ (a &&& c) ^^^ (b &&& c)) := rfl
  have hc : chh e f g = ((e &&& f) ^^^ ((4294967295 - e) &&& g)) := rfl
  simp only [toL, roundS, rt1, rt2, rnd8, List.getD_cons_zero, List.getD_cons_succ, bg1_eq, bg0_eq, hm, hc]
  generalize (ror e 6 ^^^ ror e 11 ^^^ ror e 25) = A
  generalize (ror a 2 ^^^ ror a 13 ^^^ ror a 22) = B
  generalize ((a &&& b) ^^^ (a &&& c) ^^^ (b &&& c)) = C
  generalize ((e &&& f) ^^^ ((4294967295 - e) &&& g)) = D
  generalize K.getD i 0 = k
  generalize W.getD i 0 = w
  congr 1
  · show _ = (h + A + D + k + w + (B + C)) % 4294967296
    omega
  · congr 4
    show _ = (d + (h + A + D + k + w)) % 4294967296
    omega
def rnF (K W : List Nat) : Nat → S8 → S8
  | 0, s => s
  | i + 1, s => rnd8 (K.getD i 0) (W.getD i 0) (rnF K W i s)
theorem rnF_eq (K W : List Nat) (s : S8) : ∀ i, roundsF K W (toL s) i = toL (rnF K W i s)
  | 0 => rfl
  | i + 1 => by rw [roundsF, rnF_eq K W s i, rnd8_eq]; rfl
theorem roundsK_cons {α : Type} (kk : Nat) (ks : List Nat) (w : Nat) (ws : List Nat) (s : S8) (k : S8 → α) : roundsK (kk :: ks) (w :: ws) s k = roundsK ks ws (rnd8 kk w s) k := by
  obtain ⟨a, b, c, d, e, f, g, h⟩ := s
  simp only [roundsK, forceK_eq, rnd8]
theorem roundsK_eq {α : Type} (K W : List Nat) (s : S8) (k : S8 → α) (hl : W.length = K.length) : ∀ n i, i + n = K.length → roundsK (K.drop i) (W.drop i) (rnF K W i s) k = k (rnF K W K.length s)
  | 0, i, h => by
    have : i = K.length := by omega
    subst this
    rw [List.drop_length]
    unfold roundsK
    rfl
  | n + 1, i, h => by
    have h1 : i < K.length := by omega
    have h2 : i < W.length := by omega
    rw [List.drop_eq_getElem_cons h1, List.drop_eq_getElem_cons h2, roundsK_cons, ← roundsK_eq K W s k hl n (i + 1) (by omega), rnF]
    congr 2
    · rw [List.getD_eq_getElem?_getD, List.getElem?_eq_getElem h1]; rfl
    · rw [List.getD_eq_getElem?_getD, List.getElem?_eq_getElem h2]; rfl
theorem revA_eq : ∀ (l a : List Nat), revA l a = l.reverse ++ a
  | [], _ => rfl
  | x :: l, a => by
    show revA l (x :: a) = _
    rw [revA_eq l]; simp
theorem schedF_len (b : List Nat) : ∀ t, (schedF b t).length = 64
  | 0 => by simp [schedF]
  | t + 1 => by rw [schedF, List.length_set, schedF_len b t]
def made (b : List Nat) (t : Nat) : List Nat := (schedF b t).take t
theorem made_len (b : List Nat) {t : Nat} (h : t ≤ 64) : (made b t).length = t := by rw [made, List.length_take, schedF_len]; omega
theorem made_succ (b : List Nat) {t : Nat} (h : t < 64) : made b (t + 1) = made b t ++ [schedS b (schedF b t) t] := by
  unfold made
  rw [schedF, List.take_add_one, List.take_set, List.set_eq_of_length_le (by rw [List.length_take]; omega), List.getElem?_set_self (by rw [schedF_len]; exact h)]
  rfl
theorem made_getD (b : List Nat) {t i : Nat} (h : i < t) : (schedF b t).getD i 0 = (made b t).getD i 0 := by
  rw [made, List.getD_eq_getElem?_getD, List.getD_eq_getElem?_getD, List.getElem?_take, if_pos h]
theorem sched_step {α : Type} (b : List Nat) {t n : Nat} (h1 : 16 ≤ t) (h2 : t < 64) (k : List Nat → α) : schedK (n + 1) (made b t).reverse k = schedK n (made b (t + 1)).reverse k := by
  have hl : (made b t).reverse.length = 16 + (t - 16) := by rw [List.length_reverse, made_len b (by omega)]; omega
  obtain ⟨w1, w2, w3, w4, w5, w6, w7, w8, w9, w10, w11, w12, w13, w14, w15, w16, r, e, hr⟩ := split16 hl
  have e' : made b t = r.reverse ++ [w16, w15, w14, w13, w12, w11, w10, w9, w8, w7, w6, w5, w4, w3, w2, w1] := by
    have := congrArg List.reverse e
    rw [List.reverse_reverse] at this
    rw [this]; simp
  have g : ∀ j, j < 16 → (schedF b t).getD (t - 16 + j) 0 = [w16, w15, w14, w13, w12, w11, w10, w9, w8, w7, w6, w5, w4, w3, w2, w1].getD j 0 := by
    intro j hj
    rw [made_getD b (by omega), e', List.getD_eq_getElem?_getD, List.getElem?_append_right (by rw [List.length_reverse]; omega), List.length_reverse, hr, Nat.add_sub_cancel_left, ← List.getD_eq_getElem?_getD]
  have g0 := g 0 (by omega)
  have g1 := g 1 (by omega)
  have g9 := g 9 (by omega)
  have g14 := g 14 (by omega)
  rw [Nat.add_zero] at g0
  rw [show t - 16 + 1 = t - 15 by omega] at g1
  rw [show t - 16 + 9 = t - 7 by omega] at g9
  rw [show t - 16 + 14 = t - 2 by omega] at g14
  simp only [List.getD_cons_zero, List.getD_cons_succ] at g0 g1 g9 g14
  rw [made_succ b h2, List.reverse_append, List.reverse_singleton, List.singleton_append, e]
  show forceK _ (fun v => schedK n (v :: _) k) = _
  rw [forceK_eq]
  congr 2
  unfold schedS
  rw [if_neg (by omega), g0, g1, g9, g14, sg0_eq, sg1_eq]
  generalize (ror w15 7 ^^^ ror w15 18 ^^^ w15 >>> 3) = A
  generalize (ror w2 17 ^^^ ror w2 19 ^^^ w2 >>> 10) = B
  show (w16 + A + w7 + B) % 4294967296 = _
  omega
theorem schedK_eq {α : Type} (b : List Nat) (k : List Nat → α) : ∀ n t, 16 ≤ t → t + n = 64 → schedK n (made b t).reverse k = k (made b 64).reverse
  | 0, t, _, h => by
    have : t = 64 := by omega
    subst this; rfl
  | n + 1, t, h1, h => by
    rw [sched_step b h1 (by omega), schedK_eq b k n (t + 1) (by omega) (by omega)]
theorem word4_eq {b : List Nat} (h : b.length = 64) : word4 b = made b 16 := by
  have hm : ∀ t, t ≤ 16 → made b t = (List.range t).map (fun i => bigN ((b.drop (4 * i)).take 4) 0) := by
    intro t
    induction t with
    | zero => intro _; simp [made]
    | succ t ih =>
      intro ht
      rw [made_succ b (by omega), ih (by omega), List.range_succ, List.map_append]
      congr 1
      unfold schedS
      rw [if_pos (by omega)]
      rfl
  rw [hm 16 (by omega)]
  obtain ⟨x0, x1, x2, x3, x4, x5, x6, x7, x8, x9, x10, x11, x12, x13, x14, x15, r, rfl, h⟩ := split16 (n := 48) h
  obtain ⟨y0, y1, y2, y3, y4, y5, y6, y7, y8, y9, y10, y11, y12, y13, y14, y15, r, rfl, h⟩ := split16 (n := 32) (by simpa using h)
  obtain ⟨z0, z1, z2, z3, z4, z5, z6, z7, z8, z9, z10, z11, z12, z13, z14, z15, r, rfl, h⟩ := split16 (n := 16) (by simpa using h)
  obtain ⟨w0, w1, w2, w3, w4, w5, w6, w7, w8, w9, w10, w11, w12, w13, w14, w15, rfl⟩ := list16 (by simpa using h)
  have e : ∀ a b c d : Nat, Nat.add (Nat.mul (Nat.add (Nat.mul (Nat.add (Nat.mul a 256) b) 256) c) 256) d = bigN [a, b, c, d] 0 := by
    intro a b c d
    show ((a * 256 + b) * 256 + c) * 256 + d = (((0 * 256 + a) * 256 + b) * 256 + c) * 256 + d
    omega
  simp only [word4, e]
  rfl
theorem kWords_eq : kWords = KS := rfl
theorem iWords_eq : toL iWords = FI := rfl
theorem addF8 (x0 x1 x2 x3 x4 x5 x6 x7 y0 y1 y2 y3 y4 y5 y6 y7 : Nat) : addF [x0, x1, x2, x3, x4, x5, x6, x7] [y0, y1, y2, y3, y4, y5, y6, y7] 8 = [add32 x0 y0, add32 x1 y1, add32 x2 y2, add32 x3 y3, add32 x4 y4, add32 x5 y5, add32 x6 y6, add32 x7 y7] := rfl
def mix8 (s : S8) (blk : List Nat) : S8 := match s, rnF KS (made blk 64) 64 s with
  | ⟨a, b, c, d, e, f, g, h⟩, ⟨a', b', c', d', e', f', g', h'⟩ => ⟨add32 a a', add32 b b', add32 c c', add32 d d', add32 e e', add32 f f', add32 g g', add32 h h'⟩
theorem made64 (b : List Nat) : made b 64 = schedF b 64 := by unfold made; rw [List.take_of_length_le (by rw [schedF_len]; omega)]
theorem mix8_eq (s : S8) (blk : List Nat) : mixF (toL s) blk = toL (mix8 s blk) := by
  unfold mixF mix8
  rw [rnF_eq, made64]
  generalize rnF KS (schedF blk 64) 64 s = s'
  obtain ⟨a, b, c, d, e, f, g, h⟩ := s
  obtain ⟨a', b', c', d', e', f', g', h'⟩ := s'
  simp only [toL, addF8]
  have : ∀ x y, add32 x y = add32 y x := fun x y => by rw [add32_eq, add32_eq, Nat.add_comm]
  rw [this a', this b', this c', this d', this e', this f', this g', this h']
theorem mixK_eq {α : Type} (s : S8) {blk : List Nat} (h : blk.length = 64) (k : S8 → α) : mixK s blk k = k (mix8 s blk) := by
  unfold mixK mix8
  rw [forceL_eq, revA_eq, List.append_nil, word4_eq h, schedK_eq blk _ 48 16 (by omega) (by omega), revA_eq, List.append_nil, List.reverse_reverse, kWords_eq]
  have := roundsK_eq KS (made blk 64) s (α := α)
  have hk : KS.length = 64 := rfl
  have h2 := fun k' => this k' (by rw [made_len blk (by omega)]; rfl) 64 0 rfl
  simp only [List.drop_zero] at h2
  rw [show rnF KS (made blk 64) 0 s = s from rfl] at h2
  rw [h2, hk]
  generalize rnF KS (made blk 64) 64 s = s'
  obtain ⟨a, b, c, d, e, f, g, h⟩ := s
  obtain ⟨a', b', c', d', e', f', g', h'⟩ := s'
  simp only [forceK_eq]
def mixA : Nat → S8 → List Nat → S8
  | 0, s, _ => s
  | n + 1, s, b => mixA n (mix8 s (b.take 64)) (b.drop 64)
theorem mixA_eq : ∀ n s b, mixN n (toL s) b = toL (mixA n s b)
  | 0, _, _ => rfl
  | n + 1, s, b => by rw [mixN, mix8_eq, mixA_eq n]; rfl
theorem mixAK_eq {α : Type} : ∀ (n : Nat) (s : S8) {b : List Nat} (_ : 64 * n ≤ b.length) (k : S8 → α), mixAK n s b k = k (mixA n s b)
  | 0, _, _, _, _ => rfl
  | n + 1, s, b, h, k => by
    have : mixAK (n + 1) s b k = mixK s (takeX 64 b) fun s => mixAK n s (dropX 64 b) k := rfl
    rw [this, takeX_eq, dropX_eq, mixK_eq s (by rw [List.length_take]; omega), mixAK_eq n _ (by rw [List.length_drop]; omega)]
    rfl
theorem mixN_app : ∀ (m : Nat) (W b p : List Nat), 64 * m ≤ b.length → mixN m W (b ++ p) = mixN m W b
  | 0, _, _, _, _ => rfl
  | m + 1, W, b, p, h => by
    rw [mixN, mixN, List.take_append_of_le_length (by omega), List.drop_append_of_le_length (by omega), mixN_app m _ _ _ (by rw [List.length_drop]; omega)]
theorem mixN_add : ∀ (m n : Nat) (W b : List Nat), mixN (m + n) W b = mixN n (mixN m W b) (b.drop (64 * m))
  | 0, n, W, b => by rw [Nat.zero_add]; simp [mixN]
  | m + 1, n, W, b => by
    rw [Nat.add_right_comm, mixN, mixN_add m n, mixN, List.drop_drop]
    congr 2
    omega
theorem be8K_eq (w : Nat) : be8K w = putBig w 8 := rfl
theorem padK_eq (b : List Nat) : padK b = b ++ padL b.length := by
  unfold padK padL
  simp only [appX_eq, lenX_eq, be8K_eq, List.append_assoc]
  rfl
theorem shaOut_eq (s : S8) : shaOut s = outF (toL s) 8 := by
  obtain ⟨a, b, c, d, e, f, g, h⟩ := s
  have e4 : ∀ w, be4 w = putBig w 4 := fun w => rfl
  simp only [shaOut, toL, outF, e4, List.getD_cons_zero, List.getD_cons_succ, List.nil_append]
theorem shaK_eq (b : List Nat) : shaK b = sumL b := by
  unfold shaK
  rw [lenX_eq, padK_eq, show Nat.div (b ++ padL b.length).length 64 = (b ++ padL b.length).length / 64 from rfl, mixAK_eq _ _ (by omega), forceL_eq, shaOut_eq, ← mixA_eq, iWords_eq, sumL, endW]
  congr 1
  have h1 : (b ++ padL b.length).length / 64 = b.length / 64 + (List.drop (64 * (b.length / 64)) b ++ padL b.length).length / 64 := by
    simp only [List.length_append, List.length_drop]
    omega
  rw [h1, mixN_add, mixN_app _ _ _ _ (by omega), List.drop_append_of_le_length (by omega)]
end Go.Proofs.XCode.Fast
end
section
namespace Go.X
noncomputable section
def iSum (args : List XV) (h : XH) : R := match args with
  | [.str b] => bif Nat.ble (lenX b) 1000 then some (.str (shaK b), h) else none
  | _ => none
def iBlk (args : List XV) (h : XH) : R := match args with
  | [.str key, .int .u32 (.ofNat c), .str nonce] => bif and (Nat.beq (lenX key) 32) (and (Nat.beq (lenX nonce) 12) (Nat.blt c 4294967296)) then some (.str (blockK key c nonce), h) else none
  | _ => none
def iTag (args : List XV) (h : XH) : R := match args with
  | [.str key, .str m] => bif and (Nat.beq (lenX key) 32) (Nat.ble (lenX m) 100000) then some (.tup [.str (tagK key m), .bool true], h) else none
  | _ => none
def iXor (args : List XV) (h : XH) : R := match args with
  | [.str a, .str b] => bif Nat.ble (lenX a) 100000 then some (.str (xorK a b), h) else none
  | _ => none
def iPut (args : List XV) (h : XH) : R := match args with
  | [.int .u64 (.ofNat v), .int .i64 (.ofNat n)] => bif and (Nat.blt v 18446744073709551616) (and (Nat.ble 1 n) (Nat.ble n 8)) then some (.str (putBigK v n), h) else none
  | _ => none
end
end Go.X
end
section
namespace Go.X
open Go.RowKit
set_option linter.unusedSimpArgs false
set_option linter.unusedSectionVars false
mutual
def below (N : Nat) : XV → Bool
  | .ptr b _ => Nat.blt b N
  | .slice b _ _ _ _ _ => Nat.blt b N
  | .map b => Nat.blt b N
  | .func _ l => belows N l
  | .agg l => belows N l
  | .tup l => belows N l
  | _ => true
def belows (N : Nat) : List XV → Bool
  | [] => true
  | v :: l => below N v && belows N l
end
mutual
def only (b : Nat) : XV → Bool
  | .ptr n _ => Nat.beq n b
  | .slice n _ _ _ _ _ => Nat.beq n b
  | .map _ => false
  | .func _ _ => false
  | .agg _ => false
  | .tup l => onlys b l
  | _ => true
def onlys (b : Nat) : List XV → Bool
  | [] => true
  | v :: l => only b v && onlys b l
end
mutual
def ren (c : Nat) : XV → XV
  | .ptr _ o => .ptr c o
  | .slice _ o l k e x => .slice c o l k e x
  | .tup l => .tup (rens c l)
  | v => v
def rens (c : Nat) : List XV → List XV
  | [] => []
  | v :: l => ren c v :: rens c l
end
theorem blt_lt {a b : Nat} (h : Nat.blt a b = true) : a < b := Nat.le_of_ble_eq_true h
mutual
theorem VR.under {N : Nat} {ρ ρ' : Rho} (hE : ∀ n, n < N → ρ' n = ρ n) : ∀ {x : XV} {v : Value}, VR ρ x v → X.below N x = true → VR ρ' x v
  | _, _, .bool b, _ => .bool b
  | _, _, .int k n, _ => .int k n
  | _, _, .str l s h, _ => .str l s h
  | _, _, .ptr n o b off lim h, e => .ptr n o b off lim ((hE n (blt_lt (by simpa [X.below] using e))).trans h)
  | _, _, .nilp, _ => .nilp
  | _, _, .slice n o len cap es ex b off lim a c h h1 h2 h3 h4, e => .slice n o len cap es ex b off lim a c ((hE n (blt_lt (by simpa [X.below] using e))).trans h) h1 h2 h3 h4
  | _, _, .nils, _ => .nils
  | _, _, .map n b off lim h, e => .map n b off lim ((hE n (blt_lt (by simpa [X.below] using e))).trans h)
  | _, _, .nilm, _ => .nilm
  | _, _, .func f cs vs h, e => .func f cs vs (VRs.under hE h (by simpa [X.below] using e))
  | _, _, .nilf, _ => .nilf
  | _, _, .nili, _ => .nili
  | _, _, .agg cs vs h, e => .agg cs vs (VRs.under hE h (by simpa [X.below] using e))
  | _, _, .tup cs vs h, e => .tup cs vs (VRs.under hE h (by simpa [X.below] using e))
theorem VRs.under {N : Nat} {ρ ρ' : Rho} (hE : ∀ n, n < N → ρ' n = ρ n) : ∀ {l : List XV} {m : List Value}, VRs ρ l m → belows N l = true → VRs ρ' l m
  | _, _, .nil, _ => .nil
  | _, _, .cons x v l m h t, e => by
    simp only [belows, Bool.and_eq_true] at e
    exact .cons _ _ _ _ (VR.under hE h e.1) (VRs.under hE t e.2)
end
mutual
theorem VR.ren {b c : Nat} {ρ ρ' : Rho} (hE : ρ' c = ρ b) : ∀ {x : XV} {v : Value}, VR ρ x v → X.only b x = true → VR ρ' (X.ren c x) v
  | _, _, .bool b, _ => .bool b
  | _, _, .int k n, _ => .int k n
  | _, _, .str l s h, _ => .str l s h
  | _, _, .ptr n o bb off lim h, e => by
    obtain rfl : n = b := Nat.eq_of_beq_eq_true (by simpa [X.only] using e)
    exact .ptr c o bb off lim (hE.trans h)
  | _, _, .nilp, _ => .nilp
  | _, _, .slice n o len cap es ex bb off lim a cc h h1 h2 h3 h4, e => by
    obtain rfl : n = b := Nat.eq_of_beq_eq_true (by simpa [X.only] using e)
    exact .slice c o len cap es ex bb off lim a cc (hE.trans h) h1 h2 h3 h4
  | _, _, .nils, _ => .nils
  | _, _, .map n b off lim h, e => by simp [X.only] at e
  | _, _, .nilm, _ => .nilm
  | _, _, .func f cs vs h, e => by simp [X.only] at e
  | _, _, .nilf, _ => .nilf
  | _, _, .nili, _ => .nili
  | _, _, .agg cs vs h, e => by simp [X.only] at e
  | _, _, .tup cs vs h, e => .tup _ vs (VRs.ren hE h (by simpa [X.only] using e))
theorem VRs.ren {b c : Nat} {ρ ρ' : Rho} (hE : ρ' c = ρ b) : ∀ {l : List XV} {m : List Value}, VRs ρ l m → onlys b l = true → VRs ρ' (rens c l) m
  | _, _, .nil, _ => .nil
  | _, _, .cons x v l m h t, e => by
    simp only [onlys, Bool.and_eq_true] at e
    exact .cons _ _ _ _ (VR.ren hE h e.1) (VRs.ren hE t e.2)
end
theorem CR.turn {ρ ρ' : Rho} {w : World} {cs : List XV} {ro : Bool} {tg : Option Nat} {b off lim : Nat} (h : CR ρ w cs ro tg b off lim) (k : ∀ vs, VRs ρ cs vs → VRs ρ' cs vs) : CR ρ' w cs ro tg b off lim := by
  obtain ⟨h1, h2, h3, ⟨vs, h4, h5⟩, h6, h7⟩ := h
  exact ⟨h1, h2, h3, ⟨vs, k vs h4, h5⟩, h6, h7⟩
structure SubOK (hs : XH) (N : Nat) : Prop where
  next : hs.next = N
  low : 64 ≤ N
  cells : ∀ n o, hs.get n = some o → n < N ∧ ∃ cs ro tg, o = .cells cs ro tg ∧ belows N cs = true
theorem sub_ok {P : Program} {call : FuncId → List XV → XH → R} (hS : CallSound P call) (hM : CallMono call) {f : FuncId} {args : List XV} {r : XV} {hs H1 : XH} {N b : Nat} (hN : SubOK hs N) (h : call f args hs = some (r, H1))
    (ha : belows N args = true) {cs : List XV} {ro : Bool} {tg : Option Nat} (hb : N ≤ b) (hr : X.only b r = true) (hc : H1.get b = some (.cells cs ro tg)) (hfl : flats cs = true) (hkeep : ∀ n o, hs.get n = some o → H1.get n = some o)
    {H : XH} (hsub : ∀ n o, hs.get n = some o → H.get n = some o) {ρ : Rho} {w : World} {vs : List Value} (hR : Rep ρ H w) (hg : GlobOK ρ) (hv : VRs ρ args vs) (hF : ρ H.next = none) (hH : H.get H.next = none) :
    Invoked P f vs.toArray w (fun v w' => ∃ ρ', VR ρ' (X.ren H.next r) v ∧ Step ρ H w ρ' (H.new (.cells cs ro tg)) w') := by
  have e0 : ∀ n, n < N → (fun n => if n < N then ρ n else none : Rho) n = ρ n := fun n hn => if_pos hn
  have hR0 : Rep (fun n => if n < N then ρ n else none) hs w := by
    refine ⟨fun n o ho => ?_, fun n m o o' bb x y x' y' h1 h2 h3 h4 => ?_⟩
    · obtain ⟨hn, cs', ro', tg', rfl, hbl⟩ := hN.cells n o ho
      obtain ⟨bb, off, lim, h1, h2⟩ := hR.obj n _ (hsub _ _ ho)
      exact ⟨bb, off, lim, (e0 n hn).trans h1, CR.turn h2 (fun vs hvs => hvs.under e0 hbl)⟩
    · have hn := (hN.cells n o h1).1
      have hm := (hN.cells m o' h2).1
      exact hR.inj n m o o' bb x y x' y' (hsub _ _ h1) (hsub _ _ h2) ((e0 n hn).symm.trans h3) ((e0 m hm).symm.trans h4)
  refine (hS f args hs r H1 h _ w vs hR0 (fun g hg' => ?_) (hv.under e0 ha) (fun k h1 _ => ?_)).mono (fun v w' ⟨ρ1, h1, h2⟩ => ?_)
  · obtain ⟨lim, h1⟩ := hg g hg'
    have := hN.low
    exact ⟨lim, (e0 g (by omega)).trans h1⟩
  · rw [hN.next] at h1
    exact if_neg (by omega)
  · have e1 : ∀ n, n < N → ρ1 n = ρ n := fun n hn => by rw [h2.out n (.inl (by rw [hN.next]; exact hn))]; exact if_pos hn
    obtain ⟨bb, off, lim, k1, k2⟩ := h2.rep.obj b _ hc
    -- the new row's block is new
    have hnew : w.heap.size ≤ bb := by
      refine (h2.all bb ⟨b, _, _, _, hc, k1⟩).resolve_left (fun ⟨m, o, x, y, g1, g2⟩ => ?_)
      have hm := (hN.cells m o g1).1
      have g3 : ρ1 m = some (bb, x, y) := h2.ext _ _ g2
      have := h2.rep.inj b m _ _ bb _ _ _ _ hc (hkeep m o g1) k1 g3
      omega
    have hlt : ∀ n o, H.get n = some o → n ≠ H.next := fun n o hn e => by rw [e, hH] at hn; cases hn
    have hext : Ext ρ (fun n => if n = H.next then ρ1 b else ρ n) := fun n x hx => by
      by_cases e : n = H.next
      · rw [e, hF] at hx; cases hx
      · simpa [e] using hx
    have hold : ∀ n o, H.get n = some o → ∃ b0 off lim, ρ n = some (b0, off, lim) ∧ b0 < w.heap.size ∧ OR (fun n => if n = H.next then ρ1 b else ρ n) w' b0 off lim o := by
      intro n o ho
      obtain ⟨b0, off0, lim0, g1, g2⟩ := hR.obj n o ho
      refine ⟨b0, off0, lim0, g1, g2.lt, ?_⟩
      by_cases hf : Foot (fun n => if n < N then ρ n else none) hs b0
      · obtain ⟨m, o', x, y, q1, q2, q3⟩ := hf
        obtain ⟨hm, cs', ro', tg', rfl, hbl⟩ := hN.cells m o' q1
        have q4 : ρ m = some (b0, x, y) := (e0 m hm).symm.trans q3
        obtain rfl := hR.inj n m o _ b0 _ _ _ _ ho (hsub _ _ q1) g1 q4
        rw [hsub _ _ q1] at ho
        obtain rfl := Option.some.inj ho
        obtain ⟨b1, off1, lim1, q5, q6⟩ := h2.rep.obj n _ (hkeep _ _ q1)
        rw [e1 n hm, g1] at q5
        simp only [Option.some.injEq, Prod.mk.injEq] at q5
        obtain ⟨rfl, rfl, rfl⟩ := q5
        exact CR.turn q6 (fun vs hvs => (hvs.under (fun n hn => (e1 n hn).symm) hbl).mono hext)
      · exact g2.of_block hext h2.size (h2.keep b0 g2.lt hf)
    have hne : (fun n => if n = H.next then ρ1 b else ρ n : Rho) H.next = ρ1 b := if_pos rfl
    refine ⟨fun n => if n = H.next then ρ1 b else ρ n, h1.ren hne hr, ?_⟩
    exact {
      rep := by
        refine ⟨fun n o ho => ?_, fun n m o o' b0 x y x' y' g1 g2 g3 g4 => ?_⟩
        · rw [XH.get_new] at ho
          by_cases e : n = H.next
          · subst e
            rw [if_pos rfl] at ho
            obtain rfl := Option.some.inj ho
            exact ⟨bb, off, lim, hne.trans k1, CR.turn k2 (fun vs hvs => hvs.flat hfl)⟩
          · rw [if_neg e] at ho
            obtain ⟨b0, off0, lim0, g1, _, g2⟩ := hold n o ho
            exact ⟨b0, off0, lim0, hext _ _ g1, g2⟩
        · rw [XH.get_new] at g1 g2
          by_cases e : n = H.next <;> by_cases e' : m = H.next
          · rw [e, e']
          · exfalso
            rw [if_neg e'] at g2
            obtain ⟨b1, _, _, q1, q2, _⟩ := hold m o' g2
            have g4' : ρ m = some (b0, x', y') := by simpa [e'] using g4
            have g3' : ρ1 b = some (b0, x, y) := by simpa [e] using g3
            rw [g4'] at q1
            rw [k1] at g3'
            simp only [Option.some.injEq, Prod.mk.injEq] at q1 g3'
            omega
          · exfalso
            rw [if_neg e] at g1
            obtain ⟨b1, _, _, q1, q2, _⟩ := hold n o g1
            have g4' : ρ1 b = some (b0, x', y') := by simpa [e'] using g4
            have g3' : ρ n = some (b0, x, y) := by simpa [e] using g3
            rw [g3'] at q1
            rw [k1] at g4'
            simp only [Option.some.injEq, Prod.mk.injEq] at q1 g4'
            omega
          · rw [if_neg e] at g1
            rw [if_neg e'] at g2
            exact hR.inj n m o o' b0 x y x' y' g1 g2 (by simpa [e] using g3) (by simpa [e'] using g4)
      le := Nat.le_succ _
      out := fun n hn => if_neg (by have := XH.next_new H (.cells cs ro tg); omega)
      ext := hext
      os := h2.os
      tape := h2.tape
      output := h2.output
      size := h2.size
      keep := fun b0 hb0 hf => h2.keep b0 hb0 (fun ⟨m, o, x, y, q1, q2, q3⟩ => hf ⟨m, o, x, y, hsub _ _ q1, q2, (e0 m (hN.cells m o q1).1).symm.trans q3⟩)
      foot := fun b0 ⟨n, o, x, y, q1, q2, q3⟩ => by
        rw [XH.get_new] at q1
        by_cases e : n = H.next
        · have q3' : ρ1 b = some (b0, x, y) := by simpa [e] using q3
          rw [k1] at q3'
          simp only [Option.some.injEq, Prod.mk.injEq] at q3'
          right; omega
        · rw [if_neg e] at q1
          exact .inl ⟨n, o, x, y, q1, q2, by simpa [e] using q3⟩
      all := fun b0 ⟨n, o, x, y, q1, q3⟩ => by
        rw [XH.get_new] at q1
        by_cases e : n = H.next
        · have q3' : ρ1 b = some (b0, x, y) := by simpa [e] using q3
          rw [k1] at q3'
          simp only [Option.some.injEq, Prod.mk.injEq] at q3'
          right; omega
        · rw [if_neg e] at q1
          exact .inl ⟨n, o, x, y, q1, by simpa [e] using q3⟩ }
end Go.X
end
section
namespace Go.X
open Go.RowKit
noncomputable section
def oN : Option Nat → Option Nat → Bool
  | none, none => true
  | some a, some b => Nat.beq a b
  | _, _ => false
def bB : Bool → Bool → Bool
  | true, b => b
  | false, true => false
  | false, false => true
def oBeq : XO → XO → Bool
  | .cells c r t, .cells c' r' t' => XV.beqs c c' && (bB r r' && oN t t')
  | _, _ => false
def isCells (N : Nat) : XO → Bool
  | .cells c _ _ => belows N c
  | _ => false
def flatO : XO → Bool
  | .cells c _ _ => flats c
  | _ => false
def hasB (h : XH) (n : Nat) (o : XO) : Bool := Option.rec false (fun x => oBeq x o) (h.get n)
def hsOf (N : Nat) (need : List (Nat × XO)) : XH := List.rec { t := .nil, next := N } (fun p _ ih => XH.set ih p.1 p.2) need
def subB (need : List (Nat × XO)) (h : XH) : Bool := List.rec true (fun p _ ih => hasB h p.1 p.2 && ih) need
def needB (N : Nat) (need : List (Nat × XO)) : Bool := List.rec true (fun p _ ih => Nat.blt p.1 N && (isCells N p.2 && ih)) need
def noneB (o : Option XO) : Bool := Option.rec true (fun _ => false) o
def iSub (need : List (Nat × XO)) (A : List XV) (r : XV) (o : XO) (args : List XV) (h : XH) : R :=
  bif XV.beqs A args && (subB need h && noneB (h.get h.next)) then some (ren h.next r, h.new o) else none
def nameOf : XV → Nat
  | .slice b _ _ _ _ _ => b
  | .ptr b _ => b
  | .tup (.slice b _ _ _ _ _ :: _) => b
  | _ => 0
def chkSub (N : Nat) (need : List (Nat × XO)) (A : List XV) (r : XV) (o : XO) (res : R) : Bool :=
  Nat.ble 64 N && (needB N need && (belows N A && (flatO o &&
    (match res with | some (r1, h1) => (Nat.ble N (nameOf r1) && only (nameOf r1) r1) && (XV.beq (ren 0 r1) r && (hasB h1 (nameOf r1) o && subB need h1)) | none => false))))
end
theorem oN_eq {a b : Option Nat} (h : oN a b = true) : a = b := by
  cases a <;> cases b <;> simp only [oN] at h <;> first | rfl | cases h | rw [Nat.eq_of_beq_eq_true h]
theorem bB_eq {a b : Bool} (h : bB a b = true) : a = b := by cases a <;> cases b <;> simp_all [bB]
theorem oBeq_eq {a b : XO} (h : oBeq a b = true) : a = b := by
  unfold oBeq at h
  split at h
  · simp only [Bool.and_eq_true] at h
    rw [XV.beqs_eq h.1, bB_eq h.2.1, oN_eq h.2.2]
  · cases h
theorem hasB_eq {h : XH} {n : Nat} {o : XO} (e : hasB h n o = true) : h.get n = some o := by
  unfold hasB at e
  cases g : h.get n with
  | none => rw [g] at e; cases e
  | some x =>
    rw [g] at e
    rw [oBeq_eq e]
theorem subB_spec {h : XH} : ∀ {need : List (Nat × XO)}, subB need h = true → ∀ p ∈ need, h.get p.1 = some p.2
  | [], _, p, hp => by cases hp
  | q :: l, e, p, hp => by
    have e : (hasB h q.1 q.2 && subB l h) = true := e
    simp only [Bool.and_eq_true] at e
    rcases List.mem_cons.1 hp with rfl | hp
    · exact hasB_eq e.1
    · exact subB_spec e.2 p hp
theorem needB_spec {N : Nat} : ∀ {need : List (Nat × XO)}, needB N need = true → ∀ p ∈ need, p.1 < N ∧ isCells N p.2 = true
  | [], _, p, hp => by cases hp
  | q :: l, e, p, hp => by
    have e : (Nat.blt q.1 N && (isCells N q.2 && needB N l)) = true := e
    simp only [Bool.and_eq_true] at e
    rcases List.mem_cons.1 hp with rfl | hp
    · exact ⟨blt_lt e.1, e.2.1⟩
    · exact needB_spec e.2.2 p hp
theorem hsOf_next (N : Nat) : ∀ need : List (Nat × XO), (hsOf N need).next = N
  | [] => rfl
  | p :: l => by
    show (XH.set (hsOf N l) p.1 p.2).next = N
    rw [XH.next_set, hsOf_next N l]
theorem hsOf_get {N : Nat} : ∀ {need : List (Nat × XO)} {n : Nat} {o : XO}, (hsOf N need).get n = some o → (n, o) ∈ need
  | [], n, o, h => by
    have : (hsOf N []).get n = none := T.g_nil n
    rw [this] at h; cases h
  | p :: l, n, o, h => by
    have h1 : (XH.set (hsOf N l) p.1 p.2).get n = some o := h
    rw [XH.get_set] at h1
    by_cases e : n = p.1
    · rw [if_pos e] at h1
      subst e
      obtain rfl := Option.some.inj h1
      exact List.mem_cons_self ..
    · rw [if_neg e] at h1
      exact List.mem_cons_of_mem _ (hsOf_get h1)
theorem isCells_spec {N : Nat} {o : XO} (h : isCells N o = true) : ∃ cs ro tg, o = .cells cs ro tg ∧ belows N cs = true := by
  unfold isCells at h
  split at h
  · exact ⟨_, _, _, rfl, h⟩
  · cases h
mutual
theorem ren_ren (c d : Nat) : ∀ x : XV, ren c (ren d x) = ren c x
  | .ptr _ _ => rfl
  | .slice _ _ _ _ _ _ => rfl
  | .tup l => by simp only [ren, rens_rens c d l]
  | .bool _ => rfl
  | .int _ _ => rfl
  | .str _ => rfl
  | .nilp => rfl
  | .nils => rfl
  | .map _ => rfl
  | .nilm => rfl
  | .func _ _ => rfl
  | .nilf => rfl
  | .nili => rfl
  | .agg _ => rfl
theorem rens_rens (c d : Nat) : ∀ l : List XV, rens c (rens d l) = rens c l
  | [] => rfl
  | x :: l => by simp only [rens, ren_ren c d x, rens_rens c d l]
end
theorem iSub_ok {P : Program} {call0 : FuncId → List XV → XH → R} (hS : CallSound P call0) (hM : CallMono call0) {f : FuncId} {N : Nat} {need : List (Nat × XO)} {A : List XV} {r : XV} {o : XO} (hc : chkSub N need A r o (call0 f A (hsOf N need)) = true) : IntrOK P f (fun _ => iSub need A r o) := by
  unfold chkSub at hc
  simp only [Bool.and_eq_true] at hc
  obtain ⟨c1, c2, c3, c6, c7⟩ := hc
  split at c7
  rotate_left
  · cases c7
  rename_i r1 H1 hr
  simp only [Bool.and_eq_true] at c7
  obtain ⟨⟨c4, c5⟩, d1, d2, d3⟩ := c7
  obtain rfl := XV.beq_eq d1
  have d2 := hasB_eq d2
  have d3 := subB_spec d3
  have c2 := needB_spec c2
  unfold flatO at c6
  split at c6
  rotate_left
  · cases c6
  rename_i _ cs ro tg
  have hN : SubOK (hsOf N need) N := ⟨hsOf_next N need, Nat.le_of_ble_eq_true c1, fun n o ho => by
    have := c2 _ (hsOf_get ho)
    exact ⟨this.1, isCells_spec this.2⟩⟩
  intro call _ _ args H r' H' h
  unfold iSub at h
  obtain ⟨e, h0⟩ := bif_some h
  clear h
  simp only [Bool.and_eq_true] at e
  obtain ⟨e1, e2, e3⟩ := e
  obtain rfl := XV.beqs_eq e1
  have e2 := subB_spec e2
  have := Option.some.inj h0
  injection this with h1 h2
  subst h1; subst h2
  refine ⟨Nat.le_succ _, fun ρ w vs hR hg hv hF => ?_⟩
  rw [ren_ren]
  refine sub_ok hS hM hN hr c3 (Nat.le_of_ble_eq_true c4) c5 d2 c6 (fun n o ho => d3 _ (hsOf_get ho)) (fun n o ho => e2 _ (hsOf_get ho)) hR hg hv (hF _ (Nat.le_refl _) (Nat.lt_succ_self _)) ?_
  unfold noneB at e3
  cases g : H.get H.next with
  | none => rfl
  | some x => rw [g] at e3; cases e3
end Go.X
end
section
namespace Go.X
open Go.RowKit
set_option linter.unusedSimpArgs false
set_option linter.unusedSectionVars false
structure LeE (E E' : Env) : Prop where
  fn : ∀ f x, E.fn f = some x → E'.fn f = some x
  intr : ∀ f i, E.fn f = some (.intr i) → ∀ c c', LeC c c' → ∀ a h r, E.intr c i a h = some r → E'.intr c' i a h = some r
theorem callX_leE {E E' : Env} (hE : LeE E E') {r r' : Run} (hr : LeR r r') : LeC (callX E r) (callX E' r') := by
  intro f a h y h1
  unfold callX at h1 ⊢
  split at h1
  · rename_i x e
    rw [hE.fn _ _ e]
    exact fnX_le hr h1
  · cases h1
theorem callE_leE {E E' : Env} (hE : LeE E E') {r r' : Run} (hr : LeR r r') : LeC (callE E r) (callE E' r') := by
  intro f a h y h1
  unfold callE at h1 ⊢
  split at h1
  · rename_i x e
    rw [hE.fn _ _ e]
    exact fnX_le hr h1
  · rename_i i e
    rw [hE.fn _ _ e]
    exact hE.intr _ _ e _ _ (callX_leE hE hr) _ _ _ h1
  · cases h1
theorem runB_leE {E E' : Env} (hE : LeE E E') {r r' : Run} (hr : LeR r r') : LeR (runB E r) (runB E' r') := by
  intro c fr h x h1
  cases c with
  | skip => exact h1
  | region ops =>
    simp only [runB] at h1 ⊢
    cases e : runOps (callE E r) ops fr h with
    | none => rw [e] at h1; cases h1
    | some z => rw [e] at h1; rw [runOps_le (callE_leE hE hr) _ e]; exact h1
  | drawn plan =>
    simp only [runB] at h1 ⊢
    cases e : runPlan (callE E r) plan fr h [h] [] [] with
    | none => rw [e] at h1; cases h1
    | some z => rw [e] at h1; rw [runPlan_le (callE_leE hE hr) _ e]; exact h1
  | seq a b =>
    simp only [runB] at h1 ⊢
    cases e : r a fr h with
    | none => rw [e] at h1; cases h1
    | some z =>
      rw [e] at h1
      rw [hr _ _ _ _ e]
      obtain ⟨ex, fr1, h2⟩ := z
      cases ex <;> first | exact hr _ _ _ _ h1 | exact h1
  | cond v a b =>
    simp only [runB] at h1 ⊢
    generalize ev fr v = y at h1 ⊢
    cases y <;> try (cases h1; done)
    rename_i t
    cases t <;> exact hr _ _ _ _ h1
  | block id a =>
    simp only [runB] at h1 ⊢
    cases e : r a fr h with
    | none => rw [e] at h1; cases h1
    | some z => rw [e] at h1; rw [hr _ _ _ _ e]; exact h1
  | loop a =>
    simp only [runB] at h1 ⊢
    cases e : r a fr h with
    | none => rw [e] at h1; cases h1
    | some z =>
      rw [e] at h1
      rw [hr _ _ _ _ e]
      obtain ⟨ex, fr1, h2⟩ := z
      cases ex <;> first | exact hr _ _ _ _ h1 | exact h1
  | exit id => exact h1
  | ret => exact h1
  | bad => cases h1
theorem run_leE {E E' : Env} (hE : LeE E E') : ∀ n, LeR (run E n) (run E' n)
  | 0 => fun _ _ _ _ h => by cases h
  | n + 1 => fun c fr h x h1 => runB_leE hE (run_leE hE n) c fr h x h1
theorem CallEv.le {E E' : Env} (hE : LeE E E') {f : FuncId} {args : List XV} {h : XH} {Q : XV → XH → Prop} (k : CallEv E f args h Q) : CallEv E' f args h Q := by
  obtain ⟨n, r, h', h1, h2⟩ := k
  exact ⟨n, r, h', callE_leE hE (run_leE hE n) _ _ _ _ h1, h2⟩
noncomputable def Env.over (E : Env) (f0 i0 : Nat) (g : List XV → XH → R) : Env :=
  { fn := fun f => bif Nat.beq f f0 then some (.intr i0) else E.fn f, intr := fun call i args h => bif Nat.beq i i0 then g args h else E.intr call i args h }
noncomputable def Env.add (E : Env) (f0 : Nat) (x : XFn) : Env := { fn := fun f => bif Nat.beq f f0 then some (.fn x) else E.fn f, intr := E.intr }
def Env.Low (E : Env) (N : Nat) : Prop := ∀ f i, E.fn f = some (.intr i) → i < N
theorem beq_false {a b : Nat} (h : a ≠ b) : Nat.beq a b = false := by
  cases e : Nat.beq a b with
  | false => rfl
  | true => exact absurd (Nat.eq_of_beq_eq_true e) h
theorem Env.over_hit (E : Env) (f0 i0 : Nat) (g : List XV → XH → R) : (E.over f0 i0 g).fn f0 = some (.intr i0) := by simp only [Env.over, Nat.beq_refl, cond_true]
theorem Env.over_miss {E : Env} {f0 i0 f : Nat} {g : List XV → XH → R} (h : f ≠ f0) : (E.over f0 i0 g).fn f = E.fn f := by simp only [Env.over, beq_false h, cond_false]
theorem Env.over_low {E : Env} {f0 i0 : Nat} {g : List XV → XH → R} (h : E.Low i0) : (E.over f0 i0 g).Low (i0 + 1) := by
  intro f i e
  by_cases hf : f = f0
  · subst hf
    rw [Env.over_hit] at e
    injection e with e; injection e with e
    omega
  · rw [Env.over_miss hf] at e
    have := h f i e
    omega
theorem LeE.over {E : Env} {f0 i0 : Nat} {g : List XV → XH → R} (hM : IntrMono E) (hL : E.Low i0) (hn : E.fn f0 = none) : LeE E (E.over f0 i0 g) where
  fn f x e := by
    by_cases hf : f = f0
    · subst hf
      rw [hn] at e; cases e
    · rw [Env.over_miss hf, e]
  intr f i e c c' hc a h r h1 := by
    have : i ≠ i0 := by have := hL f i e; omega
    show (bif Nat.beq i i0 then g a h else E.intr c' i a h) = some r
    rw [beq_false this]
    exact hM _ _ hc _ _ _ _ h1
theorem IntrMono.over {E : Env} {f0 i0 : Nat} {g : List XV → XH → R} (hM : IntrMono E) : IntrMono (E.over f0 i0 g) := by
  intro c c' hc i a h r h1
  have h1 : (bif Nat.beq i i0 then g a h else E.intr c i a h) = some r := h1
  show (bif Nat.beq i i0 then g a h else E.intr c' i a h) = some r
  cases e : Nat.beq i i0 with
  | true => rw [e] at h1; exact h1
  | false => rw [e] at h1; exact hM _ _ hc _ _ _ _ h1
theorem FnOK.over {P : Program} {ty : Nat → Option XTy} {E : Env} {f0 i0 : Nat} {g : List XV → XH → R} (hE : FnOK P ty E) (hL : E.Low i0) (hg : IntrOK P f0 (fun _ => g)) : FnOK P ty (E.over f0 i0 g) where
  fn f x e := by
    by_cases hf : f = f0
    · subst hf
      rw [Env.over_hit] at e
      injection e with e; cases e
    · rw [Env.over_miss hf] at e
      exact hE.fn f x e
  intr f i e call c1 c2 args H r H' h1 := by
    have h2 : (bif Nat.beq i i0 then g args H else E.intr call i args H) = some (r, H') := h1
    by_cases hf : f = f0
    · subst hf
      rw [Env.over_hit] at e
      injection e with e; injection e with e
      subst e
      rw [Nat.beq_refl] at h2
      exact hg call c1 c2 args H r H' h2
    · rw [Env.over_miss hf] at e
      have : i ≠ i0 := by have := hL f i e; omega
      rw [beq_false this] at h2
      exact hE.intr f i e call c1 c2 args H r H' h2
theorem FnOK.add {P : Program} {ty : Nat → Option XTy} {E : Env} {f0 : Nat} {x : XFn} {g : Func} {c : Code} (hE : FnOK P ty E) (h1 : P.funcs[f0]? = some g) (h2 : g.body = some c) (h3 : mkFn ty g = some x) (h4 : ∀ args w, (callFunc f0 args).run P w = .ok (.enter f0 args) w) : FnOK P ty (E.add f0 x) where
  fn f y e := by
    have e : (bif Nat.beq f f0 then some (Pr.fn x) else E.fn f) = some (.fn y) := e
    by_cases hf : f = f0
    · subst hf
      rw [Nat.beq_refl] at e
      injection e with e; injection e with e
      subst e
      exact ⟨g, c, h1, h2, h3, h4⟩
    · rw [beq_false hf] at e
      exact hE.fn f y e
  intr f i e call c1 c2 args H r H' h := by
    have e : (bif Nat.beq f f0 then some (Pr.fn x) else E.fn f) = some (.intr i) := e
    by_cases hf : f = f0
    · subst hf
      rw [Nat.beq_refl] at e
      injection e with e; cases e
    · rw [beq_false hf] at e
      exact hE.intr f i e call c1 c2 args H r H' h
theorem Env.add_low {E : Env} {f0 N : Nat} {x : XFn} (h : E.Low N) : (E.add f0 x).Low N := by
  intro f i e
  have e : (bif Nat.beq f f0 then some (Pr.fn x) else E.fn f) = some (.intr i) := e
  by_cases hf : f = f0
  · subst hf
    rw [Nat.beq_refl] at e
    injection e with e; cases e
  · rw [beq_false hf] at e
    exact h f i e
end Go.X
end
section
namespace Go.Proofs.XCode
open Go.X Go.RowKit
set_option linter.unusedSimpArgs false
set_option linter.unusedVariables false
theorem str_lt {ρ : Rho} {l : List Nat} {v : Value} (h : VR ρ (.str l) v) (i : Nat) : l.getD i 0 < 256 := by
  cases h with
  | str _ u hu =>
    rw [List.getD_eq_getElem?_getD]
    cases e : l[i]? with
    | none => simp
    | some x =>
      have hm : x ∈ l := List.mem_of_getElem? e
      rw [← hu] at hm
      obtain ⟨y, _, rfl⟩ := List.mem_map.1 hm
      exact y.toNat_lt
theorem fresh_nil : Fresh hNil := fun n _ => hNil_get n
section
variable (hS : ∀ n, CallSound Tryz.prog (callE E0 (run E0 n)))
include hS
theorem iSum_ok : IntrOK Tryz.prog n_digest_Sum (fun _ => iSum) := by
  intro call _ _ args H r H' h
  simp only [iSum] at h
  split at h
  · rename_i b
    obtain ⟨hb, h0⟩ := bif_some h
    clear h
    have hl := Nat.le_of_ble_eq_true hb
    rw [lenX_eq] at hl
    have := Option.some.inj h0
    injection this with h3 h4
    subst h3; subst h4
    refine ⟨Nat.le_refl _, fun ρ w vs hR hg hv hF => ?_⟩
    have hbt : ∀ i, b.getD i 0 < 256 := by cases hv with | cons _ _ _ _ hp _ => exact str_lt hp
    obtain ⟨n, r, H1, e, rfl, _⟩ := Sum_call b hbt hl hNil
    rw [Fast.shaK_eq]
    exact pure_ok (hS n) e rfl rfl hR hg hv
  · cases h
theorem iXor_ok : IntrOK Tryz.prog n_octet_Xor (fun _ => iXor) := by
  intro call _ _ args H r H' h
  simp only [iXor] at h
  split at h
  · rename_i a b
    obtain ⟨hb, h0⟩ := bif_some h
    clear h
    have hl := Nat.le_of_ble_eq_true hb
    rw [lenX_eq] at hl
    have := Option.some.inj h0
    injection this with h3 h4
    subst h3; subst h4
    refine ⟨Nat.le_refl _, fun ρ w vs hR hg hv hF => ?_⟩
    have ha : ∀ i, a.getD i 0 < 256 := by cases hv with | cons _ _ _ _ hp _ => exact str_lt hp
    have hbt : ∀ i, b.getD i 0 < 256 := by cases hv with | cons _ _ _ _ _ ht => cases ht with | cons _ _ _ _ hp _ => exact str_lt hp
    obtain ⟨n, r, H1, e, rfl, _⟩ := xor_call a b ha hbt hl hNil
    rw [Fast.xorK_eq]
    exact pure_ok (hS n) e rfl rfl hR hg hv
  · cases h
theorem iPut_ok : IntrOK Tryz.prog n_octet_PutBig (fun _ => iPut) := by
  intro call _ _ args H r H' h
  simp only [iPut] at h
  split at h
  · rename_i v n
    obtain ⟨hb, h0⟩ := bif_some h
    clear h
    have hb : (Nat.blt v 18446744073709551616 && (Nat.ble 1 n && Nat.ble n 8)) = true := hb
    simp only [Bool.and_eq_true] at hb
    have h1 := Nat.le_of_ble_eq_true hb.2.1
    have h2 := Nat.le_of_ble_eq_true hb.2.2
    have := Option.some.inj h0
    injection this with h3 h4
    subst h3; subst h4
    refine ⟨Nat.le_refl _, fun ρ w vs hR hg hv hF => ?_⟩
    obtain ⟨m, r, H1, e, rfl, _⟩ := putBig_call v n (blt_lt hb.1) h1 h2 hNil
    rw [Fast.putBigK_eq h2]
    exact pure_ok (hS m) e rfl rfl hR hg hv
  · cases h
theorem iBlk_ok : IntrOK Tryz.prog n_stream_block (fun _ => iBlk) := by
  intro call _ _ args H r H' h
  simp only [iBlk] at h
  split at h
  · rename_i key c nonce
    obtain ⟨hb, h0⟩ := bif_some h
    clear h
    have hb : (Nat.beq (lenX key) 32 && (Nat.beq (lenX nonce) 12 && Nat.blt c 4294967296)) = true := hb
    simp only [Bool.and_eq_true, lenX_eq] at hb
    have h1 := Nat.eq_of_beq_eq_true hb.1
    have h2 := Nat.eq_of_beq_eq_true hb.2.1
    have := Option.some.inj h0
    injection this with h3 h4
    subst h3; subst h4
    refine ⟨Nat.le_refl _, fun ρ w vs hR hg hv hF => ?_⟩
    have ha : ∀ i, key.getD i 0 < 256 := by cases hv with | cons _ _ _ _ hp _ => exact str_lt hp
    have hbt : ∀ i, nonce.getD i 0 < 256 := by cases hv with | cons _ _ _ _ _ ht => cases ht with | cons _ _ _ _ _ ht => cases ht with | cons _ _ _ _ hp _ => exact str_lt hp
    obtain ⟨n, r, H1, e, rfl, _⟩ := block_call key nonce c ha hbt h1 h2 (blt_lt hb.2.2) hNil
    rw [Fast.blockK_eq c h1 h2]
    exact pure_ok (hS n) e rfl rfl hR hg hv
  · cases h
theorem iTag_ok : IntrOK Tryz.prog n_onetime_Tag (fun _ => iTag) := by
  intro call _ _ args H r H' h
  simp only [iTag] at h
  split at h
  · rename_i key m
    obtain ⟨hb, h0⟩ := bif_some h
    clear h
    have hb : (Nat.beq (lenX key) 32 && Nat.ble (lenX m) 100000) = true := hb
    simp only [Bool.and_eq_true, lenX_eq] at hb
    have h1 := Nat.eq_of_beq_eq_true hb.1
    have h2 := Nat.le_of_ble_eq_true hb.2
    have := Option.some.inj h0
    injection this with h3 h4
    subst h3; subst h4
    refine ⟨Nat.le_refl _, fun ρ w vs hR hg hv hF => ?_⟩
    have ha : ∀ i, key.getD i 0 < 256 := by cases hv with | cons _ _ _ _ hp _ => exact str_lt hp
    have hbt : ∀ i, m.getD i 0 < 256 := by cases hv with | cons _ _ _ _ _ ht => cases ht with | cons _ _ _ _ hp _ => exact str_lt hp
    obtain ⟨n, r, H1, e, rfl, _⟩ := tag_call key m ha h1 hbt h2 hNil fresh_nil
    rw [Fast.tagK_eq m h1]
    exact pure_ok (hS n) e rfl rfl hR hg hv
  · cases h
end
end Go.Proofs.XCode
end
section
namespace Go.Proofs.XCode
open Go.X Go.Proofs
set_option maxRecDepth 100000
-- escutcheon/mac.Of
abbrev n_mac_Of : Nat := 75
abbrev c_mac_Of_0 : XC := XC.region [⟨(some (ixOf 4)), (.p (.mov (.c (.str [])))), none⟩]
abbrev c_mac_Of_1 : XC := XC.region [⟨(some (ixOf 6)), (.p (.mov (.t (ixOf 0)))), none⟩,
  ⟨(some (ixOf 7)), (.r (.len .str (.t (ixOf 6)))), none⟩,
  ⟨(some (ixOf 8)), (.p (.bin (.int .i64) .gtr (.t (ixOf 7)) (.c (.int .i64 (.ofNat 64))))), none⟩]
abbrev c_mac_Of_2 : XC := XC.region [⟨(some (ixOf 9)), (.p (.mov (.t (ixOf 0)))), none⟩,
  ⟨(some (ixOf 10)), (.e (.call 129 [(.t (ixOf 9))])), none⟩,
  ⟨(some (ixOf 0)), (.p (.mov (.t (ixOf 10)))), none⟩]
abbrev c_mac_Of_3 : XC := XC.cond (.t (ixOf 8)) c_mac_Of_2 .skip
abbrev c_mac_Of_4 : XC := XC.seq c_mac_Of_1 c_mac_Of_3
abbrev c_mac_Of_5 : XC := XC.region [⟨(some (ixOf 11)), (.p (.mov (.t (ixOf 0)))), none⟩,
  ⟨(some (ixOf 12)), (.p (.mov (.t (ixOf 0)))), none⟩,
  ⟨(some (ixOf 13)), (.r (.len .str (.t (ixOf 12)))), none⟩,
  ⟨(some (ixOf 14)), (.p (.bin (.int .i64) .sub (.c (.int .i64 (.ofNat 64))) (.t (ixOf 13)))), none⟩,
  ⟨(some (ixOf 15)), (.e (.call 41 [(.c (.str [0])), (.t (ixOf 14))])), none⟩,
  ⟨(some (ixOf 16)), (.p (.bin .str .add (.t (ixOf 11)) (.t (ixOf 15)))), none⟩,
  ⟨(some (ixOf 0)), (.p (.mov (.t (ixOf 16)))), none⟩]
abbrev c_mac_Of_6 : XC := XC.region [⟨(some (ixOf 17)), (.p (.mov (.t (ixOf 0)))), none⟩,
  ⟨(some (ixOf 18)), (.e (.call 41 [(.c (.str [54])), (.c (.int .i64 (.ofNat 64)))])), none⟩,
  ⟨(some (ixOf 19)), (.e (.call 85 [(.t (ixOf 17)), (.t (ixOf 18))])), none⟩,
  ⟨(some (ixOf 20)), (.p (.mov (.t (ixOf 1)))), none⟩,
  ⟨(some (ixOf 21)), (.p (.bin .str .add (.t (ixOf 19)) (.t (ixOf 20)))), none⟩,
  ⟨(some (ixOf 22)), (.e (.call 129 [(.t (ixOf 21))])), none⟩,
  ⟨(some (ixOf 5)), (.p (.mov (.t (ixOf 22)))), none⟩]
abbrev c_mac_Of_7 : XC := XC.region [⟨(some (ixOf 23)), (.p (.mov (.t (ixOf 0)))), none⟩,
  ⟨(some (ixOf 24)), (.e (.call 41 [(.c (.str [92])), (.c (.int .i64 (.ofNat 64)))])), none⟩,
  ⟨(some (ixOf 25)), (.e (.call 85 [(.t (ixOf 23)), (.t (ixOf 24))])), none⟩,
  ⟨(some (ixOf 26)), (.p (.mov (.t (ixOf 5)))), none⟩,
  ⟨(some (ixOf 27)), (.p (.bin .str .add (.t (ixOf 25)) (.t (ixOf 26)))), none⟩,
  ⟨(some (ixOf 28)), (.e (.call 129 [(.t (ixOf 27))])), none⟩,
  ⟨(some (ixOf 4)), (.p (.mov (.t (ixOf 28)))), none⟩]
abbrev c_mac_Of_8 : XC := XC.seq c_mac_Of_7 .ret
abbrev c_mac_Of_9 : XC := XC.seq c_mac_Of_6 c_mac_Of_8
abbrev c_mac_Of_10 : XC := XC.seq c_mac_Of_5 c_mac_Of_9
abbrev c_mac_Of_11 : XC := XC.seq c_mac_Of_4 c_mac_Of_10
abbrev c_mac_Of_12 : XC := XC.seq c_mac_Of_0 c_mac_Of_11
abbrev x_mac_Of : XFn := ⟨[.tmp (ixOf 4)], c_mac_Of_12⟩
theorem mk_mac_Of : mkFn tyT.get Tryz.f75 = some x_mac_Of := by kernel_rfl
theorem fn_mac_Of : E0.fn n_mac_Of = some (.fn x_mac_Of) := fn_of (by kernel_rfl) mk_mac_Of
-- escutcheon/derive.Extract
abbrev n_derive_Extract : Nat := 39
abbrev c_derive_Extract_0 : XC := XC.region [⟨(some (ixOf 4)), (.p (.mov (.c (.str [])))), none⟩]
abbrev c_derive_Extract_1 : XC := XC.region [⟨(some (ixOf 5)), (.p (.mov (.t (ixOf 0)))), none⟩,
  ⟨(some (ixOf 6)), (.p (.mov (.t (ixOf 1)))), none⟩,
  ⟨(some (ixOf 7)), (.e (.call 75 [(.t (ixOf 5)), (.t (ixOf 6))])), none⟩,
  ⟨(some (ixOf 4)), (.p (.mov (.t (ixOf 7)))), none⟩]
abbrev c_derive_Extract_2 : XC := XC.seq c_derive_Extract_1 .ret
abbrev c_derive_Extract_3 : XC := XC.seq c_derive_Extract_0 c_derive_Extract_2
abbrev x_derive_Extract : XFn := ⟨[.tmp (ixOf 4)], c_derive_Extract_3⟩
theorem mk_derive_Extract : mkFn tyT.get Tryz.f39 = some x_derive_Extract := by kernel_rfl
theorem fn_derive_Extract : E0.fn n_derive_Extract = some (.fn x_derive_Extract) := fn_of (by kernel_rfl) mk_derive_Extract
-- escutcheon/derive.Expand
abbrev n_derive_Expand : Nat := 38
abbrev c_derive_Expand_0 : XC := XC.region [⟨(some (ixOf 6)), (.p (.mov (.c (.str [])))), none⟩,
  ⟨(some (ixOf 7)), (.p (.mov (.c (.bool false)))), none⟩]
abbrev c_derive_Expand_1 : XC := XC.region [⟨(some (ixOf 11)), (.p (.mov (.t (ixOf 2)))), none⟩,
  ⟨(some (ixOf 12)), (.p (.bin (.int .i64) .lss (.t (ixOf 11)) (.c (.int .i64 (.ofNat 0))))), none⟩,
  ⟨(some (ixOf 13)), (.p (.mov (.t (ixOf 12)))), none⟩,
  ⟨(some (ixOf 14)), (.p (.mov (.t (ixOf 2)))), (some ((ixOf 13), false))⟩,
  ⟨(some (ixOf 15)), (.p (.bin (.int .i64) .gtr (.t (ixOf 14)) (.c (.int .i64 (.ofNat 8160))))), (some ((ixOf 13), false))⟩,
  ⟨(some (ixOf 16)), (.p (.pick (.t (ixOf 13)) (.c (.bool true)) (.t (ixOf 15)))), none⟩]
abbrev c_derive_Expand_2 : XC := XC.region [⟨(some (ixOf 6)), (.p (.mov (.c (.str [])))), none⟩,
  ⟨(some (ixOf 7)), (.p (.mov (.c (.bool false)))), none⟩]
abbrev c_derive_Expand_3 : XC := XC.seq c_derive_Expand_2 .ret
abbrev c_derive_Expand_4 : XC := XC.cond (.t (ixOf 16)) c_derive_Expand_3 .skip
abbrev c_derive_Expand_5 : XC := XC.seq c_derive_Expand_1 c_derive_Expand_4
abbrev c_derive_Expand_6 : XC := XC.region [⟨(some (ixOf 8)), (.p (.mov (.c (.str [])))), none⟩,
  ⟨(some (ixOf 9)), (.p (.mov (.c (.str [])))), none⟩]
abbrev c_derive_Expand_7 : XC := XC.region [⟨(some (ixOf 10)), (.p (.mov (.c (.int .i64 (.ofNat 1))))), none⟩]
abbrev c_derive_Expand_8 : XC := XC.region [⟨(some (ixOf 17)), (.p (.mov (.t (ixOf 8)))), none⟩,
  ⟨(some (ixOf 18)), (.r (.len .str (.t (ixOf 17)))), none⟩,
  ⟨(some (ixOf 19)), (.p (.mov (.t (ixOf 2)))), none⟩,
  ⟨(some (ixOf 20)), (.p (.bin (.int .i64) .lss (.t (ixOf 18)) (.t (ixOf 19)))), none⟩]
abbrev c_derive_Expand_9 : XC := XC.cond (.t (ixOf 20)) .skip (.exit 0)
abbrev c_derive_Expand_10 : XC := XC.seq c_derive_Expand_8 c_derive_Expand_9
abbrev c_derive_Expand_11 : XC := XC.region [⟨(some (ixOf 23)), (.p (.mov (.t (ixOf 0)))), none⟩,
  ⟨(some (ixOf 24)), (.p (.mov (.t (ixOf 9)))), none⟩,
  ⟨(some (ixOf 25)), (.p (.mov (.t (ixOf 1)))), none⟩,
  ⟨(some (ixOf 26)), (.p (.bin .str .add (.t (ixOf 24)) (.t (ixOf 25)))), none⟩,
  ⟨(some (ixOf 27)), (.p (.mov (.t (ixOf 10)))), none⟩,
  ⟨(some (ixOf 28)), (.p (.convI .u8 (.t (ixOf 27)))), none⟩,
  ⟨(some (ixOf 29)), (.a (.buildSlice 1 [(.int .u8 (.ofNat 0))] [(0, 1, (.t (ixOf 28)))] 1)), none⟩,
  ⟨(some (ixOf 30)), (.r (.convBS (.t (ixOf 29)))), none⟩,
  ⟨(some (ixOf 31)), (.p (.bin .str .add (.t (ixOf 26)) (.t (ixOf 30)))), none⟩,
  ⟨(some (ixOf 32)), (.e (.call 75 [(.t (ixOf 23)), (.t (ixOf 31))])), none⟩,
  ⟨(some (ixOf 9)), (.p (.mov (.t (ixOf 32)))), none⟩]
abbrev c_derive_Expand_12 : XC := XC.region [⟨(some (ixOf 33)), (.p (.mov (.t (ixOf 8)))), none⟩,
  ⟨(some (ixOf 34)), (.p (.mov (.t (ixOf 9)))), none⟩,
  ⟨(some (ixOf 35)), (.p (.bin .str .add (.t (ixOf 33)) (.t (ixOf 34)))), none⟩,
  ⟨(some (ixOf 8)), (.p (.mov (.t (ixOf 35)))), none⟩]
abbrev c_derive_Expand_13 : XC := XC.seq c_derive_Expand_11 c_derive_Expand_12
abbrev c_derive_Expand_14 : XC := XC.block 1 c_derive_Expand_13
abbrev c_derive_Expand_15 : XC := XC.region [⟨(some (ixOf 21)), (.p (.mov (.t (ixOf 10)))), none⟩,
  ⟨(some (ixOf 22)), (.p (.bin (.int .i64) .add (.t (ixOf 21)) (.c (.int .i64 (.ofNat 1))))), none⟩,
  ⟨(some (ixOf 10)), (.p (.mov (.t (ixOf 22)))), none⟩]
abbrev c_derive_Expand_16 : XC := XC.seq c_derive_Expand_14 c_derive_Expand_15
abbrev c_derive_Expand_17 : XC := XC.seq c_derive_Expand_10 c_derive_Expand_16
abbrev c_derive_Expand_18 : XC := XC.loop c_derive_Expand_17
abbrev c_derive_Expand_19 : XC := XC.block 0 c_derive_Expand_18
abbrev c_derive_Expand_20 : XC := XC.seq c_derive_Expand_7 c_derive_Expand_19
abbrev c_derive_Expand_21 : XC := XC.region [⟨(some (ixOf 36)), (.p (.mov (.t (ixOf 8)))), none⟩,
  ⟨(some (ixOf 37)), (.p (.mov (.t (ixOf 2)))), none⟩,
  ⟨(some (ixOf 38)), (.p (.sliceS (.t (ixOf 36)) none (some (.t (ixOf 37))))), none⟩,
  ⟨(some (ixOf 6)), (.p (.mov (.t (ixOf 38)))), none⟩,
  ⟨(some (ixOf 7)), (.p (.mov (.c (.bool true)))), none⟩]
abbrev c_derive_Expand_22 : XC := XC.seq c_derive_Expand_21 .ret
abbrev c_derive_Expand_23 : XC := XC.seq c_derive_Expand_20 c_derive_Expand_22
abbrev c_derive_Expand_24 : XC := XC.seq c_derive_Expand_6 c_derive_Expand_23
abbrev c_derive_Expand_25 : XC := XC.seq c_derive_Expand_5 c_derive_Expand_24
abbrev c_derive_Expand_26 : XC := XC.seq c_derive_Expand_0 c_derive_Expand_25
abbrev x_derive_Expand : XFn := ⟨[.tmp (ixOf 6), .tmp (ixOf 7)], c_derive_Expand_26⟩
theorem mk_derive_Expand : mkFn tyT.get Tryz.f38 = some x_derive_Expand := by kernel_rfl
theorem fn_derive_Expand : E0.fn n_derive_Expand = some (.fn x_derive_Expand) := fn_of (by kernel_rfl) mk_derive_Expand
-- escutcheon/derive.Key
abbrev n_derive_Key : Nat := 14
abbrev c_derive_Key_0 : XC := XC.region [⟨(some (ixOf 6)), (.p (.mov (.c (.str [])))), none⟩]
abbrev c_derive_Key_1 : XC := XC.region [⟨(some (ixOf 10)), (.p (.mov (.t (ixOf 1)))), none⟩,
  ⟨(some (ixOf 11)), (.p (.mov (.t (ixOf 0)))), none⟩,
  ⟨(some (ixOf 12)), (.e (.call 39 [(.t (ixOf 10)), (.t (ixOf 11))])), none⟩,
  ⟨(some (ixOf 13)), (.p (.mov (.t (ixOf 2)))), none⟩,
  ⟨(some (ixOf 14)), (.e (.call 38 [(.t (ixOf 12)), (.t (ixOf 13)), (.c (.int .i64 (.ofNat 32)))])), none⟩,
  ⟨(some (ixOf 9)), (.p (.mov (.t (ixOf 14)))), none⟩,
  ⟨(some (ixOf 15)), (.p (.extract (.t (ixOf 9)) 0)), none⟩,
  ⟨(some (ixOf 16)), (.p (.extract (.t (ixOf 9)) 1)), none⟩,
  ⟨(some (ixOf 7)), (.p (.mov (.t (ixOf 15)))), none⟩,
  ⟨(some (ixOf 8)), (.p (.mov (.t (ixOf 16)))), none⟩]
abbrev c_derive_Key_2 : XC := XC.region [⟨(some (ixOf 17)), (.p (.mov (.t (ixOf 7)))), none⟩,
  ⟨(some (ixOf 6)), (.p (.mov (.t (ixOf 17)))), none⟩]
abbrev c_derive_Key_3 : XC := XC.seq c_derive_Key_2 .ret
abbrev c_derive_Key_4 : XC := XC.seq c_derive_Key_1 c_derive_Key_3
abbrev c_derive_Key_5 : XC := XC.seq c_derive_Key_0 c_derive_Key_4
abbrev x_derive_Key : XFn := ⟨[.tmp (ixOf 6)], c_derive_Key_5⟩
theorem mk_derive_Key : mkFn tyT.get Tryz.f14 = some x_derive_Key := by kernel_rfl
theorem fn_derive_Key : E0.fn n_derive_Key = some (.fn x_derive_Key) := fn_of (by kernel_rfl) mk_derive_Key
-- escutcheon/ratchet.Session
abbrev n_ratchet_Session : Nat := 5
abbrev c_ratchet_Session_0 : XC := XC.region [⟨(some (ixOf 4)), (.a (.alloc 25 [(.str []), (.str [])])), none⟩]
abbrev c_ratchet_Session_1 : XC := XC.region [⟨(some (ixOf 5)), (.p (.mov (.t (ixOf 0)))), none⟩,
  ⟨(some (ixOf 6)), (.p (.mov (.t (ixOf 1)))), none⟩,
  ⟨(some (ixOf 7)), (.e (.call 14 [(.t (ixOf 5)), (.t (ixOf 6)), (.c (.str [117, 112]))])), none⟩,
  ⟨(some (ixOf 8)), (.p (.mov (.t (ixOf 0)))), none⟩,
  ⟨(some (ixOf 9)), (.p (.mov (.t (ixOf 1)))), none⟩,
  ⟨(some (ixOf 10)), (.e (.call 14 [(.t (ixOf 8)), (.t (ixOf 9)), (.c (.str [100, 111, 119, 110]))])), none⟩,
  ⟨(some (ixOf 11)), (.p (.build [(.str []), (.str [])] [(0, 1, (.t (ixOf 7))), (1, 1, (.t (ixOf 10)))])), none⟩,
  ⟨none, (.e (.store 2 (.t (ixOf 4)) (.t (ixOf 11)))), none⟩]
abbrev c_ratchet_Session_2 : XC := XC.seq c_ratchet_Session_1 .ret
abbrev c_ratchet_Session_3 : XC := XC.seq c_ratchet_Session_0 c_ratchet_Session_2
abbrev x_ratchet_Session : XFn := ⟨[.cell (ixOf 4) (.many 2)], c_ratchet_Session_3⟩
theorem mk_ratchet_Session : mkFn tyT.get Tryz.f5 = some x_ratchet_Session := by kernel_rfl
theorem fn_ratchet_Session : E0.fn n_ratchet_Session = some (.fn x_ratchet_Session) := fn_of (by kernel_rfl) mk_ratchet_Session
-- escutcheon/ratchet.Next
abbrev n_ratchet_Next : Nat := 94
abbrev c_ratchet_Next_0 : XC := XC.region [⟨(some (ixOf 2)), (.p (.mov (.c (.str [])))), none⟩]
abbrev c_ratchet_Next_1 : XC := XC.region [⟨(some (ixOf 6)), (.p (.mov (.t (ixOf 0)))), none⟩,
  ⟨(some (ixOf 7)), (.e (.call 38 [(.t (ixOf 6)), (.c (.str [114, 97, 116, 99, 104, 101, 116])), (.c (.int .i64 (.ofNat 32)))])), none⟩,
  ⟨(some (ixOf 5)), (.p (.mov (.t (ixOf 7)))), none⟩,
  ⟨(some (ixOf 8)), (.p (.extract (.t (ixOf 5)) 0)), none⟩,
  ⟨(some (ixOf 9)), (.p (.extract (.t (ixOf 5)) 1)), none⟩,
  ⟨(some (ixOf 3)), (.p (.mov (.t (ixOf 8)))), none⟩,
  ⟨(some (ixOf 4)), (.p (.mov (.t (ixOf 9)))), none⟩]
abbrev c_ratchet_Next_2 : XC := XC.region [⟨(some (ixOf 10)), (.p (.mov (.t (ixOf 3)))), none⟩,
  ⟨(some (ixOf 2)), (.p (.mov (.t (ixOf 10)))), none⟩]
abbrev c_ratchet_Next_3 : XC := XC.seq c_ratchet_Next_2 .ret
abbrev c_ratchet_Next_4 : XC := XC.seq c_ratchet_Next_1 c_ratchet_Next_3
abbrev c_ratchet_Next_5 : XC := XC.seq c_ratchet_Next_0 c_ratchet_Next_4
abbrev x_ratchet_Next : XFn := ⟨[.tmp (ixOf 2)], c_ratchet_Next_5⟩
theorem mk_ratchet_Next : mkFn tyT.get Tryz.f94 = some x_ratchet_Next := by kernel_rfl
theorem fn_ratchet_Next : E0.fn n_ratchet_Next = some (.fn x_ratchet_Next) := fn_of (by kernel_rfl) mk_ratchet_Next
-- escutcheon/ratchet.At
abbrev n_ratchet_At : Nat := 47
abbrev c_ratchet_At_0 : XC := XC.region [⟨(some (ixOf 4)), (.p (.mov (.c (.str [])))), none⟩,
  ⟨(some (ixOf 5)), (.p (.mov (.c (.bool false)))), none⟩]
abbrev c_ratchet_At_1 : XC := XC.region [⟨(some (ixOf 7)), (.p (.mov (.t (ixOf 1)))), none⟩,
  ⟨(some (ixOf 8)), (.p (.bin (.int .i64) .lss (.t (ixOf 7)) (.c (.int .i64 (.ofNat 0))))), none⟩,
  ⟨(some (ixOf 9)), (.p (.mov (.t (ixOf 8)))), none⟩,
  ⟨(some (ixOf 10)), (.p (.mov (.t (ixOf 1)))), (some ((ixOf 9), false))⟩,
  ⟨(some (ixOf 11)), (.p (.bin (.int .i64) .gtr (.t (ixOf 10)) (.c (.int .i64 (.ofNat 100))))), (some ((ixOf 9), false))⟩,
  ⟨(some (ixOf 12)), (.p (.pick (.t (ixOf 9)) (.c (.bool true)) (.t (ixOf 11)))), none⟩]
abbrev c_ratchet_At_2 : XC := XC.region [⟨(some (ixOf 4)), (.p (.mov (.c (.str [])))), none⟩,
  ⟨(some (ixOf 5)), (.p (.mov (.c (.bool false)))), none⟩]
abbrev c_ratchet_At_3 : XC := XC.seq c_ratchet_At_2 .ret
abbrev c_ratchet_At_4 : XC := XC.cond (.t (ixOf 12)) c_ratchet_At_3 .skip
abbrev c_ratchet_At_5 : XC := XC.seq c_ratchet_At_1 c_ratchet_At_4
abbrev c_ratchet_At_6 : XC := XC.region [⟨(some (ixOf 6)), (.a (.alloc 64 [(.int .i64 (.ofNat 0))])), none⟩]
abbrev c_ratchet_At_7 : XC := XC.region [⟨(some (ixOf 13)), (.e (.call 29 [(.t (ixOf 6))])), none⟩,
  ⟨(some (ixOf 14)), (.p (.mov (.t (ixOf 1)))), none⟩,
  ⟨(some (ixOf 15)), (.p (.bin (.int .i64) .lss (.t (ixOf 13)) (.t (ixOf 14)))), none⟩]
abbrev c_ratchet_At_8 : XC := XC.cond (.t (ixOf 15)) .skip (.exit 0)
abbrev c_ratchet_At_9 : XC := XC.seq c_ratchet_At_7 c_ratchet_At_8
abbrev c_ratchet_At_10 : XC := XC.region [⟨(some (ixOf 16)), (.p (.mov (.t (ixOf 0)))), none⟩,
  ⟨(some (ixOf 17)), (.e (.call 94 [(.t (ixOf 16))])), none⟩,
  ⟨(some (ixOf 0)), (.p (.mov (.t (ixOf 17)))), none⟩]
abbrev c_ratchet_At_11 : XC := XC.region [⟨(some (ixOf 18)), (.e (.call 21 [(.t (ixOf 6)), (.c (.int .i64 (.ofNat 1)))])), none⟩]
abbrev c_ratchet_At_12 : XC := XC.seq c_ratchet_At_10 c_ratchet_At_11
abbrev c_ratchet_At_13 : XC := XC.block 1 c_ratchet_At_12
abbrev c_ratchet_At_14 : XC := XC.seq c_ratchet_At_9 c_ratchet_At_13
abbrev c_ratchet_At_15 : XC := XC.loop c_ratchet_At_14
abbrev c_ratchet_At_16 : XC := XC.block 0 c_ratchet_At_15
abbrev c_ratchet_At_17 : XC := XC.region [⟨(some (ixOf 19)), (.p (.mov (.t (ixOf 0)))), none⟩,
  ⟨(some (ixOf 4)), (.p (.mov (.t (ixOf 19)))), none⟩,
  ⟨(some (ixOf 5)), (.p (.mov (.c (.bool true)))), none⟩]
abbrev c_ratchet_At_18 : XC := XC.seq c_ratchet_At_17 .ret
abbrev c_ratchet_At_19 : XC := XC.seq c_ratchet_At_16 c_ratchet_At_18
abbrev c_ratchet_At_20 : XC := XC.seq c_ratchet_At_6 c_ratchet_At_19
abbrev c_ratchet_At_21 : XC := XC.seq c_ratchet_At_5 c_ratchet_At_20
abbrev c_ratchet_At_22 : XC := XC.seq c_ratchet_At_0 c_ratchet_At_21
abbrev x_ratchet_At : XFn := ⟨[.tmp (ixOf 4), .tmp (ixOf 5)], c_ratchet_At_22⟩
theorem mk_ratchet_At : mkFn tyT.get Tryz.f47 = some x_ratchet_At := by kernel_rfl
theorem fn_ratchet_At : E0.fn n_ratchet_At = some (.fn x_ratchet_At) := fn_of (by kernel_rfl) mk_ratchet_At
-- escutcheon/ratchet.Epoch
abbrev n_ratchet_Epoch : Nat := 44
abbrev c_ratchet_Epoch_0 : XC := XC.region [⟨(some (ixOf 2)), (.p (.mov (.c (.int .i64 (.ofNat 0))))), none⟩]
abbrev c_ratchet_Epoch_1 : XC := XC.region [⟨(some (ixOf 3)), (.p (.mov (.t (ixOf 0)))), none⟩,
  ⟨(some (ixOf 4)), (.p (.max [(.t (ixOf 3)), (.c (.int .i64 (.ofNat 0)))])), none⟩,
  ⟨(some (ixOf 5)), (.p (.bin (.int .i64) .quo (.t (ixOf 4)) (.c (.int .i64 (.ofNat 8))))), none⟩,
  ⟨(some (ixOf 2)), (.p (.mov (.t (ixOf 5)))), none⟩]
abbrev c_ratchet_Epoch_2 : XC := XC.seq c_ratchet_Epoch_1 .ret
abbrev c_ratchet_Epoch_3 : XC := XC.seq c_ratchet_Epoch_0 c_ratchet_Epoch_2
abbrev x_ratchet_Epoch : XFn := ⟨[.tmp (ixOf 2)], c_ratchet_Epoch_3⟩
theorem mk_ratchet_Epoch : mkFn tyT.get Tryz.f44 = some x_ratchet_Epoch := by kernel_rfl
theorem fn_ratchet_Epoch : E0.fn n_ratchet_Epoch = some (.fn x_ratchet_Epoch) := fn_of (by kernel_rfl) mk_ratchet_Epoch
-- escutcheon/ratchet.Nonce
abbrev n_ratchet_Nonce : Nat := 20
abbrev c_ratchet_Nonce_0 : XC := XC.region [⟨(some (ixOf 2)), (.p (.mov (.c (.str [])))), none⟩]
abbrev c_ratchet_Nonce_1 : XC := XC.region [⟨(some (ixOf 3)), (.p (.mov (.t (ixOf 0)))), none⟩,
  ⟨(some (ixOf 4)), (.p (.bin (.int .i64) .lss (.t (ixOf 3)) (.c (.int .i64 (.ofNat 0))))), none⟩]
abbrev c_ratchet_Nonce_2 : XC := XC.region [⟨(some (ixOf 2)), (.p (.mov (.c (.str [])))), none⟩]
abbrev c_ratchet_Nonce_3 : XC := XC.seq c_ratchet_Nonce_2 .ret
abbrev c_ratchet_Nonce_4 : XC := XC.cond (.t (ixOf 4)) c_ratchet_Nonce_3 .skip
abbrev c_ratchet_Nonce_5 : XC := XC.seq c_ratchet_Nonce_1 c_ratchet_Nonce_4
abbrev c_ratchet_Nonce_6 : XC := XC.region [⟨(some (ixOf 5)), (.e (.call 41 [(.c (.str [0])), (.c (.int .i64 (.ofNat 4)))])), none⟩,
  ⟨(some (ixOf 6)), (.p (.mov (.t (ixOf 0)))), none⟩,
  ⟨(some (ixOf 7)), (.p (.convI .u64 (.t (ixOf 6)))), none⟩,
  ⟨(some (ixOf 8)), (.e (.call 17 [(.t (ixOf 7)), (.c (.int .i64 (.ofNat 8)))])), none⟩,
  ⟨(some (ixOf 9)), (.p (.bin .str .add (.t (ixOf 5)) (.t (ixOf 8)))), none⟩,
  ⟨(some (ixOf 2)), (.p (.mov (.t (ixOf 9)))), none⟩]
abbrev c_ratchet_Nonce_7 : XC := XC.seq c_ratchet_Nonce_6 .ret
abbrev c_ratchet_Nonce_8 : XC := XC.seq c_ratchet_Nonce_5 c_ratchet_Nonce_7
abbrev c_ratchet_Nonce_9 : XC := XC.seq c_ratchet_Nonce_0 c_ratchet_Nonce_8
abbrev x_ratchet_Nonce : XFn := ⟨[.tmp (ixOf 2)], c_ratchet_Nonce_9⟩
theorem mk_ratchet_Nonce : mkFn tyT.get Tryz.f20 = some x_ratchet_Nonce := by kernel_rfl
theorem fn_ratchet_Nonce : E0.fn n_ratchet_Nonce = some (.fn x_ratchet_Nonce) := fn_of (by kernel_rfl) mk_ratchet_Nonce
-- (*sync/atomic.Int64).Load
abbrev n_sync_atomic_Int64_Load : Nat := 29
abbrev c_sync_atomic_Int64_Load_0 : XC := XC.region [⟨(some (ixOf 2)), (.p (.mov (.c (.int .i64 (.ofNat 0))))), none⟩]
abbrev c_sync_atomic_Int64_Load_1 : XC := XC.region [⟨(some (ixOf 3)), (.p (.mov (.t (ixOf 0)))), none⟩,
  ⟨(some (ixOf 4)), (.p (.nilCheck (.t (ixOf 3)))), none⟩,
  ⟨(some (ixOf 5)), (.p (.addr 0 (.t (ixOf 4)))), none⟩,
  ⟨(some (ixOf 6)), (.e (.call 55 [(.t (ixOf 5))])), none⟩,
  ⟨(some (ixOf 2)), (.p (.mov (.t (ixOf 6)))), none⟩]
abbrev c_sync_atomic_Int64_Load_2 : XC := XC.seq c_sync_atomic_Int64_Load_1 .ret
abbrev c_sync_atomic_Int64_Load_3 : XC := XC.seq c_sync_atomic_Int64_Load_0 c_sync_atomic_Int64_Load_2
abbrev x_sync_atomic_Int64_Load : XFn := ⟨[.tmp (ixOf 2)], c_sync_atomic_Int64_Load_3⟩
theorem mk_sync_atomic_Int64_Load : mkFn tyT.get Tryz.f29 = some x_sync_atomic_Int64_Load := by kernel_rfl
theorem fn_sync_atomic_Int64_Load : E0.fn n_sync_atomic_Int64_Load = some (.fn x_sync_atomic_Int64_Load) := fn_of (by kernel_rfl) mk_sync_atomic_Int64_Load
-- (*sync/atomic.Int64).Add
abbrev n_sync_atomic_Int64_Add : Nat := 21
abbrev c_sync_atomic_Int64_Add_0 : XC := XC.region [⟨(some (ixOf 4)), (.p (.mov (.c (.int .i64 (.ofNat 0))))), none⟩]
abbrev c_sync_atomic_Int64_Add_1 : XC := XC.region [⟨(some (ixOf 5)), (.p (.mov (.t (ixOf 0)))), none⟩,
  ⟨(some (ixOf 6)), (.p (.nilCheck (.t (ixOf 5)))), none⟩,
  ⟨(some (ixOf 7)), (.p (.addr 0 (.t (ixOf 6)))), none⟩,
  ⟨(some (ixOf 8)), (.p (.mov (.t (ixOf 1)))), none⟩,
  ⟨(some (ixOf 9)), (.e (.call 48 [(.t (ixOf 7)), (.t (ixOf 8))])), none⟩,
  ⟨(some (ixOf 4)), (.p (.mov (.t (ixOf 9)))), none⟩]
abbrev c_sync_atomic_Int64_Add_2 : XC := XC.seq c_sync_atomic_Int64_Add_1 .ret
abbrev c_sync_atomic_Int64_Add_3 : XC := XC.seq c_sync_atomic_Int64_Add_0 c_sync_atomic_Int64_Add_2
abbrev x_sync_atomic_Int64_Add : XFn := ⟨[.tmp (ixOf 4)], c_sync_atomic_Int64_Add_3⟩
theorem mk_sync_atomic_Int64_Add : mkFn tyT.get Tryz.f21 = some x_sync_atomic_Int64_Add := by kernel_rfl
theorem fn_sync_atomic_Int64_Add : E0.fn n_sync_atomic_Int64_Add = some (.fn x_sync_atomic_Int64_Add) := fn_of (by kernel_rfl) mk_sync_atomic_Int64_Add
-- escutcheon/escutcheontop.TopEpochs
abbrev n_escutcheontop_TopEpochs : Nat := 3
abbrev c_escutcheontop_TopEpochs_0 : XC := XC.region [⟨(some (ixOf 6)), (.p (.mov (.c (.bool false)))), none⟩]
abbrev c_escutcheontop_TopEpochs_1 : XC := XC.region [⟨(some (ixOf 22)), (.e (.call 4 [])), none⟩,
  ⟨(some (ixOf 23)), (.p (.un .not (.t (ixOf 22)))), none⟩,
  ⟨(some (ixOf 24)), (.p (.mov (.t (ixOf 23)))), none⟩,
  ⟨(some (ixOf 25)), (.p (.mov (.t (ixOf 1)))), (some ((ixOf 24), false))⟩,
  ⟨(some (ixOf 26)), (.r (.len (.slice 9) (.t (ixOf 25)))), (some ((ixOf 24), false))⟩,
  ⟨(some (ixOf 27)), (.p (.bin (.int .i64) .eql (.t (ixOf 26)) (.c (.int .i64 (.ofNat 0))))), (some ((ixOf 24), false))⟩,
  ⟨(some (ixOf 28)), (.p (.pick (.t (ixOf 24)) (.c (.bool true)) (.t (ixOf 27)))), none⟩,
  ⟨(some (ixOf 29)), (.p (.mov (.t (ixOf 28)))), none⟩,
  ⟨(some (ixOf 30)), (.p (.mov (.t (ixOf 1)))), (some ((ixOf 29), false))⟩,
  ⟨(some (ixOf 31)), (.r (.len (.slice 9) (.t (ixOf 30)))), (some ((ixOf 29), false))⟩,
  ⟨(some (ixOf 32)), (.p (.bin (.int .i64) .gtr (.t (ixOf 31)) (.c (.int .i64 (.ofNat 10))))), (some ((ixOf 29), false))⟩,
  ⟨(some (ixOf 33)), (.p (.pick (.t (ixOf 29)) (.c (.bool true)) (.t (ixOf 32)))), none⟩,
  ⟨(some (ixOf 34)), (.p (.mov (.t (ixOf 33)))), none⟩,
  ⟨(some (ixOf 35)), (.p (.mov (.t (ixOf 2)))), (some ((ixOf 34), false))⟩,
  ⟨(some (ixOf 36)), (.p (.bin (.int .i64) .lss (.t (ixOf 35)) (.c (.int .i64 (.ofNat 0))))), (some ((ixOf 34), false))⟩,
  ⟨(some (ixOf 37)), (.p (.pick (.t (ixOf 34)) (.c (.bool true)) (.t (ixOf 36)))), none⟩,
  ⟨(some (ixOf 38)), (.p (.mov (.t (ixOf 37)))), none⟩,
  ⟨(some (ixOf 39)), (.p (.mov (.t (ixOf 2)))), (some ((ixOf 38), false))⟩,
  ⟨(some (ixOf 40)), (.p (.bin (.int .i64) .gtr (.t (ixOf 39)) (.c (.int .i64 (.ofNat 60))))), (some ((ixOf 38), false))⟩,
  ⟨(some (ixOf 41)), (.p (.pick (.t (ixOf 38)) (.c (.bool true)) (.t (ixOf 40)))), none⟩]
abbrev c_escutcheontop_TopEpochs_2 : XC := XC.region [⟨(some (ixOf 42)), (.e (.call 4 [])), none⟩,
  ⟨(some (ixOf 6)), (.p (.mov (.t (ixOf 42)))), none⟩]
abbrev c_escutcheontop_TopEpochs_3 : XC := XC.seq c_escutcheontop_TopEpochs_2 .ret
abbrev c_escutcheontop_TopEpochs_4 : XC := XC.cond (.t (ixOf 41)) c_escutcheontop_TopEpochs_3 .skip
abbrev c_escutcheontop_TopEpochs_5 : XC := XC.seq c_escutcheontop_TopEpochs_1 c_escutcheontop_TopEpochs_4
abbrev c_escutcheontop_TopEpochs_6 : XC := XC.region [⟨(some (ixOf 43)), (.p (.mov (.t (ixOf 0)))), none⟩,
  ⟨(some (ixOf 44)), (.e (.call 6 [(.t (ixOf 43)), (.c (.int .i64 (.ofNat 32)))])), none⟩,
  ⟨(some (ixOf 45)), (.e (.call 5 [(.t (ixOf 44)), (.c (.str [115, 97, 108, 116]))])), none⟩,
  ⟨(some (ixOf 7)), (.a (.alloc 25 [(.str []), (.str [])])), none⟩,
  ⟨none, (.e (.store 2 (.t (ixOf 7)) (.t (ixOf 45)))), none⟩]
abbrev c_escutcheontop_TopEpochs_7 : XC := XC.drawn [⟨0, ⟨(some (ixOf 46)), (.p (.addr 0 (.t (ixOf 7)))), none⟩, 0, 0, []⟩,
  ⟨1, ⟨(some (ixOf 47)), (.r (.load .one (.t (ixOf 46)))), none⟩, 0, 0, []⟩,
  ⟨2, ⟨(some (ixOf 48)), (.e (.call 7 [(.t (ixOf 47))])), none⟩, 0, 1, []⟩,
  ⟨3, ⟨(some (ixOf 49)), (.p (.addr 0 (.t (ixOf 7)))), none⟩, 0, 1, []⟩,
  ⟨4, ⟨(some (ixOf 50)), (.r (.load .one (.t (ixOf 49)))), none⟩, 0, 1, []⟩,
  ⟨5, ⟨(some (ixOf 51)), (.e (.call 8 [(.t (ixOf 50))])), none⟩, 1, 2, []⟩,
  ⟨6, ⟨(some (ixOf 8)), (.p (.mov (.t (ixOf 48)))), none⟩, 2, 2, []⟩,
  ⟨7, ⟨(some (ixOf 9)), (.p (.mov (.t (ixOf 51)))), none⟩, 2, 2, []⟩]
abbrev c_escutcheontop_TopEpochs_8 : XC := XC.drawn [⟨0, ⟨(some (ixOf 52)), (.p (.addr 1 (.t (ixOf 7)))), none⟩, 0, 0, []⟩,
  ⟨1, ⟨(some (ixOf 53)), (.r (.load .one (.t (ixOf 52)))), none⟩, 0, 0, []⟩,
  ⟨2, ⟨(some (ixOf 54)), (.e (.call 7 [(.t (ixOf 53))])), none⟩, 0, 1, []⟩,
  ⟨3, ⟨(some (ixOf 55)), (.p (.addr 1 (.t (ixOf 7)))), none⟩, 0, 1, []⟩,
  ⟨4, ⟨(some (ixOf 56)), (.r (.load .one (.t (ixOf 55)))), none⟩, 0, 1, []⟩,
  ⟨5, ⟨(some (ixOf 57)), (.e (.call 8 [(.t (ixOf 56))])), none⟩, 1, 2, []⟩,
  ⟨6, ⟨(some (ixOf 10)), (.p (.mov (.t (ixOf 54)))), none⟩, 2, 2, []⟩,
  ⟨7, ⟨(some (ixOf 11)), (.p (.mov (.t (ixOf 57)))), none⟩, 2, 2, []⟩]
abbrev c_escutcheontop_TopEpochs_9 : XC := XC.region [⟨(some (ixOf 58)), (.p (.mov (.t (ixOf 8)))), none⟩,
  ⟨(some (ixOf 59)), (.p (.bin (.ptr 66) .eql (.t (ixOf 58)) (.c .nilp))), none⟩,
  ⟨(some (ixOf 60)), (.p (.mov (.t (ixOf 59)))), none⟩,
  ⟨(some (ixOf 61)), (.p (.mov (.t (ixOf 9)))), (some ((ixOf 60), false))⟩,
  ⟨(some (ixOf 62)), (.p (.bin (.ptr 73) .eql (.t (ixOf 61)) (.c .nilp))), (some ((ixOf 60), false))⟩,
  ⟨(some (ixOf 63)), (.p (.pick (.t (ixOf 60)) (.c (.bool true)) (.t (ixOf 62)))), none⟩,
  ⟨(some (ixOf 64)), (.p (.mov (.t (ixOf 63)))), none⟩,
  ⟨(some (ixOf 65)), (.p (.mov (.t (ixOf 10)))), (some ((ixOf 64), false))⟩,
  ⟨(some (ixOf 66)), (.p (.bin (.ptr 66) .eql (.t (ixOf 65)) (.c .nilp))), (some ((ixOf 64), false))⟩,
  ⟨(some (ixOf 67)), (.p (.pick (.t (ixOf 64)) (.c (.bool true)) (.t (ixOf 66)))), none⟩,
  ⟨(some (ixOf 68)), (.p (.mov (.t (ixOf 67)))), none⟩,
  ⟨(some (ixOf 69)), (.p (.mov (.t (ixOf 11)))), (some ((ixOf 68), false))⟩,
  ⟨(some (ixOf 70)), (.p (.bin (.ptr 73) .eql (.t (ixOf 69)) (.c .nilp))), (some ((ixOf 68), false))⟩,
  ⟨(some (ixOf 71)), (.p (.pick (.t (ixOf 68)) (.c (.bool true)) (.t (ixOf 70)))), none⟩]
abbrev c_escutcheontop_TopEpochs_10 : XC := XC.region [⟨(some (ixOf 6)), (.p (.mov (.c (.bool false)))), none⟩]
abbrev c_escutcheontop_TopEpochs_11 : XC := XC.seq c_escutcheontop_TopEpochs_10 .ret
abbrev c_escutcheontop_TopEpochs_12 : XC := XC.cond (.t (ixOf 71)) c_escutcheontop_TopEpochs_11 .skip
abbrev c_escutcheontop_TopEpochs_13 : XC := XC.seq c_escutcheontop_TopEpochs_9 c_escutcheontop_TopEpochs_12
abbrev c_escutcheontop_TopEpochs_14 : XC := XC.region [⟨(some (ixOf 12)), (.p (.mov (.c (.int .i64 (.ofNat 0))))), none⟩]
abbrev c_escutcheontop_TopEpochs_15 : XC := XC.region [⟨(some (ixOf 72)), (.p (.mov (.t (ixOf 12)))), none⟩,
  ⟨(some (ixOf 73)), (.p (.mov (.t (ixOf 2)))), none⟩,
  ⟨(some (ixOf 74)), (.p (.bin (.int .i64) .lss (.t (ixOf 72)) (.t (ixOf 73)))), none⟩]
abbrev c_escutcheontop_TopEpochs_16 : XC := XC.cond (.t (ixOf 74)) .skip (.exit 0)
abbrev c_escutcheontop_TopEpochs_17 : XC := XC.seq c_escutcheontop_TopEpochs_15 c_escutcheontop_TopEpochs_16
abbrev c_escutcheontop_TopEpochs_18 : XC := XC.region [⟨(some (ixOf 77)), (.p (.mov (.t (ixOf 1)))), none⟩,
  ⟨(some (ixOf 78)), (.p (.mov (.t (ixOf 12)))), none⟩,
  ⟨(some (ixOf 79)), (.p (.mov (.t (ixOf 1)))), none⟩,
  ⟨(some (ixOf 80)), (.r (.len (.slice 9) (.t (ixOf 79)))), none⟩,
  ⟨(some (ixOf 81)), (.p (.bin (.int .i64) .rem (.t (ixOf 78)) (.t (ixOf 80)))), none⟩,
  ⟨(some (ixOf 82)), (.p (.idxL 1 (.t (ixOf 77)) (.t (ixOf 81)))), none⟩,
  ⟨(some (ixOf 83)), (.r (.load .one (.t (ixOf 82)))), none⟩,
  ⟨(some (ixOf 13)), (.p (.mov (.t (ixOf 83)))), none⟩]
abbrev c_escutcheontop_TopEpochs_19 : XC := XC.region [⟨(some (ixOf 84)), (.p (.mov (.t (ixOf 13)))), none⟩,
  ⟨(some (ixOf 85)), (.r (.len .str (.t (ixOf 84)))), none⟩,
  ⟨(some (ixOf 86)), (.p (.bin (.int .i64) .gtr (.t (ixOf 85)) (.c (.int .i64 (.ofNat 300))))), none⟩]
abbrev c_escutcheontop_TopEpochs_20 : XC := XC.region [⟨(some (ixOf 6)), (.p (.mov (.c (.bool true)))), none⟩]
abbrev c_escutcheontop_TopEpochs_21 : XC := XC.seq c_escutcheontop_TopEpochs_20 .ret
abbrev c_escutcheontop_TopEpochs_22 : XC := XC.cond (.t (ixOf 86)) c_escutcheontop_TopEpochs_21 .skip
abbrev c_escutcheontop_TopEpochs_23 : XC := XC.seq c_escutcheontop_TopEpochs_19 c_escutcheontop_TopEpochs_22
abbrev c_escutcheontop_TopEpochs_24 : XC := XC.region [⟨(some (ixOf 88)), (.p (.mov (.t (ixOf 8)))), none⟩,
  ⟨(some (ixOf 89)), (.p (.mov (.t (ixOf 13)))), none⟩,
  ⟨(some (ixOf 90)), (.e (.call 9 [(.t (ixOf 88)), (.t (ixOf 89))])), none⟩,
  ⟨(some (ixOf 87)), (.p (.mov (.t (ixOf 90)))), none⟩,
  ⟨(some (ixOf 91)), (.p (.extract (.t (ixOf 87)) 0)), none⟩,
  ⟨(some (ixOf 92)), (.p (.extract (.t (ixOf 87)) 1)), none⟩,
  ⟨(some (ixOf 14)), (.p (.mov (.t (ixOf 91)))), none⟩,
  ⟨(some (ixOf 15)), (.p (.mov (.t (ixOf 92)))), none⟩]
abbrev c_escutcheontop_TopEpochs_25 : XC := XC.region [⟨(some (ixOf 94)), (.p (.mov (.t (ixOf 9)))), none⟩,
  ⟨(some (ixOf 95)), (.p (.mov (.t (ixOf 14)))), none⟩,
  ⟨(some (ixOf 96)), (.e (.call 10 [(.t (ixOf 94)), (.t (ixOf 95))])), none⟩,
  ⟨(some (ixOf 93)), (.p (.mov (.t (ixOf 96)))), none⟩,
  ⟨(some (ixOf 97)), (.p (.extract (.t (ixOf 93)) 0)), none⟩,
  ⟨(some (ixOf 98)), (.p (.extract (.t (ixOf 93)) 1)), none⟩,
  ⟨(some (ixOf 16)), (.p (.mov (.t (ixOf 97)))), none⟩,
  ⟨(some (ixOf 17)), (.p (.mov (.t (ixOf 98)))), none⟩]
abbrev c_escutcheontop_TopEpochs_26 : XC := XC.region [⟨(some (ixOf 100)), (.p (.mov (.t (ixOf 10)))), none⟩,
  ⟨(some (ixOf 101)), (.p (.mov (.t (ixOf 13)))), none⟩,
  ⟨(some (ixOf 102)), (.e (.call 9 [(.t (ixOf 100)), (.t (ixOf 101))])), none⟩,
  ⟨(some (ixOf 99)), (.p (.mov (.t (ixOf 102)))), none⟩,
  ⟨(some (ixOf 103)), (.p (.extract (.t (ixOf 99)) 0)), none⟩,
  ⟨(some (ixOf 104)), (.p (.extract (.t (ixOf 99)) 1)), none⟩,
  ⟨(some (ixOf 18)), (.p (.mov (.t (ixOf 103)))), none⟩,
  ⟨(some (ixOf 19)), (.p (.mov (.t (ixOf 104)))), none⟩]
abbrev c_escutcheontop_TopEpochs_27 : XC := XC.region [⟨(some (ixOf 106)), (.p (.mov (.t (ixOf 11)))), none⟩,
  ⟨(some (ixOf 107)), (.p (.mov (.t (ixOf 18)))), none⟩,
  ⟨(some (ixOf 108)), (.e (.call 10 [(.t (ixOf 106)), (.t (ixOf 107))])), none⟩,
  ⟨(some (ixOf 105)), (.p (.mov (.t (ixOf 108)))), none⟩,
  ⟨(some (ixOf 109)), (.p (.extract (.t (ixOf 105)) 0)), none⟩,
  ⟨(some (ixOf 110)), (.p (.extract (.t (ixOf 105)) 1)), none⟩,
  ⟨(some (ixOf 20)), (.p (.mov (.t (ixOf 109)))), none⟩,
  ⟨(some (ixOf 21)), (.p (.mov (.t (ixOf 110)))), none⟩]
abbrev c_escutcheontop_TopEpochs_28 : XC := XC.region [⟨(some (ixOf 111)), (.p (.mov (.t (ixOf 15)))), none⟩,
  ⟨(some (ixOf 112)), (.p (.bin (.int .i64) .neq (.t (ixOf 111)) (.c (.int .i64 (.ofNat 0))))), none⟩,
  ⟨(some (ixOf 113)), (.p (.mov (.t (ixOf 112)))), none⟩,
  ⟨(some (ixOf 114)), (.p (.mov (.t (ixOf 17)))), (some ((ixOf 113), false))⟩,
  ⟨(some (ixOf 115)), (.p (.bin (.int .i64) .neq (.t (ixOf 114)) (.c (.int .i64 (.ofNat 0))))), (some ((ixOf 113), false))⟩,
  ⟨(some (ixOf 116)), (.p (.pick (.t (ixOf 113)) (.c (.bool true)) (.t (ixOf 115)))), none⟩,
  ⟨(some (ixOf 117)), (.p (.mov (.t (ixOf 116)))), none⟩,
  ⟨(some (ixOf 118)), (.p (.mov (.t (ixOf 19)))), (some ((ixOf 117), false))⟩,
  ⟨(some (ixOf 119)), (.p (.bin (.int .i64) .neq (.t (ixOf 118)) (.c (.int .i64 (.ofNat 0))))), (some ((ixOf 117), false))⟩,
  ⟨(some (ixOf 120)), (.p (.pick (.t (ixOf 117)) (.c (.bool true)) (.t (ixOf 119)))), none⟩,
  ⟨(some (ixOf 121)), (.p (.mov (.t (ixOf 120)))), none⟩,
  ⟨(some (ixOf 122)), (.p (.mov (.t (ixOf 21)))), (some ((ixOf 121), false))⟩,
  ⟨(some (ixOf 123)), (.p (.bin (.int .i64) .neq (.t (ixOf 122)) (.c (.int .i64 (.ofNat 0))))), (some ((ixOf 121), false))⟩,
  ⟨(some (ixOf 124)), (.p (.pick (.t (ixOf 121)) (.c (.bool true)) (.t (ixOf 123)))), none⟩,
  ⟨(some (ixOf 125)), (.p (.mov (.t (ixOf 124)))), none⟩,
  ⟨(some (ixOf 126)), (.p (.mov (.t (ixOf 16)))), (some ((ixOf 125), false))⟩,
  ⟨(some (ixOf 127)), (.r (.len (.slice 9) (.t (ixOf 126)))), (some ((ixOf 125), false))⟩,
  ⟨(some (ixOf 128)), (.p (.bin (.int .i64) .neq (.t (ixOf 127)) (.c (.int .i64 (.ofNat 1))))), (some ((ixOf 125), false))⟩,
  ⟨(some (ixOf 129)), (.p (.pick (.t (ixOf 125)) (.c (.bool true)) (.t (ixOf 128)))), none⟩,
  ⟨(some (ixOf 130)), (.p (.mov (.t (ixOf 129)))), none⟩,
  ⟨(some (ixOf 131)), (.p (.mov (.t (ixOf 20)))), (some ((ixOf 130), false))⟩,
  ⟨(some (ixOf 132)), (.r (.len (.slice 9) (.t (ixOf 131)))), (some ((ixOf 130), false))⟩,
  ⟨(some (ixOf 133)), (.p (.bin (.int .i64) .neq (.t (ixOf 132)) (.c (.int .i64 (.ofNat 1))))), (some ((ixOf 130), false))⟩,
  ⟨(some (ixOf 134)), (.p (.pick (.t (ixOf 130)) (.c (.bool true)) (.t (ixOf 133)))), none⟩,
  ⟨(some (ixOf 135)), (.p (.mov (.t (ixOf 134)))), none⟩,
  ⟨(some (ixOf 136)), (.p (.mov (.t (ixOf 16)))), (some ((ixOf 135), false))⟩,
  ⟨(some (ixOf 137)), (.p (.idxL 1 (.t (ixOf 136)) (.c (.int .i64 (.ofNat 0))))), (some ((ixOf 135), false))⟩,
  ⟨(some (ixOf 138)), (.r (.load .one (.t (ixOf 137)))), (some ((ixOf 135), false))⟩,
  ⟨(some (ixOf 139)), (.p (.mov (.t (ixOf 13)))), (some ((ixOf 135), false))⟩,
  ⟨(some (ixOf 140)), (.p (.bin .str .neq (.t (ixOf 138)) (.t (ixOf 139)))), (some ((ixOf 135), false))⟩,
  ⟨(some (ixOf 141)), (.p (.pick (.t (ixOf 135)) (.c (.bool true)) (.t (ixOf 140)))), none⟩,
  ⟨(some (ixOf 142)), (.p (.mov (.t (ixOf 141)))), none⟩,
  ⟨(some (ixOf 143)), (.p (.mov (.t (ixOf 20)))), (some ((ixOf 142), false))⟩,
  ⟨(some (ixOf 144)), (.p (.idxL 1 (.t (ixOf 143)) (.c (.int .i64 (.ofNat 0))))), (some ((ixOf 142), false))⟩,
  ⟨(some (ixOf 145)), (.r (.load .one (.t (ixOf 144)))), (some ((ixOf 142), false))⟩,
  ⟨(some (ixOf 146)), (.p (.mov (.t (ixOf 13)))), (some ((ixOf 142), false))⟩,
  ⟨(some (ixOf 147)), (.p (.bin .str .neq (.t (ixOf 145)) (.t (ixOf 146)))), (some ((ixOf 142), false))⟩,
  ⟨(some (ixOf 148)), (.p (.pick (.t (ixOf 142)) (.c (.bool true)) (.t (ixOf 147)))), none⟩,
  ⟨(some (ixOf 149)), (.p (.mov (.t (ixOf 148)))), none⟩,
  ⟨(some (ixOf 150)), (.p (.mov (.t (ixOf 14)))), (some ((ixOf 149), false))⟩,
  ⟨(some (ixOf 151)), (.r (.len .str (.t (ixOf 150)))), (some ((ixOf 149), false))⟩,
  ⟨(some (ixOf 152)), (.p (.mov (.t (ixOf 18)))), (some ((ixOf 149), false))⟩,
  ⟨(some (ixOf 153)), (.r (.len .str (.t (ixOf 152)))), (some ((ixOf 149), false))⟩,
  ⟨(some (ixOf 154)), (.p (.bin (.int .i64) .neq (.t (ixOf 151)) (.t (ixOf 153)))), (some ((ixOf 149), false))⟩,
  ⟨(some (ixOf 155)), (.p (.pick (.t (ixOf 149)) (.c (.bool true)) (.t (ixOf 154)))), none⟩]
abbrev c_escutcheontop_TopEpochs_29 : XC := XC.region [⟨(some (ixOf 6)), (.p (.mov (.c (.bool false)))), none⟩]
abbrev c_escutcheontop_TopEpochs_30 : XC := XC.seq c_escutcheontop_TopEpochs_29 .ret
abbrev c_escutcheontop_TopEpochs_31 : XC := XC.cond (.t (ixOf 155)) c_escutcheontop_TopEpochs_30 .skip
abbrev c_escutcheontop_TopEpochs_32 : XC := XC.seq c_escutcheontop_TopEpochs_28 c_escutcheontop_TopEpochs_31
abbrev c_escutcheontop_TopEpochs_33 : XC := XC.seq c_escutcheontop_TopEpochs_27 c_escutcheontop_TopEpochs_32
abbrev c_escutcheontop_TopEpochs_34 : XC := XC.seq c_escutcheontop_TopEpochs_26 c_escutcheontop_TopEpochs_33
abbrev c_escutcheontop_TopEpochs_35 : XC := XC.seq c_escutcheontop_TopEpochs_25 c_escutcheontop_TopEpochs_34
abbrev c_escutcheontop_TopEpochs_36 : XC := XC.seq c_escutcheontop_TopEpochs_24 c_escutcheontop_TopEpochs_35
abbrev c_escutcheontop_TopEpochs_37 : XC := XC.seq c_escutcheontop_TopEpochs_23 c_escutcheontop_TopEpochs_36
abbrev c_escutcheontop_TopEpochs_38 : XC := XC.seq c_escutcheontop_TopEpochs_18 c_escutcheontop_TopEpochs_37
abbrev c_escutcheontop_TopEpochs_39 : XC := XC.block 1 c_escutcheontop_TopEpochs_38
abbrev c_escutcheontop_TopEpochs_40 : XC := XC.region [⟨(some (ixOf 75)), (.p (.mov (.t (ixOf 12)))), none⟩,
  ⟨(some (ixOf 76)), (.p (.bin (.int .i64) .add (.t (ixOf 75)) (.c (.int .i64 (.ofNat 1))))), none⟩,
  ⟨(some (ixOf 12)), (.p (.mov (.t (ixOf 76)))), none⟩]
abbrev c_escutcheontop_TopEpochs_41 : XC := XC.seq c_escutcheontop_TopEpochs_39 c_escutcheontop_TopEpochs_40
abbrev c_escutcheontop_TopEpochs_42 : XC := XC.seq c_escutcheontop_TopEpochs_17 c_escutcheontop_TopEpochs_41
abbrev c_escutcheontop_TopEpochs_43 : XC := XC.loop c_escutcheontop_TopEpochs_42
abbrev c_escutcheontop_TopEpochs_44 : XC := XC.block 0 c_escutcheontop_TopEpochs_43
abbrev c_escutcheontop_TopEpochs_45 : XC := XC.seq c_escutcheontop_TopEpochs_14 c_escutcheontop_TopEpochs_44
abbrev c_escutcheontop_TopEpochs_46 : XC := XC.region [⟨(some (ixOf 6)), (.p (.mov (.c (.bool true)))), none⟩]
abbrev c_escutcheontop_TopEpochs_47 : XC := XC.seq c_escutcheontop_TopEpochs_46 .ret
abbrev c_escutcheontop_TopEpochs_48 : XC := XC.seq c_escutcheontop_TopEpochs_45 c_escutcheontop_TopEpochs_47
abbrev c_escutcheontop_TopEpochs_49 : XC := XC.seq c_escutcheontop_TopEpochs_13 c_escutcheontop_TopEpochs_48
abbrev c_escutcheontop_TopEpochs_50 : XC := XC.seq c_escutcheontop_TopEpochs_8 c_escutcheontop_TopEpochs_49
abbrev c_escutcheontop_TopEpochs_51 : XC := XC.seq c_escutcheontop_TopEpochs_7 c_escutcheontop_TopEpochs_50
abbrev c_escutcheontop_TopEpochs_52 : XC := XC.seq c_escutcheontop_TopEpochs_6 c_escutcheontop_TopEpochs_51
abbrev c_escutcheontop_TopEpochs_53 : XC := XC.seq c_escutcheontop_TopEpochs_5 c_escutcheontop_TopEpochs_52
abbrev c_escutcheontop_TopEpochs_54 : XC := XC.seq c_escutcheontop_TopEpochs_0 c_escutcheontop_TopEpochs_53
abbrev x_escutcheontop_TopEpochs : XFn := ⟨[.tmp (ixOf 6)], c_escutcheontop_TopEpochs_54⟩
theorem mk_escutcheontop_TopEpochs : mkFn tyT.get Tryz.f3 = some x_escutcheontop_TopEpochs := by kernel_rfl
theorem fn_escutcheontop_TopEpochs : E0.fn n_escutcheontop_TopEpochs = some (.fn x_escutcheontop_TopEpochs) := fn_of (by kernel_rfl) mk_escutcheontop_TopEpochs
-- escutcheon/escutcheonlaw5.Fill
abbrev n_escutcheonlaw5_Fill : Nat := 6
abbrev c_escutcheonlaw5_Fill_0 : XC := XC.region [⟨(some (ixOf 4)), (.p (.mov (.c (.str [])))), none⟩]
abbrev c_escutcheonlaw5_Fill_1 : XC := XC.region [⟨(some (ixOf 5)), (.p (.mov (.t (ixOf 0)))), none⟩,
  ⟨(some (ixOf 6)), (.r (.len .str (.t (ixOf 5)))), none⟩,
  ⟨(some (ixOf 7)), (.p (.mov (.t (ixOf 1)))), none⟩,
  ⟨(some (ixOf 8)), (.p (.bin (.int .i64) .lss (.t (ixOf 6)) (.t (ixOf 7)))), none⟩]
abbrev c_escutcheonlaw5_Fill_2 : XC := XC.cond (.t (ixOf 8)) .skip (.exit 0)
abbrev c_escutcheonlaw5_Fill_3 : XC := XC.seq c_escutcheonlaw5_Fill_1 c_escutcheonlaw5_Fill_2
abbrev c_escutcheonlaw5_Fill_4 : XC := XC.region [⟨(some (ixOf 9)), (.p (.mov (.t (ixOf 0)))), none⟩,
  ⟨(some (ixOf 10)), (.p (.bin .str .add (.t (ixOf 9)) (.c (.str [0])))), none⟩,
  ⟨(some (ixOf 0)), (.p (.mov (.t (ixOf 10)))), none⟩]
abbrev c_escutcheonlaw5_Fill_5 : XC := XC.block 1 c_escutcheonlaw5_Fill_4
abbrev c_escutcheonlaw5_Fill_6 : XC := XC.seq c_escutcheonlaw5_Fill_3 c_escutcheonlaw5_Fill_5
abbrev c_escutcheonlaw5_Fill_7 : XC := XC.loop c_escutcheonlaw5_Fill_6
abbrev c_escutcheonlaw5_Fill_8 : XC := XC.block 0 c_escutcheonlaw5_Fill_7
abbrev c_escutcheonlaw5_Fill_9 : XC := XC.region [⟨(some (ixOf 11)), (.p (.mov (.t (ixOf 0)))), none⟩,
  ⟨(some (ixOf 12)), (.p (.mov (.t (ixOf 1)))), none⟩,
  ⟨(some (ixOf 13)), (.p (.sliceS (.t (ixOf 11)) none (some (.t (ixOf 12))))), none⟩,
  ⟨(some (ixOf 4)), (.p (.mov (.t (ixOf 13)))), none⟩]
abbrev c_escutcheonlaw5_Fill_10 : XC := XC.seq c_escutcheonlaw5_Fill_9 .ret
abbrev c_escutcheonlaw5_Fill_11 : XC := XC.seq c_escutcheonlaw5_Fill_8 c_escutcheonlaw5_Fill_10
abbrev c_escutcheonlaw5_Fill_12 : XC := XC.seq c_escutcheonlaw5_Fill_0 c_escutcheonlaw5_Fill_11
abbrev x_escutcheonlaw5_Fill : XFn := ⟨[.tmp (ixOf 4)], c_escutcheonlaw5_Fill_12⟩
theorem mk_escutcheonlaw5_Fill : mkFn tyT.get Tryz.f6 = some x_escutcheonlaw5_Fill := by kernel_rfl
theorem fn_escutcheonlaw5_Fill : E0.fn n_escutcheonlaw5_Fill = some (.fn x_escutcheonlaw5_Fill) := fn_of (by kernel_rfl) mk_escutcheonlaw5_Fill
end Go.Proofs.XCode
end
section
namespace Go.Proofs.XCode
open Go.X
set_option linter.unusedSimpArgs false
set_option linter.unusedVariables false
theorem get_new_same (h : XH) (o : XO) : (h.new o).get h.next = some o := by rw [XH.get_new, if_pos rfl]
theorem sumL_len (b : List Nat) : (sumL b).length = 32 := outF_len _ 8
theorem sumL_lt (b : List Nat) : ∀ i, (sumL b).getD i 0 < 256 := outF_lt _ 8
noncomputable def macK (key : List Nat) : List Nat := key ++ List.replicate (64 - key.length) 0
noncomputable def macIn (key b : List Nat) : List Nat := sumL (xorL (macK key) (List.replicate 64 54) ++ b)
noncomputable def macL (key b : List Nat) : List Nat := sumL (xorL (macK key) (List.replicate 64 92) ++ macIn key b)
theorem macL_len (key b : List Nat) : (macL key b).length = 32 := sumL_len _
theorem macL_lt (key b : List Nat) : ∀ i, (macL key b).getD i 0 < 256 := sumL_lt _
theorem rep_lt' (n c : Nat) (h : c < 256) : ∀ i, (List.replicate n c).getD i 0 < 256 := fun i => by
  rw [List.getD_eq_getElem?_getD, List.getElem?_replicate]; split
  · exact h
  · exact (by decide : 0 < 256)
theorem macK_len {key : List Nat} (h : key.length ≤ 64) : (macK key).length = 64 := by simp [macK]; omega
theorem macK_lt {key : List Nat} (h : ∀ i, key.getD i 0 < 256) : ∀ i, (macK key).getD i 0 < 256 := app_lt h (rep_lt' _ 0 (by decide))
theorem Of_call (key b : List Nat) (hk : ∀ i, key.getD i 0 < 256) (hb : ∀ i, b.getD i 0 < 256) (hkl : key.length ≤ 64) (hbl : b.length ≤ 900) (h : XH) :
    CallEv E0 n_mac_Of [.str key, .str b] h (fun r k => r = .str (macL key b) ∧ HExt h k) := by
  have hx1 := xorL_lt (macK_lt hk) (rep_lt' 64 54 (by decide))
  have hx2 := xorL_lt (macK_lt hk) (rep_lt' 64 92 (by decide))
  have l1 : (xorL (macK key) (List.replicate 64 54)).length = 64 := by rw [xorL_len, macK_len hkl, List.length_replicate]; rfl
  have l2 : (xorL (macK key) (List.replicate 64 92)).length = 64 := by rw [xorL_len, macK_len hkl, List.length_replicate]; rfl
  have la : (List.replicate (64 - key.length) 0 : List Nat).length = 64 - key.length := List.length_replicate
  have lb : (macIn key b).length = 32 := sumL_len _
  refine call_fn fn_mac_Of ?_
  simp only [args0_cons, args0_nil]
  repeat with_reducible first | refine nx ?_ | (refine nv ?_; simp (disch := first | omega | decide) only [bG]; refine rg ?_)
  refine go_cond ?_
  simp (disch := first | omega | decide) only [bG]
  refine condGo_split (fun hc => ?_) (fun hc => ?_)
  · exfalso
    have hc := of_decide_eq_true hc
    omega
  repeat with_reducible first | refine nx ?_ | (refine nv ?_; simp (disch := first | omega | decide) only [bG]; refine rg ?_)
  refine callGo_of (repeat_ev 0 (64 - key.length) (by omega) _) ?_
  repeat with_reducible first | refine nx ?_ | (refine nv ?_; simp (disch := first | omega | decide) only [bG]; refine rg ?_)
  refine callGo_of (repeat_ev 54 64 (by decide) _) ?_
  repeat with_reducible first | refine nx ?_ | (refine nv ?_; simp (disch := first | omega | decide) only [bG]; refine rg ?_)
  refine callGo_ex (xor_call (macK key) (List.replicate 64 54) (macK_lt hk) (rep_lt' 64 54 (by decide)) (by rw [macK_len hkl]; decide) _) ?_
  rintro _ k1 ⟨rfl, x1⟩
  repeat with_reducible first | refine nx ?_ | (refine nv ?_; simp (disch := first | omega | decide) only [bG]; refine rg ?_)
  refine callGo_ex (Sum_call (xorL (macK key) (List.replicate 64 54) ++ b) (app_lt hx1 hb) (by rw [List.length_append, l1]; omega) _) ?_
  rintro v2 k2 ⟨e2, x2⟩
  obtain rfl : v2 = .str (macIn key b) := e2
  repeat with_reducible first | refine nx ?_ | (refine nv ?_; simp (disch := first | omega | decide) only [bG]; refine rg ?_)
  refine callGo_of (repeat_ev 92 64 (by decide) _) ?_
  repeat with_reducible first | refine nx ?_ | (refine nv ?_; simp (disch := first | omega | decide) only [bG]; refine rg ?_)
  refine callGo_ex (xor_call (macK key) (List.replicate 64 92) (macK_lt hk) (rep_lt' 64 92 (by decide)) (by rw [macK_len hkl]; decide) _) ?_
  rintro _ k3 ⟨rfl, x3⟩
  repeat with_reducible first | refine nx ?_ | (refine nv ?_; simp (disch := first | omega | decide) only [bG]; refine rg ?_)
  refine callGo_ex (Sum_call (xorL (macK key) (List.replicate 64 92) ++ macIn key b) (app_lt hx2 (sumL_lt _)) (by rw [List.length_append, l2, macIn, sumL_len]; decide) _) ?_
  rintro _ k4 ⟨rfl, x4⟩
  repeat with_reducible first | refine nx ?_ | (refine nv ?_; simp (disch := first | omega | decide) only [bG]; refine rg ?_)
  refine ret_nil.2 ⟨_, fin_tmp (.inr rfl), ?_, ((x1.trans x2).trans x3).trans x4⟩
  simp (disch := first | omega | decide) only [bG]
  rfl
theorem Extract_call (key b : List Nat) (hk : ∀ i, key.getD i 0 < 256) (hb : ∀ i, b.getD i 0 < 256) (hkl : key.length ≤ 64) (hbl : b.length ≤ 900) (h : XH) :
    CallEv E0 n_derive_Extract [.str key, .str b] h (fun r k => r = .str (macL key b) ∧ HExt h k) := by
  refine call_fn fn_derive_Extract ?_
  simp only [args0_cons, args0_nil]
  repeat with_reducible first | refine nx ?_ | (refine nv ?_; simp (disch := first | omega | decide) only [bG]; refine rg ?_)
  refine callGo_ex (Of_call key b hk hb hkl hbl _) ?_
  rintro _ k1 ⟨rfl, x1⟩
  repeat with_reducible first | refine nx ?_ | (refine nv ?_; simp (disch := first | omega | decide) only [bG]; refine rg ?_)
  refine ret_nil.2 ⟨_, fin_tmp (.inr rfl), ?_, x1⟩
  simp (disch := first | omega | decide) only [bG]
theorem b_lss_neg (k : IntKind) (t : XK) (a b : Nat) : xbin t .lss (.int k (.negSucc a)) (.int k (.ofNat b)) = some (.bool true) := by cases k <;> rfl
noncomputable def expandL (key info : List Nat) : List Nat := macL key (info ++ [1])
theorem Expand_call (key info : List Nat) (hk : ∀ i, key.getD i 0 < 256) (hb : ∀ i, info.getD i 0 < 256) (hkl : key.length ≤ 64) (hbl : info.length ≤ 800) (h : XH) :
    CallEv E0 n_derive_Expand [.str key, .str info, .int .i64 (.ofNat 32)] h (fun r k => r = .tup [.str (expandL key info), .bool true] ∧ HExt h k) := by
  have l0 : ([] : List Nat).length = 0 := rfl
  have l1 : (info ++ [1]).length = info.length + 1 := by simp
  have l2 : ([1] : List Nat).length = 1 := rfl
  have l3 := macL_len key (info ++ [1])
  have cv : ∀ h' : XH, rConvBS (h'.new (.cells [.int .u8 (.ofNat 1)] false none)) (.slice h'.next 0 1 1 1 true) = some (.str [1]) := fun h' => by
    have g : (h'.new (.cells [.int .u8 (.ofNat 1)] false none)).get h'.next = some (.cells (u8s [1]) false none) := by rw [XH.get_new, if_pos rfl]; rfl
    exact r_convBS (s := [1]) (by rw [cells_b g (by decide)]; rfl) (by decide)
  have d1 : decide (32 < 0) = false := rfl
  have d2 : decide (8160 < 32) = false := rfl
  have d3 : decide (0 < 32) = true := rfl
  have d4 : decide (32 < 32) = false := rfl
  refine call_fn fn_derive_Expand ?_
  simp only [args0_cons, args0_nil]
  repeat with_reducible first | refine nx ?_ | (refine nw ?_; simp (disch := first | omega | decide) only [bG, d1, d2]; refine rg ?_)
  refine go_loop hE0 ?_
  repeat with_reducible first | refine nx ?_ | (refine nw ?_; simp (disch := first | omega | decide) only [bG, l0, d3, a_build1, cv, List.nil_append]; refine rg ?_)
  refine callGo_ex (Of_call key (info ++ [1]) hk (app_lt hb (fun i => by match i with | 0 => decide | i + 1 => simp)) hkl (by omega) _) ?_
  rintro _ k1 ⟨rfl, x1⟩
  repeat with_reducible first | refine nx ?_ | (refine nw ?_; simp (disch := first | omega | decide) only [bG, List.nil_append]; refine rg ?_)
  refine ret_loop.2 (go_loop hE0 ?_)
  repeat with_reducible first | refine nx ?_ | (refine nw ?_; simp (disch := first | omega | decide) only [bG, l3, d4]; refine rg ?_)
  refine ret_nil.2 ⟨_, fin_tmps (l := [6, 7]) (.inr rfl), ?_, ((HExt.refl h).new _).trans x1⟩
  simp only [List.map]
  simp (disch := first | omega | decide) only [bG, List.nil_append]
  rw [List.take_of_length_le (by omega)]
  rfl
noncomputable def keyL (secret salt info : List Nat) : List Nat := expandL (macL salt secret) info
theorem expandL_len (k i : List Nat) : (expandL k i).length = 32 := macL_len _ _
theorem expandL_lt (k i : List Nat) : ∀ j, (expandL k i).getD j 0 < 256 := macL_lt _ _
theorem Key_call (secret salt info : List Nat) (h1 : ∀ i, secret.getD i 0 < 256) (h2 : ∀ i, salt.getD i 0 < 256) (h3 : ∀ i, info.getD i 0 < 256) (l1 : secret.length ≤ 900) (l2 : salt.length ≤ 64) (l3 : info.length ≤ 800) (h : XH) :
    CallEv E0 n_derive_Key [.str secret, .str salt, .str info] h (fun r k => r = .str (keyL secret salt info) ∧ HExt h k) := by
  refine call_fn fn_derive_Key ?_
  simp only [args0_cons, args0_nil]
  repeat with_reducible first | refine nx ?_ | (refine nv ?_; simp (disch := first | omega | decide) only [bG]; refine rg ?_)
  refine callGo_ex (Extract_call salt secret h2 h1 l2 l1 _) ?_
  rintro _ k1 ⟨rfl, x1⟩
  repeat with_reducible first | refine nx ?_ | (refine nv ?_; simp (disch := first | omega | decide) only [bG]; refine rg ?_)
  refine callGo_ex (Expand_call (macL salt secret) info (macL_lt _ _) h3 (by rw [macL_len]; decide) l3 _) ?_
  rintro _ k2 ⟨rfl, x2⟩
  repeat with_reducible first | refine nx ?_ | (refine nv ?_; simp (disch := first | omega | decide) only [bG]; refine rg ?_)
  refine ret_nil.2 ⟨_, fin_tmp (.inr rfl), ?_, x1.trans x2⟩
  simp (disch := first | omega | decide) only [bG]
  rfl
def upB : List Nat := [117, 112]
def downB : List Nat := [100, 111, 119, 110]
theorem upB_lt : ∀ i, upB.getD i 0 < 256 := fun i => by match i with | 0 => decide | 1 => decide | i + 2 => simp [upB]
theorem downB_lt : ∀ i, downB.getD i 0 < 256 := fun i => by match i with | 0 => decide | 1 => decide | 2 => decide | 3 => decide | i + 4 => simp [downB]
noncomputable def nextL (key : List Nat) : List Nat := expandL key [114, 97, 116, 99, 104, 101, 116]
theorem ratB_lt : ∀ i, ([114, 97, 116, 99, 104, 101, 116] : List Nat).getD i 0 < 256 := fun i => by
  match i with
  | 0 => decide
  | 1 => decide
  | 2 => decide
  | 3 => decide
  | 4 => decide
  | 5 => decide
  | 6 => decide
  | i + 7 => simp
theorem Next_call (key : List Nat) (hk : ∀ i, key.getD i 0 < 256) (hl : key.length ≤ 64) (h : XH) :
    CallEv E0 n_ratchet_Next [.str key] h (fun r k => r = .str (nextL key) ∧ HExt h k) := by
  refine call_fn fn_ratchet_Next ?_
  simp only [args0_cons, args0_nil]
  repeat with_reducible first | refine nx ?_ | (refine nv ?_; simp (disch := first | omega | decide) only [bG]; refine rg ?_)
  refine callGo_ex (Expand_call key [114, 97, 116, 99, 104, 101, 116] hk ratB_lt hl (by decide) _) ?_
  rintro _ k1 ⟨rfl, x1⟩
  repeat with_reducible first | refine nx ?_ | (refine nv ?_; simp (disch := first | omega | decide) only [bG]; refine rg ?_)
  refine ret_nil.2 ⟨_, fin_tmp (.inr rfl), ?_, x1⟩
  simp (disch := first | omega | decide) only [bG]
  rfl
theorem Session_call (secret salt : List Nat) (h1 : ∀ i, secret.getD i 0 < 256) (h2 : ∀ i, salt.getD i 0 < 256) (l1 : secret.length ≤ 900) (l2 : salt.length ≤ 64) (h : XH) :
    CallEv E0 n_ratchet_Session [.str secret, .str salt] h (fun r k => r = .agg [.str (keyL secret salt upB), .str (keyL secret salt downB)] ∧ HExt h k) := by
  refine call_fn fn_ratchet_Session ?_
  simp only [args0_cons, args0_nil]
  repeat with_reducible first | refine nx ?_ | (refine nv ?_; simp (disch := first | omega | decide) only [bG]; refine rg ?_)
  refine callGo_ex (Key_call secret salt upB h1 h2 upB_lt l1 l2 (by decide) _) ?_
  rintro _ k1 ⟨rfl, x1⟩
  repeat with_reducible first | refine nx ?_ | (refine nv ?_; simp (disch := first | omega | decide) only [bG]; refine rg ?_)
  refine callGo_ex (Key_call secret salt downB h1 h2 downB_lt l1 l2 (by decide) _) ?_
  rintro _ k2 ⟨rfl, x2⟩
  have g2 := (x2.get h.next (by have := x1.le; simp only [XH.next_new] at this; omega)).trans ((x1.get h.next (by simp only [XH.next_new]; omega)).trans (get_new_same h _))
  have bd : pBuild [.str [], .str []] [(0, 1, .str (keyL secret salt upB)), (1, 1, .str (keyL secret salt downB))] = some (.agg [.str (keyL secret salt upB), .str (keyL secret salt downB)]) := rfl
  have st := e_storeN g2 (n := 2) (vs := [.str (keyL secret salt upB), .str (keyL secret salt downB)]) rfl rfl rfl
  repeat with_reducible first | refine nx ?_ | (refine nv ?_; simp (disch := first | omega | decide) only [bG, bd, st]; refine rg ?_)
  refine ret_nil.2 ⟨_, fin_cell (v := .agg [.str (keyL secret salt upB), .str (keyL secret salt downB)]) (.inr rfl) ?_, rfl, ((((HExt.refl h).new _).trans x1).trans x2).set (m := h.next) (Nat.le_refl _) _⟩
  simp (disch := first | omega | decide) only [bG]
  exact r_loadN (by rw [XH.get_set, if_pos rfl]) rfl
theorem Epoch_call (a : Nat) (ha : a < 9000000000000000000) (h : XH) : CallEv E0 n_ratchet_Epoch [.int .i64 (.ofNat a)] h (fun r k => r = .int .i64 (.ofNat (a / 8)) ∧ k = h) := by
  have hm : pMax [.int .i64 (.ofNat a), .int .i64 (.ofNat 0)] = some (.int .i64 (.ofNat a)) := rfl
  have hq : a / 8 ≤ a := Nat.div_le_self _ _
  refine call_fn fn_ratchet_Epoch ?_
  simp only [args0_cons, args0_nil]
  repeat with_reducible first | refine nx ?_ | (refine nv ?_; simp (disch := first | omega | decide) only [bG, hm]; refine rg ?_)
  refine ret_nil.2 ⟨_, fin_tmp (.inr rfl), ?_, rfl⟩
  simp (disch := first | omega | decide) only [bG]
theorem Nonce_call (a : Nat) (ha : a < 9000000000000000000) (h : XH) : CallEv E0 n_ratchet_Nonce [.int .i64 (.ofNat a)] h (fun r k => r = .str (List.replicate 4 0 ++ putBig a 8) ∧ HExt h k) := by
  have d1 : decide (a < 0) = false := rfl
  have l1 : (List.replicate 4 0 : List Nat).length = 4 := rfl
  have l2 := putBig_len a 8
  refine call_fn fn_ratchet_Nonce ?_
  simp only [args0_cons, args0_nil]
  repeat with_reducible first | refine nx ?_ | (refine nw ?_; simp (disch := first | omega | decide) only [bG, d1]; refine rg ?_)
  refine callGo_of (repeat_ev 0 4 (by decide) _) ?_
  repeat with_reducible first | refine nx ?_ | (refine nw ?_; simp (disch := first | omega | decide) only [bG]; refine rg ?_)
  refine callGo_ex (putBig_call a 8 (by omega) (by decide) (by decide) _) ?_
  rintro _ k1 ⟨rfl, x1⟩
  repeat with_reducible first | refine nx ?_ | (refine nw ?_; simp (disch := first | omega | decide) only [bG]; refine rg ?_)
  refine ret_nil.2 ⟨_, fin_tmp (.inr rfl), ?_, x1⟩
  simp (disch := first | omega | decide) only [bG]
theorem load64_fn : E0.fn 55 = some (.intr 7) := intr_of (by kernel_rfl)
theorem add64i_fn : E0.fn 48 = some (.intr 9) := intr_of (by kernel_rfl)
theorem iLoad_ev (b n : Nat) (ro : Bool) (tg : Option Nat) (h : XH) (hg : h.get b = some (.cells [.int .i64 (.ofNat n)] ro tg)) : CallEv E0 55 [.ptr b 0] h (fun r k => r = .int .i64 (.ofNat n) ∧ k = h) := by
  refine call_intr' load64_fn 0 (v := .int .i64 (.ofNat n)) (h' := h) ?_ ⟨rfl, rfl⟩
  have hE : E0.intr = intr := rfl
  have hi : ∀ c, intr c 7 [.ptr b 0] h = iLoad .i64 [.ptr b 0] h := fun c => rfl
  rw [hE, hi]
  simp only [iLoad, cellAt, hg]
  rfl
theorem iAdd_ev (b n : Nat) (tg : Option Nat) (h : XH) (hn : n < 9000000000000000000) (hg : h.get b = some (.cells [.int .i64 (.ofNat n)] false tg)) : CallEv E0 48 [.ptr b 0, .int .i64 (.ofNat 1)] h (fun r k => r = .int .i64 (.ofNat (n + 1)) ∧ k = h.set b (.cells [.int .i64 (.ofNat (n + 1))] false tg)) := by
  refine call_intr' add64i_fn 0 (v := .int .i64 (.ofNat (n + 1))) (h' := h.set b (.cells [.int .i64 (.ofNat (n + 1))] false tg)) ?_ ⟨rfl, rfl⟩
  have hE : E0.intr = intr := rfl
  have hi : ∀ c, intr c 9 [.ptr b 0, .int .i64 (.ofNat 1)] h = iAdd .i64 [.ptr b 0, .int .i64 (.ofNat 1)] h := fun c => rfl
  have hw : wrapX .i64 (Int.ofNat n + Int.ofNat 1) = .ofNat (n + 1) := wrap_i64 (n := n + 1) (by omega)
  have hw2 : wr h b 0 [.int .i64 (.ofNat (n + 1))] = some (h.set b (.cells [.int .i64 (.ofNat (n + 1))] false tg)) := by
    simp only [wr, hg]
    rfl
  rw [hE, hi]
  simp only [iAdd, cellAt, hg, nth_eq, List.getElem?_cons_zero, hw, hw2]
  rfl
theorem Load_call (b n : Nat) (ro : Bool) (tg : Option Nat) (h : XH) (hg : h.get b = some (.cells [.int .i64 (.ofNat n)] ro tg)) : CallEv E0 n_sync_atomic_Int64_Load [.ptr b 0] h (fun r k => r = .int .i64 (.ofNat n) ∧ k = h) := by
  refine call_fn fn_sync_atomic_Int64_Load ?_
  simp only [args0_cons, args0_nil]
  repeat with_reducible first | refine nx ?_ | (refine nv ?_; simp (disch := first | omega | decide) only [bG]; refine rg ?_)
  refine callGo_of (iLoad_ev b n ro tg _ hg) ?_
  repeat with_reducible first | refine nx ?_ | (refine nv ?_; simp (disch := first | omega | decide) only [bG]; refine rg ?_)
  refine ret_nil.2 ⟨_, fin_tmp (.inr rfl), ?_, rfl⟩
  simp (disch := first | omega | decide) only [bG]
theorem Add_call1 (b n : Nat) (tg : Option Nat) (h : XH) (hn : n < 9000000000000000000) (hg : h.get b = some (.cells [.int .i64 (.ofNat n)] false tg)) : CallEv E0 n_sync_atomic_Int64_Add [.ptr b 0, .int .i64 (.ofNat 1)] h (fun r k => r = .int .i64 (.ofNat (n + 1)) ∧ k = h.set b (.cells [.int .i64 (.ofNat (n + 1))] false tg)) := by
  refine call_fn fn_sync_atomic_Int64_Add ?_
  simp only [args0_cons, args0_nil]
  repeat with_reducible first | refine nx ?_ | (refine nv ?_; simp (disch := first | omega | decide) only [bG]; refine rg ?_)
  refine callGo_of (iAdd_ev b n tg _ hn hg) ?_
  repeat with_reducible first | refine nx ?_ | (refine nv ?_; simp (disch := first | omega | decide) only [bG]; refine rg ?_)
  refine ret_nil.2 ⟨_, fin_tmp (.inr rfl), ?_, rfl⟩
  simp (disch := first | omega | decide) only [bG]
noncomputable def atL (key : List Nat) : Nat → List Nat
  | 0 => key
  | n + 1 => nextL (atL key n)
theorem atL_len {key : List Nat} (h : key.length = 32) : ∀ n, (atL key n).length = 32
  | 0 => h
  | n + 1 => expandL_len _ _
theorem atL_lt {key : List Nat} (h : ∀ i, key.getD i 0 < 256) : ∀ n i, (atL key n).getD i 0 < 256
  | 0 => h
  | n + 1 => expandL_lt _ _
theorem At_call (key : List Nat) (e : Nat) (hk : ∀ i, key.getD i 0 < 256) (hl : key.length = 32) (he : e ≤ 100) (h : XH) :
    CallEv E0 n_ratchet_At [.str key, .int .i64 (.ofNat e)] h (fun r k => r = .tup [.str (atL key e), .bool true] ∧ HExt h k) := by
  have d1 : decide (e < 0) = false := rfl
  have d2 : decide (100 < e) = false := decide_eq_false (by omega)
  refine call_fn fn_ratchet_At ?_
  simp only [args0_cons, args0_nil]
  repeat with_reducible first | refine nx ?_ | (refine nw ?_; simp (disch := first | omega | decide) only [bG, d1, d2]; refine rg ?_)
  refine go_loop_ind hE0 (fun m fr k => ∃ i, m = e - i ∧ i ≤ e ∧ HExt h k ∧ h.next + 1 ≤ k.next ∧ (∃ tg, k.get h.next = some (.cells [.int .i64 (.ofNat i)] false tg)) ∧
      ev fr (.t (ixOf 0)) = .str (atL key i) ∧ ev fr (.t (ixOf 1)) = .int .i64 (.ofNat e) ∧ ev fr (.t (ixOf 6)) = .ptr h.next 0) ?_ (n := e) ?_
  · rintro m fr k IH ⟨i, rfl, hi, hx, hn, ⟨tg, hg⟩, f0, f1, f6⟩
    repeat with_reducible first | refine nx ?_ | (refine nv ?_; simp (disch := first | omega | decide) only [bG, f6]; refine rg ?_)
    refine callGo_of (Load_call h.next i false tg k hg) ?_
    repeat with_reducible first | refine nx ?_ | (refine nv ?_; simp (disch := first | omega | decide) only [bG, f1]; refine rg ?_)
    refine go_cond ?_
    simp (disch := first | omega | decide) only [bG]
    refine condGo_split (fun hc => ?_) (fun hc => ?_)
    · have hc := of_decide_eq_true hc
      repeat with_reducible first | refine nx ?_ | (refine nv ?_; simp (disch := first | omega | decide) only [bG, f0]; refine rg ?_)
      refine callGo_ex (Next_call (atL key i) (atL_lt hk i) (by rw [atL_len hl]; decide) k) ?_
      rintro _ k1 ⟨rfl, x1⟩
      repeat with_reducible first | refine nx ?_ | (refine nv ?_; simp (disch := first | omega | decide) only [bG, f6]; refine rg ?_)
      have g1 := (x1.get h.next (by omega)).trans hg
      have hk1 := x1.le
      refine callGo_of (Add_call1 h.next i tg k1 (by omega) g1) ?_
      repeat with_reducible first | refine nx ?_ | (refine nv ?_; simp (disch := first | omega | decide) only [bG]; refine rg ?_)
      refine ret_loop.2 (IH (e - (i + 1)) _ _ (by omega) ⟨i + 1, rfl, by omega, (hx.trans x1).set (m := h.next) (Nat.le_refl _) _, by simp only [XH.next_set]; omega, ⟨tg, by rw [XH.get_set, if_pos rfl]⟩, ?_, ?_, ?_⟩) <;> simp (disch := first | omega | decide) only [bG, f0, f1, f6]
      rfl
    · have hc := of_decide_eq_false hc
      obtain rfl : i = e := by omega
      repeat with_reducible first | refine nx ?_ | (refine nv ?_; simp (disch := first | omega | decide) only [bG, f0]; refine rg ?_)
      refine ret_nil.2 ⟨_, fin_tmps (l := [4, 5]) (.inr rfl), ?_, hx⟩
      simp only [List.map]
      simp (disch := first | omega | decide) only [bG, f0]
      rfl
  · refine ⟨0, rfl, by omega, (HExt.refl h).new _, by simp only [XH.next_new]; omega, ⟨_, get_new_same _ _⟩, ?_, ?_, ?_⟩ <;> simp (disch := first | omega | decide) only [bG]
    rfl
end Go.Proofs.XCode
end
section
namespace Go.Proofs.XCode
open Go.X
set_option maxRecDepth 100000
noncomputable def ascO : XO := (.cells [(.int .u8 (.ofNat 0)), (.int .u8 (.ofNat 0)), (.int .u8 (.ofNat 0)), (.int .u8 (.ofNat 0)), (.int .u8 (.ofNat 0)), (.int .u8 (.ofNat 0)), (.int .u8 (.ofNat 0)), (.int .u8 (.ofNat 0)), (.int .u8 (.ofNat 0)), (.int .u8 (.ofNat 1)), (.int .u8 (.ofNat 1)), (.int .u8 (.ofNat 1)), (.int .u8 (.ofNat 1)), (.int .u8 (.ofNat 1)), (.int .u8 (.ofNat 0)), (.int .u8 (.ofNat 0)), (.int .u8 (.ofNat 0)), (.int .u8 (.ofNat 0)), (.int .u8 (.ofNat 0)), (.int .u8 (.ofNat 0)), (.int .u8 (.ofNat 0)), (.int .u8 (.ofNat 0)), (.int .u8 (.ofNat 0)), (.int .u8 (.ofNat 0)), (.int .u8 (.ofNat 0)), (.int .u8 (.ofNat 0)), (.int .u8 (.ofNat 0)), (.int .u8 (.ofNat 0)), (.int .u8 (.ofNat 0)), (.int .u8 (.ofNat 0)), (.int .u8 (.ofNat 0)), (.int .u8 (.ofNat 0)), (.int .u8 (.ofNat 1)), (.int .u8 (.ofNat 0)), (.int .u8 (.ofNat 0)), (.int .u8 (.ofNat 0)), (.int .u8 (.ofNat 0)), (.int .u8 (.ofNat 0)), (.int .u8 (.ofNat 0)), (.int .u8 (.ofNat 0)), (.int .u8 (.ofNat 0)), (.int .u8 (.ofNat 0)), (.int .u8 (.ofNat 0)), (.int .u8 (.ofNat 0)), (.int .u8 (.ofNat 0)), (.int .u8 (.ofNat 0)), (.int .u8 (.ofNat 0)), (.int .u8 (.ofNat 0)), (.int .u8 (.ofNat 0)), (.int .u8 (.ofNat 0)), (.int .u8 (.ofNat 0)), (.int .u8 (.ofNat 0)), (.int .u8 (.ofNat 0)), (.int .u8 (.ofNat 0)), (.int .u8 (.ofNat 0)), (.int .u8 (.ofNat 0)), (.int .u8 (.ofNat 0)), (.int .u8 (.ofNat 0)), (.int .u8 (.ofNat 0)), (.int .u8 (.ofNat 0)), (.int .u8 (.ofNat 0)), (.int .u8 (.ofNat 0)), (.int .u8 (.ofNat 0)), (.int .u8 (.ofNat 0)), (.int .u8 (.ofNat 0)), (.int .u8 (.ofNat 0)), (.int .u8 (.ofNat 0)), (.int .u8 (.ofNat 0)), (.int .u8 (.ofNat 0)), (.int .u8 (.ofNat 0)), (.int .u8 (.ofNat 0)), (.int .u8 (.ofNat 0)), (.int .u8 (.ofNat 0)), (.int .u8 (.ofNat 0)), (.int .u8 (.ofNat 0)), (.int .u8 (.ofNat 0)), (.int .u8 (.ofNat 0)), (.int .u8 (.ofNat 0)), (.int .u8 (.ofNat 0)), (.int .u8 (.ofNat 0)), (.int .u8 (.ofNat 0)), (.int .u8 (.ofNat 0)), (.int .u8 (.ofNat 0)), (.int .u8 (.ofNat 0)), (.int .u8 (.ofNat 0)), (.int .u8 (.ofNat 0)), (.int .u8 (.ofNat 0)), (.int .u8 (.ofNat 0)), (.int .u8 (.ofNat 0)), (.int .u8 (.ofNat 0)), (.int .u8 (.ofNat 0)), (.int .u8 (.ofNat 0)), (.int .u8 (.ofNat 0)), (.int .u8 (.ofNat 0)), (.int .u8 (.ofNat 0)), (.int .u8 (.ofNat 0)), (.int .u8 (.ofNat 0)), (.int .u8 (.ofNat 0)), (.int .u8 (.ofNat 0)), (.int .u8 (.ofNat 0)), (.int .u8 (.ofNat 0)), (.int .u8 (.ofNat 0)), (.int .u8 (.ofNat 0)), (.int .u8 (.ofNat 0)), (.int .u8 (.ofNat 0)), (.int .u8 (.ofNat 0)), (.int .u8 (.ofNat 0)), (.int .u8 (.ofNat 0)), (.int .u8 (.ofNat 0)), (.int .u8 (.ofNat 0)), (.int .u8 (.ofNat 0)), (.int .u8 (.ofNat 0)), (.int .u8 (.ofNat 0)), (.int .u8 (.ofNat 0)), (.int .u8 (.ofNat 0)), (.int .u8 (.ofNat 0)), (.int .u8 (.ofNat 0)), (.int .u8 (.ofNat 0)), (.int .u8 (.ofNat 0)), (.int .u8 (.ofNat 0)), (.int .u8 (.ofNat 0)), (.int .u8 (.ofNat 0)), (.int .u8 (.ofNat 0)), (.int .u8 (.ofNat 0)), (.int .u8 (.ofNat 0)), (.int .u8 (.ofNat 0)), (.int .u8 (.ofNat 0)), (.int .u8 (.ofNat 0)), (.int .u8 (.ofNat 0)), (.int .u8 (.ofNat 0)), (.int .u8 (.ofNat 0)), (.int .u8 (.ofNat 0)), (.int .u8 (.ofNat 0)), (.int .u8 (.ofNat 0)), (.int .u8 (.ofNat 0)), (.int .u8 (.ofNat 0)), (.int .u8 (.ofNat 0)), (.int .u8 (.ofNat 0)), (.int .u8 (.ofNat 0)), (.int .u8 (.ofNat 0)), (.int .u8 (.ofNat 0)), (.int .u8 (.ofNat 0)), (.int .u8 (.ofNat 0)), (.int .u8 (.ofNat 0)), (.int .u8 (.ofNat 0)), (.int .u8 (.ofNat 0)), (.int .u8 (.ofNat 0)), (.int .u8 (.ofNat 0)), (.int .u8 (.ofNat 0)), (.int .u8 (.ofNat 0)), (.int .u8 (.ofNat 0)), (.int .u8 (.ofNat 0)), (.int .u8 (.ofNat 0)), (.int .u8 (.ofNat 0)), (.int .u8 (.ofNat 0)), (.int .u8 (.ofNat 0)), (.int .u8 (.ofNat 0)), (.int .u8 (.ofNat 0)), (.int .u8 (.ofNat 0)), (.int .u8 (.ofNat 0)), (.int .u8 (.ofNat 0)), (.int .u8 (.ofNat 0)), (.int .u8 (.ofNat 0)), (.int .u8 (.ofNat 0)), (.int .u8 (.ofNat 0)), (.int .u8 (.ofNat 0)), (.int .u8 (.ofNat 0)), (.int .u8 (.ofNat 0)), (.int .u8 (.ofNat 0)), (.int .u8 (.ofNat 0)), (.int .u8 (.ofNat 0)), (.int .u8 (.ofNat 0)), (.int .u8 (.ofNat 0)), (.int .u8 (.ofNat 0)), (.int .u8 (.ofNat 0)), (.int .u8 (.ofNat 0)), (.int .u8 (.ofNat 0)), (.int .u8 (.ofNat 0)), (.int .u8 (.ofNat 0)), (.int .u8 (.ofNat 0)), (.int .u8 (.ofNat 0)), (.int .u8 (.ofNat 0)), (.int .u8 (.ofNat 0)), (.int .u8 (.ofNat 0)), (.int .u8 (.ofNat 0)), (.int .u8 (.ofNat 0)), (.int .u8 (.ofNat 0)), (.int .u8 (.ofNat 0)), (.int .u8 (.ofNat 0)), (.int .u8 (.ofNat 0)), (.int .u8 (.ofNat 0)), (.int .u8 (.ofNat 0)), (.int .u8 (.ofNat 0)), (.int .u8 (.ofNat 0)), (.int .u8 (.ofNat 0)), (.int .u8 (.ofNat 0)), (.int .u8 (.ofNat 0)), (.int .u8 (.ofNat 0)), (.int .u8 (.ofNat 0)), (.int .u8 (.ofNat 0)), (.int .u8 (.ofNat 0)), (.int .u8 (.ofNat 0)), (.int .u8 (.ofNat 0)), (.int .u8 (.ofNat 0)), (.int .u8 (.ofNat 0)), (.int .u8 (.ofNat 0)), (.int .u8 (.ofNat 0)), (.int .u8 (.ofNat 0)), (.int .u8 (.ofNat 0)), (.int .u8 (.ofNat 0)), (.int .u8 (.ofNat 0)), (.int .u8 (.ofNat 0)), (.int .u8 (.ofNat 0)), (.int .u8 (.ofNat 0)), (.int .u8 (.ofNat 0)), (.int .u8 (.ofNat 0)), (.int .u8 (.ofNat 0)), (.int .u8 (.ofNat 0)), (.int .u8 (.ofNat 0)), (.int .u8 (.ofNat 0)), (.int .u8 (.ofNat 0)), (.int .u8 (.ofNat 0)), (.int .u8 (.ofNat 0)), (.int .u8 (.ofNat 0)), (.int .u8 (.ofNat 0)), (.int .u8 (.ofNat 0)), (.int .u8 (.ofNat 0)), (.int .u8 (.ofNat 0)), (.int .u8 (.ofNat 0)), (.int .u8 (.ofNat 0)), (.int .u8 (.ofNat 0)), (.int .u8 (.ofNat 0)), (.int .u8 (.ofNat 0)), (.int .u8 (.ofNat 0)), (.int .u8 (.ofNat 0)), (.int .u8 (.ofNat 0)), (.int .u8 (.ofNat 0)), (.int .u8 (.ofNat 0)), (.int .u8 (.ofNat 0)), (.int .u8 (.ofNat 0)), (.int .u8 (.ofNat 0)), (.int .u8 (.ofNat 0)), (.int .u8 (.ofNat 0)), (.int .u8 (.ofNat 0)), (.int .u8 (.ofNat 0)), (.int .u8 (.ofNat 0)), (.int .u8 (.ofNat 0)), (.int .u8 (.ofNat 0)), (.int .u8 (.ofNat 0)), (.int .u8 (.ofNat 0)), (.int .u8 (.ofNat 0)), (.int .u8 (.ofNat 0)), (.int .u8 (.ofNat 0)), (.int .u8 (.ofNat 0)), (.int .u8 (.ofNat 0)), (.int .u8 (.ofNat 0))] true none)
noncomputable def needPlay : List (Nat × XO) := [(1, ascO), (65, (.cells [(.str [97, 110, 110]), (.str [115, 0, 0, 0, 0, 0, 0, 0, 0, 0, 0, 0, 0, 0, 0, 0, 0, 0, 0, 0, 0, 0, 0, 0, 0, 0, 0, 0, 0, 0, 0, 0]), (.str [98, 111, 98]), (.str [116, 0, 0, 0, 0, 0, 0, 0, 0, 0, 0, 0, 0, 0, 0, 0, 0, 0, 0, 0, 0, 0, 0, 0, 0, 0, 0, 0, 0, 0, 0, 0])] false none)), (66, (.cells [(.int .i64 (.ofNat 1)), (.int .i64 (.ofNat 0)), (.int .i64 (.ofNat 0)), (.int .i64 (.ofNat 0)), (.int .u8 (.ofNat 0)), (.int .i64 (.ofNat 0)), (.str []), (.str []), (.int .i64 (.ofNat 0)), (.int .i64 (.ofNat 0)), (.int .i64 (.ofNat 3)), (.int .i64 (.ofNat 0)), (.int .i64 (.ofNat 0)), (.int .i64 (.ofNat 0)), (.int .u8 (.ofNat 0)), (.int .i64 (.ofNat 0)), (.str []), (.str []), (.int .i64 (.ofNat 0)), (.int .i64 (.ofNat 0)), (.int .i64 (.ofNat 4)), (.int .i64 (.ofNat 0)), (.int .i64 (.ofNat 0)), (.int .i64 (.ofNat 0)), (.int .u8 (.ofNat 0)), (.int .i64 (.ofNat 0)), (.str []), (.str []), (.int .i64 (.ofNat 0)), (.int .i64 (.ofNat 0)), (.int .i64 (.ofNat 3)), (.int .i64 (.ofNat 0)), (.int .i64 (.ofNat 0)), (.int .i64 (.ofNat 0)), (.int .u8 (.ofNat 0)), (.int .i64 (.ofNat 0)), (.str []), (.str []), (.int .i64 (.ofNat 0)), (.int .i64 (.ofNat 0)), (.int .i64 (.ofNat 4)), (.int .i64 (.ofNat 0)), (.int .i64 (.ofNat 0)), (.int .i64 (.ofNat 0)), (.int .u8 (.ofNat 0)), (.int .i64 (.ofNat 0)), (.str []), (.str []), (.int .i64 (.ofNat 0)), (.int .i64 (.ofNat 0)), (.int .i64 (.ofNat 1)), (.int .i64 (.ofNat 0)), (.int .i64 (.ofNat 1)), (.int .i64 (.ofNat 0)), (.int .u8 (.ofNat 0)), (.int .i64 (.ofNat 0)), (.str []), (.str []), (.int .i64 (.ofNat 0)), (.int .i64 (.ofNat 0)), (.int .i64 (.ofNat 3)), (.int .i64 (.ofNat 1)), (.int .i64 (.ofNat 0)), (.int .i64 (.ofNat 0)), (.int .u8 (.ofNat 0)), (.int .i64 (.ofNat 0)), (.str []), (.str []), (.int .i64 (.ofNat 0)), (.int .i64 (.ofNat 0)), (.int .i64 (.ofNat 4)), (.int .i64 (.ofNat 1)), (.int .i64 (.ofNat 0)), (.int .i64 (.ofNat 0)), (.int .u8 (.ofNat 0)), (.int .i64 (.ofNat 0)), (.str []), (.str []), (.int .i64 (.ofNat 0)), (.int .i64 (.ofNat 0)), (.int .i64 (.ofNat 3)), (.int .i64 (.ofNat 1)), (.int .i64 (.ofNat 0)), (.int .i64 (.ofNat 0)), (.int .u8 (.ofNat 0)), (.int .i64 (.ofNat 0)), (.str []), (.str []), (.int .i64 (.ofNat 0)), (.int .i64 (.ofNat 0)), (.int .i64 (.ofNat 4)), (.int .i64 (.ofNat 1)), (.int .i64 (.ofNat 0)), (.int .i64 (.ofNat 0)), (.int .u8 (.ofNat 0)), (.int .i64 (.ofNat 0)), (.str []), (.str []), (.int .i64 (.ofNat 0)), (.int .i64 (.ofNat 0)), (.int .i64 (.ofNat 2)), (.int .i64 (.ofNat 0)), (.int .i64 (.ofNat 0)), (.int .i64 (.ofNat 0)), (.int .u8 (.ofNat 0)), (.int .i64 (.ofNat 2)), (.str [110]), (.str [53]), (.int .i64 (.ofNat 0)), (.int .i64 (.ofNat 0)), (.int .i64 (.ofNat 3)), (.int .i64 (.ofNat 0)), (.int .i64 (.ofNat 0)), (.int .i64 (.ofNat 0)), (.int .u8 (.ofNat 0)), (.int .i64 (.ofNat 0)), (.str []), (.str []), (.int .i64 (.ofNat 0)), (.int .i64 (.ofNat 0)), (.int .i64 (.ofNat 11)), (.int .i64 (.ofNat 0)), (.int .i64 (.ofNat 2)), (.int .i64 (.ofNat 0)), (.int .u8 (.ofNat 0)), (.int .i64 (.ofNat 0)), (.str []), (.str []), (.int .i64 (.ofNat 0)), (.int .i64 (.ofNat 0)), (.int .i64 (.ofNat 3)), (.int .i64 (.ofNat 0)), (.int .i64 (.ofNat 0)), (.int .i64 (.ofNat 0)), (.int .u8 (.ofNat 0)), (.int .i64 (.ofNat 0)), (.str []), (.str []), (.int .i64 (.ofNat 0)), (.int .i64 (.ofNat 0)), (.int .i64 (.ofNat 4)), (.int .i64 (.ofNat 0)), (.int .i64 (.ofNat 0)), (.int .i64 (.ofNat 0)), (.int .u8 (.ofNat 0)), (.int .i64 (.ofNat 0)), (.str []), (.str []), (.int .i64 (.ofNat 0)), (.int .i64 (.ofNat 0)), (.int .i64 (.ofNat 2)), (.int .i64 (.ofNat 1)), (.int .i64 (.ofNat 0)), (.int .i64 (.ofNat 0)), (.int .u8 (.ofNat 0)), (.int .i64 (.ofNat 5)), (.str [110]), (.str []), (.int .i64 (.ofNat 0)), (.int .i64 (.ofNat 0)), (.int .i64 (.ofNat 3)), (.int .i64 (.ofNat 1)), (.int .i64 (.ofNat 0)), (.int .i64 (.ofNat 0)), (.int .u8 (.ofNat 0)), (.int .i64 (.ofNat 0)), (.str []), (.str []), (.int .i64 (.ofNat 0)), (.int .i64 (.ofNat 0)), (.int .i64 (.ofNat 4)), (.int .i64 (.ofNat 1)), (.int .i64 (.ofNat 0)), (.int .i64 (.ofNat 0)), (.int .u8 (.ofNat 0)), (.int .i64 (.ofNat 0)), (.str []), (.str []), (.int .i64 (.ofNat 0)), (.int .i64 (.ofNat 0)), (.int .i64 (.ofNat 4)), (.int .i64 (.ofNat 0)), (.int .i64 (.ofNat 0)), (.int .i64 (.ofNat 0)), (.int .u8 (.ofNat 0)), (.int .i64 (.ofNat 0)), (.str []), (.str []), (.int .i64 (.ofNat 0)), (.int .i64 (.ofNat 0)), (.int .i64 (.ofNat 2)), (.int .i64 (.ofNat 7)), (.int .i64 (.ofNat 0)), (.int .i64 (.ofNat 0)), (.int .u8 (.ofNat 0)), (.int .i64 (.ofNat 0)), (.str []), (.str []), (.int .i64 (.ofNat 0)), (.int .i64 (.ofNat 0)), (.int .i64 (.ofNat 1)), (.int .i64 (.ofNat 0)), (.int .i64 (.ofNat 9)), (.int .i64 (.ofNat 0)), (.int .u8 (.ofNat 0)), (.int .i64 (.ofNat 0)), (.str []), (.str []), (.int .i64 (.ofNat 0)), (.int .i64 (.ofNat 0))] false none))]
noncomputable def argsPlay : List XV := [(.agg [(.slice 65 0 2 2 2 true), (.str [97, 108, 108, 111, 119, 32, 97, 110, 110, 32, 97, 110, 121, 32, 42, 10, 97, 108, 108, 111, 119, 32, 98, 111, 98, 32, 114, 101, 97, 100, 32, 42]), (.int .i64 (.ofNat 2000)), (.int .i64 (.ofNat 10)), (.str [115]), (.slice 66 0 21 21 10 true)])]
noncomputable def resPlay : XV := (.slice 0 0 21 21 1 false)
noncomputable def newPlay : XO := (.cells [(.str [111, 107]), (.str [111, 107]), (.str [111, 107]), (.str [111, 107]), (.str [111, 107]), (.str [111, 107]), (.str [111, 107]), (.str [111, 107]), (.str [111, 107]), (.str [111, 107]), (.str [111, 107]), (.str [111, 107]), (.str [111, 107]), (.str [111, 107]), (.str [111, 107]), (.str [111, 107]), (.str [111, 107]), (.str [111, 107]), (.str [110, 111, 110, 101]), (.str [110, 111, 110, 101]), (.str [110, 111, 110, 101])] false (some 19))
def nextPlay : Nat := 67
noncomputable def needRun : List (Nat × XO) := [(1, ascO), (69, (.cells [(.str [97, 110, 110]), (.str [115, 0, 0, 0, 0, 0, 0, 0, 0, 0, 0, 0, 0, 0, 0, 0, 0, 0, 0, 0, 0, 0, 0, 0, 0, 0, 0, 0, 0, 0, 0, 0]), (.str [98, 111, 98]), (.str [116, 0, 0, 0, 0, 0, 0, 0, 0, 0, 0, 0, 0, 0, 0, 0, 0, 0, 0, 0, 0, 0, 0, 0, 0, 0, 0, 0, 0, 0, 0, 0])] false none)), (70, (.cells [(.int .i64 (.ofNat 2)), (.str [110]), (.str []), (.int .i64 (.ofNat 0)), (.int .i64 (.ofNat 0)), (.int .i64 (.ofNat 1)), (.str [110]), (.str []), (.int .i64 (.ofNat 0)), (.int .i64 (.ofNat 0))] false none))]
noncomputable def argsRun : List XV := [(.agg [(.slice 69 0 2 2 2 true), (.str [97, 108, 108, 111, 119, 32, 97, 110, 110, 32, 97, 110, 121, 32, 42, 10, 97, 108, 108, 111, 119, 32, 98, 111, 98, 32, 114, 101, 97, 100, 32, 42]), (.int .i64 (.ofNat 2000)), (.int .i64 (.ofNat 10))]), (.str [115]), (.int .i64 (.ofNat 1)), (.slice 70 0 2 2 5 true)]
noncomputable def resRun : XV := (.tup [(.slice 0 0 2 2 5 false), (.int .i64 (.ofNat 0))])
noncomputable def newRun : XO := (.cells [(.int .i64 (.ofNat 8)), (.str []), (.int .i64 (.ofNat 0)), (.int .i64 (.ofNat 0)), .nils, (.int .i64 (.ofNat 9)), (.str []), (.int .i64 (.ofNat 0)), (.int .i64 (.ofNat 0)), .nils] false (some 109))
def nextRun : Nat := 71
end Go.Proofs.XCode
end
section
namespace Go.Proofs.XCode
open Go.X Go.Proofs
noncomputable def xSizes : XFn := (mkFn tyT.get Tryz.f76).getD ⟨[], .bad⟩
theorem sizes_mk : mkFn tyT.get Tryz.f76 = some xSizes := by
  have h : (mkFn tyT.get Tryz.f76).isSome = true := by kernel_rfl
  unfold xSizes
  cases e : mkFn tyT.get Tryz.f76 with
  | none => rw [e] at h; cases h
  | some x => rfl
noncomputable def ES : Env := E0.add 76 xSizes
noncomputable def newSizes : XO := .cells [.int .i64 (.ofNat 32), .int .i64 (.ofNat 128), .int .i64 (.ofNat 512), .int .i64 (.ofNat 2048)] false (some (2 * 3 + 1))
theorem sizes_chk : chkSub 64 [] [] (.slice 0 0 4 4 1 false) newSizes (callE ES (run ES 500) 76 [] (hsOf 64 [])) = true := by kernel_rfl
noncomputable def E1 : Env := ((((ES.over 129 10000000 iSum).over 86 10000001 iBlk).over 90 10000002 iTag).over 85 10000003 iXor).over 17 10000004 iPut
end Go.Proofs.XCode
end
section
namespace Go.X
open Go.RowKit
set_option linter.unusedSimpArgs false
set_option linter.unusedSectionVars false
theorem sub_flat {P : Program} {call : FuncId → List XV → XH → R} (hS : CallSound P call) {f : FuncId} {args : List XV} {r : XV} {hs H1 : XH} {N : Nat} (hN : SubOK hs N) (h : call f args hs = some (r, H1))
    (ha : belows N args = true) (hr : X.flat r = true) (hkeep : ∀ n o, hs.get n = some o → H1.get n = some o)
    {H : XH} (hsub : ∀ n o, hs.get n = some o → H.get n = some o) {ρ : Rho} {w : World} {vs : List Value} (hR : Rep ρ H w) (hg : GlobOK ρ) (hv : VRs ρ args vs) :
    Invoked P f vs.toArray w (fun v w' => ∃ ρ', VR ρ' r v ∧ Step ρ H w ρ' H w') := by
  have e0 : ∀ n, n < N → (fun n => if n < N then ρ n else none : Rho) n = ρ n := fun n hn => if_pos hn
  have hR0 : Rep (fun n => if n < N then ρ n else none) hs w := by
    refine ⟨fun n o ho => ?_, fun n m o o' bb x y x' y' h1 h2 h3 h4 => ?_⟩
    · obtain ⟨hn, cs', ro', tg', rfl, hbl⟩ := hN.cells n o ho
      obtain ⟨bb, off, lim, h1, h2⟩ := hR.obj n _ (hsub _ _ ho)
      exact ⟨bb, off, lim, (e0 n hn).trans h1, CR.turn h2 (fun vs hvs => hvs.under e0 hbl)⟩
    · have hn := (hN.cells n o h1).1
      have hm := (hN.cells m o' h2).1
      exact hR.inj n m o o' bb x y x' y' (hsub _ _ h1) (hsub _ _ h2) ((e0 n hn).symm.trans h3) ((e0 m hm).symm.trans h4)
  refine (hS f args hs r H1 h _ w vs hR0 (fun g hg' => ?_) (hv.under e0 ha) (fun k h1 _ => ?_)).mono (fun v w' ⟨ρ1, h1, h2⟩ => ?_)
  · obtain ⟨lim, h1⟩ := hg g hg'
    have := hN.low
    exact ⟨lim, (e0 g (by omega)).trans h1⟩
  · rw [hN.next] at h1
    exact if_neg (by omega)
  · have e1 : ∀ n, n < N → ρ1 n = ρ n := fun n hn => by rw [h2.out n (.inl (by rw [hN.next]; exact hn))]; exact if_pos hn
    have hold : ∀ n o, H.get n = some o → ∃ b0 off lim, ρ n = some (b0, off, lim) ∧ OR ρ w' b0 off lim o := by
      intro n o ho
      obtain ⟨b0, off0, lim0, g1, g2⟩ := hR.obj n o ho
      refine ⟨b0, off0, lim0, g1, ?_⟩
      by_cases hf : Foot (fun n => if n < N then ρ n else none) hs b0
      · obtain ⟨m, o', x, y, q1, q2, q3⟩ := hf
        obtain ⟨hm, cs', ro', tg', rfl, hbl⟩ := hN.cells m o' q1
        have q4 : ρ m = some (b0, x, y) := (e0 m hm).symm.trans q3
        obtain rfl := hR.inj n m o _ b0 _ _ _ _ ho (hsub _ _ q1) g1 q4
        rw [hsub _ _ q1] at ho
        obtain rfl := Option.some.inj ho
        obtain ⟨b1, off1, lim1, q5, q6⟩ := h2.rep.obj n _ (hkeep _ _ q1)
        rw [e1 n hm, g1] at q5
        simp only [Option.some.injEq, Prod.mk.injEq] at q5
        obtain ⟨rfl, rfl, rfl⟩ := q5
        exact CR.turn q6 (fun vs hvs => hvs.under (fun n hn => (e1 n hn).symm) hbl)
      · exact g2.of_block (Ext.refl _) h2.size (h2.keep b0 g2.lt hf)
    refine ⟨ρ, h1.flat hr, ?_⟩
    exact {
      rep := ⟨hold, hR.inj⟩
      le := Nat.le_refl _
      out := fun n _ => rfl
      ext := Ext.refl _
      os := h2.os
      tape := h2.tape
      output := h2.output
      size := h2.size
      keep := fun b0 hb0 hf => h2.keep b0 hb0 (fun ⟨m, o, x, y, q1, q2, q3⟩ => hf ⟨m, o, x, y, hsub _ _ q1, q2, (e0 m (hN.cells m o q1).1).symm.trans q3⟩)
      foot := fun _ h => .inl h
      all := fun _ h => .inl h }
noncomputable section
def iFlat (need : List (Nat × XO)) (A : List XV) (r : XV) (args : List XV) (h : XH) : R :=
  bif XV.beqs A args && subB need h then some (r, h) else none
def chkFlat (N : Nat) (need : List (Nat × XO)) (A : List XV) (r : XV) (res : R) : Bool :=
  Nat.ble 64 N && (needB N need && (belows N A && (X.flat r &&
    (match res with | some (r1, h1) => XV.beq r1 r && subB need h1 | none => false))))
end
theorem iFlat_ok {P : Program} {call0 : FuncId → List XV → XH → R} (hS : CallSound P call0) {f : FuncId} {N : Nat} {need : List (Nat × XO)} {A : List XV} {r : XV} (hc : chkFlat N need A r (call0 f A (hsOf N need)) = true) : IntrOK P f (fun _ => iFlat need A r) := by
  unfold chkFlat at hc
  simp only [Bool.and_eq_true] at hc
  obtain ⟨c1, c2, c3, c6, c7⟩ := hc
  split at c7
  rotate_left
  · cases c7
  rename_i r1 H1 hr
  simp only [Bool.and_eq_true] at c7
  obtain ⟨d1, d3⟩ := c7
  obtain rfl := XV.beq_eq d1
  have d3 := subB_spec d3
  have c2 := needB_spec c2
  have hN : SubOK (hsOf N need) N := ⟨hsOf_next N need, Nat.le_of_ble_eq_true c1, fun n o ho => by
    have := c2 _ (hsOf_get ho)
    exact ⟨this.1, isCells_spec this.2⟩⟩
  intro call _ _ args H r' H' h
  unfold iFlat at h
  obtain ⟨e, h0⟩ := bif_some h
  clear h
  simp only [Bool.and_eq_true] at e
  obtain ⟨e1, e2⟩ := e
  obtain rfl := XV.beqs_eq e1
  have e2 := subB_spec e2
  have := Option.some.inj h0
  injection this with h1 h2
  subst h1; subst h2
  exact ⟨Nat.le_refl _, fun ρ w vs hR hg hv hF => sub_flat hS hN hr c3 c6 (fun n o ho => d3 _ (hsOf_get ho)) (fun n o ho => e2 _ (hsOf_get ho)) hR hg hv⟩
end Go.X
end
section
namespace Go.Proofs.XCode
open Go.X Go.Proofs
noncomputable def EV : Env := (E0.over 11 10000000 (iSub needPlay argsPlay resPlay newPlay)).over 13 10000001 (iSub needRun argsRun resRun newRun)
noncomputable def xWorks : XFn := (mkFn tyT.get Tryz.f4).getD ⟨[], .bad⟩
theorem works_mk : mkFn tyT.get Tryz.f4 = some xWorks := by
  have h : (mkFn tyT.get Tryz.f4).isSome = true := by kernel_rfl
  unfold xWorks
  cases e : mkFn tyT.get Tryz.f4 with
  | none => rw [e] at h; cases h
  | some x => rfl
noncomputable def EW : Env := EV.add 4 xWorks
noncomputable def needW : List (Nat × XO) := [(1, ascO)]
theorem works_chk : chkFlat 64 needW [] (.bool true) (callE EW (run EW 2000) 4 [] (hsOf 64 needW)) = true := by kernel_rfl
end Go.Proofs.XCode
end
