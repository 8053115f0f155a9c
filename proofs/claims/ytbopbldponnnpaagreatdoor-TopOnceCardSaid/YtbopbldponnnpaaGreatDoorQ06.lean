/- A part of a verified executor, its walks and its runs (W11, W12, W13, W14, W15, W16, W17). -/
import Derived.Test.YtbopbldponnnpaaGreatDoorQ05
set_option linter.all false
section
namespace Go.Proofs.XCode
open Go.X
set_option linter.unusedSimpArgs false
set_option linter.unusedVariables false
theorem p_min2 (k j : IntKind) (a b : Nat) : pMin [.int k (.ofNat a), .int j (.ofNat b)] = some (.int k (.ofNat (min a b))) := by
  have e : foldMin (.ofNat a) [.int j (.ofNat b)] k = some (.int k (bif ltI (.ofNat b) (.ofNat a) then .ofNat b else .ofNat a)) := rfl
  rw [show pMin [.int k (.ofNat a), .int j (.ofNat b)] = foldMin (.ofNat a) [.int j (.ofNat b)] k from rfl, e]
  simp only [ltI, n_ble, n_succ]
  by_cases h : b + 1 ≤ a
  · simp only [h, decide_true, cond_true]; rw [Nat.min_eq_right (by omega)]
  · simp only [h, decide_false, cond_false]; rw [Nat.min_eq_left (by omega)]
def xorL (a b : List Nat) : List Nat := List.zipWith (fun x y => x ^^^ y) a b
theorem xorL_len (a b : List Nat) : (xorL a b).length = min a.length b.length := by simp [xorL]
theorem xor_lt8 {x y : Nat} (h : x < 256) (h' : y < 256) : x ^^^ y < 256 := Nat.xor_lt_two_pow (n := 8) h h'
theorem xorL_get {a b : List Nat} {i : Nat} (h : i < min a.length b.length) : (xorL a b).getD i 0 = a.getD i 0 ^^^ b.getD i 0 := by
  have h1 : i < a.length := by omega
  have h2 : i < b.length := by omega
  simp [xorL, List.getD_eq_getElem?_getD, List.getElem?_zipWith, List.getElem?_eq_getElem h1, List.getElem?_eq_getElem h2]
theorem xorL_lt {a b : List Nat} (ha : ∀ i, a.getD i 0 < 256) (hb : ∀ i, b.getD i 0 < 256) : ∀ i, (xorL a b).getD i 0 < 256 := by
  intro i
  by_cases h : i < min a.length b.length
  · rw [xorL_get h]; exact xor_lt8 (ha i) (hb i)
  · rw [List.getD_eq_getElem?_getD, List.getElem?_eq_none (by rw [xorL_len]; omega)]; decide
theorem get_of {s : List Nat} {i : Nat} (h : i < s.length) : s[i]? = some (s.getD i 0) := by
  rw [List.getD_eq_getElem?_getD, List.getElem?_eq_getElem h]; rfl
theorem xor_call (a b : List Nat) (ha : ∀ i, a.getD i 0 < 256) (hb : ∀ i, b.getD i 0 < 256) (hl : a.length ≤ 100000) (h : XH) : CallEv E0 n_octet_Xor [.str a, .str b] h (fun r k => r = .str (xorL a b) ∧ HExt h k) := by
  have hz := xorL_len a b
  generalize hzz : xorL a b = z at hz
  have hm : min a.length b.length ≤ a.length := Nat.min_le_left _ _
  have hm2 : min a.length b.length ≤ b.length := Nat.min_le_right _ _
  have hzl := xorL_lt ha hb
  rw [hzz] at hzl
  have p0 : part z 0 = List.replicate z.length (XV.int .u8 (.ofNat 0)) := by simp [part, u8s, mapX_eq]
  refine call_fn fn_octet_Xor ?_
  simp only [args0_cons, args0_nil]
  repeat with_reducible first
    | refine go_seq hE0 ?_ | refine go_region ?_ | refine ops_nil ?_ | refine ret_seq.2 ?_
    | (refine ops_cw hE0 ?_; simp (disch := first | omega | decide) only [eff, runE, bE, p_min2, ← hz, a_mk _ _ _ _ _ (Nat.le_refl z.length), flat1])
    | (refine ops_op ?_; simp (disch := first | omega | decide) only [eff, runE, bE, p_min2, ← hz, a_mk _ _ _ _ _ (Nat.le_refl z.length), flat1]; refine rgo ?_)
    | refine go_drawn ?_
    | (refine plan_call hE0 (wanted_none _) ?_; simp (disch := first | omega | decide) only [eff, runE, bE, p_min2, ← hz, a_mk _ _ _ _ _ (Nat.le_refl z.length), flat1])
    | (refine plan_op ?_; simp (disch := first | omega | decide) only [eff, runE, bE, p_min2, ← hz, a_mk _ _ _ _ _ (Nat.le_refl z.length), flat1]; refine plgo ?_)
    | refine go_block ?_ | refine go_skip ?_ | refine go_exit ?_ | refine go_ret ?_
    | refine ret_seq_x.2 ?_ | refine ret_seq_r.2 ?_ | refine ret_block.2 ?_ | refine ret_block_hit.2 ?_ | refine (ret_block_miss rfl).2 ?_ | refine ret_block_r.2 ?_ | refine ret_loop_x.2 ?_ | refine ret_loop_r.2 ?_
  refine go_loop_ind hE0 (fun m fr k => ∃ i, m = z.length - i ∧ i ≤ z.length ∧ HExt h k ∧ h.next + 1 ≤ k.next ∧ k.get h.next = some (.cells (part z i) false none) ∧
      ev fr (.t (ixOf 0)) = .str a ∧ ev fr (.t (ixOf 1)) = .str b ∧ ev fr (.t (ixOf 5)) = .slice h.next 0 z.length z.length 1 true ∧ ev fr (.t (ixOf 14)) = .int .i64 (.ofNat z.length) ∧ ev fr (.t (ixOf 15)) = .int .i64 (.ofNat i)) ?_ (n := z.length) ?_
  · rintro m fr k IH ⟨i, rfl, hi, hx, hn, hg, f0, f1, f5, f14, f15⟩
    repeat with_reducible first
    | refine go_seq hE0 ?_ | refine go_region ?_ | refine ops_nil ?_ | refine ret_seq.2 ?_
    | (refine ops_cw hE0 ?_; simp (disch := first | omega | decide) only [eff, runE, bE, f14, f15])
    | (refine ops_op ?_; simp (disch := first | omega | decide) only [eff, runE, bE, f14, f15]; refine rgo ?_)
    | refine go_drawn ?_
    | (refine plan_call hE0 (wanted_none _) ?_; simp (disch := first | omega | decide) only [eff, runE, bE, f14, f15])
    | (refine plan_op ?_; simp (disch := first | omega | decide) only [eff, runE, bE, f14, f15]; refine plgo ?_)
    | refine go_block ?_ | refine go_skip ?_ | refine go_exit ?_ | refine go_ret ?_
    | refine ret_seq_x.2 ?_ | refine ret_seq_r.2 ?_ | refine ret_block.2 ?_ | refine ret_block_hit.2 ?_ | refine (ret_block_miss rfl).2 ?_ | refine ret_block_r.2 ?_ | refine ret_loop_x.2 ?_ | refine ret_loop_r.2 ?_
    refine go_cond ?_
    simp (disch := first | omega | decide) only [eff, runE, bE]
    refine condGo_split (fun hc => ?_) (fun hc => ?_)
    · have hc := of_decide_eq_true hc
      have hv : (wrapX .u8 (.ofNat (a.getD i 0 % 256 ^^^ b.getD i 0 % 256))) = .ofNat (z.getD i 0) := by
        rw [Nat.mod_eq_of_lt (ha i), Nat.mod_eq_of_lt (hb i), wrap_u8 (xor_lt8 (ha i) (hb i)), ← hzz, xorL_get (by omega)]
      have hst := e_store_one (b := h.next) (o := i) (v := .int .u8 (.ofNat (z.getD i 0))) hg (by rw [part_len hi]; omega) rfl
      rw [part_set hc] at hst
      repeat with_reducible first
    | refine go_seq hE0 ?_ | refine go_region ?_ | refine ops_nil ?_ | refine ret_seq.2 ?_
    | (refine ops_cw hE0 ?_; simp (disch := first | omega | decide) only [eff, runE, bE, f0, f1, f5, f15, p_ixStr a i _ (get_of (by omega)), p_ixStr b i _ (get_of (by omega)), hv, hst])
    | (refine ops_op ?_; simp (disch := first | omega | decide) only [eff, runE, bE, f0, f1, f5, f15, p_ixStr a i _ (get_of (by omega)), p_ixStr b i _ (get_of (by omega)), hv, hst]; refine rgo ?_)
    | refine go_drawn ?_
    | (refine plan_call hE0 (wanted_none _) ?_; simp (disch := first | omega | decide) only [eff, runE, bE, f0, f1, f5, f15, p_ixStr a i _ (get_of (by omega)), p_ixStr b i _ (get_of (by omega)), hv, hst])
    | (refine plan_op ?_; simp (disch := first | omega | decide) only [eff, runE, bE, f0, f1, f5, f15, p_ixStr a i _ (get_of (by omega)), p_ixStr b i _ (get_of (by omega)), hv, hst]; refine plgo ?_)
    | refine go_block ?_ | refine go_skip ?_ | refine go_exit ?_ | refine go_ret ?_
    | refine ret_seq_x.2 ?_ | refine ret_seq_r.2 ?_ | refine ret_block.2 ?_ | refine ret_block_hit.2 ?_ | refine (ret_block_miss rfl).2 ?_ | refine ret_block_r.2 ?_ | refine ret_loop_x.2 ?_ | refine ret_loop_r.2 ?_
      refine plan_nil (by simp (disch := first | omega | decide) only [endOk, chkAt, addNew, newOk, rangeOk, distinctN, Nat.reduceLT, Nat.reduceAdd, Nat.reduceLeDiff, bP, eff, runE, bE]) ?_
      repeat with_reducible first
    | refine go_seq hE0 ?_ | refine go_region ?_ | refine ops_nil ?_ | refine ret_seq.2 ?_
    | (refine ops_cw hE0 ?_; simp (disch := first | omega | decide) only [eff, runE, bE, f15])
    | (refine ops_op ?_; simp (disch := first | omega | decide) only [eff, runE, bE, f15]; refine rgo ?_)
    | refine go_drawn ?_
    | (refine plan_call hE0 (wanted_none _) ?_; simp (disch := first | omega | decide) only [eff, runE, bE, f15])
    | (refine plan_op ?_; simp (disch := first | omega | decide) only [eff, runE, bE, f15]; refine plgo ?_)
    | refine go_block ?_ | refine go_skip ?_ | refine go_exit ?_ | refine go_ret ?_
    | refine ret_seq_x.2 ?_ | refine ret_seq_r.2 ?_ | refine ret_block.2 ?_ | refine ret_block_hit.2 ?_ | refine (ret_block_miss rfl).2 ?_ | refine ret_block_r.2 ?_ | refine ret_loop_x.2 ?_ | refine ret_loop_r.2 ?_
      refine ret_loop.2 (IH (z.length - (i + 1)) _ _ (by omega) ⟨i + 1, rfl, by omega, hx.set (m := h.next) (by omega) _, ?_, ?_, ?_, ?_, ?_, ?_, ?_⟩)
      · simp only [XH.next_set]; omega
      · rw [XH.get_set, if_pos rfl]
      all_goals simp (disch := first | omega | decide) only [eff, runE, bE, f0, f1, f5, f14, f15]
    · have hc := of_decide_eq_false hc
      obtain rfl : i = z.length := by omega
      have hcv := r_convBS (h := k) (b := h.next) (o := 0) (len := z.length) (cap := z.length) (ex := true) (s := z) (by rw [cells_b hg (by rw [part_len (Nat.le_refl _)]; omega), part_all, List.drop_zero, List.take_of_length_le (by rw [u8s_length]; exact Nat.le_refl _)]) (lt_all hzl)
      repeat with_reducible first
    | refine go_seq hE0 ?_ | refine go_region ?_ | refine ops_nil ?_ | refine ret_seq.2 ?_
    | (refine ops_cw hE0 ?_; simp (disch := first | omega | decide) only [eff, runE, bE, f5, hcv])
    | (refine ops_op ?_; simp (disch := first | omega | decide) only [eff, runE, bE, f5, hcv]; refine rgo ?_)
    | refine go_drawn ?_
    | (refine plan_call hE0 (wanted_none _) ?_; simp (disch := first | omega | decide) only [eff, runE, bE, f5, hcv])
    | (refine plan_op ?_; simp (disch := first | omega | decide) only [eff, runE, bE, f5, hcv]; refine plgo ?_)
    | refine go_block ?_ | refine go_skip ?_ | refine go_exit ?_ | refine go_ret ?_
    | refine ret_seq_x.2 ?_ | refine ret_seq_r.2 ?_ | refine ret_block.2 ?_ | refine ret_block_hit.2 ?_ | refine (ret_block_miss rfl).2 ?_ | refine ret_block_r.2 ?_ | refine ret_loop_x.2 ?_ | refine ret_loop_r.2 ?_
      refine ret_nil.2 ⟨_, fin_tmp (.inr rfl), ?_, hx⟩
      simp (disch := first | omega | decide) only [eff, runE, bE]
  · refine ⟨0, rfl, by omega, (HExt.refl h).new _, ?_, ?_, ?_, ?_, ?_, ?_, ?_⟩
    · simp only [XH.next_new]; omega
    · rw [XH.get_new, if_pos rfl, p0]
    all_goals simp (disch := first | omega | decide) only [eff, runE, bE]
def plN (v n : Nat) : Nat → List Nat
  | 0 => List.replicate n 0
  | i + 1 => (plN v n i).set i (v >>> (8 * i) % 256)
theorem plN_len (v n : Nat) : ∀ i, (plN v n i).length = n
  | 0 => by simp [plN]
  | i + 1 => by rw [plN, List.length_set, plN_len v n i]
theorem plN_lt (v n : Nat) : ∀ i j, (plN v n i).getD j 0 < 256
  | 0, j => by
    simp only [plN, List.getD_eq_getElem?_getD, List.getElem?_replicate]
    split <;> decide
  | i + 1, j => getD_set_lt (by decide) (plN_lt v n i) (Nat.mod_lt _ (by decide)) j
noncomputable def putLittle (v n : Nat) : List Nat := plN v n n
theorem putLittle_len (v n : Nat) : (putLittle v n).length = n := plN_len v n n
theorem putLittle_lt (v n : Nat) : ∀ i, (putLittle v n).getD i 0 < 256 := plN_lt v n n
theorem putLittle_call (v n : Nat) (hv : v < 18446744073709551616) (h1 : 1 ≤ n) (h8 : n ≤ 8) (h : XH) : CallEv E0 n_octet_PutLittle [.int .u64 (.ofNat v), .int .i64 (.ofNat n)] h (fun r k => r = .str (putLittle v n) ∧ HExt h k) := by
  have c1 : ¬ n < 1 := by omega
  have c2 : ¬ 8 < n := by omega
  refine call_fn fn_octet_PutLittle ?_
  simp only [args0_cons, args0_nil]
  repeat with_reducible first
    | refine go_seq hE0 ?_ | refine go_region ?_ | refine ops_nil ?_ | refine ret_seq.2 ?_
    | (refine ops_cw hE0 ?_; simp (disch := first | omega | decide) only [eff, runE, bE, c1, c2, decide_false, cond_false])
    | (refine ops_op ?_; simp (disch := first | omega | decide) only [eff, runE, bE, c1, c2, decide_false, cond_false]; refine rgo ?_)
    | refine go_drawn ?_
    | (refine plan_call hE0 (wanted_none _) ?_; simp (disch := first | omega | decide) only [eff, runE, bE, c1, c2, decide_false, cond_false])
    | (refine plan_op ?_; simp (disch := first | omega | decide) only [eff, runE, bE, c1, c2, decide_false, cond_false]; refine plgo ?_)
    | refine go_block ?_ | refine go_skip ?_ | refine go_exit ?_ | refine go_ret ?_
    | refine ret_seq_x.2 ?_ | refine ret_seq_r.2 ?_ | refine ret_block.2 ?_ | refine ret_block_hit.2 ?_ | refine (ret_block_miss rfl).2 ?_ | refine ret_block_r.2 ?_ | refine ret_loop_x.2 ?_ | refine ret_loop_r.2 ?_
  refine go_cond ?_
  simp (disch := first | omega | decide) only [eff, runE, bE, c1, c2, decide_false, cond_false]
  refine condGo_false ?_
  repeat with_reducible first
    | refine go_seq hE0 ?_ | refine go_region ?_ | refine ops_nil ?_ | refine ret_seq.2 ?_
    | (refine ops_cw hE0 ?_; simp (disch := first | omega | decide) only [eff, runE, bE, a_mk _ _ _ _ _ (Nat.le_refl n), flat1, rep_u8s])
    | (refine ops_op ?_; simp (disch := first | omega | decide) only [eff, runE, bE, a_mk _ _ _ _ _ (Nat.le_refl n), flat1, rep_u8s]; refine rgo ?_)
    | refine go_drawn ?_
    | (refine plan_call hE0 (wanted_none _) ?_; simp (disch := first | omega | decide) only [eff, runE, bE, a_mk _ _ _ _ _ (Nat.le_refl n), flat1, rep_u8s])
    | (refine plan_op ?_; simp (disch := first | omega | decide) only [eff, runE, bE, a_mk _ _ _ _ _ (Nat.le_refl n), flat1, rep_u8s]; refine plgo ?_)
    | refine go_block ?_ | refine go_skip ?_ | refine go_exit ?_ | refine go_ret ?_
    | refine ret_seq_x.2 ?_ | refine ret_seq_r.2 ?_ | refine ret_block.2 ?_ | refine ret_block_hit.2 ?_ | refine (ret_block_miss rfl).2 ?_ | refine ret_block_r.2 ?_ | refine ret_loop_x.2 ?_ | refine ret_loop_r.2 ?_
  refine go_loop_ind hE0 (fun m fr k => ∃ i, m = n - i ∧ i ≤ n ∧ HExt h k ∧ h.next + 1 ≤ k.next ∧ k.get h.next = some (.cells (u8s (plN v n i)) false none) ∧
      ev fr (.t (ixOf 0)) = .int .u64 (.ofNat v) ∧ ev fr (.t (ixOf 1)) = .int .i64 (.ofNat n) ∧ ev fr (.t (ixOf 5)) = .slice h.next 0 n n 1 true ∧ ev fr (.t (ixOf 16)) = .int .i64 (.ofNat n) ∧ ev fr (.t (ixOf 17)) = .int .i64 (.ofNat i)) ?_ (n := n) ?_
  · rintro m fr k IH ⟨i, rfl, hi, hx, hn, hg, f0, f1, f5, f16, f17⟩
    repeat with_reducible first
    | refine go_seq hE0 ?_ | refine go_region ?_ | refine ops_nil ?_ | refine ret_seq.2 ?_
    | (refine ops_cw hE0 ?_; simp (disch := first | omega | decide) only [eff, runE, bE, f16, f17])
    | (refine ops_op ?_; simp (disch := first | omega | decide) only [eff, runE, bE, f16, f17]; refine rgo ?_)
    | refine go_drawn ?_
    | (refine plan_call hE0 (wanted_none _) ?_; simp (disch := first | omega | decide) only [eff, runE, bE, f16, f17])
    | (refine plan_op ?_; simp (disch := first | omega | decide) only [eff, runE, bE, f16, f17]; refine plgo ?_)
    | refine go_block ?_ | refine go_skip ?_ | refine go_exit ?_ | refine go_ret ?_
    | refine ret_seq_x.2 ?_ | refine ret_seq_r.2 ?_ | refine ret_block.2 ?_ | refine ret_block_hit.2 ?_ | refine (ret_block_miss rfl).2 ?_ | refine ret_block_r.2 ?_ | refine ret_loop_x.2 ?_ | refine ret_loop_r.2 ?_
    refine go_cond ?_
    simp (disch := first | omega | decide) only [eff, runE, bE]
    refine condGo_split (fun hc => ?_) (fun hc => ?_)
    · have hc := of_decide_eq_true hc
      have hb : 8 * i ≤ IntKind.u64.bits := by show 8 * i ≤ 64; omega
      have hst := e_store_one (b := h.next) (o := i) (v := .int .u8 (.ofNat (v >>> (8 * i) % 256))) hg (by rw [u8s_length, plN_len]; omega) rfl
      rw [u8s_set] at hst
      repeat with_reducible first
    | refine go_seq hE0 ?_ | refine go_region ?_ | refine ops_nil ?_ | refine ret_seq.2 ?_
    | (refine ops_cw hE0 ?_; simp (disch := first | omega | decide) only [eff, runE, bE, f0, f1, f5, f17, hb, wrap_u8m, hst])
    | (refine ops_op ?_; simp (disch := first | omega | decide) only [eff, runE, bE, f0, f1, f5, f17, hb, wrap_u8m, hst]; refine rgo ?_)
    | refine go_drawn ?_
    | (refine plan_call hE0 (wanted_none _) ?_; simp (disch := first | omega | decide) only [eff, runE, bE, f0, f1, f5, f17, hb, wrap_u8m, hst])
    | (refine plan_op ?_; simp (disch := first | omega | decide) only [eff, runE, bE, f0, f1, f5, f17, hb, wrap_u8m, hst]; refine plgo ?_)
    | refine go_block ?_ | refine go_skip ?_ | refine go_exit ?_ | refine go_ret ?_
    | refine ret_seq_x.2 ?_ | refine ret_seq_r.2 ?_ | refine ret_block.2 ?_ | refine ret_block_hit.2 ?_ | refine (ret_block_miss rfl).2 ?_ | refine ret_block_r.2 ?_ | refine ret_loop_x.2 ?_ | refine ret_loop_r.2 ?_
      refine ret_loop.2 (IH (n - (i + 1)) _ _ (by omega) ⟨i + 1, rfl, by omega, hx.set (m := h.next) (by omega) _, ?_, ?_, ?_, ?_, ?_, ?_, ?_⟩)
      · simp only [XH.next_set]; omega
      · rw [XH.get_set, if_pos rfl]; rfl
      all_goals simp (disch := first | omega | decide) only [eff, runE, bE, f0, f1, f5, f16, f17]
    · have hc := of_decide_eq_false hc
      obtain rfl : i = n := by omega
      have hcv := r_convBS (h := k) (b := h.next) (o := 0) (len := i) (cap := i) (ex := true) (s := plN v i i) (by rw [cells_b hg (by rw [u8s_length, plN_len]; omega), List.drop_zero, List.take_of_length_le (by rw [u8s_length, plN_len]; exact Nat.le_refl _)]) (lt_all (plN_lt _ _ _))
      repeat with_reducible first
    | refine go_seq hE0 ?_ | refine go_region ?_ | refine ops_nil ?_ | refine ret_seq.2 ?_
    | (refine ops_cw hE0 ?_; simp (disch := first | omega | decide) only [eff, runE, bE, f5, hcv])
    | (refine ops_op ?_; simp (disch := first | omega | decide) only [eff, runE, bE, f5, hcv]; refine rgo ?_)
    | refine go_drawn ?_
    | (refine plan_call hE0 (wanted_none _) ?_; simp (disch := first | omega | decide) only [eff, runE, bE, f5, hcv])
    | (refine plan_op ?_; simp (disch := first | omega | decide) only [eff, runE, bE, f5, hcv]; refine plgo ?_)
    | refine go_block ?_ | refine go_skip ?_ | refine go_exit ?_ | refine go_ret ?_
    | refine ret_seq_x.2 ?_ | refine ret_seq_r.2 ?_ | refine ret_block.2 ?_ | refine ret_block_hit.2 ?_ | refine (ret_block_miss rfl).2 ?_ | refine ret_block_r.2 ?_ | refine ret_loop_x.2 ?_ | refine ret_loop_r.2 ?_
      refine ret_nil.2 ⟨_, fin_tmp (.inr rfl), ?_, hx⟩
      simp (disch := first | omega | decide) only [eff, runE, bE]
      rfl
  · refine ⟨0, rfl, by omega, (HExt.refl h).new _, ?_, ?_, ?_, ?_, ?_, ?_, ?_⟩
    · simp only [XH.next_new]; omega
    · rw [XH.get_new, if_pos rfl]; rfl
    all_goals simp (disch := first | omega | decide) only [eff, runE, bE]
def littleN : List Nat → Nat
  | [] => 0
  | c :: l => littleN l * 256 + c
theorem littleN_lt : ∀ (l : List Nat), (∀ i, l.getD i 0 < 256) → littleN l < 256 ^ l.length
  | [], _ => by simp [littleN]
  | c :: l, h => by
    have h0 : c < 256 := by simpa using h 0
    have := littleN_lt l (fun i => by simpa using h (i + 1))
    rw [littleN, List.length_cons, Nat.pow_succ]
    omega
def idxI : Nat → Int
  | 0 => .negSucc 0
  | r + 1 => .ofNat r
theorem little_call (s : List Nat) (hs : ∀ i, s.getD i 0 < 256) (h1 : 1 ≤ s.length) (hl : s.length ≤ 8) (h : XH) : CallEv E0 n_octet_Little [.str s] h (fun r k => r = .int .u64 (.ofNat (littleN s)) ∧ k = h) := by
  have hmin : min s.length 8 = s.length := Nat.min_eq_left hl
  refine call_fn fn_octet_Little ?_
  simp only [args0_cons, args0_nil]
  repeat with_reducible first
    | refine go_seq hE0 ?_ | refine go_region ?_ | refine ops_nil ?_ | refine ret_seq.2 ?_
    | (refine ops_cw hE0 ?_; simp (disch := first | omega | decide) only [eff, runE, bE, p_min2, hmin])
    | (refine ops_op ?_; simp (disch := first | omega | decide) only [eff, runE, bE, p_min2, hmin]; refine rgo ?_)
    | refine go_drawn ?_
    | (refine plan_call hE0 (wanted_none _) ?_; simp (disch := first | omega | decide) only [eff, runE, bE, p_min2, hmin])
    | (refine plan_op ?_; simp (disch := first | omega | decide) only [eff, runE, bE, p_min2, hmin]; refine plgo ?_)
    | refine go_block ?_ | refine go_skip ?_ | refine go_exit ?_ | refine go_ret ?_
    | refine ret_seq_x.2 ?_ | refine ret_seq_r.2 ?_ | refine ret_block.2 ?_ | refine ret_block_hit.2 ?_ | refine (ret_block_miss rfl).2 ?_ | refine ret_block_r.2 ?_ | refine ret_loop_x.2 ?_ | refine ret_loop_r.2 ?_
  refine go_loop_ind hE0 (fun m fr k => k = h ∧ m ≤ s.length ∧ ev fr (.t (ixOf 0)) = .str s ∧ ev fr (.t (ixOf 3)) = .int .u64 (.ofNat (littleN (s.drop m))) ∧ ev fr (.t (ixOf 4)) = .int .i64 (idxI m)) ?_ (n := s.length) ?_
  · rintro m fr k IH ⟨rfl, hi, f0, f3, f4⟩
    cases m with
    | zero =>
      have e1 : xbin (.int .i64) .geq (.int .i64 (idxI 0)) (.int .i64 (.ofNat 0)) = some (.bool false) := rfl
      rw [List.drop_zero] at f3
      repeat with_reducible first
    | refine go_seq hE0 ?_ | refine go_region ?_ | refine ops_nil ?_ | refine ret_seq.2 ?_
    | (refine ops_cw hE0 ?_; simp (disch := first | omega | decide) only [eff, runE, bE, f4, e1])
    | (refine ops_op ?_; simp (disch := first | omega | decide) only [eff, runE, bE, f4, e1]; refine rgo ?_)
    | refine go_drawn ?_
    | (refine plan_call hE0 (wanted_none _) ?_; simp (disch := first | omega | decide) only [eff, runE, bE, f4, e1])
    | (refine plan_op ?_; simp (disch := first | omega | decide) only [eff, runE, bE, f4, e1]; refine plgo ?_)
    | refine go_block ?_ | refine go_skip ?_ | refine go_exit ?_ | refine go_ret ?_
    | refine ret_seq_x.2 ?_ | refine ret_seq_r.2 ?_ | refine ret_block.2 ?_ | refine ret_block_hit.2 ?_ | refine (ret_block_miss rfl).2 ?_ | refine ret_block_r.2 ?_ | refine ret_loop_x.2 ?_ | refine ret_loop_r.2 ?_
      refine go_cond ?_
      simp (disch := first | omega | decide) only [eff, runE, bE, f4, e1]
      refine condGo_false ?_
      repeat with_reducible first
    | refine go_seq hE0 ?_ | refine go_region ?_ | refine ops_nil ?_ | refine ret_seq.2 ?_
    | (refine ops_cw hE0 ?_; simp (disch := first | omega | decide) only [eff, runE, bE, f3])
    | (refine ops_op ?_; simp (disch := first | omega | decide) only [eff, runE, bE, f3]; refine rgo ?_)
    | refine go_drawn ?_
    | (refine plan_call hE0 (wanted_none _) ?_; simp (disch := first | omega | decide) only [eff, runE, bE, f3])
    | (refine plan_op ?_; simp (disch := first | omega | decide) only [eff, runE, bE, f3]; refine plgo ?_)
    | refine go_block ?_ | refine go_skip ?_ | refine go_exit ?_ | refine go_ret ?_
    | refine ret_seq_x.2 ?_ | refine ret_seq_r.2 ?_ | refine ret_block.2 ?_ | refine ret_block_hit.2 ?_ | refine (ret_block_miss rfl).2 ?_ | refine ret_block_r.2 ?_ | refine ret_loop_x.2 ?_ | refine ret_loop_r.2 ?_
      refine ret_nil.2 ⟨_, fin_tmp (.inr rfl), ?_, rfl⟩
      simp (disch := first | omega | decide) only [eff, runE, bE]
    | succ m =>
      have f4' : ev fr (.t (ixOf 4)) = .int .i64 (.ofNat m) := f4
      repeat with_reducible first
    | refine go_seq hE0 ?_ | refine go_region ?_ | refine ops_nil ?_ | refine ret_seq.2 ?_
    | (refine ops_cw hE0 ?_; simp (disch := first | omega | decide) only [eff, runE, bE, f4', Nat.zero_le, decide_true])
    | (refine ops_op ?_; simp (disch := first | omega | decide) only [eff, runE, bE, f4', Nat.zero_le, decide_true]; refine rgo ?_)
    | refine go_drawn ?_
    | (refine plan_call hE0 (wanted_none _) ?_; simp (disch := first | omega | decide) only [eff, runE, bE, f4', Nat.zero_le, decide_true])
    | (refine plan_op ?_; simp (disch := first | omega | decide) only [eff, runE, bE, f4', Nat.zero_le, decide_true]; refine plgo ?_)
    | refine go_block ?_ | refine go_skip ?_ | refine go_exit ?_ | refine go_ret ?_
    | refine ret_seq_x.2 ?_ | refine ret_seq_r.2 ?_ | refine ret_block.2 ?_ | refine ret_block_hit.2 ?_ | refine (ret_block_miss rfl).2 ?_ | refine ret_block_r.2 ?_ | refine ret_loop_x.2 ?_ | refine ret_loop_r.2 ?_
      refine go_cond ?_
      simp (disch := first | omega | decide) only [eff, runE, bE, f4', Nat.zero_le, decide_true]
      refine condGo_true ?_
      have hb : littleN (s.drop (m + 1)) < 256 ^ 7 := by
        refine Nat.lt_of_lt_of_le (littleN_lt _ (fun i => by rw [getD_drop]; exact hs _)) (Nat.pow_le_pow_right (by decide) ?_)
        rw [List.length_drop]; omega
      have hc := hs m
      have h8 : 8 ≤ IntKind.u64.bits := by decide
      have hl1 : (littleN (s.drop (m + 1)) <<< 8) % 18446744073709551616 = littleN (s.drop (m + 1)) <<< 8 := Nat.mod_eq_of_lt (by rw [Nat.shiftLeft_eq]; omega)
      have e2 : ∀ m, xbin (.int .i64) .sub (.int .i64 (.ofNat m)) (.int .i64 (.ofNat 1)) = some (.int .i64 (if m = 0 then .negSucc 0 else wrapX .i64 (.ofNat (m - 1)))) := by
        intro m
        cases m with
        | zero => rfl
        | succ m => rw [b_sub _ _ _ _ (by omega), if_neg (by omega)]
      repeat with_reducible first
    | refine go_seq hE0 ?_ | refine go_region ?_ | refine ops_nil ?_ | refine ret_seq.2 ?_
    | (refine ops_cw hE0 ?_; simp (disch := first | omega | decide) only [eff, runE, bE, f0, f3, f4', h8, p_ixStr s m _ (get_of (by omega)), e2])
    | (refine ops_op ?_; simp (disch := first | omega | decide) only [eff, runE, bE, f0, f3, f4', h8, p_ixStr s m _ (get_of (by omega)), e2]; refine rgo ?_)
    | refine go_drawn ?_
    | (refine plan_call hE0 (wanted_none _) ?_; simp (disch := first | omega | decide) only [eff, runE, bE, f0, f3, f4', h8, p_ixStr s m _ (get_of (by omega)), e2])
    | (refine plan_op ?_; simp (disch := first | omega | decide) only [eff, runE, bE, f0, f3, f4', h8, p_ixStr s m _ (get_of (by omega)), e2]; refine plgo ?_)
    | refine go_block ?_ | refine go_skip ?_ | refine go_exit ?_ | refine go_ret ?_
    | refine ret_seq_x.2 ?_ | refine ret_seq_r.2 ?_ | refine ret_block.2 ?_ | refine ret_block_hit.2 ?_ | refine (ret_block_miss rfl).2 ?_ | refine ret_block_r.2 ?_ | refine ret_loop_x.2 ?_ | refine ret_loop_r.2 ?_
      refine ret_loop.2 (IH m _ _ (by omega) ⟨rfl, by omega, ?_, ?_, ?_⟩)
      · simp (disch := first | omega | decide) only [eff, runE, bE, f0]
      · simp (disch := first | omega | decide) only [eff, runE, bE, f0, f3, wrapX, n_mod]
        rw [hl1, Nat.mod_eq_of_lt (by omega : s.getD m 0 < 18446744073709551616), shl8_or hc, Nat.mod_eq_of_lt (by omega), List.drop_eq_getElem_cons (by omega : m < s.length), littleN, List.getD_eq_getElem?_getD, List.getElem?_eq_getElem (by omega : m < s.length)]
        rfl
      · simp (disch := first | omega | decide) only [eff, runE, bE]
        cases m with
        | zero => rfl
        | succ m => first | rfl | (rw [if_neg (by omega), wrap_i64 (by omega)]; rfl)
  · refine ⟨rfl, Nat.le_refl _, ?_, ?_, ?_⟩
    · simp (disch := first | omega | decide) only [eff, runE, bE]
    · rw [List.drop_length]
      simp (disch := first | omega | decide) only [eff, runE, bE]
      rfl
    · simp (disch := first | omega | decide) only [eff, runE, bE]
      obtain ⟨n, hn⟩ : ∃ n, s.length = n + 1 := ⟨s.length - 1, by omega⟩
      rw [hn]; rfl
def rol (x n : Nat) : Nat := (x <<< n) % 4294967296 ||| x >>> (32 - n)
theorem rol_lt {x n : Nat} (h : x < 4294967296) : rol x n < 4294967296 := or_lt (mod_lt32 _) (shr_lt h)
theorem leftp (x n : Nat) (hx : x < 4294967296) (hn : n < 32) (h : XH) : CallEv E0 n_octet_Left [.int .u32 (.ofNat x), .int .i64 (.ofNat n)] h (fun r k => r = .int .u32 (.ofNat (rol x n)) ∧ k = h) := by
  have e1 : n % 32 = n := Nat.mod_eq_of_lt hn
  have e3 : (n + 32) % 32 = n := by omega
  refine call_fn fn_octet_Left ?_
  simp only [args0_cons, args0_nil]
  repeat with_reducible first
    | refine go_seq hE0 ?_ | refine go_region ?_ | refine ops_nil ?_ | refine ret_seq.2 ?_
    | (refine ops_cw hE0 ?_; simp (disch := first | omega | decide) only [eff, runE, bE, e1, e3])
    | (refine ops_op ?_; simp (disch := first | omega | decide) only [eff, runE, bE, e1, e3]; refine rgo ?_)
    | refine go_drawn ?_
    | (refine plan_call hE0 (wanted_none _) ?_; simp (disch := first | omega | decide) only [eff, runE, bE, e1, e3])
    | (refine plan_op ?_; simp (disch := first | omega | decide) only [eff, runE, bE, e1, e3]; refine plgo ?_)
    | refine go_block ?_ | refine go_skip ?_ | refine go_exit ?_ | refine go_ret ?_
    | refine ret_seq_x.2 ?_ | refine ret_seq_r.2 ?_ | refine ret_block.2 ?_ | refine ret_block_hit.2 ?_ | refine (ret_block_miss rfl).2 ?_ | refine ret_block_r.2 ?_ | refine ret_loop_x.2 ?_ | refine ret_loop_r.2 ?_
  refine callGo_of (rot32 _ _ hx hn _) ?_
  repeat with_reducible first
    | refine go_seq hE0 ?_ | refine go_region ?_ | refine ops_nil ?_ | refine ret_seq.2 ?_
    | (refine ops_cw hE0 ?_; simp (disch := first | omega | decide) only [eff, runE, bE])
    | (refine ops_op ?_; simp (disch := first | omega | decide) only [eff, runE, bE]; refine rgo ?_)
    | refine go_drawn ?_
    | (refine plan_call hE0 (wanted_none _) ?_; simp (disch := first | omega | decide) only [eff, runE, bE])
    | (refine plan_op ?_; simp (disch := first | omega | decide) only [eff, runE, bE]; refine plgo ?_)
    | refine go_block ?_ | refine go_skip ?_ | refine go_exit ?_ | refine go_ret ?_
    | refine ret_seq_x.2 ?_ | refine ret_seq_r.2 ?_ | refine ret_block.2 ?_ | refine ret_block_hit.2 ?_ | refine (ret_block_miss rfl).2 ?_ | refine ret_block_r.2 ?_ | refine ret_loop_x.2 ?_ | refine ret_loop_r.2 ?_
  refine ret_nil.2 ⟨_, fin_tmp (.inr rfl), ?_, rfl⟩
  simp (disch := first | omega | decide) only [eff, runE, bE]
  rfl
end Go.Proofs.XCode
end
section
namespace Go.Proofs.XCode
open Go.X
set_option linter.unusedSimpArgs false
set_option linter.unusedVariables false
def q1 (a b : Nat) : Nat := (a + b) % 4294967296
structure Q4 where
  (a b c d : Nat)
def quarter (a b c d : Nat) : Q4 :=
  let a1 := (a + b) % 4294967296
  let d1 := rol (d ^^^ a1) 16
  let c1 := (c + d1) % 4294967296
  let b1 := rol (b ^^^ c1) 12
  let a2 := (a1 + b1) % 4294967296
  let d2 := rol (d1 ^^^ a2) 8
  let c2 := (c1 + d2) % 4294967296
  ⟨a2, rol (b1 ^^^ c2) 7, c2, d2⟩
theorem xor_mod {x y : Nat} (h : x < 4294967296) (h' : y < 4294967296) : (x % 4294967296 ^^^ y % 4294967296) % 4294967296 = x ^^^ y := by
  rw [Nat.mod_eq_of_lt h, Nat.mod_eq_of_lt h', Nat.mod_eq_of_lt (xor_lt h h')]
theorem quarter_lt {a b c d : Nat} (ha : a < 4294967296) (hb : b < 4294967296) (hc : c < 4294967296) (hd : d < 4294967296) : (quarter a b c d).a < 4294967296 ∧ (quarter a b c d).b < 4294967296 ∧ (quarter a b c d).c < 4294967296 ∧ (quarter a b c d).d < 4294967296 := by
  have d1 := rol_lt (n := 16) (xor_lt hd (mod_lt32 (a + b)))
  refine ⟨mod_lt32 _, ?_, mod_lt32 _, ?_⟩
  · exact rol_lt (xor_lt (rol_lt (xor_lt hb (mod_lt32 _))) (mod_lt32 _))
  · exact rol_lt (xor_lt d1 (mod_lt32 _))
theorem quarter_call (a b c d : Nat) (ha : a < 4294967296) (hb : b < 4294967296) (hc : c < 4294967296) (hd : d < 4294967296) (h : XH) :
    CallEv E0 n_stream_Quarter [.int .u32 (.ofNat a), .int .u32 (.ofNat b), .int .u32 (.ofNat c), .int .u32 (.ofNat d)] h (fun r k => r = .tup [.int .u32 (.ofNat (quarter a b c d).a), .int .u32 (.ofNat (quarter a b c d).b), .int .u32 (.ofNat (quarter a b c d).c), .int .u32 (.ofNat (quarter a b c d).d)] ∧ k = h) := by
  have a1 := mod_lt32 (a + b)
  have x1 := xor_mod hd a1
  have d1 := rol_lt (n := 16) (xor_lt hd a1)
  have c1 := mod_lt32 (c + rol (d ^^^ (a + b) % 4294967296) 16)
  have x2 := xor_mod hb c1
  have b1 := rol_lt (n := 12) (xor_lt hb c1)
  have a2 := mod_lt32 ((a + b) % 4294967296 + rol (b ^^^ (c + rol (d ^^^ (a + b) % 4294967296) 16) % 4294967296) 12)
  have x3 := xor_mod d1 a2
  have d2 := rol_lt (n := 8) (xor_lt d1 a2)
  have c2 := mod_lt32 ((c + rol (d ^^^ (a + b) % 4294967296) 16) % 4294967296 + rol (rol (d ^^^ (a + b) % 4294967296) 16 ^^^ ((a + b) % 4294967296 + rol (b ^^^ (c + rol (d ^^^ (a + b) % 4294967296) 16) % 4294967296) 12) % 4294967296) 8)
  have x4 := xor_mod b1 c2
  refine call_fn fn_stream_Quarter ?_
  simp only [args0_cons, args0_nil]
  repeat with_reducible first
    | refine go_seq hE0 ?_ | refine go_region ?_ | refine ops_nil ?_ | refine ret_seq.2 ?_
    | (refine ops_cw hE0 ?_; simp (disch := first | omega | decide) only [eff, runE, bE, x1])
    | (refine ops_op ?_; simp (disch := first | omega | decide) only [eff, runE, bE, x1]; refine rgo ?_)
    | refine go_block ?_ | refine go_skip ?_ | refine go_exit ?_ | refine go_ret ?_
    | refine ret_seq_x.2 ?_ | refine ret_seq_r.2 ?_ | refine ret_block.2 ?_ | refine ret_block_hit.2 ?_ | refine (ret_block_miss rfl).2 ?_ | refine ret_block_r.2 ?_ | refine ret_loop_x.2 ?_ | refine ret_loop_r.2 ?_
  refine callGo_of (leftp _ 16 (xor_lt hd a1) (by decide) _) ?_
  repeat with_reducible first
    | refine go_seq hE0 ?_ | refine go_region ?_ | refine ops_nil ?_ | refine ret_seq.2 ?_
    | (refine ops_cw hE0 ?_; simp (disch := first | omega | decide) only [eff, runE, bE, x2])
    | (refine ops_op ?_; simp (disch := first | omega | decide) only [eff, runE, bE, x2]; refine rgo ?_)
    | refine go_block ?_ | refine go_skip ?_ | refine go_exit ?_ | refine go_ret ?_
    | refine ret_seq_x.2 ?_ | refine ret_seq_r.2 ?_ | refine ret_block.2 ?_ | refine ret_block_hit.2 ?_ | refine (ret_block_miss rfl).2 ?_ | refine ret_block_r.2 ?_ | refine ret_loop_x.2 ?_ | refine ret_loop_r.2 ?_
  refine callGo_of (leftp _ 12 (xor_lt hb c1) (by decide) _) ?_
  repeat with_reducible first
    | refine go_seq hE0 ?_ | refine go_region ?_ | refine ops_nil ?_ | refine ret_seq.2 ?_
    | (refine ops_cw hE0 ?_; simp (disch := first | omega | decide) only [eff, runE, bE, x3])
    | (refine ops_op ?_; simp (disch := first | omega | decide) only [eff, runE, bE, x3]; refine rgo ?_)
    | refine go_block ?_ | refine go_skip ?_ | refine go_exit ?_ | refine go_ret ?_
    | refine ret_seq_x.2 ?_ | refine ret_seq_r.2 ?_ | refine ret_block.2 ?_ | refine ret_block_hit.2 ?_ | refine (ret_block_miss rfl).2 ?_ | refine ret_block_r.2 ?_ | refine ret_loop_x.2 ?_ | refine ret_loop_r.2 ?_
  refine callGo_of (leftp _ 8 (xor_lt d1 a2) (by decide) _) ?_
  repeat with_reducible first
    | refine go_seq hE0 ?_ | refine go_region ?_ | refine ops_nil ?_ | refine ret_seq.2 ?_
    | (refine ops_cw hE0 ?_; simp (disch := first | omega | decide) only [eff, runE, bE, x4])
    | (refine ops_op ?_; simp (disch := first | omega | decide) only [eff, runE, bE, x4]; refine rgo ?_)
    | refine go_block ?_ | refine go_skip ?_ | refine go_exit ?_ | refine go_ret ?_
    | refine ret_seq_x.2 ?_ | refine ret_seq_r.2 ?_ | refine ret_block.2 ?_ | refine ret_block_hit.2 ?_ | refine (ret_block_miss rfl).2 ?_ | refine ret_block_r.2 ?_ | refine ret_loop_x.2 ?_ | refine ret_loop_r.2 ?_
  refine callGo_of (leftp _ 7 (xor_lt b1 c2) (by decide) _) ?_
  repeat with_reducible first
    | refine go_seq hE0 ?_ | refine go_region ?_ | refine ops_nil ?_ | refine ret_seq.2 ?_
    | (refine ops_cw hE0 ?_; simp (disch := first | omega | decide) only [eff, runE, bE])
    | (refine ops_op ?_; simp (disch := first | omega | decide) only [eff, runE, bE]; refine rgo ?_)
    | refine go_block ?_ | refine go_skip ?_ | refine go_exit ?_ | refine go_ret ?_
    | refine ret_seq_x.2 ?_ | refine ret_seq_r.2 ?_ | refine ret_block.2 ?_ | refine ret_block_hit.2 ?_ | refine (ret_block_miss rfl).2 ?_ | refine ret_block_r.2 ?_ | refine ret_loop_x.2 ?_ | refine ret_loop_r.2 ?_
  refine ret_nil.2 ⟨_, by rw [show ([.tmp (ixOf 8), .tmp (ixOf 9), .tmp (ixOf 10), .tmp (ixOf 11)] : List XRes) = [8, 9, 10, 11].map fun i => .tmp (ixOf i) from rfl, fin_tmps (.inr rfl)], ?_, rfl⟩
  simp only [List.map_cons, List.map_nil]
  simp (disch := first | omega | decide) only [eff, runE, bE, tupOf]
  rfl
def placesL : List Nat := [0, 4, 8, 12, 1, 5, 9, 13, 2, 6, 10, 14, 3, 7, 11, 15, 0, 5, 10, 15, 1, 6, 11, 12, 2, 7, 8, 13, 3, 4, 9, 14]
def ints (l : List Nat) : List XV := l.map fun n => .int .i64 (.ofNat n)
theorem ints_length (l : List Nat) : (ints l).length = l.length := by simp [ints]
theorem ints_get {l : List Nat} {i : Nat} (h : i < l.length) : (ints l)[i]? = some (.int .i64 (.ofNat (l.getD i 0))) := by
  simp [ints, List.getElem?_map, List.getElem?_eq_getElem h, List.getD_eq_getElem?_getD]
theorem ints_one (l : List Nat) : allOne (ints l) = true := by
  induction l with
  | nil => rfl
  | cons a l ih => exact ih
theorem places_call (h : XH) : CallEv E0 n_stream_places [] h (fun r k => r = .agg (ints placesL) ∧ HExt h k) := by
  have f4 : ∀ a b c d : Nat, pBuild (List.replicate 4 (.int .i64 (.ofNat 0))) [(0, 1, .int .i64 (.ofNat a)), (1, 1, .int .i64 (.ofNat b)), (2, 1, .int .i64 (.ofNat c)), (3, 1, .int .i64 (.ofNat d))] = some (.agg (ints [a, b, c, d])) := fun _ _ _ _ => rfl
  have f8 : pBuild (List.replicate 32 (.int .i64 (.ofNat 0))) [(0, 4, .agg (ints [0, 4, 8, 12])), (4, 4, .agg (ints [1, 5, 9, 13])), (8, 4, .agg (ints [2, 6, 10, 14])), (12, 4, .agg (ints [3, 7, 11, 15])), (16, 4, .agg (ints [0, 5, 10, 15])), (20, 4, .agg (ints [1, 6, 11, 12])), (24, 4, .agg (ints [2, 7, 8, 13])), (28, 4, .agg (ints [3, 4, 9, 14]))] = some (.agg (ints placesL)) := rfl
  refine call_fn fn_stream_places ?_
  simp only [args0_nil]
  have hst := e_storeN (h := h.new (.cells (List.replicate 32 (.int .i64 (.ofNat 0))) false (some (Nat.mul 2 329)))) (b := h.next) (n := 32) (c := List.replicate 32 (.int .i64 (.ofNat 0))) (vs := ints placesL) (by rw [XH.get_new, if_pos rfl]) rfl rfl (ints_one _)
  repeat with_reducible first
    | refine go_seq hE0 ?_ | refine go_region ?_ | refine ops_nil ?_ | refine ret_seq.2 ?_
    | (refine ops_cw hE0 ?_; simp (disch := first | omega | decide) only [eff, runE, bE, f4, f8, hst])
    | (refine ops_op ?_; simp (disch := first | omega | decide) only [eff, runE, bE, f4, f8, hst]; refine rgo ?_)
    | refine go_block ?_ | refine go_skip ?_ | refine go_exit ?_ | refine go_ret ?_
    | refine ret_seq_x.2 ?_ | refine ret_seq_r.2 ?_ | refine ret_block.2 ?_ | refine ret_block_hit.2 ?_ | refine (ret_block_miss rfl).2 ?_ | refine ret_block_r.2 ?_ | refine ret_loop_x.2 ?_ | refine ret_loop_r.2 ?_
  refine ret_nil.2 ⟨_, fin_cell (.inr rfl) (v := .agg (ints placesL)) ?_, rfl, ((HExt.refl h).new _).set (m := h.next) (Nat.le_refl _) _⟩
  simp (disch := first | omega | decide) only [eff, runE, bE]
  exact r_loadN (by rw [XH.get_set, if_pos rfl]) rfl
end Go.Proofs.XCode
end
section
namespace Go.Proofs.XCode
open Go.X
set_option linter.unusedSimpArgs false
set_option linter.unusedVariables false
noncomputable def blockAll (key : List Nat) (ctr : Nat) (nonce : List Nat) : List Nat := (([101, 120, 112, 97, 110, 100, 32, 51, 50, 45, 98, 121, 116, 101, 32, 107] ++ key) ++ putLittle ctr 4) ++ nonce
def iniN (all : List Nat) : Nat → List Nat
  | 0 => List.replicate 16 0
  | i + 1 => (iniN all i).set i (littleN ((all.drop (4 * i)).take 4))
def qstep (X : List Nat) (j : Nat) : List Nat :=
  let r := quarter (X.getD (placesL.getD (4 * j) 0) 0) (X.getD (placesL.getD (4 * j + 1) 0) 0) (X.getD (placesL.getD (4 * j + 2) 0) 0) (X.getD (placesL.getD (4 * j + 3) 0) 0)
  (((X.set (placesL.getD (4 * j) 0) r.a).set (placesL.getD (4 * j + 1) 0) r.b).set (placesL.getD (4 * j + 2) 0) r.c).set (placesL.getD (4 * j + 3) 0) r.d
def qsteps (X : List Nat) : Nat → List Nat
  | 0 => X
  | j + 1 => qstep (qsteps X j) j
def rnds (X : List Nat) : Nat → List Nat
  | 0 => X
  | r + 1 => qsteps (rnds X r) 8
noncomputable def outB (x f : List Nat) : Nat → List Nat
  | 0 => []
  | i + 1 => outB x f i ++ putLittle ((x.getD i 0 + f.getD i 0) % 4294967296) 4
noncomputable def blockL (key : List Nat) (ctr : Nat) (nonce : List Nat) : List Nat :=
  outB (rnds (iniN (blockAll key ctr nonce) 16) 10) (iniN (blockAll key ctr nonce) 16) 16
theorem iniN_len (all : List Nat) : ∀ i, (iniN all i).length = 16
  | 0 => by simp [iniN]
  | i + 1 => by rw [iniN, List.length_set, iniN_len all i]
theorem lit4_lt {all : List Nat} (h : ∀ i, all.getD i 0 < 256) (i : Nat) : littleN ((all.drop (4 * i)).take 4) < 4294967296 := by
  have := littleN_lt ((all.drop (4 * i)).take 4) (getD_part h _ _)
  have hl : ((all.drop (4 * i)).take 4).length ≤ 4 := by rw [List.length_take]; omega
  have := Nat.pow_le_pow_right (n := 256) (by decide) hl
  omega
theorem iniN_lt {all : List Nat} (h : ∀ i, all.getD i 0 < 256) : ∀ i j, (iniN all i).getD j 0 < 4294967296
  | 0, j => by
    simp only [iniN, List.getD_eq_getElem?_getD, List.getElem?_replicate]
    split <;> decide
  | i + 1, j => getD_set_lt (by decide) (iniN_lt h i) (lit4_lt h i) j
theorem qstep_len (X : List Nat) (j : Nat) : (qstep X j).length = X.length := by simp [qstep]
theorem qstep_lt {X : List Nat} (hX : ∀ i, X.getD i 0 < 4294967296) (j : Nat) : ∀ i, (qstep X j).getD i 0 < 4294967296 := by
  obtain ⟨h1, h2, h3, h4⟩ := quarter_lt (hX (placesL.getD (4 * j) 0)) (hX (placesL.getD (4 * j + 1) 0)) (hX (placesL.getD (4 * j + 2) 0)) (hX (placesL.getD (4 * j + 3) 0))
  exact getD_set_lt (by decide) (getD_set_lt (by decide) (getD_set_lt (by decide) (getD_set_lt (by decide) hX h1) h2) h3) h4
theorem qsteps_len (X : List Nat) : ∀ j, (qsteps X j).length = X.length
  | 0 => rfl
  | j + 1 => by rw [qsteps, qstep_len, qsteps_len X j]
theorem qsteps_lt {X : List Nat} (hX : ∀ i, X.getD i 0 < 4294967296) : ∀ j i, (qsteps X j).getD i 0 < 4294967296
  | 0, i => hX i
  | j + 1, i => qstep_lt (qsteps_lt hX j) j i
theorem rnds_len (X : List Nat) : ∀ j, (rnds X j).length = X.length
  | 0 => rfl
  | j + 1 => by rw [rnds, qsteps_len, rnds_len X j]
theorem rnds_lt {X : List Nat} (hX : ∀ i, X.getD i 0 < 4294967296) : ∀ j i, (rnds X j).getD i 0 < 4294967296
  | 0, i => hX i
  | j + 1, i => qsteps_lt (rnds_lt hX j) 8 i
theorem outB_len (x f : List Nat) : ∀ i, (outB x f i).length = 4 * i
  | 0 => rfl
  | i + 1 => by rw [outB, List.length_append, outB_len x f i, putLittle_len]; omega
theorem outB_lt (x f : List Nat) : ∀ i j, (outB x f i).getD j 0 < 256
  | 0, j => by simp [outB]
  | i + 1, j => getD_append_lt (by decide) (outB_lt x f i) (putLittle_lt _ _) j
theorem blockL_len (key : List Nat) (ctr : Nat) (nonce : List Nat) : (blockL key ctr nonce).length = 64 := outB_len _ _ _
theorem blockL_lt (key : List Nat) (ctr : Nat) (nonce : List Nat) : ∀ i, (blockL key ctr nonce).getD i 0 < 256 := outB_lt _ _ _
theorem p_ixAgg4 (j : Nat) (hj : j < 8) : pIxAgg (.many 4) 8 4 (.agg (ints placesL)) (.int .i64 (.ofNat j)) = some (.agg (ints [placesL.getD (4 * j) 0, placesL.getD (4 * j + 1) 0, placesL.getD (4 * j + 2) 0, placesL.getD (4 * j + 3) 0])) := by
  match j, hj with
  | 0, _ => rfl
  | 1, _ => rfl
  | 2, _ => rfl
  | 3, _ => rfl
  | 4, _ => rfl
  | 5, _ => rfl
  | 6, _ => rfl
  | 7, _ => rfl
theorem placesL_lt : ∀ i, placesL.getD i 0 < 16 := by
  have h : ∀ x ∈ placesL, x < 16 := by decide
  intro i
  rw [List.getD_eq_getElem?_getD]
  cases e : placesL[i]? with
  | none => decide
  | some x => exact h x (List.mem_of_getElem? e)
set_option maxHeartbeats 2000000 in
theorem block_call (key nonce : List Nat) (ctr : Nat) (hk : ∀ i, key.getD i 0 < 256) (hn : ∀ i, nonce.getD i 0 < 256) (hkl : key.length = 32) (hnl : nonce.length = 12) (hc : ctr < 4294967296) (h : XH) :
    CallEv E0 n_stream_block [.str key, .int .u32 (.ofNat ctr), .str nonce] h (fun r k => r = .str (blockL key ctr nonce) ∧ HExt h k) := by
  have lb : ([101, 120, 112, 97, 110, 100, 32, 51, 50, 45, 98, 121, 116, 101, 32, 107] : List Nat).length = 16 := rfl
  have l1 : (([101, 120, 112, 97, 110, 100, 32, 51, 50, 45, 98, 121, 116, 101, 32, 107] : List Nat) ++ key).length = 48 := by rw [List.length_append, hkl]; rfl
  have l2 := putLittle_len ctr 4
  have l3 : ((([101, 120, 112, 97, 110, 100, 32, 51, 50, 45, 98, 121, 116, 101, 32, 107] : List Nat) ++ key) ++ putLittle ctr 4).length = 52 := by rw [List.length_append, l1, l2]
  have hal : (blockAll key ctr nonce).length = 64 := by rw [blockAll, List.length_append, l3, hnl]
  have hall : ∀ i, (blockAll key ctr nonce).getD i 0 < 256 := by
    refine getD_append_lt (by decide) (getD_append_lt (by decide) (getD_append_lt (by decide) ?_ hk) (putLittle_lt _ _)) hn
    intro i
    have h : ∀ x ∈ ([101, 120, 112, 97, 110, 100, 32, 51, 50, 45, 98, 121, 116, 101, 32, 107] : List Nat), x < 256 := by decide
    rw [List.getD_eq_getElem?_getD]
    cases e : ([101, 120, 112, 97, 110, 100, 32, 51, 50, 45, 98, 121, 116, 101, 32, 107] : List Nat)[i]? with
    | none => decide
    | some x => exact h x (List.mem_of_getElem? e)
  refine call_fn fn_stream_block ?_
  simp only [args0_cons, args0_nil]
  repeat with_reducible first
    | refine go_seq hE0 ?_ | refine go_region ?_ | refine ops_nil ?_ | refine ret_seq.2 ?_
    | (refine ops_cw hE0 ?_; simp (disch := first | omega | decide) only [eff, runE, bE])
    | (refine ops_op ?_; simp (disch := first | omega | decide) only [eff, runE, bE]; refine rgo ?_)
    | refine go_drawn ?_
    | (refine plan_call hE0 (wanted_none _) ?_; simp (disch := first | omega | decide) only [eff, runE, bE])
    | (refine plan_op ?_; simp (disch := first | omega | decide) only [eff, runE, bE]; refine plgo ?_)
    | refine go_block ?_ | refine go_skip ?_ | refine go_exit ?_ | refine go_ret ?_
    | refine ret_seq_x.2 ?_ | refine ret_seq_r.2 ?_ | refine ret_block.2 ?_ | refine ret_block_hit.2 ?_ | refine (ret_block_miss rfl).2 ?_ | refine ret_block_r.2 ?_ | refine ret_loop_x.2 ?_ | refine ret_loop_r.2 ?_
  refine callGo_ex (putLittle_call ctr 4 (by omega) (by decide) (by decide) h) ?_
  rintro _ k ⟨rfl, hx⟩
  have e0 : (([101, 120, 112, 97, 110, 100, 32, 51, 50, 45, 98, 121, 116, 101, 32, 107] ++ key) ++ putLittle ctr 4) ++ nonce = blockAll key ctr nonce := rfl
  repeat with_reducible first
    | refine go_seq hE0 ?_ | refine go_region ?_ | refine ops_nil ?_ | refine ret_seq.2 ?_
    | (refine ops_cw hE0 ?_; simp (disch := first | omega | decide) only [eff, runE, bE, e0, rep_words])
    | (refine ops_op ?_; simp (disch := first | omega | decide) only [eff, runE, bE, e0, rep_words]; refine rgo ?_)
    | refine go_drawn ?_
    | (refine plan_call hE0 (wanted_none _) ?_; simp (disch := first | omega | decide) only [eff, runE, bE, e0, rep_words])
    | (refine plan_op ?_; simp (disch := first | omega | decide) only [eff, runE, bE, e0, rep_words]; refine plgo ?_)
    | refine go_block ?_ | refine go_skip ?_ | refine go_exit ?_ | refine go_ret ?_
    | refine ret_seq_x.2 ?_ | refine ret_seq_r.2 ?_ | refine ret_block.2 ?_ | refine ret_block_hit.2 ?_ | refine (ret_block_miss rfl).2 ?_ | refine ret_block_r.2 ?_ | refine ret_loop_x.2 ?_ | refine ret_loop_r.2 ?_
  have htgt : blockL key ctr nonce = outB (rnds (iniN (blockAll key ctr nonce) 16) 10) (iniN (blockAll key ctr nonce) 16) 16 := rfl
  rw [htgt]
  clear htgt e0
  generalize blockAll key ctr nonce = all at hal hall ⊢
  clear l1 l2 l3 lb
  obtain ⟨n8, hn8⟩ : ∃ n8, n8 = k.next := ⟨_, rfl⟩
  have hx8 : h.next ≤ n8 := by rw [hn8]; exact hx.le
  refine go_loop_ind hE0 (fun m fr kk => ∃ i, m = 16 - i ∧ i ≤ 16 ∧ HExt h kk ∧ n8 + 2 ≤ kk.next ∧ kk.get n8 = some (.cells (words (iniN all i)) false (some (Nat.mul 2 327))) ∧ kk.get (n8 + 1) = some (.cells (words (List.replicate 16 0)) false (some (Nat.mul 2 327))) ∧
      ev fr (.t (ixOf 7)) = .str all ∧ ev fr (.t (ixOf 8)) = .ptr n8 0 ∧ ev fr (.t (ixOf 9)) = .ptr (n8 + 1) 0 ∧ ev fr (.t (ixOf 24)) = .int .i64 (.ofNat i)) ?_ (n := 16) ?_
  · clear hx hn8
    rintro m fr kk IH ⟨i, rfl, hi, hx, hkn, g8, g9, f7, f8, f9, f24⟩
    repeat with_reducible first
    | refine go_seq hE0 ?_ | refine go_region ?_ | refine ops_nil ?_ | refine ret_seq.2 ?_
    | (refine ops_cw hE0 ?_; simp (disch := first | omega | decide) only [eff, runE, bE, f24])
    | (refine ops_op ?_; simp (disch := first | omega | decide) only [eff, runE, bE, f24]; refine rgo ?_)
    | refine go_drawn ?_
    | (refine plan_call hE0 (wanted_none _) ?_; simp (disch := first | omega | decide) only [eff, runE, bE, f24])
    | (refine plan_op ?_; simp (disch := first | omega | decide) only [eff, runE, bE, f24]; refine plgo ?_)
    | refine go_block ?_ | refine go_skip ?_ | refine go_exit ?_ | refine go_ret ?_
    | refine ret_seq_x.2 ?_ | refine ret_seq_r.2 ?_ | refine ret_block.2 ?_ | refine ret_block_hit.2 ?_ | refine (ret_block_miss rfl).2 ?_ | refine ret_block_r.2 ?_ | refine ret_loop_x.2 ?_ | refine ret_loop_r.2 ?_
    refine go_cond ?_
    simp (disch := first | omega | decide) only [eff, runE, bE]
    refine condGo_split (fun hc => ?_) (fun hc => ?_)
    · have hc := of_decide_eq_true hc
      have e4 : 4 * i + 4 - 4 * i = 4 := by omega
      repeat with_reducible first
    | refine go_seq hE0 ?_ | refine go_region ?_ | refine ops_nil ?_ | refine ret_seq.2 ?_
    | (refine ops_cw hE0 ?_; simp (disch := first | omega | decide) only [eff, runE, bE, f7, f8, f24, e4])
    | (refine ops_op ?_; simp (disch := first | omega | decide) only [eff, runE, bE, f7, f8, f24, e4]; refine rgo ?_)
    | refine go_drawn ?_
    | (refine plan_call hE0 (wanted_none _) ?_; simp (disch := first | omega | decide) only [eff, runE, bE, f7, f8, f24, e4])
    | (refine plan_op ?_; simp (disch := first | omega | decide) only [eff, runE, bE, f7, f8, f24, e4]; refine plgo ?_)
    | refine go_block ?_ | refine go_skip ?_ | refine go_exit ?_ | refine go_ret ?_
    | refine ret_seq_x.2 ?_ | refine ret_seq_r.2 ?_ | refine ret_block.2 ?_ | refine ret_block_hit.2 ?_ | refine (ret_block_miss rfl).2 ?_ | refine ret_block_r.2 ?_ | refine ret_loop_x.2 ?_ | refine ret_loop_r.2 ?_
      refine callGo_of (little_call _ (getD_part hall _ _) (by rw [List.length_take, List.length_drop]; omega) (by rw [List.length_take]; omega) kk) ?_
      have hv := Nat.mod_eq_of_lt (lit4_lt hall i)
      have hst := e_store_w (o := i) (v := littleN ((all.drop (4 * i)).take 4)) g8 (by rw [iniN_len]; omega)
      repeat with_reducible first
    | refine go_seq hE0 ?_ | refine go_region ?_ | refine ops_nil ?_ | refine ret_seq.2 ?_
    | (refine ops_cw hE0 ?_; simp (disch := first | omega | decide) only [eff, runE, bE, f7, f8, f24, hv, hst])
    | (refine ops_op ?_; simp (disch := first | omega | decide) only [eff, runE, bE, f7, f8, f24, hv, hst]; refine rgo ?_)
    | refine go_drawn ?_
    | (refine plan_call hE0 (wanted_none _) ?_; simp (disch := first | omega | decide) only [eff, runE, bE, f7, f8, f24, hv, hst])
    | (refine plan_op ?_; simp (disch := first | omega | decide) only [eff, runE, bE, f7, f8, f24, hv, hst]; refine plgo ?_)
    | refine go_block ?_ | refine go_skip ?_ | refine go_exit ?_ | refine go_ret ?_
    | refine ret_seq_x.2 ?_ | refine ret_seq_r.2 ?_ | refine ret_block.2 ?_ | refine ret_block_hit.2 ?_ | refine (ret_block_miss rfl).2 ?_ | refine ret_block_r.2 ?_ | refine ret_loop_x.2 ?_ | refine ret_loop_r.2 ?_
      refine ret_loop.2 (IH (16 - (i + 1)) _ _ (by omega) ⟨i + 1, rfl, by omega, hx.set (m := n8) (by omega) _, ?_, ?_, ?_, ?_, ?_, ?_, ?_⟩)
      · simp only [XH.next_set]; omega
      · rw [XH.get_set, if_pos rfl]; rfl
      · rw [XH.get_set, if_neg (by omega)]; exact g9
      all_goals simp (disch := first | omega | decide) only [eff, runE, bE, f7, f8, f9, f24]
    · have hc := of_decide_eq_false hc
      obtain rfl : i = 16 := by omega
      have hF8 := iniN_len all 16
      have hFl := iniN_lt hall 16
      have lF := r_loadN (n := 16) g8 (by rw [words_length, hF8])
      have hst := e_storeN (n := 16) g9 (vs := words (iniN all 16)) (by rw [words_length, hF8]) (by rw [words_length, words_length, hF8]; simp) (words_one _)
      repeat with_reducible first
    | refine go_seq hE0 ?_ | refine go_region ?_ | refine ops_nil ?_ | refine ret_seq.2 ?_
    | (refine ops_cw hE0 ?_; simp (disch := first | omega | decide) only [eff, runE, bE, f8, f9, lF, hst])
    | (refine ops_op ?_; simp (disch := first | omega | decide) only [eff, runE, bE, f8, f9, lF, hst]; refine rgo ?_)
    | refine go_drawn ?_
    | (refine plan_call hE0 (wanted_none _) ?_; simp (disch := first | omega | decide) only [eff, runE, bE, f8, f9, lF, hst])
    | (refine plan_op ?_; simp (disch := first | omega | decide) only [eff, runE, bE, f8, f9, lF, hst]; refine plgo ?_)
    | refine go_block ?_ | refine go_skip ?_ | refine go_exit ?_ | refine go_ret ?_
    | refine ret_seq_x.2 ?_ | refine ret_seq_r.2 ?_ | refine ret_block.2 ?_ | refine ret_block_hit.2 ?_ | refine (ret_block_miss rfl).2 ?_ | refine ret_block_r.2 ?_ | refine ret_loop_x.2 ?_ | refine ret_loop_r.2 ?_
      have hx0 : HExt h (kk.set (n8 + 1) (.cells (words (iniN all 16)) false (some (Nat.mul 2 327)))) := hx.set (m := n8 + 1) (by omega) _
      have g8' : (kk.set (n8 + 1) (.cells (words (iniN all 16)) false (some (Nat.mul 2 327)))).get n8 = some (.cells (words (iniN all 16)) false (some (Nat.mul 2 327))) := by rw [XH.get_set, if_neg (by omega)]; exact g8
      have g9' : (kk.set (n8 + 1) (.cells (words (iniN all 16)) false (some (Nat.mul 2 327)))).get (n8 + 1) = some (.cells (words (iniN all 16)) false (some (Nat.mul 2 327))) := by rw [XH.get_set, if_pos rfl]
      have hk0 : n8 + 2 ≤ (kk.set (n8 + 1) (.cells (words (iniN all 16)) false (some (Nat.mul 2 327)))).next := hkn
      generalize (kk.set (n8 + 1) (.cells (words (iniN all 16)) false (some (Nat.mul 2 327)))) = k0 at hx0 g8' g9' hk0 ⊢
      generalize iniN all 16 = F at hF8 hFl g8' g9' ⊢
      clear IH g8 g9 lF hst hc hi hkn hx f24
      -- the rounds
      refine go_loop_ind hE0 (fun m fr k => ∃ r, m = 10 - r ∧ r ≤ 10 ∧ HExt h k ∧ n8 + 2 ≤ k.next ∧ k.get n8 = some (.cells (words F) false (some (Nat.mul 2 327))) ∧ k.get (n8 + 1) = some (.cells (words (rnds F r)) false (some (Nat.mul 2 327))) ∧
          ev fr (.t (ixOf 8)) = .ptr n8 0 ∧ ev fr (.t (ixOf 9)) = .ptr (n8 + 1) 0 ∧ ev fr (.t (ixOf 40)) = .int .i64 (.ofNat r)) ?_ (n := 10) ?_
      · clear hx0 g8' g9' hk0 f7 f8 f9
        rintro m fr k IH ⟨r, rfl, hr, hx, hkn, g8, g9, f8, f9, f40⟩
        repeat with_reducible first
    | refine go_seq hE0 ?_ | refine go_region ?_ | refine ops_nil ?_ | refine ret_seq.2 ?_
    | (refine ops_cw hE0 ?_; simp (disch := first | omega | decide) only [eff, runE, bE, f40])
    | (refine ops_op ?_; simp (disch := first | omega | decide) only [eff, runE, bE, f40]; refine rgo ?_)
    | refine go_drawn ?_
    | (refine plan_call hE0 (wanted_none _) ?_; simp (disch := first | omega | decide) only [eff, runE, bE, f40])
    | (refine plan_op ?_; simp (disch := first | omega | decide) only [eff, runE, bE, f40]; refine plgo ?_)
    | refine go_block ?_ | refine go_skip ?_ | refine go_exit ?_ | refine go_ret ?_
    | refine ret_seq_x.2 ?_ | refine ret_seq_r.2 ?_ | refine ret_block.2 ?_ | refine ret_block_hit.2 ?_ | refine (ret_block_miss rfl).2 ?_ | refine ret_block_r.2 ?_ | refine ret_loop_x.2 ?_ | refine ret_loop_r.2 ?_
        refine go_cond ?_
        simp (disch := first | omega | decide) only [eff, runE, bE]
        refine condGo_split (fun hc => ?_) (fun hc => ?_)
        · have hc := of_decide_eq_true hc
          repeat with_reducible first
    | refine go_seq hE0 ?_ | refine go_region ?_ | refine ops_nil ?_ | refine ret_seq.2 ?_
    | (refine ops_cw hE0 ?_; simp (disch := first | omega | decide) only [eff, runE, bE])
    | (refine ops_op ?_; simp (disch := first | omega | decide) only [eff, runE, bE]; refine rgo ?_)
    | refine go_drawn ?_
    | (refine plan_call hE0 (wanted_none _) ?_; simp (disch := first | omega | decide) only [eff, runE, bE])
    | (refine plan_op ?_; simp (disch := first | omega | decide) only [eff, runE, bE]; refine plgo ?_)
    | refine go_block ?_ | refine go_skip ?_ | refine go_exit ?_ | refine go_ret ?_
    | refine ret_seq_x.2 ?_ | refine ret_seq_r.2 ?_ | refine ret_block.2 ?_ | refine ret_block_hit.2 ?_ | refine (ret_block_miss rfl).2 ?_ | refine ret_block_r.2 ?_ | refine ret_loop_x.2 ?_ | refine ret_loop_r.2 ?_
          refine callGo_ex (places_call k) ?_
          rintro _ k1 ⟨rfl, x1⟩
          have hk1 := x1.le
          have hX8 : (rnds F r).length = 16 := by rw [rnds_len, hF8]
          have hXl := rnds_lt hFl r
          have hX' : ∀ j, qsteps (rnds F r) j = qsteps (rnds F r) j := fun _ => rfl
          repeat with_reducible first
    | refine go_seq hE0 ?_ | refine go_region ?_ | refine ops_nil ?_ | refine ret_seq.2 ?_
    | (refine ops_cw hE0 ?_; simp (disch := first | omega | decide) only [eff, runE, bE])
    | (refine ops_op ?_; simp (disch := first | omega | decide) only [eff, runE, bE]; refine rgo ?_)
    | refine go_drawn ?_
    | (refine plan_call hE0 (wanted_none _) ?_; simp (disch := first | omega | decide) only [eff, runE, bE])
    | (refine plan_op ?_; simp (disch := first | omega | decide) only [eff, runE, bE]; refine plgo ?_)
    | refine go_block ?_ | refine go_skip ?_ | refine go_exit ?_ | refine go_ret ?_
    | refine ret_seq_x.2 ?_ | refine ret_seq_r.2 ?_ | refine ret_block.2 ?_ | refine ret_block_hit.2 ?_ | refine (ret_block_miss rfl).2 ?_ | refine ret_block_r.2 ?_ | refine ret_loop_x.2 ?_ | refine ret_loop_r.2 ?_
          refine go_loop_ind hE0 (fun m fr k => ∃ j, m = 8 - j ∧ j ≤ 8 ∧ HExt h k ∧ n8 + 2 ≤ k.next ∧ k.get n8 = some (.cells (words F) false (some (Nat.mul 2 327))) ∧ k.get (n8 + 1) = some (.cells (words (qsteps (rnds F r) j)) false (some (Nat.mul 2 327))) ∧
              ev fr (.t (ixOf 8)) = .ptr n8 0 ∧ ev fr (.t (ixOf 9)) = .ptr (n8 + 1) 0 ∧ ev fr (.t (ixOf 40)) = .int .i64 (.ofNat r) ∧ ev fr (.t (ixOf 42)) = .agg (ints placesL) ∧ ev fr (.t (ixOf 43)) = .int .i64 (.ofNat j)) ?_ (n := 8) ?_
          · rintro m fr2 k2 IH2 ⟨j, rfl, hj, hx2, hkn2, g82, g92, f8, f9, f40, f42, f43⟩
            repeat with_reducible first
    | refine go_seq hE0 ?_ | refine go_region ?_ | refine ops_nil ?_ | refine ret_seq.2 ?_
    | (refine ops_cw hE0 ?_; simp (disch := first | omega | decide) only [eff, runE, bE, f43])
    | (refine ops_op ?_; simp (disch := first | omega | decide) only [eff, runE, bE, f43]; refine rgo ?_)
    | refine go_drawn ?_
    | (refine plan_call hE0 (wanted_none _) ?_; simp (disch := first | omega | decide) only [eff, runE, bE, f43])
    | (refine plan_op ?_; simp (disch := first | omega | decide) only [eff, runE, bE, f43]; refine plgo ?_)
    | refine go_block ?_ | refine go_skip ?_ | refine go_exit ?_ | refine go_ret ?_
    | refine ret_seq_x.2 ?_ | refine ret_seq_r.2 ?_ | refine ret_block.2 ?_ | refine ret_block_hit.2 ?_ | refine (ret_block_miss rfl).2 ?_ | refine ret_block_r.2 ?_ | refine ret_loop_x.2 ?_ | refine ret_loop_r.2 ?_
            refine go_cond ?_
            simp (disch := first | omega | decide) only [eff, runE, bE]
            refine condGo_split (fun hc2 => ?_) (fun hc2 => ?_)
            · have hc2 := of_decide_eq_true hc2
              have hYl : ∀ i, (qsteps (rnds F r) j).getD i 0 < 4294967296 := qsteps_lt hXl j
              have hY8 : (qsteps (rnds F r) j).length = 16 := by rw [qsteps_len, hX8]
              have hstp : qsteps (rnds F r) (j + 1) = qstep (qsteps (rnds F r) j) j := rfl
              generalize qsteps (rnds F r) j = Y at hYl hY8 hstp g92
              have hp0 := placesL_lt (4 * j)
              have hp1 := placesL_lt (4 * j + 1)
              have hp2 := placesL_lt (4 * j + 2)
              have hp3 := placesL_lt (4 * j + 3)
              rw [qstep] at hstp
              have hix := p_ixAgg4 j hc2
              obtain ⟨P0, e0⟩ : ∃ p, p = placesL.getD (4 * j) 0 := ⟨_, rfl⟩
              obtain ⟨P1, e1⟩ : ∃ p, p = placesL.getD (4 * j + 1) 0 := ⟨_, rfl⟩
              obtain ⟨P2, e2⟩ : ∃ p, p = placesL.getD (4 * j + 2) 0 := ⟨_, rfl⟩
              obtain ⟨P3, e3⟩ : ∃ p, p = placesL.getD (4 * j + 3) 0 := ⟨_, rfl⟩
              rw [← e0, ← e1, ← e2, ← e3] at hix hstp
              rw [← e0] at hp0
              rw [← e1] at hp1
              rw [← e2] at hp2
              rw [← e3] at hp3
              have hst4 := e_storeN (h := k2.new (.cells (List.replicate 4 (.int .i64 (.ofNat 0))) false (some (Nat.mul 2 328)))) (b := k2.next) (n := 4) (c := List.replicate 4 (.int .i64 (.ofNat 0))) (vs := ints [P0, P1, P2, P3]) (by rw [XH.get_new, if_pos rfl]) rfl rfl (ints_one _)
              repeat with_reducible first
    | refine go_seq hE0 ?_ | refine go_region ?_ | refine ops_nil ?_ | refine ret_seq.2 ?_
    | (refine ops_cw hE0 ?_; simp (disch := first | omega | decide) only [eff, runE, bE, f42, f43, hix, hst4])
    | (refine ops_op ?_; simp (disch := first | omega | decide) only [eff, runE, bE, f42, f43, hix, hst4]; refine rgo ?_)
    | refine go_drawn ?_
    | (refine plan_call hE0 (wanted_none _) ?_; simp (disch := first | omega | decide) only [eff, runE, bE, f42, f43, hix, hst4])
    | (refine plan_op ?_; simp (disch := first | omega | decide) only [eff, runE, bE, f42, f43, hix, hst4]; refine plgo ?_)
    | refine go_block ?_ | refine go_skip ?_ | refine go_exit ?_ | refine go_ret ?_
    | refine ret_seq_x.2 ?_ | refine ret_seq_r.2 ?_ | refine ret_block.2 ?_ | refine ret_block_hit.2 ?_ | refine (ret_block_miss rfl).2 ?_ | refine ret_block_r.2 ?_ | refine ret_loop_x.2 ?_ | refine ret_loop_r.2 ?_
              obtain ⟨n12, hn12⟩ : ∃ n, n = k2.next := ⟨_, rfl⟩
              have hx3 : HExt h ((k2.new (.cells (List.replicate 4 (.int .i64 (.ofNat 0))) false (some (Nat.mul 2 328)))).set k2.next (.cells (ints [P0, P1, P2, P3]) false (some (Nat.mul 2 328)))) := (hx2.new _).set (m := k2.next) (by omega) _
              have g83 : ((k2.new (.cells (List.replicate 4 (.int .i64 (.ofNat 0))) false (some (Nat.mul 2 328)))).set k2.next (.cells (ints [P0, P1, P2, P3]) false (some (Nat.mul 2 328)))).get n8 = some (.cells (words F) false (some (Nat.mul 2 327))) := by rw [XH.get_set, if_neg (by omega), XH.get_new, if_neg (by omega)]; exact g82
              have g93 : ((k2.new (.cells (List.replicate 4 (.int .i64 (.ofNat 0))) false (some (Nat.mul 2 328)))).set k2.next (.cells (ints [P0, P1, P2, P3]) false (some (Nat.mul 2 328)))).get (n8 + 1) = some (.cells (words Y) false (some (Nat.mul 2 327))) := by rw [XH.get_set, if_neg (by omega), XH.get_new, if_neg (by omega)]; exact g92
              have gp3 : ((k2.new (.cells (List.replicate 4 (.int .i64 (.ofNat 0))) false (some (Nat.mul 2 328)))).set k2.next (.cells (ints [P0, P1, P2, P3]) false (some (Nat.mul 2 328)))).get n12 = some (.cells (ints [P0, P1, P2, P3]) false (some (Nat.mul 2 328))) := by rw [hn12, XH.get_set, if_pos rfl]
              have hk3 : n12 + 1 ≤ ((k2.new (.cells (List.replicate 4 (.int .i64 (.ofNat 0))) false (some (Nat.mul 2 328)))).set k2.next (.cells (ints [P0, P1, P2, P3]) false (some (Nat.mul 2 328)))).next := by rw [hn12]; exact Nat.le_refl _
              generalize ((k2.new (.cells (List.replicate 4 (.int .i64 (.ofNat 0))) false (some (Nat.mul 2 328)))).set k2.next (.cells (ints [P0, P1, P2, P3]) false (some (Nat.mul 2 328)))) = k3 at hx3 g83 g93 gp3 hk3 ⊢
              rw [← hn12]
              have hn12' : n8 + 2 ≤ n12 := by omega
              clear hst4 hix g82 g92
              have a0 := r_load1 (o := 0) gp3 rfl
              have a1 := r_load1 (o := 1) gp3 rfl
              have a2 := r_load1 (o := 2) gp3 rfl
              have a3 := r_load1 (o := 3) gp3 rfl
              have b0 := r_load1 (o := P0) g93 (words_get (by omega))
              have b1 := r_load1 (o := P1) g93 (words_get (by omega))
              have b2 := r_load1 (o := P2) g93 (words_get (by omega))
              have b3 := r_load1 (o := P3) g93 (words_get (by omega))
              repeat with_reducible first
    | refine go_seq hE0 ?_ | refine go_region ?_ | refine ops_nil ?_ | refine ret_seq.2 ?_
    | (refine ops_cw hE0 ?_; simp (disch := first | omega | decide) only [eff, runE, bE, f9, a0, a1, a2, a3, b0, b1, b2, b3])
    | (refine ops_op ?_; simp (disch := first | omega | decide) only [eff, runE, bE, f9, a0, a1, a2, a3, b0, b1, b2, b3]; refine rgo ?_)
    | refine go_drawn ?_
    | (refine plan_call hE0 (wanted_none _) ?_; simp (disch := first | omega | decide) only [eff, runE, bE, f9, a0, a1, a2, a3, b0, b1, b2, b3])
    | (refine plan_op ?_; simp (disch := first | omega | decide) only [eff, runE, bE, f9, a0, a1, a2, a3, b0, b1, b2, b3]; refine plgo ?_)
    | refine go_block ?_ | refine go_skip ?_ | refine go_exit ?_ | refine go_ret ?_
    | refine ret_seq_x.2 ?_ | refine ret_seq_r.2 ?_ | refine ret_block.2 ?_ | refine ret_block_hit.2 ?_ | refine (ret_block_miss rfl).2 ?_ | refine ret_block_r.2 ?_ | refine ret_loop_x.2 ?_ | refine ret_loop_r.2 ?_
              refine callPl_of (quarter_call _ _ _ _ (hYl _) (hYl _) (hYl _) (hYl _) _) ?_
              have s0 := e_store_w (o := P0) (v := (quarter (Y.getD P0 0) (Y.getD P1 0) (Y.getD P2 0) (Y.getD P3 0)).a) g93 (by omega)
              have s1 := e_store_w (h := k3.set (n8 + 1) (.cells (words (Y.set P0 (quarter (Y.getD P0 0) (Y.getD P1 0) (Y.getD P2 0) (Y.getD P3 0)).a)) false (some (Nat.mul 2 327)))) (o := P1) (v := (quarter (Y.getD P0 0) (Y.getD P1 0) (Y.getD P2 0) (Y.getD P3 0)).b) (by rw [XH.get_set, if_pos rfl]) (by simp only [List.length_set]; omega)
              have s2 := e_store_w (h := (k3.set (n8 + 1) (.cells (words (Y.set P0 (quarter (Y.getD P0 0) (Y.getD P1 0) (Y.getD P2 0) (Y.getD P3 0)).a)) false (some (Nat.mul 2 327)))).set (n8 + 1) (.cells (words ((Y.set P0 (quarter (Y.getD P0 0) (Y.getD P1 0) (Y.getD P2 0) (Y.getD P3 0)).a).set P1 (quarter (Y.getD P0 0) (Y.getD P1 0) (Y.getD P2 0) (Y.getD P3 0)).b)) false (some (Nat.mul 2 327)))) (o := P2) (v := (quarter (Y.getD P0 0) (Y.getD P1 0) (Y.getD P2 0) (Y.getD P3 0)).c) (by rw [XH.get_set, if_pos rfl]) (by simp only [List.length_set]; omega)
              have s3 := e_store_w (h := ((k3.set (n8 + 1) (.cells (words (Y.set P0 (quarter (Y.getD P0 0) (Y.getD P1 0) (Y.getD P2 0) (Y.getD P3 0)).a)) false (some (Nat.mul 2 327)))).set (n8 + 1) (.cells (words ((Y.set P0 (quarter (Y.getD P0 0) (Y.getD P1 0) (Y.getD P2 0) (Y.getD P3 0)).a).set P1 (quarter (Y.getD P0 0) (Y.getD P1 0) (Y.getD P2 0) (Y.getD P3 0)).b)) false (some (Nat.mul 2 327)))).set (n8 + 1) (.cells (words (((Y.set P0 (quarter (Y.getD P0 0) (Y.getD P1 0) (Y.getD P2 0) (Y.getD P3 0)).a).set P1 (quarter (Y.getD P0 0) (Y.getD P1 0) (Y.getD P2 0) (Y.getD P3 0)).b).set P2 (quarter (Y.getD P0 0) (Y.getD P1 0) (Y.getD P2 0) (Y.getD P3 0)).c)) false (some (Nat.mul 2 327)))) (o := P3) (v := (quarter (Y.getD P0 0) (Y.getD P1 0) (Y.getD P2 0) (Y.getD P3 0)).d) (by rw [XH.get_set, if_pos rfl]) (by simp only [List.length_set]; omega)
              repeat with_reducible first
    | refine go_seq hE0 ?_ | refine go_region ?_ | refine ops_nil ?_ | refine ret_seq.2 ?_
    | (refine ops_cw hE0 ?_; simp (disch := first | omega | decide) only [eff, runE, bE, f9, a0, a1, a2, a3, s0, s1, s2, s3])
    | (refine ops_op ?_; simp (disch := first | omega | decide) only [eff, runE, bE, f9, a0, a1, a2, a3, s0, s1, s2, s3]; refine rgo ?_)
    | refine go_drawn ?_
    | (refine plan_call hE0 (wanted_none _) ?_; simp (disch := first | omega | decide) only [eff, runE, bE, f9, a0, a1, a2, a3, s0, s1, s2, s3])
    | (refine plan_op ?_; simp (disch := first | omega | decide) only [eff, runE, bE, f9, a0, a1, a2, a3, s0, s1, s2, s3]; refine plgo ?_)
    | refine go_block ?_ | refine go_skip ?_ | refine go_exit ?_ | refine go_ret ?_
    | refine ret_seq_x.2 ?_ | refine ret_seq_r.2 ?_ | refine ret_block.2 ?_ | refine ret_block_hit.2 ?_ | refine (ret_block_miss rfl).2 ?_ | refine ret_block_r.2 ?_ | refine ret_loop_x.2 ?_ | refine ret_loop_r.2 ?_
              refine plan_nil (by simp (disch := first | omega | decide) only [endOk, chkAt, addNew, newOk, rangeOk, distinctN, Nat.reduceLT, Nat.reduceAdd, Nat.reduceLeDiff, bP, eff, runE, bE, f9, a0, a1, a2, a3, b0, b1, b2, b3]) ?_
              repeat with_reducible first
    | refine go_seq hE0 ?_ | refine go_region ?_ | refine ops_nil ?_ | refine ret_seq.2 ?_
    | (refine ops_cw hE0 ?_; simp (disch := first | omega | decide) only [eff, runE, bE, f43])
    | (refine ops_op ?_; simp (disch := first | omega | decide) only [eff, runE, bE, f43]; refine rgo ?_)
    | refine go_drawn ?_
    | (refine plan_call hE0 (wanted_none _) ?_; simp (disch := first | omega | decide) only [eff, runE, bE, f43])
    | (refine plan_op ?_; simp (disch := first | omega | decide) only [eff, runE, bE, f43]; refine plgo ?_)
    | refine go_block ?_ | refine go_skip ?_ | refine go_exit ?_ | refine go_ret ?_
    | refine ret_seq_x.2 ?_ | refine ret_seq_r.2 ?_ | refine ret_block.2 ?_ | refine ret_block_hit.2 ?_ | refine (ret_block_miss rfl).2 ?_ | refine ret_block_r.2 ?_ | refine ret_loop_x.2 ?_ | refine ret_loop_r.2 ?_
              rw [← hstp]
              refine ret_loop.2 (IH2 (8 - (j + 1)) _ _ (by omega) ⟨j + 1, rfl, by omega, (((hx3.set (m := n8 + 1) (by omega) _).set (m := n8 + 1) (by omega) _).set (m := n8 + 1) (by omega) _).set (m := n8 + 1) (by omega) _, ?_, ?_, ?_, ?_, ?_, ?_, ?_, ?_⟩)
              · simp only [XH.next_set]; omega
              · simp only [XH.get_set, if_neg (show n8 ≠ n8 + 1 by omega)]; exact g83
              · rw [XH.get_set, if_pos rfl]
              all_goals simp (disch := first | omega | decide) only [eff, runE, bE, f8, f9, f40, f42, f43]
            · have hc2 := of_decide_eq_false hc2
              obtain rfl : j = 8 := by omega
              repeat with_reducible first
    | refine go_seq hE0 ?_ | refine go_region ?_ | refine ops_nil ?_ | refine ret_seq.2 ?_
    | (refine ops_cw hE0 ?_; simp (disch := first | omega | decide) only [eff, runE, bE, f40])
    | (refine ops_op ?_; simp (disch := first | omega | decide) only [eff, runE, bE, f40]; refine rgo ?_)
    | refine go_drawn ?_
    | (refine plan_call hE0 (wanted_none _) ?_; simp (disch := first | omega | decide) only [eff, runE, bE, f40])
    | (refine plan_op ?_; simp (disch := first | omega | decide) only [eff, runE, bE, f40]; refine plgo ?_)
    | refine go_block ?_ | refine go_skip ?_ | refine go_exit ?_ | refine go_ret ?_
    | refine ret_seq_x.2 ?_ | refine ret_seq_r.2 ?_ | refine ret_block.2 ?_ | refine ret_block_hit.2 ?_ | refine (ret_block_miss rfl).2 ?_ | refine ret_block_r.2 ?_ | refine ret_loop_x.2 ?_ | refine ret_loop_r.2 ?_
              refine ret_loop.2 (IH (10 - (r + 1)) _ _ (by omega) ⟨r + 1, rfl, by omega, hx2, hkn2, g82, g92, ?_, ?_, ?_⟩) <;> simp (disch := first | omega | decide) only [eff, runE, bE, f8, f9, f40]
          · refine ⟨0, rfl, by omega, hx.trans x1, by omega, (x1.get n8 (by omega)).trans g8, (x1.get (n8 + 1) (by omega)).trans g9, ?_, ?_, ?_, ?_, ?_⟩ <;> simp (disch := first | omega | decide) only [eff, runE, bE, f8, f9, f40]
        · have hc := of_decide_eq_false hc
          obtain rfl : r = 10 := by omega
          have hX8 : (rnds F 10).length = 16 := by rw [rnds_len, hF8]
          generalize rnds F 10 = X at hX8 g9 ⊢
          have lX := r_loadN (h := k) (n := 16) g9 (by rw [words_length, hX8])
          repeat with_reducible first
    | refine go_seq hE0 ?_ | refine go_region ?_ | refine ops_nil ?_ | refine ret_seq.2 ?_
    | (refine ops_cw hE0 ?_; simp (disch := first | omega | decide) only [eff, runE, bE, f9, lX])
    | (refine ops_op ?_; simp (disch := first | omega | decide) only [eff, runE, bE, f9, lX]; refine rgo ?_)
    | refine go_drawn ?_
    | (refine plan_call hE0 (wanted_none _) ?_; simp (disch := first | omega | decide) only [eff, runE, bE, f9, lX])
    | (refine plan_op ?_; simp (disch := first | omega | decide) only [eff, runE, bE, f9, lX]; refine plgo ?_)
    | refine go_block ?_ | refine go_skip ?_ | refine go_exit ?_ | refine go_ret ?_
    | refine ret_seq_x.2 ?_ | refine ret_seq_r.2 ?_ | refine ret_block.2 ?_ | refine ret_block_hit.2 ?_ | refine (ret_block_miss rfl).2 ?_ | refine ret_block_r.2 ?_ | refine ret_loop_x.2 ?_ | refine ret_loop_r.2 ?_
          obtain ⟨kb, hkb⟩ : ∃ kb, kb = k := ⟨_, rfl⟩
          refine go_loop_ind hE0 (fun m fr kk => ∃ i, m = 16 - i ∧ i ≤ 16 ∧ BldAt k.next kk k.next (outB X F i) ∧ Keep k.next (k.new (.cells [.nilp, .nils] false (some (Nat.mul 2 93)))) kk ∧
              ev fr (.t (ixOf 8)) = .ptr n8 0 ∧ ev fr (.t (ixOf 13)) = .ptr k.next 0 ∧ ev fr (.t (ixOf 82)) = .agg (words X) ∧ ev fr (.t (ixOf 83)) = .int .i64 (.ofNat i)) ?_ (n := 16) ?_
          · rintro m fr3 kk IH3 ⟨i, rfl, hi, hb, hkp, f8, f13, f82, f83⟩
            have hkn3 := hkp.1
            simp only [XH.next_new] at hkn3
            repeat with_reducible first
    | refine go_seq hE0 ?_ | refine go_region ?_ | refine ops_nil ?_ | refine ret_seq.2 ?_
    | (refine ops_cw hE0 ?_; simp (disch := first | omega | decide) only [eff, runE, bE, f83])
    | (refine ops_op ?_; simp (disch := first | omega | decide) only [eff, runE, bE, f83]; refine rgo ?_)
    | refine go_drawn ?_
    | (refine plan_call hE0 (wanted_none _) ?_; simp (disch := first | omega | decide) only [eff, runE, bE, f83])
    | (refine plan_op ?_; simp (disch := first | omega | decide) only [eff, runE, bE, f83]; refine plgo ?_)
    | refine go_block ?_ | refine go_skip ?_ | refine go_exit ?_ | refine go_ret ?_
    | refine ret_seq_x.2 ?_ | refine ret_seq_r.2 ?_ | refine ret_block.2 ?_ | refine ret_block_hit.2 ?_ | refine (ret_block_miss rfl).2 ?_ | refine ret_block_r.2 ?_ | refine ret_loop_x.2 ?_ | refine ret_loop_r.2 ?_
            refine go_cond ?_
            simp (disch := first | omega | decide) only [eff, runE, bE]
            refine condGo_split (fun hc => ?_) (fun hc => ?_)
            · have hc := of_decide_eq_true hc
              have g8k : kk.get n8 = some (.cells (words F) false (some (Nat.mul 2 327))) := by rw [hkp.2 n8 (by omega), XH.get_new, if_neg (by omega)]; exact g8
              have lf := r_load1 (o := i) g8k (words_get (by omega))
              have hv := mod_lt32 (X.getD i 0 + F.getD i 0)
              have hv' : (X.getD i 0 + F.getD i 0) % 4294967296 < 18446744073709551616 := by omega
              repeat with_reducible first
    | refine go_seq hE0 ?_ | refine go_region ?_ | refine ops_nil ?_ | refine ret_seq.2 ?_
    | (refine ops_cw hE0 ?_; simp (disch := first | omega | decide) only [eff, runE, bE, f8, f13, f82, f83, p_ixAgg X 16 i hX8.symm hc, lf])
    | (refine ops_op ?_; simp (disch := first | omega | decide) only [eff, runE, bE, f8, f13, f82, f83, p_ixAgg X 16 i hX8.symm hc, lf]; refine rgo ?_)
    | refine go_drawn ?_
    | (refine plan_call hE0 (wanted_none _) ?_; simp (disch := first | omega | decide) only [eff, runE, bE, f8, f13, f82, f83, p_ixAgg X 16 i hX8.symm hc, lf])
    | (refine plan_op ?_; simp (disch := first | omega | decide) only [eff, runE, bE, f8, f13, f82, f83, p_ixAgg X 16 i hX8.symm hc, lf]; refine plgo ?_)
    | refine go_block ?_ | refine go_skip ?_ | refine go_exit ?_ | refine go_ret ?_
    | refine ret_seq_x.2 ?_ | refine ret_seq_r.2 ?_ | refine ret_block.2 ?_ | refine ret_block_hit.2 ?_ | refine (ret_block_miss rfl).2 ?_ | refine ret_block_r.2 ?_ | refine ret_loop_x.2 ?_ | refine ret_loop_r.2 ?_
              refine callGo_ex (putLittle_call _ 4 hv' (by decide) (by decide) kk) ?_
              rintro _ k1 ⟨rfl, x1⟩
              repeat with_reducible first
    | refine go_seq hE0 ?_ | refine go_region ?_ | refine ops_nil ?_ | refine ret_seq.2 ?_
    | (refine ops_cw hE0 ?_; simp (disch := first | omega | decide) only [eff, runE, bE, f8, f13, f82, f83])
    | (refine ops_op ?_; simp (disch := first | omega | decide) only [eff, runE, bE, f8, f13, f82, f83]; refine rgo ?_)
    | refine go_drawn ?_
    | (refine plan_call hE0 (wanted_none _) ?_; simp (disch := first | omega | decide) only [eff, runE, bE, f8, f13, f82, f83])
    | (refine plan_op ?_; simp (disch := first | omega | decide) only [eff, runE, bE, f8, f13, f82, f83]; refine plgo ?_)
    | refine go_block ?_ | refine go_skip ?_ | refine go_exit ?_ | refine go_ret ?_
    | refine ret_seq_x.2 ?_ | refine ret_seq_r.2 ?_ | refine ret_block.2 ?_ | refine ret_block_hit.2 ?_ | refine (ret_block_miss rfl).2 ?_ | refine ret_block_r.2 ?_ | refine ret_loop_x.2 ?_ | refine ret_loop_r.2 ?_
              refine callGo_ex (write_call (hb.ext x1) (putLittle ((X.getD i 0 + F.getD i 0) % 4294967296) 4) (fun e => by have := putLittle_len ((X.getD i 0 + F.getD i 0) % 4294967296) 4; rw [e] at this; cases this) (by rw [outB_len, putLittle_len]; omega)) ?_
              rintro _ k2 ⟨hb2, hk2⟩
              repeat with_reducible first
    | refine go_seq hE0 ?_ | refine go_region ?_ | refine ops_nil ?_ | refine ret_seq.2 ?_
    | (refine ops_cw hE0 ?_; simp (disch := first | omega | decide) only [eff, runE, bE, f83])
    | (refine ops_op ?_; simp (disch := first | omega | decide) only [eff, runE, bE, f83]; refine rgo ?_)
    | refine go_drawn ?_
    | (refine plan_call hE0 (wanted_none _) ?_; simp (disch := first | omega | decide) only [eff, runE, bE, f83])
    | (refine plan_op ?_; simp (disch := first | omega | decide) only [eff, runE, bE, f83]; refine plgo ?_)
    | refine go_block ?_ | refine go_skip ?_ | refine go_exit ?_ | refine go_ret ?_
    | refine ret_seq_x.2 ?_ | refine ret_seq_r.2 ?_ | refine ret_block.2 ?_ | refine ret_block_hit.2 ?_ | refine (ret_block_miss rfl).2 ?_ | refine ret_block_r.2 ?_ | refine ret_loop_x.2 ?_ | refine ret_loop_r.2 ?_
              refine ret_loop.2 (IH3 (16 - (i + 1)) _ _ (by omega) ⟨i + 1, rfl, by omega, hb2, (hkp.ext (by omega) x1).trans hk2, ?_, ?_, ?_, ?_⟩) <;> simp (disch := first | omega | decide) only [eff, runE, bE, f8, f13, f82, f83]
            · have hc := of_decide_eq_false hc
              obtain rfl : i = 16 := by omega
              repeat with_reducible first
    | refine go_seq hE0 ?_ | refine go_region ?_ | refine ops_nil ?_ | refine ret_seq.2 ?_
    | (refine ops_cw hE0 ?_; simp (disch := first | omega | decide) only [eff, runE, bE, f13])
    | (refine ops_op ?_; simp (disch := first | omega | decide) only [eff, runE, bE, f13]; refine rgo ?_)
    | refine go_drawn ?_
    | (refine plan_call hE0 (wanted_none _) ?_; simp (disch := first | omega | decide) only [eff, runE, bE, f13])
    | (refine plan_op ?_; simp (disch := first | omega | decide) only [eff, runE, bE, f13]; refine plgo ?_)
    | refine go_block ?_ | refine go_skip ?_ | refine go_exit ?_ | refine go_ret ?_
    | refine ret_seq_x.2 ?_ | refine ret_seq_r.2 ?_ | refine ret_block.2 ?_ | refine ret_block_hit.2 ?_ | refine (ret_block_miss rfl).2 ?_ | refine ret_block_r.2 ?_ | refine ret_loop_x.2 ?_ | refine ret_loop_r.2 ?_
              refine callGo_ex (string_call hb (outB_lt X F 16) (fun e => by have := outB_len X F 16; rw [e] at this; cases this) (by rw [outB_len]; omega)) ?_
              rintro _ k1 ⟨rfl, hk1⟩
              repeat with_reducible first
    | refine go_seq hE0 ?_ | refine go_region ?_ | refine ops_nil ?_ | refine ret_seq.2 ?_
    | (refine ops_cw hE0 ?_; simp (disch := first | omega | decide) only [eff, runE, bE])
    | (refine ops_op ?_; simp (disch := first | omega | decide) only [eff, runE, bE]; refine rgo ?_)
    | refine go_drawn ?_
    | (refine plan_call hE0 (wanted_none _) ?_; simp (disch := first | omega | decide) only [eff, runE, bE])
    | (refine plan_op ?_; simp (disch := first | omega | decide) only [eff, runE, bE]; refine plgo ?_)
    | refine go_block ?_ | refine go_skip ?_ | refine go_exit ?_ | refine go_ret ?_
    | refine ret_seq_x.2 ?_ | refine ret_seq_r.2 ?_ | refine ret_block.2 ?_ | refine ret_block_hit.2 ?_ | refine (ret_block_miss rfl).2 ?_ | refine ret_block_r.2 ?_ | refine ret_loop_x.2 ?_ | refine ret_loop_r.2 ?_
              refine ret_nil.2 ⟨_, fin_tmp (.inr rfl), ?_, ?_⟩
              · simp (disch := first | omega | decide) only [eff, runE, bE]
              · have h1 := hkp.trans hk1
                refine ⟨by have := h1.1; simp only [XH.next_new] at this; omega, fun m hm => ?_⟩
                rw [h1.2 m (by omega), XH.get_new, if_neg (by omega), hx.get m hm]
          · refine ⟨0, rfl, by omega, BldAt.start, ⟨Nat.le_refl _, fun _ _ => rfl⟩, ?_, ?_, ?_, ?_⟩ <;> simp (disch := first | omega | decide) only [eff, runE, bE, f8]
      · refine ⟨0, rfl, by omega, hx0, hk0, g8', g9', ?_, ?_, ?_⟩ <;> simp (disch := first | omega | decide) only [eff, runE, bE, f8, f9]
  · refine ⟨0, rfl, by omega, (hx.new _).new _, ?_, ?_, ?_, ?_, ?_, ?_, ?_⟩
    · simp only [XH.next_new]; omega
    · rw [hn8, XH.get_new, XH.next_new, if_neg (by omega), XH.get_new, if_pos rfl]; rfl
    · rw [hn8, XH.get_new, XH.next_new, if_pos rfl]
    all_goals (try rw [hn8])
    all_goals simp (disch := first | omega | decide) only [eff, runE, bE]
end Go.Proofs.XCode
end
section
namespace Go.Proofs.XCode
open Go.X
set_option linter.unusedSimpArgs false
set_option linter.unusedVariables false
def quads (l : List Nat) : List XV := l.map fun w => .int .u64 (.ofNat w)
theorem quads_length (l : List Nat) : (quads l).length = l.length := by simp [quads]
theorem quads_get {l : List Nat} {i : Nat} (h : i < l.length) : (quads l)[i]? = some (.int .u64 (.ofNat (l.getD i 0))) := by
  simp [quads, List.getElem?_map, List.getElem?_eq_getElem h, List.getD_eq_getElem?_getD]
theorem quads_one (l : List Nat) : allOne (quads l) = true := by
  induction l with
  | nil => rfl
  | cons a l ih => exact ih
theorem rep_quads (n : Nat) : List.replicate n (XV.int .u64 (.ofNat 0)) = quads (List.replicate n 0) := by simp [quads]
theorem e_store_q {h : XH} {b o : Nat} {c : List Nat} {tg : Option Nat} {v : Nat} (hg : h.get b = some (.cells (quads c) false tg)) (hc : o < c.length) : eStore h 1 (.ptr b o) (.int .u64 (.ofNat v)) = some (unit, h.set b (.cells (quads (c.set o v)) false tg)) := by
  rw [e_store_one hg (by rw [quads_length]; exact hc) rfl]
  simp [quads, List.map_set]
theorem wrap_u64m (n : Nat) : wrapX .u64 (.ofNat n) = .ofNat (n % 18446744073709551616) := rfl
theorem fill5 (a b c d e : Nat) : pBuild (quads (List.replicate 5 0)) [(0, 1, .int .u64 (.ofNat a)), (1, 1, .int .u64 (.ofNat b)), (2, 1, .int .u64 (.ofNat c)), (3, 1, .int .u64 (.ofNat d)), (4, 1, .int .u64 (.ofNat e))] = some (.agg (quads [a, b, c, d, e])) := rfl
def Fresh (h : XH) : Prop := ∀ n, h.next ≤ n → h.get n = none
theorem Fresh.new {h : XH} (hf : Fresh h) (o : XO) : Fresh (h.new o) := fun n hn => by
  rw [XH.next_new] at hn
  rw [XH.get_new, if_neg (by omega)]
  exact hf n (by omega)
theorem Fresh.set {h : XH} (hf : Fresh h) {m : Nat} (hm : m < h.next) (o : XO) : Fresh (h.set m o) := fun n hn => by
  rw [XH.next_set] at hn
  rw [XH.get_set, if_neg (by omega)]
  exact hf n hn
abbrev W64 : Nat := 18446744073709551616
def maskN (x : Nat) : Nat := (x % 18446744073709551616 &&& 67108863 % 18446744073709551616) % 18446744073709551616
def orN (x y : Nat) : Nat := (x % 18446744073709551616 ||| y % 18446744073709551616) % 18446744073709551616
def shlN (x n : Nat) : Nat := (x <<< n) % 18446744073709551616
def splitL (low high top : Nat) : List Nat := [maskN low, maskN (low >>> 26), maskN (orN (low >>> 52) (shlN high 12)), maskN (high >>> 14), orN (high >>> 40) (shlN top 24)]
theorem splitL_len (a b c : Nat) : (splitL a b c).length = 5 := rfl
theorem split_call (low high top : Nat) (h : XH) : CallEv E0 n_onetime_split [.int .u64 (.ofNat low), .int .u64 (.ofNat high), .int .u64 (.ofNat top)] h (fun r k => r = .agg (quads (splitL low high top)) ∧ HExt h k ∧ (Fresh h → Fresh k)) := by
  have b26 : 26 ≤ IntKind.u64.bits := by decide
  have b52 : 52 ≤ IntKind.u64.bits := by decide
  have b12 : 12 ≤ IntKind.u64.bits := by decide
  have b14 : 14 ≤ IntKind.u64.bits := by decide
  have b40 : 40 ≤ IntKind.u64.bits := by decide
  have b24 : 24 ≤ IntKind.u64.bits := by decide
  have hst := e_storeN (h := h.new (.cells (quads (List.replicate 5 0)) false (some (Nat.mul 2 335)))) (b := h.next) (n := 5) (c := quads (List.replicate 5 0)) (vs := quads (splitL low high top)) (by rw [XH.get_new, if_pos rfl]) rfl rfl (quads_one _)
  simp only [splitL, maskN, orN, shlN] at hst
  refine call_fn fn_onetime_split ?_
  simp only [args0_cons, args0_nil]
  repeat with_reducible first
    | refine go_seq hE0 ?_ | refine go_region ?_ | refine ops_nil ?_ | refine ret_seq.2 ?_
    | (refine ops_cw hE0 ?_; simp (disch := first | omega | decide) only [eff, runE, bE, b26, b52, b12, b14, b40, b24, wrap_u64m, fill5, rep_quads, hst])
    | (refine ops_op ?_; simp (disch := first | omega | decide) only [eff, runE, bE, b26, b52, b12, b14, b40, b24, wrap_u64m, fill5, rep_quads, hst]; refine rgo ?_)
    | refine go_drawn ?_
    | (refine plan_call hE0 (wanted_none _) ?_; simp (disch := first | omega | decide) only [eff, runE, bE, b26, b52, b12, b14, b40, b24, wrap_u64m, fill5, rep_quads, hst])
    | (refine plan_op ?_; simp (disch := first | omega | decide) only [eff, runE, bE, b26, b52, b12, b14, b40, b24, wrap_u64m, fill5, rep_quads, hst]; refine plgo ?_)
    | refine go_block ?_ | refine go_skip ?_ | refine go_exit ?_ | refine go_ret ?_
    | refine ret_seq_x.2 ?_ | refine ret_seq_r.2 ?_ | refine ret_block.2 ?_ | refine ret_block_hit.2 ?_ | refine (ret_block_miss rfl).2 ?_ | refine ret_block_r.2 ?_ | refine ret_loop_x.2 ?_ | refine ret_loop_r.2 ?_
  refine ret_nil.2 ⟨_, fin_cell (.inr rfl) (v := .agg (quads (splitL low high top))) ?_, rfl, ((HExt.refl h).new _).set (m := h.next) (Nat.le_refl _) _, fun hf => (hf.new _).set (by rw [XH.next_new]; omega) _⟩
  simp (disch := first | omega | decide) only [eff, runE, bE]
  exact r_loadN (by rw [XH.get_set, if_pos rfl]; rfl) rfl
def plusF (x y : List Nat) : Nat → List Nat
  | 0 => x
  | i + 1 => (plusF x y i).set i (((plusF x y i).getD i 0 + y.getD i 0) % 18446744073709551616)
theorem plusF_len (x y : List Nat) : ∀ i, (plusF x y i).length = x.length
  | 0 => rfl
  | i + 1 => by rw [plusF, List.length_set, plusF_len x y i]
theorem plus_call (x y : List Nat) (hx : x.length = 5) (hy : y.length = 5) (h : XH) : CallEv E0 n_onetime_number_plus [.agg (quads x), .agg (quads y)] h (fun r k => r = .agg (quads (plusF x y 5)) ∧ HExt h k) := by
  refine call_fn fn_onetime_number_plus ?_
  simp only [args0_cons, args0_nil]
  repeat with_reducible first
    | refine go_seq hE0 ?_ | refine go_region ?_ | refine ops_nil ?_ | refine ret_seq.2 ?_
    | (refine ops_cw hE0 ?_; simp (disch := first | omega | decide) only [eff, runE, bE, XV.cells, rep_quads])
    | (refine ops_op ?_; simp (disch := first | omega | decide) only [eff, runE, bE, XV.cells, rep_quads]; refine rgo ?_)
    | refine go_drawn ?_
    | (refine plan_call hE0 (wanted_none _) ?_; simp (disch := first | omega | decide) only [eff, runE, bE, XV.cells, rep_quads])
    | (refine plan_op ?_; simp (disch := first | omega | decide) only [eff, runE, bE, XV.cells, rep_quads]; refine plgo ?_)
    | refine go_block ?_ | refine go_skip ?_ | refine go_exit ?_ | refine go_ret ?_
    | refine ret_seq_x.2 ?_ | refine ret_seq_r.2 ?_ | refine ret_block.2 ?_ | refine ret_block_hit.2 ?_ | refine (ret_block_miss rfl).2 ?_ | refine ret_block_r.2 ?_ | refine ret_loop_x.2 ?_ | refine ret_loop_r.2 ?_
  refine go_loop_ind hE0 (fun m fr k => ∃ i, m = 5 - i ∧ i ≤ 5 ∧ HExt h k ∧ h.next + 3 ≤ k.next ∧ k.get h.next = some (.cells (quads (plusF x y i)) false none) ∧ k.get (h.next + 1) = some (.cells (quads y) false none) ∧ k.get (h.next + 1 + 1) = some (.cells (quads (List.replicate 5 0)) false (some (Nat.mul 2 335))) ∧
      ev fr (.t (ixOf 2)) = .ptr h.next 0 ∧ ev fr (.t (ixOf 3)) = .ptr (h.next + 1) 0 ∧ ev fr (.t (ixOf 4)) = .ptr (h.next + 1 + 1) 0 ∧ ev fr (.t (ixOf 6)) = .int .i64 (.ofNat i)) ?_ (n := 5) ?_
  · rintro m fr k IH ⟨i, rfl, hi, hxt, hn, g0, g1, g2, f2, f3, f4, f6⟩
    have hl := plusF_len x y i
    repeat with_reducible first
    | refine go_seq hE0 ?_ | refine go_region ?_ | refine ops_nil ?_ | refine ret_seq.2 ?_
    | (refine ops_cw hE0 ?_; simp (disch := first | omega | decide) only [eff, runE, bE, f6])
    | (refine ops_op ?_; simp (disch := first | omega | decide) only [eff, runE, bE, f6]; refine rgo ?_)
    | refine go_drawn ?_
    | (refine plan_call hE0 (wanted_none _) ?_; simp (disch := first | omega | decide) only [eff, runE, bE, f6])
    | (refine plan_op ?_; simp (disch := first | omega | decide) only [eff, runE, bE, f6]; refine plgo ?_)
    | refine go_block ?_ | refine go_skip ?_ | refine go_exit ?_ | refine go_ret ?_
    | refine ret_seq_x.2 ?_ | refine ret_seq_r.2 ?_ | refine ret_block.2 ?_ | refine ret_block_hit.2 ?_ | refine (ret_block_miss rfl).2 ?_ | refine ret_block_r.2 ?_ | refine ret_loop_x.2 ?_ | refine ret_loop_r.2 ?_
    refine go_cond ?_
    simp (disch := first | omega | decide) only [eff, runE, bE]
    refine condGo_split (fun hc => ?_) (fun hc => ?_)
    · have hc := of_decide_eq_true hc
      have l0 := r_load1 (o := i) g0 (quads_get (by omega))
      have l1 := r_load1 (o := i) g1 (quads_get (by omega))
      have hst := fun v => e_store_q (o := i) (v := v) g0 (by omega)
      repeat with_reducible first
    | refine go_seq hE0 ?_ | refine go_region ?_ | refine ops_nil ?_ | refine ret_seq.2 ?_
    | (refine ops_cw hE0 ?_; simp (disch := first | omega | decide) only [eff, runE, bE, f2, f3, f6, l0, l1, wrap_u64m, hst])
    | (refine ops_op ?_; simp (disch := first | omega | decide) only [eff, runE, bE, f2, f3, f6, l0, l1, wrap_u64m, hst]; refine rgo ?_)
    | refine go_drawn ?_
    | (refine plan_call hE0 (wanted_none _) ?_; simp (disch := first | omega | decide) only [eff, runE, bE, f2, f3, f6, l0, l1, wrap_u64m, hst])
    | (refine plan_op ?_; simp (disch := first | omega | decide) only [eff, runE, bE, f2, f3, f6, l0, l1, wrap_u64m, hst]; refine plgo ?_)
    | refine go_block ?_ | refine go_skip ?_ | refine go_exit ?_ | refine go_ret ?_
    | refine ret_seq_x.2 ?_ | refine ret_seq_r.2 ?_ | refine ret_block.2 ?_ | refine ret_block_hit.2 ?_ | refine (ret_block_miss rfl).2 ?_ | refine ret_block_r.2 ?_ | refine ret_loop_x.2 ?_ | refine ret_loop_r.2 ?_
      refine plan_nil (by simp (disch := first | omega | decide) only [endOk, chkAt, addNew, newOk, rangeOk, distinctN, Nat.reduceLT, Nat.reduceAdd, Nat.reduceLeDiff, bP, eff, runE, bE, f2, f3, f6, l0, l1]) ?_
      repeat with_reducible first
    | refine go_seq hE0 ?_ | refine go_region ?_ | refine ops_nil ?_ | refine ret_seq.2 ?_
    | (refine ops_cw hE0 ?_; simp (disch := first | omega | decide) only [eff, runE, bE, f6])
    | (refine ops_op ?_; simp (disch := first | omega | decide) only [eff, runE, bE, f6]; refine rgo ?_)
    | refine go_drawn ?_
    | (refine plan_call hE0 (wanted_none _) ?_; simp (disch := first | omega | decide) only [eff, runE, bE, f6])
    | (refine plan_op ?_; simp (disch := first | omega | decide) only [eff, runE, bE, f6]; refine plgo ?_)
    | refine go_block ?_ | refine go_skip ?_ | refine go_exit ?_ | refine go_ret ?_
    | refine ret_seq_x.2 ?_ | refine ret_seq_r.2 ?_ | refine ret_block.2 ?_ | refine ret_block_hit.2 ?_ | refine (ret_block_miss rfl).2 ?_ | refine ret_block_r.2 ?_ | refine ret_loop_x.2 ?_ | refine ret_loop_r.2 ?_
      refine ret_loop.2 (IH (5 - (i + 1)) _ _ (by omega) ⟨i + 1, rfl, by omega, hxt.set (m := h.next) (by omega) _, ?_, ?_, ?_, ?_, ?_, ?_, ?_, ?_⟩)
      · simp only [XH.next_set]; omega
      · rw [XH.get_set, if_pos rfl]; rfl
      · rw [XH.get_set, if_neg (by omega)]; exact g1
      · rw [XH.get_set, if_neg (by omega)]; exact g2
      all_goals simp (disch := first | omega | decide) only [eff, runE, bE, f2, f3, f4, f6]
    · have hc := of_decide_eq_false hc
      obtain rfl : i = 5 := by omega
      have lr := r_loadN (n := 5) g0 (by rw [quads_length, hl, hx])
      have hst := e_storeN (n := 5) g2 (vs := quads (plusF x y 5)) (by rw [quads_length, hl, hx]) (by rw [quads_length, quads_length, hl, hx]; rfl) (quads_one _)
      repeat with_reducible first
    | refine go_seq hE0 ?_ | refine go_region ?_ | refine ops_nil ?_ | refine ret_seq.2 ?_
    | (refine ops_cw hE0 ?_; simp (disch := first | omega | decide) only [eff, runE, bE, f2, f4, lr, hst])
    | (refine ops_op ?_; simp (disch := first | omega | decide) only [eff, runE, bE, f2, f4, lr, hst]; refine rgo ?_)
    | refine go_drawn ?_
    | (refine plan_call hE0 (wanted_none _) ?_; simp (disch := first | omega | decide) only [eff, runE, bE, f2, f4, lr, hst])
    | (refine plan_op ?_; simp (disch := first | omega | decide) only [eff, runE, bE, f2, f4, lr, hst]; refine plgo ?_)
    | refine go_block ?_ | refine go_skip ?_ | refine go_exit ?_ | refine go_ret ?_
    | refine ret_seq_x.2 ?_ | refine ret_seq_r.2 ?_ | refine ret_block.2 ?_ | refine ret_block_hit.2 ?_ | refine (ret_block_miss rfl).2 ?_ | refine ret_block_r.2 ?_ | refine ret_loop_x.2 ?_ | refine ret_loop_r.2 ?_
      refine ret_nil.2 ⟨_, fin_cell (.inr rfl) (v := .agg (quads (plusF x y 5))) ?_, rfl, hxt.set (m := h.next + 1 + 1) (by omega) _⟩
      simp (disch := first | omega | decide) only [eff, runE, bE, f4]
      exact r_loadN (by rw [XH.get_set, if_pos rfl]) (by rw [quads_length, hl, hx])
  · refine ⟨0, rfl, by omega, (((HExt.refl h).new _).new _).new _, ?_, ?_, ?_, ?_, ?_, ?_, ?_, ?_⟩
    · simp only [XH.next_new]; omega
    · simp only [XH.get_new, XH.next_new]
      rw [if_neg (by omega), if_neg (by omega), if_true]; rfl
    · simp only [XH.get_new, XH.next_new]
      rw [if_neg (by omega), if_true]
    · simp only [XH.get_new, XH.next_new]
      rw [if_true]
    all_goals simp (disch := first | omega | decide) only [eff, runE, bE]
def cstep (p : List Nat × Nat) (i : Nat) : List Nat × Nat :=
  let v := (p.1.getD i 0 + p.2) % 18446744073709551616
  (p.1.set i (maskN v), v >>> 26)
def cF (x : List Nat) (c : Nat) : Nat → List Nat × Nat
  | 0 => (x, c)
  | i + 1 => cstep (cF x c i) i
theorem cF_len (x : List Nat) (c : Nat) : ∀ i, (cF x c i).1.length = x.length
  | 0 => rfl
  | i + 1 => by rw [cF, cstep, List.length_set, cF_len x c i]
def carry1 (x : List Nat) : List Nat := (cF x 0 5).1.set 0 (((cF x 0 5).1.getD 0 0 + ((cF x 0 5).2 * 5) % 18446744073709551616) % 18446744073709551616)
theorem carry1_len (x : List Nat) : (carry1 x).length = x.length := by rw [carry1, List.length_set, cF_len]
def carryF (x : List Nat) : Nat → List Nat
  | 0 => x
  | i + 1 => carry1 (carryF x i)
theorem carryF_len (x : List Nat) : ∀ i, (carryF x i).length = x.length
  | 0 => rfl
  | i + 1 => by rw [carryF, carry1_len, carryF_len x i]
theorem getD_set_self {l : List Nat} {i v : Nat} (h : i < l.length) : (l.set i v).getD i 0 = v := by
  rw [List.getD_eq_getElem?_getD, List.getElem?_set, if_pos rfl, if_pos h]; rfl
set_option maxHeartbeats 1000000 in
theorem carry_call (x : List Nat) (hx : x.length = 5) (h : XH) : CallEv E0 n_onetime_number_carry [.agg (quads x)] h (fun r k => r = .agg (quads (carryF x 3)) ∧ HExt h k) := by
  have b26 : 26 ≤ IntKind.u64.bits := by decide
  refine call_fn fn_onetime_number_carry ?_
  simp only [args0_cons, args0_nil]
  repeat with_reducible first
    | refine go_seq hE0 ?_ | refine go_region ?_ | refine ops_nil ?_ | refine ret_seq.2 ?_
    | (refine ops_cw hE0 ?_; simp (disch := first | omega | decide) only [eff, runE, bE, XV.cells, rep_quads])
    | (refine ops_op ?_; simp (disch := first | omega | decide) only [eff, runE, bE, XV.cells, rep_quads]; refine rgo ?_)
    | refine go_drawn ?_
    | (refine plan_call hE0 (wanted_none _) ?_; simp (disch := first | omega | decide) only [eff, runE, bE, XV.cells, rep_quads])
    | (refine plan_op ?_; simp (disch := first | omega | decide) only [eff, runE, bE, XV.cells, rep_quads]; refine plgo ?_)
    | refine go_block ?_ | refine go_skip ?_ | refine go_exit ?_ | refine go_ret ?_
    | refine ret_seq_x.2 ?_ | refine ret_seq_r.2 ?_ | refine ret_block.2 ?_ | refine ret_block_hit.2 ?_ | refine (ret_block_miss rfl).2 ?_ | refine ret_block_r.2 ?_ | refine ret_loop_x.2 ?_ | refine ret_loop_r.2 ?_
  refine go_loop_ind hE0 (fun m fr k => ∃ p, m = 3 - p ∧ p ≤ 3 ∧ HExt h k ∧ h.next + 2 ≤ k.next ∧ k.get h.next = some (.cells (quads (carryF x p)) false none) ∧ k.get (h.next + 1) = some (.cells (quads (List.replicate 5 0)) false (some (Nat.mul 2 335))) ∧
      ev fr (.t (ixOf 1)) = .ptr h.next 0 ∧ ev fr (.t (ixOf 2)) = .ptr (h.next + 1) 0 ∧ ev fr (.t (ixOf 5)) = .int .i64 (.ofNat p)) ?_ (n := 3) ?_
  · rintro m fr k IH ⟨p, rfl, hp, hxt, hn, g0, g1, f1, f2, f5⟩
    have hl : (carryF x p).length = 5 := by rw [carryF_len, hx]
    repeat with_reducible first
    | refine go_seq hE0 ?_ | refine go_region ?_ | refine ops_nil ?_ | refine ret_seq.2 ?_
    | (refine ops_cw hE0 ?_; simp (disch := first | omega | decide) only [eff, runE, bE, f5])
    | (refine ops_op ?_; simp (disch := first | omega | decide) only [eff, runE, bE, f5]; refine rgo ?_)
    | refine go_drawn ?_
    | (refine plan_call hE0 (wanted_none _) ?_; simp (disch := first | omega | decide) only [eff, runE, bE, f5])
    | (refine plan_op ?_; simp (disch := first | omega | decide) only [eff, runE, bE, f5]; refine plgo ?_)
    | refine go_block ?_ | refine go_skip ?_ | refine go_exit ?_ | refine go_ret ?_
    | refine ret_seq_x.2 ?_ | refine ret_seq_r.2 ?_ | refine ret_block.2 ?_ | refine ret_block_hit.2 ?_ | refine (ret_block_miss rfl).2 ?_ | refine ret_block_r.2 ?_ | refine ret_loop_x.2 ?_ | refine ret_loop_r.2 ?_
    refine go_cond ?_
    simp (disch := first | omega | decide) only [eff, runE, bE]
    refine condGo_split (fun hc => ?_) (fun hc => ?_)
    · have hc := of_decide_eq_true hc
      have hsu : carryF x (p + 1) = carry1 (carryF x p) := rfl
      generalize carryF x p = Y at hl hsu g0
      repeat with_reducible first
    | refine go_seq hE0 ?_ | refine go_region ?_ | refine ops_nil ?_ | refine ret_seq.2 ?_
    | (refine ops_cw hE0 ?_; simp (disch := first | omega | decide) only [eff, runE, bE])
    | (refine ops_op ?_; simp (disch := first | omega | decide) only [eff, runE, bE]; refine rgo ?_)
    | refine go_drawn ?_
    | (refine plan_call hE0 (wanted_none _) ?_; simp (disch := first | omega | decide) only [eff, runE, bE])
    | (refine plan_op ?_; simp (disch := first | omega | decide) only [eff, runE, bE]; refine plgo ?_)
    | refine go_block ?_ | refine go_skip ?_ | refine go_exit ?_ | refine go_ret ?_
    | refine ret_seq_x.2 ?_ | refine ret_seq_r.2 ?_ | refine ret_block.2 ?_ | refine ret_block_hit.2 ?_ | refine (ret_block_miss rfl).2 ?_ | refine ret_block_r.2 ?_ | refine ret_loop_x.2 ?_ | refine ret_loop_r.2 ?_
      refine go_loop_ind hE0 (fun m fr k => ∃ i, m = 5 - i ∧ i ≤ 5 ∧ HExt h k ∧ h.next + 2 ≤ k.next ∧ k.get h.next = some (.cells (quads (cF Y 0 i).1) false none) ∧ k.get (h.next + 1) = some (.cells (quads (List.replicate 5 0)) false (some (Nat.mul 2 335))) ∧
          ev fr (.t (ixOf 1)) = .ptr h.next 0 ∧ ev fr (.t (ixOf 2)) = .ptr (h.next + 1) 0 ∧ ev fr (.t (ixOf 3)) = .int .u64 (.ofNat (cF Y 0 i).2) ∧ ev fr (.t (ixOf 5)) = .int .i64 (.ofNat p) ∧ ev fr (.t (ixOf 7)) = .int .i64 (.ofNat i)) ?_ (n := 5) ?_
      · rintro m fr2 k2 IH2 ⟨i, rfl, hi, hxt2, hn2, g02, g12, f1, f2, f3, f5, f7⟩
        repeat with_reducible first
    | refine go_seq hE0 ?_ | refine go_region ?_ | refine ops_nil ?_ | refine ret_seq.2 ?_
    | (refine ops_cw hE0 ?_; simp (disch := first | omega | decide) only [eff, runE, bE, f7])
    | (refine ops_op ?_; simp (disch := first | omega | decide) only [eff, runE, bE, f7]; refine rgo ?_)
    | refine go_drawn ?_
    | (refine plan_call hE0 (wanted_none _) ?_; simp (disch := first | omega | decide) only [eff, runE, bE, f7])
    | (refine plan_op ?_; simp (disch := first | omega | decide) only [eff, runE, bE, f7]; refine plgo ?_)
    | refine go_block ?_ | refine go_skip ?_ | refine go_exit ?_ | refine go_ret ?_
    | refine ret_seq_x.2 ?_ | refine ret_seq_r.2 ?_ | refine ret_block.2 ?_ | refine ret_block_hit.2 ?_ | refine (ret_block_miss rfl).2 ?_ | refine ret_block_r.2 ?_ | refine ret_loop_x.2 ?_ | refine ret_loop_r.2 ?_
        refine go_cond ?_
        simp (disch := first | omega | decide) only [eff, runE, bE]
        refine condGo_split (fun hc2 => ?_) (fun hc2 => ?_)
        · have hc2 := of_decide_eq_true hc2
          have hZ : (cF Y 0 i).1.length = 5 := by rw [cF_len, hl]
          have hst1 : cF Y 0 (i + 1) = cstep (cF Y 0 i) i := rfl
          generalize cF Y 0 i = Z at hZ hst1 g02 f3
          obtain ⟨Z, c⟩ := Z
          simp only at hZ g02 f3
          have l0 := r_load1 (o := i) g02 (quads_get (by omega))
          have s0 := e_store_q (o := i) (v := (Z.getD i 0 + c) % 18446744073709551616) g02 (by omega)
          have g03 : (k2.set h.next (.cells (quads (Z.set i ((Z.getD i 0 + c) % 18446744073709551616))) false none)).get h.next = some (.cells (quads (Z.set i ((Z.getD i 0 + c) % 18446744073709551616))) false none) := by rw [XH.get_set, if_pos rfl]
          have l1 := r_load1 (o := i) g03 (quads_get (by rw [List.length_set]; omega))
          rw [getD_set_self (by omega)] at l1
          have s1 := e_store_q (o := i) (v := maskN ((Z.getD i 0 + c) % 18446744073709551616)) g03 (by rw [List.length_set]; omega)
          rw [List.set_set] at s1
          simp only [maskN] at s1
          repeat with_reducible first
    | refine go_seq hE0 ?_ | refine go_region ?_ | refine ops_nil ?_ | refine ret_seq.2 ?_
    | (refine ops_cw hE0 ?_; simp (disch := first | omega | decide) only [eff, runE, bE, f1, f3, f7, l0, b26, wrap_u64m, s0, l1, s1])
    | (refine ops_op ?_; simp (disch := first | omega | decide) only [eff, runE, bE, f1, f3, f7, l0, b26, wrap_u64m, s0, l1, s1]; refine rgo ?_)
    | refine go_drawn ?_
    | (refine plan_call hE0 (wanted_none _) ?_; simp (disch := first | omega | decide) only [eff, runE, bE, f1, f3, f7, l0, b26, wrap_u64m, s0, l1, s1])
    | (refine plan_op ?_; simp (disch := first | omega | decide) only [eff, runE, bE, f1, f3, f7, l0, b26, wrap_u64m, s0, l1, s1]; refine plgo ?_)
    | refine go_block ?_ | refine go_skip ?_ | refine go_exit ?_ | refine go_ret ?_
    | refine ret_seq_x.2 ?_ | refine ret_seq_r.2 ?_ | refine ret_block.2 ?_ | refine ret_block_hit.2 ?_ | refine (ret_block_miss rfl).2 ?_ | refine ret_block_r.2 ?_ | refine ret_loop_x.2 ?_ | refine ret_loop_r.2 ?_
          refine ret_loop.2 (IH2 (5 - (i + 1)) _ _ (by omega) ⟨i + 1, rfl, by omega, (hxt2.set (m := h.next) (by omega) _).set (m := h.next) (by omega) _, ?_, ?_, ?_, ?_, ?_, ?_, ?_, ?_⟩)
          · simp only [XH.next_set]; omega
          · rw [XH.get_set, if_pos rfl, hst1]; rfl
          · simp only [XH.get_set, if_neg (show h.next + 1 ≠ h.next by omega)]; exact g12
          · simp (disch := first | omega | decide) only [eff, runE, bE, f1]
          · simp (disch := first | omega | decide) only [eff, runE, bE, f2]
          · rw [hst1]
            simp (disch := first | omega | decide) only [eff, runE, bE]
            rfl
          all_goals simp (disch := first | omega | decide) only [eff, runE, bE, f5, f7]
        · have hc2 := of_decide_eq_false hc2
          obtain rfl : i = 5 := by omega
          have hZ : (cF Y 0 5).1.length = 5 := by rw [cF_len, hl]
          rw [carry1] at hsu
          generalize cF Y 0 5 = Z at hZ hsu g02 f3
          obtain ⟨Z, c⟩ := Z
          simp only at hZ g02 f3 hsu
          have l0 := r_load1 (o := 0) g02 (quads_get (by omega))
          have s0 := fun v => e_store_q (o := 0) (v := v) g02 (by omega)
          repeat with_reducible first
    | refine go_seq hE0 ?_ | refine go_region ?_ | refine ops_nil ?_ | refine ret_seq.2 ?_
    | (refine ops_cw hE0 ?_; simp (disch := first | omega | decide) only [eff, runE, bE, f1, f3, f5, l0, wrap_u64m, s0])
    | (refine ops_op ?_; simp (disch := first | omega | decide) only [eff, runE, bE, f1, f3, f5, l0, wrap_u64m, s0]; refine rgo ?_)
    | refine go_drawn ?_
    | (refine plan_call hE0 (wanted_none _) ?_; simp (disch := first | omega | decide) only [eff, runE, bE, f1, f3, f5, l0, wrap_u64m, s0])
    | (refine plan_op ?_; simp (disch := first | omega | decide) only [eff, runE, bE, f1, f3, f5, l0, wrap_u64m, s0]; refine plgo ?_)
    | refine go_block ?_ | refine go_skip ?_ | refine go_exit ?_ | refine go_ret ?_
    | refine ret_seq_x.2 ?_ | refine ret_seq_r.2 ?_ | refine ret_block.2 ?_ | refine ret_block_hit.2 ?_ | refine (ret_block_miss rfl).2 ?_ | refine ret_block_r.2 ?_ | refine ret_loop_x.2 ?_ | refine ret_loop_r.2 ?_
          refine ret_loop.2 (IH (3 - (p + 1)) _ _ (by omega) ⟨p + 1, rfl, by omega, hxt2.set (m := h.next) (by omega) _, ?_, ?_, ?_, ?_, ?_, ?_⟩)
          · simp only [XH.next_set]; omega
          · rw [XH.get_set, if_pos rfl, hsu]
          · rw [XH.get_set, if_neg (by omega)]; exact g12
          all_goals simp (disch := first | omega | decide) only [eff, runE, bE, f1, f2, f5]
      · refine ⟨0, rfl, by omega, hxt, hn, g0, g1, ?_, ?_, ?_, ?_, ?_⟩
        · simp (disch := first | omega | decide) only [eff, runE, bE, f1]
        · simp (disch := first | omega | decide) only [eff, runE, bE, f2]
        · simp (disch := first | omega | decide) only [eff, runE, bE]
          rfl
        · simp (disch := first | omega | decide) only [eff, runE, bE, f5]
        · simp (disch := first | omega | decide) only [eff, runE, bE]
    · have hc := of_decide_eq_false hc
      obtain rfl : p = 3 := by omega
      have lr := r_loadN (n := 5) g0 (by rw [quads_length, hl])
      have hst := e_storeN (n := 5) g1 (vs := quads (carryF x 3)) (by rw [quads_length, hl]) (by rw [quads_length, quads_length, hl]; rfl) (quads_one _)
      repeat with_reducible first
    | refine go_seq hE0 ?_ | refine go_region ?_ | refine ops_nil ?_ | refine ret_seq.2 ?_
    | (refine ops_cw hE0 ?_; simp (disch := first | omega | decide) only [eff, runE, bE, f1, f2, lr, hst])
    | (refine ops_op ?_; simp (disch := first | omega | decide) only [eff, runE, bE, f1, f2, lr, hst]; refine rgo ?_)
    | refine go_drawn ?_
    | (refine plan_call hE0 (wanted_none _) ?_; simp (disch := first | omega | decide) only [eff, runE, bE, f1, f2, lr, hst])
    | (refine plan_op ?_; simp (disch := first | omega | decide) only [eff, runE, bE, f1, f2, lr, hst]; refine plgo ?_)
    | refine go_block ?_ | refine go_skip ?_ | refine go_exit ?_ | refine go_ret ?_
    | refine ret_seq_x.2 ?_ | refine ret_seq_r.2 ?_ | refine ret_block.2 ?_ | refine ret_block_hit.2 ?_ | refine (ret_block_miss rfl).2 ?_ | refine ret_block_r.2 ?_ | refine ret_loop_x.2 ?_ | refine ret_loop_r.2 ?_
      refine ret_nil.2 ⟨_, fin_cell (.inr rfl) (v := .agg (quads (carryF x 3))) ?_, rfl, hxt.set (m := h.next + 1) (by omega) _⟩
      simp (disch := first | omega | decide) only [eff, runE, bE, f2]
      exact r_loadN (by rw [XH.get_set, if_pos rfl]) (by rw [quads_length, hl])
  · refine ⟨0, rfl, by omega, ((HExt.refl h).new _).new _, ?_, ?_, ?_, ?_, ?_, ?_⟩
    · simp only [XH.next_new]; omega
    · simp only [XH.get_new, XH.next_new]
      rw [if_neg (by omega), if_true]; rfl
    · simp only [XH.get_new, XH.next_new]
      rw [if_true]
    all_goals simp (disch := first | omega | decide) only [eff, runE, bE]
end Go.Proofs.XCode
end
section
namespace Go.Proofs.XCode
open Go.X
set_option linter.unusedSimpArgs false
set_option linter.unusedVariables false
def tstep (x y : List Nat) (i j : Nat) (T : List Nat) : List Nat :=
  if j ≤ i then T.set i ((T.getD i 0 + (x.getD j 0 * y.getD (i - j) 0) % 18446744073709551616) % 18446744073709551616)
  else T.set i ((T.getD i 0 + (((x.getD j 0 * y.getD (5 + i - j) 0) % 18446744073709551616) * 5) % 18446744073709551616) % 18446744073709551616)
def tin (x y : List Nat) (i : Nat) (T : List Nat) : Nat → List Nat
  | 0 => T
  | j + 1 => tstep x y i j (tin x y i T j)
theorem tstep_len (x y : List Nat) (i j : Nat) (T : List Nat) : (tstep x y i j T).length = T.length := by
  unfold tstep; split <;> rw [List.length_set]
theorem tin_len (x y : List Nat) (i : Nat) (T : List Nat) : ∀ j, (tin x y i T j).length = T.length
  | 0 => rfl
  | j + 1 => by rw [tin, tstep_len, tin_len x y i T j]
def tout (x y : List Nat) : Nat → List Nat
  | 0 => List.replicate 5 0
  | i + 1 => tin x y i (tout x y i) 5
theorem tout_len (x y : List Nat) : ∀ i, (tout x y i).length = 5
  | 0 => rfl
  | i + 1 => by rw [tout, tin_len, tout_len x y i]
set_option maxHeartbeats 1000000 in
theorem times_call (x y : List Nat) (hx : x.length = 5) (hy : y.length = 5) (h : XH) : CallEv E0 n_onetime_number_times [.agg (quads x), .agg (quads y)] h (fun r k => r = .agg (quads (carryF (tout x y 5) 3)) ∧ HExt h k) := by
  refine call_fn fn_onetime_number_times ?_
  simp only [args0_cons, args0_nil]
  repeat with_reducible first
    | refine go_seq hE0 ?_ | refine go_region ?_ | refine ops_nil ?_ | refine ret_seq.2 ?_
    | (refine ops_cw hE0 ?_; simp (disch := first | omega | decide) only [eff, runE, bE, XV.cells, rep_quads])
    | (refine ops_op ?_; simp (disch := first | omega | decide) only [eff, runE, bE, XV.cells, rep_quads]; refine rgo ?_)
    | refine go_drawn ?_
    | (refine plan_call hE0 (wanted_none _) ?_; simp (disch := first | omega | decide) only [eff, runE, bE, XV.cells, rep_quads])
    | (refine plan_op ?_; simp (disch := first | omega | decide) only [eff, runE, bE, XV.cells, rep_quads]; refine plgo ?_)
    | refine go_block ?_ | refine go_skip ?_ | refine go_exit ?_ | refine go_ret ?_
    | refine ret_seq_x.2 ?_ | refine ret_seq_r.2 ?_ | refine ret_block.2 ?_ | refine ret_block_hit.2 ?_ | refine (ret_block_miss rfl).2 ?_ | refine ret_block_r.2 ?_ | refine ret_loop_x.2 ?_ | refine ret_loop_r.2 ?_
  refine go_loop_ind hE0 (fun m fr k => ∃ i, m = 5 - i ∧ i ≤ 5 ∧ HExt h k ∧ h.next + 4 ≤ k.next ∧ k.get h.next = some (.cells (quads x) false none) ∧ k.get (h.next + 1) = some (.cells (quads y) false none) ∧ k.get (h.next + 1 + 1) = some (.cells (quads (List.replicate 5 0)) false (some (Nat.mul 2 335))) ∧ k.get (h.next + 1 + 1 + 1) = some (.cells (quads (tout x y i)) false (some (Nat.mul 2 335))) ∧
      ev fr (.t (ixOf 2)) = .ptr h.next 0 ∧ ev fr (.t (ixOf 3)) = .ptr (h.next + 1) 0 ∧ ev fr (.t (ixOf 4)) = .ptr (h.next + 1 + 1) 0 ∧ ev fr (.t (ixOf 5)) = .ptr (h.next + 1 + 1 + 1) 0 ∧ ev fr (.t (ixOf 8)) = .int .i64 (.ofNat i)) ?_ (n := 5) ?_
  · rintro m fr k IH ⟨i, rfl, hi, hxt, hn, g0, g1, g2, g3, f2, f3, f4, f5, f8⟩
    have hl := tout_len x y i
    repeat with_reducible first
    | refine go_seq hE0 ?_ | refine go_region ?_ | refine ops_nil ?_ | refine ret_seq.2 ?_
    | (refine ops_cw hE0 ?_; simp (disch := first | omega | decide) only [eff, runE, bE, f8])
    | (refine ops_op ?_; simp (disch := first | omega | decide) only [eff, runE, bE, f8]; refine rgo ?_)
    | refine go_drawn ?_
    | (refine plan_call hE0 (wanted_none _) ?_; simp (disch := first | omega | decide) only [eff, runE, bE, f8])
    | (refine plan_op ?_; simp (disch := first | omega | decide) only [eff, runE, bE, f8]; refine plgo ?_)
    | refine go_block ?_ | refine go_skip ?_ | refine go_exit ?_ | refine go_ret ?_
    | refine ret_seq_x.2 ?_ | refine ret_seq_r.2 ?_ | refine ret_block.2 ?_ | refine ret_block_hit.2 ?_ | refine (ret_block_miss rfl).2 ?_ | refine ret_block_r.2 ?_ | refine ret_loop_x.2 ?_ | refine ret_loop_r.2 ?_
    refine go_cond ?_
    simp (disch := first | omega | decide) only [eff, runE, bE]
    refine condGo_split (fun hc => ?_) (fun hc => ?_)
    · have hc := of_decide_eq_true hc
      have hsu : tout x y (i + 1) = tin x y i (tout x y i) 5 := rfl
      generalize tout x y i = Y at hl hsu g3
      repeat with_reducible first
    | refine go_seq hE0 ?_ | refine go_region ?_ | refine ops_nil ?_ | refine ret_seq.2 ?_
    | (refine ops_cw hE0 ?_; simp (disch := first | omega | decide) only [eff, runE, bE, f8])
    | (refine ops_op ?_; simp (disch := first | omega | decide) only [eff, runE, bE, f8]; refine rgo ?_)
    | refine go_drawn ?_
    | (refine plan_call hE0 (wanted_none _) ?_; simp (disch := first | omega | decide) only [eff, runE, bE, f8])
    | (refine plan_op ?_; simp (disch := first | omega | decide) only [eff, runE, bE, f8]; refine plgo ?_)
    | refine go_block ?_ | refine go_skip ?_ | refine go_exit ?_ | refine go_ret ?_
    | refine ret_seq_x.2 ?_ | refine ret_seq_r.2 ?_ | refine ret_block.2 ?_ | refine ret_block_hit.2 ?_ | refine (ret_block_miss rfl).2 ?_ | refine ret_block_r.2 ?_ | refine ret_loop_x.2 ?_ | refine ret_loop_r.2 ?_
      refine go_loop_ind hE0 (fun m fr k => ∃ j, m = 5 - j ∧ j ≤ 5 ∧ HExt h k ∧ h.next + 4 ≤ k.next ∧ k.get h.next = some (.cells (quads x) false none) ∧ k.get (h.next + 1) = some (.cells (quads y) false none) ∧ k.get (h.next + 1 + 1) = some (.cells (quads (List.replicate 5 0)) false (some (Nat.mul 2 335))) ∧ k.get (h.next + 1 + 1 + 1) = some (.cells (quads (tin x y i Y j)) false (some (Nat.mul 2 335))) ∧
          ev fr (.t (ixOf 2)) = .ptr h.next 0 ∧ ev fr (.t (ixOf 3)) = .ptr (h.next + 1) 0 ∧ ev fr (.t (ixOf 4)) = .ptr (h.next + 1 + 1) 0 ∧ ev fr (.t (ixOf 5)) = .ptr (h.next + 1 + 1 + 1) 0 ∧ ev fr (.t (ixOf 6)) = .int .i64 (.ofNat i) ∧ ev fr (.t (ixOf 8)) = .int .i64 (.ofNat i) ∧ ev fr (.t (ixOf 11)) = .int .i64 (.ofNat j)) ?_ (n := 5) ?_
      · rintro m fr2 k2 IH2 ⟨j, rfl, hj, hxt2, hn2, g02, g12, g22, g32, f2, f3, f4, f5, f6, f8, f11⟩
        repeat with_reducible first
    | refine go_seq hE0 ?_ | refine go_region ?_ | refine ops_nil ?_ | refine ret_seq.2 ?_
    | (refine ops_cw hE0 ?_; simp (disch := first | omega | decide) only [eff, runE, bE, f11])
    | (refine ops_op ?_; simp (disch := first | omega | decide) only [eff, runE, bE, f11]; refine rgo ?_)
    | refine go_drawn ?_
    | (refine plan_call hE0 (wanted_none _) ?_; simp (disch := first | omega | decide) only [eff, runE, bE, f11])
    | (refine plan_op ?_; simp (disch := first | omega | decide) only [eff, runE, bE, f11]; refine plgo ?_)
    | refine go_block ?_ | refine go_skip ?_ | refine go_exit ?_ | refine go_ret ?_
    | refine ret_seq_x.2 ?_ | refine ret_seq_r.2 ?_ | refine ret_block.2 ?_ | refine ret_block_hit.2 ?_ | refine (ret_block_miss rfl).2 ?_ | refine ret_block_r.2 ?_ | refine ret_loop_x.2 ?_ | refine ret_loop_r.2 ?_
        refine go_cond ?_
        simp (disch := first | omega | decide) only [eff, runE, bE]
        refine condGo_split (fun hc2 => ?_) (fun hc2 => ?_)
        · have hc2 := of_decide_eq_true hc2
          have hZ : (tin x y i Y j).length = 5 := by rw [tin_len, hl]
          have hst1 : tin x y i Y (j + 1) = tstep x y i j (tin x y i Y j) := rfl
          generalize tin x y i Y j = Z at hZ hst1 g32
          have l0 := r_load1 (o := i) g32 (quads_get (by omega))
          have l1 := r_load1 (o := j) g02 (quads_get (by omega))
          have s0 := fun v => e_store_q (o := i) (v := v) g32 (by omega)
          repeat with_reducible first
    | refine go_seq hE0 ?_ | refine go_region ?_ | refine ops_nil ?_ | refine ret_seq.2 ?_
    | (refine ops_cw hE0 ?_; simp (disch := first | omega | decide) only [eff, runE, bE, f6, f11])
    | (refine ops_op ?_; simp (disch := first | omega | decide) only [eff, runE, bE, f6, f11]; refine rgo ?_)
    | refine go_drawn ?_
    | (refine plan_call hE0 (wanted_none _) ?_; simp (disch := first | omega | decide) only [eff, runE, bE, f6, f11])
    | (refine plan_op ?_; simp (disch := first | omega | decide) only [eff, runE, bE, f6, f11]; refine plgo ?_)
    | refine go_block ?_ | refine go_skip ?_ | refine go_exit ?_ | refine go_ret ?_
    | refine ret_seq_x.2 ?_ | refine ret_seq_r.2 ?_ | refine ret_block.2 ?_ | refine ret_block_hit.2 ?_ | refine (ret_block_miss rfl).2 ?_ | refine ret_block_r.2 ?_ | refine ret_loop_x.2 ?_ | refine ret_loop_r.2 ?_
          refine go_cond ?_
          simp (disch := first | omega | decide) only [eff, runE, bE]
          refine condGo_split (fun hc3 => ?_) (fun hc3 => ?_)
          · have hc3 := of_decide_eq_true hc3
            have l2 := r_load1 (o := i - j) g12 (quads_get (by omega))
            rw [tstep, if_pos hc3] at hst1
            repeat with_reducible first
    | refine go_seq hE0 ?_ | refine go_region ?_ | refine ops_nil ?_ | refine ret_seq.2 ?_
    | (refine ops_cw hE0 ?_; simp (disch := first | omega | decide) only [eff, runE, bE, f2, f3, f5, f6, f11, l0, l1, l2, wrap_u64m, s0])
    | (refine ops_op ?_; simp (disch := first | omega | decide) only [eff, runE, bE, f2, f3, f5, f6, f11, l0, l1, l2, wrap_u64m, s0]; refine rgo ?_)
    | refine go_drawn ?_
    | (refine plan_call hE0 (wanted_none _) ?_; simp (disch := first | omega | decide) only [eff, runE, bE, f2, f3, f5, f6, f11, l0, l1, l2, wrap_u64m, s0])
    | (refine plan_op ?_; simp (disch := first | omega | decide) only [eff, runE, bE, f2, f3, f5, f6, f11, l0, l1, l2, wrap_u64m, s0]; refine plgo ?_)
    | refine go_block ?_ | refine go_skip ?_ | refine go_exit ?_ | refine go_ret ?_
    | refine ret_seq_x.2 ?_ | refine ret_seq_r.2 ?_ | refine ret_block.2 ?_ | refine ret_block_hit.2 ?_ | refine (ret_block_miss rfl).2 ?_ | refine ret_block_r.2 ?_ | refine ret_loop_x.2 ?_ | refine ret_loop_r.2 ?_
            refine plan_nil (by simp (disch := first | omega | decide) only [endOk, chkAt, addNew, newOk, rangeOk, distinctN, Nat.reduceLT, Nat.reduceAdd, Nat.reduceLeDiff, bP, eff, runE, bE, f2, f3, f5, f6, f11, l0, l1, l2]) ?_
            repeat with_reducible first
    | refine go_seq hE0 ?_ | refine go_region ?_ | refine ops_nil ?_ | refine ret_seq.2 ?_
    | (refine ops_cw hE0 ?_; simp (disch := first | omega | decide) only [eff, runE, bE, f11])
    | (refine ops_op ?_; simp (disch := first | omega | decide) only [eff, runE, bE, f11]; refine rgo ?_)
    | refine go_drawn ?_
    | (refine plan_call hE0 (wanted_none _) ?_; simp (disch := first | omega | decide) only [eff, runE, bE, f11])
    | (refine plan_op ?_; simp (disch := first | omega | decide) only [eff, runE, bE, f11]; refine plgo ?_)
    | refine go_block ?_ | refine go_skip ?_ | refine go_exit ?_ | refine go_ret ?_
    | refine ret_seq_x.2 ?_ | refine ret_seq_r.2 ?_ | refine ret_block.2 ?_ | refine ret_block_hit.2 ?_ | refine (ret_block_miss rfl).2 ?_ | refine ret_block_r.2 ?_ | refine ret_loop_x.2 ?_ | refine ret_loop_r.2 ?_
            refine ret_loop.2 (IH2 (5 - (j + 1)) _ _ (by omega) ⟨j + 1, rfl, by omega, hxt2.set (m := h.next + 1 + 1 + 1) (by omega) _, ?_, ?_, ?_, ?_, ?_, ?_, ?_, ?_, ?_, ?_, ?_, ?_⟩)
            · simp only [XH.next_set]; omega
            · rw [XH.get_set, if_neg (by omega)]; exact g02
            · rw [XH.get_set, if_neg (by omega)]; exact g12
            · rw [XH.get_set, if_neg (by omega)]; exact g22
            · rw [XH.get_set, if_pos rfl, hst1]
            all_goals simp (disch := first | omega | decide) only [eff, runE, bE, f2, f3, f4, f5, f6, f8, f11]
          · have hc3 := of_decide_eq_false hc3
            have l2 := r_load1 (o := 5 + i - j) g12 (quads_get (by omega))
            rw [tstep, if_neg hc3] at hst1
            repeat with_reducible first
    | refine go_seq hE0 ?_ | refine go_region ?_ | refine ops_nil ?_ | refine ret_seq.2 ?_
    | (refine ops_cw hE0 ?_; simp (disch := first | omega | decide) only [eff, runE, bE, f2, f3, f5, f6, f11, l0, l1, l2, wrap_u64m, s0])
    | (refine ops_op ?_; simp (disch := first | omega | decide) only [eff, runE, bE, f2, f3, f5, f6, f11, l0, l1, l2, wrap_u64m, s0]; refine rgo ?_)
    | refine go_drawn ?_
    | (refine plan_call hE0 (wanted_none _) ?_; simp (disch := first | omega | decide) only [eff, runE, bE, f2, f3, f5, f6, f11, l0, l1, l2, wrap_u64m, s0])
    | (refine plan_op ?_; simp (disch := first | omega | decide) only [eff, runE, bE, f2, f3, f5, f6, f11, l0, l1, l2, wrap_u64m, s0]; refine plgo ?_)
    | refine go_block ?_ | refine go_skip ?_ | refine go_exit ?_ | refine go_ret ?_
    | refine ret_seq_x.2 ?_ | refine ret_seq_r.2 ?_ | refine ret_block.2 ?_ | refine ret_block_hit.2 ?_ | refine (ret_block_miss rfl).2 ?_ | refine ret_block_r.2 ?_ | refine ret_loop_x.2 ?_ | refine ret_loop_r.2 ?_
            refine plan_nil (by simp (disch := first | omega | decide) only [endOk, chkAt, addNew, newOk, rangeOk, distinctN, Nat.reduceLT, Nat.reduceAdd, Nat.reduceLeDiff, bP, eff, runE, bE, f2, f3, f5, f6, f11, l0, l1, l2]) ?_
            repeat with_reducible first
    | refine go_seq hE0 ?_ | refine go_region ?_ | refine ops_nil ?_ | refine ret_seq.2 ?_
    | (refine ops_cw hE0 ?_; simp (disch := first | omega | decide) only [eff, runE, bE, f11])
    | (refine ops_op ?_; simp (disch := first | omega | decide) only [eff, runE, bE, f11]; refine rgo ?_)
    | refine go_drawn ?_
    | (refine plan_call hE0 (wanted_none _) ?_; simp (disch := first | omega | decide) only [eff, runE, bE, f11])
    | (refine plan_op ?_; simp (disch := first | omega | decide) only [eff, runE, bE, f11]; refine plgo ?_)
    | refine go_block ?_ | refine go_skip ?_ | refine go_exit ?_ | refine go_ret ?_
    | refine ret_seq_x.2 ?_ | refine ret_seq_r.2 ?_ | refine ret_block.2 ?_ | refine ret_block_hit.2 ?_ | refine (ret_block_miss rfl).2 ?_ | refine ret_block_r.2 ?_ | refine ret_loop_x.2 ?_ | refine ret_loop_r.2 ?_
            refine ret_loop.2 (IH2 (5 - (j + 1)) _ _ (by omega) ⟨j + 1, rfl, by omega, hxt2.set (m := h.next + 1 + 1 + 1) (by omega) _, ?_, ?_, ?_, ?_, ?_, ?_, ?_, ?_, ?_, ?_, ?_, ?_⟩)
            · simp only [XH.next_set]; omega
            · rw [XH.get_set, if_neg (by omega)]; exact g02
            · rw [XH.get_set, if_neg (by omega)]; exact g12
            · rw [XH.get_set, if_neg (by omega)]; exact g22
            · rw [XH.get_set, if_pos rfl, hst1]
            all_goals simp (disch := first | omega | decide) only [eff, runE, bE, f2, f3, f4, f5, f6, f8, f11]
        · have hc2 := of_decide_eq_false hc2
          obtain rfl : j = 5 := by omega
          repeat with_reducible first
    | refine go_seq hE0 ?_ | refine go_region ?_ | refine ops_nil ?_ | refine ret_seq.2 ?_
    | (refine ops_cw hE0 ?_; simp (disch := first | omega | decide) only [eff, runE, bE, f8])
    | (refine ops_op ?_; simp (disch := first | omega | decide) only [eff, runE, bE, f8]; refine rgo ?_)
    | refine go_drawn ?_
    | (refine plan_call hE0 (wanted_none _) ?_; simp (disch := first | omega | decide) only [eff, runE, bE, f8])
    | (refine plan_op ?_; simp (disch := first | omega | decide) only [eff, runE, bE, f8]; refine plgo ?_)
    | refine go_block ?_ | refine go_skip ?_ | refine go_exit ?_ | refine go_ret ?_
    | refine ret_seq_x.2 ?_ | refine ret_seq_r.2 ?_ | refine ret_block.2 ?_ | refine ret_block_hit.2 ?_ | refine (ret_block_miss rfl).2 ?_ | refine ret_block_r.2 ?_ | refine ret_loop_x.2 ?_ | refine ret_loop_r.2 ?_
          refine ret_loop.2 (IH (5 - (i + 1)) _ _ (by omega) ⟨i + 1, rfl, by omega, hxt2, hn2, g02, g12, g22, ?_, ?_, ?_, ?_, ?_, ?_⟩)
          · rw [hsu]; exact g32
          all_goals simp (disch := first | omega | decide) only [eff, runE, bE, f2, f3, f4, f5, f8]
      · refine ⟨0, rfl, by omega, hxt, hn, g0, g1, g2, g3, ?_, ?_, ?_, ?_, ?_, ?_, ?_⟩
        all_goals simp (disch := first | omega | decide) only [eff, runE, bE, f2, f3, f4, f5, f8]
    · have hc := of_decide_eq_false hc
      obtain rfl : i = 5 := by omega
      have lr := r_loadN (n := 5) g3 (by rw [quads_length, hl])
      repeat with_reducible first
    | refine go_seq hE0 ?_ | refine go_region ?_ | refine ops_nil ?_ | refine ret_seq.2 ?_
    | (refine ops_cw hE0 ?_; simp (disch := first | omega | decide) only [eff, runE, bE, f5, lr])
    | (refine ops_op ?_; simp (disch := first | omega | decide) only [eff, runE, bE, f5, lr]; refine rgo ?_)
    | refine go_drawn ?_
    | (refine plan_call hE0 (wanted_none _) ?_; simp (disch := first | omega | decide) only [eff, runE, bE, f5, lr])
    | (refine plan_op ?_; simp (disch := first | omega | decide) only [eff, runE, bE, f5, lr]; refine plgo ?_)
    | refine go_block ?_ | refine go_skip ?_ | refine go_exit ?_ | refine go_ret ?_
    | refine ret_seq_x.2 ?_ | refine ret_seq_r.2 ?_ | refine ret_block.2 ?_ | refine ret_block_hit.2 ?_ | refine (ret_block_miss rfl).2 ?_ | refine ret_block_r.2 ?_ | refine ret_loop_x.2 ?_ | refine ret_loop_r.2 ?_
      refine callGo_ex (carry_call (tout x y 5) hl k) ?_
      rintro r k3 ⟨rfl, hxt3⟩
      have g4 : k3.get (h.next + 1 + 1) = _ := (hxt3.get _ (by omega)).trans g2
      have hst := e_storeN (n := 5) g4 (vs := quads (carryF (tout x y 5) 3)) (by rw [quads_length, carryF_len, hl]) (by rw [quads_length, quads_length, carryF_len, hl]; rfl) (quads_one _)
      repeat with_reducible first
    | refine go_seq hE0 ?_ | refine go_region ?_ | refine ops_nil ?_ | refine ret_seq.2 ?_
    | (refine ops_cw hE0 ?_; simp (disch := first | omega | decide) only [eff, runE, bE, f4, hst])
    | (refine ops_op ?_; simp (disch := first | omega | decide) only [eff, runE, bE, f4, hst]; refine rgo ?_)
    | refine go_drawn ?_
    | (refine plan_call hE0 (wanted_none _) ?_; simp (disch := first | omega | decide) only [eff, runE, bE, f4, hst])
    | (refine plan_op ?_; simp (disch := first | omega | decide) only [eff, runE, bE, f4, hst]; refine plgo ?_)
    | refine go_block ?_ | refine go_skip ?_ | refine go_exit ?_ | refine go_ret ?_
    | refine ret_seq_x.2 ?_ | refine ret_seq_r.2 ?_ | refine ret_block.2 ?_ | refine ret_block_hit.2 ?_ | refine (ret_block_miss rfl).2 ?_ | refine ret_block_r.2 ?_ | refine ret_loop_x.2 ?_ | refine ret_loop_r.2 ?_
      refine ret_nil.2 ⟨_, fin_cell (.inr rfl) (v := .agg (quads (carryF (tout x y 5) 3))) ?_, rfl, (hxt.trans hxt3).set (m := h.next + 1 + 1) (by omega) _⟩
      simp (disch := first | omega | decide) only [eff, runE, bE, f4]
      exact r_loadN (by rw [XH.get_set, if_pos rfl]) (by rw [quads_length, carryF_len, hl])
  · refine ⟨0, rfl, by omega, ((((HExt.refl h).new _).new _).new _).new _, ?_, ?_, ?_, ?_, ?_, ?_, ?_, ?_, ?_, ?_⟩
    · simp only [XH.next_new]; omega
    · simp only [XH.get_new, XH.next_new]
      rw [if_neg (by omega), if_neg (by omega), if_neg (by omega), if_true]
    · simp only [XH.get_new, XH.next_new]
      rw [if_neg (by omega), if_neg (by omega), if_true]
    · simp only [XH.get_new, XH.next_new]
      rw [if_neg (by omega), if_true]
    · simp only [XH.get_new, XH.next_new]
      rw [if_true]; rfl
    all_goals simp (disch := first | omega | decide) only [eff, runE, bE]
def wholeF (x : List Nat) : List Nat :=
  if 0 < (cF (carryF x 3) 5 5).2 then (cF (carryF x 3) 5 5).1 else carryF x 3
set_option maxHeartbeats 1000000 in
theorem whole_call (x : List Nat) (hx : x.length = 5) (h : XH) : CallEv E0 n_onetime_number_whole [.agg (quads x)] h (fun r k => r = .agg (quads (wholeF x)) ∧ HExt h k) := by
  have b26 : 26 ≤ IntKind.u64.bits := by decide
  refine call_fn fn_onetime_number_whole ?_
  simp only [args0_cons, args0_nil]
  have l0 : rLoad ((h.new (.cells (quads x) false none)).new (.cells (quads (List.replicate 5 0)) false (some (Nat.mul 2 335)))) (.many 5) (.ptr h.next 0) = some (.agg (quads x)) :=
    r_loadN (n := 5) (by simp only [XH.get_new, XH.next_new]; rw [if_neg (by omega), if_true]) (by rw [quads_length, hx])
  repeat with_reducible first
    | refine go_seq hE0 ?_ | refine go_region ?_ | refine ops_nil ?_ | refine ret_seq.2 ?_
    | (refine ops_cw hE0 ?_; simp (disch := first | omega | decide) only [eff, runE, bE, XV.cells, rep_quads, l0])
    | (refine ops_op ?_; simp (disch := first | omega | decide) only [eff, runE, bE, XV.cells, rep_quads, l0]; refine rgo ?_)
    | refine go_drawn ?_
    | (refine plan_call hE0 (wanted_none _) ?_; simp (disch := first | omega | decide) only [eff, runE, bE, XV.cells, rep_quads, l0])
    | (refine plan_op ?_; simp (disch := first | omega | decide) only [eff, runE, bE, XV.cells, rep_quads, l0]; refine plgo ?_)
    | refine go_block ?_ | refine go_skip ?_ | refine go_exit ?_ | refine go_ret ?_
    | refine ret_seq_x.2 ?_ | refine ret_seq_r.2 ?_ | refine ret_block.2 ?_ | refine ret_block_hit.2 ?_ | refine (ret_block_miss rfl).2 ?_ | refine ret_block_r.2 ?_ | refine ret_loop_x.2 ?_ | refine ret_loop_r.2 ?_
  refine callGo_ex (carry_call x hx _) ?_
  rintro r k ⟨rfl, hxt⟩
  have hl : (carryF x 3).length = 5 := by rw [carryF_len, hx]
  have hn := hxt.le
  simp only [XH.next_new] at hn
  have hxt0 : HExt h k := (((HExt.refl h).new _).new _).trans hxt
  have g0 : k.get h.next = some (.cells (quads x) false none) := (hxt.get _ (by simp only [XH.next_new]; omega)).trans (by simp only [XH.get_new, XH.next_new]; rw [if_neg (by omega), if_true])
  have g1 : k.get (h.next + 1) = some (.cells (quads (List.replicate 5 0)) false (some (Nat.mul 2 335))) := (hxt.get _ (by simp only [XH.next_new]; omega)).trans (by simp only [XH.get_new, XH.next_new]; rw [if_true])
  have hst := e_storeN (n := 5) g0 (vs := quads (carryF x 3)) (by rw [quads_length, hl]) (by rw [quads_length, quads_length, hl, hx]) (quads_one _)
  have hw : wholeF x = if 0 < (cF (carryF x 3) 5 5).2 then (cF (carryF x 3) 5 5).1 else carryF x 3 := rfl
  generalize carryF x 3 = Y at hl hst hw
  have l1 : rLoad (k.set h.next (.cells (quads Y) false none)) (.many 5) (.ptr h.next 0) = some (.agg (quads Y)) := r_loadN (by rw [XH.get_set, if_pos rfl]) (by rw [quads_length, hl])
  have hst2 := e_storeN (h := (k.set h.next (.cells (quads Y) false none)).new (.cells (quads (List.replicate 5 0)) false (some (Nat.mul 2 335)))) (b := k.next) (n := 5) (c := quads (List.replicate 5 0)) (vs := quads Y) (by rw [XH.get_new, if_pos (by rw [XH.next_set])]) (by rw [quads_length, hl]) (by rw [quads_length, quads_length, hl]; rfl) (quads_one _)
  repeat with_reducible first
    | refine go_seq hE0 ?_ | refine go_region ?_ | refine ops_nil ?_ | refine ret_seq.2 ?_
    | (refine ops_cw hE0 ?_; simp (disch := first | omega | decide) only [eff, runE, bE, XV.cells, rep_quads, hst, l1, hst2])
    | (refine ops_op ?_; simp (disch := first | omega | decide) only [eff, runE, bE, XV.cells, rep_quads, hst, l1, hst2]; refine rgo ?_)
    | refine go_drawn ?_
    | (refine plan_call hE0 (wanted_none _) ?_; simp (disch := first | omega | decide) only [eff, runE, bE, XV.cells, rep_quads, hst, l1, hst2])
    | (refine plan_op ?_; simp (disch := first | omega | decide) only [eff, runE, bE, XV.cells, rep_quads, hst, l1, hst2]; refine plgo ?_)
    | refine go_block ?_ | refine go_skip ?_ | refine go_exit ?_ | refine go_ret ?_
    | refine ret_seq_x.2 ?_ | refine ret_seq_r.2 ?_ | refine ret_block.2 ?_ | refine ret_block_hit.2 ?_ | refine (ret_block_miss rfl).2 ?_ | refine ret_block_r.2 ?_ | refine ret_loop_x.2 ?_ | refine ret_loop_r.2 ?_
  refine go_loop_ind hE0 (fun m fr q => ∃ i, m = 5 - i ∧ i ≤ 5 ∧ HExt h q ∧ k.next + 1 ≤ q.next ∧ q.get h.next = some (.cells (quads Y) false none) ∧ q.get (h.next + 1) = some (.cells (quads (List.replicate 5 0)) false (some (Nat.mul 2 335))) ∧ q.get k.next = some (.cells (quads (cF Y 5 i).1) false (some (Nat.mul 2 335))) ∧
      ev fr (.t (ixOf 1)) = .ptr h.next 0 ∧ ev fr (.t (ixOf 2)) = .ptr (h.next + 1) 0 ∧ ev fr (.t (ixOf 3)) = .ptr k.next 0 ∧ ev fr (.t (ixOf 4)) = .int .u64 (.ofNat (cF Y 5 i).2) ∧ ev fr (.t (ixOf 9)) = .int .i64 (.ofNat i)) ?_ (n := 5) ?_
  · rintro m fr q IH ⟨i, rfl, hi, hq, hqn, g0, g1, g2, f1, f2, f3, f4, f9⟩
    repeat with_reducible first
    | refine go_seq hE0 ?_ | refine go_region ?_ | refine ops_nil ?_ | refine ret_seq.2 ?_
    | (refine ops_cw hE0 ?_; simp (disch := first | omega | decide) only [eff, runE, bE, f9])
    | (refine ops_op ?_; simp (disch := first | omega | decide) only [eff, runE, bE, f9]; refine rgo ?_)
    | refine go_drawn ?_
    | (refine plan_call hE0 (wanted_none _) ?_; simp (disch := first | omega | decide) only [eff, runE, bE, f9])
    | (refine plan_op ?_; simp (disch := first | omega | decide) only [eff, runE, bE, f9]; refine plgo ?_)
    | refine go_block ?_ | refine go_skip ?_ | refine go_exit ?_ | refine go_ret ?_
    | refine ret_seq_x.2 ?_ | refine ret_seq_r.2 ?_ | refine ret_block.2 ?_ | refine ret_block_hit.2 ?_ | refine (ret_block_miss rfl).2 ?_ | refine ret_block_r.2 ?_ | refine ret_loop_x.2 ?_ | refine ret_loop_r.2 ?_
    refine go_cond ?_
    simp (disch := first | omega | decide) only [eff, runE, bE]
    refine condGo_split (fun hc => ?_) (fun hc => ?_)
    · have hc := of_decide_eq_true hc
      have hZ : (cF Y 5 i).1.length = 5 := by rw [cF_len, hl]
      have hst1 : cF Y 5 (i + 1) = cstep (cF Y 5 i) i := rfl
      generalize cF Y 5 i = Z at hZ hst1 g2 f4
      obtain ⟨Z, c⟩ := Z
      simp only at hZ g2 f4
      have l0 := r_load1 (o := i) g2 (quads_get (by omega))
      have s0 := e_store_q (o := i) (v := (Z.getD i 0 + c) % 18446744073709551616) g2 (by omega)
      have g03 : (q.set k.next (.cells (quads (Z.set i ((Z.getD i 0 + c) % 18446744073709551616))) false (some (Nat.mul 2 335)))).get k.next = some (.cells (quads (Z.set i ((Z.getD i 0 + c) % 18446744073709551616))) false (some (Nat.mul 2 335))) := by rw [XH.get_set, if_pos rfl]
      have l1 := r_load1 (o := i) g03 (quads_get (by rw [List.length_set]; omega))
      rw [getD_set_self (by omega)] at l1
      have s1 := e_store_q (o := i) (v := maskN ((Z.getD i 0 + c) % 18446744073709551616)) g03 (by rw [List.length_set]; omega)
      rw [List.set_set] at s1
      simp only [maskN] at s1
      repeat with_reducible first
    | refine go_seq hE0 ?_ | refine go_region ?_ | refine ops_nil ?_ | refine ret_seq.2 ?_
    | (refine ops_cw hE0 ?_; simp (disch := first | omega | decide) only [eff, runE, bE, f3, f4, f9, l0, b26, wrap_u64m, s0, l1, s1])
    | (refine ops_op ?_; simp (disch := first | omega | decide) only [eff, runE, bE, f3, f4, f9, l0, b26, wrap_u64m, s0, l1, s1]; refine rgo ?_)
    | refine go_drawn ?_
    | (refine plan_call hE0 (wanted_none _) ?_; simp (disch := first | omega | decide) only [eff, runE, bE, f3, f4, f9, l0, b26, wrap_u64m, s0, l1, s1])
    | (refine plan_op ?_; simp (disch := first | omega | decide) only [eff, runE, bE, f3, f4, f9, l0, b26, wrap_u64m, s0, l1, s1]; refine plgo ?_)
    | refine go_block ?_ | refine go_skip ?_ | refine go_exit ?_ | refine go_ret ?_
    | refine ret_seq_x.2 ?_ | refine ret_seq_r.2 ?_ | refine ret_block.2 ?_ | refine ret_block_hit.2 ?_ | refine (ret_block_miss rfl).2 ?_ | refine ret_block_r.2 ?_ | refine ret_loop_x.2 ?_ | refine ret_loop_r.2 ?_
      refine ret_loop.2 (IH (5 - (i + 1)) _ _ (by omega) ⟨i + 1, rfl, by omega, (hq.set (m := k.next) (by omega) _).set (m := k.next) (by omega) _, ?_, ?_, ?_, ?_, ?_, ?_, ?_, ?_, ?_⟩)
      · simp only [XH.next_set]; omega
      · simp only [XH.get_set, if_neg (show h.next ≠ k.next by omega)]; exact g0
      · simp only [XH.get_set, if_neg (show h.next + 1 ≠ k.next by omega)]; exact g1
      · rw [XH.get_set, if_pos rfl, hst1]; rfl
      · simp (disch := first | omega | decide) only [eff, runE, bE, f1]
      · simp (disch := first | omega | decide) only [eff, runE, bE, f2]
      · simp (disch := first | omega | decide) only [eff, runE, bE, f3]
      · rw [hst1]
        simp (disch := first | omega | decide) only [eff, runE, bE]
        rfl
      all_goals simp (disch := first | omega | decide) only [eff, runE, bE, f9]
    · have hc := of_decide_eq_false hc
      obtain rfl : i = 5 := by omega
      have hZ : (cF Y 5 5).1.length = 5 := by rw [cF_len, hl]
      generalize cF Y 5 5 = Z at hZ hw g2 f4
      obtain ⟨Z, c⟩ := Z
      simp only at hZ g2 f4 hw
      repeat with_reducible first
    | refine go_seq hE0 ?_ | refine go_region ?_ | refine ops_nil ?_ | refine ret_seq.2 ?_
    | (refine ops_cw hE0 ?_; simp (disch := first | omega | decide) only [eff, runE, bE, f4])
    | (refine ops_op ?_; simp (disch := first | omega | decide) only [eff, runE, bE, f4]; refine rgo ?_)
    | refine go_drawn ?_
    | (refine plan_call hE0 (wanted_none _) ?_; simp (disch := first | omega | decide) only [eff, runE, bE, f4])
    | (refine plan_op ?_; simp (disch := first | omega | decide) only [eff, runE, bE, f4]; refine plgo ?_)
    | refine go_block ?_ | refine go_skip ?_ | refine go_exit ?_ | refine go_ret ?_
    | refine ret_seq_x.2 ?_ | refine ret_seq_r.2 ?_ | refine ret_block.2 ?_ | refine ret_block_hit.2 ?_ | refine (ret_block_miss rfl).2 ?_ | refine ret_block_r.2 ?_ | refine ret_loop_x.2 ?_ | refine ret_loop_r.2 ?_
      refine go_cond ?_
      simp (disch := first | omega | decide) only [eff, runE, bE]
      refine condGo_split (fun hc2 => ?_) (fun hc2 => ?_)
      · have hc2 := of_decide_eq_true hc2
        rw [if_pos hc2] at hw
        have lr := r_loadN (n := 5) g2 (by rw [quads_length, hZ])
        have hst := e_storeN (n := 5) g1 (vs := quads Z) (by rw [quads_length, hZ]) (by rw [quads_length, quads_length, hZ]; rfl) (quads_one _)
        repeat with_reducible first
    | refine go_seq hE0 ?_ | refine go_region ?_ | refine ops_nil ?_ | refine ret_seq.2 ?_
    | (refine ops_cw hE0 ?_; simp (disch := first | omega | decide) only [eff, runE, bE, f2, f3, lr, hst])
    | (refine ops_op ?_; simp (disch := first | omega | decide) only [eff, runE, bE, f2, f3, lr, hst]; refine rgo ?_)
    | refine go_drawn ?_
    | (refine plan_call hE0 (wanted_none _) ?_; simp (disch := first | omega | decide) only [eff, runE, bE, f2, f3, lr, hst])
    | (refine plan_op ?_; simp (disch := first | omega | decide) only [eff, runE, bE, f2, f3, lr, hst]; refine plgo ?_)
    | refine go_block ?_ | refine go_skip ?_ | refine go_exit ?_ | refine go_ret ?_
    | refine ret_seq_x.2 ?_ | refine ret_seq_r.2 ?_ | refine ret_block.2 ?_ | refine ret_block_hit.2 ?_ | refine (ret_block_miss rfl).2 ?_ | refine ret_block_r.2 ?_ | refine ret_loop_x.2 ?_ | refine ret_loop_r.2 ?_
        refine ret_nil.2 ⟨_, fin_cell (.inr rfl) (v := .agg (quads (wholeF x))) ?_, rfl, hq.set (m := h.next + 1) (by omega) _⟩
        simp (disch := first | omega | decide) only [eff, runE, bE, f2]
        exact r_loadN (by rw [XH.get_set, if_pos rfl, hw]) (by rw [hw, quads_length, hZ])
      · have hc2 := of_decide_eq_false hc2
        rw [if_neg hc2] at hw
        have lr := r_loadN (n := 5) g0 (by rw [quads_length, hl])
        have hst := e_storeN (n := 5) g1 (vs := quads Y) (by rw [quads_length, hl]) (by rw [quads_length, quads_length, hl]; rfl) (quads_one _)
        repeat with_reducible first
    | refine go_seq hE0 ?_ | refine go_region ?_ | refine ops_nil ?_ | refine ret_seq.2 ?_
    | (refine ops_cw hE0 ?_; simp (disch := first | omega | decide) only [eff, runE, bE, f1, f2, lr, hst])
    | (refine ops_op ?_; simp (disch := first | omega | decide) only [eff, runE, bE, f1, f2, lr, hst]; refine rgo ?_)
    | refine go_drawn ?_
    | (refine plan_call hE0 (wanted_none _) ?_; simp (disch := first | omega | decide) only [eff, runE, bE, f1, f2, lr, hst])
    | (refine plan_op ?_; simp (disch := first | omega | decide) only [eff, runE, bE, f1, f2, lr, hst]; refine plgo ?_)
    | refine go_block ?_ | refine go_skip ?_ | refine go_exit ?_ | refine go_ret ?_
    | refine ret_seq_x.2 ?_ | refine ret_seq_r.2 ?_ | refine ret_block.2 ?_ | refine ret_block_hit.2 ?_ | refine (ret_block_miss rfl).2 ?_ | refine ret_block_r.2 ?_ | refine ret_loop_x.2 ?_ | refine ret_loop_r.2 ?_
        refine ret_nil.2 ⟨_, fin_cell (.inr rfl) (v := .agg (quads (wholeF x))) ?_, rfl, hq.set (m := h.next + 1) (by omega) _⟩
        simp (disch := first | omega | decide) only [eff, runE, bE, f2]
        exact r_loadN (by rw [XH.get_set, if_pos rfl, hw]) (by rw [hw, quads_length, hl])
  · refine ⟨0, rfl, by omega, ?_, ?_, ?_, ?_, ?_, ?_, ?_, ?_, ?_, ?_⟩
    · exact ((hxt0.set (m := h.next) (by omega) _).new _).set (m := k.next) (by omega) _
    · simp only [XH.next_set, XH.next_new]; omega
    · simp only [XH.get_set, XH.get_new, XH.next_set]
      rw [if_neg (by omega), if_neg (by omega), if_true]
    · simp only [XH.get_set, XH.get_new, XH.next_set]
      rw [if_neg (by omega), if_neg (by omega), if_neg (by omega)]; exact g1
    · rw [XH.get_set, if_pos rfl]; rfl
    · simp (disch := first | omega | decide) only [eff, runE, bE]
    · simp (disch := first | omega | decide) only [eff, runE, bE]
    · simp (disch := first | omega | decide) only [eff, runE, bE]
    · simp (disch := first | omega | decide) only [eff, runE, bE]
      rfl
    · simp (disch := first | omega | decide) only [eff, runE, bE]
end Go.Proofs.XCode
end
section
namespace Go.Proofs.XCode
open Go.X
set_option linter.unusedSimpArgs false
set_option linter.unusedVariables false
def clampAt (i : Nat) (c : List Nat) : List Nat :=
  if i = 3 ∨ i = 7 ∨ i = 11 ∨ i = 15 then c.set i (c.getD i 0 % 256 &&& 15)
  else if i = 4 ∨ i = 8 ∨ i = 12 then c.set i (c.getD i 0 % 256 &&& 252) else c
def clampN (c : List Nat) : Nat → List Nat
  | 0 => c
  | i + 1 => clampAt i (clampN c i)
theorem clampAt_len (i : Nat) (c : List Nat) : (clampAt i c).length = c.length := by
  unfold clampAt; split
  · rw [List.length_set]
  · split
    · rw [List.length_set]
    · rfl
theorem clampN_len (c : List Nat) : ∀ i, (clampN c i).length = c.length
  | 0 => rfl
  | i + 1 => by rw [clampN, clampAt_len, clampN_len c i]
theorem and_lt8 (x y : Nat) (h : y < 256) : x % 256 &&& y < 256 := Nat.lt_of_le_of_lt Nat.and_le_right h
theorem clampAt_lt {i : Nat} {c : List Nat} (hc : ∀ j, c.getD j 0 < 256) : ∀ j, (clampAt i c).getD j 0 < 256 := by
  unfold clampAt; split
  · exact getD_set_lt (by decide) hc (and_lt8 _ _ (by decide))
  · split
    · exact getD_set_lt (by decide) hc (and_lt8 _ _ (by decide))
    · exact hc
theorem clampN_lt {c : List Nat} (hc : ∀ j, c.getD j 0 < 256) : ∀ i j, (clampN c i).getD j 0 < 256
  | 0 => hc
  | i + 1 => clampAt_lt (clampN_lt hc i)
theorem wrap_and (x y : Nat) (h : y < 256) : wrapX .u8 (.ofNat (x % 256 &&& y % 256)) = .ofNat (x % 256 &&& y) := by
  rw [Nat.mod_eq_of_lt h, wrap_u8 (and_lt8 x y h)]
theorem e_store_b {h : XH} {b o : Nat} {c : List Nat} {tg : Option Nat} {v : Nat} (hg : h.get b = some (.cells (u8s c) false tg)) (hc : o < c.length) : eStore h 1 (.ptr b o) (.int .u8 (.ofNat v)) = some (unit, h.set b (.cells (u8s (c.set o v)) false tg)) := by
  rw [e_store_one hg (by rw [u8s_length]; exact hc) rfl, u8s_set]
def clampL (key : List Nat) : List Nat := clampN (key.take 16) 16
theorem clampL_len (key : List Nat) (hk : key.length = 32) : (clampL key).length = 16 := by rw [clampL, clampN_len, List.length_take, hk]; rfl
theorem clampL_lt {key : List Nat} (hk : ∀ i, key.getD i 0 < 256) : ∀ i, (clampL key).getD i 0 < 256 := clampN_lt (fun j => by
  rw [getD_take]; split
  · exact hk _
  · decide) 16
set_option maxHeartbeats 2000000 in
theorem clamp_call (key : List Nat) (hk : ∀ i, key.getD i 0 < 256) (hkl : key.length = 32) (h : XH) : CallEv E0 n_onetime_Clamp [.str key] h (fun r k => r = .tup [.str (clampL key), .bool true] ∧ HExt h k ∧ (Fresh h → Fresh k)) := by
  have hcl : clampL key = clampN (key.take 16) 16 := rfl
  have htk : (key.take 16).length = 16 := by rw [List.length_take, hkl]; rfl
  have htl : ∀ i, (key.take 16).getD i 0 < 256 := fun j => by
    rw [getD_take]; split
    · exact hk _
    · decide
  have hcs := p_sliceS_hi key 16 .i64 (by omega)
  generalize key.take 16 = s at hcl htk htl hcs
  refine call_fn fn_onetime_Clamp ?_
  simp only [args0_cons, args0_nil]
  repeat with_reducible first
    | refine go_seq hE0 ?_ | refine go_region ?_ | refine ops_nil ?_ | refine ret_seq.2 ?_
    | (refine ops_cw hE0 ?_; simp (disch := first | omega | decide) only [eff, runE, bE, hkl, ne_eq, not_true_eq_false, hcs, htk, decide_true, decide_false, cond_true, cond_false])
    | (refine ops_op ?_; simp (disch := first | omega | decide) only [eff, runE, bE, hkl, ne_eq, not_true_eq_false, hcs, htk, decide_true, decide_false, cond_true, cond_false]; refine rgo ?_)
    | refine go_block ?_ | refine go_skip ?_ | refine go_exit ?_ | refine go_ret ?_
    | refine ret_seq_x.2 ?_ | refine ret_seq_r.2 ?_ | refine ret_block.2 ?_ | refine ret_block_hit.2 ?_ | refine (ret_block_miss rfl).2 ?_ | refine ret_block_r.2 ?_ | refine ret_loop_x.2 ?_ | refine ret_loop_r.2 ?_
    | (refine go_cond ?_; simp (disch := first | omega | decide) only [eff, runE, bE, hkl, ne_eq, not_true_eq_false, hcs, htk, decide_true, decide_false, cond_true, cond_false]; first | refine condGo_true ?_ | refine condGo_false ?_)
  refine go_loop_ind hE0 (fun m fr k => ∃ i, m = 16 - i ∧ i ≤ 16 ∧ HExt h k ∧ (Fresh h → Fresh k) ∧ h.next + 1 ≤ k.next ∧ k.get h.next = some (.cells (u8s (clampN s i)) false none) ∧
      ev fr (.t (ixOf 4)) = .slice h.next 0 16 16 1 false ∧ ev fr (.t (ixOf 13)) = .int .i64 (.ofNat 16) ∧ ev fr (.t (ixOf 14)) = .int .i64 (.ofNat i)) ?_ (n := 16) ?_
  · rintro m fr k IH ⟨i, rfl, hi, hx, hfr, hn, hg, f4, f13, f14⟩
    repeat with_reducible first
    | refine go_seq hE0 ?_ | refine go_region ?_ | refine ops_nil ?_ | refine ret_seq.2 ?_
    | (refine ops_cw hE0 ?_; simp (disch := first | omega | decide) only [eff, runE, bE, f13, f14])
    | (refine ops_op ?_; simp (disch := first | omega | decide) only [eff, runE, bE, f13, f14]; refine rgo ?_)
    | refine go_block ?_ | refine go_skip ?_ | refine go_exit ?_ | refine go_ret ?_
    | refine ret_seq_x.2 ?_ | refine ret_seq_r.2 ?_ | refine ret_block.2 ?_ | refine ret_block_hit.2 ?_ | refine (ret_block_miss rfl).2 ?_ | refine ret_block_r.2 ?_ | refine ret_loop_x.2 ?_ | refine ret_loop_r.2 ?_
    refine go_cond ?_
    simp (disch := first | omega | decide) only [eff, runE, bE]
    refine condGo_split (fun hc => ?_) (fun hc => ?_)
    · have hc := of_decide_eq_true hc
      have hsu : clampN s (i + 1) = clampAt i (clampN s i) := rfl
      have hl : (clampN s i).length = 16 := by rw [clampN_len, htk]
      generalize clampN s i = c at hl hsu hg
      have l0 := r_load1 (o := i) hg (u8s_get (by omega))
      have s0 := fun v => e_store_b (o := i) (v := v) hg (by omega)
      have IH' := fun fr' h' hh => IH (16 - (i + 1)) fr' h' (by omega) ⟨i + 1, rfl, hh⟩
      have e : i = 0 ∨ i = 1 ∨ i = 2 ∨ i = 3 ∨ i = 4 ∨ i = 5 ∨ i = 6 ∨ i = 7 ∨ i = 8 ∨ i = 9 ∨ i = 10 ∨ i = 11 ∨ i = 12 ∨ i = 13 ∨ i = 14 ∨ i = 15 := by omega
      rcases e with rfl | rfl | rfl | rfl | rfl | rfl | rfl | rfl | rfl | rfl | rfl | rfl | rfl | rfl | rfl | rfl
      all_goals
        repeat with_reducible first
    | refine go_seq hE0 ?_ | refine go_region ?_ | refine ops_nil ?_ | refine ret_seq.2 ?_
    | (refine ops_cw hE0 ?_; simp (disch := first | omega | decide) only [eff, runE, bE, f4, f14, l0, s0, wrap_and, Nat.reduceEqDiff, decide_true, decide_false, cond_true, cond_false])
    | (refine ops_op ?_; simp (disch := first | omega | decide) only [eff, runE, bE, f4, f14, l0, s0, wrap_and, Nat.reduceEqDiff, decide_true, decide_false, cond_true, cond_false]; refine rgo ?_)
    | refine go_block ?_ | refine go_skip ?_ | refine go_exit ?_ | refine go_ret ?_
    | refine ret_seq_x.2 ?_ | refine ret_seq_r.2 ?_ | refine ret_block.2 ?_ | refine ret_block_hit.2 ?_ | refine (ret_block_miss rfl).2 ?_ | refine ret_block_r.2 ?_ | refine ret_loop_x.2 ?_ | refine ret_loop_r.2 ?_
    | (refine go_cond ?_; simp (disch := first | omega | decide) only [eff, runE, bE, f4, f14, l0, s0, wrap_and, Nat.reduceEqDiff, decide_true, decide_false, cond_true, cond_false]; first | refine condGo_true ?_ | refine condGo_false ?_)
        refine ret_loop.2 (IH' _ _ ⟨by decide, ?_, ?_, ?_, ?_, ?_, ?_, ?_⟩)
        · first | exact hx | exact hx.set (m := h.next) (by omega) _
        · first | exact hfr | exact fun hf => (hfr hf).set (m := h.next) (by omega) _
        · first | exact hn | (simp only [XH.next_set]; exact hn)
        · rw [hsu]
          first | exact hg | (rw [XH.get_set, if_pos rfl]; rfl)
        all_goals simp (disch := first | omega | decide) only [eff, runE, bE, f4, f13, f14]
    · have hc := of_decide_eq_false hc
      obtain rfl : i = 16 := by omega
      have hl : (clampN s 16).length = 16 := by rw [clampN_len, htk]
      have hlt := clampN_lt htl 16
      rw [← hcl] at hl hlt hg
      have hcv := r_convBS (h := k) (b := h.next) (o := 0) (len := 16) (cap := 16) (ex := false) (s := clampL key) (by rw [cells_b hg (by rw [u8s_length]; omega), List.drop_zero, List.take_of_length_le (by rw [u8s_length]; omega)]) (lt_all hlt)
      repeat with_reducible first
    | refine go_seq hE0 ?_ | refine go_region ?_ | refine ops_nil ?_ | refine ret_seq.2 ?_
    | (refine ops_cw hE0 ?_; simp (disch := first | omega | decide) only [eff, runE, bE, f4, hcv])
    | (refine ops_op ?_; simp (disch := first | omega | decide) only [eff, runE, bE, f4, hcv]; refine rgo ?_)
    | refine go_block ?_ | refine go_skip ?_ | refine go_exit ?_ | refine go_ret ?_
    | refine ret_seq_x.2 ?_ | refine ret_seq_r.2 ?_ | refine ret_block.2 ?_ | refine ret_block_hit.2 ?_ | refine (ret_block_miss rfl).2 ?_ | refine ret_block_r.2 ?_ | refine ret_loop_x.2 ?_ | refine ret_loop_r.2 ?_
      refine ret_nil.2 ⟨_, fin_tmps (l := [2, 3]) (.inr rfl), ?_, hx, hfr⟩
      simp only [List.map]
      simp (disch := first | omega | decide) only [eff, runE, bE]
      rfl
  · refine ⟨0, rfl, by omega, (HExt.refl h).new _, fun hf => hf.new _, ?_, ?_, ?_, ?_, ?_⟩
    · simp only [XH.next_new]; omega
    · rw [XH.get_new, if_pos rfl]; rfl
    all_goals simp (disch := first | omega | decide) only [eff, runE, bE]
theorem right_call (key nonce : List Nat) (hkl : key.length = 32) (hnl : nonce.length = 12) (h : XH) : CallEv E0 n_stream_right [.str key, .str nonce] h (fun r k => r = .bool true ∧ k = h) := by
  refine call_fn fn_stream_right ?_
  simp only [args0_cons, args0_nil]
  repeat with_reducible first
    | refine go_seq hE0 ?_ | refine go_region ?_ | refine ops_nil ?_ | refine ret_seq.2 ?_
    | (refine ops_cw hE0 ?_; simp (disch := first | omega | decide) only [eff, runE, bE, hkl, hnl, decide_true, decide_false, cond_true, cond_false])
    | (refine ops_op ?_; simp (disch := first | omega | decide) only [eff, runE, bE, hkl, hnl, decide_true, decide_false, cond_true, cond_false]; refine rgo ?_)
    | refine go_block ?_ | refine go_skip ?_ | refine go_exit ?_ | refine go_ret ?_
    | refine ret_seq_x.2 ?_ | refine ret_seq_r.2 ?_ | refine ret_block.2 ?_ | refine ret_block_hit.2 ?_ | refine (ret_block_miss rfl).2 ?_ | refine ret_block_r.2 ?_ | refine ret_loop_x.2 ?_ | refine ret_loop_r.2 ?_
    | (refine go_cond ?_; simp (disch := first | omega | decide) only [eff, runE, bE, hkl, hnl, decide_true, decide_false, cond_true, cond_false]; first | refine condGo_true ?_ | refine condGo_false ?_)
  refine ret_nil.2 ⟨_, fin_tmp (.inr rfl), ?_, rfl⟩
  simp (disch := first | omega | decide) only [eff, runE, bE, cond_true]
theorem blockC_call (key nonce : List Nat) (ctr : Nat) (hk : ∀ i, key.getD i 0 < 256) (hn : ∀ i, nonce.getD i 0 < 256) (hkl : key.length = 32) (hnl : nonce.length = 12) (hc : ctr < 4294967296) (h : XH) :
    CallEv E0 n_stream_Block [.str key, .int .u32 (.ofNat ctr), .str nonce] h (fun r k => r = .tup [.str (blockL key ctr nonce), .bool true] ∧ HExt h k) := by
  refine call_fn fn_stream_Block ?_
  simp only [args0_cons, args0_nil]
  repeat with_reducible first
    | refine go_seq hE0 ?_ | refine go_region ?_ | refine ops_nil ?_ | refine ret_seq.2 ?_
    | (refine ops_cw hE0 ?_; simp (disch := first | omega | decide) only [eff, runE, bE])
    | (refine ops_op ?_; simp (disch := first | omega | decide) only [eff, runE, bE]; refine rgo ?_)
    | refine go_block ?_ | refine go_skip ?_ | refine go_exit ?_ | refine go_ret ?_
    | refine ret_seq_x.2 ?_ | refine ret_seq_r.2 ?_ | refine ret_block.2 ?_ | refine ret_block_hit.2 ?_ | refine (ret_block_miss rfl).2 ?_ | refine ret_block_r.2 ?_ | refine ret_loop_x.2 ?_ | refine ret_loop_r.2 ?_
  refine callGo_ex (right_call key nonce hkl hnl _) ?_
  rintro r k ⟨rfl, rfl⟩
  repeat with_reducible first
    | refine go_seq hE0 ?_ | refine go_region ?_ | refine ops_nil ?_ | refine ret_seq.2 ?_
    | (refine ops_cw hE0 ?_; simp (disch := first | omega | decide) only [eff, runE, bE, u_not, Bool.not_true, decide_true, decide_false, cond_true, cond_false])
    | (refine ops_op ?_; simp (disch := first | omega | decide) only [eff, runE, bE, u_not, Bool.not_true, decide_true, decide_false, cond_true, cond_false]; refine rgo ?_)
    | refine go_block ?_ | refine go_skip ?_ | refine go_exit ?_ | refine go_ret ?_
    | refine ret_seq_x.2 ?_ | refine ret_seq_r.2 ?_ | refine ret_block.2 ?_ | refine ret_block_hit.2 ?_ | refine (ret_block_miss rfl).2 ?_ | refine ret_block_r.2 ?_ | refine ret_loop_x.2 ?_ | refine ret_loop_r.2 ?_
    | (refine go_cond ?_; simp (disch := first | omega | decide) only [eff, runE, bE, u_not, Bool.not_true, decide_true, decide_false, cond_true, cond_false]; first | refine condGo_true ?_ | refine condGo_false ?_)
  refine callGo_ex (block_call key nonce ctr hk hn hkl hnl hc _) ?_
  rintro r k ⟨rfl, hx⟩
  repeat with_reducible first
    | refine go_seq hE0 ?_ | refine go_region ?_ | refine ops_nil ?_ | refine ret_seq.2 ?_
    | (refine ops_cw hE0 ?_; simp (disch := first | omega | decide) only [eff, runE, bE])
    | (refine ops_op ?_; simp (disch := first | omega | decide) only [eff, runE, bE]; refine rgo ?_)
    | refine go_block ?_ | refine go_skip ?_ | refine go_exit ?_ | refine go_ret ?_
    | refine ret_seq_x.2 ?_ | refine ret_seq_r.2 ?_ | refine ret_block.2 ?_ | refine ret_block_hit.2 ?_ | refine (ret_block_miss rfl).2 ?_ | refine ret_block_r.2 ?_ | refine ret_loop_x.2 ?_ | refine ret_loop_r.2 ?_
  refine ret_nil.2 ⟨_, fin_tmps (l := [6, 7]) (.inr rfl), ?_, hx⟩
  simp only [List.map]
  simp (disch := first | omega | decide) only [eff, runE, bE]
  rfl
end Go.Proofs.XCode
end
section
namespace Go.Proofs.XCode
open Go.X
set_option linter.unusedSimpArgs false
set_option linter.unusedVariables false
theorem add64_fn : E0.fn 225 = some (.intr 11) := intr_of (by kernel_rfl)
theorem add64_call (x y c : Nat) (hc : c ≤ 1) (h : XH) : CallEv E0 225 [.int .u64 (.ofNat x), .int .u64 (.ofNat y), .int .u64 (.ofNat c)] h (fun r k => r = .tup [.int .u64 (.ofNat ((x + y + c) % 18446744073709551616)), .int .u64 (.ofNat ((x + y + c) / 18446744073709551616))] ∧ k = h) := by
  have hE : E0.intr = intr := rfl
  have hi : ∀ cl, intr cl 11 [.int .u64 (.ofNat x), .int .u64 (.ofNat y), .int .u64 (.ofNat c)] h = iAdd64 [.int .u64 (.ofNat x), .int .u64 (.ofNat y), .int .u64 (.ofNat c)] h := fun cl => rfl
  refine call_intr' add64_fn 0 ?_ ⟨rfl, rfl⟩
  rw [hE, hi]
  simp only [iAdd64, n_ble, hc, decide_true, cond_true]
  rfl
theorem e_copy {h : XH} {b len cap : Nat} {c w : List Nat} {ex : Bool} {tg : Option Nat} (hg : h.get b = some (.cells (u8s c) false tg)) (hl : w.length ≤ len) (hc : w.length ≤ c.length) : eCopy h 1 (.slice b 0 len cap 1 ex) (.str w) = some (.int .i64 (.ofNat w.length), h.set b (.cells (u8s (w ++ c.drop w.length)) false tg)) := by
  have h1 : lenOf (.str w) = some w.length := by simp [lenOf, lenX_eq]
  have h2 : cellsOf h 1 w.length (.str w) = some (u8s w) := by
    show (bif Nat.beq 1 1 then some (u8s (takeX w.length w)) else none) = _
    rw [takeX_eq, List.take_length]; rfl
  have h3 : splice (u8s c) 0 (u8s w) = u8s (w ++ c.drop w.length) := by
    simp only [splice_eq, List.take_zero, List.nil_append, Nat.zero_add, u8s_length, u8s_append]
    simp [u8s, mapX_eq, List.map_drop]
  have h4 : lenOf (.slice b 0 len cap 1 ex) = some len := rfl
  have h5 : Nat.min w.length len = w.length := Nat.min_eq_left hl
  simp only [eCopy, h1, h4, h5, h2, Nat.beq_refl, cond_true, wr, hg, n_ble, n_add, Nat.zero_add, lenX_eq, u8s_length, hc, decide_true, u8s_one, Bool.and_self, h3]
theorem drop_min (l : List Nat) (n : Nat) : l.drop (min l.length n) = l.drop n := by
  by_cases h : n ≤ l.length
  · rw [Nat.min_eq_right h]
  · rw [Nat.min_eq_left (by omega), List.drop_of_length_le (Nat.le_refl _), List.drop_of_length_le (by omega)]
def pad17 (n : Nat) (w : List Nat) : List Nat := (w.take n ++ (List.replicate 17 0).drop (w.take n).length).set n 1
theorem pad17_len {n : Nat} {w : List Nat} (h1 : n ≤ w.length) (h2 : n ≤ 16) : (pad17 n w).length = 17 := by
  have : (w.take n).length = n := by rw [List.length_take]; omega
  rw [pad17, List.length_set, List.length_append, List.length_drop, List.length_replicate, this]; omega
theorem app_lt {a b : List Nat} {m : Nat} (ha : ∀ i, a.getD i 0 < m) (hb : ∀ i, b.getD i 0 < m) : ∀ i, (a ++ b).getD i 0 < m := fun i => by
  rw [List.getD_eq_getElem?_getD, List.getElem?_append]
  split
  · rw [← List.getD_eq_getElem?_getD]; exact ha i
  · rw [← List.getD_eq_getElem?_getD]; exact hb _
theorem rep_lt (n m : Nat) (h : 0 < m) : ∀ i, (List.replicate n 0).getD i 0 < m := fun i => by
  rw [List.getD_eq_getElem?_getD, List.getElem?_replicate]; split <;> simpa using h
theorem take_lt {l : List Nat} {m : Nat} (hm : 0 < m) (hl : ∀ i, l.getD i 0 < m) (n : Nat) : ∀ i, (l.take n).getD i 0 < m := fun i => by
  rw [getD_take]; split
  · exact hl i
  · exact hm
theorem drop_lt {l : List Nat} {m : Nat} (hl : ∀ i, l.getD i 0 < m) (n : Nat) : ∀ i, (l.drop n).getD i 0 < m := fun i => by
  rw [getD_drop]; exact hl _
theorem pad17_lt {n : Nat} {w : List Nat} (hw : ∀ i, w.getD i 0 < 256) : ∀ i, (pad17 n w).getD i 0 < 256 :=
  getD_set_lt (by decide) (app_lt (take_lt (by decide) hw n) (drop_lt (rep_lt 17 256 (by decide)) _)) (by decide)
def limbsL (d : List Nat) : List Nat := splitL (littleN (d.take 8)) (littleN ((d.drop 8).take (16 - 8))) (d.getD 16 0 % 18446744073709551616)
def tagStep (r acc w : List Nat) : List Nat := carryF (tout (plusF acc (limbsL (pad17 (min w.length 16) w)) 5) r 5) 3
def tagJ (r m : List Nat) : Nat → List Nat
  | 0 => List.replicate 5 0
  | j + 1 => tagStep r (tagJ r m j) (m.drop (16 * j))
theorem tagJ_len (r m : List Nat) : ∀ j, (tagJ r m j).length = 5
  | 0 => rfl
  | j + 1 => by rw [tagJ, tagStep, carryF_len, tout_len]
def tagR (key : List Nat) : List Nat := splitL (littleN ((clampL key).take 8)) (littleN ((clampL key).drop 8)) 0
noncomputable def tagEnd (key w : List Nat) : List Nat :=
  let lo := orN (orN (w.getD 0 0) (shlN (w.getD 1 0) 26)) (shlN (w.getD 2 0) 52)
  let hi := orN (orN (w.getD 2 0 >>> 12) (shlN (w.getD 3 0) 14)) (shlN (w.getD 4 0) 40)
  let a := lo + littleN ((key.drop 16).take (24 - 16)) + 0
  let b := hi + littleN (key.drop 24) + a / 18446744073709551616
  putLittle (a % 18446744073709551616) 8 ++ putLittle (b % 18446744073709551616) 8
noncomputable def tagL (key m : List Nat) : List Nat := tagEnd key (wholeF (tagJ (tagR key) m ((m.length + 15) / 16)))
theorem wholeF_len (x : List Nat) (h : x.length = 5) : (wholeF x).length = 5 := by
  unfold wholeF; split
  · rw [cF_len, carryF_len, h]
  · rw [carryF_len, h]
set_option maxHeartbeats 4000000 in
theorem tag_call (key msg : List Nat) (hk : ∀ i, key.getD i 0 < 256) (hkl : key.length = 32) (hm : ∀ i, msg.getD i 0 < 256) (hml : msg.length ≤ 100000) (h : XH) (hfr : Fresh h) :
    CallEv E0 n_onetime_Tag [.str key, .str msg] h (fun r k => r = .tup [.str (tagL key msg), .bool true] ∧ HExt h k) := by
  have hR : tagR key = splitL (littleN ((clampL key).take 8)) (littleN ((clampL key).drop 8)) 0 := rfl
  refine call_fn fn_onetime_Tag ?_
  simp only [args0_cons, args0_nil]
  repeat with_reducible first
    | refine go_seq hE0 ?_ | refine go_region ?_ | refine ops_nil ?_ | refine ret_seq.2 ?_
    | (refine ops_cw hE0 ?_; simp (disch := first | omega | decide) only [eff, runE, bE])
    | (refine ops_op ?_; simp (disch := first | omega | decide) only [eff, runE, bE]; refine rgo ?_)
    | refine go_drawn ?_
    | (refine plan_call hE0 (wanted_none _) ?_; simp (disch := first | omega | decide) only [eff, runE, bE])
    | (refine plan_op ?_; simp (disch := first | omega | decide) only [eff, runE, bE]; refine plgo ?_)
    | refine go_block ?_ | refine go_skip ?_ | refine go_exit ?_ | refine go_ret ?_
    | refine ret_seq_x.2 ?_ | refine ret_seq_r.2 ?_ | refine ret_block.2 ?_ | refine ret_block_hit.2 ?_ | refine (ret_block_miss rfl).2 ?_ | refine ret_block_r.2 ?_ | refine ret_loop_x.2 ?_ | refine ret_loop_r.2 ?_
  refine callGo_ex (clamp_call key hk hkl h) ?_
  rintro _ k1 ⟨rfl, x1, fr1⟩
  have hcl := clampL_len key hkl
  have hclt := clampL_lt hk
  generalize clampL key = C at hcl hclt hR
  repeat with_reducible first
    | refine go_seq hE0 ?_ | refine go_region ?_ | refine ops_nil ?_ | refine ret_seq.2 ?_
    | (refine ops_cw hE0 ?_; simp (disch := first | omega | decide) only [eff, runE, bE, u_not, Bool.not_true, decide_true, decide_false, cond_true, cond_false])
    | (refine ops_op ?_; simp (disch := first | omega | decide) only [eff, runE, bE, u_not, Bool.not_true, decide_true, decide_false, cond_true, cond_false]; refine rgo ?_)
    | refine go_drawn ?_
    | (refine plan_call hE0 (wanted_none _) ?_; simp (disch := first | omega | decide) only [eff, runE, bE, u_not, Bool.not_true, decide_true, decide_false, cond_true, cond_false])
    | (refine plan_op ?_; simp (disch := first | omega | decide) only [eff, runE, bE, u_not, Bool.not_true, decide_true, decide_false, cond_true, cond_false]; refine plgo ?_)
    | refine go_block ?_ | refine go_skip ?_ | refine go_exit ?_ | refine go_ret ?_
    | refine ret_seq_x.2 ?_ | refine ret_seq_r.2 ?_ | refine ret_block.2 ?_ | refine ret_block_hit.2 ?_ | refine (ret_block_miss rfl).2 ?_ | refine ret_block_r.2 ?_ | refine ret_loop_x.2 ?_ | refine ret_loop_r.2 ?_
    | (refine go_cond ?_; simp (disch := first | omega | decide) only [eff, runE, bE, u_not, Bool.not_true, decide_true, decide_false, cond_true, cond_false]; first | refine condGo_true ?_ | refine condGo_false ?_)
  refine callPl_ex (little_call (C.take 8) (take_lt (by decide) hclt 8) (by rw [List.length_take]; omega) (by rw [List.length_take]; omega) k1) ?_
  rintro _ q ⟨rfl, hq⟩
  rw [hq]
  clear hq q
  repeat with_reducible first
    | refine go_seq hE0 ?_ | refine go_region ?_ | refine ops_nil ?_ | refine ret_seq.2 ?_
    | (refine ops_cw hE0 ?_; simp (disch := first | omega | decide) only [eff, runE, bE])
    | (refine ops_op ?_; simp (disch := first | omega | decide) only [eff, runE, bE]; refine rgo ?_)
    | refine go_drawn ?_
    | (refine plan_call hE0 (wanted_none _) ?_; simp (disch := first | omega | decide) only [eff, runE, bE])
    | (refine plan_op ?_; simp (disch := first | omega | decide) only [eff, runE, bE]; refine plgo ?_)
    | refine go_block ?_ | refine go_skip ?_ | refine go_exit ?_ | refine go_ret ?_
    | refine ret_seq_x.2 ?_ | refine ret_seq_r.2 ?_ | refine ret_block.2 ?_ | refine ret_block_hit.2 ?_ | refine (ret_block_miss rfl).2 ?_ | refine ret_block_r.2 ?_ | refine ret_loop_x.2 ?_ | refine ret_loop_r.2 ?_
  refine callPl_ex (little_call (C.drop 8) (drop_lt hclt 8) (by rw [List.length_drop]; omega) (by rw [List.length_drop]; omega) k1) ?_
  rintro _ q ⟨rfl, hq⟩
  rw [hq]
  clear hq q
  repeat with_reducible first
    | refine go_seq hE0 ?_ | refine go_region ?_ | refine ops_nil ?_ | refine ret_seq.2 ?_
    | (refine ops_cw hE0 ?_; simp (disch := first | omega | decide) only [eff, runE, bE])
    | (refine ops_op ?_; simp (disch := first | omega | decide) only [eff, runE, bE]; refine rgo ?_)
    | refine go_drawn ?_
    | (refine plan_call hE0 (wanted_none _) ?_; simp (disch := first | omega | decide) only [eff, runE, bE])
    | (refine plan_op ?_; simp (disch := first | omega | decide) only [eff, runE, bE]; refine plgo ?_)
    | refine go_block ?_ | refine go_skip ?_ | refine go_exit ?_ | refine go_ret ?_
    | refine ret_seq_x.2 ?_ | refine ret_seq_r.2 ?_ | refine ret_block.2 ?_ | refine ret_block_hit.2 ?_ | refine (ret_block_miss rfl).2 ?_ | refine ret_block_r.2 ?_ | refine ret_loop_x.2 ?_ | refine ret_loop_r.2 ?_
  refine callPl_ex (split_call _ _ 0 k1) ?_
  rintro _ k2 ⟨rfl, x2, fr2⟩
  rw [← hR]
  have hRl : (tagR key).length = 5 := by rw [hR]; rfl
  have hL : tagL key msg = tagEnd key (wholeF (tagJ (tagR key) msg ((msg.length + 15) / 16))) := rfl
  generalize tagR key = R at hRl hL ⊢
  have f1 := fr1 hfr
  have n1 := x1.le
  have n2 := x2.le
  have hf1 := f1 k2.next n2
  have hf2 := fr2 f1 k2.next (Nat.le_refl _)
  have hst := e_storeN (h := k2.new (.cells (quads (List.replicate 5 0)) false (some (Nat.mul 2 335)))) (b := k2.next) (n := 5) (c := quads (List.replicate 5 0)) (vs := quads R) (by rw [XH.get_new, if_pos rfl]) (by rw [quads_length, hRl]) (by rw [quads_length, quads_length, hRl]; rfl) (quads_one _)
  repeat with_reducible first
    | refine go_seq hE0 ?_ | refine go_region ?_ | refine ops_nil ?_ | refine ret_seq.2 ?_
    | (refine ops_cw hE0 ?_; simp (disch := first | omega | decide) only [eff, runE, bE, rep_quads, hst])
    | (refine ops_op ?_; simp (disch := first | omega | decide) only [eff, runE, bE, rep_quads, hst]; refine rgo ?_)
    | refine go_drawn ?_
    | (refine plan_call hE0 (wanted_none _) ?_; simp (disch := first | omega | decide) only [eff, runE, bE, rep_quads, hst])
    | (refine plan_op ?_; simp (disch := first | omega | decide) only [eff, runE, bE, rep_quads, hst]; refine plgo ?_)
    | refine go_block ?_ | refine go_skip ?_ | refine go_exit ?_ | refine go_ret ?_
    | refine ret_seq_x.2 ?_ | refine ret_seq_r.2 ?_ | refine ret_block.2 ?_ | refine ret_block_hit.2 ?_ | refine (ret_block_miss rfl).2 ?_ | refine ret_block_r.2 ?_ | refine ret_loop_x.2 ?_ | refine ret_loop_r.2 ?_
  have n2' : k1.next ≤ k2.next + 1 := by omega
  have n2'' : k2.next ≤ k2.next + 1 := by omega
  have n2b : k1.next < k2.next + 1 := by omega
  have n2c : k2.next < k2.next + 1 := by omega
  have hlx : (lenX [k2, k1, k1, k1]).pred = 3 := rfl
  refine plan_nil (by simp (disch := first | omega | decide) only [endOk, chkAt, addNew, newOk, rangeOk, distinctN, Nat.reduceLT, Nat.reduceAdd, Nat.reduceLeDiff, bP, eff, runE, bE, hf1, hf2, n2, n2', n2'', n2b, n2c, hlx]) ?_
  have gR : (k2.new (.cells (quads (List.replicate 5 0)) false (some (Nat.mul 2 335)))).set k2.next (.cells (quads R) false (some (Nat.mul 2 335))) = k2.new (.cells (quads R) false (some (Nat.mul 2 335))) ∨ True := .inr trivial
  clear gR
  repeat with_reducible first
    | refine go_seq hE0 ?_ | refine go_region ?_ | refine ops_nil ?_ | refine ret_seq.2 ?_
    | (refine ops_cw hE0 ?_; simp (disch := first | omega | decide) only [eff, runE, bE, rep_quads])
    | (refine ops_op ?_; simp (disch := first | omega | decide) only [eff, runE, bE, rep_quads]; refine rgo ?_)
    | refine go_drawn ?_
    | (refine plan_call hE0 (wanted_none _) ?_; simp (disch := first | omega | decide) only [eff, runE, bE, rep_quads])
    | (refine plan_op ?_; simp (disch := first | omega | decide) only [eff, runE, bE, rep_quads]; refine plgo ?_)
    | refine go_block ?_ | refine go_skip ?_ | refine go_exit ?_ | refine go_ret ?_
    | refine ret_seq_x.2 ?_ | refine ret_seq_r.2 ?_ | refine ret_block.2 ?_ | refine ret_block_hit.2 ?_ | refine (ret_block_miss rfl).2 ?_ | refine ret_block_r.2 ?_ | refine ret_loop_x.2 ?_ | refine ret_loop_r.2 ?_
  have hnb : 16 * ((msg.length + 15) / 16) ≤ msg.length + 15 ∧ msg.length ≤ 16 * ((msg.length + 15) / 16) := by omega
  generalize (msg.length + 15) / 16 = nb at hnb hL
  refine go_loop_ind hE0 (fun m fr q => ∃ j, m = nb - j ∧ j ≤ nb ∧ HExt h q ∧ k2.next + 2 ≤ q.next ∧ q.get k2.next = some (.cells (quads R) false (some (Nat.mul 2 335))) ∧ q.get (k2.next + 1) = some (.cells (quads (tagJ R msg j)) false (some (Nat.mul 2 335))) ∧
      ev fr (.t (ixOf 0)) = .str key ∧ ev fr (.t (ixOf 1)) = .str (msg.drop (16 * j)) ∧ ev fr (.t (ixOf 8)) = .ptr k2.next 0 ∧ ev fr (.t (ixOf 9)) = .ptr (k2.next + 1) 0) ?_ (n := nb) ?_
  · rintro m fr q IH ⟨j, rfl, hj, hx, hqn, g8, g9, f0, f1, f8, f9⟩
    have hM : (msg.drop (16 * j)).length = msg.length - 16 * j := by rw [List.length_drop]
    have hMl := drop_lt hm (16 * j)
    have hA : (tagJ R msg j).length = 5 := tagJ_len _ _ _
    have hst1 : tagJ R msg (j + 1) = tagStep R (tagJ R msg j) (msg.drop (16 * j)) := rfl
    have hdr : (msg.drop (16 * j)).drop (min (msg.drop (16 * j)).length 16) = msg.drop (16 * (j + 1)) := by
      rw [drop_min, List.drop_drop, Nat.mul_succ]
    generalize hMM : msg.drop (16 * j) = M at hM hMl hst1 hdr f1
    repeat with_reducible first
    | refine go_seq hE0 ?_ | refine go_region ?_ | refine ops_nil ?_ | refine ret_seq.2 ?_
    | (refine ops_cw hE0 ?_; simp (disch := first | omega | decide) only [eff, runE, bE, f1])
    | (refine ops_op ?_; simp (disch := first | omega | decide) only [eff, runE, bE, f1]; refine rgo ?_)
    | refine go_drawn ?_
    | (refine plan_call hE0 (wanted_none _) ?_; simp (disch := first | omega | decide) only [eff, runE, bE, f1])
    | (refine plan_op ?_; simp (disch := first | omega | decide) only [eff, runE, bE, f1]; refine plgo ?_)
    | refine go_block ?_ | refine go_skip ?_ | refine go_exit ?_ | refine go_ret ?_
    | refine ret_seq_x.2 ?_ | refine ret_seq_r.2 ?_ | refine ret_block.2 ?_ | refine ret_block_hit.2 ?_ | refine (ret_block_miss rfl).2 ?_ | refine ret_block_r.2 ?_ | refine ret_loop_x.2 ?_ | refine ret_loop_r.2 ?_
    refine go_cond ?_
    simp (disch := first | omega | decide) only [eff, runE, bE]
    refine condGo_split (fun hc => ?_) (fun hc => ?_)
    · have hc := of_decide_eq_true hc
      generalize tagJ R msg j = A at hA hst1 g9
      have hn1 : min M.length 16 ≤ M.length := Nat.min_le_left _ _
      have hn2 : min M.length 16 ≤ 16 := Nat.min_le_right _ _
      rw [tagStep] at hst1
      have hD := pad17_len hn1 hn2
      have hDl := pad17_lt (n := min M.length 16) hMl
      repeat with_reducible first
    | refine go_seq hE0 ?_ | refine go_region ?_ | refine ops_nil ?_ | refine ret_seq.2 ?_
    | (refine ops_cw hE0 ?_; simp (disch := first | omega | decide) only [eff, runE, bE, f1, p_min2])
    | (refine ops_op ?_; simp (disch := first | omega | decide) only [eff, runE, bE, f1, p_min2]; refine rgo ?_)
    | refine go_drawn ?_
    | (refine plan_call hE0 (wanted_none _) ?_; simp (disch := first | omega | decide) only [eff, runE, bE, f1, p_min2])
    | (refine plan_op ?_; simp (disch := first | omega | decide) only [eff, runE, bE, f1, p_min2]; refine plgo ?_)
    | refine go_block ?_ | refine go_skip ?_ | refine go_exit ?_ | refine go_ret ?_
    | refine ret_seq_x.2 ?_ | refine ret_seq_r.2 ?_ | refine ret_block.2 ?_ | refine ret_block_hit.2 ?_ | refine (ret_block_miss rfl).2 ?_ | refine ret_block_r.2 ?_ | refine ret_loop_x.2 ?_ | refine ret_loop_r.2 ?_
      generalize min M.length 16 = n at hn1 hn2 hst1 hD hDl hdr ⊢
      have htl : (M.take n).length = n := by rw [List.length_take]; omega
      have hDe : pad17 n M = (M.take n ++ (List.replicate 17 0).drop n).set n 1 := by rw [pad17, htl]
      have hcp := e_copy (h := q.new (.cells (u8s (List.replicate 17 0)) false none)) (b := q.next) (len := 17) (cap := 17) (c := List.replicate 17 0) (w := M.take n) (ex := true) (tg := none) (by rw [XH.get_new, if_pos rfl]) (by omega) (by rw [htl, List.length_replicate]; omega)
      rw [htl] at hcp
      have hs1 := e_store_b (h := (q.new (.cells (u8s (List.replicate 17 0)) false none)).set q.next (.cells (u8s (M.take n ++ (List.replicate 17 0).drop n)) false none)) (b := q.next) (o := n) (tg := none) (v := 1) (by rw [XH.get_set, if_pos rfl]) (by rw [List.length_append, htl, List.length_drop, List.length_replicate]; omega)
      rw [← hDe] at hs1
      obtain ⟨q3, hq3⟩ : ∃ q3, q3 = ((q.new (.cells (u8s (List.replicate 17 0)) false none)).set q.next (.cells (u8s (M.take n ++ (List.replicate 17 0).drop n)) false none)).set q.next (.cells (u8s (pad17 n M)) false none) := ⟨_, rfl⟩
      rw [← hq3] at hs1
      repeat with_reducible first
    | refine go_seq hE0 ?_ | refine go_region ?_ | refine ops_nil ?_ | refine ret_seq.2 ?_
    | (refine ops_cw hE0 ?_; simp (disch := first | omega | decide) only [eff, runE, bE, f1, a_mk _ _ _ _ _ (Nat.le_refl 17), flat1, rep_u8s, hcp, hs1])
    | (refine ops_op ?_; simp (disch := first | omega | decide) only [eff, runE, bE, f1, a_mk _ _ _ _ _ (Nat.le_refl 17), flat1, rep_u8s, hcp, hs1]; refine rgo ?_)
    | refine go_drawn ?_
    | (refine plan_call hE0 (wanted_none _) ?_; simp (disch := first | omega | decide) only [eff, runE, bE, f1, a_mk _ _ _ _ _ (Nat.le_refl 17), flat1, rep_u8s, hcp, hs1])
    | (refine plan_op ?_; simp (disch := first | omega | decide) only [eff, runE, bE, f1, a_mk _ _ _ _ _ (Nat.le_refl 17), flat1, rep_u8s, hcp, hs1]; refine plgo ?_)
    | refine go_block ?_ | refine go_skip ?_ | refine go_exit ?_ | refine go_ret ?_
    | refine ret_seq_x.2 ?_ | refine ret_seq_r.2 ?_ | refine ret_block.2 ?_ | refine ret_block_hit.2 ?_ | refine (ret_block_miss rfl).2 ?_ | refine ret_block_r.2 ?_ | refine ret_loop_x.2 ?_ | refine ret_loop_r.2 ?_
      have g3 : q3.get q.next = some (.cells (u8s (pad17 n M)) false none) := by rw [hq3, XH.get_set, if_pos rfl]
      have g83 : q3.get k2.next = some (.cells (quads R) false (some (Nat.mul 2 335))) := by
        rw [hq3, XH.get_set, if_neg (by omega), XH.get_set, if_neg (by omega), XH.get_new, if_neg (by omega)]; exact g8
      have g93 : q3.get (k2.next + 1) = some (.cells (quads A) false (some (Nat.mul 2 335))) := by
        rw [hq3, XH.get_set, if_neg (by omega), XH.get_set, if_neg (by omega), XH.get_new, if_neg (by omega)]; exact g9
      have hx3 : HExt h q3 := by rw [hq3]; exact ((hx.new _).set (m := q.next) (by omega) _).set (m := q.next) (by omega) _
      have hqn3 : q3.next = q.next + 1 := by rw [hq3]; rfl
      clear hs1 hcp hq3 g8 g9 hst
      generalize pad17 n M = D at hD hDl hst1 g3 hDe
      have hcv := r_convBS (h := q3) (b := q.next) (o := 0) (len := 17) (cap := 17) (ex := true) (s := D) (by rw [cells_b g3 (by rw [u8s_length]; omega), List.drop_zero, List.take_of_length_le (by rw [u8s_length]; omega)]) (lt_all hDl)
      have l8 := r_loadN (n := 5) g83 (by rw [quads_length, hRl])
      have l9 := r_loadN (n := 5) g93 (by rw [quads_length, hA])
      repeat with_reducible first
    | refine go_seq hE0 ?_ | refine go_region ?_ | refine ops_nil ?_ | refine ret_seq.2 ?_
    | (refine ops_cw hE0 ?_; simp (disch := first | omega | decide) only [eff, runE, bE, hcv])
    | (refine ops_op ?_; simp (disch := first | omega | decide) only [eff, runE, bE, hcv]; refine rgo ?_)
    | refine go_drawn ?_
    | (refine plan_call hE0 (wanted_none _) ?_; simp (disch := first | omega | decide) only [eff, runE, bE, hcv])
    | (refine plan_op ?_; simp (disch := first | omega | decide) only [eff, runE, bE, hcv]; refine plgo ?_)
    | refine go_block ?_ | refine go_skip ?_ | refine go_exit ?_ | refine go_ret ?_
    | refine ret_seq_x.2 ?_ | refine ret_seq_r.2 ?_ | refine ret_block.2 ?_ | refine ret_block_hit.2 ?_ | refine (ret_block_miss rfl).2 ?_ | refine ret_block_r.2 ?_ | refine ret_loop_x.2 ?_ | refine ret_loop_r.2 ?_
      refine callPl_ex (little_call (D.take 8) (take_lt (by decide) hDl 8) (by rw [List.length_take]; omega) (by rw [List.length_take]; omega) q3) ?_
      rintro _ q ⟨rfl, hq⟩
      rw [hq]
      clear hq q
      repeat with_reducible first
    | refine go_seq hE0 ?_ | refine go_region ?_ | refine ops_nil ?_ | refine ret_seq.2 ?_
    | (refine ops_cw hE0 ?_; simp (disch := first | omega | decide) only [eff, runE, bE, hcv])
    | (refine ops_op ?_; simp (disch := first | omega | decide) only [eff, runE, bE, hcv]; refine rgo ?_)
    | refine go_drawn ?_
    | (refine plan_call hE0 (wanted_none _) ?_; simp (disch := first | omega | decide) only [eff, runE, bE, hcv])
    | (refine plan_op ?_; simp (disch := first | omega | decide) only [eff, runE, bE, hcv]; refine plgo ?_)
    | refine go_block ?_ | refine go_skip ?_ | refine go_exit ?_ | refine go_ret ?_
    | refine ret_seq_x.2 ?_ | refine ret_seq_r.2 ?_ | refine ret_block.2 ?_ | refine ret_block_hit.2 ?_ | refine (ret_block_miss rfl).2 ?_ | refine ret_block_r.2 ?_ | refine ret_loop_x.2 ?_ | refine ret_loop_r.2 ?_
      refine callPl_ex (little_call ((D.drop 8).take (16 - 8)) (take_lt (by decide) (drop_lt hDl 8) _) (by rw [List.length_take, List.length_drop]; omega) (by rw [List.length_take]; omega) q3) ?_
      rintro _ q ⟨rfl, hq⟩
      rw [hq]
      clear hq q
      have hD16 : D[16]? = some (D.getD 16 0) := get_of (by omega)
      repeat with_reducible first
    | refine go_seq hE0 ?_ | refine go_region ?_ | refine ops_nil ?_ | refine ret_seq.2 ?_
    | (refine ops_cw hE0 ?_; simp (disch := first | omega | decide) only [eff, runE, bE, hcv, p_ixStr D 16 _ hD16, wrap_u64m])
    | (refine ops_op ?_; simp (disch := first | omega | decide) only [eff, runE, bE, hcv, p_ixStr D 16 _ hD16, wrap_u64m]; refine rgo ?_)
    | refine go_drawn ?_
    | (refine plan_call hE0 (wanted_none _) ?_; simp (disch := first | omega | decide) only [eff, runE, bE, hcv, p_ixStr D 16 _ hD16, wrap_u64m])
    | (refine plan_op ?_; simp (disch := first | omega | decide) only [eff, runE, bE, hcv, p_ixStr D 16 _ hD16, wrap_u64m]; refine plgo ?_)
    | refine go_block ?_ | refine go_skip ?_ | refine go_exit ?_ | refine go_ret ?_
    | refine ret_seq_x.2 ?_ | refine ret_seq_r.2 ?_ | refine ret_block.2 ?_ | refine ret_block_hit.2 ?_ | refine (ret_block_miss rfl).2 ?_ | refine ret_block_r.2 ?_ | refine ret_loop_x.2 ?_ | refine ret_loop_r.2 ?_
      refine callPl_ex (split_call _ _ _ q3) ?_
      rintro _ q4 ⟨rfl, x4, _⟩
      have hB : (limbsL D).length = 5 := rfl
      have hlb : limbsL D = splitL (littleN (D.take 8)) (littleN ((D.drop 8).take (16 - 8))) (D.getD 16 0 % 18446744073709551616) := rfl
      rw [← hlb]
      generalize limbsL D = B at hB hst1 ⊢
      have n4 := x4.le
      have g84 := (x4.get _ (show k2.next < q3.next by omega)).trans g83
      have g94 := (x4.get _ (show k2.next + 1 < q3.next by omega)).trans g93
      have l84 := r_loadN (n := 5) g84 (by rw [quads_length, hRl])
      have l94 := r_loadN (n := 5) g94 (by rw [quads_length, hA])
      repeat with_reducible first
    | refine go_seq hE0 ?_ | refine go_region ?_ | refine ops_nil ?_ | refine ret_seq.2 ?_
    | (refine ops_cw hE0 ?_; simp (disch := first | omega | decide) only [eff, runE, bE, f9, l94])
    | (refine ops_op ?_; simp (disch := first | omega | decide) only [eff, runE, bE, f9, l94]; refine rgo ?_)
    | refine go_drawn ?_
    | (refine plan_call hE0 (wanted_none _) ?_; simp (disch := first | omega | decide) only [eff, runE, bE, f9, l94])
    | (refine plan_op ?_; simp (disch := first | omega | decide) only [eff, runE, bE, f9, l94]; refine plgo ?_)
    | refine go_block ?_ | refine go_skip ?_ | refine go_exit ?_ | refine go_ret ?_
    | refine ret_seq_x.2 ?_ | refine ret_seq_r.2 ?_ | refine ret_block.2 ?_ | refine ret_block_hit.2 ?_ | refine (ret_block_miss rfl).2 ?_ | refine ret_block_r.2 ?_ | refine ret_loop_x.2 ?_ | refine ret_loop_r.2 ?_
      refine callPl_ex (plus_call A B hA hB q4) ?_
      rintro _ q5 ⟨rfl, x5⟩
      have n5 := x5.le
      have g85 := (x5.get _ (show k2.next < q4.next by omega)).trans g84
      have g95 := (x5.get _ (show k2.next + 1 < q4.next by omega)).trans g94
      have l85 := r_loadN (n := 5) g85 (by rw [quads_length, hRl])
      repeat with_reducible first
    | refine go_seq hE0 ?_ | refine go_region ?_ | refine ops_nil ?_ | refine ret_seq.2 ?_
    | (refine ops_cw hE0 ?_; simp (disch := first | omega | decide) only [eff, runE, bE, f8, l85])
    | (refine ops_op ?_; simp (disch := first | omega | decide) only [eff, runE, bE, f8, l85]; refine rgo ?_)
    | refine go_drawn ?_
    | (refine plan_call hE0 (wanted_none _) ?_; simp (disch := first | omega | decide) only [eff, runE, bE, f8, l85])
    | (refine plan_op ?_; simp (disch := first | omega | decide) only [eff, runE, bE, f8, l85]; refine plgo ?_)
    | refine go_block ?_ | refine go_skip ?_ | refine go_exit ?_ | refine go_ret ?_
    | refine ret_seq_x.2 ?_ | refine ret_seq_r.2 ?_ | refine ret_block.2 ?_ | refine ret_block_hit.2 ?_ | refine (ret_block_miss rfl).2 ?_ | refine ret_block_r.2 ?_ | refine ret_loop_x.2 ?_ | refine ret_loop_r.2 ?_
      have hS : (plusF A B 5).length = 5 := by rw [plusF_len, hA]
      generalize plusF A B 5 = S at hS hst1 ⊢
      refine callPl_ex (times_call S R hS hRl q5) ?_
      rintro _ q6 ⟨rfl, x6⟩
      have n6 := x6.le
      have g86 := (x6.get _ (show k2.next < q5.next by omega)).trans g85
      have g96 := (x6.get _ (show k2.next + 1 < q5.next by omega)).trans g95
      have hT : (carryF (tout S R 5) 3).length = 5 := by rw [carryF_len, tout_len]
      generalize carryF (tout S R 5) 3 = T at hT hst1 ⊢
      have hst := e_storeN (n := 5) g96 (vs := quads T) (by rw [quads_length, hT]) (by rw [quads_length, quads_length, hA, hT]) (quads_one _)
      repeat with_reducible first
    | refine go_seq hE0 ?_ | refine go_region ?_ | refine ops_nil ?_ | refine ret_seq.2 ?_
    | (refine ops_cw hE0 ?_; simp (disch := first | omega | decide) only [eff, runE, bE, f9, hst])
    | (refine ops_op ?_; simp (disch := first | omega | decide) only [eff, runE, bE, f9, hst]; refine rgo ?_)
    | refine go_drawn ?_
    | (refine plan_call hE0 (wanted_none _) ?_; simp (disch := first | omega | decide) only [eff, runE, bE, f9, hst])
    | (refine plan_op ?_; simp (disch := first | omega | decide) only [eff, runE, bE, f9, hst]; refine plgo ?_)
    | refine go_block ?_ | refine go_skip ?_ | refine go_exit ?_ | refine go_ret ?_
    | refine ret_seq_x.2 ?_ | refine ret_seq_r.2 ?_ | refine ret_block.2 ?_ | refine ret_block_hit.2 ?_ | refine (ret_block_miss rfl).2 ?_ | refine ret_block_r.2 ?_ | refine ret_loop_x.2 ?_ | refine ret_loop_r.2 ?_
      have a1 : q3.next ≤ q5.next := by omega
      have a2 : q3.next ≤ q6.next := by omega
      have a3 : q4.next ≤ q6.next := by omega
      refine plan_nil (by simp (disch := first | omega | decide) only [endOk, chkAt, addNew, newOk, rangeOk, distinctN, Nat.reduceLT, Nat.reduceAdd, Nat.reduceLeDiff, bP, eff, runE, bE, f8, f9, l8, l9, l84, l94, l85, n4, n5, n6, a1, a2, a3, hcv]) ?_
      repeat with_reducible first
    | refine go_seq hE0 ?_ | refine go_region ?_ | refine ops_nil ?_ | refine ret_seq.2 ?_
    | (refine ops_cw hE0 ?_; simp (disch := first | omega | decide) only [eff, runE, bE, f1, hdr])
    | (refine ops_op ?_; simp (disch := first | omega | decide) only [eff, runE, bE, f1, hdr]; refine rgo ?_)
    | refine go_drawn ?_
    | (refine plan_call hE0 (wanted_none _) ?_; simp (disch := first | omega | decide) only [eff, runE, bE, f1, hdr])
    | (refine plan_op ?_; simp (disch := first | omega | decide) only [eff, runE, bE, f1, hdr]; refine plgo ?_)
    | refine go_block ?_ | refine go_skip ?_ | refine go_exit ?_ | refine go_ret ?_
    | refine ret_seq_x.2 ?_ | refine ret_seq_r.2 ?_ | refine ret_block.2 ?_ | refine ret_block_hit.2 ?_ | refine (ret_block_miss rfl).2 ?_ | refine ret_block_r.2 ?_ | refine ret_loop_x.2 ?_ | refine ret_loop_r.2 ?_
      refine ret_loop.2 (IH (nb - (j + 1)) _ _ (by omega) ⟨j + 1, rfl, by omega, (((hx3.trans x4).trans x5).trans x6).set (m := k2.next + 1) (by omega) _, ?_, ?_, ?_, ?_, ?_, ?_, ?_⟩)
      · simp only [XH.next_set]; omega
      · rw [XH.get_set, if_neg (by omega)]; exact g86
      · rw [XH.get_set, if_pos rfl, hst1]
      · simp (disch := first | omega | decide) only [eff, runE, bE, f0]
      · simp (disch := first | omega | decide) only [eff, runE, bE, hdr]
      · simp (disch := first | omega | decide) only [eff, runE, bE, f8]
      · simp (disch := first | omega | decide) only [eff, runE, bE, f9]
    · have hc := of_decide_eq_false hc
      obtain rfl : j = nb := by omega
      have l9 := r_loadN (n := 5) g9 (by rw [quads_length, hA])
      repeat with_reducible first
    | refine go_seq hE0 ?_ | refine go_region ?_ | refine ops_nil ?_ | refine ret_seq.2 ?_
    | (refine ops_cw hE0 ?_; simp (disch := first | omega | decide) only [eff, runE, bE, f9, l9])
    | (refine ops_op ?_; simp (disch := first | omega | decide) only [eff, runE, bE, f9, l9]; refine rgo ?_)
    | refine go_drawn ?_
    | (refine plan_call hE0 (wanted_none _) ?_; simp (disch := first | omega | decide) only [eff, runE, bE, f9, l9])
    | (refine plan_op ?_; simp (disch := first | omega | decide) only [eff, runE, bE, f9, l9]; refine plgo ?_)
    | refine go_block ?_ | refine go_skip ?_ | refine go_exit ?_ | refine go_ret ?_
    | refine ret_seq_x.2 ?_ | refine ret_seq_r.2 ?_ | refine ret_block.2 ?_ | refine ret_block_hit.2 ?_ | refine (ret_block_miss rfl).2 ?_ | refine ret_block_r.2 ?_ | refine ret_loop_x.2 ?_ | refine ret_loop_r.2 ?_
      refine callGo_ex (whole_call _ hA q) ?_
      rintro _ q2 ⟨rfl, x3⟩
      have n3 := x3.le
      have hW := wholeF_len _ hA
      have g92 := (x3.get _ (show k2.next + 1 < q.next by omega)).trans g9
      generalize wholeF (tagJ R msg j) = W at hW hL ⊢
      have hst := e_storeN (n := 5) g92 (vs := quads W) (by rw [quads_length, hW]) (by rw [quads_length, quads_length, hA, hW]) (quads_one _)
      repeat with_reducible first
    | refine go_seq hE0 ?_ | refine go_region ?_ | refine ops_nil ?_ | refine ret_seq.2 ?_
    | (refine ops_cw hE0 ?_; simp (disch := first | omega | decide) only [eff, runE, bE, f9, hst])
    | (refine ops_op ?_; simp (disch := first | omega | decide) only [eff, runE, bE, f9, hst]; refine rgo ?_)
    | refine go_drawn ?_
    | (refine plan_call hE0 (wanted_none _) ?_; simp (disch := first | omega | decide) only [eff, runE, bE, f9, hst])
    | (refine plan_op ?_; simp (disch := first | omega | decide) only [eff, runE, bE, f9, hst]; refine plgo ?_)
    | refine go_block ?_ | refine go_skip ?_ | refine go_exit ?_ | refine go_ret ?_
    | refine ret_seq_x.2 ?_ | refine ret_seq_r.2 ?_ | refine ret_block.2 ?_ | refine ret_block_hit.2 ?_ | refine (ret_block_miss rfl).2 ?_ | refine ret_block_r.2 ?_ | refine ret_loop_x.2 ?_ | refine ret_loop_r.2 ?_
      have hx3 : HExt h (q2.set (k2.next + 1) (.cells (quads W) false (some (Nat.mul 2 335)))) := (hx.trans x3).set (m := k2.next + 1) (by omega) _
      have g93 : (q2.set (k2.next + 1) (.cells (quads W) false (some (Nat.mul 2 335)))).get (k2.next + 1) = some (.cells (quads W) false (some (Nat.mul 2 335))) := by rw [XH.get_set, if_pos rfl]
      generalize q2.set (k2.next + 1) (.cells (quads W) false (some (Nat.mul 2 335))) = q3 at hx3 g93 ⊢
      clear hst g9 g92 l9 hst1 hdr hMM
      have a0 := r_load1 (o := 0) g93 (quads_get (by omega))
      have a1 := r_load1 (o := 1) g93 (quads_get (by omega))
      have a2 := r_load1 (o := 2) g93 (quads_get (by omega))
      have a3 := r_load1 (o := 3) g93 (quads_get (by omega))
      have a4 := r_load1 (o := 4) g93 (quads_get (by omega))
      have b26 : 26 ≤ IntKind.u64.bits := by decide
      have b52 : 52 ≤ IntKind.u64.bits := by decide
      have b12 : 12 ≤ IntKind.u64.bits := by decide
      have b14 : 14 ≤ IntKind.u64.bits := by decide
      have b40 : 40 ≤ IntKind.u64.bits := by decide
      have k16 : ((key.drop 16).take (24 - 16)).length = 8 := by rw [List.length_take, List.length_drop]; omega
      have k24 : (key.drop 24).length = 8 := by rw [List.length_drop]; omega
      have z16 := littleN_lt ((key.drop 16).take (24 - 16)) (take_lt (by decide) (drop_lt hk 16) _)
      have z24 := littleN_lt (key.drop 24) (drop_lt hk 24)
      rw [k16] at z16
      rw [k24] at z24
      repeat with_reducible first
    | refine go_seq hE0 ?_ | refine go_region ?_ | refine ops_nil ?_ | refine ret_seq.2 ?_
    | (refine ops_cw hE0 ?_; simp (disch := first | omega | decide) only [eff, runE, bE, f0, f9])
    | (refine ops_op ?_; simp (disch := first | omega | decide) only [eff, runE, bE, f0, f9]; refine rgo ?_)
    | refine go_drawn ?_
    | (refine plan_call hE0 (wanted_none _) ?_; simp (disch := first | omega | decide) only [eff, runE, bE, f0, f9])
    | (refine plan_op ?_; simp (disch := first | omega | decide) only [eff, runE, bE, f0, f9]; refine plgo ?_)
    | refine go_block ?_ | refine go_skip ?_ | refine go_exit ?_ | refine go_ret ?_
    | refine ret_seq_x.2 ?_ | refine ret_seq_r.2 ?_ | refine ret_block.2 ?_ | refine ret_block_hit.2 ?_ | refine (ret_block_miss rfl).2 ?_ | refine ret_block_r.2 ?_ | refine ret_loop_x.2 ?_ | refine ret_loop_r.2 ?_
      refine callPl_ex (little_call ((key.drop 16).take (24 - 16)) (take_lt (by decide) (drop_lt hk 16) _) (by omega) (by omega) q3) ?_
      rintro _ q ⟨rfl, hq⟩
      rw [hq]
      clear hq q
      repeat with_reducible first
    | refine go_seq hE0 ?_ | refine go_region ?_ | refine ops_nil ?_ | refine ret_seq.2 ?_
    | (refine ops_cw hE0 ?_; simp (disch := first | omega | decide) only [eff, runE, bE, f0, f9, a0, a1, a2, b26, b52, wrap_u64m])
    | (refine ops_op ?_; simp (disch := first | omega | decide) only [eff, runE, bE, f0, f9, a0, a1, a2, b26, b52, wrap_u64m]; refine rgo ?_)
    | refine go_drawn ?_
    | (refine plan_call hE0 (wanted_none _) ?_; simp (disch := first | omega | decide) only [eff, runE, bE, f0, f9, a0, a1, a2, b26, b52, wrap_u64m])
    | (refine plan_op ?_; simp (disch := first | omega | decide) only [eff, runE, bE, f0, f9, a0, a1, a2, b26, b52, wrap_u64m]; refine plgo ?_)
    | refine go_block ?_ | refine go_skip ?_ | refine go_exit ?_ | refine go_ret ?_
    | refine ret_seq_x.2 ?_ | refine ret_seq_r.2 ?_ | refine ret_block.2 ?_ | refine ret_block_hit.2 ?_ | refine (ret_block_miss rfl).2 ?_ | refine ret_block_r.2 ?_ | refine ret_loop_x.2 ?_ | refine ret_loop_r.2 ?_
      refine callPl_ex (add64_call (orN (orN (W.getD 0 0) (shlN (W.getD 1 0) 26)) (shlN (W.getD 2 0) 52)) (littleN ((key.drop 16).take (24 - 16))) 0 (by decide) q3) ?_
      rintro _ q ⟨rfl, hq⟩
      rw [hq]
      clear hq q
      repeat with_reducible first
    | refine go_seq hE0 ?_ | refine go_region ?_ | refine ops_nil ?_ | refine ret_seq.2 ?_
    | (refine ops_cw hE0 ?_; simp (disch := first | omega | decide) only [eff, runE, bE])
    | (refine ops_op ?_; simp (disch := first | omega | decide) only [eff, runE, bE]; refine rgo ?_)
    | refine go_drawn ?_
    | (refine plan_call hE0 (wanted_none _) ?_; simp (disch := first | omega | decide) only [eff, runE, bE])
    | (refine plan_op ?_; simp (disch := first | omega | decide) only [eff, runE, bE]; refine plgo ?_)
    | refine go_block ?_ | refine go_skip ?_ | refine go_exit ?_ | refine go_ret ?_
    | refine ret_seq_x.2 ?_ | refine ret_seq_r.2 ?_ | refine ret_block.2 ?_ | refine ret_block_hit.2 ?_ | refine (ret_block_miss rfl).2 ?_ | refine ret_block_r.2 ?_ | refine ret_loop_x.2 ?_ | refine ret_loop_r.2 ?_
      refine plan_nil (by simp (disch := first | omega | decide) only [endOk, chkAt, addNew, newOk, rangeOk, distinctN, Nat.reduceLT, Nat.reduceAdd, Nat.reduceLeDiff, bP, eff, runE, bE, f9, a0, a1, a2]) ?_
      rw [tagEnd] at hL
      have h1 : orN (orN (W.getD 0 0) (shlN (W.getD 1 0) 26)) (shlN (W.getD 2 0) 52) < 18446744073709551616 := Nat.mod_lt _ (by decide)
      generalize orN (orN (W.getD 0 0) (shlN (W.getD 1 0) 26)) (shlN (W.getD 2 0) 52) = LO at h1 hL ⊢
      have h2 : (LO + littleN ((key.drop 16).take (24 - 16)) + 0) / 18446744073709551616 ≤ 1 := by
        have : littleN ((key.drop 16).take (24 - 16)) < 18446744073709551616 := z16
        omega
      generalize LO + littleN ((key.drop 16).take (24 - 16)) + 0 = SA at h2 hL ⊢
      repeat with_reducible first
    | refine go_seq hE0 ?_ | refine go_region ?_ | refine ops_nil ?_ | refine ret_seq.2 ?_
    | (refine ops_cw hE0 ?_; simp (disch := first | omega | decide) only [eff, runE, bE, f0, f9])
    | (refine ops_op ?_; simp (disch := first | omega | decide) only [eff, runE, bE, f0, f9]; refine rgo ?_)
    | refine go_drawn ?_
    | (refine plan_call hE0 (wanted_none _) ?_; simp (disch := first | omega | decide) only [eff, runE, bE, f0, f9])
    | (refine plan_op ?_; simp (disch := first | omega | decide) only [eff, runE, bE, f0, f9]; refine plgo ?_)
    | refine go_block ?_ | refine go_skip ?_ | refine go_exit ?_ | refine go_ret ?_
    | refine ret_seq_x.2 ?_ | refine ret_seq_r.2 ?_ | refine ret_block.2 ?_ | refine ret_block_hit.2 ?_ | refine (ret_block_miss rfl).2 ?_ | refine ret_block_r.2 ?_ | refine ret_loop_x.2 ?_ | refine ret_loop_r.2 ?_
      refine callPl_ex (little_call (key.drop 24) (drop_lt hk 24) (by omega) (by omega) q3) ?_
      rintro _ q ⟨rfl, hq⟩
      rw [hq]
      clear hq q
      repeat with_reducible first
    | refine go_seq hE0 ?_ | refine go_region ?_ | refine ops_nil ?_ | refine ret_seq.2 ?_
    | (refine ops_cw hE0 ?_; simp (disch := first | omega | decide) only [eff, runE, bE, f0, f9, a2, a3, a4, b12, b14, b40, wrap_u64m])
    | (refine ops_op ?_; simp (disch := first | omega | decide) only [eff, runE, bE, f0, f9, a2, a3, a4, b12, b14, b40, wrap_u64m]; refine rgo ?_)
    | refine go_drawn ?_
    | (refine plan_call hE0 (wanted_none _) ?_; simp (disch := first | omega | decide) only [eff, runE, bE, f0, f9, a2, a3, a4, b12, b14, b40, wrap_u64m])
    | (refine plan_op ?_; simp (disch := first | omega | decide) only [eff, runE, bE, f0, f9, a2, a3, a4, b12, b14, b40, wrap_u64m]; refine plgo ?_)
    | refine go_block ?_ | refine go_skip ?_ | refine go_exit ?_ | refine go_ret ?_
    | refine ret_seq_x.2 ?_ | refine ret_seq_r.2 ?_ | refine ret_block.2 ?_ | refine ret_block_hit.2 ?_ | refine (ret_block_miss rfl).2 ?_ | refine ret_block_r.2 ?_ | refine ret_loop_x.2 ?_ | refine ret_loop_r.2 ?_
      refine callPl_ex (add64_call (orN (orN (W.getD 2 0 >>> 12) (shlN (W.getD 3 0) 14)) (shlN (W.getD 4 0) 40)) (littleN (key.drop 24)) (SA / 18446744073709551616) h2 q3) ?_
      rintro _ q ⟨rfl, hq⟩
      rw [hq]
      clear hq q
      repeat with_reducible first
    | refine go_seq hE0 ?_ | refine go_region ?_ | refine ops_nil ?_ | refine ret_seq.2 ?_
    | (refine ops_cw hE0 ?_; simp (disch := first | omega | decide) only [eff, runE, bE])
    | (refine ops_op ?_; simp (disch := first | omega | decide) only [eff, runE, bE]; refine rgo ?_)
    | refine go_drawn ?_
    | (refine plan_call hE0 (wanted_none _) ?_; simp (disch := first | omega | decide) only [eff, runE, bE])
    | (refine plan_op ?_; simp (disch := first | omega | decide) only [eff, runE, bE]; refine plgo ?_)
    | refine go_block ?_ | refine go_skip ?_ | refine go_exit ?_ | refine go_ret ?_
    | refine ret_seq_x.2 ?_ | refine ret_seq_r.2 ?_ | refine ret_block.2 ?_ | refine ret_block_hit.2 ?_ | refine (ret_block_miss rfl).2 ?_ | refine ret_block_r.2 ?_ | refine ret_loop_x.2 ?_ | refine ret_loop_r.2 ?_
      refine plan_nil (by simp (disch := first | omega | decide) only [endOk, chkAt, addNew, newOk, rangeOk, distinctN, Nat.reduceLT, Nat.reduceAdd, Nat.reduceLeDiff, bP, eff, runE, bE, f9, a2, a3, a4, b12]) ?_
      generalize orN (orN (W.getD 2 0 >>> 12) (shlN (W.getD 3 0) 14)) (shlN (W.getD 4 0) 40) + littleN (key.drop 24) + SA / 18446744073709551616 = SB at hL ⊢
      repeat with_reducible first
    | refine go_seq hE0 ?_ | refine go_region ?_ | refine ops_nil ?_ | refine ret_seq.2 ?_
    | (refine ops_cw hE0 ?_; simp (disch := first | omega | decide) only [eff, runE, bE])
    | (refine ops_op ?_; simp (disch := first | omega | decide) only [eff, runE, bE]; refine rgo ?_)
    | refine go_drawn ?_
    | (refine plan_call hE0 (wanted_none _) ?_; simp (disch := first | omega | decide) only [eff, runE, bE])
    | (refine plan_op ?_; simp (disch := first | omega | decide) only [eff, runE, bE]; refine plgo ?_)
    | refine go_block ?_ | refine go_skip ?_ | refine go_exit ?_ | refine go_ret ?_
    | refine ret_seq_x.2 ?_ | refine ret_seq_r.2 ?_ | refine ret_block.2 ?_ | refine ret_block_hit.2 ?_ | refine (ret_block_miss rfl).2 ?_ | refine ret_block_r.2 ?_ | refine ret_loop_x.2 ?_ | refine ret_loop_r.2 ?_
      refine callGo_ex (putLittle_call (SA % 18446744073709551616) 8 (Nat.mod_lt _ (by decide)) (by decide) (by decide) q3) ?_
      rintro _ q4 ⟨rfl, x4⟩
      repeat with_reducible first
    | refine go_seq hE0 ?_ | refine go_region ?_ | refine ops_nil ?_ | refine ret_seq.2 ?_
    | (refine ops_cw hE0 ?_; simp (disch := first | omega | decide) only [eff, runE, bE])
    | (refine ops_op ?_; simp (disch := first | omega | decide) only [eff, runE, bE]; refine rgo ?_)
    | refine go_drawn ?_
    | (refine plan_call hE0 (wanted_none _) ?_; simp (disch := first | omega | decide) only [eff, runE, bE])
    | (refine plan_op ?_; simp (disch := first | omega | decide) only [eff, runE, bE]; refine plgo ?_)
    | refine go_block ?_ | refine go_skip ?_ | refine go_exit ?_ | refine go_ret ?_
    | refine ret_seq_x.2 ?_ | refine ret_seq_r.2 ?_ | refine ret_block.2 ?_ | refine ret_block_hit.2 ?_ | refine (ret_block_miss rfl).2 ?_ | refine ret_block_r.2 ?_ | refine ret_loop_x.2 ?_ | refine ret_loop_r.2 ?_
      refine callGo_ex (putLittle_call (SB % 18446744073709551616) 8 (Nat.mod_lt _ (by decide)) (by decide) (by decide) q4) ?_
      rintro _ q5 ⟨rfl, x5⟩
      have p1 := putLittle_len (SA % 18446744073709551616) 8
      have p2 := putLittle_len (SB % 18446744073709551616) 8
      repeat with_reducible first
    | refine go_seq hE0 ?_ | refine go_region ?_ | refine ops_nil ?_ | refine ret_seq.2 ?_
    | (refine ops_cw hE0 ?_; simp (disch := first | omega | decide) only [eff, runE, bE])
    | (refine ops_op ?_; simp (disch := first | omega | decide) only [eff, runE, bE]; refine rgo ?_)
    | refine go_drawn ?_
    | (refine plan_call hE0 (wanted_none _) ?_; simp (disch := first | omega | decide) only [eff, runE, bE])
    | (refine plan_op ?_; simp (disch := first | omega | decide) only [eff, runE, bE]; refine plgo ?_)
    | refine go_block ?_ | refine go_skip ?_ | refine go_exit ?_ | refine go_ret ?_
    | refine ret_seq_x.2 ?_ | refine ret_seq_r.2 ?_ | refine ret_block.2 ?_ | refine ret_block_hit.2 ?_ | refine (ret_block_miss rfl).2 ?_ | refine ret_block_r.2 ?_ | refine ret_loop_x.2 ?_ | refine ret_loop_r.2 ?_
      refine ret_nil.2 ⟨_, fin_tmps (l := [4, 5]) (.inr rfl), ?_, (hx3.trans x4).trans x5⟩
      simp only [List.map]
      simp (disch := first | omega | decide) only [eff, runE, bE]
      rw [hL]
      rfl
  · refine ⟨0, rfl, by omega, ?_, ?_, ?_, ?_, ?_, ?_, ?_, ?_⟩
    · exact (((x1.trans x2).new _).set (m := k2.next) (by omega) _).new _
    · simp only [XH.next_set, XH.next_new]; omega
    · simp only [XH.get_set, XH.get_new, XH.next_set, XH.next_new]
      rw [if_neg (by omega), if_true]
    · simp only [XH.get_set, XH.get_new, XH.next_set, XH.next_new]
      rw [if_true]; rfl
    · simp (disch := first | omega | decide) only [eff, runE, bE]
    · simp (disch := first | omega | decide) only [eff, runE, bE]
      rw [Nat.mul_zero, List.drop_zero]
    · simp (disch := first | omega | decide) only [eff, runE, bE]
    · simp (disch := first | omega | decide) only [eff, runE, bE]
end Go.Proofs.XCode
end
