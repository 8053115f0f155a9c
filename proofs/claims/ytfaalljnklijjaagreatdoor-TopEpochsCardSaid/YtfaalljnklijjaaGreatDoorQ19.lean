/- What this text proves serves the claim of its last text: a part of a verified executor, its walks and its runs (W54, W55, W56, W57, W58, W40, W60, W61, W62, W63, LW). -/
import Derived.Test.YtfaalljnklijjaaGreatDoorQ18
import Derived.Below
set_option linter.all false
section
namespace Go.Proofs.XCode
open Go.X Go.RowKit Go.Proofs
set_option maxRecDepth 100000
set_option linter.unusedSimpArgs false
set_option linter.unusedVariables false
theorem lk_none {h : XH} {A z k : XV} {c : Bool} (hA : mapOf h A = some []) : rLookup false h z A k c = some (bif c then .tup [z, .bool false] else z) := by
  simp only [rLookup, hA]
  rfl
theorem findK_one (n : Nat) (v : XV) : findK false (kI n) [(kI n, v)] = some (some v) := by
  unfold findK
  rw [xeqI, decide_eq_true rfl]
theorem lk_one {h : XH} {x n : Nat} {z v : XV} {c : Bool} (hx : h.get x = some (.map [(kI n, v)])) : rLookup false h z (.map x) (.int .i64 (.ofNat n)) c = some (bif c then .tup [v, .bool true] else v) := by
  have := findK_one n v
  simp only [rLookup, mapOf, hx]
  show lookR z c (findK false (kI n) [(kI n, v)]) = _
  rw [this]
  rfl
theorem del_one {h : XH} {x n : Nat} {v : XV} (hx : h.get x = some (.map [(kI n, v)])) : eDelete h false (.map x) (.int .i64 (.ofNat n)) = some (unit, h.set x (.map [])) := by
  have : delK false (kI n) [(kI n, v)] = some [] := by
    unfold delK
    rw [xeqI, decide_eq_true rfl]
  simp only [eDelete, hx]
  show setM h x (delK false (kI n) [(kI n, v)]) = _
  rw [this]
  rfl
theorem map_get {h : XH} {x : Nat} (hx : h.get x = some (.map [])) : mapOf h (.map x) = some [] := by simp only [mapOf, hx]
theorem WNext_call (w n : Nat) (A : XV) (tg : Option Nat) (h : XH) (hg : h.get w = some (.cells [.int .i64 (.ofNat n), A] false tg)) : CallEv E0 n_window_Window_Next [.ptr w 0] h (fun r k => r = .int .i64 (.ofNat n) ∧ k = h) := by
  refine call_fn fn_window_Window_Next ?_
  simp only [args0_cons, args0_nil]
  repeat with_reducible first | refine nx ?_ | (refine nw ?_; simp (disch := first | omega | decide) only [bG, eq_pn]; refine rg ?_)
  refine callGo_of (LoadO_call w 0 n _ _ _ _ hg rfl) ?_
  repeat with_reducible first | refine nx ?_ | (refine nw ?_; simp (disch := first | omega | decide) only [bG]; refine rg ?_)
  refine ret_nil.2 ⟨_, fin_tmp (.inr rfl), ?_, rfl⟩
  simp (disch := first | omega | decide) only [bG]
theorem May_call (w n : Nat) (A : XV) (tg : Option Nat) (h : XH) (hg : h.get w = some (.cells [.int .i64 (.ofNat n), A] false tg)) (hA : mapOf h A = some []) (hn : n < 400) : CallEv E0 n_window_Window_May [.ptr w 0, .int .i64 (.ofNat n)] h (fun r k => r = .bool true ∧ k = h) := by
  have f1 := r_load1 (o := 1) hg rfl
  have lk := lk_none (z := .bool false) (k := .int .i64 (.ofNat n)) (c := false) hA
  have d1 : decide (n ≤ n) = true := decide_eq_true (Nat.le_refl _)
  have d2 : decide (0 < 64) = true := rfl
  refine call_fn fn_window_Window_May ?_
  simp only [args0_cons, args0_nil]
  repeat with_reducible first | refine nx ?_ | (refine nw ?_; simp (disch := first | omega | decide) only [bG, eq_pn]; refine rg ?_)
  refine callGo_of (WNext_call w n A tg h hg) ?_
  repeat with_reducible first | refine nx ?_ | (refine nw ?_; simp (disch := first | omega | decide) only [bG, d1, d2, Nat.sub_self, f1, lk, u_not, Bool.not_false, Bool.not_true]; refine rg ?_)
  refine ret_nil.2 ⟨_, fin_tmp (.inr rfl), ?_, rfl⟩
  simp (disch := first | omega | decide) only [bG]
theorem Take_map (w x n : Nat) (tg : Option Nat) (h : XH) (hg : h.get w = some (.cells [.int .i64 (.ofNat n), .map x] false tg)) (hx : h.get x = some (.map [])) (wx : w ≠ x) (lw : w < h.next) (lx : x < h.next) (hn : n < 400) :
    CallEv E0 n_window_Window_Take [.ptr w 0, .int .i64 (.ofNat n)] h (fun r k => r = .bool true ∧ k.next = h.next ∧ k.get w = some (.cells [.int .i64 (.ofNat (n + 1)), .map x] false tg) ∧ k.get x = some (.map []) ∧ ∀ y, y ≠ w → y ≠ x → k.get y = h.get y) := by
  have f1 := r_load1 (o := 1) hg rfl
  have en : ∀ t b, xbin (.map t b) .eql (.map x) .nilm = some (.bool false) := fun _ _ => rfl
  have ms := map_set (k := n) (v := .bool true) hx rfl
  refine call_fn fn_window_Window_Take ?_
  simp only [args0_cons, args0_nil]
  repeat with_reducible first | refine nx ?_ | (refine nw ?_; simp (disch := first | omega | decide) only [bG, eq_pn]; refine rg ?_)
  refine callGo_of (May_call w n _ tg h hg (map_get hx) hn) ?_
  repeat with_reducible first | refine nx ?_ | (refine nw ?_; simp (disch := first | omega | decide) only [bG, u_not, Bool.not_true, f1, en, ms]; refine rg ?_)
  generalize hq : h.set x (.map ([] ++ [(kI n, .bool true)])) = q
  have nq : q.next = h.next := by rw [← hq]; rfl
  have qx : q.get x = some (.map [(kI n, .bool true)]) := by rw [← hq, XH.get_set, if_pos rfl]; rfl
  have ql : ∀ y, y ≠ x → q.get y = h.get y := fun y hy => by rw [← hq, XH.get_set, if_neg hy]
  clear hq ms
  have qw : q.get w = _ := (ql w wx).trans hg
  have q1 := r_load1 (o := 1) qw rfl
  have lq : ∀ z, rLookup false q z (.map x) (.int .i64 (.ofNat n)) false = some (.bool true) := fun z => lk_one qx
  have dq := del_one qx
  have dn : decide (q.next ≤ q.next) = true := decide_eq_true (Nat.le_refl _)
  refine go_loop hE0 ?_
  repeat with_reducible first | refine nx ?_ | (refine nw ?_; simp (disch := first | omega | decide) only [bG, q1, lq]; refine rg ?_)
  refine callPl_of (WNext_call w n _ tg q qw) ?_
  repeat with_reducible first | refine nx ?_ | (refine nw ?_; simp (disch := first | omega | decide) only [bG, q1, lq]; refine rg ?_)
  refine plan_nil (by simp (disch := first | omega | decide) only [endOk, chkAt, addNew, newOk, rangeOk, distinctN, Nat.reduceLT, Nat.reduceAdd, Nat.reduceLeDiff, bP, bG, q1, lq, dn, Bool.and_self]) ?_
  repeat with_reducible first | refine nx ?_ | (refine nw ?_; simp (disch := first | omega | decide) only [bG, q1, lq]; refine rg ?_)
  refine callPl_of (WNext_call w n _ tg q qw) ?_
  repeat with_reducible first | refine nx ?_ | (refine nw ?_; simp (disch := first | omega | decide) only [bG, q1, dq]; refine rg ?_)
  refine plan_nil (by simp (disch := first | omega | decide) only [endOk, chkAt, addNew, newOk, rangeOk, distinctN, Nat.reduceLT, Nat.reduceAdd, Nat.reduceLeDiff, bP, bG, q1, dq, dn, Bool.and_self]) ?_
  have qq : (q.set x (.map [])).get w = _ := (XH.get_set _ _ _ _).trans ((if_neg wx).trans qw)
  repeat with_reducible first | refine nx ?_ | (refine nw ?_; simp (disch := first | omega | decide) only [bG]; refine rg ?_)
  refine callGo_of (AddO_call w 0 n _ _ _ (by omega) qq rfl) ?_
  generalize hr : (q.set x (.map [])).set w (.cells ([.int .i64 (.ofNat n), .map x].set 0 (.int .i64 (.ofNat (n + 1)))) false tg) = r
  have nr : r.next = q.next := by rw [← hr]; rfl
  have rw' : r.get w = some (.cells [.int .i64 (.ofNat (n + 1)), .map x] false tg) := by rw [← hr, XH.get_set, if_pos rfl]; rfl
  have rx : r.get x = some (.map []) := by rw [← hr, XH.get_set, if_neg (fun e => wx e.symm), XH.get_set, if_pos rfl]
  have rl : ∀ y, y ≠ w → y ≠ x → r.get y = h.get y := fun y h1 h2 => by rw [← hr, XH.get_set, if_neg h1, XH.get_set, if_neg h2, ql y h2]
  clear hr qq
  have r1 := r_load1 (o := 1) rw' rfl
  have lr : ∀ z, rLookup false r z (.map x) (.int .i64 (.ofNat (n + 1))) false = some z := fun z => lk_none (map_get rx)
  have dr : decide (r.next ≤ r.next) = true := decide_eq_true (Nat.le_refl _)
  repeat with_reducible first | refine nx ?_ | (refine nw ?_; simp (disch := first | omega | decide) only [bG]; refine rg ?_)
  refine ret_loop.2 (go_loop hE0 ?_)
  repeat with_reducible first | refine nx ?_ | (refine nw ?_; simp (disch := first | omega | decide) only [bG, r1, lr]; refine rg ?_)
  refine callPl_of (WNext_call w (n + 1) _ tg r rw') ?_
  repeat with_reducible first | refine nx ?_ | (refine nw ?_; simp (disch := first | omega | decide) only [bG, r1, lr]; refine rg ?_)
  refine plan_nil (by simp (disch := first | omega | decide) only [endOk, chkAt, addNew, newOk, rangeOk, distinctN, Nat.reduceLT, Nat.reduceAdd, Nat.reduceLeDiff, bP, bG, r1, lr, dr, Bool.and_self]) ?_
  repeat with_reducible first | refine nx ?_ | (refine nw ?_; simp (disch := first | omega | decide) only [bG]; refine rg ?_)
  refine ret_nil.2 ⟨_, fin_tmp (.inr rfl), ?_, by omega, rw', rx, rl⟩
  simp (disch := first | omega | decide) only [bG]
theorem Take_nil (w n : Nat) (tg : Option Nat) (h : XH) (hg : h.get w = some (.cells [.int .i64 (.ofNat n), .nilm] false tg)) (lw : w < h.next) (hn : n < 400) :
    CallEv E0 n_window_Window_Take [.ptr w 0, .int .i64 (.ofNat n)] h (fun r k => r = .bool true ∧ k.next = h.next + 1 ∧ k.get w = some (.cells [.int .i64 (.ofNat (n + 1)), .map h.next] false tg) ∧ k.get h.next = some (.map []) ∧ ∀ y, y < h.next → y ≠ w → k.get y = h.get y) := by
  have f1 := r_load1 (o := 1) hg rfl
  have en : ∀ t b, xbin (.map t b) .eql .nilm .nilm = some (.bool true) := fun _ _ => rfl
  have hg1 : (h.new (.map [])).get w = _ := (XH.get_new _ _ _).trans ((if_neg (by omega)).trans hg)
  have st := e_store_one (o := 1) (v := .map h.next) hg1 (Nat.lt_succ_self 1) rfl
  have wx : w ≠ h.next := by omega
  refine call_fn fn_window_Window_Take ?_
  simp only [args0_cons, args0_nil]
  repeat with_reducible first | refine nx ?_ | (refine nw ?_; simp (disch := first | omega | decide) only [bG, eq_pn]; refine rg ?_)
  refine callGo_of (May_call w n _ tg h hg rfl hn) ?_
  repeat with_reducible first | refine nx ?_ | (refine nw ?_; simp (disch := first | omega | decide) only [bG, u_not, Bool.not_true, f1, en, st]; refine rg ?_)
  generalize hp : (h.new (.map [])).set w (.cells ([.int .i64 (.ofNat n), .nilm].set 1 (.map h.next)) false tg) = p
  have np : p.next = h.next + 1 := by rw [← hp]; rfl
  have pw : p.get w = some (.cells [.int .i64 (.ofNat n), .map h.next] false tg) := by rw [← hp, XH.get_set, if_pos rfl]; rfl
  have px : p.get h.next = some (.map []) := by rw [← hp, XH.get_set, if_neg (fun e => wx e.symm), XH.get_new, if_pos rfl]
  have pl : ∀ y, y < h.next → y ≠ w → p.get y = h.get y := fun y h1 h2 => by rw [← hp, XH.get_set, if_neg h2, XH.get_new, if_neg (by omega)]
  clear hp st
  have p1 := r_load1 (o := 1) pw rfl
  have ms := map_set (k := n) (v := .bool true) px rfl
  repeat with_reducible first | refine nx ?_ | (refine nw ?_; simp (disch := first | omega | decide) only [bG, p1, ms]; refine rg ?_)
  generalize hq : p.set h.next (.map ([] ++ [(kI n, .bool true)])) = q
  have nq : q.next = p.next := by rw [← hq]; rfl
  have qx : q.get h.next = some (.map [(kI n, .bool true)]) := by rw [← hq, XH.get_set, if_pos rfl]; rfl
  have ql : ∀ y, y ≠ h.next → q.get y = p.get y := fun y hy => by rw [← hq, XH.get_set, if_neg hy]
  clear hq ms
  have qw : q.get w = _ := (ql w wx).trans pw
  have q1 := r_load1 (o := 1) qw rfl
  have lq : ∀ z, rLookup false q z (.map h.next) (.int .i64 (.ofNat n)) false = some (.bool true) := fun z => lk_one qx
  have dq := del_one qx
  have dn : decide (q.next ≤ q.next) = true := decide_eq_true (Nat.le_refl _)
  refine go_loop hE0 ?_
  repeat with_reducible first | refine nx ?_ | (refine nw ?_; simp (disch := first | omega | decide) only [bG, q1, lq]; refine rg ?_)
  refine callPl_of (WNext_call w n _ tg q qw) ?_
  repeat with_reducible first | refine nx ?_ | (refine nw ?_; simp (disch := first | omega | decide) only [bG, q1, lq]; refine rg ?_)
  refine plan_nil (by simp (disch := first | omega | decide) only [endOk, chkAt, addNew, newOk, rangeOk, distinctN, Nat.reduceLT, Nat.reduceAdd, Nat.reduceLeDiff, bP, bG, q1, lq, dn, Bool.and_self]) ?_
  repeat with_reducible first | refine nx ?_ | (refine nw ?_; simp (disch := first | omega | decide) only [bG, q1, lq]; refine rg ?_)
  refine callPl_of (WNext_call w n _ tg q qw) ?_
  repeat with_reducible first | refine nx ?_ | (refine nw ?_; simp (disch := first | omega | decide) only [bG, q1, dq]; refine rg ?_)
  refine plan_nil (by simp (disch := first | omega | decide) only [endOk, chkAt, addNew, newOk, rangeOk, distinctN, Nat.reduceLT, Nat.reduceAdd, Nat.reduceLeDiff, bP, bG, q1, dq, dn, Bool.and_self]) ?_
  have qq : (q.set h.next (.map [])).get w = _ := (XH.get_set _ _ _ _).trans ((if_neg wx).trans qw)
  repeat with_reducible first | refine nx ?_ | (refine nw ?_; simp (disch := first | omega | decide) only [bG]; refine rg ?_)
  refine callGo_of (AddO_call w 0 n _ _ _ (by omega) qq rfl) ?_
  generalize hr : (q.set h.next (.map [])).set w (.cells ([.int .i64 (.ofNat n), .map h.next].set 0 (.int .i64 (.ofNat (n + 1)))) false tg) = r
  have nr : r.next = q.next := by rw [← hr]; rfl
  have rw' : r.get w = some (.cells [.int .i64 (.ofNat (n + 1)), .map h.next] false tg) := by rw [← hr, XH.get_set, if_pos rfl]; rfl
  have rx : r.get h.next = some (.map []) := by rw [← hr, XH.get_set, if_neg (fun e => wx e.symm), XH.get_set, if_pos rfl]
  have rl : ∀ y, y ≠ w → y ≠ h.next → r.get y = p.get y := fun y h1 h2 => by rw [← hr, XH.get_set, if_neg h1, XH.get_set, if_neg h2, ql y h2]
  clear hr qq
  have r1 := r_load1 (o := 1) rw' rfl
  have lr : ∀ z, rLookup false r z (.map h.next) (.int .i64 (.ofNat (n + 1))) false = some z := fun z => lk_none (map_get rx)
  have dr : decide (r.next ≤ r.next) = true := decide_eq_true (Nat.le_refl _)
  repeat with_reducible first | refine nx ?_ | (refine nw ?_; simp (disch := first | omega | decide) only [bG]; refine rg ?_)
  refine ret_loop.2 (go_loop hE0 ?_)
  repeat with_reducible first | refine nx ?_ | (refine nw ?_; simp (disch := first | omega | decide) only [bG, r1, lr]; refine rg ?_)
  refine callPl_of (WNext_call w (n + 1) _ tg r rw') ?_
  repeat with_reducible first | refine nx ?_ | (refine nw ?_; simp (disch := first | omega | decide) only [bG, r1, lr]; refine rg ?_)
  refine plan_nil (by simp (disch := first | omega | decide) only [endOk, chkAt, addNew, newOk, rangeOk, distinctN, Nat.reduceLT, Nat.reduceAdd, Nat.reduceLeDiff, bP, bG, r1, lr, dr, Bool.and_self]) ?_
  repeat with_reducible first | refine nx ?_ | (refine nw ?_; simp (disch := first | omega | decide) only [bG]; refine rg ?_)
  refine ret_nil.2 ⟨_, fin_tmp (.inr rfl), ?_, by omega, rw', rx, fun y h1 h2 => (rl y h2 (by omega)).trans (pl y h1 h2)⟩
  simp (disch := first | omega | decide) only [bG]
end Go.Proofs.XCode
end
section
namespace Go.Proofs.XCode
open Go.X Go.RowKit Go.Proofs
set_option maxRecDepth 100000
set_option linter.unusedSimpArgs false
set_option linter.unusedVariables false
theorem INext_call (o n : Nat) (a b c : XV) (tg : Option Nat) (h : XH) (hg : h.get o = some (.cells [a, b, .int .i64 (.ofNat n), c] false tg)) : CallEv E0 n_record_In_Next [.ptr o 0] h (fun r k => r = .int .i64 (.ofNat n) ∧ k = h) := by
  refine call_fn fn_record_In_Next ?_
  simp only [args0_cons, args0_nil]
  repeat with_reducible first | refine nx ?_ | (refine nw ?_; simp (disch := first | omega | decide) only [bG, eq_pn]; refine rg ?_)
  refine callGo_of (LoadO_call o 2 n _ _ _ _ hg rfl) ?_
  repeat with_reducible first | refine nx ?_ | (refine nw ?_; simp (disch := first | omega | decide) only [bG]; refine rg ?_)
  refine ret_nil.2 ⟨_, fin_tmp (.inr rfl), ?_, rfl⟩
  simp (disch := first | omega | decide) only [bG]
theorem fnOd : E3.fn n_record_In_opened = some (.fn x_record_In_opened) := le3.fn _ _ fn_record_In_opened
theorem Turns.ext {h k : XH} {t m : Nat} {key : List Nat} {E : Nat} {ps : List Nat} (hT : Turns h t m key E ps) (x : HExt h k) (ht : t < h.next) (hm : m < h.next) (hp : ∀ e, e < E → ps.getD e 0 < h.next) : Turns k t m key E ps :=
  hT.keep (x.get _ ht) (x.get _ hm) (fun e he => x.get _ (hp e he))
theorem opened_call (i t m n E : Nat) (v1 v2 v3 : XV) (tg : Option Nat) (key ps b s : List Nat) (hs : s = recL key n b) (hk : ∀ i, key.getD i 0 < 256) (hl : key.length = 32) (hb : ∀ i, b.getD i 0 < 256) (hbl : b.length ≤ 510) (h : XH) (hg : h.get i = some (.cells [.ptr t 0, v1, v2, v3] false tg)) (hT : Turns h t m key E ps) (hn : n < 400) (he : (n + 7) / 8 = E) (ht : t < h.next) (hm : m < h.next) (htm : t ≠ m) (hps : ∀ e, e < E → ps.getD e 0 < h.next) (hfr : FreshH h) :
    CallEv E3 n_record_In_opened [.ptr i 0, .int .i64 (.ofNat n), .str s] h (fun r k => r = .tup [.str b, .bool true] ∧ FrM m h k ∧ ∃ ps', Turns k t m key ((n + 8) / 8) ps' ∧ ∀ e, e < (n + 8) / 8 → ps'.getD e 0 < k.next ∧ ∀ x, x < h.next → (∀ e, e < E → ps.getD e 0 ≠ x) → ps'.getD e 0 ≠ x) := by
  have zb := sizeL_ge hbl
  have pl := padT_len hbl
  have l1 := putBig_len n 8
  have l2 : (nonceL n).length = 12 := by rw [nonceL, List.length_append, l1, List.length_replicate]
  have hna := app_lt (rep_lt' 4 0 (by decide)) (putBig_lt n 8)
  have ls : s.length = 24 + sizeL b.length := by rw [hs, recL_len key n hbl]
  have e1 : s.take 8 = putBig n 8 := by rw [hs, recL, List.take_append_of_le_length (by omega), List.take_of_length_le (by omega)]
  have e2 : s.drop 8 = sealL (atL key (n / 8)) (nonceL n) (padT b) (putBig n 8) := by rw [hs, recL, List.drop_append_of_le_length (by omega), List.drop_of_length_le (by omega), List.nil_append]
  have f0 := r_load1 (o := 0) hg rfl
  refine call_fn fnOd ?_
  simp only [args0_cons, args0_nil]
  repeat with_reducible first | refine nx ?_ | (refine nw ?_; simp (disch := first | omega | decide) only [bG, f0]; refine rg ?_)
  refine callPl_ex (((at_any t m n E key ps h hk hl hT hn he ht hm htm hps hfr).le le3).fresh intr3_fr hfr) ?_
  rintro _ k1 ⟨⟨rfl, x1, ps', T1, hp1⟩, fr1⟩
  have h1 := x1.le
  repeat with_reducible first | refine nx ?_ | (refine nw ?_; simp (disch := first | omega | decide) only [bG, f0]; refine rg ?_)
  refine callPl_ex (((Nonce_call n (by omega) k1).le le3).fresh intr3_fr fr1) ?_
  rintro _ k2 ⟨⟨rfl, x2⟩, fr2⟩
  have h2 := x2.le
  repeat with_reducible first | refine nx ?_ | (refine nw ?_; simp (disch := first | omega | decide) only [bG, ls, e1, e2]; refine rg ?_)
  refine callPl_ex (((Open_callB (atL key (n / 8)) (nonceL n) (padT b) (putBig n 8) _ rfl (atL_lt hk _) hna (padT_lt hb) (putBig_lt _ _) (atL_len hl _) l2 (by omega) (by omega) (by omega) k2 fr2).le le3).fresh intr3_fr fr2) ?_
  rintro _ k3 ⟨⟨rfl, x3⟩, fr3⟩
  have h3 := x3.le
  have d1 : decide (h.next ≤ k3.next) = true := decide_eq_true (by omega)
  have d2 : decide (k1.next ≤ k3.next) = true := decide_eq_true (by omega)
  have d3 : decide (h.next ≤ k2.next) = true := decide_eq_true (by omega)
  have d4 : decide (h.next ≤ k1.next) = true := decide_eq_true h1
  have d5 : decide (k2.next ≤ k3.next) = true := decide_eq_true h3
  repeat with_reducible first | refine nx ?_ | (refine nw ?_; simp (disch := first | omega | decide) only [bG]; refine rg ?_)
  refine plan_nil (by simp (disch := first | omega | decide) only [endOk, chkAt, addNew, newOk, rangeOk, distinctN, Nat.reduceLT, Nat.reduceAdd, Nat.reduceLeDiff, bP, bG, f0, d1, d2, d3, d4, d5, Bool.and_self]) ?_
  repeat with_reducible first | refine nx ?_ | (refine nw ?_; simp (disch := first | omega | decide) only [bG, u_not, Bool.not_true]; refine rg ?_)
  refine callGo_ex (Unpad_call b (padT b) rfl hb hbl k3 fr3) ?_
  rintro _ k4 ⟨rfl, x4⟩
  have h4 := x4.le
  repeat with_reducible first | refine nx ?_ | (refine nw ?_; simp (disch := first | omega | decide) only [bG]; refine rg ?_)
  have x24 := (x2.trans x3).trans x4
  refine ret_nil.2 ⟨_, fin_tmps (l := [6, 7]) (.inr rfl), ?_, ⟨by omega, fun x hx hxm => (x24.get x (by omega)).trans (x1.get x hx hxm)⟩, ps', T1.ext x24 (by omega) (by omega) (fun e he => (hp1 e he).1), fun e he => ⟨?_, (hp1 e he).2⟩⟩
  · simp only [List.map]
    simp (disch := first | omega | decide) only [bG]
    rfl
  · have := (hp1 e he).1
    omega
end Go.Proofs.XCode
end
section
namespace Go.Proofs.XCode
open Go.X Go.RowKit Go.Proofs
set_option maxRecDepth 100000
set_option linter.unusedSimpArgs false
set_option linter.unusedVariables false
theorem app_one {h : XH} {p et : Nat} {v : XV} {ro ex : Bool} {tg : Option Nat} (hg : h.get p = some (.cells [v] ro tg)) : eAppend h 1 16 et .nils (.slice p 0 1 1 1 ex) = some (.slice h.next 0 1 1 1 false, h.new (.cells [v] false (rowTag et))) := by
  have e1 : cellsOf h 1 1 (.slice p 0 1 1 1 ex) = some [v] := by
    show cellsB h p 0 (Nat.mul 1 1) = _
    rw [cells_b hg (by simp [n_mul])]
    rfl
  simp only [eAppend, lenOf, e1, appN]
  rfl
structure Rcv (h : XH) (i t m w l : Nat) (xs key : List Nat) (n E : Nat) (ps : List Nat) : Prop where
  inn : ∃ tg, h.get i = some (.cells [.ptr t 0, .ptr w 0, .int .i64 (.ofNat n), .map l] false tg)
  win : ∃ tg A, h.get w = some (.cells [.int .i64 (.ofNat n), A] false tg) ∧ ((A = .nilm ∧ xs = []) ∨ ∃ x, A = .map x ∧ xs = [x] ∧ h.get x = some (.map []))
  lmp : h.get l = some (.map [])
  turns : Turns h t m key E ps
  li : i < h.next
  lt : t < h.next
  lm : m < h.next
  lw : w < h.next
  ll : l < h.next
  lx : ∀ x, x ∈ xs → x < h.next
  lp : ∀ e, e < E → ps.getD e 0 < h.next
  it : i ≠ t
  im : i ≠ m
  iw : i ≠ w
  il : i ≠ l
  tm : t ≠ m
  tw : t ≠ w
  tl : t ≠ l
  mw : m ≠ w
  ml : m ≠ l
  wl : w ≠ l
  dx : ∀ x, x ∈ xs → x ≠ i ∧ x ≠ t ∧ x ≠ m ∧ x ≠ w ∧ x ≠ l ∧ ∀ e, e < E → ps.getD e 0 ≠ x
  dp : ∀ e, e < E → ps.getD e 0 ≠ i ∧ ps.getD e 0 ≠ w ∧ ps.getD e 0 ≠ l
  ep : (n + 7) / 8 = E
  fr : FreshH h
theorem fnI : E3.fn n_record_In_Open = some (.fn x_record_In_Open) := le3.fn _ _ fn_record_In_Open
theorem Take_any (w n : Nat) (xs : List Nat) (h : XH) (tg : Option Nat) (A : XV) (hg : h.get w = some (.cells [.int .i64 (.ofNat n), A] false tg)) (hA : (A = .nilm ∧ xs = []) ∨ ∃ x, A = .map x ∧ xs = [x] ∧ h.get x = some (.map [])) (hx : ∀ x, x ∈ xs → x < h.next ∧ x ≠ w) (lw : w < h.next) (hn : n < 400) :
    CallEv E0 n_window_Window_Take [.ptr w 0, .int .i64 (.ofNat n)] h (fun r k => r = .bool true ∧ h.next ≤ k.next ∧ ∃ x, k.get w = some (.cells [.int .i64 (.ofNat (n + 1)), .map x] false tg) ∧ k.get x = some (.map []) ∧ x < k.next ∧ (x ∈ xs ∨ h.next ≤ x) ∧ ∀ y, y < h.next → y ≠ w → (¬ y ∈ xs) → k.get y = h.get y) := by
  rcases hA with ⟨rfl, rfl⟩ | ⟨x, rfl, rfl, gx⟩
  · refine (Take_nil w n tg h hg lw hn).mono ?_
    rintro r k ⟨rfl, h1, h2, h3, h4⟩
    exact ⟨rfl, by omega, h.next, h2, h3, by omega, .inr (Nat.le_refl _), fun y h5 h6 _ => h4 y h5 h6⟩
  · obtain ⟨lx, wx⟩ := hx x (List.mem_singleton.2 rfl)
    refine (Take_map w x n tg h hg gx (fun e => wx e.symm) lw lx hn).mono ?_
    rintro r k ⟨rfl, h1, h2, h3, h4⟩
    exact ⟨rfl, by omega, x, h2, h3, by omega, .inl (List.mem_singleton.2 rfl), fun y h5 h6 h7 => h4 y h6 (fun e => h7 (List.mem_singleton.2 e))⟩
end Go.Proofs.XCode
end
section
namespace Go.Proofs.XCode
open Go.X Go.RowKit Go.Proofs
set_option maxRecDepth 100000
set_option linter.unusedSimpArgs false
set_option linter.unusedVariables false
set_option maxHeartbeats 2000000 in
theorem OpenI_call (i t m w l n E : Nat) (xs key ps b s : List Nat) (hs : s = recL key n b) (hk : ∀ i, key.getD i 0 < 256) (hl : key.length = 32) (hb : ∀ i, b.getD i 0 < 256) (hbl : b.length ≤ 510) (hn : n < 400) (h : XH) (R : Rcv h i t m w l xs key n E ps) :
    CallEv E3 n_record_In_Open [.ptr i 0, .str s] h (fun r k => ∃ p, r = .tup [.slice p 0 1 1 1 false, .int .i64 (.ofNat 0)] ∧ (∃ tg, k.get p = some (.cells [.str b] false tg)) ∧ h.next ≤ p ∧ p < k.next ∧ h.next ≤ k.next ∧ ∃ xs' E' ps', Rcv k i t m w l xs' key (n + 1) E' ps' ∧ (∀ x, x ∈ xs' → x ∈ xs ∨ h.next ≤ x) ∧ (∀ e, e < E' → ∀ x, x < h.next → (∀ e, e < E → ps.getD e 0 ≠ x) → ps'.getD e 0 ≠ x) ∧ ∀ y, y < h.next → y ≠ i → y ≠ m → y ≠ w → y ≠ l → (¬ y ∈ xs) → k.get y = h.get y) := by
  obtain ⟨⟨tgi, gi⟩, ⟨tgw, A, gw, hA⟩, gl, T, li, lt, lm, lw, ll, lx, lp, it, im, iw, il, tm, tw, tl, mw, ml, wl, dx, dp, ep, fr⟩ := R
  have zb := sizeL_ge hbl
  have l1 := putBig_len n 8
  have ls : s.length = 24 + sizeL b.length := by rw [hs, recL_len key n hbl]
  have e1 : s.take 8 = putBig n 8 := by rw [hs, recL, List.take_append_of_le_length (by omega), List.take_of_length_le (by omega)]
  have d24 : decide (24 + sizeL b.length < 24) = false := decide_eq_false (by omega)
  have d400 : decide (400 ≤ n) = false := decide_eq_false (by omega)
  have f0 := r_load1 (o := 0) gi rfl
  refine call_fn fnI ?_
  simp only [args0_cons, args0_nil]
  repeat with_reducible first | refine nx ?_ | (refine nw ?_; simp (disch := first | omega | decide) only [bG, eq_pn, f0, ls, d24, e1]; refine rg ?_)
  refine callGo_ex (((big (putBig n 8) (putBig_lt _ _) (by omega) h).le le3).fresh intr3_fr fr) ?_
  rintro _ k1 ⟨⟨rfl, x1⟩, fr1⟩
  rw [big_put8 _ (by omega)]
  repeat with_reducible first | refine nx ?_ | (refine nw ?_; simp (disch := first | omega | decide) only [bG, d400, ls, e1]; refine rg ?_)
  refine callGo_ex (((big (putBig n 8) (putBig_lt _ _) (by omega) k1).le le3).fresh intr3_fr fr1) ?_
  rintro _ k2 ⟨⟨rfl, x2⟩, fr2⟩
  rw [big_put8 _ (by omega)]
  have x12 := x1.trans x2
  have h2 := x12.le
  have gi2 := (x12.get i li).trans gi
  have gw2 := (x12.get w lw).trans gw
  have f2 := r_load1 (o := 1) gi2 rfl
  have hA2 : mapOf k2 A = some [] := by
    rcases hA with ⟨rfl, _⟩ | ⟨x, rfl, rfl, gx⟩
    · rfl
    · exact map_get ((x12.get x (lx x (List.mem_singleton.2 rfl))).trans gx)
  repeat with_reducible first | refine nx ?_ | (refine nw ?_; simp (disch := first | omega | decide) only [bG, f2]; refine rg ?_)
  refine callGo_of ((May_call w n A tgw k2 gw2 hA2 hn).le le3) ?_
  repeat with_reducible first | refine nx ?_ | (refine nw ?_; simp (disch := first | omega | decide) only [bG, u_not, Bool.not_true]; refine rg ?_)
  refine callGo_ex ((opened_call i t m n E _ _ _ tgi key ps b s hs hk hl hb hbl k2 gi2 (T.ext x12 lt lm lp) hn ep (by omega) (by omega) tm (fun e he => by have := lp e he; omega) fr2).fresh intr3_fr fr2) ?_
  rintro _ k3 ⟨⟨rfl, x3, ps', T3, hp3⟩, fr3⟩
  have h3 := x3.le
  have q3 : ∀ y, y < h.next → y ≠ m → k3.get y = h.get y := fun y hy hm => (x3.get y (by omega) hm).trans (x12.get y hy)
  have gi3 := (q3 i li im).trans gi
  have gw3 := (q3 w lw (fun e => mw e.symm)).trans gw
  have f3 := r_load1 (o := 1) gi3 rfl
  have hA3 : (A = .nilm ∧ xs = []) ∨ ∃ x, A = .map x ∧ xs = [x] ∧ k3.get x = some (.map []) := by
    rcases hA with hA | ⟨x, rfl, rfl, gx⟩
    · exact .inl hA
    · have hx := List.mem_singleton.2 (rfl : x = x)
      exact .inr ⟨x, rfl, rfl, (q3 x (lx x hx) (dx x hx).2.2.1).trans gx⟩
  repeat with_reducible first | refine nx ?_ | (refine nw ?_; simp (disch := first | omega | decide) only [bG, u_not, Bool.not_true, f3]; refine rg ?_)
  refine callGo_ex (((Take_any w n xs k3 tgw A gw3 hA3 (fun x hx => ⟨by have := lx x hx; omega, (dx x hx).2.2.2.1⟩) (by omega) hn).le le3).fresh intr3_fr fr3) ?_
  rintro _ k4 ⟨⟨rfl, h4, x, gw4, gx4, lx4, hx4, q4⟩, fr4⟩
  have r4 : ∀ y, y < h.next → y ≠ m → y ≠ w → (¬ y ∈ xs) → k4.get y = h.get y := fun y a1 a2 a3 a4 => (q4 y (by omega) a3 a4).trans (q3 y a1 a2)
  have xi : x ≠ i ∧ x ≠ t ∧ x ≠ m ∧ x ≠ w ∧ x ≠ l := by
    rcases hx4 with hx | hx
    · have := dx x hx
      exact ⟨this.1, this.2.1, this.2.2.1, this.2.2.2.1, this.2.2.2.2.1⟩
    · exact ⟨by omega, by omega, by omega, by omega, by omega⟩
  have gi4 := (r4 i li im iw (fun hx => (dx i hx).1 rfl)).trans gi
  have gl4 := (r4 l ll (fun e => ml e.symm) (fun e => wl e.symm) (fun hx => (dx l hx).2.2.2.2.1 rfl)).trans gl
  have f4 := r_load1 (o := 3) gi4 rfl
  have ms := map_set (k := n) (v := .str b) gl4 rfl
  repeat with_reducible first | refine nx ?_ | (refine nw ?_; simp (disch := first | omega | decide) only [bG, f4, ms]; refine rg ?_)
  generalize hq : k4.set l (.map ([] ++ [(kI n, .str b)])) = q
  have nq : q.next = k4.next := by rw [← hq]; rfl
  have ql : q.get l = some (.map [(kI n, .str b)]) := by rw [← hq, XH.get_set, if_pos rfl]; rfl
  have qo : ∀ y, y ≠ l → q.get y = k4.get y := fun y hy => by rw [← hq, XH.get_set, if_neg hy]
  have fq : FreshH q := by rw [← hq]; exact fr4.set gl4 _
  clear hq ms
  have qi : q.get i = _ := (qo i il).trans gi4
  have q1 := r_load1 (o := 3) qi rfl
  have lq : ∀ z, rLookup false q z (.map l) (.int .i64 (.ofNat n)) true = some (.tup [.str b, .bool true]) := fun z => lk_one ql
  have dq := del_one ql
  have dn : decide (q.next ≤ q.next) = true := decide_eq_true (Nat.le_refl _)
  refine go_loop hE3 ?_
  repeat with_reducible first | refine nx ?_ | (refine nw ?_; simp (disch := first | omega | decide) only [bG, q1, lq]; refine rg ?_)
  refine callPl_of ((INext_call i n _ _ _ tgi q qi).le le3) ?_
  repeat with_reducible first | refine nx ?_ | (refine nw ?_; simp (disch := first | omega | decide) only [bG, q1, lq]; refine rg ?_)
  refine plan_nil (by simp (disch := first | omega | decide) only [endOk, chkAt, addNew, newOk, rangeOk, distinctN, Nat.reduceLT, Nat.reduceAdd, Nat.reduceLeDiff, bP, bG, q1, lq, dn, Bool.and_self]) ?_
  repeat with_reducible first | refine nx ?_ | (refine nw ?_; simp (disch := first | omega | decide) only [bG, q1, lq, u_not, Bool.not_true]; refine rg ?_)
  refine callPl_of ((INext_call i n _ _ _ tgi q qi).le le3) ?_
  repeat with_reducible first | refine nx ?_ | (refine nw ?_; simp (disch := first | omega | decide) only [bG, q1, dq]; refine rg ?_)
  refine plan_nil (by simp (disch := first | omega | decide) only [endOk, chkAt, addNew, newOk, rangeOk, distinctN, Nat.reduceLT, Nat.reduceAdd, Nat.reduceLeDiff, bP, bG, q1, dq, dn, Bool.and_self]) ?_
  have qq : (q.set l (.map [])).get i = _ := (XH.get_set _ _ _ _).trans ((if_neg il).trans qi)
  repeat with_reducible first | refine nx ?_ | (refine nw ?_; simp (disch := first | omega | decide) only [bG]; refine rg ?_)
  refine callGo_of ((AddO_call i 2 n _ _ _ (by omega) qq rfl).le le3) ?_
  generalize hr : (q.set l (.map [])).set i (.cells ([.ptr t 0, .ptr w 0, .int .i64 (.ofNat n), .map l].set 2 (.int .i64 (.ofNat (n + 1)))) false tgi) = r
  have nr : r.next = q.next := by rw [← hr]; rfl
  have ri : r.get i = some (.cells [.ptr t 0, .ptr w 0, .int .i64 (.ofNat (n + 1)), .map l] false tgi) := by rw [← hr, XH.get_set, if_pos rfl]; rfl
  have rl : r.get l = some (.map []) := by rw [← hr, XH.get_set, if_neg (fun e => il e.symm), XH.get_set, if_pos rfl]
  have ro : ∀ y, y ≠ i → y ≠ l → r.get y = k4.get y := fun y h1 h2 => by rw [← hr, XH.get_set, if_neg h1, XH.get_set, if_neg h2, qo y h2]
  have frr : FreshH r := by rw [← hr]; exact (fq.set ql _).set qq _
  clear hr qq
  have ab : aBuild 1 1 (fillx [(0, 1, .str b)] [.str []]) = some (.cells [.str b] false none, .slice 1 1 1 true) := rfl
  have ap : ∀ et, eAppend (r.new (.cells [.str b] false none)) 1 16 et .nils (.slice r.next 0 1 1 1 true) = some (.slice (r.next + 1) 0 1 1 1 false, (r.new (.cells [.str b] false none)).new (.cells [.str b] false (rowTag et))) := fun et => app_one (get_new_same _ _)
  repeat with_reducible first | refine nx ?_ | (refine nw ?_; simp (disch := first | omega | decide) only [bG, ab, ap]; refine rg ?_)
  generalize hu : (r.new (.cells [.str b] false none)).new (.cells [.str b] false (rowTag 9)) = u
  have nu : u.next = r.next + 2 := by rw [← hu]; rfl
  have up : u.get (r.next + 1) = some (.cells [.str b] false (rowTag 9)) := by rw [← hu]; exact get_new_same _ _
  have uo : ∀ y, y < r.next → u.get y = r.get y := fun y hy => by rw [← hu, XH.get_new, XH.next_new, if_neg (by omega), XH.get_new, if_neg (by omega)]
  have fu : FreshH u := by rw [← hu]; exact (frr.new _).new _
  clear hu ap
  have ui := (uo i (by omega)).trans ri
  have ul := (uo l (by omega)).trans rl
  have u1 := r_load1 (o := 3) ui rfl
  have lu : ∀ z, rLookup false u z (.map l) (.int .i64 (.ofNat (n + 1))) true = some (.tup [z, .bool false]) := fun z => lk_none (map_get ul)
  have du : decide (u.next ≤ u.next) = true := decide_eq_true (Nat.le_refl _)
  repeat with_reducible first | refine nx ?_ | (refine nw ?_; simp (disch := first | omega | decide) only [bG]; refine rg ?_)
  refine ret_loop.2 (go_loop hE3 ?_)
  repeat with_reducible first | refine nx ?_ | (refine nw ?_; simp (disch := first | omega | decide) only [bG, u1, lu]; refine rg ?_)
  refine callPl_of ((INext_call i (n + 1) _ _ _ tgi u ui).le le3) ?_
  repeat with_reducible first | refine nx ?_ | (refine nw ?_; simp (disch := first | omega | decide) only [bG, u1, lu]; refine rg ?_)
  refine plan_nil (by simp (disch := first | omega | decide) only [endOk, chkAt, addNew, newOk, rangeOk, distinctN, Nat.reduceLT, Nat.reduceAdd, Nat.reduceLeDiff, bP, bG, u1, lu, du, Bool.and_self]) ?_
  repeat with_reducible first | refine nx ?_ | (refine nw ?_; simp (disch := first | omega | decide) only [bG, u_not, Bool.not_false]; refine rg ?_)
  have uy : ∀ y, y < k4.next → y ≠ i → y ≠ l → u.get y = k4.get y := fun y a1 a2 a3 => (uo y (by omega)).trans (ro y a2 a3)
  have u3 : ∀ y, y < k3.next → y ≠ i → y ≠ l → y ≠ w → (¬ y ∈ xs) → u.get y = k3.get y := fun y a1 a2 a3 a4 a5 => (uy y (by omega) a2 a3).trans (q4 y a1 a4 a5)
  have pk : ∀ e, e < (n + 8) / 8 → ps'.getD e 0 ≠ i ∧ ps'.getD e 0 ≠ w ∧ ps'.getD e 0 ≠ l ∧ ∀ z, z ∈ xs → ps'.getD e 0 ≠ z := fun e he => ⟨(hp3 e he).2 i (by omega) (fun e he => (dp e he).1), (hp3 e he).2 w (by omega) (fun e he => (dp e he).2.1), (hp3 e he).2 l (by omega) (fun e he => (dp e he).2.2), fun z hz => (hp3 e he).2 z (by have := lx z hz; omega) (fun e he => (dx z hz).2.2.2.2.2 e he)⟩
  refine ret_nil.2 ⟨_, fin_tmps (l := [4, 5]) (.inr rfl), r.next + 1, ?_, ⟨_, up⟩, by omega, by omega, by omega, [x], (n + 8) / 8, ps', ⟨⟨tgi, ui⟩, ⟨tgw, _, (uy w (by omega) (fun e => iw e.symm) wl).trans gw4, .inr ⟨x, rfl, rfl, (uy x lx4 xi.1 xi.2.2.2.2).trans gx4⟩⟩, ul, T3.keep ?_ ?_ ?_, by omega, by omega, by omega, by omega, by omega, ?_, ?_, it, im, iw, il, tm, tw, tl, mw, ml, wl, ?_, ?_, rfl, fu⟩, ?_, ?_, ?_⟩
  · simp only [List.map]
    simp (disch := first | omega | decide) only [bG]
    rfl
  · exact u3 t (by omega) (fun e => it e.symm) tl tw (fun hx => (dx t hx).2.1 rfl)
  · exact u3 m (by omega) (fun e => im e.symm) ml mw (fun hx => (dx m hx).2.2.1 rfl)
  · intro e he
    obtain ⟨a1, a2, a3, a4⟩ := pk e he
    exact u3 _ (hp3 e he).1 a1 a3 a2 (fun hx => a4 _ hx rfl)
  · intro y hy
    obtain rfl := List.mem_singleton.1 hy
    omega
  · intro e he
    have := (hp3 e he).1
    omega
  · intro y hy
    obtain rfl := List.mem_singleton.1 hy
    refine ⟨xi.1, xi.2.1, xi.2.2.1, xi.2.2.2.1, xi.2.2.2.2, fun e he => ?_⟩
    rcases hx4 with hx | hx
    · exact (pk e he).2.2.2 _ hx
    · have := (hp3 e he).1
      omega
  · exact fun e he => ⟨(pk e he).1, (pk e he).2.1, (pk e he).2.2.1⟩
  · intro y hy
    obtain rfl := List.mem_singleton.1 hy
    rcases hx4 with hx | hx
    · exact .inl hx
    · exact .inr (by omega)
  · exact fun e he y hy hh => (hp3 e he).2 y (by omega) hh
  · exact fun y a1 a2 a3 a4 a5 a6 => (uy y (by omega) a2 a5).trans (r4 y a1 a3 a4 a6)
end Go.Proofs.XCode
end
section
namespace Go.Proofs.XCode
open Go.X Go.RowKit Go.Proofs
set_option maxRecDepth 100000
set_option linter.unusedSimpArgs false
set_option linter.unusedVariables false
theorem NewIn_call (key : List Nat) (hl : key.length = 32) (h : XH) (hfr : FreshH h) : CallEv E0 n_record_NewIn [.str key] h (fun r k => ∃ i t m w l, r = .ptr i 0 ∧ h.next ≤ i ∧ h.next ≤ t ∧ h.next ≤ m ∧ h.next ≤ w ∧ h.next ≤ l ∧ Rcv k i t m w l [] key 0 0 [] ∧ HExt h k) := by
  have nl : decide (¬ key.length = 32) = false := decide_eq_false (fun h => h hl)
  have b1 : pBuild [.str [], .nilm] [(0, 1, .str key), (1, 1, .map h.next)] = some (.agg [.str key, .map h.next]) := rfl
  have b2 : pBuild [.int .i64 (.ofNat 0), .nilm] [] = some (.agg [.int .i64 (.ofNat 0), .nilm]) := rfl
  have b3 : pBuild [.nilp, .nilp, .int .i64 (.ofNat 0), .nilm] [(0, 1, .ptr (h.next + 1) 0), (1, 1, .ptr (h.next + 2) 0), (3, 1, .map (h.next + 3))] = some (.agg [.ptr (h.next + 1) 0, .ptr (h.next + 2) 0, .int .i64 (.ofNat 0), .map (h.next + 3)]) := rfl
  refine call_fn fn_record_NewIn ?_
  simp only [args0_cons, args0_nil]
  repeat with_reducible first | refine nx ?_ | (refine nw ?_; simp (disch := first | omega | decide) only [bG, nl, nv_map, b1, b2, b3, XV.cells]; refine rg ?_)
  generalize hk : ((((h.new (.map [])).new (.cells [.str key, .map h.next] false none)).new (.cells [.int .i64 (.ofNat 0), .nilm] false none)).new (.map [])).new (.cells [.ptr (h.next + 1) 0, .ptr (h.next + 2) 0, .int .i64 (.ofNat 0), .map (h.next + 3)] false none) = k
  have nk : k.next = h.next + 5 := by rw [← hk]; rfl
  have k4 : k.get (h.next + 4) = some (.cells [.ptr (h.next + 1) 0, .ptr (h.next + 2) 0, .int .i64 (.ofNat 0), .map (h.next + 3)] false none) := by rw [← hk]; exact get_new_same _ _
  have k3 : k.get (h.next + 3) = some (.map []) := by rw [← hk, XH.get_new, if_neg (by simp only [XH.next_new]; omega)]; exact get_new_same _ _
  have k2 : k.get (h.next + 2) = some (.cells [.int .i64 (.ofNat 0), .nilm] false none) := by rw [← hk, XH.get_new, if_neg (by simp only [XH.next_new]; omega), XH.get_new, if_neg (by simp only [XH.next_new]; omega)]; exact get_new_same _ _
  have k1 : k.get (h.next + 1) = some (.cells [.str key, .map h.next] false none) := by rw [← hk, XH.get_new, if_neg (by simp only [XH.next_new]; omega), XH.get_new, if_neg (by simp only [XH.next_new]; omega), XH.get_new, if_neg (by simp only [XH.next_new]; omega)]; exact get_new_same _ _
  have k0 : k.get h.next = some (.map []) := by rw [← hk, XH.get_new, if_neg (by simp only [XH.next_new]; omega), XH.get_new, if_neg (by simp only [XH.next_new]; omega), XH.get_new, if_neg (by simp only [XH.next_new]; omega), XH.get_new, if_neg (by simp only [XH.next_new]; omega)]; exact get_new_same _ _
  have x : HExt h k := by rw [← hk]; exact ((((((HExt.refl h).new _).new _).new _).new _).new _)
  have fk : FreshH k := by rw [← hk]; exact ((((hfr.new _).new _).new _).new _).new _
  refine ret_nil.2 ⟨_, fin_tmp (.inr rfl), h.next + 4, h.next + 1, h.next, h.next + 2, h.next + 3, ?_, by omega, by omega, by omega, by omega, by omega, ?_, x⟩
  · simp (disch := first | omega | decide) only [bG]
  · exact ⟨⟨_, k4⟩, ⟨_, _, k2, .inl ⟨rfl, rfl⟩⟩, k3, ⟨⟨_, k1⟩, k0, rfl, fun e he => by omega⟩, by omega, by omega, by omega, by omega, by omega, (fun y hy => by cases hy), fun e he => by omega, by omega, by omega, by omega, by omega, by omega, by omega, by omega, by omega, by omega, by omega, (fun y hy => by cases hy), fun e he => by omega, rfl, fk⟩
end Go.Proofs.XCode
end
section
namespace Go.Proofs.XCode
open Go.X Go.RowKit Go.Proofs
set_option maxRecDepth 100000
set_option linter.unusedSimpArgs false
set_option linter.unusedVariables false
def fillL (s : List Nat) : List Nat := (s ++ List.replicate (32 - s.length) 0).take 32
theorem fillL_len (s : List Nat) : (fillL s).length = 32 := by
  rw [fillL, List.length_take, List.length_append, List.length_replicate]; omega
theorem fillL_lt {s : List Nat} (h : ∀ i, s.getD i 0 < 256) : ∀ i, (fillL s).getD i 0 < 256 := take_lt (by decide) (app_lt h (rep_lt' _ 0 (by decide))) _
theorem fill_step {s : List Nat} (h : s.length < 32) : fillL (s ++ [0]) = fillL s := by
  have e : 32 - s.length = (32 - (s ++ [0]).length) + 1 := by rw [List.length_append, List.length_singleton]; omega
  rw [fillL, fillL, e, List.replicate_succ, List.append_assoc]
  rfl
theorem Fill_call (key : List Nat) (h : XH) : CallEv E0 n_escutcheonlaw5_Fill [.str key, .int .i64 (.ofNat 32)] h (fun r k => r = .str (fillL key) ∧ k = h) := by
  have l0 : ([0] : List Nat).length = 1 := rfl
  refine call_fn fn_escutcheonlaw5_Fill ?_
  simp only [args0_cons, args0_nil]
  repeat with_reducible first | refine nx ?_ | (refine nv ?_; simp (disch := first | omega | decide) only [bG]; refine rg ?_)
  refine go_loop_ind hE0 (fun m fr k => ∃ s, m = 32 - s.length ∧ fillL s = fillL key ∧ k = h ∧ ev fr (.t (ixOf 0)) = .str s ∧ ev fr (.t (ixOf 1)) = .int .i64 (.ofNat 32)) ?_ (n := 32 - key.length) ?_
  · rintro m fr k IH ⟨s, rfl, hs, rfl, f0, f1⟩
    repeat with_reducible first | refine nx ?_ | (refine nv ?_; simp (disch := first | omega | decide) only [bG, f0, f1]; refine rg ?_)
    refine go_cond ?_
    simp (disch := first | omega | decide) only [bG]
    refine condGo_split (fun hc => ?_) (fun hc => ?_)
    · have hc := of_decide_eq_true hc
      repeat with_reducible first | refine nx ?_ | (refine nv ?_; simp (disch := first | omega | decide) only [bG, f0, f1, l0]; refine rg ?_)
      refine ret_loop.2 (IH (32 - (s ++ [0]).length) _ _ (by rw [List.length_append, l0]; omega) ⟨_, rfl, (fill_step hc).trans hs, rfl, ?_, ?_⟩) <;> simp (disch := first | omega | decide) only [bG, f0, f1]
    · have hc := of_decide_eq_false hc
      repeat with_reducible first | refine nx ?_ | (refine nv ?_; simp (disch := first | omega | decide) only [bG, f0, f1]; refine rg ?_)
      refine ret_nil.2 ⟨_, fin_tmp (.inr rfl), ?_, rfl⟩
      simp (disch := first | omega | decide) only [bG, f0]
      rw [← hs, fillL, show 32 - s.length = 0 by omega, List.replicate_zero, List.append_nil]
  · refine ⟨key, rfl, rfl, rfl, ?_, ?_⟩ <;> simp (disch := first | omega | decide) only [bG]
end Go.Proofs.XCode
end
section
namespace Go.Proofs.XCode
open Go.X Go.RowKit Go.Proofs
set_option maxRecDepth 100000
set_option linter.unusedSimpArgs false
set_option linter.unusedVariables false
def Snd (h : XH) (o : Nat) (F : Nat → Prop) (key : List Nat) (n : Nat) : Prop :=
  ∃ t m E ps, Sender h o t m key n E ps ∧ ∀ x, F x ↔ (x = o ∨ x = t ∨ x = m ∨ ∃ e, e < E ∧ ps.getD e 0 = x)
def Rcr (h : XH) (i : Nat) (F : Nat → Prop) (key : List Nat) (n : Nat) : Prop :=
  ∃ t m w l xs E ps, Rcv h i t m w l xs key n E ps ∧ ∀ x, F x ↔ (x = i ∨ x = t ∨ x = m ∨ x = w ∨ x = l ∨ x ∈ xs ∨ ∃ e, e < E ∧ ps.getD e 0 = x)
theorem Snd.lt {h : XH} {o n : Nat} {F : Nat → Prop} {key : List Nat} (S : Snd h o F key n) : ∀ x, F x → x < h.next := by
  obtain ⟨t, m, E, ps, S, hF⟩ := S
  intro x hx
  rcases (hF x).1 hx with rfl | rfl | rfl | ⟨e, he, rfl⟩
  · exact S.lo
  · exact S.lt
  · exact S.lm
  · exact S.lps e he
theorem Rcr.lt {h : XH} {i n : Nat} {F : Nat → Prop} {key : List Nat} (S : Rcr h i F key n) : ∀ x, F x → x < h.next := by
  obtain ⟨t, m, w, l, xs, E, ps, S, hF⟩ := S
  intro x hx
  rcases (hF x).1 hx with rfl | rfl | rfl | rfl | rfl | hx | ⟨e, he, rfl⟩
  · exact S.li
  · exact S.lt
  · exact S.lm
  · exact S.lw
  · exact S.ll
  · exact S.lx _ hx
  · exact S.lp e he
theorem Snd.fresh {h : XH} {o n : Nat} {F : Nat → Prop} {key : List Nat} (S : Snd h o F key n) : FreshH h := by
  obtain ⟨t, m, E, ps, S, hF⟩ := S
  exact S.fr
theorem Rcr.fresh {h : XH} {i n : Nat} {F : Nat → Prop} {key : List Nat} (S : Rcr h i F key n) : FreshH h := by
  obtain ⟨t, m, w, l, xs, E, ps, S, hF⟩ := S
  exact S.fr
theorem Snd.keep {h k : XH} {o n : Nat} {F : Nat → Prop} {key : List Nat} (S : Snd h o F key n) (hk : ∀ x, F x → k.get x = h.get x) (hn : h.next ≤ k.next) (hf : FreshH k) : Snd k o F key n := by
  obtain ⟨t, m, E, ps, S, hF⟩ := S
  have ko := hk o ((hF o).2 (.inl rfl))
  have kt := hk t ((hF t).2 (.inr (.inl rfl)))
  have km := hk m ((hF m).2 (.inr (.inr (.inl rfl))))
  have kp : ∀ e, e < E → k.get (ps.getD e 0) = h.get (ps.getD e 0) := fun e he => hk _ ((hF _).2 (.inr (.inr (.inr ⟨e, he, rfl⟩))))
  obtain ⟨⟨tg, g⟩, T, lo, lt, lm, ot, om, tm, lps, ops, ep, fr⟩ := S
  exact ⟨t, m, E, ps, ⟨⟨tg, ko.trans g⟩, T.keep kt km kp, by omega, by omega, by omega, ot, om, tm, fun e he => by have := lps e he; omega, ops, ep, hf⟩, hF⟩
theorem Rcr.keep {h k : XH} {i n : Nat} {F : Nat → Prop} {key : List Nat} (S : Rcr h i F key n) (hk : ∀ x, F x → k.get x = h.get x) (hn : h.next ≤ k.next) (hf : FreshH k) : Rcr k i F key n := by
  obtain ⟨t, m, w, l, xs, E, ps, S, hF⟩ := S
  have ki := hk i ((hF i).2 (.inl rfl))
  have kt := hk t ((hF t).2 (.inr (.inl rfl)))
  have km := hk m ((hF m).2 (.inr (.inr (.inl rfl))))
  have kw := hk w ((hF w).2 (.inr (.inr (.inr (.inl rfl)))))
  have kl := hk l ((hF l).2 (.inr (.inr (.inr (.inr (.inl rfl))))))
  have kx : ∀ x, x ∈ xs → k.get x = h.get x := fun x hx => hk x ((hF x).2 (.inr (.inr (.inr (.inr (.inr (.inl hx)))))))
  have kp : ∀ e, e < E → k.get (ps.getD e 0) = h.get (ps.getD e 0) := fun e he => hk _ ((hF _).2 (.inr (.inr (.inr (.inr (.inr (.inr ⟨e, he, rfl⟩)))))))
  obtain ⟨⟨tg, g⟩, ⟨tgw, A, gw, hA⟩, gl, T, li, lt, lm, lw, ll, lx, lp, it, im, iw, il, tm, tw, tl, mw, ml, wl, dx, dp, ep, fr⟩ := S
  refine ⟨t, m, w, l, xs, E, ps, ⟨⟨tg, ki.trans g⟩, ⟨tgw, A, kw.trans gw, ?_⟩, kl.trans gl, T.keep kt km kp, by omega, by omega, by omega, by omega, by omega, fun x hx => by have := lx x hx; omega, fun e he => by have := lp e he; omega, it, im, iw, il, tm, tw, tl, mw, ml, wl, dx, dp, ep, hf⟩, hF⟩
  rcases hA with hA | ⟨x, rfl, rfl, gx⟩
  · exact .inl hA
  · exact .inr ⟨x, rfl, rfl, (kx x (List.mem_singleton.2 rfl)).trans gx⟩
theorem seal_ev (o n : Nat) (key b : List Nat) (F : Nat → Prop) (hk : ∀ i, key.getD i 0 < 256) (hl : key.length = 32) (hb : ∀ i, b.getD i 0 < 256) (hbl : b.length ≤ 510) (hn : n < 400) (h : XH) (S : Snd h o F key n) :
    CallEv E3 n_record_Out_Seal [.ptr o 0, .str b] h (fun r k => r = .tup [.str (recL key n b), .int .i64 (.ofNat 0)] ∧ h.next ≤ k.next ∧ (∀ x, x < h.next → ¬ F x → k.get x = h.get x) ∧ ∃ F', Snd k o F' key (n + 1) ∧ ∀ x, F' x → F x ∨ h.next ≤ x) := by
  obtain ⟨t, m, E, ps, S, hF⟩ := S
  refine (SealO_call o t m n E key ps b hk hl hb hbl hn h S).mono ?_
  rintro r k ⟨rfl, fs, E', ps', S', hp⟩
  refine ⟨rfl, fs.le, fun x hx hnF => fs.get x hx (fun e => hnF ((hF x).2 (.inl e))) (fun e => hnF ((hF x).2 (.inr (.inr (.inl e))))), fun x => x = o ∨ x = t ∨ x = m ∨ ∃ e, e < E' ∧ ps'.getD e 0 = x, ⟨t, m, E', ps', S', fun x => Iff.rfl⟩, ?_⟩
  rintro x (hx | hx | hx | ⟨e, he, hx⟩)
  · exact .inl ((hF x).2 (.inl hx))
  · exact .inl ((hF x).2 (.inr (.inl hx)))
  · exact .inl ((hF x).2 (.inr (.inr (.inl hx))))
  · by_cases hlt : x < h.next
    · by_cases hFx : F x
      · exact .inl hFx
      · exact absurd hx (hp e he x hlt (fun e he hh => hFx ((hF x).2 (.inr (.inr (.inr ⟨e, he, hh⟩))))))
    · exact .inr (by omega)
theorem open_ev (i n : Nat) (key b : List Nat) (F : Nat → Prop) (hk : ∀ i, key.getD i 0 < 256) (hl : key.length = 32) (hb : ∀ i, b.getD i 0 < 256) (hbl : b.length ≤ 510) (hn : n < 400) (h : XH) (S : Rcr h i F key n) :
    CallEv E3 n_record_In_Open [.ptr i 0, .str (recL key n b)] h (fun r k => ∃ p, r = .tup [.slice p 0 1 1 1 false, .int .i64 (.ofNat 0)] ∧ (∃ tg, k.get p = some (.cells [.str b] false tg)) ∧ h.next ≤ p ∧ p < k.next ∧ h.next ≤ k.next ∧ (∀ x, x < h.next → ¬ F x → k.get x = h.get x) ∧ ∃ F', Rcr k i F' key (n + 1) ∧ ∀ x, F' x → F x ∨ h.next ≤ x) := by
  obtain ⟨t, m, w, l, xs, E, ps, S, hF⟩ := S
  refine (OpenI_call i t m w l n E xs key ps b _ rfl hk hl hb hbl hn h S).mono ?_
  rintro r k ⟨p, rfl, gp, h1, h2, h3, xs', E', ps', S', hx', hp, hq⟩
  refine ⟨p, rfl, gp, h1, h2, h3, fun x hx hnF => hq x hx (fun e => hnF ((hF x).2 (.inl e))) (fun e => hnF ((hF x).2 (.inr (.inr (.inl e))))) (fun e => hnF ((hF x).2 (.inr (.inr (.inr (.inl e)))))) (fun e => hnF ((hF x).2 (.inr (.inr (.inr (.inr (.inl e))))))) (fun e => hnF ((hF x).2 (.inr (.inr (.inr (.inr (.inr (.inl e)))))))), fun x => x = i ∨ x = t ∨ x = m ∨ x = w ∨ x = l ∨ x ∈ xs' ∨ ∃ e, e < E' ∧ ps'.getD e 0 = x, ⟨t, m, w, l, xs', E', ps', S', fun x => Iff.rfl⟩, ?_⟩
  rintro x (hx | hx | hx | hx | hx | hx | ⟨e, he, hx⟩)
  · exact .inl ((hF x).2 (.inl hx))
  · exact .inl ((hF x).2 (.inr (.inl hx)))
  · exact .inl ((hF x).2 (.inr (.inr (.inl hx))))
  · exact .inl ((hF x).2 (.inr (.inr (.inr (.inl hx)))))
  · exact .inl ((hF x).2 (.inr (.inr (.inr (.inr (.inl hx))))))
  · rcases hx' x hx with h' | h'
    · exact .inl ((hF x).2 (.inr (.inr (.inr (.inr (.inr (.inl h')))))))
    · exact .inr h'
  · by_cases hlt : x < h.next
    · by_cases hFx : F x
      · exact .inl hFx
      · exact absurd hx (hp e he x hlt (fun e he hh => hFx ((hF x).2 (.inr (.inr (.inr (.inr (.inr (.inr ⟨e, he, hh⟩)))))))))
    · exact .inr (by omega)
theorem new_snd (key : List Nat) (hl : key.length = 32) (h : XH) (hfr : FreshH h) : CallEv E0 n_record_NewOut [.str key] h (fun r k => ∃ o F, r = .ptr o 0 ∧ HExt h k ∧ Snd k o F key 0 ∧ ∀ x, F x → h.next ≤ x) := by
  refine (NewOut_call key hl h hfr).mono ?_
  rintro r k ⟨o, t, m, rfl, h1, h2, h3, S, x⟩
  refine ⟨o, fun x => x = o ∨ x = t ∨ x = m ∨ ∃ e, e < 0 ∧ ([] : List Nat).getD e 0 = x, rfl, x, ⟨t, m, 0, [], S, fun x => Iff.rfl⟩, ?_⟩
  rintro x (rfl | rfl | rfl | ⟨e, he, _⟩)
  · exact h1
  · exact h2
  · exact h3
  · omega
theorem new_rcr (key : List Nat) (hl : key.length = 32) (h : XH) (hfr : FreshH h) : CallEv E0 n_record_NewIn [.str key] h (fun r k => ∃ i F, r = .ptr i 0 ∧ HExt h k ∧ Rcr k i F key 0 ∧ ∀ x, F x → h.next ≤ x) := by
  refine (NewIn_call key hl h hfr).mono ?_
  rintro r k ⟨i, t, m, w, l, rfl, h1, h2, h3, h4, h5, S, x⟩
  refine ⟨i, fun x => x = i ∨ x = t ∨ x = m ∨ x = w ∨ x = l ∨ x ∈ ([] : List Nat) ∨ ∃ e, e < 0 ∧ ([] : List Nat).getD e 0 = x, rfl, x, ⟨t, m, w, l, [], 0, [], S, fun x => Iff.rfl⟩, ?_⟩
  rintro x (rfl | rfl | rfl | rfl | rfl | hx | ⟨e, he, _⟩)
  · exact h1
  · exact h2
  · exact h3
  · exact h4
  · exact h5
  · cases hx
  · omega
end Go.Proofs.XCode
end
section
namespace Go.Proofs.XCode
open Go.X Go.RowKit Go.Proofs
set_option maxRecDepth 100000
set_option linter.unusedSimpArgs false
set_option linter.unusedVariables false
structure Sys (h : XH) (N oa ib oc id : Nat) (up dn : List Nat) (Fa Fb Fc Fd : Nat → Prop) (na nb nc nd : Nat) : Prop where
  a : Snd h oa Fa up na
  b : Rcr h ib Fb up nb
  c : Snd h oc Fc dn nc
  d : Rcr h id Fd dn nd
  ab : ∀ x, Fa x → ¬ Fb x
  ac : ∀ x, Fa x → ¬ Fc x
  ad : ∀ x, Fa x → ¬ Fd x
  bc : ∀ x, Fb x → ¬ Fc x
  bd : ∀ x, Fb x → ¬ Fd x
  cd : ∀ x, Fc x → ¬ Fd x
  la : ∀ x, Fa x → N ≤ x
  lb : ∀ x, Fb x → N ≤ x
  lc : ∀ x, Fc x → N ≤ x
  ld : ∀ x, Fd x → N ≤ x
  le : N ≤ h.next
structure Did (h k : XH) (F F' : Nat → Prop) : Prop where
  le : h.next ≤ k.next
  get : ∀ x, x < h.next → ¬ F x → k.get x = h.get x
  new : ∀ x, F' x → F x ∨ h.next ≤ x
variable {h k : XH} {m N oa ib oc id na nb nc nd : Nat} {up dn : List Nat} {Fa Fb Fc Fd F' : Nat → Prop}
theorem Sys.doA (S : Sys h N oa ib oc id up dn Fa Fb Fc Fd na nb nc nd) (D : Did h k Fa F') (T : Snd k oa F' up m) : Sys k N oa ib oc id up dn F' Fb Fc Fd m nb nc nd where
  a := T
  b := S.b.keep (fun x hx => D.get x (S.b.lt x hx) (fun hh => S.ab x hh hx)) D.le T.fresh
  c := S.c.keep (fun x hx => D.get x (S.c.lt x hx) (fun hh => S.ac x hh hx)) D.le T.fresh
  d := S.d.keep (fun x hx => D.get x (S.d.lt x hx) (fun hh => S.ad x hh hx)) D.le T.fresh
  ab x hx hh := (D.new x hx).elim (fun q => S.ab x q hh) (fun q => by have := S.b.lt x hh; omega)
  ac x hx hh := (D.new x hx).elim (fun q => S.ac x q hh) (fun q => by have := S.c.lt x hh; omega)
  ad x hx hh := (D.new x hx).elim (fun q => S.ad x q hh) (fun q => by have := S.d.lt x hh; omega)
  bc := S.bc
  bd := S.bd
  cd := S.cd
  la x hx := (D.new x hx).elim (fun q => S.la x q) (fun q => by have := S.le; omega)
  lb := S.lb
  lc := S.lc
  ld := S.ld
  le := by have := S.le; have := D.le; omega
theorem Sys.doB (S : Sys h N oa ib oc id up dn Fa Fb Fc Fd na nb nc nd) (D : Did h k Fb F') (T : Rcr k ib F' up m) : Sys k N oa ib oc id up dn Fa F' Fc Fd na m nc nd where
  a := S.a.keep (fun x hx => D.get x (S.a.lt x hx) (fun hh => S.ab x hx hh)) D.le T.fresh
  b := T
  c := S.c.keep (fun x hx => D.get x (S.c.lt x hx) (fun hh => S.bc x hh hx)) D.le T.fresh
  d := S.d.keep (fun x hx => D.get x (S.d.lt x hx) (fun hh => S.bd x hh hx)) D.le T.fresh
  ab x hh hx := (D.new x hx).elim (fun q => S.ab x hh q) (fun q => by have := S.a.lt x hh; omega)
  ac := S.ac
  ad := S.ad
  bc x hx hh := (D.new x hx).elim (fun q => S.bc x q hh) (fun q => by have := S.c.lt x hh; omega)
  bd x hx hh := (D.new x hx).elim (fun q => S.bd x q hh) (fun q => by have := S.d.lt x hh; omega)
  cd := S.cd
  la := S.la
  lb x hx := (D.new x hx).elim (fun q => S.lb x q) (fun q => by have := S.le; omega)
  lc := S.lc
  ld := S.ld
  le := by have := S.le; have := D.le; omega
theorem Sys.doC (S : Sys h N oa ib oc id up dn Fa Fb Fc Fd na nb nc nd) (D : Did h k Fc F') (T : Snd k oc F' dn m) : Sys k N oa ib oc id up dn Fa Fb F' Fd na nb m nd where
  a := S.a.keep (fun x hx => D.get x (S.a.lt x hx) (fun hh => S.ac x hx hh)) D.le T.fresh
  b := S.b.keep (fun x hx => D.get x (S.b.lt x hx) (fun hh => S.bc x hx hh)) D.le T.fresh
  c := T
  d := S.d.keep (fun x hx => D.get x (S.d.lt x hx) (fun hh => S.cd x hh hx)) D.le T.fresh
  ab := S.ab
  ac x hh hx := (D.new x hx).elim (fun q => S.ac x hh q) (fun q => by have := S.a.lt x hh; omega)
  ad := S.ad
  bc x hh hx := (D.new x hx).elim (fun q => S.bc x hh q) (fun q => by have := S.b.lt x hh; omega)
  bd := S.bd
  cd x hx hh := (D.new x hx).elim (fun q => S.cd x q hh) (fun q => by have := S.d.lt x hh; omega)
  la := S.la
  lb := S.lb
  lc x hx := (D.new x hx).elim (fun q => S.lc x q) (fun q => by have := S.le; omega)
  ld := S.ld
  le := by have := S.le; have := D.le; omega
theorem Sys.doD (S : Sys h N oa ib oc id up dn Fa Fb Fc Fd na nb nc nd) (D : Did h k Fd F') (T : Rcr k id F' dn m) : Sys k N oa ib oc id up dn Fa Fb Fc F' na nb nc m where
  a := S.a.keep (fun x hx => D.get x (S.a.lt x hx) (fun hh => S.ad x hx hh)) D.le T.fresh
  b := S.b.keep (fun x hx => D.get x (S.b.lt x hx) (fun hh => S.bd x hx hh)) D.le T.fresh
  c := S.c.keep (fun x hx => D.get x (S.c.lt x hx) (fun hh => S.cd x hx hh)) D.le T.fresh
  d := T
  ab := S.ab
  ac := S.ac
  ad x hh hx := (D.new x hx).elim (fun q => S.ad x hh q) (fun q => by have := S.a.lt x hh; omega)
  bc := S.bc
  bd x hh hx := (D.new x hx).elim (fun q => S.bd x hh q) (fun q => by have := S.b.lt x hh; omega)
  cd x hh hx := (D.new x hx).elim (fun q => S.cd x hh q) (fun q => by have := S.c.lt x hh; omega)
  la := S.la
  lb := S.lb
  lc := S.lc
  ld x hx := (D.new x hx).elim (fun q => S.ld x q) (fun q => by have := S.le; omega)
  le := by have := S.le; have := D.le; omega
theorem Did.low {F F' : Nat → Prop} (D : Did h k F F') (hF : ∀ x, F x → N ≤ x) (hN : N ≤ h.next) : ∀ x, x < N → k.get x = h.get x := fun x hx => D.get x (by omega) (fun q => by have := hF x q; omega)
theorem keyL_len (secret salt info : List Nat) : (keyL secret salt info).length = 32 := expandL_len _ _
end Go.Proofs.XCode
end
section
namespace Go.Proofs.XCode
open Go.X Go.RowKit Go.Proofs
set_option maxRecDepth 100000
set_option linter.unusedSimpArgs false
set_option linter.unusedVariables false
theorem law_fn : E3.fn n_escutcheontop_TopEpochs = some (.fn x_escutcheontop_TopEpochs) := le3.fn _ _ fn_escutcheontop_TopEpochs
def saltB : List Nat := [115, 97, 108, 116]
theorem salt_lt : ∀ i, saltB.getD i 0 < 256 := fun i => by match i with | 0 => decide | 1 => decide | 2 => decide | 3 => decide | i + 4 => simp [saltB]
set_option maxHeartbeats 8000000 in
theorem law_good (key : List Nat) (zs : List (List Nat)) (lb L cap n : Nat) (ex ro : Bool) (tgl : Option Nat) (hk : ∀ i, key.getD i 0 < 256) (hz : ∀ z, z ∈ zs → ∀ i, z.getD i 0 < 256) (l0 : 0 < L) (l10 : L ≤ 10) (hL : L ≤ zs.length) (hn : n ≤ 60) (h : XH) (hg : h.get 1 = some ascO) (hl : h.get lb = some (.cells (zs.map .str) ro tgl)) (hlb : lb < h.next) (hf : FreshH h) :
    CallEv E3 n_escutcheontop_TopEpochs [.str key, .slice lb 0 L cap 1 ex, .int .i64 (.ofNat n)] h (fun r k => r = .bool true) := by
  have d0 : decide (L = 0) = false := decide_eq_false (by omega)
  have d1 : decide (10 < L) = false := decide_eq_false (by omega)
  have d2 : decide (n < 0) = false := rfl
  have d3 : decide (60 < n) = false := decide_eq_false (by omega)
  have fl := fillL_len key
  have flt := fillL_lt hk
  refine call_fn law_fn ?_
  simp only [args0_cons, args0_nil]
  repeat with_reducible first | refine nx ?_ | (refine nw ?_; simp (disch := first | omega | decide) only [bG, u_not, Bool.not_true, d0, d1, d2, d3]; refine rg ?_)
  refine callGo_of (works_ev3 h hg) ?_
  repeat with_reducible first | refine nx ?_ | (refine nw ?_; simp (disch := first | omega | decide) only [bG, u_not, Bool.not_true, d0, d1, d2, d3]; refine rg ?_)
  refine callGo_of ((Fill_call key h).le le3) ?_
  repeat with_reducible first | refine nx ?_ | (refine nw ?_; simp (disch := first | omega | decide) only [bG]; refine rg ?_)
  refine callGo_ex (((Session_call (fillL key) saltB flt salt_lt (by omega) (by decide) h).le le3).fresh intr3_fr hf) ?_
  rintro _ k0 ⟨⟨rfl, x0⟩, fr0⟩
  generalize hup : keyL (fillL key) saltB upB = up
  generalize hdn : keyL (fillL key) saltB downB = dn
  have lup : up.length = 32 := by rw [← hup]; exact keyL_len _ _ _
  have ldn : dn.length = 32 := by rw [← hdn]; exact keyL_len _ _ _
  have bup : ∀ i, up.getD i 0 < 256 := by rw [← hup]; exact expandL_lt _ _
  have bdn : ∀ i, dn.getD i 0 < 256 := by rw [← hdn]; exact expandL_lt _ _
  clear hup hdn
  have st := e_storeN (get_new_same k0 (.cells [.str [], .str []] false (some (Nat.mul 2 25)))) (n := 2) (vs := [.str up, .str dn]) rfl rfl rfl
  repeat with_reducible first | refine nx ?_ | (refine nw ?_; simp (disch := first | omega | decide) only [bG, st]; refine rg ?_)
  generalize hq : (k0.new (.cells [.str [], .str []] false (some (Nat.mul 2 25)))).set k0.next (.cells [.str up, .str dn] false (some (Nat.mul 2 25))) = q
  have gq : q.get k0.next = some (.cells [.str up, .str dn] false (some (Nat.mul 2 25))) := by rw [← hq, XH.get_set, if_pos rfl]
  have xq : HExt k0 q := by rw [← hq]; exact ((HExt.refl k0).new _).set (m := k0.next) (Nat.le_refl _) _
  have nq : q.next = k0.next + 1 := by rw [← hq]; rfl
  have frq : FreshH q := by rw [← hq]; exact (fr0.new _).set (get_new_same _ _) _
  clear hq st
  have q0 := r_load1 (o := 0) gq rfl
  have q1 := r_load1 (o := 1) gq rfl
  repeat with_reducible first | refine nx ?_ | (refine nw ?_; simp (disch := first | omega | decide) only [bG, q0]; refine rg ?_)
  refine callPl_ex ((new_snd up lup q frq).le le3) ?_
  rintro _ k1 ⟨oa, Fa, rfl, x1, Sa, ga⟩
  have q0a := r_load1 (o := 0) ((x1.get k0.next (by omega)).trans gq) rfl
  repeat with_reducible first | refine nx ?_ | (refine nw ?_; simp (disch := first | omega | decide) only [bG, q0a]; refine rg ?_)
  refine callPl_ex ((new_rcr up lup k1 Sa.fresh).le le3) ?_
  rintro _ k2 ⟨ib, Fb, rfl, x2, Sb, gb⟩
  repeat with_reducible first | refine nx ?_ | (refine nw ?_; simp (disch := first | omega | decide) only [bG]; refine rg ?_)
  have n1 := x1.le
  have n2 := x2.le
  refine plan_nil (by simp (disch := first | omega | decide) only [endOk, chkAt, addNew, newOk, rangeOk, distinctN, Nat.reduceLT, Nat.reduceAdd, Nat.reduceLeDiff, bP, bG, q0, q0a, decide_eq_true]) ?_
  have g2 := (x2.get k0.next (by omega)).trans ((x1.get k0.next (by omega)).trans gq)
  have p0 := r_load1 (o := 1) g2 rfl
  repeat with_reducible first | refine nx ?_ | (refine nw ?_; simp (disch := first | omega | decide) only [bG, p0]; refine rg ?_)
  refine callPl_ex ((new_snd dn ldn k2 Sb.fresh).le le3) ?_
  rintro _ k3 ⟨oc, Fc, rfl, x3, Sc, gc⟩
  have n3 := x3.le
  have p0a := r_load1 (o := 1) ((x3.get k0.next (by omega)).trans g2) rfl
  repeat with_reducible first | refine nx ?_ | (refine nw ?_; simp (disch := first | omega | decide) only [bG, p0a]; refine rg ?_)
  refine callPl_ex ((new_rcr dn ldn k3 Sc.fresh).le le3) ?_
  rintro _ k4 ⟨id, Fd, rfl, x4, Sd, gd⟩
  have n4 := x4.le
  repeat with_reducible first | refine nx ?_ | (refine nw ?_; simp (disch := first | omega | decide) only [bG]; refine rg ?_)
  refine plan_nil (by simp (disch := first | omega | decide) only [endOk, chkAt, addNew, newOk, rangeOk, distinctN, Nat.reduceLT, Nat.reduceAdd, Nat.reduceLeDiff, bP, bG, p0, p0a, decide_eq_true]) ?_
  repeat with_reducible first | refine nx ?_ | (refine nw ?_; simp (disch := first | omega | decide) only [bG, eq_pn]; refine rg ?_)
  have S0 : Sys k4 q.next oa ib oc id up dn Fa Fb Fc Fd 0 0 0 0 := {
    a := Sa.keep (fun x hx => (x4.get x (by have := Sa.lt x hx; omega)).trans ((x3.get x (by have := Sa.lt x hx; omega)).trans (x2.get x (Sa.lt x hx)))) (by omega) Sd.fresh
    b := Sb.keep (fun x hx => (x4.get x (by have := Sb.lt x hx; omega)).trans (x3.get x (Sb.lt x hx))) (by omega) Sd.fresh
    c := Sc.keep (fun x hx => x4.get x (Sc.lt x hx)) (by omega) Sd.fresh
    d := Sd
    ab := fun x hx hh => by have := Sa.lt x hx; have := gb x hh; omega
    ac := fun x hx hh => by have := Sa.lt x hx; have := gc x hh; omega
    ad := fun x hx hh => by have := Sa.lt x hx; have := gd x hh; omega
    bc := fun x hx hh => by have := Sb.lt x hx; have := gc x hh; omega
    bd := fun x hx hh => by have := Sb.lt x hx; have := gd x hh; omega
    cd := fun x hx hh => by have := Sc.lt x hx; have := gd x hh; omega
    la := fun x hx => by have := ga x hx; omega
    lb := fun x hx => by have := gb x hx; omega
    lc := fun x hx => by have := gc x hx; omega
    ld := fun x hx => by have := gd x hx; omega
    le := by omega }
  have nq0 := x0.le
  have hl4 : k4.get lb = some (.cells (zs.map .str) ro tgl) := (x4.get lb (by omega)).trans ((x3.get lb (by omega)).trans ((x2.get lb (by omega)).trans ((x1.get lb (by omega)).trans ((xq.get lb (by omega)).trans ((x0.get lb hlb).trans hl)))))
  have lq : lb < q.next := by omega
  clear hl p0 p0a q0 q0a q1 g2 gq x4 x3 x2 x1 x0 xq ga gb gc gd Sa Sb Sc Sd
  refine go_loop_ind hE3 (fun m1 fr k => ∃ m Fa Fb Fc Fd, m1 = n - m ∧ m ≤ n ∧ Sys k q.next oa ib oc id up dn Fa Fb Fc Fd m m m m ∧ k.get lb = some (.cells (zs.map .str) ro tgl) ∧ ev fr (.t (ixOf 1)) = .slice lb 0 L cap 1 ex ∧ ev fr (.t (ixOf 2)) = .int .i64 (.ofNat n) ∧ ev fr (.t (ixOf 8)) = .ptr oa 0 ∧ ev fr (.t (ixOf 9)) = .ptr ib 0 ∧ ev fr (.t (ixOf 10)) = .ptr oc 0 ∧ ev fr (.t (ixOf 11)) = .ptr id 0 ∧ ev fr (.t (ixOf 12)) = .int .i64 (.ofNat m)) ?_ (n := n) ?_
  · rintro m1 fr k IH ⟨m, Fa, Fb, Fc, Fd, rfl, hm, S, hl, f1, f2, f8, f9, f10, f11, f12⟩
    repeat with_reducible first | refine nx ?_ | (refine nv ?_; simp (disch := first | omega | decide) only [bG, f1, f2, f8, f9, f10, f11, f12]; refine rg ?_)
    refine go_cond ?_
    simp (disch := first | omega | decide) only [bG, f1, f2, f12]
    refine condGo_split (fun hc => ?_) (fun hc => ?_)
    ·  skip
       have hc := of_decide_eq_true hc
       have hi : m % L < L := Nat.mod_lt _ l0
       obtain ⟨t, ht⟩ : ∃ t, zs[m % L]? = some t := ⟨_, List.getElem?_eq_getElem (by omega)⟩
       have tm : t ∈ zs := List.mem_of_getElem? ht
       have tl := r_load1 (o := m % L) (v := .str t) hl (by rw [List.getElem?_map, ht]; rfl)
       repeat with_reducible first | refine nx ?_ | (refine nv ?_; simp (disch := first | omega | decide) only [bG, f1, f2, f8, f9, f10, f11, f12, tl]; refine rg ?_)
       refine go_cond ?_
       simp (disch := first | omega | decide) only [bG]
       refine condGo_split (fun h3 => ?_) (fun h3 => ?_)
       · repeat with_reducible first | refine nx ?_ | (refine nv ?_; simp (disch := first | omega | decide) only [bG]; refine rg ?_)
         refine ret_nil.2 ⟨_, fin_tmp (.inr rfl), ?_⟩
         simp (disch := first | omega | decide) only [bG]
       have h3 := of_decide_eq_false h3
       repeat with_reducible first | refine nx ?_ | (refine nv ?_; simp (disch := first | omega | decide) only [bG, f1, f2, f8, f9, f10, f11, f12]; refine rg ?_)
       have bt := hz t tm
       refine callGo_ex (seal_ev oa m up t Fa bup lup bt (by omega) (by omega) k S.a) ?_
       rintro _ k1 ⟨rfl, m1, g1, Fa', A1, w1⟩
       have S1 := S.doA ⟨m1, g1, w1⟩ A1
       have h1 := (Did.low ⟨m1, g1, w1⟩ S.la S.le lb lq).trans hl
       repeat with_reducible first | refine nx ?_ | (refine nv ?_; simp (disch := first | omega | decide) only [bG, f1, f2, f8, f9, f10, f11, f12]; refine rg ?_)
       refine callGo_ex (open_ev ib m up t Fb bup lup bt (by omega) (by omega) k1 S1.b) ?_
       rintro _ k2 ⟨p, rfl, ⟨tp, gp⟩, pl, pu, m2, g2, Fb', B2, w2⟩
       have S2 := S1.doB ⟨m2, g2, w2⟩ B2
       have h2 := (Did.low ⟨m2, g2, w2⟩ S1.lb S1.le lb lq).trans h1
       repeat with_reducible first | refine nx ?_ | (refine nv ?_; simp (disch := first | omega | decide) only [bG, f1, f2, f8, f9, f10, f11, f12]; refine rg ?_)
       refine callGo_ex (seal_ev oc m dn t Fc bdn ldn bt (by omega) (by omega) k2 S2.c) ?_
       rintro _ k3 ⟨rfl, m3, g3, Fc', C3, w3⟩
       have S3 := S2.doC ⟨m3, g3, w3⟩ C3
       have h3' := (Did.low ⟨m3, g3, w3⟩ S2.lc S2.le lb lq).trans h2
       have gp3 := (g3 p pu (fun q => by have := S1.c.lt p q; omega)).trans gp
       repeat with_reducible first | refine nx ?_ | (refine nv ?_; simp (disch := first | omega | decide) only [bG, f1, f2, f8, f9, f10, f11, f12]; refine rg ?_)
       refine callGo_ex (open_ev id m dn t Fd bdn ldn bt (by omega) (by omega) k3 S3.d) ?_
       rintro _ k4 ⟨q', rfl, ⟨tq, gq⟩, ql, qu, m4, g4, Fd', D4, w4⟩
       have S4 := S3.doD ⟨m4, g4, w4⟩ D4
       have h4 := (Did.low ⟨m4, g4, w4⟩ S3.ld S3.le lb lq).trans h3'
       have gp4 := (g4 p (by omega) (fun q => by have := S1.d.lt p q; omega)).trans gp3
       have lp := r_load1 (o := 0) gp4 rfl
       have lq' := r_load1 (o := 0) gq rfl
       have la := recL_len up m (b := t) (by omega)
       have lc := recL_len dn m (b := t) (by omega)
       repeat with_reducible first | refine nx ?_ | (refine nw ?_; simp (disch := first | omega | decide) only [bG, f1, f2, f8, f9, f10, f11, f12, lp, lq', s_neqs, la, lc, neq_self, not_true_eq_false]; refine rg ?_)
       refine ret_loop.2 (IH (n - (m + 1)) _ _ (by omega) ⟨m + 1, _, _, _, _, rfl, by omega, S4, h4, ?_, ?_, ?_, ?_, ?_, ?_, ?_⟩) <;> simp (disch := first | omega | decide) only [bG, f1, f2, f8, f9, f10, f11, f12]
    · have hc := of_decide_eq_false hc
      repeat with_reducible first | refine nx ?_ | (refine nv ?_; simp (disch := first | omega | decide) only [bG, f1, f2, f8, f9, f10, f11, f12]; refine rg ?_)
      refine ret_nil.2 ⟨_, fin_tmp (.inr rfl), ?_⟩
      simp (disch := first | omega | decide) only [bG]
  · refine ⟨0, Fa, Fb, Fc, Fd, rfl, by omega, S0, hl4, ?_, ?_, ?_, ?_, ?_, ?_, ?_⟩ <;> simp (disch := first | omega | decide) only [bG]
end Go.Proofs.XCode
end
section
namespace Go.Proofs.XCode
open Go.X Go.RowKit Go.Proofs
set_option maxRecDepth 100000
set_option linter.unusedSimpArgs false
set_option linter.unusedVariables false
theorem r_lenN (h : XH) (e : Nat) : rLen h (.slice e) .nils = some (.int .i64 (.ofNat 0)) := rfl
set_option maxHeartbeats 8000000 in
theorem law_ev (key : List Nat) (zs : List (List Nat)) (A : XV) (L : Nat) (i : Int) (hk : ∀ i, key.getD i 0 < 256) (hz : ∀ z, z ∈ zs → ∀ i, z.getD i 0 < 256) (h : XH) (hg : h.get 1 = some ascO)
    (hA : (A = .nils ∧ L = 0) ∨ ∃ lb cap ex, A = .slice lb 0 L cap 1 ex ∧ (L = 0 ∨ ∃ ro tg, h.get lb = some (.cells (zs.map .str) ro tg) ∧ lb < h.next ∧ L ≤ zs.length)) (hf : FreshH h) :
    CallEv E3 n_escutcheontop_TopEpochs [.str key, A, .int .i64 i] h (fun r k => r = .bool true) := by
  have la : ∀ h e, rLen h (.slice e) A = some (.int .i64 (.ofNat L)) := by
    intro h e
    rcases hA with ⟨rfl, rfl⟩ | ⟨lb, cap, ex, rfl, _⟩ <;> rfl
  by_cases c0 : L = 0
  · have d0 : decide (L = 0) = true := decide_eq_true c0
    refine call_fn law_fn ?_
    simp only [args0_cons, args0_nil]
    repeat with_reducible first | refine nx ?_ | (refine nw ?_; simp (disch := first | omega | decide) only [bG, u_not, Bool.not_true, la, d0]; refine rg ?_)
    refine callGo_of (works_ev3 h hg) ?_
    repeat with_reducible first | refine nx ?_ | (refine nw ?_; simp (disch := first | omega | decide) only [bG, u_not, Bool.not_true, la, d0]; refine rg ?_)
    refine callGo_of (works_ev3 h hg) ?_
    repeat with_reducible first | refine nx ?_ | (refine nw ?_; simp (disch := first | omega | decide) only [bG]; refine rg ?_)
    refine ret_nil.2 ⟨_, fin_tmp (.inr rfl), ?_⟩
    simp (disch := first | omega | decide) only [bG]
  have d0 : decide (L = 0) = false := decide_eq_false c0
  by_cases c1 : 10 < L
  · have d1 : decide (10 < L) = true := decide_eq_true c1
    refine call_fn law_fn ?_
    simp only [args0_cons, args0_nil]
    repeat with_reducible first | refine nx ?_ | (refine nw ?_; simp (disch := first | omega | decide) only [bG, u_not, Bool.not_true, la, d0, d1]; refine rg ?_)
    refine callGo_of (works_ev3 h hg) ?_
    repeat with_reducible first | refine nx ?_ | (refine nw ?_; simp (disch := first | omega | decide) only [bG, u_not, Bool.not_true, la, d0, d1]; refine rg ?_)
    refine callGo_of (works_ev3 h hg) ?_
    repeat with_reducible first | refine nx ?_ | (refine nw ?_; simp (disch := first | omega | decide) only [bG]; refine rg ?_)
    refine ret_nil.2 ⟨_, fin_tmp (.inr rfl), ?_⟩
    simp (disch := first | omega | decide) only [bG]
  have d1 : decide (10 < L) = false := decide_eq_false c1
  rcases i with n | n
  rotate_left
  · skip
    refine call_fn law_fn ?_
    simp only [args0_cons, args0_nil]
    repeat with_reducible first | refine nx ?_ | (refine nw ?_; simp (disch := first | omega | decide) only [bG, u_not, Bool.not_true, la, b_lss_neg, d0, d1]; refine rg ?_)
    refine callGo_of (works_ev3 h hg) ?_
    repeat with_reducible first | refine nx ?_ | (refine nw ?_; simp (disch := first | omega | decide) only [bG, u_not, Bool.not_true, la, b_lss_neg, d0, d1]; refine rg ?_)
    refine callGo_of (works_ev3 h hg) ?_
    repeat with_reducible first | refine nx ?_ | (refine nw ?_; simp (disch := first | omega | decide) only [bG]; refine rg ?_)
    refine ret_nil.2 ⟨_, fin_tmp (.inr rfl), ?_⟩
    simp (disch := first | omega | decide) only [bG]
  have d2 : decide (n < 0) = false := rfl
  by_cases c3 : 60 < n
  · have d3 : decide (60 < n) = true := decide_eq_true c3
    refine call_fn law_fn ?_
    simp only [args0_cons, args0_nil]
    repeat with_reducible first | refine nx ?_ | (refine nw ?_; simp (disch := first | omega | decide) only [bG, u_not, Bool.not_true, la, d0, d1, d2, d3]; refine rg ?_)
    refine callGo_of (works_ev3 h hg) ?_
    repeat with_reducible first | refine nx ?_ | (refine nw ?_; simp (disch := first | omega | decide) only [bG, u_not, Bool.not_true, la, d0, d1, d2, d3]; refine rg ?_)
    refine callGo_of (works_ev3 h hg) ?_
    repeat with_reducible first | refine nx ?_ | (refine nw ?_; simp (disch := first | omega | decide) only [bG]; refine rg ?_)
    refine ret_nil.2 ⟨_, fin_tmp (.inr rfl), ?_⟩
    simp (disch := first | omega | decide) only [bG]
  rcases hA with ⟨rfl, rfl⟩ | ⟨lb, cap, ex, rfl, h0 | ⟨ro, tg, hl, hlb, hL⟩⟩
  · exact absurd rfl c0
  · exact absurd h0 c0
  · exact law_good key zs lb L cap n ex ro tg hk hz (by omega) (by omega) hL (by omega) h hg hl hlb hf
end Go.Proofs.XCode
end
section
namespace Go.Proofs.XCode
open Go.X Go.RowKit Go.Proofs
set_option maxRecDepth 100000
def intZ : XV → Int
  | .int _ n => n
  | _ => 0
noncomputable def ascZ : List Int := match ascO with
  | .cells c _ _ => c.map intZ
  | _ => []
theorem ascO_eq : ascO = .cells (ascZ.map (XV.int .u8)) true none := by kernel_rfl
theorem ascZ_len : ascZ.length = 256 := by kernel_rfl
theorem VRs_u8 (ρ : Rho) : ∀ l : List Int, VRs ρ (l.map (XV.int .u8)) (l.map (Value.int .u8))
  | [] => .nil
  | x :: l => .cons _ _ _ _ (.int .u8 x) (VRs_u8 ρ l)
noncomputable def rhoA (b off lim : Nat) : Rho := fun n => if n ≤ 63 then some (n, 0, 256) else if n = 64 then some (b, off, lim) else none
theorem rhoA64 (b off lim : Nat) : rhoA b off lim 64 = some (b, off, lim) := rfl
noncomputable def needA (zs : List (List Nat)) : List (Nat × XO) := [(64, .cells (zs.map .str) true none), (1, ascO)]
theorem needW_get {N n : Nat} {o : XO} (h : (hsOf N needW).get n = some o) : n = 1 ∧ o = ascO := by
  have := hsOf_get h
  unfold needW at this
  simpa using this
theorem needA_get {N n : Nat} {o : XO} {zs : List (List Nat)} (h : (hsOf N (needA zs)).get n = some o) : (n = 64 ∧ o = .cells (zs.map .str) true none) ∨ (n = 1 ∧ o = ascO) := by
  have := hsOf_get h
  unfold needA at this
  simpa using this
theorem asc_CR {ρ : Rho} {W : World} (hc : ∀ j, W.cell? ⟨1, j, none⟩ = (ascZ.map (Value.int .u8))[j]?) : OR ρ W 1 0 256 ascO := by
  rw [ascO_eq]
  have hj : ∀ j, j < 256 → ∃ v, (ascZ.map (Value.int .u8))[j]? = some v := fun j hj => ⟨_, List.getElem?_eq_getElem (by rw [List.length_map, ascZ_len]; exact hj)⟩
  refine ⟨by rw [List.length_map, ascZ_len]; exact Nat.le_refl _, fun j h => ?_, fun h => (by cases h), ⟨_, VRs_u8 _ _, fun j v h => by rw [Nat.zero_add]; exact (hc j).trans h⟩, ?_, fun t h => by cases h⟩
  · obtain ⟨v, hv⟩ := hj j h
    rw [Nat.zero_add]
    show (W.cell? ⟨1, j, none⟩).isSome = true
    rw [hc j, hv]; rfl
  · obtain ⟨v, hv⟩ := hj 0 (by decide)
    have := (hc 0).trans hv
    unfold World.cell? at this
    split at this
    · rename_i h1
      exact (Array.getElem?_eq_some_iff.1 h1).1
    · cases this
theorem repW {W : World} {N b off lim : Nat} (hc : ∀ j, W.cell? ⟨1, j, none⟩ = (ascZ.map (Value.int .u8))[j]?) : Rep (rhoA b off lim) (hsOf N needW) W := by
  refine ⟨fun n o ho => ?_, fun n m o o' b x y x' y' h1 h2 _ _ => ?_⟩
  · obtain ⟨rfl, rfl⟩ := needW_get ho
    exact ⟨1, 0, 256, rfl, asc_CR hc⟩
  · rw [(needW_get h1).1, (needW_get h2).1]
theorem VRs_str (ρ : Rho) : ∀ l : List ByteArray, VRs ρ ((l.map fun s => s.data.toList.map UInt8.toNat).map XV.str) (l.map Value.string)
  | [] => .nil
  | x :: l => .cons _ _ _ _ (.str _ _ rfl) (VRs_str ρ l)
theorem repA {W : World} {b off : Nat} {ss : List ByteArray} (hc : ∀ j, W.cell? ⟨1, j, none⟩ = (ascZ.map (Value.int .u8))[j]?) (h0 : 0 < ss.length) (hs : ∀ j, j < ss.length → W.cell? ⟨b, off + j, none⟩ = some (.string (ss.getD j ByteArray.empty))) :
    Rep (rhoA b off ss.length) (hsOf 65 (needA (ss.map fun s => s.data.toList.map UInt8.toNat))) W := by
  have hne : b ≠ 1 := by
    rintro rfl
    have h1 := hs 0 h0
    have h2 : W.cell? ⟨1, off + 0, none⟩ = (ascZ.map (Value.int .u8))[off + 0]? := hc _
    rw [h2] at h1
    obtain ⟨y, _, h3⟩ := List.mem_map.1 (List.mem_of_getElem? h1)
    cases h3
  refine ⟨fun n o ho => ?_, fun n m o o' b' x y x' y' h1 h2 h3 h4 => ?_⟩
  · rcases needA_get ho with ⟨rfl, rfl⟩ | ⟨rfl, rfl⟩
    · refine ⟨b, off, ss.length, rfl, ?_⟩
      refine ⟨by simp, fun j h => by rw [hs j h]; rfl, fun h => (by cases h), ⟨_, VRs_str _ ss, fun j v h => ?_⟩, ?_, fun t h => by cases h⟩
      · have hj : j < ss.length := by
          have := (List.getElem?_eq_some_iff.1 h).1
          simpa using this
        rw [hs j hj]
        rw [List.getElem?_map, List.getElem?_eq_getElem hj] at h
        rw [List.getD_eq_getElem?_getD, List.getElem?_eq_getElem hj]
        exact h
      · have := hs 0 h0
        unfold World.cell? at this
        split at this
        · rename_i h1
          exact (Array.getElem?_eq_some_iff.1 h1).1
        · cases this
    · exact ⟨1, 0, 256, rfl, asc_CR hc⟩
  · rcases needA_get h1 with ⟨rfl, _⟩ | ⟨rfl, _⟩ <;> rcases needA_get h2 with ⟨rfl, _⟩ | ⟨rfl, _⟩
    · rfl
    · have e1 := Option.some.inj h3
      have e2 := Option.some.inj h4
      injection e1 with e1 _
      injection e2 with e2 _
      exact absurd (e1.trans e2.symm) hne
    · have e1 := Option.some.inj h3
      have e2 := Option.some.inj h4
      injection e1 with e1 _
      injection e2 with e2 _
      exact absurd (e2.trans e1.symm) hne
    · rfl
theorem invoked_calls {P : Program} {f : FuncId} {args : Array Value} {w : World} {K : Value → World → Prop} (h : Invoked P f args w K) (he : (callFunc f args).run P w = .ok (.enter f args) w) : Calls P f args w fun e w' => ∃ v, e = .returned v ∧ K v w' := by
  rcases h with ⟨v, w', h1, _⟩ | ⟨_, h2⟩
  · rw [he] at h1
    cases h1
  · exact h2
theorem str_bytes (s : ByteArray) (i : Nat) : (s.data.toList.map UInt8.toNat).getD i 0 < 256 := by
  rw [List.getD_eq_getElem?_getD]
  cases e : (s.data.toList.map UInt8.toNat)[i]? with
  | none => simp
  | some x =>
    obtain ⟨y, _, rfl⟩ := List.mem_map.1 (List.mem_of_getElem? e)
    exact y.toNat_lt
theorem fresh_hs (N : Nat) : ∀ need : List (Nat × XO), (∀ p ∈ need, p.1 < N) → FreshH (hsOf N need) := fun need hp n hn => by
  rw [hsOf_next] at hn
  cases e : (hsOf N need).get n with
  | none => rfl
  | some o => have := hp _ (hsOf_get e); simp only at this; omega
theorem asc_get (N : Nat) : (hsOf N needW).get 1 = some ascO := by
  show (XH.set (hsOf N []) 1 ascO).get 1 = some ascO
  rw [XH.get_set, if_pos rfl]
theorem ascA_get (N : Nat) (zs : List (List Nat)) : (hsOf N (needA zs)).get 1 = some ascO ∧ (hsOf N (needA zs)).get 64 = some (.cells (zs.map .str) true none) := by
  constructor
  · show (XH.set (XH.set (hsOf N []) 1 ascO) 64 _).get 1 = some ascO
    rw [XH.get_set, if_neg (by decide), XH.get_set, if_pos rfl]
  · show (XH.set (XH.set (hsOf N []) 1 ascO) 64 _).get 64 = _
    rw [XH.get_set, if_pos rfl]
theorem of_step {ρ ρ' : Rho} {H H' : XH} {W W' : World} (hs : Step ρ H W ρ' H' W') (hr : ∀ n o, H.get n = some o → o.ro = true) : Below W.heap.size W W' :=
  { os := hs.os, tape := hs.tape, output := hs.output, size := hs.size, block := fun k hk => hs.keep k hk (fun ⟨n, o, x, y, h1, h2, _⟩ => by rw [hr n o h1] at h2; cases h2) }
theorem asc_ro : ascO.ro = true := by rw [ascO_eq]; rfl
def RowS (w : World) (a : Option Addr) (len cap : Nat) (zs : List ByteArray) : Prop :=
  (a = none ∧ len = 0 ∧ cap = 0 ∧ zs = []) ∨
  ∃ x, a = some x ∧ len ≤ cap ∧ zs.length = cap ∧ (∀ i, i < zs.length → w.cell? (x.add i) = some (.string (zs.getD i ByteArray.empty)))
theorem law_calls (s1 : ByteArray) (a : Option Addr) (len cap : Nat) (ss : List ByteArray) (i : Int) (W : World) (hc : ∀ j, W.cell? ⟨1, j, none⟩ = (ascZ.map (Value.int .u8))[j]?) (hr : RowS W a len cap ss) :
    Calls Tryz.prog 3 #[.string s1, .slice a len cap, .int .i64 i] W fun e w' => e = .returned (.bool true) ∧ Below W.heap.size W w' := by
  have go : ∀ (A : XV) (H : XH) (ρ : Rho), H.next = 65 → H.get 1 = some ascO → FreshH H → (∀ n o, H.get n = some o → o.ro = true) → Rep ρ H W → (∀ g, g ≤ 63 → ρ g = some (g, 0, 256)) → (∀ k, 65 ≤ k → ρ k = none) → VR ρ A (.slice a len cap) →
      ((A = .nils ∧ len = 0) ∨ ∃ lb cap ex, A = .slice lb 0 len cap 1 ex ∧ (len = 0 ∨ ∃ ro tg, H.get lb = some (.cells ((ss.map fun s => s.data.toList.map UInt8.toNat).map .str) ro tg) ∧ lb < H.next ∧ len ≤ (ss.map fun s => s.data.toList.map UInt8.toNat).length)) →
      Calls Tryz.prog 3 #[.string s1, .slice a len cap, .int .i64 i] W fun e w' => e = .returned (.bool true) ∧ Below W.heap.size W w' := by
    intro A H ρ hn h1 hf hro hR hg hk hv hA
    obtain ⟨n, r, H', e, rfl⟩ := law_ev (s1.data.toList.map UInt8.toNat) (ss.map fun s => s.data.toList.map UInt8.toNat) A len i (str_bytes s1) (fun z hz => by
      obtain ⟨s, _, rfl⟩ := List.mem_map.1 hz
      exact str_bytes s) H h1 hA hf
    have hI := (sound3 n).1 _ _ _ _ _ e ρ W [.string s1, .slice a len cap, .int .i64 i] hR (fun g hg' => ⟨256, hg g hg'⟩)
      (.cons _ _ _ _ (.str _ _ rfl) (.cons _ _ _ _ hv (.cons _ _ _ _ (.int _ _) .nil))) (fun k h1 _ => hk k (by omega))
    refine (invoked_calls hI (enters_of Tryz.func3 (by kernel_rfl) rfl _ _)).mono ?_
    rintro e w' ⟨v, rfl, ρ', hv', hs⟩
    cases hv'
    exact ⟨rfl, of_step hs hro⟩
  have hW : ∀ n o, (hsOf 65 needW).get n = some o → o.ro = true := fun n o h => by rw [(needW_get h).2]; exact asc_ro
  have fW : FreshH (hsOf 65 needW) := fresh_hs 65 needW (by simp [needW])
  rcases hr with ⟨rfl, rfl, rfl, rfl⟩ | ⟨x, rfl, hl, hz, hcell⟩
  · exact go .nils (hsOf 65 needW) (rhoA 0 0 0) (hsOf_next _ _) (asc_get _) fW hW (repW hc) (fun g hg => if_pos hg) (fun k hk => (if_neg (by omega)).trans (if_neg (by omega))) .nils (.inl ⟨rfl, rfl⟩)
  · by_cases h0 : ss.length = 0
    · have c0 : cap = 0 := by omega
      subst c0
      obtain rfl : len = 0 := by omega
      exact go (.slice 64 0 0 0 1 false) (hsOf 65 needW) (rhoA x.block x.off 0) (hsOf_next _ _) (asc_get _) fW hW (repW hc) (fun g hg => if_pos hg) (fun k hk => (if_neg (by omega)).trans (if_neg (by omega)))
        (.slice 64 0 0 0 1 false x.block x.off 0 x 0 rfl (Nat.le_refl _) (Nat.le_refl _) (fun h => by cases h) (fun _ => ⟨fun h => by omega, by omega⟩)) (.inr ⟨64, 0, false, rfl, .inl rfl⟩)
    · have hs : x.spot = none := by
        have := hcell 0 (by omega)
        have e0 : x.add 0 = x := rfl
        rw [e0] at this
        unfold World.cell? at this
        split at this
        · cases e : x.spot with
          | none => rfl
          | some y => rw [e] at this; cases this
        · cases this
      have hadd : ∀ j, x.add j = ⟨x.block, x.off + j, none⟩ := fun j => by
        unfold Addr.add
        by_cases hj : j = 0
        · subst hj
          cases x
          simp only at hs
          subst hs
          rfl
        · rw [if_neg hj]
      have hx : x = ⟨x.block, x.off + 0, none⟩ := by
        have := hadd 0
        exact this
      subst hz
      exact go (.slice 64 0 len len 1 false) _ (rhoA x.block x.off ss.length) (hsOf_next _ _) (ascA_get _ _).1 (fresh_hs 65 _ (by simp [needA])) (fun n o h => by rcases needA_get h with ⟨_, rfl⟩ | ⟨_, rfl⟩ <;> first | rfl | exact asc_ro)
        (repA hc (by omega) (fun j hj => by rw [← hadd j]; exact hcell j hj)) (fun g hg => if_pos hg) (fun k hk => (if_neg (by omega)).trans (if_neg (by omega)))
        (.slice 64 0 len len 1 false x.block x.off ss.length x ss.length rfl (Nat.le_refl _) hl (fun h => by cases h) (fun _ => ⟨fun _ => hx, by omega⟩))
        (.inr ⟨64, len, false, rfl, .inr ⟨true, none, (ascA_get _ _).2, by rw [hsOf_next]; decide, by rw [List.length_map]; exact hl⟩⟩)
end Go.Proofs.XCode
end
