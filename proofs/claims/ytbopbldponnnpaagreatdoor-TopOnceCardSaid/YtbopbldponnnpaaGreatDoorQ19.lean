/- A part of a verified executor, its walks and its runs (O5, W20, W21, W22, LW). -/
import Derived.Test.YtbopbldponnnpaaGreatDoorQ11
import Derived.Test.YtbopbldponnnpaaGreatDoorQ13
import Derived.Test.YtbopbldponnnpaaGreatDoorQ14
import Derived.Test.YtbopbldponnnpaaGreatDoorQ15
import Derived.Test.YtbopbldponnnpaaGreatDoorQ18
import Derived.Test.YtbopbldponnnpaaGreatDoorQ04
import Derived.Test.YtbopbldponnnpaaGreatDoorQ07
import Derived.Test.YtbopbldponnnpaaGreatDoorQ08
import Derived.Test.YtbopbldponnnpaaGreatDoorQ09
import Derived.Below
set_option linter.all false
section
namespace Go.Proofs.XCode
open Go.X Go.RowKit Go.Proofs Go.Shelf
set_option maxRecDepth 100000
theorem clone_calls (s : ByteArray) (w : World) (h : s.size ≤ 1000000) : Calls Tryz.prog 41 #[.string s] w fun e w' => e = .returned (.string s) ∧ Below w.heap.size w w' := by
  go_enter Tryz.func41, Tryz.ntmps41
  go_wp2_with (go_at_call 72; refine (Tryz.stringslite_Clone s _ (by omega)).mono ?_; rintro e w' ⟨rfl, hb⟩)
  first | go_end0 | go_ret
  exact ⟨rfl, hb⟩
theorem repeatL_flat (l : List UInt8) : ∀ n, Lib.repeatL l n = (List.replicate n l).flatten
  | 0 => rfl
  | n + 1 => by rw [Lib.repeatL, repeatL_flat l n, List.replicate_succ, List.flatten_cons]
theorem repeat_calls (s : ByteArray) (n : Nat) (w : World) (h : s.size * n ≤ 1000000) (h2 : n ≤ 1000000) : Calls Tryz.prog 16 #[.string s, .int .i64 n] w fun e w' => ∃ r : ByteArray, e = .returned (.string r) ∧ r.data.toList = (List.replicate n s.data.toList).flatten ∧ Below w.heap.size w w' := by
  refine (Tryz.strings_Repeat s n w (by omega) (by omega)).mono ?_
  rintro e w' ⟨rfl, hb⟩
  exact ⟨_, rfl, by rw [repeatL_flat], hb⟩
abbrev laysJ : Lays.n240 Tryz.prog Tryz.lays156_ren := { Tryz.lays156 with }
abbrev laysS : Lays.n169 Tryz.prog Tryz.lays156_ren := { Tryz.lays156 with }
theorem ok_clone : IntrOK Tryz.prog 41 (fun _ => iClone) := clone_intr (enters_of Tryz.func41 (by kernel_rfl) rfl) clone_calls
theorem ok_repeat : IntrOK Tryz.prog 16 (fun _ => iRepeat) := repeat_intr (enters_of Tryz.func16 (by kernel_rfl) rfl) repeat_calls
theorem ok_join : IntrOK Tryz.prog 204 (fun _ => iJoin) := join_intr (enters_of Tryz.func204 (by kernel_rfl) rfl) Tryz.strings_Join_none Tryz.strings_Join
theorem ok_once : IntrOK Tryz.prog 99 iOnce := once_intr (enters_of Tryz.func99 (by kernel_rfl) rfl) OnceParts.do_done OnceParts.do_slow
theorem ok_check : IntrOK Tryz.prog 66 (fun _ => iCheck (Nat.mul 2 93)) := check_intr (enters_of Tryz.func66 (by kernel_rfl) rfl)
  (fun b w h1 h2 h3 => Any.Builder_copyCheck_fresh laysJ Tryz.Builder_Extra_156.toX72 b w h1 h2 h3) (fun b w h1 => Any.Builder_copyCheck_used laysJ Tryz.Builder_Extra_156.toX72 b w h1)
theorem ok_string : IntrOK Tryz.prog 38 (fun _ => iString 5) := string_intr (enters_of Tryz.func38 (by kernel_rfl) rfl)
  (fun b k w h => string_nil laysS Tryz.Builder_Extra_156 b k w h) (fun b k g cap cells ns w h1 h2 h3 h4 h5 h6 h7 => string_row laysS Tryz.Builder_Extra_156 b k g cap cells ns w h1 h2 h3 h4 h5 h6 h7)
theorem ok_load64 : IntrOK Tryz.prog 31 (fun _ => iLoad .i64) := load_intr Tryz.func31 (by kernel_rfl) (by kernel_rfl) (by kernel_rfl) .i64 (by kernel_rfl)
theorem ok_loadu32 : IntrOK Tryz.prog 187 (fun _ => iLoad .u32) := load_intr Tryz.func187 (by kernel_rfl) (by kernel_rfl) (by kernel_rfl) .u32 (by kernel_rfl)
theorem ok_load32 : IntrOK Tryz.prog 302 (fun _ => iLoad .i32) := load_intr Tryz.func302 (by kernel_rfl) (by kernel_rfl) (by kernel_rfl) .i32 (by kernel_rfl)
theorem ok_store64 : IntrOK Tryz.prog 191 (fun _ => iStore .i64) := store_intr Tryz.func191 (by kernel_rfl) (by kernel_rfl) (by kernel_rfl) .i64 (by kernel_rfl)
theorem ok_storeu32 : IntrOK Tryz.prog 215 (fun _ => iStore .u32) := store_intr Tryz.func215 (by kernel_rfl) (by kernel_rfl) (by kernel_rfl) .u32 (by kernel_rfl)
theorem ok_add64i : IntrOK Tryz.prog 32 (fun _ => iAdd .i64) := add_intr Tryz.func32 (by kernel_rfl) (by kernel_rfl) (by kernel_rfl) .i64 (by kernel_rfl)
theorem ok_addu32 : IntrOK Tryz.prog 219 (fun _ => iAdd .u32) := add_intr Tryz.func219 (by kernel_rfl) (by kernel_rfl) (by kernel_rfl) .u32 (by kernel_rfl)
theorem ok_add32i : IntrOK Tryz.prog 274 (fun _ => iAdd .i32) := add_intr Tryz.func274 (by kernel_rfl) (by kernel_rfl) (by kernel_rfl) .i32 (by kernel_rfl)
theorem ok_add64 : IntrOK Tryz.prog 225 (fun _ => iAdd64) := add64_intr Tryz.func225 (by kernel_rfl) (by kernel_rfl) (by kernel_rfl) (by kernel_rfl)
theorem ok_count : IntrOK Tryz.prog 243 (fun _ => iCount) := count_intr Tryz.func243 (by kernel_rfl) (by kernel_rfl) (by kernel_rfl) (by kernel_rfl)
theorem ok_index : IntrOK Tryz.prog 322 (fun _ => iIndex) := index_intr Tryz.func322 (by kernel_rfl) (by kernel_rfl) (by kernel_rfl) (by kernel_rfl)
def intrL : List (Nat × Nat) := [(41, 5), (16, 6), (204, 15), (99, 1), (66, 1000 + 93), (38, 2000 + 5),
  (31, 7), (187, 17), (302, 27), (191, 8), (215, 18), (32, 9), (219, 19), (274, 29),
  (225, 11), (243, 13), (322, 14), (fSorted, 3000 + fIter), (fKeys, 1000000 + 1000 * fIter + tMap)]
theorem intrs_chk : chkT fnT (fun f x => match x with | .intr i => intrL.contains (f, i) && Nat.blt i 10000000 | _ => true) = true := by kernel_rfl
theorem intrs_in {f i : Nat} (h : fnT.get f = some (.intr i)) : (f, i) ∈ intrL ∧ i < 10000000 := by
  have := chkT_spec intrs_chk h
  simp only [Bool.and_eq_true] at this
  exact ⟨List.contains_iff_mem.1 this.1, blt_lt this.2⟩
theorem intr_ok (f i : Nat) (h : fnT.get f = some (.intr i)) : IntrOK Tryz.prog f (fun call => intr call i) := by
  have hm := (intrs_in h).1
  clear h
  unfold intrL at hm
  simp only [List.mem_cons, List.mem_nil_iff, or_false, Prod.mk.injEq] at hm
  rcases hm with ⟨rfl, rfl⟩ | ⟨rfl, rfl⟩ | ⟨rfl, rfl⟩ | ⟨rfl, rfl⟩ | ⟨rfl, rfl⟩ | ⟨rfl, rfl⟩ | ⟨rfl, rfl⟩ | ⟨rfl, rfl⟩ | ⟨rfl, rfl⟩ | ⟨rfl, rfl⟩ | ⟨rfl, rfl⟩ | ⟨rfl, rfl⟩ | ⟨rfl, rfl⟩ | ⟨rfl, rfl⟩ | ⟨rfl, rfl⟩ | ⟨rfl, rfl⟩ | ⟨rfl, rfl⟩ | ⟨rfl, rfl⟩ | ⟨rfl, rfl⟩
  · exact ok_clone
  · exact ok_repeat
  · exact ok_join
  · exact ok_once
  · exact ok_check
  · exact ok_string
  · exact ok_load64
  · exact ok_loadu32
  · exact ok_load32
  · exact ok_store64
  · exact ok_storeu32
  · exact ok_add64i
  · exact ok_addu32
  · exact ok_add32i
  · exact ok_add64
  · exact ok_count
  · exact ok_index
  · exact sorted_ok
  · exact keys_ok
theorem fnOK0 : FnOK Tryz.prog tyT.get E0 := fnOK_of fnB fnR fnN intr_ok
theorem low0 : E0.Low 10000000 := by
  intro f i e
  simp only [E0, mkEnv] at e
  split at e
  · rename_i g hg
    cases hm : mkFn tyT.get g with
    | none => rw [hm] at e; cases e
    | some x => rw [hm] at e; cases e
  · rename_i j hg
    have e := Option.some.inj e
    injection e with e
    subst e
    exact (intrs_in hg).2
  · cases e
theorem sound0 (n : Nat) : CallSound Tryz.prog (callE E0 (run E0 n)) ∧ CallMono (callE E0 (run E0 n)) := run_sound' tyOK fnOK0 (by kernel_rfl) n
end Go.Proofs.XCode
end
section
namespace Go.Proofs.XCode
open Go.X Go.RowKit Go.Proofs
set_option maxRecDepth 100000
theorem hS0 (n : Nat) : CallSound Tryz.prog (callE E0 (run E0 n)) := (sound0 n).1
theorem mixed0 : Tryz.prog.follows .mixedOrders = true := by kernel_rfl
theorem fnOK1 : FnOK Tryz.prog tyT.get E1 := by
  have l0 : E0.Low 10000000 := low0
  have l1 := Env.over_low (f0 := 106) (g := iSum) l0
  have l2 := Env.over_low (f0 := 162) (g := iBlk) l1
  have l3 := Env.over_low (f0 := 166) (g := iTag) l2
  have l4 := Env.over_low (f0 := 107) (g := iXor) l3
  exact FnOK.over (FnOK.over (FnOK.over (FnOK.over (FnOK.over fnOK0 l0 (iSum_ok hS0)) l1 (iBlk_ok hS0)) l2 (iTag_ok hS0)) l3 (iXor_ok hS0)) l4 (iPut_ok hS0)
theorem sound1 (n : Nat) : CallSound Tryz.prog (callE E1 (run E1 n)) ∧ CallMono (callE E1 (run E1 n)) := run_sound' tyOK fnOK1 mixed0 n
theorem play_ok : IntrOK Tryz.prog 9 (fun _ => iSub needPlay argsPlay resPlay newPlay) := iSub_ok (sound1 5000).1 (sound1 5000).2 play_chk
theorem runs_ok : IntrOK Tryz.prog 11 (fun _ => iSub needRun argsRun resRun newRun) := iSub_ok (sound1 5000).1 (sound1 5000).2 run_chk
theorem fnOKW : FnOK Tryz.prog tyT.get EW := by
  have hb : (Tryz.f4.body).isSome = true := by kernel_rfl
  obtain ⟨c, hc⟩ := Option.isSome_iff_exists.1 hb
  exact FnOK.add (FnOK.over (FnOK.over fnOK0 low0 play_ok) (Env.over_low low0) runs_ok) Tryz.func4 hc works_mk (enters_of Tryz.func4 (by kernel_rfl) rfl)
theorem works_ok : IntrOK Tryz.prog 4 (fun _ => iFlat needW [] (.bool true)) := iFlat_ok (run_sound' tyOK fnOKW mixed0 2000).1 works_chk
noncomputable def E2 : Env := E0.over 4 10000000 (iFlat needW [] (.bool true))
theorem fnOK2 : FnOK Tryz.prog tyT.get E2 := FnOK.over fnOK0 low0 works_ok
theorem sound2 (n : Nat) : CallSound Tryz.prog (callE E2 (run E2 n)) ∧ CallMono (callE E2 (run E2 n)) := run_sound' tyOK fnOK2 mixed0 n
theorem hE2 : IntrMono E2 := IntrMono.over hE0
theorem works_none : E0.fn 4 = none := by
  have h : fnT.get 4 = none := by kernel_rfl
  simp only [E0, mkEnv, h]
theorem le2 : LeE E0 E2 := LeE.over hE0 low0 works_none
theorem iFlat_hit {need : List (Nat × XO)} {r : XV} {h : XH} (hs : subB need h = true) : iFlat need [] r [] h = some (r, h) := by
  unfold iFlat
  rw [hs]
  rfl
theorem XV.beqs_selfO (o : XO) (hc : ∃ c r t, o = .cells c r t) : oBeq o o = true := by
  obtain ⟨c, r, t, rfl⟩ := hc
  have h1 : bB r r = true := by cases r <;> rfl
  have h2 : oN t t = true := by
    cases t with
    | none => rfl
    | some n => exact Nat.beq_refl n
  simp only [oBeq, XV.beqs_self, h1, h2, Bool.and_self]
theorem sub_asc {h : XH} (hg : h.get 1 = some ascO) : subB needW h = true := by
  show (hasB h 1 ascO && true) = true
  unfold hasB
  rw [hg]
  show (oBeq ascO ascO && true) = true
  rw [XV.beqs_selfO ascO ⟨_, _, _, rfl⟩]
  rfl
theorem works_ev (h : XH) (hg : h.get 1 = some ascO) : CallEv E2 4 [] h (fun r k => r = .bool true ∧ k = h) := by
  refine call_intr' (E := E2) (Env.over_hit E0 _ _ _) 0 (v := .bool true) (h' := h) ?_ ⟨rfl, rfl⟩
  exact iFlat_hit (sub_asc hg)
end Go.Proofs.XCode
end
section
namespace Go.Proofs.XCode
open Go.X Go.RowKit Go.Proofs
set_option maxRecDepth 100000
set_option linter.unusedSimpArgs false
set_option linter.unusedVariables false
theorem callPl_ex {E : Env} {K : List Kont} {fr : XF} {h : XH} {Q : Ex → XF → XH → Prop} {f : FuncId} {args : List XV} {d : Option Ix} {l : List PItem} {hs : List XH} {as0 : List NewO} {cs : List Chk} {QC : XV → XH → Prop} (hc : CallEv E f args h QC) (hq : ∀ v h', QC v h' → PlanGo E l K (XF.put fr d v) h' (h' :: hs) as0 cs Q) : CallPl E f args h d l K fr hs as0 cs Q := by
  obtain ⟨n, r, h1, hr, hk⟩ := hc
  exact ⟨n, r, h1, hr, hq _ _ hk⟩
theorem law_fn : E2.fn n_escutcheontop_TopOnce = some (.fn x_escutcheontop_TopOnce) := le2.fn _ _ fn_escutcheontop_TopOnce
theorem putBig_last (v : Nat) : (putBig v 8).getD 7 0 = v % 256 := rfl
theorem nonce_leq {a b : Nat} (ha : a < 256) (hb : b < 256) : leq (List.replicate 4 0 ++ putBig a 8) (List.replicate 4 0 ++ putBig b 8) = decide (a = b) := by
  by_cases h : a = b
  · subst h
    rw [decide_eq_true rfl]
    exact (leq_iff _ _).2 rfl
  · rw [decide_eq_false h]
    cases e : leq (List.replicate 4 0 ++ putBig a 8) (List.replicate 4 0 ++ putBig b 8) with
    | false => rfl
    | true =>
      exfalso
      have h1 := List.append_cancel_left ((leq_iff _ _).1 e)
      have h2 := congrArg (fun l => l.getD 7 0) h1
      simp only [putBig_last] at h2
      omega
set_option maxHeartbeats 8000000 in
theorem law_good (secret salt : List Nat) (a b : Nat) (h1 : ∀ i, secret.getD i 0 < 256) (h2 : ∀ i, salt.getD i 0 < 256) (l1 : secret.length ≤ 60) (l2 : salt.length ≤ 60) (ha : a < 96) (hb : b < 96) (h : XH) (hg : h.get 1 = some ascO) (hn : 1 < h.next) :
    CallEv E2 n_escutcheontop_TopOnce [.str secret, .str salt, .int .i64 (.ofNat a), .int .i64 (.ofNat b)] h (fun r k => r = .bool true ∧ HExt h k) := by
  have d1 : decide (60 < secret.length) = false := decide_eq_false (by omega)
  have d2 : decide (60 < salt.length) = false := decide_eq_false (by omega)
  have d3 : decide (a < 0) = false := rfl
  have d4 : decide (b < 0) = false := rfl
  have d5 : decide (96 ≤ a) = false := decide_eq_false (by omega)
  have d6 : decide (96 ≤ b) = false := decide_eq_false (by omega)
  refine call_fn law_fn ?_
  simp only [args0_cons, args0_nil]
  repeat with_reducible first
    | refine go_seq hE2 ?_ | refine go_region ?_ | refine ops_nil ?_ | refine ret_seq.2 ?_
    | (refine ops_cw hE2 ?_; simp (disch := first | omega | decide) only [eff, runE, bE, u_not, Bool.not_true, d1, d2, d3, d4, d5, d6, decide_true, decide_false, cond_true, cond_false])
    | (refine ops_op ?_; simp (disch := first | omega | decide) only [eff, runE, bE, u_not, Bool.not_true, d1, d2, d3, d4, d5, d6, decide_true, decide_false, cond_true, cond_false]; refine rgo ?_)
    | refine go_drawn ?_
    | (refine plan_call hE2 (wanted_none _) ?_; simp (disch := first | omega | decide) only [eff, runE, bE, u_not, Bool.not_true, d1, d2, d3, d4, d5, d6, decide_true, decide_false, cond_true, cond_false])
    | (refine plan_op ?_; simp (disch := first | omega | decide) only [eff, runE, bE, u_not, Bool.not_true, d1, d2, d3, d4, d5, d6, decide_true, decide_false, cond_true, cond_false]; refine plgo ?_)
    | refine go_block ?_ | refine go_skip ?_ | refine go_exit ?_ | refine go_ret ?_
    | refine ret_seq_x.2 ?_ | refine ret_seq_r.2 ?_ | refine ret_block.2 ?_ | refine ret_block_hit.2 ?_ | refine (ret_block_miss rfl).2 ?_ | refine ret_block_r.2 ?_ | refine ret_loop_x.2 ?_ | refine ret_loop_r.2 ?_
    | (refine go_cond ?_; simp (disch := first | omega | decide) only [eff, runE, bE, u_not, Bool.not_true, d1, d2, d3, d4, d5, d6, decide_true, decide_false, cond_true, cond_false]; first | refine condGo_true ?_ | refine condGo_false ?_)
  refine callGo_of (works_ev h hg) ?_
  repeat with_reducible first
    | refine go_seq hE2 ?_ | refine go_region ?_ | refine ops_nil ?_ | refine ret_seq.2 ?_
    | (refine ops_cw hE2 ?_; simp (disch := first | omega | decide) only [eff, runE, bE, u_not, Bool.not_true, d1, d2, d3, d4, d5, d6, decide_true, decide_false, cond_true, cond_false])
    | (refine ops_op ?_; simp (disch := first | omega | decide) only [eff, runE, bE, u_not, Bool.not_true, d1, d2, d3, d4, d5, d6, decide_true, decide_false, cond_true, cond_false]; refine rgo ?_)
    | refine go_drawn ?_
    | (refine plan_call hE2 (wanted_none _) ?_; simp (disch := first | omega | decide) only [eff, runE, bE, u_not, Bool.not_true, d1, d2, d3, d4, d5, d6, decide_true, decide_false, cond_true, cond_false])
    | (refine plan_op ?_; simp (disch := first | omega | decide) only [eff, runE, bE, u_not, Bool.not_true, d1, d2, d3, d4, d5, d6, decide_true, decide_false, cond_true, cond_false]; refine plgo ?_)
    | refine go_block ?_ | refine go_skip ?_ | refine go_exit ?_ | refine go_ret ?_
    | refine ret_seq_x.2 ?_ | refine ret_seq_r.2 ?_ | refine ret_block.2 ?_ | refine ret_block_hit.2 ?_ | refine (ret_block_miss rfl).2 ?_ | refine ret_block_r.2 ?_ | refine ret_loop_x.2 ?_ | refine ret_loop_r.2 ?_
    | (refine go_cond ?_; simp (disch := first | omega | decide) only [eff, runE, bE, u_not, Bool.not_true, d1, d2, d3, d4, d5, d6, decide_true, decide_false, cond_true, cond_false]; first | refine condGo_true ?_ | refine condGo_false ?_)
  refine callGo_ex ((Session_call secret salt h1 h2 (by omega) (by omega) _).le le2) ?_
  rintro _ k1 ⟨rfl, x1⟩
  repeat with_reducible first
    | refine go_seq hE2 ?_ | refine go_region ?_ | refine ops_nil ?_ | refine ret_seq.2 ?_
    | (refine ops_cw hE2 ?_; simp (disch := first | omega | decide) only [eff, runE, bE, decide_true, decide_false, cond_true, cond_false])
    | (refine ops_op ?_; simp (disch := first | omega | decide) only [eff, runE, bE, decide_true, decide_false, cond_true, cond_false]; refine rgo ?_)
    | refine go_drawn ?_
    | (refine plan_call hE2 (wanted_none _) ?_; simp (disch := first | omega | decide) only [eff, runE, bE, decide_true, decide_false, cond_true, cond_false])
    | (refine plan_op ?_; simp (disch := first | omega | decide) only [eff, runE, bE, decide_true, decide_false, cond_true, cond_false]; refine plgo ?_)
    | refine go_block ?_ | refine go_skip ?_ | refine go_exit ?_ | refine go_ret ?_
    | refine ret_seq_x.2 ?_ | refine ret_seq_r.2 ?_ | refine ret_block.2 ?_ | refine ret_block_hit.2 ?_ | refine (ret_block_miss rfl).2 ?_ | refine ret_block_r.2 ?_ | refine ret_loop_x.2 ?_ | refine ret_loop_r.2 ?_
    | (refine go_cond ?_; simp (disch := first | omega | decide) only [eff, runE, bE, decide_true, decide_false, cond_true, cond_false]; first | refine condGo_true ?_ | refine condGo_false ?_)
  have st := e_storeN (get_new_same k1 (.cells [.str [], .str []] false (some (Nat.mul 2 24)))) (n := 2) (vs := [.str (keyL secret salt upB), .str (keyL secret salt downB)]) rfl rfl rfl
  repeat with_reducible first
    | refine go_seq hE2 ?_ | refine go_region ?_ | refine ops_nil ?_ | refine ret_seq.2 ?_
    | (refine ops_cw hE2 ?_; simp (disch := first | omega | decide) only [eff, runE, bE, st, decide_true, decide_false, cond_true, cond_false])
    | (refine ops_op ?_; simp (disch := first | omega | decide) only [eff, runE, bE, st, decide_true, decide_false, cond_true, cond_false]; refine rgo ?_)
    | refine go_drawn ?_
    | (refine plan_call hE2 (wanted_none _) ?_; simp (disch := first | omega | decide) only [eff, runE, bE, st, decide_true, decide_false, cond_true, cond_false])
    | (refine plan_op ?_; simp (disch := first | omega | decide) only [eff, runE, bE, st, decide_true, decide_false, cond_true, cond_false]; refine plgo ?_)
    | refine go_block ?_ | refine go_skip ?_ | refine go_exit ?_ | refine go_ret ?_
    | refine ret_seq_x.2 ?_ | refine ret_seq_r.2 ?_ | refine ret_block.2 ?_ | refine ret_block_hit.2 ?_ | refine (ret_block_miss rfl).2 ?_ | refine ret_block_r.2 ?_ | refine ret_loop_x.2 ?_ | refine ret_loop_r.2 ?_
    | (refine go_cond ?_; simp (disch := first | omega | decide) only [eff, runE, bE, st, decide_true, decide_false, cond_true, cond_false]; first | refine condGo_true ?_ | refine condGo_false ?_)
  generalize hq : (k1.new (.cells [.str [], .str []] false (some (Nat.mul 2 24)))).set k1.next (.cells [.str (keyL secret salt upB), .str (keyL secret salt downB)] false (some (Nat.mul 2 24))) = q
  have gq : q.get k1.next = some (.cells [.str (keyL secret salt upB), .str (keyL secret salt downB)] false (some (Nat.mul 2 24))) := by rw [← hq, XH.get_set, if_pos rfl]
  have xq : HExt k1 q := by rw [← hq]; exact ((HExt.refl k1).new _).set (m := k1.next) (Nat.le_refl _) _
  have nq : q.next = k1.next + 1 := by rw [← hq]; rfl
  have ld : rLoad q .one (.ptr k1.next 0) = some (.str (keyL secret salt upB)) := r_load1 (o := 0) gq rfl
  repeat with_reducible first
    | refine go_seq hE2 ?_ | refine go_region ?_ | refine ops_nil ?_ | refine ret_seq.2 ?_
    | (refine ops_cw hE2 ?_; simp (disch := first | omega | decide) only [eff, runE, bE, decide_true, decide_false, cond_true, cond_false])
    | (refine ops_op ?_; simp (disch := first | omega | decide) only [eff, runE, bE, decide_true, decide_false, cond_true, cond_false]; refine rgo ?_)
    | refine go_drawn ?_
    | (refine plan_call hE2 (wanted_none _) ?_; simp (disch := first | omega | decide) only [eff, runE, bE, decide_true, decide_false, cond_true, cond_false])
    | (refine plan_op ?_; simp (disch := first | omega | decide) only [eff, runE, bE, decide_true, decide_false, cond_true, cond_false]; refine plgo ?_)
    | refine go_block ?_ | refine go_skip ?_ | refine go_exit ?_ | refine go_ret ?_
    | refine ret_seq_x.2 ?_ | refine ret_seq_r.2 ?_ | refine ret_block.2 ?_ | refine ret_block_hit.2 ?_ | refine (ret_block_miss rfl).2 ?_ | refine ret_block_r.2 ?_ | refine ret_loop_x.2 ?_ | refine ret_loop_r.2 ?_
    | (refine go_cond ?_; simp (disch := first | omega | decide) only [eff, runE, bE, decide_true, decide_false, cond_true, cond_false]; first | refine condGo_true ?_ | refine condGo_false ?_)
  have kl : (keyL secret salt upB).length = 32 := expandL_len _ _
  have klt : ∀ i, (keyL secret salt upB).getD i 0 < 256 := expandL_lt _ _
  have ea : a / 8 ≤ 100 := by omega
  have eb : b / 8 ≤ 100 := by omega
  refine callPl_of ((Epoch_call a (by omega) q).le le2) ?_
  repeat with_reducible first
    | refine go_seq hE2 ?_ | refine go_region ?_ | refine ops_nil ?_ | refine ret_seq.2 ?_
    | (refine ops_cw hE2 ?_; simp (disch := first | omega | decide) only [eff, runE, bE, ld, decide_true, decide_false, cond_true, cond_false])
    | (refine ops_op ?_; simp (disch := first | omega | decide) only [eff, runE, bE, ld, decide_true, decide_false, cond_true, cond_false]; refine rgo ?_)
    | refine go_drawn ?_
    | (refine plan_call hE2 (wanted_none _) ?_; simp (disch := first | omega | decide) only [eff, runE, bE, ld, decide_true, decide_false, cond_true, cond_false])
    | (refine plan_op ?_; simp (disch := first | omega | decide) only [eff, runE, bE, ld, decide_true, decide_false, cond_true, cond_false]; refine plgo ?_)
    | refine go_block ?_ | refine go_skip ?_ | refine go_exit ?_ | refine go_ret ?_
    | refine ret_seq_x.2 ?_ | refine ret_seq_r.2 ?_ | refine ret_block.2 ?_ | refine ret_block_hit.2 ?_ | refine (ret_block_miss rfl).2 ?_ | refine ret_block_r.2 ?_ | refine ret_loop_x.2 ?_ | refine ret_loop_r.2 ?_
    | (refine go_cond ?_; simp (disch := first | omega | decide) only [eff, runE, bE, ld, decide_true, decide_false, cond_true, cond_false]; first | refine condGo_true ?_ | refine condGo_false ?_)
  refine callPl_ex ((At_call (keyL secret salt upB) (a / 8) klt kl ea q).le le2) ?_
  rintro _ k2 ⟨rfl, x2⟩
  repeat with_reducible first
    | refine go_seq hE2 ?_ | refine go_region ?_ | refine ops_nil ?_ | refine ret_seq.2 ?_
    | (refine ops_cw hE2 ?_; simp (disch := first | omega | decide) only [eff, runE, bE, ld, decide_true, decide_false, cond_true, cond_false])
    | (refine ops_op ?_; simp (disch := first | omega | decide) only [eff, runE, bE, ld, decide_true, decide_false, cond_true, cond_false]; refine rgo ?_)
    | refine go_drawn ?_
    | (refine plan_call hE2 (wanted_none _) ?_; simp (disch := first | omega | decide) only [eff, runE, bE, ld, decide_true, decide_false, cond_true, cond_false])
    | (refine plan_op ?_; simp (disch := first | omega | decide) only [eff, runE, bE, ld, decide_true, decide_false, cond_true, cond_false]; refine plgo ?_)
    | refine go_block ?_ | refine go_skip ?_ | refine go_exit ?_ | refine go_ret ?_
    | refine ret_seq_x.2 ?_ | refine ret_seq_r.2 ?_ | refine ret_block.2 ?_ | refine ret_block_hit.2 ?_ | refine (ret_block_miss rfl).2 ?_ | refine ret_block_r.2 ?_ | refine ret_loop_x.2 ?_ | refine ret_loop_r.2 ?_
    | (refine go_cond ?_; simp (disch := first | omega | decide) only [eff, runE, bE, ld, decide_true, decide_false, cond_true, cond_false]; first | refine condGo_true ?_ | refine condGo_false ?_)
  have n2 : decide (q.next ≤ k2.next) = true := decide_eq_true x2.le
  refine plan_nil (by simp (disch := first | omega | decide) only [endOk, chkAt, addNew, newOk, rangeOk, distinctN, Nat.reduceLT, Nat.reduceAdd, Nat.reduceLeDiff, bP, eff, runE, bE, ld, n2, Bool.and_self]) ?_
  have gk : k2.get k1.next = _ := (x2.get k1.next (by omega)).trans gq
  have ld2 : rLoad k2 .one (.ptr k1.next 0) = some (.str (keyL secret salt upB)) := r_load1 (o := 0) gk rfl
  repeat with_reducible first
    | refine go_seq hE2 ?_ | refine go_region ?_ | refine ops_nil ?_ | refine ret_seq.2 ?_
    | (refine ops_cw hE2 ?_; simp (disch := first | omega | decide) only [eff, runE, bE, ld2, decide_true, decide_false, cond_true, cond_false])
    | (refine ops_op ?_; simp (disch := first | omega | decide) only [eff, runE, bE, ld2, decide_true, decide_false, cond_true, cond_false]; refine rgo ?_)
    | refine go_drawn ?_
    | (refine plan_call hE2 (wanted_none _) ?_; simp (disch := first | omega | decide) only [eff, runE, bE, ld2, decide_true, decide_false, cond_true, cond_false])
    | (refine plan_op ?_; simp (disch := first | omega | decide) only [eff, runE, bE, ld2, decide_true, decide_false, cond_true, cond_false]; refine plgo ?_)
    | refine go_block ?_ | refine go_skip ?_ | refine go_exit ?_ | refine go_ret ?_
    | refine ret_seq_x.2 ?_ | refine ret_seq_r.2 ?_ | refine ret_block.2 ?_ | refine ret_block_hit.2 ?_ | refine (ret_block_miss rfl).2 ?_ | refine ret_block_r.2 ?_ | refine ret_loop_x.2 ?_ | refine ret_loop_r.2 ?_
    | (refine go_cond ?_; simp (disch := first | omega | decide) only [eff, runE, bE, ld2, decide_true, decide_false, cond_true, cond_false]; first | refine condGo_true ?_ | refine condGo_false ?_)
  refine callPl_of ((Epoch_call b (by omega) k2).le le2) ?_
  repeat with_reducible first
    | refine go_seq hE2 ?_ | refine go_region ?_ | refine ops_nil ?_ | refine ret_seq.2 ?_
    | (refine ops_cw hE2 ?_; simp (disch := first | omega | decide) only [eff, runE, bE, ld2, decide_true, decide_false, cond_true, cond_false])
    | (refine ops_op ?_; simp (disch := first | omega | decide) only [eff, runE, bE, ld2, decide_true, decide_false, cond_true, cond_false]; refine rgo ?_)
    | refine go_drawn ?_
    | (refine plan_call hE2 (wanted_none _) ?_; simp (disch := first | omega | decide) only [eff, runE, bE, ld2, decide_true, decide_false, cond_true, cond_false])
    | (refine plan_op ?_; simp (disch := first | omega | decide) only [eff, runE, bE, ld2, decide_true, decide_false, cond_true, cond_false]; refine plgo ?_)
    | refine go_block ?_ | refine go_skip ?_ | refine go_exit ?_ | refine go_ret ?_
    | refine ret_seq_x.2 ?_ | refine ret_seq_r.2 ?_ | refine ret_block.2 ?_ | refine ret_block_hit.2 ?_ | refine (ret_block_miss rfl).2 ?_ | refine ret_block_r.2 ?_ | refine ret_loop_x.2 ?_ | refine ret_loop_r.2 ?_
    | (refine go_cond ?_; simp (disch := first | omega | decide) only [eff, runE, bE, ld2, decide_true, decide_false, cond_true, cond_false]; first | refine condGo_true ?_ | refine condGo_false ?_)
  refine callPl_ex ((At_call (keyL secret salt upB) (b / 8) klt kl eb k2).le le2) ?_
  rintro _ k3 ⟨rfl, x3⟩
  repeat with_reducible first
    | refine go_seq hE2 ?_ | refine go_region ?_ | refine ops_nil ?_ | refine ret_seq.2 ?_
    | (refine ops_cw hE2 ?_; simp (disch := first | omega | decide) only [eff, runE, bE, ld2, decide_true, decide_false, cond_true, cond_false])
    | (refine ops_op ?_; simp (disch := first | omega | decide) only [eff, runE, bE, ld2, decide_true, decide_false, cond_true, cond_false]; refine rgo ?_)
    | refine go_drawn ?_
    | (refine plan_call hE2 (wanted_none _) ?_; simp (disch := first | omega | decide) only [eff, runE, bE, ld2, decide_true, decide_false, cond_true, cond_false])
    | (refine plan_op ?_; simp (disch := first | omega | decide) only [eff, runE, bE, ld2, decide_true, decide_false, cond_true, cond_false]; refine plgo ?_)
    | refine go_block ?_ | refine go_skip ?_ | refine go_exit ?_ | refine go_ret ?_
    | refine ret_seq_x.2 ?_ | refine ret_seq_r.2 ?_ | refine ret_block.2 ?_ | refine ret_block_hit.2 ?_ | refine (ret_block_miss rfl).2 ?_ | refine ret_block_r.2 ?_ | refine ret_loop_x.2 ?_ | refine ret_loop_r.2 ?_
    | (refine go_cond ?_; simp (disch := first | omega | decide) only [eff, runE, bE, ld2, decide_true, decide_false, cond_true, cond_false]; first | refine condGo_true ?_ | refine condGo_false ?_)
  have n3 : decide (k2.next ≤ k3.next) = true := decide_eq_true x3.le
  refine plan_nil (by simp (disch := first | omega | decide) only [endOk, chkAt, addNew, newOk, rangeOk, distinctN, Nat.reduceLT, Nat.reduceAdd, Nat.reduceLeDiff, bP, eff, runE, bE, ld2, n3, Bool.and_self]) ?_
  have ll1 : (atL (keyL secret salt upB) (a / 8)).length = 32 := atL_len kl _
  have ll2 : (atL (keyL secret salt upB) (b / 8)).length = 32 := atL_len kl _
  have d32 : decide (32 ≠ 32) = false := rfl
  have b_tt : xbin .bool .eql (.bool true) (.bool true) = some (.bool true) := rfl
  have b_ff : xbin .bool .eql (.bool false) (.bool false) = some (.bool true) := rfl
  have xt : HExt h k3 := ((x1.trans xq).trans x2).trans x3
  by_cases he : a / 8 = b / 8
  · have d7 : decide (a / 8 = b / 8) = true := decide_eq_true he
    have d9 : decide (¬ a / 8 = b / 8) = false := decide_eq_false (fun h => h he)
    have s2 : leq (atL (keyL secret salt upB) (a / 8)) (atL (keyL secret salt upB) (b / 8)) = true := by rw [he]; exact (leq_iff _ _).2 rfl
    have s1 : leq (List.replicate 4 0 ++ putBig a 8) (List.replicate 4 0 ++ putBig b 8) = decide (a = b) := nonce_leq (by omega) (by omega)
    have d8 : xbin .bool .eql (.bool (decide (a = b))) (.bool (decide (a = b))) = some (.bool true) := by cases decide (a = b) <;> rfl
    repeat with_reducible first
    | refine go_seq hE2 ?_ | refine go_region ?_ | refine ops_nil ?_ | refine ret_seq.2 ?_
    | (refine ops_cw hE2 ?_; simp (disch := first | omega | decide) only [eff, runE, bE, d7, d8, d9, s1, s2, b_tt, b_ff, Bool.not_true, Bool.not_false, u_not, ll1, ll2, not_true_eq_false, decide_false, decide_true, decide_false, cond_true, cond_false])
    | (refine ops_op ?_; simp (disch := first | omega | decide) only [eff, runE, bE, d7, d8, d9, s1, s2, b_tt, b_ff, Bool.not_true, Bool.not_false, u_not, ll1, ll2, not_true_eq_false, decide_false, decide_true, decide_false, cond_true, cond_false]; refine rgo ?_)
    | refine go_drawn ?_
    | (refine plan_call hE2 (wanted_none _) ?_; simp (disch := first | omega | decide) only [eff, runE, bE, d7, d8, d9, s1, s2, b_tt, b_ff, Bool.not_true, Bool.not_false, u_not, ll1, ll2, not_true_eq_false, decide_false, decide_true, decide_false, cond_true, cond_false])
    | (refine plan_op ?_; simp (disch := first | omega | decide) only [eff, runE, bE, d7, d8, d9, s1, s2, b_tt, b_ff, Bool.not_true, Bool.not_false, u_not, ll1, ll2, not_true_eq_false, decide_false, decide_true, decide_false, cond_true, cond_false]; refine plgo ?_)
    | refine go_block ?_ | refine go_skip ?_ | refine go_exit ?_ | refine go_ret ?_
    | refine ret_seq_x.2 ?_ | refine ret_seq_r.2 ?_ | refine ret_block.2 ?_ | refine ret_block_hit.2 ?_ | refine (ret_block_miss rfl).2 ?_ | refine ret_block_r.2 ?_ | refine ret_loop_x.2 ?_ | refine ret_loop_r.2 ?_
    | (refine go_cond ?_; simp (disch := first | omega | decide) only [eff, runE, bE, d7, d8, d9, s1, s2, b_tt, b_ff, Bool.not_true, Bool.not_false, u_not, ll1, ll2, not_true_eq_false, decide_false, decide_true, decide_false, cond_true, cond_false]; first | refine condGo_true ?_ | refine condGo_false ?_)
    refine callGo_of ((Epoch_call a (by omega) _).le le2) ?_
    repeat with_reducible first
    | refine go_seq hE2 ?_ | refine go_region ?_ | refine ops_nil ?_ | refine ret_seq.2 ?_
    | (refine ops_cw hE2 ?_; simp (disch := first | omega | decide) only [eff, runE, bE, d7, d8, d9, s1, s2, b_tt, b_ff, Bool.not_true, Bool.not_false, u_not, ll1, ll2, not_true_eq_false, decide_false, decide_true, decide_false, cond_true, cond_false])
    | (refine ops_op ?_; simp (disch := first | omega | decide) only [eff, runE, bE, d7, d8, d9, s1, s2, b_tt, b_ff, Bool.not_true, Bool.not_false, u_not, ll1, ll2, not_true_eq_false, decide_false, decide_true, decide_false, cond_true, cond_false]; refine rgo ?_)
    | refine go_drawn ?_
    | (refine plan_call hE2 (wanted_none _) ?_; simp (disch := first | omega | decide) only [eff, runE, bE, d7, d8, d9, s1, s2, b_tt, b_ff, Bool.not_true, Bool.not_false, u_not, ll1, ll2, not_true_eq_false, decide_false, decide_true, decide_false, cond_true, cond_false])
    | (refine plan_op ?_; simp (disch := first | omega | decide) only [eff, runE, bE, d7, d8, d9, s1, s2, b_tt, b_ff, Bool.not_true, Bool.not_false, u_not, ll1, ll2, not_true_eq_false, decide_false, decide_true, decide_false, cond_true, cond_false]; refine plgo ?_)
    | refine go_block ?_ | refine go_skip ?_ | refine go_exit ?_ | refine go_ret ?_
    | refine ret_seq_x.2 ?_ | refine ret_seq_r.2 ?_ | refine ret_block.2 ?_ | refine ret_block_hit.2 ?_ | refine (ret_block_miss rfl).2 ?_ | refine ret_block_r.2 ?_ | refine ret_loop_x.2 ?_ | refine ret_loop_r.2 ?_
    | (refine go_cond ?_; simp (disch := first | omega | decide) only [eff, runE, bE, d7, d8, d9, s1, s2, b_tt, b_ff, Bool.not_true, Bool.not_false, u_not, ll1, ll2, not_true_eq_false, decide_false, decide_true, decide_false, cond_true, cond_false]; first | refine condGo_true ?_ | refine condGo_false ?_)
    refine callGo_of ((Epoch_call b (by omega) _).le le2) ?_
    repeat with_reducible first
    | refine go_seq hE2 ?_ | refine go_region ?_ | refine ops_nil ?_ | refine ret_seq.2 ?_
    | (refine ops_cw hE2 ?_; simp (disch := first | omega | decide) only [eff, runE, bE, d7, d8, d9, s1, s2, b_tt, b_ff, Bool.not_true, Bool.not_false, u_not, ll1, ll2, not_true_eq_false, decide_false, decide_true, decide_false, cond_true, cond_false])
    | (refine ops_op ?_; simp (disch := first | omega | decide) only [eff, runE, bE, d7, d8, d9, s1, s2, b_tt, b_ff, Bool.not_true, Bool.not_false, u_not, ll1, ll2, not_true_eq_false, decide_false, decide_true, decide_false, cond_true, cond_false]; refine rgo ?_)
    | refine go_drawn ?_
    | (refine plan_call hE2 (wanted_none _) ?_; simp (disch := first | omega | decide) only [eff, runE, bE, d7, d8, d9, s1, s2, b_tt, b_ff, Bool.not_true, Bool.not_false, u_not, ll1, ll2, not_true_eq_false, decide_false, decide_true, decide_false, cond_true, cond_false])
    | (refine plan_op ?_; simp (disch := first | omega | decide) only [eff, runE, bE, d7, d8, d9, s1, s2, b_tt, b_ff, Bool.not_true, Bool.not_false, u_not, ll1, ll2, not_true_eq_false, decide_false, decide_true, decide_false, cond_true, cond_false]; refine plgo ?_)
    | refine go_block ?_ | refine go_skip ?_ | refine go_exit ?_ | refine go_ret ?_
    | refine ret_seq_x.2 ?_ | refine ret_seq_r.2 ?_ | refine ret_block.2 ?_ | refine ret_block_hit.2 ?_ | refine (ret_block_miss rfl).2 ?_ | refine ret_block_r.2 ?_ | refine ret_loop_x.2 ?_ | refine ret_loop_r.2 ?_
    | (refine go_cond ?_; simp (disch := first | omega | decide) only [eff, runE, bE, d7, d8, d9, s1, s2, b_tt, b_ff, Bool.not_true, Bool.not_false, u_not, ll1, ll2, not_true_eq_false, decide_false, decide_true, decide_false, cond_true, cond_false]; first | refine condGo_true ?_ | refine condGo_false ?_)
    refine callGo_ex ((Nonce_call a (by omega) _).le le2) ?_
    rintro _ k4 ⟨rfl, x4⟩
    repeat with_reducible first
    | refine go_seq hE2 ?_ | refine go_region ?_ | refine ops_nil ?_ | refine ret_seq.2 ?_
    | (refine ops_cw hE2 ?_; simp (disch := first | omega | decide) only [eff, runE, bE, d7, d8, d9, s1, s2, b_tt, b_ff, Bool.not_true, Bool.not_false, u_not, ll1, ll2, not_true_eq_false, decide_false, decide_true, decide_false, cond_true, cond_false])
    | (refine ops_op ?_; simp (disch := first | omega | decide) only [eff, runE, bE, d7, d8, d9, s1, s2, b_tt, b_ff, Bool.not_true, Bool.not_false, u_not, ll1, ll2, not_true_eq_false, decide_false, decide_true, decide_false, cond_true, cond_false]; refine rgo ?_)
    | refine go_drawn ?_
    | (refine plan_call hE2 (wanted_none _) ?_; simp (disch := first | omega | decide) only [eff, runE, bE, d7, d8, d9, s1, s2, b_tt, b_ff, Bool.not_true, Bool.not_false, u_not, ll1, ll2, not_true_eq_false, decide_false, decide_true, decide_false, cond_true, cond_false])
    | (refine plan_op ?_; simp (disch := first | omega | decide) only [eff, runE, bE, d7, d8, d9, s1, s2, b_tt, b_ff, Bool.not_true, Bool.not_false, u_not, ll1, ll2, not_true_eq_false, decide_false, decide_true, decide_false, cond_true, cond_false]; refine plgo ?_)
    | refine go_block ?_ | refine go_skip ?_ | refine go_exit ?_ | refine go_ret ?_
    | refine ret_seq_x.2 ?_ | refine ret_seq_r.2 ?_ | refine ret_block.2 ?_ | refine ret_block_hit.2 ?_ | refine (ret_block_miss rfl).2 ?_ | refine ret_block_r.2 ?_ | refine ret_loop_x.2 ?_ | refine ret_loop_r.2 ?_
    | (refine go_cond ?_; simp (disch := first | omega | decide) only [eff, runE, bE, d7, d8, d9, s1, s2, b_tt, b_ff, Bool.not_true, Bool.not_false, u_not, ll1, ll2, not_true_eq_false, decide_false, decide_true, decide_false, cond_true, cond_false]; first | refine condGo_true ?_ | refine condGo_false ?_)
    refine callGo_ex ((Nonce_call b (by omega) _).le le2) ?_
    rintro _ k5 ⟨rfl, x5⟩
    repeat with_reducible first
    | refine go_seq hE2 ?_ | refine go_region ?_ | refine ops_nil ?_ | refine ret_seq.2 ?_
    | (refine ops_cw hE2 ?_; simp (disch := first | omega | decide) only [eff, runE, bE, d7, d8, d9, s1, s2, b_tt, b_ff, Bool.not_true, Bool.not_false, u_not, ll1, ll2, not_true_eq_false, decide_false, decide_true, decide_false, cond_true, cond_false])
    | (refine ops_op ?_; simp (disch := first | omega | decide) only [eff, runE, bE, d7, d8, d9, s1, s2, b_tt, b_ff, Bool.not_true, Bool.not_false, u_not, ll1, ll2, not_true_eq_false, decide_false, decide_true, decide_false, cond_true, cond_false]; refine rgo ?_)
    | refine go_drawn ?_
    | (refine plan_call hE2 (wanted_none _) ?_; simp (disch := first | omega | decide) only [eff, runE, bE, d7, d8, d9, s1, s2, b_tt, b_ff, Bool.not_true, Bool.not_false, u_not, ll1, ll2, not_true_eq_false, decide_false, decide_true, decide_false, cond_true, cond_false])
    | (refine plan_op ?_; simp (disch := first | omega | decide) only [eff, runE, bE, d7, d8, d9, s1, s2, b_tt, b_ff, Bool.not_true, Bool.not_false, u_not, ll1, ll2, not_true_eq_false, decide_false, decide_true, decide_false, cond_true, cond_false]; refine plgo ?_)
    | refine go_block ?_ | refine go_skip ?_ | refine go_exit ?_ | refine go_ret ?_
    | refine ret_seq_x.2 ?_ | refine ret_seq_r.2 ?_ | refine ret_block.2 ?_ | refine ret_block_hit.2 ?_ | refine (ret_block_miss rfl).2 ?_ | refine ret_block_r.2 ?_ | refine ret_loop_x.2 ?_ | refine ret_loop_r.2 ?_
    | (refine go_cond ?_; simp (disch := first | omega | decide) only [eff, runE, bE, d7, d8, d9, s1, s2, b_tt, b_ff, Bool.not_true, Bool.not_false, u_not, ll1, ll2, not_true_eq_false, decide_false, decide_true, decide_false, cond_true, cond_false]; first | refine condGo_true ?_ | refine condGo_false ?_)
    refine callGo_of ((Epoch_call a (by omega) _).le le2) ?_
    repeat with_reducible first
    | refine go_seq hE2 ?_ | refine go_region ?_ | refine ops_nil ?_ | refine ret_seq.2 ?_
    | (refine ops_cw hE2 ?_; simp (disch := first | omega | decide) only [eff, runE, bE, d7, d8, d9, s1, s2, b_tt, b_ff, Bool.not_true, Bool.not_false, u_not, ll1, ll2, not_true_eq_false, decide_false, decide_true, decide_false, cond_true, cond_false])
    | (refine ops_op ?_; simp (disch := first | omega | decide) only [eff, runE, bE, d7, d8, d9, s1, s2, b_tt, b_ff, Bool.not_true, Bool.not_false, u_not, ll1, ll2, not_true_eq_false, decide_false, decide_true, decide_false, cond_true, cond_false]; refine rgo ?_)
    | refine go_drawn ?_
    | (refine plan_call hE2 (wanted_none _) ?_; simp (disch := first | omega | decide) only [eff, runE, bE, d7, d8, d9, s1, s2, b_tt, b_ff, Bool.not_true, Bool.not_false, u_not, ll1, ll2, not_true_eq_false, decide_false, decide_true, decide_false, cond_true, cond_false])
    | (refine plan_op ?_; simp (disch := first | omega | decide) only [eff, runE, bE, d7, d8, d9, s1, s2, b_tt, b_ff, Bool.not_true, Bool.not_false, u_not, ll1, ll2, not_true_eq_false, decide_false, decide_true, decide_false, cond_true, cond_false]; refine plgo ?_)
    | refine go_block ?_ | refine go_skip ?_ | refine go_exit ?_ | refine go_ret ?_
    | refine ret_seq_x.2 ?_ | refine ret_seq_r.2 ?_ | refine ret_block.2 ?_ | refine ret_block_hit.2 ?_ | refine (ret_block_miss rfl).2 ?_ | refine ret_block_r.2 ?_ | refine ret_loop_x.2 ?_ | refine ret_loop_r.2 ?_
    | (refine go_cond ?_; simp (disch := first | omega | decide) only [eff, runE, bE, d7, d8, d9, s1, s2, b_tt, b_ff, Bool.not_true, Bool.not_false, u_not, ll1, ll2, not_true_eq_false, decide_false, decide_true, decide_false, cond_true, cond_false]; first | refine condGo_true ?_ | refine condGo_false ?_)
    refine callGo_of ((Epoch_call b (by omega) _).le le2) ?_
    repeat with_reducible first
    | refine go_seq hE2 ?_ | refine go_region ?_ | refine ops_nil ?_ | refine ret_seq.2 ?_
    | (refine ops_cw hE2 ?_; simp (disch := first | omega | decide) only [eff, runE, bE, d7, d8, d9, s1, s2, b_tt, b_ff, Bool.not_true, Bool.not_false, u_not, ll1, ll2, not_true_eq_false, decide_false, decide_true, decide_false, cond_true, cond_false])
    | (refine ops_op ?_; simp (disch := first | omega | decide) only [eff, runE, bE, d7, d8, d9, s1, s2, b_tt, b_ff, Bool.not_true, Bool.not_false, u_not, ll1, ll2, not_true_eq_false, decide_false, decide_true, decide_false, cond_true, cond_false]; refine rgo ?_)
    | refine go_drawn ?_
    | (refine plan_call hE2 (wanted_none _) ?_; simp (disch := first | omega | decide) only [eff, runE, bE, d7, d8, d9, s1, s2, b_tt, b_ff, Bool.not_true, Bool.not_false, u_not, ll1, ll2, not_true_eq_false, decide_false, decide_true, decide_false, cond_true, cond_false])
    | (refine plan_op ?_; simp (disch := first | omega | decide) only [eff, runE, bE, d7, d8, d9, s1, s2, b_tt, b_ff, Bool.not_true, Bool.not_false, u_not, ll1, ll2, not_true_eq_false, decide_false, decide_true, decide_false, cond_true, cond_false]; refine plgo ?_)
    | refine go_block ?_ | refine go_skip ?_ | refine go_exit ?_ | refine go_ret ?_
    | refine ret_seq_x.2 ?_ | refine ret_seq_r.2 ?_ | refine ret_block.2 ?_ | refine ret_block_hit.2 ?_ | refine (ret_block_miss rfl).2 ?_ | refine ret_block_r.2 ?_ | refine ret_loop_x.2 ?_ | refine ret_loop_r.2 ?_
    | (refine go_cond ?_; simp (disch := first | omega | decide) only [eff, runE, bE, d7, d8, d9, s1, s2, b_tt, b_ff, Bool.not_true, Bool.not_false, u_not, ll1, ll2, not_true_eq_false, decide_false, decide_true, decide_false, cond_true, cond_false]; first | refine condGo_true ?_ | refine condGo_false ?_)
    refine ret_nil.2 ⟨_, fin_tmp (.inr rfl), ?_, ?_⟩
    · simp (disch := first | omega | decide) only [eff, runE, bE, d7, d8, d9, s1, s2, b_tt, b_ff, Bool.not_true, Bool.not_false, u_not, ll1, ll2, not_true_eq_false, decide_true, decide_false, cond_true, cond_false]
    · exact (xt.trans x4).trans x5
  · have d7 : decide (a / 8 = b / 8) = false := decide_eq_false he
    have d9 : decide (¬ a / 8 = b / 8) = true := decide_eq_true he
    have d8 : decide (a = b) = false := decide_eq_false (fun e => he (by rw [e]))
    have s1 := b_ff
    have s2 := b_ff
    repeat with_reducible first
    | refine go_seq hE2 ?_ | refine go_region ?_ | refine ops_nil ?_ | refine ret_seq.2 ?_
    | (refine ops_cw hE2 ?_; simp (disch := first | omega | decide) only [eff, runE, bE, d7, d8, d9, s1, s2, b_tt, b_ff, Bool.not_true, Bool.not_false, u_not, ll1, ll2, not_true_eq_false, decide_false, decide_true, decide_false, cond_true, cond_false])
    | (refine ops_op ?_; simp (disch := first | omega | decide) only [eff, runE, bE, d7, d8, d9, s1, s2, b_tt, b_ff, Bool.not_true, Bool.not_false, u_not, ll1, ll2, not_true_eq_false, decide_false, decide_true, decide_false, cond_true, cond_false]; refine rgo ?_)
    | refine go_drawn ?_
    | (refine plan_call hE2 (wanted_none _) ?_; simp (disch := first | omega | decide) only [eff, runE, bE, d7, d8, d9, s1, s2, b_tt, b_ff, Bool.not_true, Bool.not_false, u_not, ll1, ll2, not_true_eq_false, decide_false, decide_true, decide_false, cond_true, cond_false])
    | (refine plan_op ?_; simp (disch := first | omega | decide) only [eff, runE, bE, d7, d8, d9, s1, s2, b_tt, b_ff, Bool.not_true, Bool.not_false, u_not, ll1, ll2, not_true_eq_false, decide_false, decide_true, decide_false, cond_true, cond_false]; refine plgo ?_)
    | refine go_block ?_ | refine go_skip ?_ | refine go_exit ?_ | refine go_ret ?_
    | refine ret_seq_x.2 ?_ | refine ret_seq_r.2 ?_ | refine ret_block.2 ?_ | refine ret_block_hit.2 ?_ | refine (ret_block_miss rfl).2 ?_ | refine ret_block_r.2 ?_ | refine ret_loop_x.2 ?_ | refine ret_loop_r.2 ?_
    | (refine go_cond ?_; simp (disch := first | omega | decide) only [eff, runE, bE, d7, d8, d9, s1, s2, b_tt, b_ff, Bool.not_true, Bool.not_false, u_not, ll1, ll2, not_true_eq_false, decide_false, decide_true, decide_false, cond_true, cond_false]; first | refine condGo_true ?_ | refine condGo_false ?_)
    refine callGo_of ((Epoch_call a (by omega) _).le le2) ?_
    repeat with_reducible first
    | refine go_seq hE2 ?_ | refine go_region ?_ | refine ops_nil ?_ | refine ret_seq.2 ?_
    | (refine ops_cw hE2 ?_; simp (disch := first | omega | decide) only [eff, runE, bE, d7, d8, d9, s1, s2, b_tt, b_ff, Bool.not_true, Bool.not_false, u_not, ll1, ll2, not_true_eq_false, decide_false, decide_true, decide_false, cond_true, cond_false])
    | (refine ops_op ?_; simp (disch := first | omega | decide) only [eff, runE, bE, d7, d8, d9, s1, s2, b_tt, b_ff, Bool.not_true, Bool.not_false, u_not, ll1, ll2, not_true_eq_false, decide_false, decide_true, decide_false, cond_true, cond_false]; refine rgo ?_)
    | refine go_drawn ?_
    | (refine plan_call hE2 (wanted_none _) ?_; simp (disch := first | omega | decide) only [eff, runE, bE, d7, d8, d9, s1, s2, b_tt, b_ff, Bool.not_true, Bool.not_false, u_not, ll1, ll2, not_true_eq_false, decide_false, decide_true, decide_false, cond_true, cond_false])
    | (refine plan_op ?_; simp (disch := first | omega | decide) only [eff, runE, bE, d7, d8, d9, s1, s2, b_tt, b_ff, Bool.not_true, Bool.not_false, u_not, ll1, ll2, not_true_eq_false, decide_false, decide_true, decide_false, cond_true, cond_false]; refine plgo ?_)
    | refine go_block ?_ | refine go_skip ?_ | refine go_exit ?_ | refine go_ret ?_
    | refine ret_seq_x.2 ?_ | refine ret_seq_r.2 ?_ | refine ret_block.2 ?_ | refine ret_block_hit.2 ?_ | refine (ret_block_miss rfl).2 ?_ | refine ret_block_r.2 ?_ | refine ret_loop_x.2 ?_ | refine ret_loop_r.2 ?_
    | (refine go_cond ?_; simp (disch := first | omega | decide) only [eff, runE, bE, d7, d8, d9, s1, s2, b_tt, b_ff, Bool.not_true, Bool.not_false, u_not, ll1, ll2, not_true_eq_false, decide_false, decide_true, decide_false, cond_true, cond_false]; first | refine condGo_true ?_ | refine condGo_false ?_)
    refine callGo_of ((Epoch_call b (by omega) _).le le2) ?_
    repeat with_reducible first
    | refine go_seq hE2 ?_ | refine go_region ?_ | refine ops_nil ?_ | refine ret_seq.2 ?_
    | (refine ops_cw hE2 ?_; simp (disch := first | omega | decide) only [eff, runE, bE, d7, d8, d9, s1, s2, b_tt, b_ff, Bool.not_true, Bool.not_false, u_not, ll1, ll2, not_true_eq_false, decide_false, decide_true, decide_false, cond_true, cond_false])
    | (refine ops_op ?_; simp (disch := first | omega | decide) only [eff, runE, bE, d7, d8, d9, s1, s2, b_tt, b_ff, Bool.not_true, Bool.not_false, u_not, ll1, ll2, not_true_eq_false, decide_false, decide_true, decide_false, cond_true, cond_false]; refine rgo ?_)
    | refine go_drawn ?_
    | (refine plan_call hE2 (wanted_none _) ?_; simp (disch := first | omega | decide) only [eff, runE, bE, d7, d8, d9, s1, s2, b_tt, b_ff, Bool.not_true, Bool.not_false, u_not, ll1, ll2, not_true_eq_false, decide_false, decide_true, decide_false, cond_true, cond_false])
    | (refine plan_op ?_; simp (disch := first | omega | decide) only [eff, runE, bE, d7, d8, d9, s1, s2, b_tt, b_ff, Bool.not_true, Bool.not_false, u_not, ll1, ll2, not_true_eq_false, decide_false, decide_true, decide_false, cond_true, cond_false]; refine plgo ?_)
    | refine go_block ?_ | refine go_skip ?_ | refine go_exit ?_ | refine go_ret ?_
    | refine ret_seq_x.2 ?_ | refine ret_seq_r.2 ?_ | refine ret_block.2 ?_ | refine ret_block_hit.2 ?_ | refine (ret_block_miss rfl).2 ?_ | refine ret_block_r.2 ?_ | refine ret_loop_x.2 ?_ | refine ret_loop_r.2 ?_
    | (refine go_cond ?_; simp (disch := first | omega | decide) only [eff, runE, bE, d7, d8, d9, s1, s2, b_tt, b_ff, Bool.not_true, Bool.not_false, u_not, ll1, ll2, not_true_eq_false, decide_false, decide_true, decide_false, cond_true, cond_false]; first | refine condGo_true ?_ | refine condGo_false ?_)
    refine callGo_of ((Epoch_call a (by omega) _).le le2) ?_
    repeat with_reducible first
    | refine go_seq hE2 ?_ | refine go_region ?_ | refine ops_nil ?_ | refine ret_seq.2 ?_
    | (refine ops_cw hE2 ?_; simp (disch := first | omega | decide) only [eff, runE, bE, d7, d8, d9, s1, s2, b_tt, b_ff, Bool.not_true, Bool.not_false, u_not, ll1, ll2, not_true_eq_false, decide_false, decide_true, decide_false, cond_true, cond_false])
    | (refine ops_op ?_; simp (disch := first | omega | decide) only [eff, runE, bE, d7, d8, d9, s1, s2, b_tt, b_ff, Bool.not_true, Bool.not_false, u_not, ll1, ll2, not_true_eq_false, decide_false, decide_true, decide_false, cond_true, cond_false]; refine rgo ?_)
    | refine go_drawn ?_
    | (refine plan_call hE2 (wanted_none _) ?_; simp (disch := first | omega | decide) only [eff, runE, bE, d7, d8, d9, s1, s2, b_tt, b_ff, Bool.not_true, Bool.not_false, u_not, ll1, ll2, not_true_eq_false, decide_false, decide_true, decide_false, cond_true, cond_false])
    | (refine plan_op ?_; simp (disch := first | omega | decide) only [eff, runE, bE, d7, d8, d9, s1, s2, b_tt, b_ff, Bool.not_true, Bool.not_false, u_not, ll1, ll2, not_true_eq_false, decide_false, decide_true, decide_false, cond_true, cond_false]; refine plgo ?_)
    | refine go_block ?_ | refine go_skip ?_ | refine go_exit ?_ | refine go_ret ?_
    | refine ret_seq_x.2 ?_ | refine ret_seq_r.2 ?_ | refine ret_block.2 ?_ | refine ret_block_hit.2 ?_ | refine (ret_block_miss rfl).2 ?_ | refine ret_block_r.2 ?_ | refine ret_loop_x.2 ?_ | refine ret_loop_r.2 ?_
    | (refine go_cond ?_; simp (disch := first | omega | decide) only [eff, runE, bE, d7, d8, d9, s1, s2, b_tt, b_ff, Bool.not_true, Bool.not_false, u_not, ll1, ll2, not_true_eq_false, decide_false, decide_true, decide_false, cond_true, cond_false]; first | refine condGo_true ?_ | refine condGo_false ?_)
    refine callGo_of ((Epoch_call b (by omega) _).le le2) ?_
    repeat with_reducible first
    | refine go_seq hE2 ?_ | refine go_region ?_ | refine ops_nil ?_ | refine ret_seq.2 ?_
    | (refine ops_cw hE2 ?_; simp (disch := first | omega | decide) only [eff, runE, bE, d7, d8, d9, s1, s2, b_tt, b_ff, Bool.not_true, Bool.not_false, u_not, ll1, ll2, not_true_eq_false, decide_false, decide_true, decide_false, cond_true, cond_false])
    | (refine ops_op ?_; simp (disch := first | omega | decide) only [eff, runE, bE, d7, d8, d9, s1, s2, b_tt, b_ff, Bool.not_true, Bool.not_false, u_not, ll1, ll2, not_true_eq_false, decide_false, decide_true, decide_false, cond_true, cond_false]; refine rgo ?_)
    | refine go_drawn ?_
    | (refine plan_call hE2 (wanted_none _) ?_; simp (disch := first | omega | decide) only [eff, runE, bE, d7, d8, d9, s1, s2, b_tt, b_ff, Bool.not_true, Bool.not_false, u_not, ll1, ll2, not_true_eq_false, decide_false, decide_true, decide_false, cond_true, cond_false])
    | (refine plan_op ?_; simp (disch := first | omega | decide) only [eff, runE, bE, d7, d8, d9, s1, s2, b_tt, b_ff, Bool.not_true, Bool.not_false, u_not, ll1, ll2, not_true_eq_false, decide_false, decide_true, decide_false, cond_true, cond_false]; refine plgo ?_)
    | refine go_block ?_ | refine go_skip ?_ | refine go_exit ?_ | refine go_ret ?_
    | refine ret_seq_x.2 ?_ | refine ret_seq_r.2 ?_ | refine ret_block.2 ?_ | refine ret_block_hit.2 ?_ | refine (ret_block_miss rfl).2 ?_ | refine ret_block_r.2 ?_ | refine ret_loop_x.2 ?_ | refine ret_loop_r.2 ?_
    | (refine go_cond ?_; simp (disch := first | omega | decide) only [eff, runE, bE, d7, d8, d9, s1, s2, b_tt, b_ff, Bool.not_true, Bool.not_false, u_not, ll1, ll2, not_true_eq_false, decide_false, decide_true, decide_false, cond_true, cond_false]; first | refine condGo_true ?_ | refine condGo_false ?_)
    refine ret_nil.2 ⟨_, fin_tmp (.inr rfl), ?_, ?_⟩
    · simp (disch := first | omega | decide) only [eff, runE, bE, d7, d8, d9, s1, s2, b_tt, b_ff, Bool.not_true, Bool.not_false, u_not, ll1, ll2, not_true_eq_false, decide_true, decide_false, cond_true, cond_false]
    · exact xt
end Go.Proofs.XCode
end
section
namespace Go.Proofs.XCode
open Go.X Go.RowKit Go.Proofs
set_option maxRecDepth 100000
set_option linter.unusedSimpArgs false
set_option linter.unusedVariables false
set_option maxHeartbeats 8000000 in
theorem law_ev (secret salt : List Nat) (a b : Int) (h1 : ∀ i, secret.getD i 0 < 256) (h2 : ∀ i, salt.getD i 0 < 256) (h : XH) (hg : h.get 1 = some ascO) (hn : 1 < h.next) :
    CallEv E2 n_escutcheontop_TopOnce [.str secret, .str salt, .int .i64 a, .int .i64 b] h (fun r k => r = .bool true ∧ HExt h k) := by
  by_cases c1 : 60 < secret.length
  · have d1 : decide (60 < secret.length) = true := decide_eq_true c1
    refine call_fn law_fn ?_
    simp only [args0_cons, args0_nil]
    repeat with_reducible first
    | refine go_seq hE2 ?_ | refine go_region ?_ | refine ops_nil ?_ | refine ret_seq.2 ?_
    | (refine ops_cw hE2 ?_; simp (disch := first | omega | decide) only [eff, runE, bE, u_not, Bool.not_true, Bool.not_false, b_lss_neg, d1, decide_true, decide_false, cond_true, cond_false])
    | (refine ops_op ?_; simp (disch := first | omega | decide) only [eff, runE, bE, u_not, Bool.not_true, Bool.not_false, b_lss_neg, d1, decide_true, decide_false, cond_true, cond_false]; refine rgo ?_)
    | refine go_block ?_ | refine go_skip ?_ | refine go_exit ?_ | refine go_ret ?_
    | refine ret_seq_x.2 ?_ | refine ret_seq_r.2 ?_ | refine ret_block.2 ?_ | refine ret_block_hit.2 ?_ | refine (ret_block_miss rfl).2 ?_ | refine ret_block_r.2 ?_ | refine ret_loop_x.2 ?_ | refine ret_loop_r.2 ?_
    | (refine go_cond ?_; simp (disch := first | omega | decide) only [eff, runE, bE, u_not, Bool.not_true, Bool.not_false, b_lss_neg, d1, decide_true, decide_false, cond_true, cond_false]; first | refine condGo_true ?_ | refine condGo_false ?_)
    refine callGo_of (works_ev h hg) ?_
    repeat with_reducible first
    | refine go_seq hE2 ?_ | refine go_region ?_ | refine ops_nil ?_ | refine ret_seq.2 ?_
    | (refine ops_cw hE2 ?_; simp (disch := first | omega | decide) only [eff, runE, bE, u_not, Bool.not_true, Bool.not_false, b_lss_neg, d1, decide_true, decide_false, cond_true, cond_false])
    | (refine ops_op ?_; simp (disch := first | omega | decide) only [eff, runE, bE, u_not, Bool.not_true, Bool.not_false, b_lss_neg, d1, decide_true, decide_false, cond_true, cond_false]; refine rgo ?_)
    | refine go_block ?_ | refine go_skip ?_ | refine go_exit ?_ | refine go_ret ?_
    | refine ret_seq_x.2 ?_ | refine ret_seq_r.2 ?_ | refine ret_block.2 ?_ | refine ret_block_hit.2 ?_ | refine (ret_block_miss rfl).2 ?_ | refine ret_block_r.2 ?_ | refine ret_loop_x.2 ?_ | refine ret_loop_r.2 ?_
    | (refine go_cond ?_; simp (disch := first | omega | decide) only [eff, runE, bE, u_not, Bool.not_true, Bool.not_false, b_lss_neg, d1, decide_true, decide_false, cond_true, cond_false]; first | refine condGo_true ?_ | refine condGo_false ?_)
    refine callGo_of (works_ev h hg) ?_
    repeat with_reducible first
    | refine go_seq hE2 ?_ | refine go_region ?_ | refine ops_nil ?_ | refine ret_seq.2 ?_
    | (refine ops_cw hE2 ?_; simp (disch := first | omega | decide) only [eff, runE, bE, u_not, Bool.not_true, Bool.not_false, b_lss_neg, d1, decide_true, decide_false, cond_true, cond_false])
    | (refine ops_op ?_; simp (disch := first | omega | decide) only [eff, runE, bE, u_not, Bool.not_true, Bool.not_false, b_lss_neg, d1, decide_true, decide_false, cond_true, cond_false]; refine rgo ?_)
    | refine go_block ?_ | refine go_skip ?_ | refine go_exit ?_ | refine go_ret ?_
    | refine ret_seq_x.2 ?_ | refine ret_seq_r.2 ?_ | refine ret_block.2 ?_ | refine ret_block_hit.2 ?_ | refine (ret_block_miss rfl).2 ?_ | refine ret_block_r.2 ?_ | refine ret_loop_x.2 ?_ | refine ret_loop_r.2 ?_
    | (refine go_cond ?_; simp (disch := first | omega | decide) only [eff, runE, bE, u_not, Bool.not_true, Bool.not_false, b_lss_neg, d1, decide_true, decide_false, cond_true, cond_false]; first | refine condGo_true ?_ | refine condGo_false ?_)
    refine ret_nil.2 ⟨_, fin_tmp (.inr rfl), ?_, HExt.refl h⟩
    simp (disch := first | omega | decide) only [eff, runE, bE, u_not, Bool.not_true, Bool.not_false, b_lss_neg, d1, decide_true, decide_false, cond_true, cond_false]
  have d1 : decide (60 < secret.length) = false := decide_eq_false c1
  by_cases c2 : 60 < salt.length
  · have d2 : decide (60 < salt.length) = true := decide_eq_true c2
    refine call_fn law_fn ?_
    simp only [args0_cons, args0_nil]
    repeat with_reducible first
    | refine go_seq hE2 ?_ | refine go_region ?_ | refine ops_nil ?_ | refine ret_seq.2 ?_
    | (refine ops_cw hE2 ?_; simp (disch := first | omega | decide) only [eff, runE, bE, u_not, Bool.not_true, Bool.not_false, b_lss_neg, d1, d2, decide_true, decide_false, cond_true, cond_false])
    | (refine ops_op ?_; simp (disch := first | omega | decide) only [eff, runE, bE, u_not, Bool.not_true, Bool.not_false, b_lss_neg, d1, d2, decide_true, decide_false, cond_true, cond_false]; refine rgo ?_)
    | refine go_block ?_ | refine go_skip ?_ | refine go_exit ?_ | refine go_ret ?_
    | refine ret_seq_x.2 ?_ | refine ret_seq_r.2 ?_ | refine ret_block.2 ?_ | refine ret_block_hit.2 ?_ | refine (ret_block_miss rfl).2 ?_ | refine ret_block_r.2 ?_ | refine ret_loop_x.2 ?_ | refine ret_loop_r.2 ?_
    | (refine go_cond ?_; simp (disch := first | omega | decide) only [eff, runE, bE, u_not, Bool.not_true, Bool.not_false, b_lss_neg, d1, d2, decide_true, decide_false, cond_true, cond_false]; first | refine condGo_true ?_ | refine condGo_false ?_)
    refine callGo_of (works_ev h hg) ?_
    repeat with_reducible first
    | refine go_seq hE2 ?_ | refine go_region ?_ | refine ops_nil ?_ | refine ret_seq.2 ?_
    | (refine ops_cw hE2 ?_; simp (disch := first | omega | decide) only [eff, runE, bE, u_not, Bool.not_true, Bool.not_false, b_lss_neg, d1, d2, decide_true, decide_false, cond_true, cond_false])
    | (refine ops_op ?_; simp (disch := first | omega | decide) only [eff, runE, bE, u_not, Bool.not_true, Bool.not_false, b_lss_neg, d1, d2, decide_true, decide_false, cond_true, cond_false]; refine rgo ?_)
    | refine go_block ?_ | refine go_skip ?_ | refine go_exit ?_ | refine go_ret ?_
    | refine ret_seq_x.2 ?_ | refine ret_seq_r.2 ?_ | refine ret_block.2 ?_ | refine ret_block_hit.2 ?_ | refine (ret_block_miss rfl).2 ?_ | refine ret_block_r.2 ?_ | refine ret_loop_x.2 ?_ | refine ret_loop_r.2 ?_
    | (refine go_cond ?_; simp (disch := first | omega | decide) only [eff, runE, bE, u_not, Bool.not_true, Bool.not_false, b_lss_neg, d1, d2, decide_true, decide_false, cond_true, cond_false]; first | refine condGo_true ?_ | refine condGo_false ?_)
    refine callGo_of (works_ev h hg) ?_
    repeat with_reducible first
    | refine go_seq hE2 ?_ | refine go_region ?_ | refine ops_nil ?_ | refine ret_seq.2 ?_
    | (refine ops_cw hE2 ?_; simp (disch := first | omega | decide) only [eff, runE, bE, u_not, Bool.not_true, Bool.not_false, b_lss_neg, d1, d2, decide_true, decide_false, cond_true, cond_false])
    | (refine ops_op ?_; simp (disch := first | omega | decide) only [eff, runE, bE, u_not, Bool.not_true, Bool.not_false, b_lss_neg, d1, d2, decide_true, decide_false, cond_true, cond_false]; refine rgo ?_)
    | refine go_block ?_ | refine go_skip ?_ | refine go_exit ?_ | refine go_ret ?_
    | refine ret_seq_x.2 ?_ | refine ret_seq_r.2 ?_ | refine ret_block.2 ?_ | refine ret_block_hit.2 ?_ | refine (ret_block_miss rfl).2 ?_ | refine ret_block_r.2 ?_ | refine ret_loop_x.2 ?_ | refine ret_loop_r.2 ?_
    | (refine go_cond ?_; simp (disch := first | omega | decide) only [eff, runE, bE, u_not, Bool.not_true, Bool.not_false, b_lss_neg, d1, d2, decide_true, decide_false, cond_true, cond_false]; first | refine condGo_true ?_ | refine condGo_false ?_)
    refine ret_nil.2 ⟨_, fin_tmp (.inr rfl), ?_, HExt.refl h⟩
    simp (disch := first | omega | decide) only [eff, runE, bE, u_not, Bool.not_true, Bool.not_false, b_lss_neg, d1, d2, decide_true, decide_false, cond_true, cond_false]
  have d2 : decide (60 < salt.length) = false := decide_eq_false c2
  rcases a with a | a
  rotate_left
  · skip
    refine call_fn law_fn ?_
    simp only [args0_cons, args0_nil]
    repeat with_reducible first
    | refine go_seq hE2 ?_ | refine go_region ?_ | refine ops_nil ?_ | refine ret_seq.2 ?_
    | (refine ops_cw hE2 ?_; simp (disch := first | omega | decide) only [eff, runE, bE, u_not, Bool.not_true, Bool.not_false, b_lss_neg, d1, d2, decide_true, decide_false, cond_true, cond_false])
    | (refine ops_op ?_; simp (disch := first | omega | decide) only [eff, runE, bE, u_not, Bool.not_true, Bool.not_false, b_lss_neg, d1, d2, decide_true, decide_false, cond_true, cond_false]; refine rgo ?_)
    | refine go_block ?_ | refine go_skip ?_ | refine go_exit ?_ | refine go_ret ?_
    | refine ret_seq_x.2 ?_ | refine ret_seq_r.2 ?_ | refine ret_block.2 ?_ | refine ret_block_hit.2 ?_ | refine (ret_block_miss rfl).2 ?_ | refine ret_block_r.2 ?_ | refine ret_loop_x.2 ?_ | refine ret_loop_r.2 ?_
    | (refine go_cond ?_; simp (disch := first | omega | decide) only [eff, runE, bE, u_not, Bool.not_true, Bool.not_false, b_lss_neg, d1, d2, decide_true, decide_false, cond_true, cond_false]; first | refine condGo_true ?_ | refine condGo_false ?_)
    refine callGo_of (works_ev h hg) ?_
    repeat with_reducible first
    | refine go_seq hE2 ?_ | refine go_region ?_ | refine ops_nil ?_ | refine ret_seq.2 ?_
    | (refine ops_cw hE2 ?_; simp (disch := first | omega | decide) only [eff, runE, bE, u_not, Bool.not_true, Bool.not_false, b_lss_neg, d1, d2, decide_true, decide_false, cond_true, cond_false])
    | (refine ops_op ?_; simp (disch := first | omega | decide) only [eff, runE, bE, u_not, Bool.not_true, Bool.not_false, b_lss_neg, d1, d2, decide_true, decide_false, cond_true, cond_false]; refine rgo ?_)
    | refine go_block ?_ | refine go_skip ?_ | refine go_exit ?_ | refine go_ret ?_
    | refine ret_seq_x.2 ?_ | refine ret_seq_r.2 ?_ | refine ret_block.2 ?_ | refine ret_block_hit.2 ?_ | refine (ret_block_miss rfl).2 ?_ | refine ret_block_r.2 ?_ | refine ret_loop_x.2 ?_ | refine ret_loop_r.2 ?_
    | (refine go_cond ?_; simp (disch := first | omega | decide) only [eff, runE, bE, u_not, Bool.not_true, Bool.not_false, b_lss_neg, d1, d2, decide_true, decide_false, cond_true, cond_false]; first | refine condGo_true ?_ | refine condGo_false ?_)
    refine callGo_of (works_ev h hg) ?_
    repeat with_reducible first
    | refine go_seq hE2 ?_ | refine go_region ?_ | refine ops_nil ?_ | refine ret_seq.2 ?_
    | (refine ops_cw hE2 ?_; simp (disch := first | omega | decide) only [eff, runE, bE, u_not, Bool.not_true, Bool.not_false, b_lss_neg, d1, d2, decide_true, decide_false, cond_true, cond_false])
    | (refine ops_op ?_; simp (disch := first | omega | decide) only [eff, runE, bE, u_not, Bool.not_true, Bool.not_false, b_lss_neg, d1, d2, decide_true, decide_false, cond_true, cond_false]; refine rgo ?_)
    | refine go_block ?_ | refine go_skip ?_ | refine go_exit ?_ | refine go_ret ?_
    | refine ret_seq_x.2 ?_ | refine ret_seq_r.2 ?_ | refine ret_block.2 ?_ | refine ret_block_hit.2 ?_ | refine (ret_block_miss rfl).2 ?_ | refine ret_block_r.2 ?_ | refine ret_loop_x.2 ?_ | refine ret_loop_r.2 ?_
    | (refine go_cond ?_; simp (disch := first | omega | decide) only [eff, runE, bE, u_not, Bool.not_true, Bool.not_false, b_lss_neg, d1, d2, decide_true, decide_false, cond_true, cond_false]; first | refine condGo_true ?_ | refine condGo_false ?_)
    refine ret_nil.2 ⟨_, fin_tmp (.inr rfl), ?_, HExt.refl h⟩
    simp (disch := first | omega | decide) only [eff, runE, bE, u_not, Bool.not_true, Bool.not_false, b_lss_neg, d1, d2, decide_true, decide_false, cond_true, cond_false]
  · have d3 : decide (a < 0) = false := rfl
    rcases b with b | b
    rotate_left
    ·  skip
       refine call_fn law_fn ?_
       simp only [args0_cons, args0_nil]
       repeat with_reducible first
    | refine go_seq hE2 ?_ | refine go_region ?_ | refine ops_nil ?_ | refine ret_seq.2 ?_
    | (refine ops_cw hE2 ?_; simp (disch := first | omega | decide) only [eff, runE, bE, u_not, Bool.not_true, Bool.not_false, b_lss_neg, d1, d2, d3, decide_true, decide_false, cond_true, cond_false])
    | (refine ops_op ?_; simp (disch := first | omega | decide) only [eff, runE, bE, u_not, Bool.not_true, Bool.not_false, b_lss_neg, d1, d2, d3, decide_true, decide_false, cond_true, cond_false]; refine rgo ?_)
    | refine go_block ?_ | refine go_skip ?_ | refine go_exit ?_ | refine go_ret ?_
    | refine ret_seq_x.2 ?_ | refine ret_seq_r.2 ?_ | refine ret_block.2 ?_ | refine ret_block_hit.2 ?_ | refine (ret_block_miss rfl).2 ?_ | refine ret_block_r.2 ?_ | refine ret_loop_x.2 ?_ | refine ret_loop_r.2 ?_
    | (refine go_cond ?_; simp (disch := first | omega | decide) only [eff, runE, bE, u_not, Bool.not_true, Bool.not_false, b_lss_neg, d1, d2, d3, decide_true, decide_false, cond_true, cond_false]; first | refine condGo_true ?_ | refine condGo_false ?_)
       refine callGo_of (works_ev h hg) ?_
       repeat with_reducible first
    | refine go_seq hE2 ?_ | refine go_region ?_ | refine ops_nil ?_ | refine ret_seq.2 ?_
    | (refine ops_cw hE2 ?_; simp (disch := first | omega | decide) only [eff, runE, bE, u_not, Bool.not_true, Bool.not_false, b_lss_neg, d1, d2, d3, decide_true, decide_false, cond_true, cond_false])
    | (refine ops_op ?_; simp (disch := first | omega | decide) only [eff, runE, bE, u_not, Bool.not_true, Bool.not_false, b_lss_neg, d1, d2, d3, decide_true, decide_false, cond_true, cond_false]; refine rgo ?_)
    | refine go_block ?_ | refine go_skip ?_ | refine go_exit ?_ | refine go_ret ?_
    | refine ret_seq_x.2 ?_ | refine ret_seq_r.2 ?_ | refine ret_block.2 ?_ | refine ret_block_hit.2 ?_ | refine (ret_block_miss rfl).2 ?_ | refine ret_block_r.2 ?_ | refine ret_loop_x.2 ?_ | refine ret_loop_r.2 ?_
    | (refine go_cond ?_; simp (disch := first | omega | decide) only [eff, runE, bE, u_not, Bool.not_true, Bool.not_false, b_lss_neg, d1, d2, d3, decide_true, decide_false, cond_true, cond_false]; first | refine condGo_true ?_ | refine condGo_false ?_)
       refine callGo_of (works_ev h hg) ?_
       repeat with_reducible first
    | refine go_seq hE2 ?_ | refine go_region ?_ | refine ops_nil ?_ | refine ret_seq.2 ?_
    | (refine ops_cw hE2 ?_; simp (disch := first | omega | decide) only [eff, runE, bE, u_not, Bool.not_true, Bool.not_false, b_lss_neg, d1, d2, d3, decide_true, decide_false, cond_true, cond_false])
    | (refine ops_op ?_; simp (disch := first | omega | decide) only [eff, runE, bE, u_not, Bool.not_true, Bool.not_false, b_lss_neg, d1, d2, d3, decide_true, decide_false, cond_true, cond_false]; refine rgo ?_)
    | refine go_block ?_ | refine go_skip ?_ | refine go_exit ?_ | refine go_ret ?_
    | refine ret_seq_x.2 ?_ | refine ret_seq_r.2 ?_ | refine ret_block.2 ?_ | refine ret_block_hit.2 ?_ | refine (ret_block_miss rfl).2 ?_ | refine ret_block_r.2 ?_ | refine ret_loop_x.2 ?_ | refine ret_loop_r.2 ?_
    | (refine go_cond ?_; simp (disch := first | omega | decide) only [eff, runE, bE, u_not, Bool.not_true, Bool.not_false, b_lss_neg, d1, d2, d3, decide_true, decide_false, cond_true, cond_false]; first | refine condGo_true ?_ | refine condGo_false ?_)
       refine ret_nil.2 ⟨_, fin_tmp (.inr rfl), ?_, HExt.refl h⟩
       simp (disch := first | omega | decide) only [eff, runE, bE, u_not, Bool.not_true, Bool.not_false, b_lss_neg, d1, d2, d3, decide_true, decide_false, cond_true, cond_false]
    · have d4 : decide (b < 0) = false := rfl
      by_cases c3 : 96 ≤ a
      · have d5 : decide (96 ≤ a) = true := decide_eq_true c3
        refine call_fn law_fn ?_
        simp only [args0_cons, args0_nil]
        repeat with_reducible first
    | refine go_seq hE2 ?_ | refine go_region ?_ | refine ops_nil ?_ | refine ret_seq.2 ?_
    | (refine ops_cw hE2 ?_; simp (disch := first | omega | decide) only [eff, runE, bE, u_not, Bool.not_true, Bool.not_false, b_lss_neg, d1, d2, d3, d4, d5, decide_true, decide_false, cond_true, cond_false])
    | (refine ops_op ?_; simp (disch := first | omega | decide) only [eff, runE, bE, u_not, Bool.not_true, Bool.not_false, b_lss_neg, d1, d2, d3, d4, d5, decide_true, decide_false, cond_true, cond_false]; refine rgo ?_)
    | refine go_block ?_ | refine go_skip ?_ | refine go_exit ?_ | refine go_ret ?_
    | refine ret_seq_x.2 ?_ | refine ret_seq_r.2 ?_ | refine ret_block.2 ?_ | refine ret_block_hit.2 ?_ | refine (ret_block_miss rfl).2 ?_ | refine ret_block_r.2 ?_ | refine ret_loop_x.2 ?_ | refine ret_loop_r.2 ?_
    | (refine go_cond ?_; simp (disch := first | omega | decide) only [eff, runE, bE, u_not, Bool.not_true, Bool.not_false, b_lss_neg, d1, d2, d3, d4, d5, decide_true, decide_false, cond_true, cond_false]; first | refine condGo_true ?_ | refine condGo_false ?_)
        refine callGo_of (works_ev h hg) ?_
        repeat with_reducible first
    | refine go_seq hE2 ?_ | refine go_region ?_ | refine ops_nil ?_ | refine ret_seq.2 ?_
    | (refine ops_cw hE2 ?_; simp (disch := first | omega | decide) only [eff, runE, bE, u_not, Bool.not_true, Bool.not_false, b_lss_neg, d1, d2, d3, d4, d5, decide_true, decide_false, cond_true, cond_false])
    | (refine ops_op ?_; simp (disch := first | omega | decide) only [eff, runE, bE, u_not, Bool.not_true, Bool.not_false, b_lss_neg, d1, d2, d3, d4, d5, decide_true, decide_false, cond_true, cond_false]; refine rgo ?_)
    | refine go_block ?_ | refine go_skip ?_ | refine go_exit ?_ | refine go_ret ?_
    | refine ret_seq_x.2 ?_ | refine ret_seq_r.2 ?_ | refine ret_block.2 ?_ | refine ret_block_hit.2 ?_ | refine (ret_block_miss rfl).2 ?_ | refine ret_block_r.2 ?_ | refine ret_loop_x.2 ?_ | refine ret_loop_r.2 ?_
    | (refine go_cond ?_; simp (disch := first | omega | decide) only [eff, runE, bE, u_not, Bool.not_true, Bool.not_false, b_lss_neg, d1, d2, d3, d4, d5, decide_true, decide_false, cond_true, cond_false]; first | refine condGo_true ?_ | refine condGo_false ?_)
        refine callGo_of (works_ev h hg) ?_
        repeat with_reducible first
    | refine go_seq hE2 ?_ | refine go_region ?_ | refine ops_nil ?_ | refine ret_seq.2 ?_
    | (refine ops_cw hE2 ?_; simp (disch := first | omega | decide) only [eff, runE, bE, u_not, Bool.not_true, Bool.not_false, b_lss_neg, d1, d2, d3, d4, d5, decide_true, decide_false, cond_true, cond_false])
    | (refine ops_op ?_; simp (disch := first | omega | decide) only [eff, runE, bE, u_not, Bool.not_true, Bool.not_false, b_lss_neg, d1, d2, d3, d4, d5, decide_true, decide_false, cond_true, cond_false]; refine rgo ?_)
    | refine go_block ?_ | refine go_skip ?_ | refine go_exit ?_ | refine go_ret ?_
    | refine ret_seq_x.2 ?_ | refine ret_seq_r.2 ?_ | refine ret_block.2 ?_ | refine ret_block_hit.2 ?_ | refine (ret_block_miss rfl).2 ?_ | refine ret_block_r.2 ?_ | refine ret_loop_x.2 ?_ | refine ret_loop_r.2 ?_
    | (refine go_cond ?_; simp (disch := first | omega | decide) only [eff, runE, bE, u_not, Bool.not_true, Bool.not_false, b_lss_neg, d1, d2, d3, d4, d5, decide_true, decide_false, cond_true, cond_false]; first | refine condGo_true ?_ | refine condGo_false ?_)
        refine ret_nil.2 ⟨_, fin_tmp (.inr rfl), ?_, HExt.refl h⟩
        simp (disch := first | omega | decide) only [eff, runE, bE, u_not, Bool.not_true, Bool.not_false, b_lss_neg, d1, d2, d3, d4, d5, decide_true, decide_false, cond_true, cond_false]
      have d5 : decide (96 ≤ a) = false := decide_eq_false c3
      by_cases c4 : 96 ≤ b
      · have d6 : decide (96 ≤ b) = true := decide_eq_true c4
        refine call_fn law_fn ?_
        simp only [args0_cons, args0_nil]
        repeat with_reducible first
    | refine go_seq hE2 ?_ | refine go_region ?_ | refine ops_nil ?_ | refine ret_seq.2 ?_
    | (refine ops_cw hE2 ?_; simp (disch := first | omega | decide) only [eff, runE, bE, u_not, Bool.not_true, Bool.not_false, b_lss_neg, d1, d2, d3, d4, d5, d6, decide_true, decide_false, cond_true, cond_false])
    | (refine ops_op ?_; simp (disch := first | omega | decide) only [eff, runE, bE, u_not, Bool.not_true, Bool.not_false, b_lss_neg, d1, d2, d3, d4, d5, d6, decide_true, decide_false, cond_true, cond_false]; refine rgo ?_)
    | refine go_block ?_ | refine go_skip ?_ | refine go_exit ?_ | refine go_ret ?_
    | refine ret_seq_x.2 ?_ | refine ret_seq_r.2 ?_ | refine ret_block.2 ?_ | refine ret_block_hit.2 ?_ | refine (ret_block_miss rfl).2 ?_ | refine ret_block_r.2 ?_ | refine ret_loop_x.2 ?_ | refine ret_loop_r.2 ?_
    | (refine go_cond ?_; simp (disch := first | omega | decide) only [eff, runE, bE, u_not, Bool.not_true, Bool.not_false, b_lss_neg, d1, d2, d3, d4, d5, d6, decide_true, decide_false, cond_true, cond_false]; first | refine condGo_true ?_ | refine condGo_false ?_)
        refine callGo_of (works_ev h hg) ?_
        repeat with_reducible first
    | refine go_seq hE2 ?_ | refine go_region ?_ | refine ops_nil ?_ | refine ret_seq.2 ?_
    | (refine ops_cw hE2 ?_; simp (disch := first | omega | decide) only [eff, runE, bE, u_not, Bool.not_true, Bool.not_false, b_lss_neg, d1, d2, d3, d4, d5, d6, decide_true, decide_false, cond_true, cond_false])
    | (refine ops_op ?_; simp (disch := first | omega | decide) only [eff, runE, bE, u_not, Bool.not_true, Bool.not_false, b_lss_neg, d1, d2, d3, d4, d5, d6, decide_true, decide_false, cond_true, cond_false]; refine rgo ?_)
    | refine go_block ?_ | refine go_skip ?_ | refine go_exit ?_ | refine go_ret ?_
    | refine ret_seq_x.2 ?_ | refine ret_seq_r.2 ?_ | refine ret_block.2 ?_ | refine ret_block_hit.2 ?_ | refine (ret_block_miss rfl).2 ?_ | refine ret_block_r.2 ?_ | refine ret_loop_x.2 ?_ | refine ret_loop_r.2 ?_
    | (refine go_cond ?_; simp (disch := first | omega | decide) only [eff, runE, bE, u_not, Bool.not_true, Bool.not_false, b_lss_neg, d1, d2, d3, d4, d5, d6, decide_true, decide_false, cond_true, cond_false]; first | refine condGo_true ?_ | refine condGo_false ?_)
        refine callGo_of (works_ev h hg) ?_
        repeat with_reducible first
    | refine go_seq hE2 ?_ | refine go_region ?_ | refine ops_nil ?_ | refine ret_seq.2 ?_
    | (refine ops_cw hE2 ?_; simp (disch := first | omega | decide) only [eff, runE, bE, u_not, Bool.not_true, Bool.not_false, b_lss_neg, d1, d2, d3, d4, d5, d6, decide_true, decide_false, cond_true, cond_false])
    | (refine ops_op ?_; simp (disch := first | omega | decide) only [eff, runE, bE, u_not, Bool.not_true, Bool.not_false, b_lss_neg, d1, d2, d3, d4, d5, d6, decide_true, decide_false, cond_true, cond_false]; refine rgo ?_)
    | refine go_block ?_ | refine go_skip ?_ | refine go_exit ?_ | refine go_ret ?_
    | refine ret_seq_x.2 ?_ | refine ret_seq_r.2 ?_ | refine ret_block.2 ?_ | refine ret_block_hit.2 ?_ | refine (ret_block_miss rfl).2 ?_ | refine ret_block_r.2 ?_ | refine ret_loop_x.2 ?_ | refine ret_loop_r.2 ?_
    | (refine go_cond ?_; simp (disch := first | omega | decide) only [eff, runE, bE, u_not, Bool.not_true, Bool.not_false, b_lss_neg, d1, d2, d3, d4, d5, d6, decide_true, decide_false, cond_true, cond_false]; first | refine condGo_true ?_ | refine condGo_false ?_)
        refine ret_nil.2 ⟨_, fin_tmp (.inr rfl), ?_, HExt.refl h⟩
        simp (disch := first | omega | decide) only [eff, runE, bE, u_not, Bool.not_true, Bool.not_false, b_lss_neg, d1, d2, d3, d4, d5, d6, decide_true, decide_false, cond_true, cond_false]
      exact law_good secret salt a b h1 h2 (by omega) (by omega) (by omega) (by omega) h hg hn
end Go.Proofs.XCode
end
section
namespace Go.Proofs.XCode
open Go.X Go.RowKit Go.Proofs
set_option maxRecDepth 100000
def intZ : XV → Int
  | .int _ n => n
  | _ => 0
noncomputable def ascZ : List Int := match ascO with
  | .cells c _ _ => c.map intZ
  | _ => []
theorem ascO_eq : ascO = .cells (ascZ.map (XV.int .u8)) true none := by kernel_rfl
theorem ascZ_len : ascZ.length = 256 := by kernel_rfl
theorem VRs_u8 (ρ : Rho) : ∀ l : List Int, VRs ρ (l.map (XV.int .u8)) (l.map (Value.int .u8))
  | [] => .nil
  | x :: l => .cons _ _ _ _ (.int .u8 x) (VRs_u8 ρ l)
noncomputable def rho0 : Rho := fun n => if n ≤ 63 then some (n, 0, 256) else none
theorem needW_get {n : Nat} {o : XO} (h : (hsOf 64 needW).get n = some o) : n = 1 ∧ o = ascO := by
  have := hsOf_get h
  unfold needW at this
  simpa using this
theorem rep0 {W : World} (hc : ∀ j v, (ascZ.map (Value.int .u8))[j]? = some v → W.cell? ⟨1, j, none⟩ = some v) : Rep rho0 (hsOf 64 needW) W := by
  refine ⟨fun n o ho => ?_, fun n m o o' b x y x' y' h1 h2 _ _ => ?_⟩
  · obtain ⟨rfl, rfl⟩ := needW_get ho
    refine ⟨1, 0, 256, rfl, ?_⟩
    rw [ascO_eq]
    have hj : ∀ j, j < 256 → ∃ v, (ascZ.map (Value.int .u8))[j]? = some v := fun j hj => ⟨_, List.getElem?_eq_getElem (by rw [List.length_map, ascZ_len]; exact hj)⟩
    refine ⟨by rw [List.length_map, ascZ_len]; exact Nat.le_refl _, fun j h => ?_, fun h => (by cases h), ⟨_, VRs_u8 _ _, fun j v h => by rw [Nat.zero_add]; exact hc j v h⟩, ?_, fun t h => by cases h⟩
    · obtain ⟨v, hv⟩ := hj j h
      rw [Nat.zero_add, hc j v hv]; rfl
    · obtain ⟨v, hv⟩ := hj 0 (by decide)
      have := hc 0 v hv
      unfold World.cell? at this
      split at this
      · rename_i h1
        exact (Array.getElem?_eq_some_iff.1 h1).1
      · cases this
  · rw [(needW_get h1).1, (needW_get h2).1]
theorem invoked_calls {P : Program} {f : FuncId} {args : Array Value} {w : World} {K : Value → World → Prop} (h : Invoked P f args w K) (he : (callFunc f args).run P w = .ok (.enter f args) w) : Calls P f args w fun e w' => ∃ v, e = .returned v ∧ K v w' := by
  rcases h with ⟨v, w', h1, _⟩ | ⟨_, h2⟩
  · rw [he] at h1
    cases h1
  · exact h2
theorem str_bytes (s : ByteArray) (i : Nat) : (s.data.toList.map UInt8.toNat).getD i 0 < 256 := by
  rw [List.getD_eq_getElem?_getD]
  cases e : (s.data.toList.map UInt8.toNat)[i]? with
  | none => simp
  | some x =>
    obtain ⟨y, _, rfl⟩ := List.mem_map.1 (List.mem_of_getElem? e)
    exact y.toNat_lt
theorem law_calls (s1 s2 : ByteArray) (a b : Int) (W : World) (hc : ∀ j v, (ascZ.map (Value.int .u8))[j]? = some v → W.cell? ⟨1, j, none⟩ = some v) :
    Calls Tryz.prog 3 #[.string s1, .string s2, .int .i64 a, .int .i64 b] W fun e w' => e = .returned (.bool true) ∧ Below W.heap.size W w' := by
  have g1 : (hsOf 64 needW).get 1 = some ascO := by
    show (XH.set (hsOf 64 []) 1 ascO).get 1 = some ascO
    rw [XH.get_set, if_pos rfl]
  obtain ⟨n, r, H', e, rfl, _⟩ := law_ev (s1.data.toList.map UInt8.toNat) (s2.data.toList.map UInt8.toNat) a b (str_bytes s1) (str_bytes s2) (hsOf 64 needW) g1 (by rw [hsOf_next]; decide)
  have hI := (sound2 n).1 _ _ _ _ _ e rho0 W [.string s1, .string s2, .int .i64 a, .int .i64 b] (rep0 hc) (fun g hg => ⟨256, if_pos hg⟩)
    (.cons _ _ _ _ (.str _ _ rfl) (.cons _ _ _ _ (.str _ _ rfl) (.cons _ _ _ _ (.int _ _) (.cons _ _ _ _ (.int _ _) .nil)))) (fun k h1 _ => by
      rw [hsOf_next] at h1
      exact if_neg (by omega))
  refine (invoked_calls hI (enters_of Tryz.func3 (by kernel_rfl) rfl _ _)).mono ?_
  rintro e w' ⟨v, rfl, ρ', hv, hs⟩
  cases hv
  exact ⟨rfl, { os := hs.os, tape := hs.tape, output := hs.output, size := hs.size, block := fun k hk => hs.keep k hk (fun ⟨n, o, x, y, h1, h2, _⟩ => by
    obtain ⟨_, rfl⟩ := needW_get h1
    rw [ascO_eq] at h2
    cases h2) }⟩
end Go.Proofs.XCode
end
