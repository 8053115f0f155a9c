/- What this text proves serves the claim of its last text: a part of a verified executor, its walks and its runs (O5, S46, W20, XC4, W30, W31, W32, W33, W34, W35, W36, W37, W38, W39, W50, XC5, W51, W52, W53). -/
import Derived.Test.YtfaalljnklijjaaGreatDoorQ10
import Derived.Test.YtfaalljnklijjaaGreatDoorQ12
import Derived.Test.YtfaalljnklijjaaGreatDoorQ13
import Derived.Test.YtfaalljnklijjaaGreatDoorQ14
import Derived.Test.YtfaalljnklijjaaGreatDoorQ17
import Derived.Test.YtfaalljnklijjaaGreatDoorQ04
import Derived.Test.YtfaalljnklijjaaGreatDoorQ06
import Derived.Test.YtfaalljnklijjaaGreatDoorQ07
import Derived.Test.YtfaalljnklijjaaGreatDoorQ08
import Derived.KernelRfl
set_option linter.all false
section
namespace Go.Proofs.XCode
open Go.X Go.RowKit Go.Proofs Go.Shelf
set_option maxRecDepth 100000
theorem clone_calls (s : ByteArray) (w : World) (h : s.size ≤ 1000000) : Calls Tryz.prog 54 #[.string s] w fun e w' => e = .returned (.string s) ∧ Below w.heap.size w w' := by
  go_enter Tryz.func54, Tryz.ntmps54
  go_wp2_with (go_at_call 102; refine (Tryz.stringslite_Clone s _ (by omega)).mono ?_; rintro e w' ⟨rfl, hb⟩)
  first | go_end0 | go_ret
  exact ⟨rfl, hb⟩
theorem repeatL_flat (l : List UInt8) : ∀ n, Lib.repeatL l n = (List.replicate n l).flatten
  | 0 => rfl
  | n + 1 => by rw [Lib.repeatL, repeatL_flat l n, List.replicate_succ, List.flatten_cons]
theorem repeat_calls (s : ByteArray) (n : Nat) (w : World) (h : s.size * n ≤ 1000000) (h2 : n ≤ 1000000) : Calls Tryz.prog 41 #[.string s, .int .i64 n] w fun e w' => ∃ r : ByteArray, e = .returned (.string r) ∧ r.data.toList = (List.replicate n s.data.toList).flatten ∧ Below w.heap.size w w' := by
  refine (Tryz.strings_Repeat s n w (by omega) (by omega)).mono ?_
  rintro e w' ⟨rfl, hb⟩
  exact ⟨_, rfl, by rw [repeatL_flat], hb⟩
abbrev laysJ : Lays.n240 Tryz.prog Tryz.lays156_ren := { Tryz.lays156 with }
abbrev laysS : Lays.n169 Tryz.prog Tryz.lays156_ren := { Tryz.lays156 with }
theorem ok_clone : IntrOK Tryz.prog 54 (fun _ => iClone) := clone_intr (enters_of Tryz.func54 (by kernel_rfl) rfl) clone_calls
theorem ok_repeat : IntrOK Tryz.prog 41 (fun _ => iRepeat) := repeat_intr (enters_of Tryz.func41 (by kernel_rfl) rfl) repeat_calls
theorem ok_join : IntrOK Tryz.prog 237 (fun _ => iJoin) := join_intr (enters_of Tryz.func237 (by kernel_rfl) rfl) Tryz.strings_Join_none Tryz.strings_Join
theorem ok_once : IntrOK Tryz.prog 45 iOnce := once_intr (enters_of Tryz.func45 (by kernel_rfl) rfl) OnceParts.do_done OnceParts.do_slow
theorem ok_check : IntrOK Tryz.prog 134 (fun _ => iCheck (Nat.mul 2 167)) := check_intr (enters_of Tryz.func134 (by kernel_rfl) rfl)
  (fun b w h1 h2 h3 => Any.Builder_copyCheck_fresh laysJ Tryz.Builder_Extra_156.toX72 b w h1 h2 h3) (fun b w h1 => Any.Builder_copyCheck_used laysJ Tryz.Builder_Extra_156.toX72 b w h1)
theorem ok_string : IntrOK Tryz.prog 82 (fun _ => iString 5) := string_intr (enters_of Tryz.func82 (by kernel_rfl) rfl)
  (fun b k w h => string_nil laysS Tryz.Builder_Extra_156 b k w h) (fun b k g cap cells ns w h1 h2 h3 h4 h5 h6 h7 => string_row laysS Tryz.Builder_Extra_156 b k g cap cells ns w h1 h2 h3 h4 h5 h6 h7)
theorem ok_load64 : IntrOK Tryz.prog 55 (fun _ => iLoad .i64) := load_intr Tryz.func55 (by kernel_rfl) (by kernel_rfl) (by kernel_rfl) .i64 (by kernel_rfl)
theorem ok_loadu32 : IntrOK Tryz.prog 147 (fun _ => iLoad .u32) := load_intr Tryz.func147 (by kernel_rfl) (by kernel_rfl) (by kernel_rfl) .u32 (by kernel_rfl)
theorem ok_load32 : IntrOK Tryz.prog 152 (fun _ => iLoad .i32) := load_intr Tryz.func152 (by kernel_rfl) (by kernel_rfl) (by kernel_rfl) .i32 (by kernel_rfl)
theorem ok_store64 : IntrOK Tryz.prog 216 (fun _ => iStore .i64) := store_intr Tryz.func216 (by kernel_rfl) (by kernel_rfl) (by kernel_rfl) .i64 (by kernel_rfl)
theorem ok_storeu32 : IntrOK Tryz.prog 136 (fun _ => iStore .u32) := store_intr Tryz.func136 (by kernel_rfl) (by kernel_rfl) (by kernel_rfl) .u32 (by kernel_rfl)
theorem ok_add64i : IntrOK Tryz.prog 48 (fun _ => iAdd .i64) := add_intr Tryz.func48 (by kernel_rfl) (by kernel_rfl) (by kernel_rfl) .i64 (by kernel_rfl)
theorem ok_addu32 : IntrOK Tryz.prog 140 (fun _ => iAdd .u32) := add_intr Tryz.func140 (by kernel_rfl) (by kernel_rfl) (by kernel_rfl) .u32 (by kernel_rfl)
theorem ok_add32i : IntrOK Tryz.prog 151 (fun _ => iAdd .i32) := add_intr Tryz.func151 (by kernel_rfl) (by kernel_rfl) (by kernel_rfl) .i32 (by kernel_rfl)
theorem ok_add64 : IntrOK Tryz.prog 146 (fun _ => iAdd64) := add64_intr Tryz.func146 (by kernel_rfl) (by kernel_rfl) (by kernel_rfl) (by kernel_rfl)
theorem ok_count : IntrOK Tryz.prog 265 (fun _ => iCount) := count_intr Tryz.func265 (by kernel_rfl) (by kernel_rfl) (by kernel_rfl) (by kernel_rfl)
theorem ok_index : IntrOK Tryz.prog 322 (fun _ => iIndex) := index_intr Tryz.func322 (by kernel_rfl) (by kernel_rfl) (by kernel_rfl) (by kernel_rfl)
def intrL : List (Nat × Nat) := [(54, 5), (41, 6), (237, 15), (45, 1), (134, 1000 + 167), (82, 2000 + 5),
  (55, 7), (147, 17), (152, 27), (216, 8), (136, 18), (48, 9), (140, 19), (151, 29),
  (146, 11), (265, 13), (322, 14), (fSorted, 3000 + fIter), (fKeys, 1000000 + 1000 * fIter + tMap)]
theorem intrs_chk : chkT fnT (fun f x => match x with | .intr i => intrL.contains (f, i) && Nat.blt i 10000000 | _ => true) = true := by kernel_rfl
theorem intrs_in {f i : Nat} (h : fnT.get f = some (.intr i)) : (f, i) ∈ intrL ∧ i < 10000000 := by
  have := chkT_spec intrs_chk h
  simp only [Bool.and_eq_true] at this
  exact ⟨List.contains_iff_mem.1 this.1, blt_lt this.2⟩
theorem intr_ok (f i : Nat) (h : fnT.get f = some (.intr i)) : IntrOK Tryz.prog f (fun call => intr call i) := by
  have hm := (intrs_in h).1
  clear h
  unfold intrL at hm
  simp only [List.mem_cons, List.mem_nil_iff, or_false, Prod.mk.injEq] at hm
  rcases hm with ⟨rfl, rfl⟩ | ⟨rfl, rfl⟩ | ⟨rfl, rfl⟩ | ⟨rfl, rfl⟩ | ⟨rfl, rfl⟩ | ⟨rfl, rfl⟩ | ⟨rfl, rfl⟩ | ⟨rfl, rfl⟩ | ⟨rfl, rfl⟩ | ⟨rfl, rfl⟩ | ⟨rfl, rfl⟩ | ⟨rfl, rfl⟩ | ⟨rfl, rfl⟩ | ⟨rfl, rfl⟩ | ⟨rfl, rfl⟩ | ⟨rfl, rfl⟩ | ⟨rfl, rfl⟩ | ⟨rfl, rfl⟩ | ⟨rfl, rfl⟩
  · exact ok_clone
  · exact ok_repeat
  · exact ok_join
  · exact ok_once
  · exact ok_check
  · exact ok_string
  · exact ok_load64
  · exact ok_loadu32
  · exact ok_load32
  · exact ok_store64
  · exact ok_storeu32
  · exact ok_add64i
  · exact ok_addu32
  · exact ok_add32i
  · exact ok_add64
  · exact ok_count
  · exact ok_index
  · exact sorted_ok
  · exact keys_ok
theorem fnOK0 : FnOK Tryz.prog tyT.get E0 := fnOK_of fnB fnR fnN intr_ok
theorem low0 : E0.Low 10000000 := by
  intro f i e
  simp only [E0, mkEnv] at e
  split at e
  · rename_i g hg
    cases hm : mkFn tyT.get g with
    | none => rw [hm] at e; cases e
    | some x => rw [hm] at e; cases e
  · rename_i j hg
    have e := Option.some.inj e
    injection e with e
    subst e
    exact (intrs_in hg).2
  · cases e
theorem sound0 (n : Nat) : CallSound Tryz.prog (callE E0 (run E0 n)) ∧ CallMono (callE E0 (run E0 n)) := run_sound' tyOK fnOK0 (by kernel_rfl) n
end Go.Proofs.XCode
end
section
namespace Go.X
set_option linter.unusedSimpArgs false
def FreshH (h : XH) : Prop := ∀ n, h.next ≤ n → h.get n = none
theorem FreshH.new {h : XH} (f : FreshH h) (o : XO) : FreshH (h.new o) := fun n hn => by
  rw [XH.next_new] at hn
  rw [XH.get_new, if_neg (by omega)]
  exact f n (by omega)
theorem FreshH.set {h : XH} (f : FreshH h) {b : Nat} {o' : XO} (hg : h.get b = some o') (o : XO) : FreshH (h.set b o) := fun n hn => by
  rw [XH.next_set] at hn
  rw [XH.get_set, if_neg (fun e => by rw [e] at hn; rw [f b hn] at hg; cases hg)]
  exact f n hn
theorem FreshH.del {h : XH} (f : FreshH h) (b : Nat) : FreshH (h.del b) := fun n hn => by
  rw [XH.next_del] at hn
  rw [XH.get_del]
  split
  · rfl
  · exact f n hn
def CallFr (call : FuncId → List XV → XH → R) : Prop := ∀ f args h r h', call f args h = some (r, h') → FreshH h → FreshH h'
section
variable {H H' : XH} {x : XV}
theorem wr_fr {b o : Nat} {vs : List XV} (h : wr H b o vs = some H') (f : FreshH H) : FreshH H' := by
  unfold wr at h
  split at h
  · rename_i hg
    obtain ⟨_, h⟩ := bif_some h
    obtain rfl := Option.some.inj h
    exact f.set hg _
  · cases h
theorem unitR_fr {o : Option XH} (h0 : ∀ H1, o = some H1 → FreshH H1) (h : unitR o = some (x, H')) : FreshH H' := by
  unfold unitR at h
  cases o with
  | none => cases h
  | some H1 =>
    have := Option.some.inj h
    injection this with _ h2
    subst h2
    exact h0 _ rfl
theorem setM_fr {b : Nat} {es : Option (List (XV × XV))} {o : XO} (hg : H.get b = some o) (h : setM H b es = some (x, H')) (f : FreshH H) : FreshH H' := by
  unfold setM at h
  cases es with
  | none => cases h
  | some es =>
    have := Option.some.inj h
    injection this with _ h2
    subst h2
    exact f.set hg _
theorem newS_fr {n es : Nat} {tg : Option Nat} {c : List XV} (h : newS H n es tg c = some (x, H')) (f : FreshH H) : FreshH H' := by
  have := inj_mono h
  subst this
  exact f.new _
theorem appN_fr {es bytes et n : Nat} {new : List XV} {s : XV} (h : appN H es bytes et n new s = some (x, H')) (f : FreshH H) : FreshH H' := by
  unfold appN at h
  split at h
  · cases e : Nat.beq n 0 with
    | true => rw [e] at h; have := inj_mono h; subst this; exact f
    | false =>
      rw [e] at h
      obtain ⟨_, h⟩ := bif_some (b := Nat.ble (Nat.mul n (Nat.succ bytes)) 1000000) h
      exact newS_fr h f
  · rename_i b o len cap es' ex
    obtain ⟨_, h⟩ := bif_some h
    cases e : Nat.ble (Nat.add len n) cap with
    | true =>
      rw [e] at h
      have h : (Option.rec none (fun h => some (XV.slice b o (Nat.add len n) cap es ex, h)) (wr H b (Nat.add o (Nat.mul len es)) new) : R) = some (_, H') := h
      cases ew : wr H b (Nat.add o (Nat.mul len es)) new with
      | none => rw [ew] at h; cases h
      | some H1 => rw [ew] at h; have := inj_mono h; subst this; exact wr_fr ew f
    | false =>
      rw [e] at h
      replace h : growS H b o len es ex n bytes et new = some (x, H') := h
      unfold growS at h
      split at h
      · obtain ⟨_, h⟩ := bif_some h
        cases ex with
        | true => exact newS_fr h f
        | false =>
          rw [cond_false] at h
          split at h
          · obtain ⟨_, h⟩ := bif_some h
            exact newS_fr (H := H.del b) h (f.del b)
          · cases h
      · cases h
  · cases h
theorem eCopy_fr {es : Nat} {d s : XV} (h : eCopy H es d s = some (x, H')) (f : FreshH H) : FreshH H' := by
  unfold eCopy at h
  cases e1 : lenOf s with
  | none => rw [e1] at h; cases h
  | some n =>
    cases e2 : lenOf d with
    | none => rw [e1, e2] at h; cases h
    | some m =>
      simp only [e1, e2] at h
      cases e3 : cellsOf H es (Nat.min n m) s with
      | none => simp only [e3] at h; cases h
      | some new =>
        simp only [e3] at h
        cases d with
        | nils => have := inj_mono h; subst this; exact f
        | slice b o len cap es' ex =>
          simp only at h
          obtain ⟨_, h⟩ := bif_some h
          cases ew : wr H b o new with
          | none => rw [ew] at h; cases h
          | some H1 => rw [ew] at h; have := inj_mono h; subst this; exact wr_fr ew f
        | _ => cases h
theorem runE_fr {call : FuncId → List XV → XH → R} (hc : CallFr call) {fr : XF} {o : EO} (h : runE call fr H o = some (x, H')) (f : FreshH H) : FreshH H' := by
  cases o with
  | store size a v =>
    simp only [runE, eStore] at h
    split at h
    · obtain ⟨_, h⟩ := bif_some h
      exact unitR_fr (fun _ e => wr_fr e f) h
    · cases h
  | mapUpdate st m k v =>
    simp only [runE, eMapUpdate] at h
    split at h
    · split at h
      · rename_i hg
        exact setM_fr hg h f
      · cases h
    · cases h
  | call g args => exact hc _ _ _ _ _ h f
  | callv g args =>
    simp only [runE] at h
    split at h
    · exact hc _ _ _ _ _ h f
    · cases h
  | append es bytes et s x =>
    simp only [runE, eAppend] at h
    split at h
    · split at h
      · exact appN_fr h f
      · cases h
    · cases h
  | copy es d s => exact eCopy_fr h f
  | delete st m k =>
    simp only [runE, eDelete] at h
    split at h
    · split at h
      · rename_i hg
        exact setM_fr hg h f
      · cases h
    · have := inj_mono h; subst this; exact f
    · cases h
  | clear es z x =>
    simp only [runE, eClear] at h
    split at h
    · have := inj_mono h; subst this; exact f
    · rename_i b o len cap es' ex _
      cases e : Nat.beq len 0 with
      | true => rw [e] at h; have := inj_mono h; subst this; exact f
      | false =>
        rw [e] at h
        obtain ⟨_, h⟩ := bif_some (b := and (Nat.beq es es') (Nat.beq (lenX z) es)) h
        exact unitR_fr (fun _ e => wr_fr e f) h
    · cases h
  | nextS x =>
    simp only [runE, eNext] at h
    split at h
    · split at h
      · rename_i hg
        split at h
        · obtain ⟨_, h⟩ := bif_some h
          have := inj_mono h; subst this; exact f.set hg _
        · have := inj_mono h; subst this; exact f
      · cases h
    · cases h
end
section
variable {c : FuncId → List XV → XH → R} (hc : CallFr c)
include hc
theorem runOp_fr {fr : XF} {h : XH} {o : XOp} {r : XV} {h' : XH} (h1 : runOp c fr h o = some (r, h')) (f : FreshH h) : FreshH h' := by
  cases o with
  | p o =>
    change (Option.rec none (fun v => some (v, h)) (runP fr o) : R) = _ at h1
    cases e : runP fr o with
    | none => rw [e] at h1; cases h1
    | some v => rw [e] at h1; have := inj_mono h1; subst this; exact f
  | r o =>
    change (Option.rec none (fun v => some (v, h)) (runR fr h o) : R) = _ at h1
    cases e : runR fr h o with
    | none => rw [e] at h1; cases h1
    | some v => rw [e] at h1; have := inj_mono h1; subst this; exact f
  | a o =>
    change (Option.rec none (fun x => some (x.2.of h.next, h.new x.1)) (runA fr o) : R) = _ at h1
    cases e : runA fr o with
    | none => rw [e] at h1; cases h1
    | some v => rw [e] at h1; have := inj_mono h1; subst this; exact f.new _
  | e o => exact runE_fr hc h1 f
  | bad => cases h1
theorem runOps_fr : ∀ (l : List XOper) {fr fr' : XF} {h h' : XH}, runOps c l fr h = some (fr', h') → FreshH h → FreshH h'
  | [], _, _, _, _, h1, f => by
    have := Option.some.inj h1
    injection this with _ e
    subst e
    exact f
  | o :: l, fr, fr', h, h', h1, f => by
    have e : runOps c (o :: l) fr h = (Bool.rec (runOps c l (XF.put fr o.dst unit) h) (Option.rec none (fun x => runOps c l (XF.put fr o.dst x.1) x.2) (runOp c fr h o.op)) (wantedX fr o.guard) : Option (XF × XH)) := rfl
    rw [e] at h1
    cases hw : wantedX fr o.guard with
    | false =>
      rw [hw] at h1
      exact runOps_fr l h1 f
    | true =>
      rw [hw] at h1
      cases ho : runOp c fr h o.op with
      | none => rw [ho] at h1; cases h1
      | some x =>
        rw [ho] at h1
        exact runOps_fr l h1 (runOp_fr hc ho f)
theorem runPlan_fr : ∀ (l : List PItem) {fr fr' : XF} {h h' : XH} {hs : List XH} {as1 : List NewO} {cs : List Chk}, runPlan c l fr h hs as1 cs = some (fr', h') → FreshH h → FreshH h'
  | [], fr, fr', h, h', hs, as1, cs, h1, f => by
    have e : runPlan c [] fr h hs as1 cs = (Bool.rec none (some (fr, h)) (endOk h hs.reverse as1 cs) : Option (XF × XH)) := rfl
    rw [e] at h1
    cases ho : endOk h hs.reverse as1 cs with
    | false => rw [ho] at h1; cases h1
    | true =>
      rw [ho] at h1
      have := Option.some.inj h1
      injection this with _ e
      subst e
      exact f
  | i :: l, fr, fr', h, h', hs, as1, cs, h1, f => by
    have e : ∀ c, runPlan c (i :: l) fr h hs as1 cs = (match wantedX fr i.oper.guard with
      | false => runPlan c l (XF.put fr i.oper.dst unit) h (match i.oper.op with | .e _ => h :: hs | .bad => h :: hs | _ => hs) as1 cs
      | true => match i.oper.op with
        | .p o => Option.rec none (fun v => runPlan c l (XF.put fr i.oper.dst v) h hs as1 cs) (runP fr o)
        | .r o => Option.rec none (fun v => runPlan c l (XF.put fr i.oper.dst v) h hs as1 ({ fr := fr, o := o, v := v, lo := i.lo, hi := i.hi, need := as1.filter fun a => i.need.contains a.ix } :: cs)) (runR fr h o)
        | .a o => Option.rec none (fun x => runPlan c l (XF.put fr i.oper.dst (x.2.of h.next)) (h.new x.1) hs ({ ix := i.ix, st := Nat.pred (lenX hs), name := h.next, o := x.1 } :: as1) cs) (runA fr o)
        | .e o => Option.rec none (fun x => runPlan c l (XF.put fr i.oper.dst x.1) x.2 (x.2 :: hs) as1 cs) (runE c fr h o)
        | .bad => none : Option (XF × XH)) := fun _ => rfl
    rw [e] at h1
    cases hw : wantedX fr i.oper.guard with
    | false =>
      rw [hw] at h1
      exact runPlan_fr l h1 f
    | true =>
      rw [hw] at h1
      simp only at h1
      cases ho : i.oper.op with
      | p o =>
        rw [ho] at h1
        simp only at h1
        cases hp : runP fr o with
        | none => rw [hp] at h1; cases h1
        | some v => rw [hp] at h1; exact runPlan_fr l h1 f
      | r o =>
        rw [ho] at h1
        simp only at h1
        cases hp : runR fr h o with
        | none => rw [hp] at h1; cases h1
        | some v => rw [hp] at h1; exact runPlan_fr l h1 f
      | a o =>
        rw [ho] at h1
        simp only at h1
        cases hp : runA fr o with
        | none => rw [hp] at h1; cases h1
        | some v => rw [hp] at h1; exact runPlan_fr l h1 (f.new _)
      | e o =>
        rw [ho] at h1
        simp only at h1
        cases hp : runE c fr h o with
        | none => rw [hp] at h1; cases h1
        | some v => rw [hp] at h1; exact runPlan_fr l h1 (runE_fr hc hp f)
      | bad =>
        rw [ho] at h1
        cases h1
end
def IntrFr (E : Env) : Prop := ∀ c, CallFr c → ∀ i a h r h', E.intr c i a h = some (r, h') → FreshH h → FreshH h'
def RunFr (r : Run) : Prop := ∀ c fr h e fr' h', r c fr h = some (e, fr', h') → FreshH h → FreshH h'
theorem fnX_fr {x : XFn} {r : Run} (hr : RunFr r) {args : List XV} {h h' : XH} {v : XV} (h1 : fnX x r args h = some (v, h')) (f : FreshH h) : FreshH h' := by
  unfold fnX at h1
  cases e : r x.body (args0 args 0 .nil) h with
  | none => rw [e] at h1; cases h1
  | some z =>
    rw [e] at h1
    obtain ⟨ex, fr, h2⟩ := z
    have h3 : finX x.results (ex, fr, h2) = some (v, h') := h1
    have h4 : h2 = h' := by
      cases ex with
      | exit _ => cases h3
      | normal =>
        have h3 : (Option.rec none (fun vs => some (tupOf vs, h2)) (mapMO (resOf fr h2) x.results) : R) = some (v, h') := h3
        cases em : mapMO (resOf fr h2) x.results with
        | none => rw [em] at h3; cases h3
        | some vs => rw [em] at h3; exact inj_mono h3
      | ret =>
        have h3 : (Option.rec none (fun vs => some (tupOf vs, h2)) (mapMO (resOf fr h2) x.results) : R) = some (v, h') := h3
        cases em : mapMO (resOf fr h2) x.results with
        | none => rw [em] at h3; cases h3
        | some vs => rw [em] at h3; exact inj_mono h3
    subst h4
    exact hr _ _ _ _ _ _ e f
theorem callX_fr {E : Env} {r : Run} (hr : RunFr r) : CallFr (callX E r) := by
  intro g a h v h' h1 f
  unfold callX at h1
  split at h1
  · exact fnX_fr hr h1 f
  · cases h1
theorem callE_fr {E : Env} (hE : IntrFr E) {r : Run} (hr : RunFr r) : CallFr (callE E r) := by
  intro g a h v h' h1 f
  unfold callE at h1
  split at h1
  · exact fnX_fr hr h1 f
  · exact hE _ (callX_fr hr) _ _ _ _ _ h1 f
  · cases h1
theorem runB_fr {E : Env} (hE : IntrFr E) {r : Run} (hr : RunFr r) : RunFr (runB E r) := by
  intro c fr h e fr' h' h1 f
  cases c with
  | skip => have := Option.some.inj h1; injection this with _ e2; injection e2 with _ e3; subst e3; exact f
  | region ops =>
    simp only [runB] at h1
    cases e : runOps (callE E r) ops fr h with
    | none => rw [e] at h1; cases h1
    | some z =>
      rw [e] at h1
      obtain ⟨fr1, h2⟩ := z
      have := Option.some.inj h1
      injection this with _ e2
      injection e2 with _ e3
      subst e3
      exact runOps_fr (callE_fr hE hr) _ e f
  | drawn plan =>
    simp only [runB] at h1
    cases e : runPlan (callE E r) plan fr h [h] [] [] with
    | none => rw [e] at h1; cases h1
    | some z =>
      rw [e] at h1
      obtain ⟨fr1, h2⟩ := z
      have := Option.some.inj h1
      injection this with _ e2
      injection e2 with _ e3
      subst e3
      exact runPlan_fr (callE_fr hE hr) _ e f
  | seq a b =>
    simp only [runB] at h1
    cases e : r a fr h with
    | none => rw [e] at h1; cases h1
    | some z =>
      rw [e] at h1
      obtain ⟨ex, fr1, h2⟩ := z
      have f2 := hr _ _ _ _ _ _ e f
      cases ex with
      | normal => exact hr _ _ _ _ _ _ h1 f2
      | exit i => have := Option.some.inj h1; injection this with _ e2; injection e2 with _ e3; subst e3; exact f2
      | ret => have := Option.some.inj h1; injection this with _ e2; injection e2 with _ e3; subst e3; exact f2
  | cond v a b =>
    simp only [runB] at h1
    generalize ev fr v = y at h1
    cases y <;> try (cases h1; done)
    rename_i t
    cases t <;> exact hr _ _ _ _ _ _ h1 f
  | block id a =>
    simp only [runB] at h1
    cases e : r a fr h with
    | none => rw [e] at h1; cases h1
    | some z =>
      rw [e] at h1
      obtain ⟨ex, fr1, h2⟩ := z
      have f2 := hr _ _ _ _ _ _ e f
      cases ex <;> (have := Option.some.inj h1; injection this with _ e2; injection e2 with _ e3; subst e3; exact f2)
  | loop a =>
    simp only [runB] at h1
    cases e : r a fr h with
    | none => rw [e] at h1; cases h1
    | some z =>
      rw [e] at h1
      obtain ⟨ex, fr1, h2⟩ := z
      have f2 := hr _ _ _ _ _ _ e f
      cases ex with
      | normal => exact hr _ _ _ _ _ _ h1 f2
      | exit i => have := Option.some.inj h1; injection this with _ e2; injection e2 with _ e3; subst e3; exact f2
      | ret => have := Option.some.inj h1; injection this with _ e2; injection e2 with _ e3; subst e3; exact f2
  | exit id => have := Option.some.inj h1; injection this with _ e2; injection e2 with _ e3; subst e3; exact f
  | ret => have := Option.some.inj h1; injection this with _ e2; injection e2 with _ e3; subst e3; exact f
  | bad => cases h1
theorem run_fr {E : Env} (hE : IntrFr E) : ∀ n, RunFr (run E n)
  | 0 => fun _ _ _ _ _ _ h => by cases h
  | n + 1 => fun c fr h e fr' h' h1 f => runB_fr hE (run_fr hE n) c fr h e fr' h' h1 f
theorem CallEv.fresh {E : Env} (hE : IntrFr E) {f : FuncId} {args : List XV} {h : XH} {Q : XV → XH → Prop} (k : CallEv E f args h Q) (hf : FreshH h) : CallEv E f args h (fun r h' => Q r h' ∧ FreshH h') := by
  obtain ⟨n, r, h', h1, h2⟩ := k
  exact ⟨n, r, h', h1, h2, callE_fr hE (run_fr hE n) _ _ _ _ _ h1 hf⟩
theorem iOnce_fr {c : FuncId → List XV → XH → R} (hc : CallFr c) {args : List XV} {h h' : XH} {r : XV} (h1 : iOnce c args h = some (r, h')) (f : FreshH h) : FreshH h' := by
  simp only [iOnce] at h1
  split at h1
  · split at h1
    · split at h1
      · obtain ⟨H1, e1, h2⟩ := optR h1
        obtain ⟨⟨y, H2⟩, e2, h3⟩ := optR h2
        simp only at h3
        have f2 := hc _ _ _ _ _ e2 (wr_fr e1 f)
        split at h3
        · obtain ⟨H3, e3, h4⟩ := optR h3
          exact unitR_fr (fun _ e => wr_fr e (wr_fr e3 f2)) h4
        · cases h3
      · cases h1
    · have := inj_mono h1; subst this; exact f
    · cases h1
  · cases h1
theorem iLoad_fr {k : IntKind} {args : List XV} {h h' : XH} {r : XV} (h1 : iLoad k args h = some (r, h')) (f : FreshH h) : FreshH h' := by
  unfold iLoad at h1
  split at h1
  · split at h1
    · obtain ⟨_, h1⟩ := bif_some h1; have := inj_mono h1; subst this; exact f
    · cases h1
  · cases h1
theorem iStore_fr {k : IntKind} {args : List XV} {h h' : XH} {r : XV} (h1 : iStore k args h = some (r, h')) (f : FreshH h) : FreshH h' := by
  unfold iStore at h1
  split at h1
  · obtain ⟨_, h1⟩ := bif_some h1
    exact unitR_fr (fun _ e => wr_fr e f) h1
  · cases h1
theorem iAdd_fr {k : IntKind} {args : List XV} {h h' : XH} {r : XV} (h1 : iAdd k args h = some (r, h')) (f : FreshH h) : FreshH h' := by
  unfold iAdd at h1
  split at h1
  · split at h1
    · obtain ⟨_, h1⟩ := bif_some h1
      split at h1
      · rename_i ew
        have := inj_mono h1; subst this; exact wr_fr ew f
      · cases h1
    · cases h1
  · cases h1
theorem iSorted_fr {G : Nat} {args : List XV} {h h' : XH} {r : XV} (h1 : iSorted G args h = some (r, h')) (f : FreshH h) : FreshH h' := by
  unfold iSorted at h1
  split at h1
  · obtain ⟨_, h1⟩ := bif_some h1
    split at h1
    · split at h1
      · obtain ⟨_, h1⟩ := bif_some h1
        split at h1
        · split at h1
          · have := inj_mono h1; subst this; exact f
          · have := inj_mono h1; subst this; exact f.new _
        · cases h1
      · cases h1
    · cases h1
  · cases h1
theorem iString_fr {T : Nat} {args : List XV} {h h' : XH} {r : XV} (h1 : iString T args h = some (r, h')) (f : FreshH h) : FreshH h' := by
  unfold iString at h1
  split at h1
  · split at h1
    · have := inj_mono h1; subst this; exact f
    · split at h1
      · obtain ⟨_, h1⟩ := bif_some h1
        split at h1
        · split at h1
          · have := inj_mono h1; subst this; exact f.del _
          · cases h1
        · cases h1
      · cases h1
    · cases h1
  · cases h1
theorem iCheck_fr {T : Nat} {args : List XV} {h h' : XH} {r : XV} (h1 : iCheck T args h = some (r, h')) (f : FreshH h) : FreshH h' := by
  unfold iCheck at h1
  split at h1
  · split at h1
    · obtain ⟨_, h1⟩ := bif_some h1
      split at h1
      · exact unitR_fr (fun _ e => wr_fr e f) h1
      · obtain ⟨_, h1⟩ := bif_some h1; have := inj_mono h1; subst this; exact f
      · cases h1
    · cases h1
  · cases h1
theorem iJoin_fr {args : List XV} {h h' : XH} {r : XV} (h1 : iJoin args h = some (r, h')) (f : FreshH h) : FreshH h' := by
  unfold iJoin at h1
  split at h1
  · obtain ⟨_, h1⟩ := bif_some h1
    split at h1
    · split at h1
      · obtain ⟨_, h1⟩ := bif_some h1; have := inj_mono h1; subst this; exact f
      · cases h1
    · cases h1
  · cases h1
theorem intr_fr {c : FuncId → List XV → XH → R} (hc : CallFr c) {i : Nat} {args : List XV} {h h' : XH} {r : XV} (h1 : intr c i args h = some (r, h')) (f : FreshH h) : FreshH h' := by
  unfold intr at h1
  split at h1
  · exact iOnce_fr hc h1 f
  · unfold iClone at h1; split at h1 <;> first | (cases h1; done) | skip
    obtain ⟨_, h1⟩ := bif_some h1; have := inj_mono h1; subst this; exact f
  · unfold iRepeat at h1; split at h1 <;> first | (cases h1; done) | skip
    obtain ⟨_, h1⟩ := bif_some h1; have := inj_mono h1; subst this; exact f
  · exact iLoad_fr h1 f
  · exact iLoad_fr h1 f
  · exact iLoad_fr h1 f
  · exact iStore_fr h1 f
  · exact iStore_fr h1 f
  · exact iStore_fr h1 f
  · exact iAdd_fr h1 f
  · exact iAdd_fr h1 f
  · exact iAdd_fr h1 f
  · unfold iAdd64 at h1; split at h1 <;> first | (cases h1; done) | skip
    obtain ⟨_, h1⟩ := bif_some h1; have := inj_mono h1; subst this; exact f
  · unfold iCount at h1; split at h1 <;> first | (cases h1; done) | skip
    have := inj_mono h1; subst this; exact f
  · unfold iIndex at h1; split at h1 <;> first | (cases h1; done) | skip
    have := inj_mono h1; subst this; exact f
  · exact iJoin_fr h1 f
  · skip
    cases e1 : Nat.ble 1000000 i with
    | true =>
      rw [e1] at h1
      have h1 : iKeys (Nat.sub (Nat.div i 1000) 1000) (Nat.mod i 1000) args h = some (r, h') := h1
      unfold iKeys at h1
      split at h1
      · have := inj_mono h1; subst this; exact f.new _
      · cases h1
    | false =>
      rw [e1] at h1
      cases e2 : Nat.ble 3000 i with
      | true => rw [e2] at h1; exact iSorted_fr h1 f
      | false =>
        rw [e2] at h1
        cases e3 : Nat.ble 2000 i with
        | true => rw [e3] at h1; exact iString_fr h1 f
        | false =>
          rw [e3] at h1
          cases e4 : Nat.ble 1000 i with
          | true => rw [e4] at h1; exact iCheck_fr h1 f
          | false => rw [e4] at h1; cases h1
end Go.X
end
section
namespace Go.Proofs.XCode
open Go.X Go.RowKit Go.Proofs
set_option maxRecDepth 100000
theorem hS0 (n : Nat) : CallSound Tryz.prog (callE E0 (run E0 n)) := (sound0 n).1
theorem mixed0 : Tryz.prog.follows .mixedOrders = true := by kernel_rfl
theorem fnOKS : FnOK Tryz.prog tyT.get ES := by
  have hb : (Tryz.f76.body).isSome = true := by kernel_rfl
  obtain ⟨c, hc⟩ := Option.isSome_iff_exists.1 hb
  exact FnOK.add fnOK0 Tryz.func76 hc sizes_mk (enters_of Tryz.func76 (by kernel_rfl) rfl)
theorem soundS (n : Nat) : CallSound Tryz.prog (callE ES (run ES n)) ∧ CallMono (callE ES (run ES n)) := run_sound' tyOK fnOKS mixed0 n
theorem sizes_ok : IntrOK Tryz.prog 76 (fun _ => iSub [] [] (.slice 0 0 4 4 1 false) newSizes) := iSub_ok (soundS 500).1 (soundS 500).2 sizes_chk
theorem fnOK1 : FnOK Tryz.prog tyT.get E1 := by
  have l0 : ES.Low 10000000 := Env.add_low low0
  have l1 := Env.over_low (f0 := 129) (g := iSum) l0
  have l2 := Env.over_low (f0 := 86) (g := iBlk) l1
  have l3 := Env.over_low (f0 := 90) (g := iTag) l2
  have l4 := Env.over_low (f0 := 85) (g := iXor) l3
  exact FnOK.over (FnOK.over (FnOK.over (FnOK.over (FnOK.over fnOKS l0 (iSum_ok hS0)) l1 (iBlk_ok hS0)) l2 (iTag_ok hS0)) l3 (iXor_ok hS0)) l4 (iPut_ok hS0)
theorem sound1 (n : Nat) : CallSound Tryz.prog (callE E1 (run E1 n)) ∧ CallMono (callE E1 (run E1 n)) := run_sound' tyOK fnOK1 mixed0 n
theorem play_ok : IntrOK Tryz.prog 11 (fun _ => iSub needPlay argsPlay resPlay newPlay) := iSub_ok (sound1 5000).1 (sound1 5000).2 play_chk
theorem runs_ok : IntrOK Tryz.prog 13 (fun _ => iSub needRun argsRun resRun newRun) := iSub_ok (sound1 5000).1 (sound1 5000).2 run_chk
theorem fnOKW : FnOK Tryz.prog tyT.get EW := by
  have hb : (Tryz.f4.body).isSome = true := by kernel_rfl
  obtain ⟨c, hc⟩ := Option.isSome_iff_exists.1 hb
  exact FnOK.add (FnOK.over (FnOK.over fnOK0 low0 play_ok) (Env.over_low low0) runs_ok) Tryz.func4 hc works_mk (enters_of Tryz.func4 (by kernel_rfl) rfl)
theorem works_ok : IntrOK Tryz.prog 4 (fun _ => iFlat needW [] (.bool true)) := iFlat_ok (run_sound' tyOK fnOKW mixed0 2000).1 works_chk
noncomputable def E2 : Env := E0.over 4 10000000 (iFlat needW [] (.bool true))
theorem fnOK2 : FnOK Tryz.prog tyT.get E2 := FnOK.over fnOK0 low0 works_ok
theorem sound2 (n : Nat) : CallSound Tryz.prog (callE E2 (run E2 n)) ∧ CallMono (callE E2 (run E2 n)) := run_sound' tyOK fnOK2 mixed0 n
theorem hE2 : IntrMono E2 := IntrMono.over hE0
theorem works_none : E0.fn 4 = none := by
  have h : fnT.get 4 = none := by kernel_rfl
  simp only [E0, mkEnv, h]
theorem le2 : LeE E0 E2 := LeE.over hE0 low0 works_none
theorem iFlat_hit {need : List (Nat × XO)} {r : XV} {h : XH} (hs : subB need h = true) : iFlat need [] r [] h = some (r, h) := by
  unfold iFlat
  rw [hs]
  rfl
theorem XV.beqs_selfO (o : XO) (hc : ∃ c r t, o = .cells c r t) : oBeq o o = true := by
  obtain ⟨c, r, t, rfl⟩ := hc
  have h1 : bB r r = true := by cases r <;> rfl
  have h2 : oN t t = true := by
    cases t with
    | none => rfl
    | some n => exact Nat.beq_refl n
  simp only [oBeq, XV.beqs_self, h1, h2, Bool.and_self]
theorem sub_asc {h : XH} (hg : h.get 1 = some ascO) : subB needW h = true := by
  show (hasB h 1 ascO && true) = true
  unfold hasB
  rw [hg]
  show (oBeq ascO ascO && true) = true
  rw [XV.beqs_selfO ascO ⟨_, _, _, rfl⟩]
  rfl
theorem works_ev (h : XH) (hg : h.get 1 = some ascO) : CallEv E2 4 [] h (fun r k => r = .bool true ∧ k = h) := by
  refine call_intr' (E := E2) (Env.over_hit E0 _ _ _) 0 (v := .bool true) (h' := h) ?_ ⟨rfl, rfl⟩
  exact iFlat_hit (sub_asc hg)
noncomputable def E3 : Env := E2.over 76 10000001 (iSub [] [] (.slice 0 0 4 4 1 false) newSizes)
theorem low2 : E2.Low 10000001 := Env.over_low low0
theorem fnOK3 : FnOK Tryz.prog tyT.get E3 := FnOK.over fnOK2 low2 sizes_ok
theorem sound3 (n : Nat) : CallSound Tryz.prog (callE E3 (run E3 n)) ∧ CallMono (callE E3 (run E3 n)) := run_sound' tyOK fnOK3 mixed0 n
theorem hE3 : IntrMono E3 := IntrMono.over hE2
theorem sizes_none : E2.fn 76 = none := by
  have h : fnT.get 76 = none := by kernel_rfl
  have h0 : E0.fn 76 = none := by simp only [E0, mkEnv, h]
  exact (Env.over_miss (by decide)).trans h0
theorem le23 : LeE E2 E3 := LeE.over hE2 low2 sizes_none
theorem LeE.trans {A B C : Env} (h : LeE A B) (k : LeE B C) (hr : ∀ c : FuncId → List XV → XH → R, LeC c c) : LeE A C := ⟨fun f x e => k.fn _ _ (h.fn _ _ e), fun f i e c c' hc a hh r h1 => k.intr f i (h.fn _ _ e) c' c' (hr c') a hh r (h.intr f i e c c' hc a hh r h1)⟩
theorem le3 : LeE E0 E3 := LeE.trans le2 le23 (fun _ _ _ _ _ h => h)
theorem works_ev3 (h : XH) (hg : h.get 1 = some ascO) : CallEv E3 4 [] h (fun r k => r = .bool true ∧ k = h) := (works_ev h hg).le le23
theorem sizes_ev (h : XH) (hf : FreshH h) : CallEv E3 76 [] h (fun r k => r = .slice h.next 0 4 4 1 false ∧ k = h.new newSizes) := by
  refine call_intr' (E := E3) (Env.over_hit E2 _ _ _) 0 (v := .slice h.next 0 4 4 1 false) (h' := h.new newSizes) ?_ ⟨rfl, rfl⟩
  show iSub [] [] (.slice 0 0 4 4 1 false) newSizes [] h = _
  have h1 : noneB (h.get h.next) = true := by rw [hf _ (Nat.le_refl _)]; rfl
  unfold iSub
  rw [h1]
  rfl
theorem intr3_fr : IntrFr E3 := by
  intro c hc i a h r h' h1 f
  have h1 : (bif Nat.beq i 10000001 then iSub [] [] (.slice 0 0 4 4 1 false) newSizes a h else E2.intr c i a h) = some (r, h') := h1
  cases e : Nat.beq i 10000001 with
  | true =>
    rw [e] at h1
    have h1 : iSub [] [] (.slice 0 0 4 4 1 false) newSizes a h = some (r, h') := h1
    unfold iSub at h1
    obtain ⟨_, h2⟩ := bif_some h1
    have := inj_mono h2
    subst this
    exact f.new _
  | false =>
    rw [e] at h1
    have h1 : (bif Nat.beq i 10000000 then iFlat needW [] (.bool true) a h else intr c i a h) = some (r, h') := h1
    cases e2 : Nat.beq i 10000000 with
    | true =>
      rw [e2] at h1
      have h1 : iFlat needW [] (.bool true) a h = some (r, h') := h1
      unfold iFlat at h1
      obtain ⟨_, h2⟩ := bif_some h1
      have := inj_mono h2
      subst this
      exact f
    | false => rw [e2] at h1; exact intr_fr hc h1 f
instance : IM E2 := ⟨hE2⟩
instance : IM E3 := ⟨hE3⟩
end Go.Proofs.XCode
end
section
namespace Go.Proofs.XCode
open Go.X Go.Proofs
set_option maxRecDepth 100000
-- escutcheon/box.filled
abbrev n_box_filled : Nat := 91
abbrev c_box_filled_0 : XC := XC.region [⟨(some (ixOf 2)), (.p (.mov (.c (.str [])))), none⟩]
abbrev c_box_filled_1 : XC := XC.region [⟨(some (ixOf 3)), (.p (.mov (.t (ixOf 0)))), none⟩,
  ⟨(some (ixOf 4)), (.p (.mov (.t (ixOf 0)))), none⟩,
  ⟨(some (ixOf 5)), (.r (.len .str (.t (ixOf 4)))), none⟩,
  ⟨(some (ixOf 6)), (.p (.bin (.int .i64) .rem (.t (ixOf 5)) (.c (.int .i64 (.ofNat 16))))), none⟩,
  ⟨(some (ixOf 7)), (.p (.bin (.int .i64) .sub (.c (.int .i64 (.ofNat 16))) (.t (ixOf 6)))), none⟩,
  ⟨(some (ixOf 8)), (.p (.bin (.int .i64) .rem (.t (ixOf 7)) (.c (.int .i64 (.ofNat 16))))), none⟩,
  ⟨(some (ixOf 9)), (.e (.call 41 [(.c (.str [0])), (.t (ixOf 8))])), none⟩,
  ⟨(some (ixOf 10)), (.p (.bin .str .add (.t (ixOf 3)) (.t (ixOf 9)))), none⟩,
  ⟨(some (ixOf 2)), (.p (.mov (.t (ixOf 10)))), none⟩]
abbrev c_box_filled_2 : XC := XC.seq c_box_filled_1 .ret
abbrev c_box_filled_3 : XC := XC.seq c_box_filled_0 c_box_filled_2
abbrev x_box_filled : XFn := ⟨[.tmp (ixOf 2)], c_box_filled_3⟩
theorem mk_box_filled : mkFn tyT.get Tryz.f91 = some x_box_filled := by kernel_rfl
theorem fn_box_filled : E0.fn n_box_filled = some (.fn x_box_filled) := fn_of (by kernel_rfl) mk_box_filled
-- escutcheon/box.tag
abbrev n_box_tag : Nat := 43
abbrev c_box_tag_0 : XC := XC.region [⟨(some (ixOf 8)), (.p (.mov (.c (.str [])))), none⟩,
  ⟨(some (ixOf 9)), (.p (.mov (.c (.bool false)))), none⟩]
abbrev c_box_tag_1 : XC := XC.region [⟨(some (ixOf 14)), (.p (.mov (.t (ixOf 0)))), none⟩,
  ⟨(some (ixOf 15)), (.p (.mov (.t (ixOf 1)))), none⟩,
  ⟨(some (ixOf 16)), (.e (.call 88 [(.t (ixOf 14)), (.c (.int .u32 (.ofNat 0))), (.t (ixOf 15))])), none⟩,
  ⟨(some (ixOf 13)), (.p (.mov (.t (ixOf 16)))), none⟩,
  ⟨(some (ixOf 17)), (.p (.extract (.t (ixOf 13)) 0)), none⟩,
  ⟨(some (ixOf 18)), (.p (.extract (.t (ixOf 13)) 1)), none⟩,
  ⟨(some (ixOf 10)), (.p (.mov (.t (ixOf 17)))), none⟩,
  ⟨(some (ixOf 11)), (.p (.mov (.t (ixOf 18)))), none⟩]
abbrev c_box_tag_2 : XC := XC.region [⟨(some (ixOf 19)), (.p (.mov (.t (ixOf 11)))), none⟩,
  ⟨(some (ixOf 20)), (.p (.un .not (.t (ixOf 19)))), none⟩]
abbrev c_box_tag_3 : XC := XC.region [⟨(some (ixOf 8)), (.p (.mov (.c (.str [])))), none⟩,
  ⟨(some (ixOf 9)), (.p (.mov (.c (.bool false)))), none⟩]
abbrev c_box_tag_4 : XC := XC.seq c_box_tag_3 .ret
abbrev c_box_tag_5 : XC := XC.cond (.t (ixOf 20)) c_box_tag_4 .skip
abbrev c_box_tag_6 : XC := XC.seq c_box_tag_2 c_box_tag_5
abbrev c_box_tag_7 : XC := XC.region [⟨(some (ixOf 21)), (.p (.mov (.t (ixOf 3)))), none⟩,
  ⟨(some (ixOf 22)), (.r (.len .str (.t (ixOf 21)))), none⟩,
  ⟨(some (ixOf 23)), (.p (.convI .u64 (.t (ixOf 22)))), none⟩,
  ⟨(some (ixOf 24)), (.e (.call 89 [(.t (ixOf 23)), (.c (.int .i64 (.ofNat 8)))])), none⟩,
  ⟨(some (ixOf 25)), (.p (.mov (.t (ixOf 2)))), none⟩,
  ⟨(some (ixOf 26)), (.r (.len .str (.t (ixOf 25)))), none⟩,
  ⟨(some (ixOf 27)), (.p (.convI .u64 (.t (ixOf 26)))), none⟩,
  ⟨(some (ixOf 28)), (.e (.call 89 [(.t (ixOf 27)), (.c (.int .i64 (.ofNat 8)))])), none⟩,
  ⟨(some (ixOf 29)), (.p (.bin .str .add (.t (ixOf 24)) (.t (ixOf 28)))), none⟩,
  ⟨(some (ixOf 12)), (.p (.mov (.t (ixOf 29)))), none⟩]
abbrev c_box_tag_8 : XC := XC.drawn [⟨2, ⟨(some (ixOf 32)), (.p (.mov (.t (ixOf 3)))), none⟩, 0, 0, []⟩,
  ⟨3, ⟨(some (ixOf 33)), (.e (.call 91 [(.t (ixOf 32))])), none⟩, 0, 1, []⟩,
  ⟨4, ⟨(some (ixOf 34)), (.p (.mov (.t (ixOf 2)))), none⟩, 0, 1, []⟩,
  ⟨5, ⟨(some (ixOf 35)), (.e (.call 91 [(.t (ixOf 34))])), none⟩, 1, 2, []⟩,
  ⟨0, ⟨(some (ixOf 30)), (.p (.mov (.t (ixOf 10)))), none⟩, 0, 2, []⟩,
  ⟨1, ⟨(some (ixOf 31)), (.p (.sliceS (.t (ixOf 30)) none (some (.c (.int .i64 (.ofNat 32)))))), none⟩, 0, 2, []⟩,
  ⟨6, ⟨(some (ixOf 36)), (.p (.bin .str .add (.t (ixOf 33)) (.t (ixOf 35)))), none⟩, 2, 2, []⟩,
  ⟨7, ⟨(some (ixOf 37)), (.p (.mov (.t (ixOf 12)))), none⟩, 0, 2, []⟩,
  ⟨8, ⟨(some (ixOf 38)), (.p (.bin .str .add (.t (ixOf 36)) (.t (ixOf 37)))), none⟩, 2, 2, []⟩,
  ⟨9, ⟨(some (ixOf 39)), (.e (.call 90 [(.t (ixOf 31)), (.t (ixOf 38))])), none⟩, 2, 3, []⟩,
  ⟨10, ⟨(some (ixOf 40)), (.p (.extract (.t (ixOf 39)) 0)), none⟩, 3, 3, []⟩,
  ⟨11, ⟨(some (ixOf 41)), (.p (.extract (.t (ixOf 39)) 1)), none⟩, 3, 3, []⟩,
  ⟨12, ⟨(some (ixOf 8)), (.p (.mov (.t (ixOf 40)))), none⟩, 3, 3, []⟩,
  ⟨13, ⟨(some (ixOf 9)), (.p (.mov (.t (ixOf 41)))), none⟩, 3, 3, []⟩]
abbrev c_box_tag_9 : XC := XC.seq c_box_tag_8 .ret
abbrev c_box_tag_10 : XC := XC.seq c_box_tag_7 c_box_tag_9
abbrev c_box_tag_11 : XC := XC.seq c_box_tag_6 c_box_tag_10
abbrev c_box_tag_12 : XC := XC.seq c_box_tag_1 c_box_tag_11
abbrev c_box_tag_13 : XC := XC.seq c_box_tag_0 c_box_tag_12
abbrev x_box_tag : XFn := ⟨[.tmp (ixOf 8), .tmp (ixOf 9)], c_box_tag_13⟩
theorem mk_box_tag : mkFn tyT.get Tryz.f43 = some x_box_tag := by kernel_rfl
theorem fn_box_tag : E0.fn n_box_tag = some (.fn x_box_tag) := fn_of (by kernel_rfl) mk_box_tag
-- escutcheon/box.Seal
abbrev n_box_Seal : Nat := 18
abbrev c_box_Seal_0 : XC := XC.region [⟨(some (ixOf 8)), (.p (.mov (.c (.str [])))), none⟩,
  ⟨(some (ixOf 9)), (.p (.mov (.c (.bool false)))), none⟩]
abbrev c_box_Seal_1 : XC := XC.region [⟨(some (ixOf 14)), (.p (.mov (.t (ixOf 0)))), none⟩,
  ⟨(some (ixOf 15)), (.p (.mov (.t (ixOf 1)))), none⟩,
  ⟨(some (ixOf 16)), (.p (.mov (.t (ixOf 2)))), none⟩,
  ⟨(some (ixOf 17)), (.e (.call 42 [(.t (ixOf 14)), (.c (.int .u32 (.ofNat 1))), (.t (ixOf 15)), (.t (ixOf 16))])), none⟩,
  ⟨(some (ixOf 13)), (.p (.mov (.t (ixOf 17)))), none⟩,
  ⟨(some (ixOf 18)), (.p (.extract (.t (ixOf 13)) 0)), none⟩,
  ⟨(some (ixOf 19)), (.p (.extract (.t (ixOf 13)) 1)), none⟩,
  ⟨(some (ixOf 10)), (.p (.mov (.t (ixOf 18)))), none⟩,
  ⟨(some (ixOf 11)), (.p (.mov (.t (ixOf 19)))), none⟩]
abbrev c_box_Seal_2 : XC := XC.region [⟨(some (ixOf 20)), (.p (.mov (.t (ixOf 11)))), none⟩,
  ⟨(some (ixOf 21)), (.p (.un .not (.t (ixOf 20)))), none⟩]
abbrev c_box_Seal_3 : XC := XC.region [⟨(some (ixOf 8)), (.p (.mov (.c (.str [])))), none⟩,
  ⟨(some (ixOf 9)), (.p (.mov (.c (.bool false)))), none⟩]
abbrev c_box_Seal_4 : XC := XC.seq c_box_Seal_3 .ret
abbrev c_box_Seal_5 : XC := XC.cond (.t (ixOf 21)) c_box_Seal_4 .skip
abbrev c_box_Seal_6 : XC := XC.seq c_box_Seal_2 c_box_Seal_5
abbrev c_box_Seal_7 : XC := XC.region [⟨(some (ixOf 23)), (.p (.mov (.t (ixOf 0)))), none⟩,
  ⟨(some (ixOf 24)), (.p (.mov (.t (ixOf 1)))), none⟩,
  ⟨(some (ixOf 25)), (.p (.mov (.t (ixOf 10)))), none⟩,
  ⟨(some (ixOf 26)), (.p (.mov (.t (ixOf 3)))), none⟩,
  ⟨(some (ixOf 27)), (.e (.call 43 [(.t (ixOf 23)), (.t (ixOf 24)), (.t (ixOf 25)), (.t (ixOf 26))])), none⟩,
  ⟨(some (ixOf 22)), (.p (.mov (.t (ixOf 27)))), none⟩,
  ⟨(some (ixOf 28)), (.p (.extract (.t (ixOf 22)) 0)), none⟩,
  ⟨(some (ixOf 29)), (.p (.extract (.t (ixOf 22)) 1)), none⟩,
  ⟨(some (ixOf 12)), (.p (.mov (.t (ixOf 28)))), none⟩,
  ⟨(some (ixOf 11)), (.p (.mov (.t (ixOf 29)))), none⟩]
abbrev c_box_Seal_8 : XC := XC.region [⟨(some (ixOf 30)), (.p (.mov (.t (ixOf 10)))), none⟩,
  ⟨(some (ixOf 31)), (.p (.mov (.t (ixOf 12)))), none⟩,
  ⟨(some (ixOf 32)), (.p (.bin .str .add (.t (ixOf 30)) (.t (ixOf 31)))), none⟩,
  ⟨(some (ixOf 33)), (.p (.mov (.t (ixOf 11)))), none⟩,
  ⟨(some (ixOf 8)), (.p (.mov (.t (ixOf 32)))), none⟩,
  ⟨(some (ixOf 9)), (.p (.mov (.t (ixOf 33)))), none⟩]
abbrev c_box_Seal_9 : XC := XC.seq c_box_Seal_8 .ret
abbrev c_box_Seal_10 : XC := XC.seq c_box_Seal_7 c_box_Seal_9
abbrev c_box_Seal_11 : XC := XC.seq c_box_Seal_6 c_box_Seal_10
abbrev c_box_Seal_12 : XC := XC.seq c_box_Seal_1 c_box_Seal_11
abbrev c_box_Seal_13 : XC := XC.seq c_box_Seal_0 c_box_Seal_12
abbrev x_box_Seal : XFn := ⟨[.tmp (ixOf 8), .tmp (ixOf 9)], c_box_Seal_13⟩
theorem mk_box_Seal : mkFn tyT.get Tryz.f18 = some x_box_Seal := by kernel_rfl
theorem fn_box_Seal : E0.fn n_box_Seal = some (.fn x_box_Seal) := fn_of (by kernel_rfl) mk_box_Seal
-- escutcheon/pad.Size
abbrev n_pad_Size : Nat := 40
abbrev c_pad_Size_0 : XC := XC.region [⟨(some (ixOf 2)), (.p (.mov (.c (.int .i64 (.ofNat 0))))), none⟩,
  ⟨(some (ixOf 3)), (.p (.mov (.c (.bool false)))), none⟩]
abbrev c_pad_Size_1 : XC := XC.region [⟨(some (ixOf 6)), (.e (.call 76 [])), none⟩,
  ⟨(some (ixOf 7)), (.r (.len (.slice 3) (.t (ixOf 6)))), none⟩,
  ⟨(some (ixOf 8)), (.p (.mov (.c (.int .i64 (.ofNat 0))))), none⟩]
abbrev c_pad_Size_2 : XC := XC.region [⟨(some (ixOf 9)), (.p (.bin (.int .i64) .lss (.t (ixOf 8)) (.t (ixOf 7)))), none⟩]
abbrev c_pad_Size_3 : XC := XC.cond (.t (ixOf 9)) .skip (.exit 0)
abbrev c_pad_Size_4 : XC := XC.region [⟨(some (ixOf 10)), (.p (.idxL 1 (.t (ixOf 6)) (.t (ixOf 8)))), none⟩,
  ⟨(some (ixOf 11)), (.r (.load .one (.t (ixOf 10)))), none⟩,
  ⟨(some (ixOf 5)), (.p (.mov (.t (ixOf 11)))), none⟩]
abbrev c_pad_Size_5 : XC := XC.region [⟨(some (ixOf 12)), (.p (.mov (.t (ixOf 0)))), none⟩,
  ⟨(some (ixOf 13)), (.p (.bin (.int .i64) .geq (.t (ixOf 12)) (.c (.int .i64 (.ofNat 0))))), none⟩,
  ⟨(some (ixOf 14)), (.p (.mov (.t (ixOf 13)))), none⟩,
  ⟨(some (ixOf 15)), (.p (.mov (.t (ixOf 0)))), (some ((ixOf 14), true))⟩,
  ⟨(some (ixOf 16)), (.p (.mov (.t (ixOf 5)))), (some ((ixOf 14), true))⟩,
  ⟨(some (ixOf 17)), (.p (.bin (.int .i64) .sub (.t (ixOf 16)) (.c (.int .i64 (.ofNat 2))))), (some ((ixOf 14), true))⟩,
  ⟨(some (ixOf 18)), (.p (.bin (.int .i64) .leq (.t (ixOf 15)) (.t (ixOf 17)))), (some ((ixOf 14), true))⟩,
  ⟨(some (ixOf 19)), (.p (.pick (.t (ixOf 14)) (.t (ixOf 18)) (.c (.bool false)))), none⟩]
abbrev c_pad_Size_6 : XC := XC.region [⟨(some (ixOf 20)), (.p (.mov (.t (ixOf 5)))), none⟩,
  ⟨(some (ixOf 2)), (.p (.mov (.t (ixOf 20)))), none⟩,
  ⟨(some (ixOf 3)), (.p (.mov (.c (.bool true)))), none⟩]
abbrev c_pad_Size_7 : XC := XC.seq c_pad_Size_6 .ret
abbrev c_pad_Size_8 : XC := XC.cond (.t (ixOf 19)) c_pad_Size_7 .skip
abbrev c_pad_Size_9 : XC := XC.seq c_pad_Size_5 c_pad_Size_8
abbrev c_pad_Size_10 : XC := XC.seq c_pad_Size_4 c_pad_Size_9
abbrev c_pad_Size_11 : XC := XC.block 1 c_pad_Size_10
abbrev c_pad_Size_12 : XC := XC.region [⟨(some (ixOf 21)), (.p (.bin (.int .i64) .add (.t (ixOf 8)) (.c (.int .i64 (.ofNat 1))))), none⟩,
  ⟨(some (ixOf 8)), (.p (.mov (.t (ixOf 21)))), none⟩]
abbrev c_pad_Size_13 : XC := XC.seq c_pad_Size_11 c_pad_Size_12
abbrev c_pad_Size_14 : XC := XC.seq c_pad_Size_3 c_pad_Size_13
abbrev c_pad_Size_15 : XC := XC.seq c_pad_Size_2 c_pad_Size_14
abbrev c_pad_Size_16 : XC := XC.loop c_pad_Size_15
abbrev c_pad_Size_17 : XC := XC.block 0 c_pad_Size_16
abbrev c_pad_Size_18 : XC := XC.seq c_pad_Size_1 c_pad_Size_17
abbrev c_pad_Size_19 : XC := XC.region [⟨(some (ixOf 2)), (.p (.mov (.c (.int .i64 (.ofNat 0))))), none⟩,
  ⟨(some (ixOf 3)), (.p (.mov (.c (.bool false)))), none⟩]
abbrev c_pad_Size_20 : XC := XC.seq c_pad_Size_19 .ret
abbrev c_pad_Size_21 : XC := XC.seq c_pad_Size_18 c_pad_Size_20
abbrev c_pad_Size_22 : XC := XC.seq c_pad_Size_0 c_pad_Size_21
abbrev x_pad_Size : XFn := ⟨[.tmp (ixOf 2), .tmp (ixOf 3)], c_pad_Size_22⟩
theorem mk_pad_Size : mkFn tyT.get Tryz.f40 = some x_pad_Size := by kernel_rfl
theorem fn_pad_Size : E0.fn n_pad_Size = some (.fn x_pad_Size) := fn_of (by kernel_rfl) mk_pad_Size
-- (*escutcheon/pad.sizes).made
abbrev n_pad_sizes_made : Nat := 130
abbrev c_pad_sizes_made_0 : XC := XC.region [⟨(some (ixOf 1)), (.a (.box (.t (ixOf 0)))), none⟩,
  ⟨(some (ixOf 2)), (.p (.mov (.c .nils))), none⟩]
abbrev c_pad_sizes_made_1 : XC := XC.region [⟨(some (ixOf 3)), (.r (.load .one (.t (ixOf 1)))), none⟩,
  ⟨(some (ixOf 4)), (.p (.nilCheck (.t (ixOf 3)))), none⟩,
  ⟨(some (ixOf 5)), (.p (.addr 0 (.t (ixOf 4)))), none⟩,
  ⟨(some (ixOf 6)), (.p (.makeFunc 182 [(.t (ixOf 1))])), none⟩,
  ⟨(some (ixOf 7)), (.e (.call 45 [(.t (ixOf 5)), (.t (ixOf 6))])), none⟩]
abbrev c_pad_sizes_made_2 : XC := XC.region [⟨(some (ixOf 8)), (.r (.load .one (.t (ixOf 1)))), none⟩,
  ⟨(some (ixOf 9)), (.p (.nilCheck (.t (ixOf 8)))), none⟩,
  ⟨(some (ixOf 10)), (.p (.addr 3 (.t (ixOf 9)))), none⟩,
  ⟨(some (ixOf 11)), (.r (.load .one (.t (ixOf 10)))), none⟩,
  ⟨(some (ixOf 2)), (.p (.mov (.t (ixOf 11)))), none⟩]
abbrev c_pad_sizes_made_3 : XC := XC.seq c_pad_sizes_made_2 .ret
abbrev c_pad_sizes_made_4 : XC := XC.seq c_pad_sizes_made_1 c_pad_sizes_made_3
abbrev c_pad_sizes_made_5 : XC := XC.seq c_pad_sizes_made_0 c_pad_sizes_made_4
abbrev x_pad_sizes_made : XFn := ⟨[.tmp (ixOf 2)], c_pad_sizes_made_5⟩
theorem mk_pad_sizes_made : mkFn tyT.get Tryz.f130 = some x_pad_sizes_made := by kernel_rfl
theorem fn_pad_sizes_made : E0.fn n_pad_sizes_made = some (.fn x_pad_sizes_made) := fn_of (by kernel_rfl) mk_pad_sizes_made
-- (*escutcheon/pad.sizes).made$1
abbrev n_pad_sizes_made_1 : Nat := 182
abbrev c_pad_sizes_made_1_0 : XC := XC.region [⟨(some (ixOf 1)), (.p (.mov (.c (.int .i64 (.ofNat 32))))), none⟩]
abbrev c_pad_sizes_made_1_1 : XC := XC.region [⟨(some (ixOf 2)), (.r (.load .one (.t (ixOf 0)))), none⟩,
  ⟨(some (ixOf 3)), (.p (.nilCheck (.t (ixOf 2)))), none⟩,
  ⟨(some (ixOf 4)), (.p (.addr 3 (.t (ixOf 3)))), none⟩,
  ⟨(some (ixOf 5)), (.r (.load .one (.t (ixOf 4)))), none⟩,
  ⟨(some (ixOf 6)), (.r (.len (.slice 3) (.t (ixOf 5)))), none⟩,
  ⟨(some (ixOf 7)), (.p (.bin (.int .i64) .lss (.t (ixOf 6)) (.c (.int .i64 (.ofNat 4))))), none⟩]
abbrev c_pad_sizes_made_1_2 : XC := XC.cond (.t (ixOf 7)) .skip (.exit 0)
abbrev c_pad_sizes_made_1_3 : XC := XC.seq c_pad_sizes_made_1_1 c_pad_sizes_made_1_2
abbrev c_pad_sizes_made_1_4 : XC := XC.drawn [⟨1, ⟨(some (ixOf 11)), (.r (.load .one (.t (ixOf 0)))), none⟩, 0, 0, []⟩,
  ⟨2, ⟨(some (ixOf 12)), (.p (.nilCheck (.t (ixOf 11)))), none⟩, 0, 0, []⟩,
  ⟨3, ⟨(some (ixOf 13)), (.p (.addr 3 (.t (ixOf 12)))), none⟩, 0, 0, []⟩,
  ⟨4, ⟨(some (ixOf 14)), (.r (.load .one (.t (ixOf 13)))), none⟩, 0, 0, []⟩,
  ⟨5, ⟨(some (ixOf 15)), (.p (.mov (.t (ixOf 1)))), none⟩, 0, 0, []⟩,
  ⟨6, ⟨(some (ixOf 16)), (.a (.buildSlice 1 [(.int .i64 (.ofNat 0))] [(0, 1, (.t (ixOf 15)))] 1)), none⟩, 0, 0, []⟩,
  ⟨7, ⟨(some (ixOf 17)), (.e (.append 1 8 3 (.t (ixOf 14)) (.t (ixOf 16)))), none⟩, 0, 1, [6]⟩,
  ⟨0, ⟨(some (ixOf 10)), (.r (.load .one (.t (ixOf 0)))), none⟩, 0, 1, []⟩,
  ⟨8, ⟨(some (ixOf 18)), (.p (.nilCheck (.t (ixOf 10)))), none⟩, 1, 1, [6]⟩,
  ⟨9, ⟨(some (ixOf 19)), (.p (.addr 3 (.t (ixOf 18)))), none⟩, 1, 1, [6]⟩,
  ⟨10, ⟨none, (.e (.store 1 (.t (ixOf 19)) (.t (ixOf 17)))), none⟩, 1, 2, [6]⟩]
abbrev c_pad_sizes_made_1_5 : XC := XC.block 1 c_pad_sizes_made_1_4
abbrev c_pad_sizes_made_1_6 : XC := XC.region [⟨(some (ixOf 8)), (.p (.mov (.t (ixOf 1)))), none⟩,
  ⟨(some (ixOf 9)), (.p (.bin (.int .i64) .mul (.t (ixOf 8)) (.c (.int .i64 (.ofNat 4))))), none⟩,
  ⟨(some (ixOf 1)), (.p (.mov (.t (ixOf 9)))), none⟩]
abbrev c_pad_sizes_made_1_7 : XC := XC.seq c_pad_sizes_made_1_5 c_pad_sizes_made_1_6
abbrev c_pad_sizes_made_1_8 : XC := XC.seq c_pad_sizes_made_1_3 c_pad_sizes_made_1_7
abbrev c_pad_sizes_made_1_9 : XC := XC.loop c_pad_sizes_made_1_8
abbrev c_pad_sizes_made_1_10 : XC := XC.block 0 c_pad_sizes_made_1_9
abbrev c_pad_sizes_made_1_11 : XC := XC.seq c_pad_sizes_made_1_0 c_pad_sizes_made_1_10
abbrev x_pad_sizes_made_1 : XFn := ⟨[], c_pad_sizes_made_1_11⟩
theorem mk_pad_sizes_made_1 : mkFn tyT.get Tryz.f182 = some x_pad_sizes_made_1 := by kernel_rfl
theorem fn_pad_sizes_made_1 : E0.fn n_pad_sizes_made_1 = some (.fn x_pad_sizes_made_1) := fn_of (by kernel_rfl) mk_pad_sizes_made_1
-- escutcheon/pad.Pad
abbrev n_pad_Pad : Nat := 15
abbrev c_pad_Pad_0 : XC := XC.region [⟨(some (ixOf 2)), (.p (.mov (.c (.str [])))), none⟩,
  ⟨(some (ixOf 3)), (.p (.mov (.c (.bool false)))), none⟩]
abbrev c_pad_Pad_1 : XC := XC.region [⟨(some (ixOf 7)), (.p (.mov (.t (ixOf 0)))), none⟩,
  ⟨(some (ixOf 8)), (.r (.len .str (.t (ixOf 7)))), none⟩,
  ⟨(some (ixOf 9)), (.e (.call 40 [(.t (ixOf 8))])), none⟩,
  ⟨(some (ixOf 6)), (.p (.mov (.t (ixOf 9)))), none⟩,
  ⟨(some (ixOf 10)), (.p (.extract (.t (ixOf 6)) 0)), none⟩,
  ⟨(some (ixOf 11)), (.p (.extract (.t (ixOf 6)) 1)), none⟩,
  ⟨(some (ixOf 4)), (.p (.mov (.t (ixOf 10)))), none⟩,
  ⟨(some (ixOf 5)), (.p (.mov (.t (ixOf 11)))), none⟩]
abbrev c_pad_Pad_2 : XC := XC.region [⟨(some (ixOf 12)), (.p (.mov (.t (ixOf 5)))), none⟩,
  ⟨(some (ixOf 13)), (.p (.un .not (.t (ixOf 12)))), none⟩]
abbrev c_pad_Pad_3 : XC := XC.region [⟨(some (ixOf 2)), (.p (.mov (.c (.str [])))), none⟩,
  ⟨(some (ixOf 3)), (.p (.mov (.c (.bool false)))), none⟩]
abbrev c_pad_Pad_4 : XC := XC.seq c_pad_Pad_3 .ret
abbrev c_pad_Pad_5 : XC := XC.cond (.t (ixOf 13)) c_pad_Pad_4 .skip
abbrev c_pad_Pad_6 : XC := XC.seq c_pad_Pad_2 c_pad_Pad_5
abbrev c_pad_Pad_7 : XC := XC.region [⟨(some (ixOf 14)), (.p (.mov (.t (ixOf 0)))), none⟩,
  ⟨(some (ixOf 15)), (.r (.len .str (.t (ixOf 14)))), none⟩,
  ⟨(some (ixOf 16)), (.p (.convI .u64 (.t (ixOf 15)))), none⟩,
  ⟨(some (ixOf 17)), (.e (.call 17 [(.t (ixOf 16)), (.c (.int .i64 (.ofNat 2)))])), none⟩,
  ⟨(some (ixOf 18)), (.p (.mov (.t (ixOf 0)))), none⟩,
  ⟨(some (ixOf 19)), (.p (.bin .str .add (.t (ixOf 17)) (.t (ixOf 18)))), none⟩,
  ⟨(some (ixOf 20)), (.p (.mov (.t (ixOf 4)))), none⟩,
  ⟨(some (ixOf 21)), (.p (.bin (.int .i64) .sub (.t (ixOf 20)) (.c (.int .i64 (.ofNat 2))))), none⟩,
  ⟨(some (ixOf 22)), (.p (.mov (.t (ixOf 0)))), none⟩,
  ⟨(some (ixOf 23)), (.r (.len .str (.t (ixOf 22)))), none⟩,
  ⟨(some (ixOf 24)), (.p (.bin (.int .i64) .sub (.t (ixOf 21)) (.t (ixOf 23)))), none⟩,
  ⟨(some (ixOf 25)), (.e (.call 41 [(.c (.str [0])), (.t (ixOf 24))])), none⟩,
  ⟨(some (ixOf 26)), (.p (.bin .str .add (.t (ixOf 19)) (.t (ixOf 25)))), none⟩,
  ⟨(some (ixOf 2)), (.p (.mov (.t (ixOf 26)))), none⟩,
  ⟨(some (ixOf 3)), (.p (.mov (.c (.bool true)))), none⟩]
abbrev c_pad_Pad_8 : XC := XC.seq c_pad_Pad_7 .ret
abbrev c_pad_Pad_9 : XC := XC.seq c_pad_Pad_6 c_pad_Pad_8
abbrev c_pad_Pad_10 : XC := XC.seq c_pad_Pad_1 c_pad_Pad_9
abbrev c_pad_Pad_11 : XC := XC.seq c_pad_Pad_0 c_pad_Pad_10
abbrev x_pad_Pad : XFn := ⟨[.tmp (ixOf 2), .tmp (ixOf 3)], c_pad_Pad_11⟩
theorem mk_pad_Pad : mkFn tyT.get Tryz.f15 = some x_pad_Pad := by kernel_rfl
theorem fn_pad_Pad : E0.fn n_pad_Pad = some (.fn x_pad_Pad) := fn_of (by kernel_rfl) mk_pad_Pad
-- (*escutcheon/record.turns).at
abbrev n_record_turns_at : Nat := 19
abbrev c_record_turns_at_0 : XC := XC.region [⟨(some (ixOf 2)), (.a (.box (.t (ixOf 0)))), none⟩,
  ⟨(some (ixOf 4)), (.p (.mov (.c (.str [])))), none⟩]
abbrev c_record_turns_at_1 : XC := XC.region [⟨(some (ixOf 7)), (.p (.mov (.t (ixOf 1)))), none⟩,
  ⟨(some (ixOf 8)), (.e (.call 44 [(.t (ixOf 7))])), none⟩,
  ⟨(some (ixOf 5)), (.a (.alloc 3 [(.int .i64 (.ofNat 0))])), none⟩,
  ⟨none, (.e (.store 1 (.t (ixOf 5)) (.t (ixOf 8)))), none⟩]
abbrev c_record_turns_at_2 : XC := XC.drawn [⟨0, ⟨(some (ixOf 9)), (.r (.load .one (.t (ixOf 2)))), none⟩, 0, 0, []⟩,
  ⟨1, ⟨(some (ixOf 10)), (.p (.nilCheck (.t (ixOf 9)))), none⟩, 0, 0, []⟩,
  ⟨2, ⟨(some (ixOf 11)), (.p (.addr 1 (.t (ixOf 10)))), none⟩, 0, 0, []⟩,
  ⟨3, ⟨(some (ixOf 12)), (.r (.load .one (.t (ixOf 11)))), none⟩, 0, 0, []⟩,
  ⟨4, ⟨(some (ixOf 13)), (.r (.load .one (.t (ixOf 5)))), none⟩, 0, 0, []⟩,
  ⟨5, ⟨(some (ixOf 14)), (.r (.lookup false .nilp (.t (ixOf 12)) (.t (ixOf 13)) false)), none⟩, 0, 0, []⟩,
  ⟨6, ⟨(some (ixOf 6)), (.a (.alloc 111 [.nilp])), none⟩, 0, 0, []⟩,
  ⟨7, ⟨none, (.e (.store 1 (.t (ixOf 6)) (.t (ixOf 14)))), none⟩, 0, 1, [6]⟩]
abbrev c_record_turns_at_3 : XC := XC.region [⟨(some (ixOf 15)), (.r (.load .one (.t (ixOf 6)))), none⟩,
  ⟨(some (ixOf 16)), (.p (.bin (.ptr 122) .eql (.t (ixOf 15)) (.c .nilp))), none⟩]
abbrev c_record_turns_at_4 : XC := XC.region [⟨(some (ixOf 17)), (.p (.build [(.int .u32 (.ofNat 0)), (.int .i32 (.ofNat 0)), (.int .u32 (.ofNat 0)), (.str [])] [])), none⟩,
  ⟨(some (ixOf 18)), (.a (.box (.t (ixOf 17)))), none⟩,
  ⟨none, (.e (.store 1 (.t (ixOf 6)) (.t (ixOf 18)))), none⟩]
abbrev c_record_turns_at_5 : XC := XC.drawn [⟨0, ⟨(some (ixOf 19)), (.r (.load .one (.t (ixOf 2)))), none⟩, 0, 0, []⟩,
  ⟨1, ⟨(some (ixOf 20)), (.p (.nilCheck (.t (ixOf 19)))), none⟩, 0, 0, []⟩,
  ⟨2, ⟨(some (ixOf 21)), (.p (.addr 1 (.t (ixOf 20)))), none⟩, 0, 0, []⟩,
  ⟨3, ⟨(some (ixOf 22)), (.r (.load .one (.t (ixOf 21)))), none⟩, 0, 0, []⟩,
  ⟨4, ⟨(some (ixOf 23)), (.r (.load .one (.t (ixOf 5)))), none⟩, 0, 0, []⟩,
  ⟨5, ⟨(some (ixOf 24)), (.r (.load .one (.t (ixOf 6)))), none⟩, 0, 0, []⟩,
  ⟨6, ⟨none, (.e (.mapUpdate false (.t (ixOf 22)) (.t (ixOf 23)) (.t (ixOf 24)))), none⟩, 0, 1, []⟩]
abbrev c_record_turns_at_6 : XC := XC.seq c_record_turns_at_4 c_record_turns_at_5
abbrev c_record_turns_at_7 : XC := XC.cond (.t (ixOf 16)) c_record_turns_at_6 .skip
abbrev c_record_turns_at_8 : XC := XC.seq c_record_turns_at_3 c_record_turns_at_7
abbrev c_record_turns_at_9 : XC := XC.region [⟨(some (ixOf 25)), (.r (.load .one (.t (ixOf 6)))), none⟩,
  ⟨(some (ixOf 26)), (.p (.nilCheck (.t (ixOf 25)))), none⟩,
  ⟨(some (ixOf 27)), (.p (.addr 0 (.t (ixOf 26)))), none⟩,
  ⟨(some (ixOf 28)), (.p (.makeFunc 46 [(.t (ixOf 2)), (.t (ixOf 5)), (.t (ixOf 6))])), none⟩,
  ⟨(some (ixOf 29)), (.e (.call 45 [(.t (ixOf 27)), (.t (ixOf 28))])), none⟩]
abbrev c_record_turns_at_10 : XC := XC.region [⟨(some (ixOf 30)), (.r (.load .one (.t (ixOf 6)))), none⟩,
  ⟨(some (ixOf 31)), (.p (.nilCheck (.t (ixOf 30)))), none⟩,
  ⟨(some (ixOf 32)), (.p (.addr 3 (.t (ixOf 31)))), none⟩,
  ⟨(some (ixOf 33)), (.r (.load .one (.t (ixOf 32)))), none⟩,
  ⟨(some (ixOf 4)), (.p (.mov (.t (ixOf 33)))), none⟩]
abbrev c_record_turns_at_11 : XC := XC.seq c_record_turns_at_10 .ret
abbrev c_record_turns_at_12 : XC := XC.seq c_record_turns_at_9 c_record_turns_at_11
abbrev c_record_turns_at_13 : XC := XC.seq c_record_turns_at_8 c_record_turns_at_12
abbrev c_record_turns_at_14 : XC := XC.seq c_record_turns_at_2 c_record_turns_at_13
abbrev c_record_turns_at_15 : XC := XC.seq c_record_turns_at_1 c_record_turns_at_14
abbrev c_record_turns_at_16 : XC := XC.seq c_record_turns_at_0 c_record_turns_at_15
abbrev x_record_turns_at : XFn := ⟨[.tmp (ixOf 4)], c_record_turns_at_16⟩
theorem mk_record_turns_at : mkFn tyT.get Tryz.f19 = some x_record_turns_at := by kernel_rfl
theorem fn_record_turns_at : E0.fn n_record_turns_at = some (.fn x_record_turns_at) := fn_of (by kernel_rfl) mk_record_turns_at
-- (*escutcheon/record.turns).at$1
abbrev n_record_turns_at_1 : Nat := 46
abbrev c_record_turns_at_1_0 : XC := XC.drawn [⟨1, ⟨(some (ixOf 5)), (.r (.load .one (.t (ixOf 0)))), none⟩, 0, 0, []⟩,
  ⟨2, ⟨(some (ixOf 6)), (.p (.nilCheck (.t (ixOf 5)))), none⟩, 0, 0, []⟩,
  ⟨3, ⟨(some (ixOf 7)), (.p (.addr 0 (.t (ixOf 6)))), none⟩, 0, 0, []⟩,
  ⟨4, ⟨(some (ixOf 8)), (.r (.load .one (.t (ixOf 7)))), none⟩, 0, 0, []⟩,
  ⟨5, ⟨(some (ixOf 9)), (.r (.load .one (.t (ixOf 1)))), none⟩, 0, 0, []⟩,
  ⟨6, ⟨(some (ixOf 10)), (.e (.call 47 [(.t (ixOf 8)), (.t (ixOf 9))])), none⟩, 0, 1, []⟩,
  ⟨0, ⟨(some (ixOf 4)), (.r (.load .one (.t (ixOf 2)))), none⟩, 0, 1, []⟩,
  ⟨7, ⟨(some (ixOf 3)), (.p (.mov (.t (ixOf 10)))), none⟩, 1, 1, []⟩,
  ⟨8, ⟨(some (ixOf 11)), (.p (.extract (.t (ixOf 3)) 0)), none⟩, 1, 1, []⟩,
  ⟨10, ⟨(some (ixOf 13)), (.p (.nilCheck (.t (ixOf 4)))), none⟩, 1, 1, []⟩,
  ⟨11, ⟨(some (ixOf 14)), (.p (.addr 3 (.t (ixOf 13)))), none⟩, 1, 1, []⟩,
  ⟨12, ⟨none, (.e (.store 1 (.t (ixOf 14)) (.t (ixOf 11)))), none⟩, 1, 2, []⟩,
  ⟨9, ⟨(some (ixOf 12)), (.p (.extract (.t (ixOf 3)) 1)), none⟩, 1, 2, []⟩]
abbrev x_record_turns_at_1 : XFn := ⟨[], c_record_turns_at_1_0⟩
theorem mk_record_turns_at_1 : mkFn tyT.get Tryz.f46 = some x_record_turns_at_1 := by kernel_rfl
theorem fn_record_turns_at_1 : E0.fn n_record_turns_at_1 = some (.fn x_record_turns_at_1) := fn_of (by kernel_rfl) mk_record_turns_at_1
-- escutcheon/record.NewOut
abbrev n_record_NewOut : Nat := 7
abbrev c_record_NewOut_0 : XC := XC.region [⟨(some (ixOf 2)), (.p (.mov (.c .nilp))), none⟩]
abbrev c_record_NewOut_1 : XC := XC.region [⟨(some (ixOf 3)), (.p (.mov (.t (ixOf 0)))), none⟩,
  ⟨(some (ixOf 4)), (.r (.len .str (.t (ixOf 3)))), none⟩,
  ⟨(some (ixOf 5)), (.p (.bin (.int .i64) .neq (.t (ixOf 4)) (.c (.int .i64 (.ofNat 32))))), none⟩]
abbrev c_record_NewOut_2 : XC := XC.region [⟨(some (ixOf 2)), (.p (.mov (.c .nilp))), none⟩]
abbrev c_record_NewOut_3 : XC := XC.seq c_record_NewOut_2 .ret
abbrev c_record_NewOut_4 : XC := XC.cond (.t (ixOf 5)) c_record_NewOut_3 .skip
abbrev c_record_NewOut_5 : XC := XC.seq c_record_NewOut_1 c_record_NewOut_4
abbrev c_record_NewOut_6 : XC := XC.region [⟨(some (ixOf 6)), (.p (.mov (.t (ixOf 0)))), none⟩,
  ⟨(some (ixOf 7)), (.a .makeMap), none⟩,
  ⟨(some (ixOf 8)), (.p (.build [(.str []), .nilm] [(0, 1, (.t (ixOf 6))), (1, 1, (.t (ixOf 7)))])), none⟩,
  ⟨(some (ixOf 9)), (.a (.box (.t (ixOf 8)))), none⟩,
  ⟨(some (ixOf 10)), (.p (.build [.nilp, (.int .i64 (.ofNat 0))] [(0, 1, (.t (ixOf 9)))])), none⟩,
  ⟨(some (ixOf 11)), (.a (.box (.t (ixOf 10)))), none⟩,
  ⟨(some (ixOf 2)), (.p (.mov (.t (ixOf 11)))), none⟩]
abbrev c_record_NewOut_7 : XC := XC.seq c_record_NewOut_6 .ret
abbrev c_record_NewOut_8 : XC := XC.seq c_record_NewOut_5 c_record_NewOut_7
abbrev c_record_NewOut_9 : XC := XC.seq c_record_NewOut_0 c_record_NewOut_8
abbrev x_record_NewOut : XFn := ⟨[.tmp (ixOf 2)], c_record_NewOut_9⟩
theorem mk_record_NewOut : mkFn tyT.get Tryz.f7 = some x_record_NewOut := by kernel_rfl
theorem fn_record_NewOut : E0.fn n_record_NewOut = some (.fn x_record_NewOut) := fn_of (by kernel_rfl) mk_record_NewOut
-- (*escutcheon/record.Out).Next
abbrev n_record_Out_Next : Nat := 16
abbrev c_record_Out_Next_0 : XC := XC.region [⟨(some (ixOf 2)), (.p (.mov (.c (.int .i64 (.ofNat 0))))), none⟩]
abbrev c_record_Out_Next_1 : XC := XC.region [⟨(some (ixOf 3)), (.p (.mov (.t (ixOf 0)))), none⟩,
  ⟨(some (ixOf 4)), (.p (.bin (.ptr 66) .eql (.t (ixOf 3)) (.c .nilp))), none⟩]
abbrev c_record_Out_Next_2 : XC := XC.region [⟨(some (ixOf 2)), (.p (.mov (.c (.int .i64 (.ofNat 0))))), none⟩]
abbrev c_record_Out_Next_3 : XC := XC.seq c_record_Out_Next_2 .ret
abbrev c_record_Out_Next_4 : XC := XC.cond (.t (ixOf 4)) c_record_Out_Next_3 .skip
abbrev c_record_Out_Next_5 : XC := XC.seq c_record_Out_Next_1 c_record_Out_Next_4
abbrev c_record_Out_Next_6 : XC := XC.region [⟨(some (ixOf 5)), (.p (.mov (.t (ixOf 0)))), none⟩,
  ⟨(some (ixOf 6)), (.p (.nilCheck (.t (ixOf 5)))), none⟩,
  ⟨(some (ixOf 7)), (.p (.addr 1 (.t (ixOf 6)))), none⟩,
  ⟨(some (ixOf 8)), (.e (.call 29 [(.t (ixOf 7))])), none⟩,
  ⟨(some (ixOf 2)), (.p (.mov (.t (ixOf 8)))), none⟩]
abbrev c_record_Out_Next_7 : XC := XC.seq c_record_Out_Next_6 .ret
abbrev c_record_Out_Next_8 : XC := XC.seq c_record_Out_Next_5 c_record_Out_Next_7
abbrev c_record_Out_Next_9 : XC := XC.seq c_record_Out_Next_0 c_record_Out_Next_8
abbrev x_record_Out_Next : XFn := ⟨[.tmp (ixOf 2)], c_record_Out_Next_9⟩
theorem mk_record_Out_Next : mkFn tyT.get Tryz.f16 = some x_record_Out_Next := by kernel_rfl
theorem fn_record_Out_Next : E0.fn n_record_Out_Next = some (.fn x_record_Out_Next) := fn_of (by kernel_rfl) mk_record_Out_Next
-- (*escutcheon/record.Out).Seal
abbrev n_record_Out_Seal : Nat := 9
abbrev c_record_Out_Seal_0 : XC := XC.region [⟨(some (ixOf 4)), (.p (.mov (.c (.str [])))), none⟩,
  ⟨(some (ixOf 5)), (.p (.mov (.c (.int .i64 (.ofNat 0))))), none⟩]
abbrev c_record_Out_Seal_1 : XC := XC.region [⟨(some (ixOf 12)), (.p (.mov (.t (ixOf 0)))), none⟩,
  ⟨(some (ixOf 13)), (.p (.bin (.ptr 66) .eql (.t (ixOf 12)) (.c .nilp))), none⟩,
  ⟨(some (ixOf 14)), (.p (.mov (.t (ixOf 13)))), none⟩,
  ⟨(some (ixOf 15)), (.p (.mov (.t (ixOf 0)))), (some ((ixOf 14), false))⟩,
  ⟨(some (ixOf 16)), (.p (.nilCheck (.t (ixOf 15)))), (some ((ixOf 14), false))⟩,
  ⟨(some (ixOf 17)), (.p (.addr 0 (.t (ixOf 16)))), (some ((ixOf 14), false))⟩,
  ⟨(some (ixOf 18)), (.r (.load .one (.t (ixOf 17)))), (some ((ixOf 14), false))⟩,
  ⟨(some (ixOf 19)), (.p (.bin (.ptr 59) .eql (.t (ixOf 18)) (.c .nilp))), (some ((ixOf 14), false))⟩,
  ⟨(some (ixOf 20)), (.p (.pick (.t (ixOf 14)) (.c (.bool true)) (.t (ixOf 19)))), none⟩]
abbrev c_record_Out_Seal_2 : XC := XC.region [⟨(some (ixOf 4)), (.p (.mov (.c (.str [])))), none⟩,
  ⟨(some (ixOf 5)), (.p (.mov (.c (.int .i64 (.ofNat 7))))), none⟩]
abbrev c_record_Out_Seal_3 : XC := XC.seq c_record_Out_Seal_2 .ret
abbrev c_record_Out_Seal_4 : XC := XC.cond (.t (ixOf 20)) c_record_Out_Seal_3 .skip
abbrev c_record_Out_Seal_5 : XC := XC.seq c_record_Out_Seal_1 c_record_Out_Seal_4
abbrev c_record_Out_Seal_6 : XC := XC.region [⟨(some (ixOf 22)), (.p (.mov (.t (ixOf 1)))), none⟩,
  ⟨(some (ixOf 23)), (.e (.call 15 [(.t (ixOf 22))])), none⟩,
  ⟨(some (ixOf 21)), (.p (.mov (.t (ixOf 23)))), none⟩,
  ⟨(some (ixOf 24)), (.p (.extract (.t (ixOf 21)) 0)), none⟩,
  ⟨(some (ixOf 25)), (.p (.extract (.t (ixOf 21)) 1)), none⟩,
  ⟨(some (ixOf 6)), (.p (.mov (.t (ixOf 24)))), none⟩,
  ⟨(some (ixOf 7)), (.p (.mov (.t (ixOf 25)))), none⟩]
abbrev c_record_Out_Seal_7 : XC := XC.region [⟨(some (ixOf 26)), (.p (.mov (.t (ixOf 0)))), none⟩,
  ⟨(some (ixOf 27)), (.e (.call 16 [(.t (ixOf 26))])), none⟩,
  ⟨(some (ixOf 8)), (.p (.mov (.t (ixOf 27)))), none⟩]
abbrev c_record_Out_Seal_8 : XC := XC.region [⟨(some (ixOf 29)), (.p (.mov (.t (ixOf 7)))), none⟩,
  ⟨(some (ixOf 30)), (.p (.un .not (.t (ixOf 29)))), none⟩,
  ⟨(some (ixOf 28)), (.p (.mov (.t (ixOf 30)))), none⟩]
abbrev c_record_Out_Seal_9 : XC := XC.region [⟨(some (ixOf 4)), (.p (.mov (.c (.str [])))), none⟩,
  ⟨(some (ixOf 5)), (.p (.mov (.c (.int .i64 (.ofNat 13))))), none⟩]
abbrev c_record_Out_Seal_10 : XC := XC.seq c_record_Out_Seal_9 .ret
abbrev c_record_Out_Seal_11 : XC := XC.region [⟨(some (ixOf 32)), (.p (.mov (.t (ixOf 8)))), none⟩,
  ⟨(some (ixOf 33)), (.p (.bin (.int .i64) .geq (.t (ixOf 32)) (.c (.int .i64 (.ofNat 400))))), none⟩,
  ⟨(some (ixOf 31)), (.p (.mov (.t (ixOf 33)))), none⟩]
abbrev c_record_Out_Seal_12 : XC := XC.region [⟨(some (ixOf 4)), (.p (.mov (.c (.str [])))), none⟩,
  ⟨(some (ixOf 5)), (.p (.mov (.c (.int .i64 (.ofNat 5))))), none⟩]
abbrev c_record_Out_Seal_13 : XC := XC.seq c_record_Out_Seal_12 .ret
abbrev c_record_Out_Seal_14 : XC := XC.cond (.t (ixOf 31)) c_record_Out_Seal_13 .skip
abbrev c_record_Out_Seal_15 : XC := XC.seq c_record_Out_Seal_11 c_record_Out_Seal_14
abbrev c_record_Out_Seal_16 : XC := XC.cond (.t (ixOf 28)) c_record_Out_Seal_10 c_record_Out_Seal_15
abbrev c_record_Out_Seal_17 : XC := XC.seq c_record_Out_Seal_8 c_record_Out_Seal_16
abbrev c_record_Out_Seal_18 : XC := XC.block 0 c_record_Out_Seal_17
abbrev c_record_Out_Seal_19 : XC := XC.region [⟨(some (ixOf 34)), (.p (.mov (.t (ixOf 8)))), none⟩,
  ⟨(some (ixOf 35)), (.p (.convI .u64 (.t (ixOf 34)))), none⟩,
  ⟨(some (ixOf 36)), (.e (.call 17 [(.t (ixOf 35)), (.c (.int .i64 (.ofNat 8)))])), none⟩,
  ⟨(some (ixOf 9)), (.p (.mov (.t (ixOf 36)))), none⟩]
abbrev c_record_Out_Seal_20 : XC := XC.region [⟨(some (ixOf 38)), (.p (.mov (.t (ixOf 0)))), none⟩,
  ⟨(some (ixOf 39)), (.p (.nilCheck (.t (ixOf 38)))), none⟩,
  ⟨(some (ixOf 40)), (.p (.addr 0 (.t (ixOf 39)))), none⟩,
  ⟨(some (ixOf 41)), (.r (.load .one (.t (ixOf 40)))), none⟩,
  ⟨(some (ixOf 42)), (.p (.mov (.t (ixOf 8)))), none⟩,
  ⟨(some (ixOf 43)), (.e (.call 19 [(.t (ixOf 41)), (.t (ixOf 42))])), none⟩,
  ⟨(some (ixOf 44)), (.p (.mov (.t (ixOf 8)))), none⟩,
  ⟨(some (ixOf 45)), (.e (.call 20 [(.t (ixOf 44))])), none⟩,
  ⟨(some (ixOf 46)), (.p (.mov (.t (ixOf 6)))), none⟩,
  ⟨(some (ixOf 47)), (.p (.mov (.t (ixOf 9)))), none⟩,
  ⟨(some (ixOf 48)), (.e (.call 18 [(.t (ixOf 43)), (.t (ixOf 45)), (.t (ixOf 46)), (.t (ixOf 47))])), none⟩,
  ⟨(some (ixOf 37)), (.p (.mov (.t (ixOf 48)))), none⟩,
  ⟨(some (ixOf 49)), (.p (.extract (.t (ixOf 37)) 0)), none⟩,
  ⟨(some (ixOf 50)), (.p (.extract (.t (ixOf 37)) 1)), none⟩,
  ⟨(some (ixOf 10)), (.p (.mov (.t (ixOf 49)))), none⟩,
  ⟨(some (ixOf 11)), (.p (.mov (.t (ixOf 50)))), none⟩]
abbrev c_record_Out_Seal_21 : XC := XC.region [⟨(some (ixOf 51)), (.p (.mov (.t (ixOf 0)))), none⟩,
  ⟨(some (ixOf 52)), (.p (.nilCheck (.t (ixOf 51)))), none⟩,
  ⟨(some (ixOf 53)), (.p (.addr 1 (.t (ixOf 52)))), none⟩,
  ⟨(some (ixOf 54)), (.e (.call 21 [(.t (ixOf 53)), (.c (.int .i64 (.ofNat 1)))])), none⟩]
abbrev c_record_Out_Seal_22 : XC := XC.region [⟨(some (ixOf 55)), (.p (.mov (.t (ixOf 9)))), none⟩,
  ⟨(some (ixOf 56)), (.p (.mov (.t (ixOf 10)))), none⟩,
  ⟨(some (ixOf 57)), (.p (.bin .str .add (.t (ixOf 55)) (.t (ixOf 56)))), none⟩,
  ⟨(some (ixOf 4)), (.p (.mov (.t (ixOf 57)))), none⟩,
  ⟨(some (ixOf 5)), (.p (.mov (.c (.int .i64 (.ofNat 0))))), none⟩]
abbrev c_record_Out_Seal_23 : XC := XC.seq c_record_Out_Seal_22 .ret
abbrev c_record_Out_Seal_24 : XC := XC.seq c_record_Out_Seal_21 c_record_Out_Seal_23
abbrev c_record_Out_Seal_25 : XC := XC.seq c_record_Out_Seal_20 c_record_Out_Seal_24
abbrev c_record_Out_Seal_26 : XC := XC.seq c_record_Out_Seal_19 c_record_Out_Seal_25
abbrev c_record_Out_Seal_27 : XC := XC.seq c_record_Out_Seal_18 c_record_Out_Seal_26
abbrev c_record_Out_Seal_28 : XC := XC.seq c_record_Out_Seal_7 c_record_Out_Seal_27
abbrev c_record_Out_Seal_29 : XC := XC.seq c_record_Out_Seal_6 c_record_Out_Seal_28
abbrev c_record_Out_Seal_30 : XC := XC.seq c_record_Out_Seal_5 c_record_Out_Seal_29
abbrev c_record_Out_Seal_31 : XC := XC.seq c_record_Out_Seal_0 c_record_Out_Seal_30
abbrev x_record_Out_Seal : XFn := ⟨[.tmp (ixOf 4), .tmp (ixOf 5)], c_record_Out_Seal_31⟩
theorem mk_record_Out_Seal : mkFn tyT.get Tryz.f9 = some x_record_Out_Seal := by kernel_rfl
theorem fn_record_Out_Seal : E0.fn n_record_Out_Seal = some (.fn x_record_Out_Seal) := fn_of (by kernel_rfl) mk_record_Out_Seal
-- (*sync/atomic.Uint32).Store
abbrev n_sync_atomic_Uint32_Store : Nat := 84
abbrev c_sync_atomic_Uint32_Store_0 : XC := XC.region [⟨(some (ixOf 4)), (.p (.mov (.t (ixOf 0)))), none⟩,
  ⟨(some (ixOf 5)), (.p (.nilCheck (.t (ixOf 4)))), none⟩,
  ⟨(some (ixOf 6)), (.p (.addr 0 (.t (ixOf 5)))), none⟩,
  ⟨(some (ixOf 7)), (.p (.mov (.t (ixOf 1)))), none⟩,
  ⟨(some (ixOf 8)), (.e (.call 136 [(.t (ixOf 6)), (.t (ixOf 7))])), none⟩]
abbrev x_sync_atomic_Uint32_Store : XFn := ⟨[], c_sync_atomic_Uint32_Store_0⟩
theorem mk_sync_atomic_Uint32_Store : mkFn tyT.get Tryz.f84 = some x_sync_atomic_Uint32_Store := by kernel_rfl
theorem fn_sync_atomic_Uint32_Store : E0.fn n_sync_atomic_Uint32_Store = some (.fn x_sync_atomic_Uint32_Store) := fn_of (by kernel_rfl) mk_sync_atomic_Uint32_Store
-- (*sync/atomic.Uint32).Add
abbrev n_sync_atomic_Uint32_Add : Nat := 87
abbrev c_sync_atomic_Uint32_Add_0 : XC := XC.region [⟨(some (ixOf 4)), (.p (.mov (.c (.int .u32 (.ofNat 0))))), none⟩]
abbrev c_sync_atomic_Uint32_Add_1 : XC := XC.region [⟨(some (ixOf 5)), (.p (.mov (.t (ixOf 0)))), none⟩,
  ⟨(some (ixOf 6)), (.p (.nilCheck (.t (ixOf 5)))), none⟩,
  ⟨(some (ixOf 7)), (.p (.addr 0 (.t (ixOf 6)))), none⟩,
  ⟨(some (ixOf 8)), (.p (.mov (.t (ixOf 1)))), none⟩,
  ⟨(some (ixOf 9)), (.e (.call 140 [(.t (ixOf 7)), (.t (ixOf 8))])), none⟩,
  ⟨(some (ixOf 4)), (.p (.mov (.t (ixOf 9)))), none⟩]
abbrev c_sync_atomic_Uint32_Add_2 : XC := XC.seq c_sync_atomic_Uint32_Add_1 .ret
abbrev c_sync_atomic_Uint32_Add_3 : XC := XC.seq c_sync_atomic_Uint32_Add_0 c_sync_atomic_Uint32_Add_2
abbrev x_sync_atomic_Uint32_Add : XFn := ⟨[.tmp (ixOf 4)], c_sync_atomic_Uint32_Add_3⟩
theorem mk_sync_atomic_Uint32_Add : mkFn tyT.get Tryz.f87 = some x_sync_atomic_Uint32_Add := by kernel_rfl
theorem fn_sync_atomic_Uint32_Add : E0.fn n_sync_atomic_Uint32_Add = some (.fn x_sync_atomic_Uint32_Add) := fn_of (by kernel_rfl) mk_sync_atomic_Uint32_Add
end Go.Proofs.XCode
end
section
namespace Go.Proofs.XCode
open Go.X
set_option linter.unusedSimpArgs false
set_option linter.unusedVariables false
theorem storeu_fn : E0.fn 136 = some (.intr 18) := intr_of (by kernel_rfl)
theorem addu_fn : E0.fn 140 = some (.intr 19) := intr_of (by kernel_rfl)
theorem iStoreU_ev (b m n : Nat) (tg : Option Nat) (h : XH) (hg : h.get b = some (.cells [.int .u32 (.ofNat m)] false tg)) : CallEv E0 136 [.ptr b 0, .int .u32 (.ofNat n)] h (fun r k => r = unit ∧ k = h.set b (.cells [.int .u32 (.ofNat n)] false tg)) := by
  refine call_intr' storeu_fn 0 (v := unit) (h' := h.set b (.cells [.int .u32 (.ofNat n)] false tg)) ?_ ⟨rfl, rfl⟩
  have hE : E0.intr = intr := rfl
  have hi : ∀ c, intr c 18 [.ptr b 0, .int .u32 (.ofNat n)] h = iStore .u32 [.ptr b 0, .int .u32 (.ofNat n)] h := fun c => rfl
  have hw2 : wr h b 0 [.int .u32 (.ofNat n)] = some (h.set b (.cells [.int .u32 (.ofNat n)] false tg)) := by
    simp only [wr, hg]
    rfl
  rw [hE, hi]
  simp only [iStore, hw2]
  rfl
theorem iAddU_ev (b n : Nat) (tg : Option Nat) (h : XH) (hn : n + 1 < 4294967296) (hg : h.get b = some (.cells [.int .u32 (.ofNat n)] false tg)) : CallEv E0 140 [.ptr b 0, .int .u32 (.ofNat 1)] h (fun r k => r = .int .u32 (.ofNat (n + 1)) ∧ k = h.set b (.cells [.int .u32 (.ofNat (n + 1))] false tg)) := by
  refine call_intr' addu_fn 0 (v := .int .u32 (.ofNat (n + 1))) (h' := h.set b (.cells [.int .u32 (.ofNat (n + 1))] false tg)) ?_ ⟨rfl, rfl⟩
  have hE : E0.intr = intr := rfl
  have hi : ∀ c, intr c 19 [.ptr b 0, .int .u32 (.ofNat 1)] h = iAdd .u32 [.ptr b 0, .int .u32 (.ofNat 1)] h := fun c => rfl
  have hw : wrapX .u32 (Int.ofNat n + Int.ofNat 1) = .ofNat (n + 1) := (wrap_u32 (n + 1)).trans (by rw [Nat.mod_eq_of_lt hn])
  have hw2 : wr h b 0 [.int .u32 (.ofNat (n + 1))] = some (h.set b (.cells [.int .u32 (.ofNat (n + 1))] false tg)) := by
    simp only [wr, hg]
    rfl
  rw [hE, hi]
  simp only [iAdd, cellAt, hg, nth_eq, List.getElem?_cons_zero, hw, hw2]
  rfl
theorem StoreU_call (b m n : Nat) (tg : Option Nat) (h : XH) (hg : h.get b = some (.cells [.int .u32 (.ofNat m)] false tg)) : CallEv E0 n_sync_atomic_Uint32_Store [.ptr b 0, .int .u32 (.ofNat n)] h (fun r k => r = unit ∧ k = h.set b (.cells [.int .u32 (.ofNat n)] false tg)) := by
  refine call_fn fn_sync_atomic_Uint32_Store ?_
  simp only [args0_cons, args0_nil]
  repeat with_reducible first | refine nx ?_ | (refine nv ?_; simp (disch := first | omega | decide) only [bG]; refine rg ?_)
  refine callGo_of (iStoreU_ev b m n tg _ hg) ?_
  repeat with_reducible first | refine nx ?_ | (refine nv ?_; simp (disch := first | omega | decide) only [bG]; refine rg ?_)
  refine ret_nil.2 ⟨_, fin_tmps (l := []) (.inl rfl), rfl, rfl⟩
theorem AddU_call (b n : Nat) (tg : Option Nat) (h : XH) (hn : n + 1 < 4294967296) (hg : h.get b = some (.cells [.int .u32 (.ofNat n)] false tg)) : CallEv E0 n_sync_atomic_Uint32_Add [.ptr b 0, .int .u32 (.ofNat 1)] h (fun r k => r = .int .u32 (.ofNat (n + 1)) ∧ k = h.set b (.cells [.int .u32 (.ofNat (n + 1))] false tg)) := by
  refine call_fn fn_sync_atomic_Uint32_Add ?_
  simp only [args0_cons, args0_nil]
  repeat with_reducible first | refine nx ?_ | (refine nv ?_; simp (disch := first | omega | decide) only [bG]; refine rg ?_)
  refine callGo_of (iAddU_ev b n tg _ hn hg) ?_
  repeat with_reducible first | refine nx ?_ | (refine nv ?_; simp (disch := first | omega | decide) only [bG]; refine rg ?_)
  refine ret_nil.2 ⟨_, fin_tmp (.inr rfl), ?_, rfl⟩
  simp (disch := first | omega | decide) only [bG]
theorem BldAt.lo {B b n : Nat} {h : XH} {s : List Nat} {o : XO} (hb : BldAt B h b s) (hn : n < B) : BldAt B (h.set n o) b s := by
  obtain ⟨p, buf, g, h1, h2, h3, h4⟩ := hb
  refine ⟨p, buf, by rw [XH.get_set, if_neg (by omega)]; exact g, h1, h2, h3, ?_⟩
  rcases h4 with h4 | ⟨m, q1, q2, q3, q4, q5, q6⟩
  · exact .inl h4
  · exact .inr ⟨m, q1, q2, q3, q4, q5, by rw [XH.get_set, if_neg (by omega)]; exact q6⟩
noncomputable def xorS (key nonce : List Nat) (c : Nat) (b : List Nat) : Nat → List Nat
  | 0 => []
  | j + 1 => xorS key nonce c b j ++ xorL ((b.drop (64 * j)).take 64) (blockL key (c + j) nonce)
theorem xorS_len (key nonce : List Nat) (c : Nat) (b : List Nat) : ∀ j, (xorS key nonce c b j).length = min (64 * j) b.length
  | 0 => by simp [xorS]
  | j + 1 => by
    rw [xorS, List.length_append, xorS_len key nonce c b j, xorL_len, blockL_len, List.length_take, List.length_drop]
    omega
theorem xorS_lt (key nonce : List Nat) (c : Nat) {b : List Nat} (hb : ∀ i, b.getD i 0 < 256) : ∀ j i, (xorS key nonce c b j).getD i 0 < 256
  | 0, i => by simp [xorS]
  | j + 1, i => app_lt (xorS_lt key nonce c hb j) (xorL_lt (take_lt (by decide) (drop_lt hb _) _) (blockL_lt _ _ _)) i
noncomputable def streamL (key nonce : List Nat) (c : Nat) (b : List Nat) : List Nat := xorS key nonce c b ((b.length + 63) / 64)
theorem streamL_len (key nonce : List Nat) (c : Nat) (b : List Nat) : (streamL key nonce c b).length = b.length := by rw [streamL, xorS_len]; omega
theorem Xor_call (key nonce b : List Nat) (c : Nat) (hk : ∀ i, key.getD i 0 < 256) (hn : ∀ i, nonce.getD i 0 < 256) (hkl : key.length = 32) (hnl : nonce.length = 12) (hb : ∀ i, b.getD i 0 < 256) (h0 : 1 ≤ b.length) (hbl : b.length ≤ 900) (hc : c < 1000000) (h : XH) :
    CallEv E0 n_stream_Xor [.str key, .int .u32 (.ofNat c), .str nonce, .str b] h (fun r k => r = .tup [.str (streamL key nonce c b), .bool true] ∧ HExt h k) := by
  refine call_fn fn_stream_Xor ?_
  simp only [args0_cons, args0_nil]
  repeat with_reducible first | refine nx ?_ | (refine nw ?_; simp (disch := first | omega | decide) only [bG]; refine rg ?_)
  refine callGo_of (right_call key nonce hkl hnl _) ?_
  repeat with_reducible first | refine nx ?_ | (refine nw ?_; simp (disch := first | omega | decide) only [bG, u_not, Bool.not_true]; refine rg ?_)
  refine callGo_of (StoreU_call h.next 0 c _ _ (get_new_same _ _)) ?_
  repeat with_reducible first | refine nx ?_ | (refine nv ?_; simp (disch := first | omega | decide) only [bG]; refine rg ?_)
  refine go_loop_ind hE0 (fun m fr k => ∃ j tg, m = (b.length + 63) / 64 - j ∧ j ≤ (b.length + 63) / 64 ∧ (∀ n, n < h.next → k.get n = h.get n) ∧ h.next + 2 ≤ k.next ∧ k.get h.next = some (.cells [.int .u32 (.ofNat (c + j))] false tg) ∧ BldAt (h.next + 1) k (h.next + 1) (xorS key nonce c b j) ∧
      ev fr (.t (ixOf 0)) = .str key ∧ ev fr (.t (ixOf 2)) = .str nonce ∧ ev fr (.t (ixOf 3)) = .str (b.drop (64 * j)) ∧ ev fr (.t (ixOf 10)) = .ptr h.next 0 ∧ ev fr (.t (ixOf 11)) = .ptr (h.next + 1) 0) ?_ (n := (b.length + 63) / 64) ?_
  · rintro m fr k IH ⟨j, tg, rfl, hj, hx, hnk, hg, hbd, f0, f2, f3, f10, f11⟩
    have hd : (b.drop (64 * j)).length = b.length - 64 * j := List.length_drop
    repeat with_reducible first | refine nx ?_ | (refine nv ?_; simp (disch := first | omega | decide) only [bG, f3]; refine rg ?_)
    refine go_cond ?_
    simp (disch := first | omega | decide) only [bG]
    refine condGo_split (fun hc => ?_) (fun hc => ?_)
    · have hc := of_decide_eq_true hc
      have et : (b.drop (64 * j)).take (min (b.drop (64 * j)).length 64) = (b.drop (64 * j)).take 64 := by
        rcases Nat.le_total (b.drop (64 * j)).length 64 with h | h
        · rw [Nat.min_eq_left h, List.take_of_length_le (Nat.le_refl _), List.take_of_length_le h]
        · rw [Nat.min_eq_right h]
      have ec : (c + j + 1 - 1) % 4294967296 = c + j := by omega
      have em : min (b.drop (64 * j)).length 64 ≤ (b.drop (64 * j)).length := Nat.min_le_left _ _
      have hbt := take_lt (l := b.drop (64 * j)) (by decide) (drop_lt hb (64 * j)) 64
      repeat with_reducible first | refine nx ?_ | (refine nv ?_; simp (disch := first | omega | decide) only [bG, f3, f0, f2, f10, f11, p_min2]; refine rg ?_)
      refine callPl_of (AddU_call h.next (c + j) tg k (by omega) hg) ?_
      repeat with_reducible first | refine nx ?_ | (refine nv ?_; simp (disch := first | omega | decide) only [bG, f3, f0, f2, f10, f11, p_min2, ec, et, em]; refine rg ?_)
      generalize hk1 : k.set h.next (.cells [.int .u32 (.ofNat (c + j + 1))] false tg) = k1
      have g1 : k1.get h.next = some (.cells [.int .u32 (.ofNat (c + j + 1))] false tg) := by rw [← hk1, XH.get_set, if_pos rfl]
      have nx1 : k1.next = k.next := by rw [← hk1]; rfl
      have b1 : BldAt (h.next + 1) k1 (h.next + 1) (xorS key nonce c b j) := by rw [← hk1]; exact hbd.lo (by omega)
      have lo1 : ∀ n, n < h.next → k1.get n = h.get n := fun n hn' => by rw [← hk1, XH.get_set, if_neg (by omega)]; exact hx n hn'
      refine callPl_ex (block_call key nonce (c + j) hk hn hkl hnl (by omega) k1) ?_
      rintro _ k2 ⟨rfl, x2⟩
      repeat with_reducible first | refine nx ?_ | (refine nv ?_; simp (disch := first | omega | decide) only [bG, f3, f0, f2, f10, f11, p_min2, ec, et, em]; refine rg ?_)
      refine callPl_ex (xor_call ((b.drop (64 * j)).take 64) (blockL key (c + j) nonce) hbt (blockL_lt _ _ _) (by rw [List.length_take]; omega) k2) ?_
      rintro _ k3 ⟨rfl, x3⟩
      repeat with_reducible first | refine nx ?_ | (refine nv ?_; simp (disch := first | omega | decide) only [bG, f3, f0, f2, f10, f11]; refine rg ?_)
      have hl := xorL_len ((b.drop (64 * j)).take 64) (blockL key (c + j) nonce)
      rw [blockL_len, List.length_take] at hl
      have hl2 := xorS_len key nonce c b j
      refine callPl_ex (write_call ((b1.ext x2).ext x3) (xorL ((b.drop (64 * j)).take 64) (blockL key (c + j) nonce)) (fun e => by rw [e] at hl; simp only [List.length_nil] at hl; omega) (by omega)) ?_
      rintro _ k4 ⟨b4, kp4⟩
      repeat with_reducible first | refine nx ?_ | (refine nv ?_; simp (disch := first | omega | decide) only [bG, f3, f0, f2, f10, f11]; refine rg ?_)
      have m2 := x2.le
      have m3 := x3.le
      have m4 := kp4.1
      have q1 : decide (k.next ≤ k1.next) = true := decide_eq_true (by omega)
      have q2 : decide (k1.next ≤ k2.next) = true := decide_eq_true (by omega)
      have q3 : decide (k2.next ≤ k3.next) = true := decide_eq_true (by omega)
      have q4 : decide (k3.next ≤ k4.next) = true := decide_eq_true (by omega)
      have q5 : decide (k.next ≤ k4.next) = true := decide_eq_true (by omega)
      have q6 : decide (k1.next ≤ k4.next) = true := decide_eq_true (by omega)
      have q7 : decide (k2.next ≤ k4.next) = true := decide_eq_true (by omega)
      have q8 : decide (k.next ≤ k2.next) = true := decide_eq_true (by omega)
      have q9 : decide (k.next ≤ k3.next) = true := decide_eq_true (by omega)
      refine plan_nil (by simp (disch := first | omega | decide) only [endOk, chkAt, addNew, newOk, rangeOk, distinctN, Nat.reduceLT, Nat.reduceAdd, Nat.reduceLeDiff, bP, bG, q1, q2, q3, q4, q5, q6, q7, q8, q9, Bool.and_self]) ?_
      repeat with_reducible first | refine nx ?_ | (refine nv ?_; simp (disch := first | omega | decide) only [bG, f3, ec, et, em]; refine rg ?_)
      refine ret_loop.2 (IH ((b.length + 63) / 64 - (j + 1)) _ _ (by omega) ⟨j + 1, tg, rfl, by omega, ?_, by omega, ?_, b4, ?_, ?_, ?_, ?_, ?_⟩)
      · intro n hn'
        rw [kp4.2 n (by omega), x3.get n (by omega), x2.get n (by omega)]
        exact lo1 n hn'
      · rw [kp4.2 h.next (by omega), x3.get h.next (by omega), x2.get h.next (by omega)]
        exact g1
      all_goals simp (disch := first | omega | decide) only [bG, f0, f2, f3, f10, f11]
      rw [List.drop_drop]
      rcases Nat.le_total (b.drop (64 * j)).length 64 with hh | hh
      · rw [Nat.min_eq_left hh, List.drop_of_length_le (by omega), List.drop_of_length_le (by omega)]
      · rw [Nat.min_eq_right hh, show 64 * j + 64 = 64 * (j + 1) by omega]
    · have hc := of_decide_eq_false hc
      obtain rfl : j = (b.length + 63) / 64 := by omega
      repeat with_reducible first | refine nx ?_ | (refine nv ?_; simp (disch := first | omega | decide) only [bG, f11]; refine rg ?_)
      have hl2 := streamL_len key nonce c b
      refine callGo_ex (string_call hbd (xorS_lt key nonce c hb _) (fun e => by rw [streamL, e] at hl2; simp only [List.length_nil] at hl2; omega) (by rw [xorS_len]; omega)) ?_
      rintro _ k1 ⟨rfl, hk1⟩
      repeat with_reducible first | refine nx ?_ | (refine nv ?_; simp (disch := first | omega | decide) only [bG]; refine rg ?_)
      refine ret_nil.2 ⟨_, fin_tmps (l := [8, 9]) (.inr rfl), ?_, ?_⟩
      · simp only [List.map]
        simp (disch := first | omega | decide) only [bG]
        rfl
      · have := hk1.1
        exact ⟨by omega, fun n hn' => (hk1.2 n (by omega)).trans (hx n hn')⟩
  · refine ⟨0, some (Nat.mul 2 174), rfl, Nat.zero_le _, ?_, ?_, ?_, BldAt.start, ?_, ?_, ?_, ?_, ?_⟩
    · intro n hn'
      rw [XH.get_new, XH.next_set, XH.next_new, if_neg (by omega), XH.get_set, if_neg (by omega), XH.get_new, if_neg (by omega)]
    · simp only [XH.next_set, XH.next_new]; omega
    · rw [XH.get_new, XH.next_set, XH.next_new, if_neg (by omega), XH.get_set, if_pos rfl]; rfl
    all_goals simp (disch := first | omega | decide) only [bG]
    rfl
end Go.Proofs.XCode
end
section
namespace Go.Proofs.XCode
open Go.X
set_option linter.unusedSimpArgs false
set_option linter.unusedVariables false
theorem hF0 : IntrFr E0 := fun _ hc _ _ _ _ _ h1 f => intr_fr hc h1 f
def filledL (b : List Nat) : List Nat := b ++ List.replicate ((16 - b.length % 16) % 16) 0
theorem filledL_lt {b : List Nat} (h : ∀ i, b.getD i 0 < 256) : ∀ i, (filledL b).getD i 0 < 256 := app_lt h (rep_lt _ 256 (by decide))
theorem filled_call (b : List Nat) (hl : b.length ≤ 900) (h : XH) : CallEv E0 n_box_filled [.str b] h (fun r k => r = .str (filledL b) ∧ k = h) := by
  have la : (List.replicate ((16 - b.length % 16) % 16) 0 : List Nat).length = (16 - b.length % 16) % 16 := List.length_replicate
  have lb : (16 - b.length % 16) % 16 < 16 := Nat.mod_lt _ (by decide)
  have lc : b.length % 16 < 16 := Nat.mod_lt _ (by decide)
  refine call_fn fn_box_filled ?_
  simp only [args0_cons, args0_nil]
  repeat with_reducible first | refine nx ?_ | (refine nv ?_; simp (disch := first | omega | decide) only [bG]; refine rg ?_)
  refine callGo_of (repeat_ev 0 ((16 - b.length % 16) % 16) (by omega) _) ?_
  repeat with_reducible first | refine nx ?_ | (refine nv ?_; simp (disch := first | omega | decide) only [bG]; refine rg ?_)
  refine ret_nil.2 ⟨_, fin_tmp (.inr rfl), ?_, rfl⟩
  simp (disch := first | omega | decide) only [bG]
  rfl
noncomputable def lensL (more hidden : List Nat) : List Nat := putLittle more.length 8 ++ putLittle hidden.length 8
noncomputable def tagB (key nonce hidden more : List Nat) : List Nat := tagL ((blockL key 0 nonce).take 32) ((filledL more ++ filledL hidden) ++ lensL more hidden)
theorem tagL_len (key m : List Nat) : (tagL key m).length = 16 := by
  unfold tagL tagEnd
  simp only [List.length_append, putLittle_len]
theorem tagL_lt (key m : List Nat) : ∀ i, (tagL key m).getD i 0 < 256 := by
  unfold tagL tagEnd
  exact app_lt (putLittle_lt _ _) (putLittle_lt _ _)
theorem tag_callB (key nonce hidden more : List Nat) (hk : ∀ i, key.getD i 0 < 256) (hn : ∀ i, nonce.getD i 0 < 256) (hh : ∀ i, hidden.getD i 0 < 256) (hm : ∀ i, more.getD i 0 < 256) (hkl : key.length = 32) (hnl : nonce.length = 12) (hhl : hidden.length ≤ 700) (hml : more.length ≤ 100) (h : XH) (hfr : FreshH h) :
    CallEv E0 n_box_tag [.str key, .str nonce, .str hidden, .str more] h (fun r k => r = .tup [.str (tagB key nonce hidden more), .bool true] ∧ HExt h k) := by
  have bl := blockL_len key 0 nonce
  have l1 := putLittle_len more.length 8
  have l2 := putLittle_len hidden.length 8
  have fl1 : (filledL more).length ≤ more.length + 16 := by simp only [filledL, List.length_append, List.length_replicate]; omega
  have fl2 : (filledL hidden).length ≤ hidden.length + 16 := by simp only [filledL, List.length_append, List.length_replicate]; omega
  have fl3 : (filledL more ++ filledL hidden).length = (filledL more).length + (filledL hidden).length := List.length_append
  have ll : (lensL more hidden).length = 16 := by simp only [lensL, List.length_append, l1, l2]
  have ll2 : (putLittle more.length 8 ++ putLittle hidden.length 8).length = 16 := ll
  refine call_fn fn_box_tag ?_
  simp only [args0_cons, args0_nil]
  repeat with_reducible first | refine nx ?_ | (refine nw ?_; simp (disch := first | omega | decide) only [bG]; refine rg ?_)
  refine callGo_ex ((blockC_call key nonce 0 hk hn hkl hnl (by decide) _).fresh hF0 hfr) ?_
  rintro _ k1 ⟨⟨rfl, x1⟩, f1⟩
  repeat with_reducible first | refine nx ?_ | (refine nw ?_; simp (disch := first | omega | decide) only [bG, u_not, Bool.not_true]; refine rg ?_)
  refine callGo_ex ((putLittle_call more.length 8 (by omega) (by decide) (by decide) k1).fresh hF0 f1) ?_
  rintro _ k2 ⟨⟨rfl, x2⟩, f2⟩
  repeat with_reducible first | refine nx ?_ | (refine nw ?_; simp (disch := first | omega | decide) only [bG, u_not, Bool.not_true]; refine rg ?_)
  refine callGo_ex ((putLittle_call hidden.length 8 (by omega) (by decide) (by decide) k2).fresh hF0 f2) ?_
  rintro _ k3 ⟨⟨rfl, x3⟩, f3⟩
  repeat with_reducible first | refine nx ?_ | (refine nw ?_; simp (disch := first | omega | decide) only [bG]; refine rg ?_)
  refine callPl_of (filled_call more (by omega) k3) ?_
  repeat with_reducible first | refine nx ?_ | (refine nw ?_; simp (disch := first | omega | decide) only [bG]; refine rg ?_)
  refine callPl_of (filled_call hidden (by omega) k3) ?_
  have e32 : (32 : Nat) ≤ (blockL key 0 nonce).length := by omega
  have hb32 : ((blockL key 0 nonce).take 32).length = 32 := by rw [List.length_take]; omega
  repeat with_reducible first | refine nx ?_ | (refine nw ?_; simp (disch := first | omega | decide) only [bG, e32]; refine rg ?_)
  refine callPl_ex (tag_call ((blockL key 0 nonce).take 32) ((filledL more ++ filledL hidden) ++ lensL more hidden) (take_lt (by decide) (blockL_lt _ _ _) 32) hb32 (app_lt (app_lt (filledL_lt hm) (filledL_lt hh)) (app_lt (putLittle_lt _ _) (putLittle_lt _ _))) (by rw [List.length_append]; omega) k3 f3) ?_
  rintro v k4 ⟨e4, x4⟩
  obtain rfl : v = .tup [.str (tagB key nonce hidden more), .bool true] := e4
  repeat with_reducible first | refine nx ?_ | (refine nw ?_; simp (disch := first | omega | decide) only [bG]; refine rg ?_)
  have n4 := x4.le
  have q1 : decide (k3.next ≤ k4.next) = true := decide_eq_true n4
  refine plan_nil (by simp (disch := first | omega | decide) only [endOk, chkAt, addNew, newOk, rangeOk, distinctN, Nat.reduceLT, Nat.reduceAdd, Nat.reduceLeDiff, bP, bG, q1, Bool.and_self]) ?_
  repeat with_reducible first | refine nx ?_ | (refine nw ?_; simp (disch := first | omega | decide) only [bG]; refine rg ?_)
  refine ret_nil.2 ⟨_, fin_tmps (l := [8, 9]) (.inr rfl), ?_, ((x1.trans x2).trans x3).trans x4⟩
  simp only [List.map]
  simp (disch := first | omega | decide) only [bG]
  rfl
theorem streamL_lt (key nonce : List Nat) (c : Nat) {b : List Nat} (hb : ∀ i, b.getD i 0 < 256) : ∀ i, (streamL key nonce c b).getD i 0 < 256 := xorS_lt key nonce c hb _
noncomputable def sealL (key nonce plain more : List Nat) : List Nat := streamL key nonce 1 plain ++ tagB key nonce (streamL key nonce 1 plain) more
theorem sealL_len (key nonce plain more : List Nat) : (sealL key nonce plain more).length = plain.length + 16 := by
  unfold sealL tagB
  rw [List.length_append, streamL_len, tagL_len]
theorem sealL_lt (key nonce more : List Nat) {plain : List Nat} (h : ∀ i, plain.getD i 0 < 256) : ∀ i, (sealL key nonce plain more).getD i 0 < 256 := app_lt (streamL_lt _ _ _ h) (tagL_lt _ _)
theorem Seal_call (key nonce plain more : List Nat) (hk : ∀ i, key.getD i 0 < 256) (hn : ∀ i, nonce.getD i 0 < 256) (hp : ∀ i, plain.getD i 0 < 256) (hm : ∀ i, more.getD i 0 < 256) (hkl : key.length = 32) (hnl : nonce.length = 12) (h0 : 1 ≤ plain.length) (hpl : plain.length ≤ 700) (hml : more.length ≤ 100) (h : XH) (hfr : FreshH h) :
    CallEv E0 n_box_Seal [.str key, .str nonce, .str plain, .str more] h (fun r k => r = .tup [.str (sealL key nonce plain more), .bool true] ∧ HExt h k) := by
  have sl := streamL_len key nonce 1 plain
  have tl : (tagB key nonce (streamL key nonce 1 plain) more).length = 16 := tagL_len _ _
  refine call_fn fn_box_Seal ?_
  simp only [args0_cons, args0_nil]
  repeat with_reducible first | refine nx ?_ | (refine nw ?_; simp (disch := first | omega | decide) only [bG]; refine rg ?_)
  refine callGo_ex ((Xor_call key nonce plain 1 hk hn hkl hnl hp h0 (by omega) (by decide) _).fresh hF0 hfr) ?_
  rintro _ k1 ⟨⟨rfl, x1⟩, f1⟩
  repeat with_reducible first | refine nx ?_ | (refine nw ?_; simp (disch := first | omega | decide) only [bG, u_not, Bool.not_true]; refine rg ?_)
  refine callGo_ex (tag_callB key nonce (streamL key nonce 1 plain) more hk hn (streamL_lt _ _ _ hp) hm hkl hnl (by omega) hml k1 f1) ?_
  rintro _ k2 ⟨rfl, x2⟩
  repeat with_reducible first | refine nx ?_ | (refine nw ?_; simp (disch := first | omega | decide) only [bG]; refine rg ?_)
  refine ret_nil.2 ⟨_, fin_tmps (l := [8, 9]) (.inr rfl), ?_, x1.trans x2⟩
  simp only [List.map]
  simp (disch := first | omega | decide) only [bG]
  rfl
end Go.Proofs.XCode
end
section
namespace Go.Proofs.XCode
open Go.X
set_option linter.unusedSimpArgs false
set_option linter.unusedVariables false
def kI (e : Nat) : XV := .int .i64 (.ofNat e)
def turnC (key : List Nat) : List XV := [.int .u32 (.ofNat 1), .int .i32 (.ofNat 0), .int .u32 (.ofNat 0), .str key]
def turn0 : List XV := [.int .u32 (.ofNat 0), .int .i32 (.ofNat 0), .int .u32 (.ofNat 0), .str []]
def entL (ps : List Nat) : Nat → List (XV × XV)
  | 0 => []
  | E + 1 => entL ps E ++ [(kI E, .ptr (ps.getD E 0) 0)]
theorem xeqI (a b : Nat) : xeq false (kI a) (kI b) = some (decide (a = b)) := by
  show (bif keq .i64 .i64 then some (eqI (.ofNat a) (.ofNat b)) else none) = _
  rw [eqI_iff]
  show some ((Int.ofNat a) == (Int.ofNat b)) = _
  congr 1
  by_cases h : a = b
  · subst h; simp
  · have : ¬ (Int.ofNat a = Int.ofNat b) := fun e => h (by injection e)
    rw [decide_eq_false h, beq_eq_false_iff_ne.2 this]
theorem findK_app (k : XV) : ∀ (L M : List (XV × XV)), findK false k L = some none → findK false k (L ++ M) = findK false k M
  | [], M, _ => rfl
  | (k', v) :: L, M, h => by
    rw [List.cons_append]
    unfold findK at h
    rw [findK]
    cases e : xeq false k k' with
    | none => rw [e] at h; cases h
    | some b =>
      rw [e] at h
      cases b with
      | true => cases h
      | false => exact findK_app k L M h
theorem findK_hit (k : XV) {r : XV} : ∀ (L M : List (XV × XV)), findK false k L = some (some r) → findK false k (L ++ M) = some (some r)
  | [], M, h => by cases h
  | (k', v) :: L, M, h => by
    rw [List.cons_append]
    unfold findK at h
    rw [findK]
    cases e : xeq false k k' with
    | none => rw [e] at h; cases h
    | some b =>
      rw [e] at h
      cases b with
      | true => exact h
      | false => exact findK_hit k L M h
theorem findK_none (ps : List Nat) (k : Nat) : ∀ E, E ≤ k → findK false (kI k) (entL ps E) = some none
  | 0, _ => rfl
  | E + 1, h => by
    rw [entL, findK_app _ _ _ (findK_none ps k E (by omega))]
    unfold findK
    rw [xeqI, decide_eq_false (by omega)]
    rfl
theorem findK_here (ps : List Nat) (k : Nat) : ∀ E, k < E → findK false (kI k) (entL ps E) = some (some (.ptr (ps.getD k 0) 0))
  | E + 1, h => by
    rw [entL]
    by_cases e : k = E
    · subst e
      rw [findK_app _ _ _ (findK_none ps k k (Nat.le_refl _))]
      unfold findK
      rw [xeqI, decide_eq_true rfl]
    · exact findK_hit _ _ _ (findK_here ps k E (by omega))
theorem setK_new (k v : XV) : ∀ (L : List (XV × XV)), findK false k L = some none → setK false k v L = some (L ++ [(k, v)])
  | [], _ => rfl
  | (k', v') :: L, h => by
    unfold findK at h
    unfold setK
    cases e : xeq false k k' with
    | none => rw [e] at h; cases h
    | some b =>
      rw [e] at h
      cases b with
      | true => cases h
      | false =>
        simp only at h ⊢
        rw [setK_new k v L h]
        rfl
structure Turns (h : XH) (t m : Nat) (first : List Nat) (E : Nat) (ps : List Nat) : Prop where
  head : ∃ tg, h.get t = some (.cells [.str first, .map m] false tg)
  mp : h.get m = some (.map (entL ps E))
  len : ps.length = E
  each : ∀ e, e < E → ∃ tg, h.get (ps.getD e 0) = some (.cells (turnC (atL first e)) false tg) ∧ ps.getD e 0 ≠ t ∧ ps.getD e 0 ≠ m
end Go.Proofs.XCode
end
section
namespace Go.Proofs.XCode
open Go.X
set_option linter.unusedSimpArgs false
set_option linter.unusedVariables false
set_option maxRecDepth 10000
structure FrM (m : Nat) (h k : XH) : Prop where
  le : h.next ≤ k.next
  get : ∀ n, n < h.next → n ≠ m → k.get n = h.get n
theorem eq_nn (t : Nat) : xbin (.ptr t) .eql .nilp .nilp = some (.bool true) := rfl
theorem eq_pn (t b o : Nat) : xbin (.ptr t) .eql (.ptr b o) .nilp = some (.bool false) := rfl
theorem lookup_hit {h : XH} {m k : Nat} {L : List (XV × XV)} {z v : XV} (hg : h.get m = some (.map L)) (hf : findK false (kI k) L = some (some v)) : rLookup false h z (.map m) (.int .i64 (.ofNat k)) false = some v := by
  have : rLookup false h z (.map m) (.int .i64 (.ofNat k)) false = (match mapOf h (.map m) with | some es => lookR z false (findK false (kI k) es) | none => none) := rfl
  rw [this]
  simp only [mapOf, hg, hf]
  rfl
theorem lookup_miss {h : XH} {m k : Nat} {L : List (XV × XV)} {z : XV} (hg : h.get m = some (.map L)) (hf : findK false (kI k) L = some none) : rLookup false h z (.map m) (.int .i64 (.ofNat k)) false = some z := by
  have : rLookup false h z (.map m) (.int .i64 (.ofNat k)) false = (match mapOf h (.map m) with | some es => lookR z false (findK false (kI k) es) | none => none) := rfl
  rw [this]
  simp only [mapOf, hg, hf]
  rfl
theorem once_done (p : Nat) (c : List XV) (tg : Option Nat) (g : FuncId) (cs : List XV) (h : XH) (hg : h.get p = some (.cells (.int .u32 (.ofNat 1) :: c) false tg)) : CallEv E0 45 [.ptr p 0, .func g cs] h (fun r k => r = unit ∧ k = h) := by
  refine call_intr' once_fn 0 (v := unit) (h' := h) ?_ ⟨rfl, rfl⟩
  have hE : E0.intr = intr := rfl
  have hi : ∀ cl, intr cl 1 [.ptr p 0, .func g cs] h = iOnce cl [.ptr p 0, .func g cs] h := fun cl => rfl
  rw [hE, hi]
  simp only [iOnce, cellAt, hg]
  rfl
theorem at_old (t m seq E : Nat) (first ps : List Nat) (h : XH) (hT : Turns h t m first E ps) (hs : seq < 9000000000000000000) (he : seq / 8 < E) (ht : t < h.next) (hm : m < h.next) (hp : ps.getD (seq / 8) 0 < h.next) (hfr : FreshH h) :
    CallEv E0 n_record_turns_at [.ptr t 0, .int .i64 (.ofNat seq)] h (fun r k => r = .str (atL first (seq / 8)) ∧ HExt h k) := by
  obtain ⟨tg, gt⟩ := hT.head
  obtain ⟨tg2, gp, np1, np2⟩ := hT.each _ he
  have gm := hT.mp
  have hk := findK_here ps (seq / 8) E he
  generalize hpp : ps.getD (seq / 8) 0 = p at gp np1 np2 hp hk
  have gb : (h.new (.cells [.ptr t 0] false none)).get h.next = some (.cells [.ptr t 0] false none) := get_new_same _ _
  refine call_fn fn_record_turns_at ?_
  simp only [args0_cons, args0_nil]
  repeat with_reducible first | refine nx ?_ | (refine nv ?_; simp (disch := first | omega | decide) only [bG, XV.cells]; refine rg ?_)
  refine callGo_of (Epoch_call seq hs _) ?_
  have st := e_store_one (h := (h.new (.cells [.ptr t 0] false none)).new (.cells [.int .i64 (.ofNat 0)] false (some (Nat.mul 2 3)))) (b := h.next + 1) (o := 0) (c := [.int .i64 (.ofNat 0)]) (tg := some (Nat.mul 2 3)) (v := .int .i64 (.ofNat (seq / 8))) (get_new_same _ _) (by decide) rfl
  repeat with_reducible first | refine nx ?_ | (refine nv ?_; simp (disch := first | omega | decide) only [bG, XV.cells, st]; refine rg ?_)
  generalize hq : ((h.new (.cells [.ptr t 0] false none)).new (.cells [.int .i64 (.ofNat 0)] false (some (Nat.mul 2 3)))).set (h.next + 1) (.cells ([.int .i64 (.ofNat 0)].set 0 (.int .i64 (.ofNat (seq / 8)))) false (some (Nat.mul 2 3))) = q
  have nq : q.next = h.next + 2 := by rw [← hq]; rfl
  have q2 : q.get h.next = some (.cells [.ptr t 0] false none) := by rw [← hq, XH.get_set, if_neg (by omega), XH.get_new, XH.next_new, if_neg (by omega), XH.get_new, if_pos rfl]
  have q5 : q.get (h.next + 1) = some (.cells [.int .i64 (.ofNat (seq / 8))] false (some (Nat.mul 2 3))) := by rw [← hq, XH.get_set, if_pos rfl]; rfl
  have ql : ∀ n, n < h.next → q.get n = h.get n := fun n hn => by rw [← hq, XH.get_set, if_neg (by omega), XH.get_new, XH.next_new, if_neg (by omega), XH.get_new, if_neg (by omega)]
  have fq : FreshH q := by rw [← hq]; exact ((hfr.new _).new _).set (get_new_same _ _) _
  have fq0 : q.get q.next = none := fq _ (Nat.le_refl _)
  have ln0 : (lenX [q]).pred = 0 := rfl
  have dq1 : decide (q.next < q.next + 1) = true := decide_eq_true (by omega)
  have dq2 : decide (q.next ≤ q.next + 1) = true := decide_eq_true (by omega)
  have dq3 : decide (q.next + 1 ≤ q.next + 1) = true := decide_eq_true (by omega)
  have dq4 : decide (q.next ≤ q.next) = true := decide_eq_true (by omega)
  have d10 : decide (1 ≤ 0) = false := rfl
  have d00 : decide (0 ≤ 0) = true := rfl
  clear hq st gb
  have qt : q.get t = _ := (ql t ht).trans gt
  have qm : q.get m = _ := (ql m hm).trans gm
  have qp : q.get p = _ := (ql p hp).trans gp
  have a1 := r_load1 (o := 0) q2 rfl
  have a2 := r_load1 (o := 1) qt rfl
  have a3 := r_load1 (o := 0) q5 rfl
  have lk := lookup_hit (z := .nilp) qm hk
  have lk2 := lookup_hit (z := .nilp) (h := q.new (.cells [.nilp] false (some (Nat.mul 2 111)))) ((XH.get_new _ _ _).trans ((if_neg (by omega)).trans qm)) hk
  have st6 := e_store_one (h := q.new (.cells [.nilp] false (some (Nat.mul 2 111)))) (b := q.next) (o := 0) (c := [.nilp]) (tg := some (Nat.mul 2 111)) (v := .ptr p 0) (get_new_same _ _) (by decide) rfl
  have gs6 : ((q.new (.cells [.nilp] false (some (Nat.mul 2 111)))).set q.next (.cells ([.nilp].set 0 (.ptr p 0)) false (some (Nat.mul 2 111)))).get m = some (.map (entL ps E)) := by rw [XH.get_set, if_neg (by omega), XH.get_new, if_neg (by omega)]; exact qm
  have lk3 := lookup_hit (z := .nilp) gs6 hk
  repeat with_reducible first | refine nx ?_ | (refine nv ?_; simp (disch := first | omega | decide) only [bG, a1, a2, a3, lk, st6]; refine rg ?_)
  refine plan_nil (by simp (disch := first | omega | decide) only [endOk, chkAt, addNew, newOk, rangeOk, distinctN, Nat.reduceLT, Nat.reduceAdd, Nat.reduceLeDiff, bP, bG, a1, a2, a3, lk, lk2, lk3, fq0, ln0, dq1, dq2, dq3, dq4, d10, d00, Bool.and_self]) ?_
  generalize hr : (q.new (.cells [.nilp] false (some (Nat.mul 2 111)))).set q.next (.cells ([.nilp].set 0 (.ptr p 0)) false (some (Nat.mul 2 111))) = r
  have nr : r.next = q.next + 1 := by rw [← hr]; rfl
  have r6 : r.get q.next = some (.cells [.ptr p 0] false (some (Nat.mul 2 111))) := by rw [← hr, XH.get_set, if_pos rfl]; rfl
  have rl : ∀ n, n < q.next → r.get n = q.get n := fun n hn => by rw [← hr, XH.get_set, if_neg (by omega), XH.get_new, if_neg (by omega)]
  clear hr st6 gs6 lk3 lk2
  have b1 := r_load1 (o := 0) r6 rfl
  have rp : r.get p = some (.cells (turnC (atL first (seq / 8))) false tg2) := (rl p (by omega)).trans qp
  have b2 := r_load1 (o := 3) rp rfl
  repeat with_reducible first | refine nx ?_ | (refine nw ?_; simp (disch := first | omega | decide) only [bG, b1, eq_pn]; refine rg ?_)
  refine callGo_of (once_done p _ tg2 _ _ r rp) ?_
  repeat with_reducible first | refine nx ?_ | (refine nw ?_; simp (disch := first | omega | decide) only [bG, b1, b2]; refine rg ?_)
  refine ret_nil.2 ⟨_, fin_tmp (.inr rfl), ?_, ?_⟩
  · simp (disch := first | omega | decide) only [bG, b2]
  · exact ⟨by omega, fun n hn => (rl n (by omega)).trans (ql n hn)⟩
end Go.Proofs.XCode
end
section
namespace Go.Proofs.XCode
open Go.X
set_option linter.unusedSimpArgs false
set_option linter.unusedVariables false
set_option maxRecDepth 10000
theorem at1_call (n2 n5 n6 p t m e : Nat) (first : List Nat) (c : List XV) (g2 g5 g6 tg tgp : Option Nat) (hk : ∀ i, first.getD i 0 < 256) (hl : first.length = 32) (he : e ≤ 100) (h : XH) (l2 : n2 < h.next) (l5 : n5 < h.next) (l6 : n6 < h.next) (lp : p < h.next) (lt : t < h.next)
    (h2 : h.get n2 = some (.cells [.ptr t 0] false g2)) (h5 : h.get n5 = some (.cells [.int .i64 (.ofNat e)] false g5)) (h6 : h.get n6 = some (.cells [.ptr p 0] false g6)) (ht : h.get t = some (.cells [.str first, .map m] false tg)) (hp : h.get p = some (.cells c false tgp)) (hc : c.length = 4) :
    CallEv E0 n_record_turns_at_1 [.ptr n2 0, .ptr n5 0, .ptr n6 0] h (fun _ k => k.get p = some (.cells (c.set 3 (.str (atL first e))) false tgp) ∧ HExtE p h k) := by
  have a1 := r_load1 (o := 0) h2 rfl
  have a2 := r_load1 (o := 0) ht rfl
  have a3 := r_load1 (o := 0) h5 rfl
  have a4 := r_load1 (o := 0) h6 rfl
  refine call_fn fn_record_turns_at_1 ?_
  simp only [args0_cons, args0_nil]
  repeat with_reducible first | refine nx ?_ | (refine nv ?_; simp (disch := first | omega | decide) only [bG, a1, a2, a3]; refine rg ?_)
  refine callPl_ex (At_call first e hk hl he h) ?_
  rintro _ k ⟨rfl, x⟩
  have hx := x.le
  have b4 := r_load1 (o := 0) ((x.get n6 l6).trans h6) rfl
  have bp : k.get p = _ := (x.get p lp).trans hp
  have st := e_store_one (b := p) (o := 3) (v := .str (atL first e)) bp (by omega) rfl
  have d1 : decide (h.next ≤ k.next) = true := decide_eq_true hx
  have d4 : decide (k.next ≤ k.next) = true := decide_eq_true (Nat.le_refl _)
  repeat with_reducible first | refine nx ?_ | (refine nv ?_; simp (disch := first | omega | decide) only [bG, b4, st]; refine rg ?_)
  refine plan_nil (by simp (disch := first | omega | decide) only [endOk, chkAt, addNew, newOk, rangeOk, distinctN, Nat.reduceLT, Nat.reduceAdd, Nat.reduceLeDiff, bP, bG, a1, a2, a3, a4, b4, d1, d4, Bool.and_self]) ?_
  repeat with_reducible first | refine nx ?_ | (refine nv ?_; simp (disch := first | omega | decide) only [bG]; refine rg ?_)
  refine ret_nil.2 ⟨unit, rfl, by rw [XH.get_set, if_pos rfl], ⟨by simp only [XH.next_set]; omega, fun n h1 h2 => by rw [XH.get_set, if_neg h2, x.get n h1]⟩⟩
end Go.Proofs.XCode
end
section
namespace Go.Proofs.XCode
open Go.X
set_option linter.unusedSimpArgs false
set_option linter.unusedVariables false
set_option maxRecDepth 10000
theorem getD_appL (ps : List Nat) (p e : Nat) (h : e < ps.length) : (ps ++ [p]).getD e 0 = ps.getD e 0 := by
  rw [List.getD_eq_getElem?_getD, List.getD_eq_getElem?_getD, List.getElem?_append_left h]
theorem getD_appR (ps : List Nat) (p : Nat) : (ps ++ [p]).getD ps.length 0 = p := by
  rw [List.getD_eq_getElem?_getD, List.getElem?_append_right (Nat.le_refl _), Nat.sub_self]; rfl
theorem entL_app (ps : List Nat) (p : Nat) : ∀ E, E ≤ ps.length → entL (ps ++ [p]) E = entL ps E
  | 0, _ => rfl
  | E + 1, h => by rw [entL, entL, entL_app ps p E (by omega), getD_appL ps p E (by omega)]
theorem map_set {h : XH} {m k : Nat} {L : List (XV × XV)} {v : XV} (hg : h.get m = some (.map L)) (hf : findK false (kI k) L = some none) : eMapUpdate h false (.map m) (.int .i64 (.ofNat k)) v = some (unit, h.set m (.map (L ++ [(kI k, v)]))) := by
  have := setK_new (kI k) v L hf
  simp only [eMapUpdate, hg]
  show setM h m (setK false (kI k) v L) = _
  rw [this]
  rfl
theorem at_new (t m seq E : Nat) (first ps : List Nat) (h : XH) (hk : ∀ i, first.getD i 0 < 256) (hl : first.length = 32) (hT : Turns h t m first E ps) (hs : seq < 9000000000000000000) (he : seq / 8 = E) (hE : E ≤ 100) (ht : t < h.next) (hm : m < h.next) (htm : t ≠ m) (hps : ∀ e, e < E → ps.getD e 0 < h.next) (hfr : FreshH h) :
    CallEv E0 n_record_turns_at [.ptr t 0, .int .i64 (.ofNat seq)] h (fun r k => r = .str (atL first E) ∧ ∃ p, h.next ≤ p ∧ p < k.next ∧ Turns k t m first (E + 1) (ps ++ [p]) ∧ FrM m h k) := by
  obtain ⟨tg, gt⟩ := hT.head
  have gm := hT.mp
  subst he
  have hk0 := findK_none ps (seq / 8) (seq / 8) (Nat.le_refl _)
  have gb : (h.new (.cells [.ptr t 0] false none)).get h.next = some (.cells [.ptr t 0] false none) := get_new_same _ _
  refine call_fn fn_record_turns_at ?_
  simp only [args0_cons, args0_nil]
  repeat with_reducible first | refine nx ?_ | (refine nv ?_; simp (disch := first | omega | decide) only [bG, XV.cells]; refine rg ?_)
  refine callGo_of (Epoch_call seq hs _) ?_
  have st := e_store_one (h := (h.new (.cells [.ptr t 0] false none)).new (.cells [.int .i64 (.ofNat 0)] false (some (Nat.mul 2 3)))) (b := h.next + 1) (o := 0) (c := [.int .i64 (.ofNat 0)]) (tg := some (Nat.mul 2 3)) (v := .int .i64 (.ofNat (seq / 8))) (get_new_same _ _) (by decide) rfl
  repeat with_reducible first | refine nx ?_ | (refine nv ?_; simp (disch := first | omega | decide) only [bG, XV.cells, st]; refine rg ?_)
  generalize hq : ((h.new (.cells [.ptr t 0] false none)).new (.cells [.int .i64 (.ofNat 0)] false (some (Nat.mul 2 3)))).set (h.next + 1) (.cells ([.int .i64 (.ofNat 0)].set 0 (.int .i64 (.ofNat (seq / 8)))) false (some (Nat.mul 2 3))) = q
  have nq : q.next = h.next + 2 := by rw [← hq]; rfl
  have q2 : q.get h.next = some (.cells [.ptr t 0] false none) := by rw [← hq, XH.get_set, if_neg (by omega), XH.get_new, XH.next_new, if_neg (by omega), XH.get_new, if_pos rfl]
  have q5 : q.get (h.next + 1) = some (.cells [.int .i64 (.ofNat (seq / 8))] false (some (Nat.mul 2 3))) := by rw [← hq, XH.get_set, if_pos rfl]; rfl
  have ql : ∀ n, n < h.next → q.get n = h.get n := fun n hn => by rw [← hq, XH.get_set, if_neg (by omega), XH.get_new, XH.next_new, if_neg (by omega), XH.get_new, if_neg (by omega)]
  have fq : FreshH q := by rw [← hq]; exact ((hfr.new _).new _).set (get_new_same _ _) _
  have fq0 : q.get q.next = none := fq _ (Nat.le_refl _)
  have ln0 : (lenX [q]).pred = 0 := rfl
  have dq1 : decide (q.next < q.next + 1) = true := decide_eq_true (by omega)
  have dq2 : decide (q.next ≤ q.next + 1) = true := decide_eq_true (by omega)
  have dq3 : decide (q.next + 1 ≤ q.next + 1) = true := decide_eq_true (by omega)
  have dq4 : decide (q.next ≤ q.next) = true := decide_eq_true (by omega)
  have d10 : decide (1 ≤ 0) = false := rfl
  have d00 : decide (0 ≤ 0) = true := rfl
  clear hq st gb
  have qt : q.get t = _ := (ql t ht).trans gt
  have qm : q.get m = _ := (ql m hm).trans gm
  have a1 := r_load1 (o := 0) q2 rfl
  have a2 := r_load1 (o := 1) qt rfl
  have a3 := r_load1 (o := 0) q5 rfl
  have lk := lookup_miss (z := .nilp) qm hk0
  have lk2 := lookup_miss (z := .nilp) (h := q.new (.cells [.nilp] false (some (Nat.mul 2 111)))) ((XH.get_new _ _ _).trans ((if_neg (by omega)).trans qm)) hk0
  have st6 := e_store_one (h := q.new (.cells [.nilp] false (some (Nat.mul 2 111)))) (b := q.next) (o := 0) (c := [.nilp]) (tg := some (Nat.mul 2 111)) (v := .nilp) (get_new_same _ _) (by decide) rfl
  have gs6 : ((q.new (.cells [.nilp] false (some (Nat.mul 2 111)))).set q.next (.cells ([.nilp].set 0 .nilp) false (some (Nat.mul 2 111)))).get m = some (.map (entL ps (seq / 8))) := by rw [XH.get_set, if_neg (by omega), XH.get_new, if_neg (by omega)]; exact qm
  have lk3 := lookup_miss (z := .nilp) gs6 hk0
  repeat with_reducible first | refine nx ?_ | (refine nv ?_; simp (disch := first | omega | decide) only [bG, a1, a2, a3, lk, st6]; refine rg ?_)
  refine plan_nil (by simp (disch := first | omega | decide) only [endOk, chkAt, addNew, newOk, rangeOk, distinctN, Nat.reduceLT, Nat.reduceAdd, Nat.reduceLeDiff, bP, bG, a1, a2, a3, lk, lk2, lk3, fq0, ln0, dq1, dq2, dq3, dq4, d10, d00, Bool.and_self]) ?_
  generalize hr : (q.new (.cells [.nilp] false (some (Nat.mul 2 111)))).set q.next (.cells ([.nilp].set 0 .nilp) false (some (Nat.mul 2 111))) = r
  have nr : r.next = q.next + 1 := by rw [← hr]; rfl
  have r6 : r.get q.next = some (.cells [.nilp] false (some (Nat.mul 2 111))) := by rw [← hr, XH.get_set, if_pos rfl]; rfl
  have rl : ∀ n, n < q.next → r.get n = q.get n := fun n hn => by rw [← hr, XH.get_set, if_neg (by omega), XH.get_new, if_neg (by omega)]
  clear hr st6 gs6 lk3 lk2 lk
  have b1 := r_load1 (o := 0) r6 rfl
  have bd : pBuild [.int .u32 (.ofNat 0), .int .i32 (.ofNat 0), .int .u32 (.ofNat 0), .str []] [] = some (.agg turn0) := rfl
  have xa : (XV.agg turn0).cells = turn0 := rfl
  have st7 := e_store_one (h := r.new (.cells turn0 false none)) (b := q.next) (o := 0) (c := [.nilp]) (tg := some (Nat.mul 2 111)) (v := .ptr r.next 0) ((XH.get_new _ _ _).trans ((if_neg (by omega)).trans r6)) (by decide) rfl
  repeat with_reducible first | refine nx ?_ | (refine nw ?_; simp (disch := first | omega | decide) only [bG, b1, eq_nn, bd, xa, st7]; refine rg ?_)
  generalize hs7 : (r.new (.cells turn0 false none)).set q.next (.cells ([.nilp].set 0 (.ptr r.next 0)) false (some (Nat.mul 2 111))) = s
  have ns : s.next = r.next + 1 := by rw [← hs7]; rfl
  have s6 : s.get q.next = some (.cells [.ptr r.next 0] false (some (Nat.mul 2 111))) := by rw [← hs7, XH.get_set, if_pos rfl]; rfl
  have s7 : s.get r.next = some (.cells turn0 false none) := by rw [← hs7, XH.get_set, if_neg (by omega), XH.get_new, if_pos rfl]
  have sl : ∀ n, n < q.next → s.get n = q.get n := fun n hn => by rw [← hs7, XH.get_set, if_neg (by omega), XH.get_new, if_neg (by omega)]; exact rl n hn
  clear hs7 st7
  have s2 : s.get h.next = _ := (sl _ (by omega)).trans q2
  have s5 : s.get (h.next + 1) = _ := (sl _ (by omega)).trans q5
  have sm : s.get m = _ := (sl _ (by omega)).trans qm
  have st : s.get t = _ := (sl _ (by omega)).trans qt
  have c1 := r_load1 (o := 0) s2 rfl
  have c2 := r_load1 (o := 1) st rfl
  have c3 := r_load1 (o := 0) s5 rfl
  have c4 := r_load1 (o := 0) s6 rfl
  have ms := map_set (v := .ptr r.next 0) sm hk0
  have ds1 : decide (s.next ≤ s.next) = true := decide_eq_true (Nat.le_refl _)
  repeat with_reducible first | refine nx ?_ | (refine nv ?_; simp (disch := first | omega | decide) only [bG, c1, c2, c3, c4, ms]; refine rg ?_)
  refine plan_nil (by simp (disch := first | omega | decide) only [endOk, chkAt, addNew, newOk, rangeOk, distinctN, Nat.reduceLT, Nat.reduceAdd, Nat.reduceLeDiff, bP, bG, c1, c2, c3, c4, ds1, Bool.and_self]) ?_
  generalize hu : s.set m (.map (entL ps (seq / 8) ++ [(kI (seq / 8), .ptr r.next 0)])) = u
  have nu : u.next = s.next := by rw [← hu]; rfl
  have um : u.get m = some (.map (entL ps (seq / 8) ++ [(kI (seq / 8), .ptr r.next 0)])) := by rw [← hu, XH.get_set, if_pos rfl]
  have ul : ∀ n, n ≠ m → u.get n = s.get n := fun n hn => by rw [← hu, XH.get_set, if_neg hn]
  clear hu ms
  have u2 : u.get h.next = _ := (ul _ (by omega)).trans s2
  have u5 : u.get (h.next + 1) = _ := (ul _ (by omega)).trans s5
  have u6 : u.get q.next = _ := (ul _ (by omega)).trans s6
  have u7 : u.get r.next = some (.cells turn0 false none) := (ul _ (by omega)).trans s7
  have ut : u.get t = _ := (ul _ htm).trans st
  have e4 := r_load1 (o := 0) u6 rfl
  repeat with_reducible first | refine nx ?_ | (refine nw ?_; simp (disch := first | omega | decide) only [bG, e4]; refine rg ?_)
  have o0 := cell_at (o := 0) (v := .int .u32 (.ofNat 0)) u7 rfl
  have o1 := cell_at (o := 1) (v := .int .i32 (.ofNat 0)) u7 rfl
  have w1 := wr1 (o := 1) (v := .int .i32 (.ofNat 1)) u7 (by decide) rfl
  generalize hv : u.set r.next (.cells (turn0.set 1 (.int .i32 (.ofNat 1))) false none) = v at w1
  have nv : v.next = u.next := by rw [← hv]; rfl
  have v7 : v.get r.next = some (.cells (turn0.set 1 (.int .i32 (.ofNat 1))) false none) := by rw [← hv, XH.get_set, if_pos rfl]
  have vl : ∀ n, n ≠ r.next → v.get n = u.get n := fun n hn => by rw [← hv, XH.get_set, if_neg hn]
  clear hv
  refine callGo_ex (call_once once_fn (fun _ _ _ => rfl) o0 o1 w1 fn_record_turns_at_1 ((at1_call h.next (h.next + 1) q.next r.next t m (seq / 8) first _ _ _ _ _ _ hk hl hE v (by omega) (by omega) (by omega) (by omega) (by omega) ((vl _ (by omega)).trans u2) ((vl _ (by omega)).trans u5) ((vl _ (by omega)).trans u6) ((vl _ (by omega)).trans ut) v7 rfl).mono (fun _ k hk' => ?_)) (Q := fun k => k.get r.next = some (.cells (turnC (atL first (seq / 8))) false none) ∧ u.next ≤ k.next ∧ ∀ n, n < u.next → n ≠ r.next → k.get n = u.get n)) ?_
  · obtain ⟨g2, x2⟩ := hk'
    have hk2 := x2.le
    have e3 := wr1 (o := 0) (v := .int .u32 (.ofNat 1)) g2 (by rw [List.length_set, List.length_set]; decide) rfl
    have e4 := wr1 (h := k.set r.next (.cells (((turn0.set 1 (.int .i32 (.ofNat 1))).set 3 (.str (atL first (seq / 8)))).set 0 (.int .u32 (.ofNat 1))) false none)) (o := 1) (v := .int .i32 (.ofNat 0)) (by rw [XH.get_set, if_pos rfl]) (by rw [List.length_set, List.length_set, List.length_set]; decide) rfl
    refine ⟨_, _, cell_at g2 rfl, e3, e4, ?_, ?_, fun n h2 h3 => ?_⟩
    · rw [XH.get_set, if_pos rfl]; rfl
    · simp only [XH.next_set]; omega
    · rw [XH.get_set, if_neg h3, XH.get_set, if_neg h3, x2.get n (by omega) h3, vl n h3]
  · rintro _ k ⟨rfl, k7, kn, kl⟩
    have k6 : k.get q.next = _ := (kl _ (by omega) (by omega)).trans u6
    have f1 := r_load1 (o := 0) k6 rfl
    have f2 := r_load1 (o := 3) k7 rfl
    repeat with_reducible first | refine nx ?_ | (refine nw ?_; simp (disch := first | omega | decide) only [bG, f1, f2]; refine rg ?_)
    refine ret_nil.2 ⟨_, fin_tmp (.inr rfl), ?_, r.next, by omega, by omega, ?_, ?_⟩
    · simp (disch := first | omega | decide) only [bG, f2]
    · have hlen := hT.len
      refine ⟨⟨tg, (kl _ (by omega) (by omega)).trans ut⟩, ?_, by rw [List.length_append, hlen]; rfl, fun e he => ?_⟩
      · rw [(kl m (by omega) (by omega)).trans um, entL, entL_app ps r.next _ (by omega), ← hlen, getD_appR]
      · by_cases h' : e = seq / 8
        · subst h'
          refine ⟨none, ?_⟩
          rw [← hlen, getD_appR]
          rw [hlen]
          exact ⟨k7, by omega, by omega⟩
        · obtain ⟨tg3, g1, g2, g3⟩ := hT.each e (by omega)
          rw [getD_appL ps r.next e (by omega)]
          have := hps e (by omega)
          exact ⟨tg3, (kl _ (by omega) (by omega)).trans ((ul _ g3).trans ((sl _ (by omega)).trans ((ql _ this).trans g1))), g2, g3⟩
    · exact ⟨by omega, fun n hn hnm => (kl _ (by omega) (by omega)).trans ((ul _ hnm).trans ((sl _ (by omega)).trans (ql n hn)))⟩
end Go.Proofs.XCode
end
section
namespace Go.Proofs.XCode
open Go.X
set_option linter.unusedSimpArgs false
set_option linter.unusedVariables false
set_option maxRecDepth 10000
theorem neq_self (a : Nat) : decide (a ≠ a) = false := decide_eq_false (fun h => h rfl)
structure Sender (h : XH) (o t m : Nat) (key : List Nat) (n E : Nat) (ps : List Nat) : Prop where
  out : ∃ tg, h.get o = some (.cells [.ptr t 0, .int .i64 (.ofNat n)] false tg)
  turns : Turns h t m key E ps
  lo : o < h.next
  lt : t < h.next
  lm : m < h.next
  ot : o ≠ t
  om : o ≠ m
  tm : t ≠ m
  lps : ∀ e, e < E → ps.getD e 0 < h.next
  ops : ∀ e, e < E → ps.getD e 0 ≠ o
  ep : (n + 7) / 8 = E
  fr : FreshH h
theorem NewOut_call (key : List Nat) (hl : key.length = 32) (h : XH) (hfr : FreshH h) : CallEv E0 n_record_NewOut [.str key] h (fun r k => ∃ o t m, r = .ptr o 0 ∧ h.next ≤ o ∧ h.next ≤ t ∧ h.next ≤ m ∧ Sender k o t m key 0 0 [] ∧ HExt h k) := by
  have nl : decide (¬ key.length = 32) = false := decide_eq_false (fun h => h hl)
  have b1 : pBuild [.str [], .nilm] [(0, 1, .str key), (1, 1, .map h.next)] = some (.agg [.str key, .map h.next]) := rfl
  have b2 : pBuild [.nilp, .int .i64 (.ofNat 0)] [(0, 1, .ptr (h.next + 1) 0)] = some (.agg [.ptr (h.next + 1) 0, .int .i64 (.ofNat 0)]) := rfl
  refine call_fn fn_record_NewOut ?_
  simp only [args0_cons, args0_nil]
  repeat with_reducible first | refine nx ?_ | (refine nw ?_; simp (disch := first | omega | decide) only [bG, nl, nv_map, b1, b2, XV.cells]; refine rg ?_)
  refine ret_nil.2 ⟨_, fin_tmp (.inr rfl), h.next + 2, h.next + 1, h.next, ?_, by omega, by omega, Nat.le_refl _, ?_, (((HExt.refl h).new _).new _).new _⟩
  · simp (disch := first | omega | decide) only [bG]
  · exact ⟨⟨_, get_new_same _ _⟩, ⟨⟨none, by rw [XH.get_new, XH.next_new, if_neg (by simp only [XH.next_new]; omega), XH.get_new, XH.next_new, if_pos rfl]⟩, by rw [XH.get_new, XH.next_new, if_neg (by simp only [XH.next_new]; omega), XH.get_new, XH.next_new, if_neg (by omega), XH.get_new, if_pos rfl]; rfl, rfl, fun e he => by omega⟩, by simp only [XH.next_new]; omega, by simp only [XH.next_new]; omega, by simp only [XH.next_new]; omega, by omega, by omega, by omega, fun e he => by omega, fun e he => by omega, rfl, ((hfr.new _).new _).new _⟩
end Go.Proofs.XCode
end
section
namespace Go.Proofs.XCode
open Go.X Go.RowKit Go.Proofs
set_option maxRecDepth 100000
set_option linter.unusedSimpArgs false
set_option linter.unusedVariables false
def sizeL (n : Nat) : Nat := if n ≤ 30 then 32 else if n ≤ 126 then 128 else 512
noncomputable def padT (b : List Nat) : List Nat := putBig b.length 2 ++ b ++ List.replicate (sizeL b.length - 2 - b.length) 0
theorem fnS : E3.fn n_pad_Size = some (.fn x_pad_Size) := le3.fn _ _ fn_pad_Size
theorem fnP : E3.fn n_pad_Pad = some (.fn x_pad_Pad) := le3.fn _ _ fn_pad_Pad
theorem Size_call (n : Nat) (hn : n ≤ 510) (h : XH) (hf : FreshH h) : CallEv E3 n_pad_Size [.int .i64 (.ofNat n)] h (fun r k => r = .tup [.int .i64 (.ofNat (sizeL n)), .bool true] ∧ HExt h k) := by
  have g : (h.new newSizes).get h.next = some (.cells [.int .i64 (.ofNat 32), .int .i64 (.ofNat 128), .int .i64 (.ofNat 512), .int .i64 (.ofNat 2048)] false (some (2 * 3 + 1))) := get_new_same _ _
  have f0 := r_load1 (o := 0) g rfl
  have f1 := r_load1 (o := 1) g rfl
  have f2 := r_load1 (o := 2) g rfl
  have d0 : decide (0 ≤ n) = true := decide_eq_true (Nat.zero_le _)
  have e0 : decide (0 < 4) = true := rfl
  have e1 : decide (1 < 4) = true := rfl
  have e2 : decide (2 < 4) = true := rfl
  by_cases c1 : n ≤ 30
  · have d1 : decide (n ≤ 32 - 2) = true := decide_eq_true c1
    have hz : sizeL n = 32 := if_pos c1
    refine call_fn fnS ?_
    simp only [args0_cons, args0_nil]
    repeat with_reducible first | refine nx ?_ | (refine nw ?_; simp (disch := first | omega | decide) only [bG, f0, f1, f2, d0, d1, e0, e1, e2]; refine rg ?_)
    refine callGo_of (sizes_ev h hf) ?_
    repeat with_reducible first | refine nx ?_ | (refine nw ?_; simp (disch := first | omega | decide) only [bG, f0, f1, f2, d0, d1, e0, e1, e2]; refine rg ?_)
    refine go_loop hE3 ?_
    repeat with_reducible first | refine nx ?_ | (refine nw ?_; simp (disch := first | omega | decide) only [bG, f0, f1, f2, d0, d1, e0, e1, e2]; refine rg ?_)
    refine ret_nil.2 ⟨_, fin_tmps (l := [2, 3]) (.inr rfl), ?_, (HExt.refl h).new _⟩
    simp only [List.map]
    simp (disch := first | omega | decide) only [bG, hz]
    rfl
  have d1 : decide (n ≤ 32 - 2) = false := decide_eq_false c1
  by_cases c2 : n ≤ 126
  · have d2 : decide (n ≤ 128 - 2) = true := decide_eq_true c2
    have hz : sizeL n = 128 := (if_neg c1).trans (if_pos c2)
    refine call_fn fnS ?_
    simp only [args0_cons, args0_nil]
    repeat with_reducible first | refine nx ?_ | (refine nw ?_; simp (disch := first | omega | decide) only [bG, f0, f1, f2, d0, d1, d2, e0, e1, e2]; refine rg ?_)
    refine callGo_of (sizes_ev h hf) ?_
    repeat with_reducible first | refine nx ?_ | (refine nw ?_; simp (disch := first | omega | decide) only [bG, f0, f1, f2, d0, d1, d2, e0, e1, e2]; refine rg ?_)
    refine go_loop hE3 ?_
    repeat with_reducible first | refine nx ?_ | (refine nw ?_; simp (disch := first | omega | decide) only [bG, f0, f1, f2, d0, d1, d2, e0, e1, e2]; refine rg ?_)
    refine ret_loop.2 (go_loop hE3 ?_)
    repeat with_reducible first | refine nx ?_ | (refine nw ?_; simp (disch := first | omega | decide) only [bG, f0, f1, f2, d0, d1, d2, e0, e1, e2]; refine rg ?_)
    refine ret_nil.2 ⟨_, fin_tmps (l := [2, 3]) (.inr rfl), ?_, (HExt.refl h).new _⟩
    simp only [List.map]
    simp (disch := first | omega | decide) only [bG, hz]
    rfl
  · have d2 : decide (n ≤ 128 - 2) = false := decide_eq_false c2
    have d3 : decide (n ≤ 512 - 2) = true := decide_eq_true hn
    have hz : sizeL n = 512 := (if_neg c1).trans (if_neg c2)
    refine call_fn fnS ?_
    simp only [args0_cons, args0_nil]
    repeat with_reducible first | refine nx ?_ | (refine nw ?_; simp (disch := first | omega | decide) only [bG, f0, f1, f2, d0, d1, d2, d3, e0, e1, e2]; refine rg ?_)
    refine callGo_of (sizes_ev h hf) ?_
    repeat with_reducible first | refine nx ?_ | (refine nw ?_; simp (disch := first | omega | decide) only [bG, f0, f1, f2, d0, d1, d2, d3, e0, e1, e2]; refine rg ?_)
    refine go_loop hE3 ?_
    repeat with_reducible first | refine nx ?_ | (refine nw ?_; simp (disch := first | omega | decide) only [bG, f0, f1, f2, d0, d1, d2, d3, e0, e1, e2]; refine rg ?_)
    refine ret_loop.2 (go_loop hE3 ?_)
    repeat with_reducible first | refine nx ?_ | (refine nw ?_; simp (disch := first | omega | decide) only [bG, f0, f1, f2, d0, d1, d2, d3, e0, e1, e2]; refine rg ?_)
    refine ret_loop.2 (go_loop hE3 ?_)
    repeat with_reducible first | refine nx ?_ | (refine nw ?_; simp (disch := first | omega | decide) only [bG, f0, f1, f2, d0, d1, d2, d3, e0, e1, e2]; refine rg ?_)
    refine ret_nil.2 ⟨_, fin_tmps (l := [2, 3]) (.inr rfl), ?_, (HExt.refl h).new _⟩
    simp only [List.map]
    simp (disch := first | omega | decide) only [bG, hz]
    rfl
theorem sizeL_ge {n : Nat} (hn : n ≤ 510) : n + 2 ≤ sizeL n ∧ sizeL n ≤ 512 := by
  unfold sizeL
  split
  · omega
  · split <;> omega
theorem padT_len {b : List Nat} (h : b.length ≤ 510) : (padT b).length = sizeL b.length := by
  have := sizeL_ge h
  rw [padT, List.length_append, List.length_append, List.length_replicate, putBig_len]
  omega
theorem padT_lt {b : List Nat} (h : ∀ i, b.getD i 0 < 256) : ∀ i, (padT b).getD i 0 < 256 := app_lt (app_lt (putBig_lt _ _) h) (rep_lt' _ 0 (by decide))
theorem Pad_call (b : List Nat) (hb : b.length ≤ 510) (h : XH) (hf : FreshH h) : CallEv E3 n_pad_Pad [.str b] h (fun r k => r = .tup [.str (padT b), .bool true] ∧ HExt h k) := by
  have hz := sizeL_ge hb
  have l2 := putBig_len b.length 2
  have l3 : (putBig b.length 2 ++ b).length = 2 + b.length := by rw [List.length_append, l2]
  have l4 : (List.replicate (sizeL b.length - 2 - b.length) 0).length = sizeL b.length - 2 - b.length := List.length_replicate
  refine call_fn fnP ?_
  simp only [args0_cons, args0_nil]
  repeat with_reducible first | refine nx ?_ | (refine nw ?_; simp (disch := first | omega | decide) only [bG, Bool.not_true, u_not]; refine rg ?_)
  refine callGo_ex (Size_call b.length hb h hf) ?_
  rintro _ k1 ⟨rfl, x1⟩
  repeat with_reducible first | refine nx ?_ | (refine nw ?_; simp (disch := first | omega | decide) only [bG, Bool.not_true, u_not]; refine rg ?_)
  refine callGo_ex ((putBig_call b.length 2 (by omega) (by decide) (by decide) _).le le3) ?_
  rintro _ k2 ⟨rfl, x2⟩
  repeat with_reducible first | refine nx ?_ | (refine nw ?_; simp (disch := first | omega | decide) only [bG]; refine rg ?_)
  refine callGo_of ((repeat_ev 0 (sizeL b.length - 2 - b.length) (by omega) _).le le3) ?_
  repeat with_reducible first | refine nx ?_ | (refine nw ?_; simp (disch := first | omega | decide) only [bG]; refine rg ?_)
  refine ret_nil.2 ⟨_, fin_tmps (l := [2, 3]) (.inr rfl), ?_, x1.trans x2⟩
  simp only [List.map]
  simp (disch := first | omega | decide) only [bG]
  rfl
end Go.Proofs.XCode
end
section
namespace Go.Proofs.XCode
open Go.X Go.RowKit Go.Proofs
set_option maxRecDepth 100000
set_option linter.unusedSimpArgs false
set_option linter.unusedVariables false
theorem iLoadO (b o n : Nat) (c : List XV) (ro : Bool) (tg : Option Nat) (h : XH) (hg : h.get b = some (.cells c ro tg)) (hc : c[o]? = some (.int .i64 (.ofNat n))) : CallEv E0 55 [.ptr b o] h (fun r k => r = .int .i64 (.ofNat n) ∧ k = h) := by
  refine call_intr' load64_fn 0 (v := .int .i64 (.ofNat n)) (h' := h) ?_ ⟨rfl, rfl⟩
  have hE : E0.intr = intr := rfl
  have hi : ∀ c, intr c 7 [.ptr b o] h = iLoad .i64 [.ptr b o] h := fun c => rfl
  rw [hE, hi]
  simp only [iLoad, cell_at hg hc]
  rfl
theorem iAddO (b o n : Nat) (c : List XV) (tg : Option Nat) (h : XH) (hn : n < 9000000000000000000) (hg : h.get b = some (.cells c false tg)) (hc : c[o]? = some (.int .i64 (.ofNat n))) : CallEv E0 48 [.ptr b o, .int .i64 (.ofNat 1)] h (fun r k => r = .int .i64 (.ofNat (n + 1)) ∧ k = h.set b (.cells (c.set o (.int .i64 (.ofNat (n + 1)))) false tg)) := by
  refine call_intr' add64i_fn 0 (v := .int .i64 (.ofNat (n + 1))) (h' := h.set b (.cells (c.set o (.int .i64 (.ofNat (n + 1)))) false tg)) ?_ ⟨rfl, rfl⟩
  have hE : E0.intr = intr := rfl
  have hi : ∀ c, intr c 9 [.ptr b o, .int .i64 (.ofNat 1)] h = iAdd .i64 [.ptr b o, .int .i64 (.ofNat 1)] h := fun c => rfl
  have hw : wrapX .i64 (Int.ofNat n + Int.ofNat 1) = .ofNat (n + 1) := wrap_i64 (n := n + 1) (by omega)
  have hlt : o < c.length := (List.getElem?_eq_some_iff.1 hc).1
  have hw2 := wr1 (v := .int .i64 (.ofNat (n + 1))) hg hlt rfl
  rw [hE, hi]
  simp only [iAdd, cell_at hg hc, hw, hw2]
  rfl
theorem LoadO_call (b o n : Nat) (c : List XV) (ro : Bool) (tg : Option Nat) (h : XH) (hg : h.get b = some (.cells c ro tg)) (hc : c[o]? = some (.int .i64 (.ofNat n))) : CallEv E0 n_sync_atomic_Int64_Load [.ptr b o] h (fun r k => r = .int .i64 (.ofNat n) ∧ k = h) := by
  refine call_fn fn_sync_atomic_Int64_Load ?_
  simp only [args0_cons, args0_nil]
  repeat with_reducible first | refine nx ?_ | (refine nv ?_; simp (disch := first | omega | decide) only [bG]; refine rg ?_)
  refine callGo_of (iLoadO b o n c ro tg _ hg hc) ?_
  repeat with_reducible first | refine nx ?_ | (refine nv ?_; simp (disch := first | omega | decide) only [bG]; refine rg ?_)
  refine ret_nil.2 ⟨_, fin_tmp (.inr rfl), ?_, rfl⟩
  simp (disch := first | omega | decide) only [bG]
theorem AddO_call (b o n : Nat) (c : List XV) (tg : Option Nat) (h : XH) (hn : n < 9000000000000000000) (hg : h.get b = some (.cells c false tg)) (hc : c[o]? = some (.int .i64 (.ofNat n))) : CallEv E0 n_sync_atomic_Int64_Add [.ptr b o, .int .i64 (.ofNat 1)] h (fun r k => r = .int .i64 (.ofNat (n + 1)) ∧ k = h.set b (.cells (c.set o (.int .i64 (.ofNat (n + 1)))) false tg)) := by
  refine call_fn fn_sync_atomic_Int64_Add ?_
  simp only [args0_cons, args0_nil]
  repeat with_reducible first | refine nx ?_ | (refine nv ?_; simp (disch := first | omega | decide) only [bG]; refine rg ?_)
  refine callGo_of (iAddO b o n c tg _ hn hg hc) ?_
  repeat with_reducible first | refine nx ?_ | (refine nv ?_; simp (disch := first | omega | decide) only [bG]; refine rg ?_)
  refine ret_nil.2 ⟨_, fin_tmp (.inr rfl), ?_, rfl⟩
  simp (disch := first | omega | decide) only [bG]
theorem Next_callO (o n : Nat) (v : XV) (tg : Option Nat) (h : XH) (hg : h.get o = some (.cells [v, .int .i64 (.ofNat n)] false tg)) : CallEv E0 n_record_Out_Next [.ptr o 0] h (fun r k => r = .int .i64 (.ofNat n) ∧ k = h) := by
  refine call_fn fn_record_Out_Next ?_
  simp only [args0_cons, args0_nil]
  repeat with_reducible first | refine nx ?_ | (refine nw ?_; simp (disch := first | omega | decide) only [bG, eq_pn]; refine rg ?_)
  refine callGo_of (LoadO_call o 1 n _ _ _ _ hg rfl) ?_
  repeat with_reducible first | refine nx ?_ | (refine nw ?_; simp (disch := first | omega | decide) only [bG]; refine rg ?_)
  refine ret_nil.2 ⟨_, fin_tmp (.inr rfl), ?_, rfl⟩
  simp (disch := first | omega | decide) only [bG]
end Go.Proofs.XCode
end
section
namespace Go.Proofs.XCode
open Go.X Go.RowKit Go.Proofs
set_option maxRecDepth 100000
set_option linter.unusedSimpArgs false
set_option linter.unusedVariables false
theorem Turns.keep {h k : XH} {t m : Nat} {key : List Nat} {E : Nat} {ps : List Nat} (hT : Turns h t m key E ps) (ht : k.get t = h.get t) (hm : k.get m = h.get m) (hp : ∀ e, e < E → k.get (ps.getD e 0) = h.get (ps.getD e 0)) : Turns k t m key E ps := by
  obtain ⟨⟨tg, a⟩, b, c, d⟩ := hT
  refine ⟨⟨tg, ht.trans a⟩, hm.trans b, c, fun e he => ?_⟩
  obtain ⟨tg, d1, d2⟩ := d e he
  exact ⟨tg, (hp e he).trans d1, d2⟩
theorem at_any (t m n E : Nat) (key ps : List Nat) (h : XH) (hk : ∀ i, key.getD i 0 < 256) (hl : key.length = 32) (hT : Turns h t m key E ps) (hn : n < 400) (he : (n + 7) / 8 = E) (ht : t < h.next) (hm : m < h.next) (htm : t ≠ m) (hps : ∀ e, e < E → ps.getD e 0 < h.next) (hfr : FreshH h) :
    CallEv E0 n_record_turns_at [.ptr t 0, .int .i64 (.ofNat n)] h (fun r k => r = .str (atL key (n / 8)) ∧ FrM m h k ∧ ∃ ps', Turns k t m key ((n + 8) / 8) ps' ∧ ∀ e, e < (n + 8) / 8 → ps'.getD e 0 < k.next ∧ ∀ x, x < h.next → (∀ e, e < E → ps.getD e 0 ≠ x) → ps'.getD e 0 ≠ x) := by
  by_cases hc : n / 8 = E
  · refine (at_new t m n E key ps h hk hl hT (by omega) hc (by omega) ht hm htm hps hfr).mono ?_
    rintro r k ⟨rfl, p, p1, p2, T2, fr⟩
    have e1 : (n + 8) / 8 = E + 1 := by omega
    have hlen := hT.len
    rw [e1, hc]
    refine ⟨rfl, fr, _, T2, fun e he2 => ?_⟩
    have hle := fr.le
    by_cases h2 : e < E
    · rw [getD_appL ps p e (by omega)]
      have := hps e h2
      exact ⟨by omega, fun x hx hh => hh e h2⟩
    · obtain rfl : e = ps.length := by omega
      rw [getD_appR]
      exact ⟨p2, fun x hx _ => by omega⟩
  · have h3 : n / 8 < E := by omega
    refine (at_old t m n E key ps h hT (by omega) h3 ht hm (hps _ h3) hfr).mono ?_
    rintro r k ⟨rfl, x⟩
    have e1 : (n + 8) / 8 = E := by omega
    rw [e1]
    have hle := x.le
    refine ⟨rfl, ⟨hle, fun n h1 _ => x.get n h1⟩, ps, hT.keep (x.get _ ht) (x.get _ hm) (fun e he => x.get _ (hps e he)), fun e he2 => ⟨?_, fun x _ hh => hh e he2⟩⟩
    have := hps e he2
    omega
structure FrS (o m : Nat) (h k : XH) : Prop where
  le : h.next ≤ k.next
  get : ∀ n, n < h.next → n ≠ o → n ≠ m → k.get n = h.get n
noncomputable def nonceL (n : Nat) : List Nat := List.replicate 4 0 ++ putBig n 8
noncomputable def recL (key : List Nat) (n : Nat) (b : List Nat) : List Nat := putBig n 8 ++ sealL (atL key (n / 8)) (nonceL n) (padT b) (putBig n 8)
theorem recL_len (key : List Nat) (n : Nat) {b : List Nat} (hb : b.length ≤ 510) : (recL key n b).length = 24 + sizeL b.length := by
  rw [recL, List.length_append, putBig_len, sealL_len, padT_len hb]; omega
theorem fnO : E3.fn n_record_Out_Seal = some (.fn x_record_Out_Seal) := le3.fn _ _ fn_record_Out_Seal
theorem SealO_call (o t m n E : Nat) (key ps b : List Nat) (hk : ∀ i, key.getD i 0 < 256) (hl : key.length = 32) (hb : ∀ i, b.getD i 0 < 256) (hbl : b.length ≤ 510) (hn : n < 400) (h : XH) (S : Sender h o t m key n E ps) :
    CallEv E3 n_record_Out_Seal [.ptr o 0, .str b] h (fun r k => r = .tup [.str (recL key n b), .int .i64 (.ofNat 0)] ∧ FrS o m h k ∧ ∃ E' ps', Sender k o t m key (n + 1) E' ps' ∧ ∀ e, e < E' → ∀ x, x < h.next → (∀ e, e < E → ps.getD e 0 ≠ x) → ps'.getD e 0 ≠ x) := by
  obtain ⟨⟨tg, g⟩, T, lo, lt, lm, ot, om, tm, lps, ops, ep, fr⟩ := S
  have zb := sizeL_ge hbl
  have pl := padT_len hbl
  have l1 := putBig_len n 8
  have l2 : (nonceL n).length = 12 := by rw [nonceL, List.length_append, l1, List.length_replicate]
  have hna := app_lt (rep_lt' 4 0 (by decide)) (putBig_lt n 8)
  have l3 := sealL_len (atL key (n / 8)) (nonceL n) (padT b) (putBig n 8)
  have f0 := r_load1 (o := 0) g rfl
  have d1 : decide (400 ≤ n) = false := decide_eq_false (by omega)
  refine call_fn fnO ?_
  simp only [args0_cons, args0_nil]
  repeat with_reducible first | refine nx ?_ | (refine nw ?_; simp (disch := first | omega | decide) only [bG, eq_pn, f0, u_not, Bool.not_true, Bool.not_false]; refine rg ?_)
  refine callGo_ex ((Pad_call b hbl h fr).fresh intr3_fr fr) ?_
  rintro _ k1 ⟨⟨rfl, x1⟩, fr1⟩
  have h1 := x1.le
  have g1 := (x1.get o lo).trans g
  repeat with_reducible first | refine nx ?_ | (refine nw ?_; simp (disch := first | omega | decide) only [bG, u_not, Bool.not_true]; refine rg ?_)
  refine callGo_of ((Next_callO o n _ _ k1 g1).le le3) ?_
  repeat with_reducible first | refine nx ?_ | (refine nw ?_; simp (disch := first | omega | decide) only [bG, d1, u_not, Bool.not_true]; refine rg ?_)
  refine callGo_ex (((putBig_call n 8 (by omega) (by decide) (by decide) k1).le le3).fresh intr3_fr fr1) ?_
  rintro _ k2 ⟨⟨rfl, x2⟩, fr2⟩
  have x12 := x1.trans x2
  have h2 := x12.le
  have f2 := r_load1 (o := 0) ((x12.get o lo).trans g) rfl
  repeat with_reducible first | refine nx ?_ | (refine nw ?_; simp (disch := first | omega | decide) only [bG, f2]; refine rg ?_)
  refine callGo_ex (((at_any t m n E key ps k2 hk hl (T.keep (x12.get _ lt) (x12.get _ lm) (fun e he => x12.get _ (lps e he))) hn ep (by omega) (by omega) tm (fun e he => by have := lps e he; omega) fr2).le le3).fresh intr3_fr fr2) ?_
  rintro _ k3 ⟨⟨rfl, x3, ps', T3, hp3⟩, fr3⟩
  have h3 := x3.le
  repeat with_reducible first | refine nx ?_ | (refine nw ?_; simp (disch := first | omega | decide) only [bG]; refine rg ?_)
  refine callGo_ex (((Nonce_call n (by omega) k3).le le3).fresh intr3_fr fr3) ?_
  rintro _ k4 ⟨⟨rfl, x4⟩, fr4⟩
  repeat with_reducible first | refine nx ?_ | (refine nw ?_; simp (disch := first | omega | decide) only [bG]; refine rg ?_)
  refine callGo_ex (((Seal_call (atL key (n / 8)) (nonceL n) (padT b) (putBig n 8) (atL_lt hk _) hna (padT_lt hb) (putBig_lt _ _) (atL_len hl _) l2 (by omega) (by omega) (by omega) k4 fr4).le le3).fresh intr3_fr fr4) ?_
  rintro _ k5 ⟨⟨rfl, x5⟩, fr5⟩
  have x45 := x4.trans x5
  have h5 := x45.le
  have g5 := (x45.get o (by omega)).trans ((x3.get o (by omega) om).trans ((x12.get o lo).trans g))
  repeat with_reducible first | refine nx ?_ | (refine nw ?_; simp (disch := first | omega | decide) only [bG]; refine rg ?_)
  refine callGo_of ((AddO_call o 1 n _ _ k5 (by omega) g5 rfl).le le3) ?_
  repeat with_reducible first | refine nx ?_ | (refine nw ?_; simp (disch := first | omega | decide) only [bG]; refine rg ?_)
  have hon : ∀ x, x ≠ o → (k5.set o (.cells ([.ptr t 0, .int .i64 (.ofNat n)].set 1 (.int .i64 (.ofNat (n + 1)))) false tg)).get x = k5.get x := fun x hx => by rw [XH.get_set, if_neg hx]
  refine ret_nil.2 ⟨_, fin_tmps (l := [4, 5]) (.inr rfl), ?_, ⟨by simp only [XH.next_set]; omega, fun x hx hxo hxm => ?_⟩, (n + 8) / 8, ps', ?_, fun e he x hx hh => (hp3 e he).2 x (by omega) hh⟩
  · simp only [List.map]
    simp (disch := first | omega | decide) only [bG]
    rfl
  · rw [hon x hxo, x45.get x (by omega), x3.get x (by omega) hxm, x12.get x hx]
  · have po : ∀ e, e < (n + 8) / 8 → ps'.getD e 0 ≠ o := fun e he => (hp3 e he).2 o (by omega) ops
    refine ⟨⟨_, by rw [XH.get_set, if_pos rfl]; rfl⟩, T3.keep ?_ ?_ ?_, ?_, ?_, ?_, ot, om, tm, ?_, po, rfl, fr5.set g5 _⟩
    · rw [hon t (fun e => ot e.symm), x45.get t (by omega)]
    · rw [hon m (fun e => om e.symm), x45.get m (by omega)]
    · intro e he
      rw [hon _ (po e he), x45.get _ (hp3 e he).1]
    · simp only [XH.next_set]; omega
    · simp only [XH.next_set]; omega
    · simp only [XH.next_set]; omega
    · intro e he
      have := (hp3 e he).1
      simp only [XH.next_set]; omega
end Go.Proofs.XCode
end
section
namespace Go.Proofs.XCode
open Go.X
theorem xorL_inv : ∀ (a b : List Nat), a.length ≤ b.length → xorL (xorL a b) b = a
  | [], _, _ => rfl
  | _ :: _, [], h => by simp at h
  | x :: a, y :: b, h => by
    have := xorL_inv a b (by simpa using h)
    unfold xorL at this ⊢
    simp only [List.zipWith_cons_cons, this]
    rw [Nat.xor_assoc, Nat.xor_self, Nat.xor_zero]
theorem xorS_chunk (key nonce : List Nat) (c : Nat) (b : List Nat) (j : Nat) : ∀ J, j < J → ((xorS key nonce c b J).drop (64 * j)).take 64 = xorL ((b.drop (64 * j)).take 64) (blockL key (c + j) nonce)
  | 0, h => by omega
  | J + 1, h => by
    have hl := xorS_len key nonce c b J
    have hX : (xorL ((b.drop (64 * J)).take 64) (blockL key (c + J) nonce)).length ≤ 64 := by rw [xorL_len, List.length_take]; omega
    rw [xorS]
    by_cases hj : j = J
    · subst hj
      by_cases hb : 64 * j ≤ b.length
      · rw [List.drop_append_of_le_length (by omega), List.drop_of_length_le (by omega), List.nil_append, List.take_of_length_le hX]
      · have e : b.drop (64 * j) = [] := List.drop_of_length_le (by omega)
        rw [e]
        rw [List.drop_of_length_le]
        · rfl
        · rw [List.length_append, hl]
          simp only [List.take_nil, xorL, List.zipWith_nil_left, List.length_nil]
          omega
    · rw [← xorS_chunk key nonce c b j J (by omega)]
      by_cases hb : 64 * (j + 1) ≤ b.length
      · rw [List.drop_append_of_le_length (by omega), List.take_append_of_le_length]
        rw [List.length_drop]
        omega
      · have e : b.drop (64 * J) = [] := List.drop_of_length_le (by omega)
        rw [e]
        simp only [List.take_nil, xorL, List.zipWith_nil_left, List.append_nil]
theorem streamL_inv (key nonce : List Nat) (c : Nat) (b : List Nat) : streamL key nonce c (streamL key nonce c b) = b := by
  have hl := streamL_len key nonce c b
  have key' : ∀ J, J ≤ (b.length + 63) / 64 → xorS key nonce c (streamL key nonce c b) J = b.take (64 * J) := by
    intro J
    induction J with
    | zero => intro _; rw [Nat.mul_zero, List.take_zero]; rfl
    | succ J ih =>
      intro h
      rw [xorS, ih (by omega)]
      have := xorS_chunk key nonce c b J ((b.length + 63) / 64) (by omega)
      rw [show (List.drop (64 * J) (streamL key nonce c b)).take 64 = _ from this, xorL_inv _ _ (by rw [blockL_len, List.length_take]; omega), show 64 * (J + 1) = 64 * J + 64 by omega, List.take_add]
  show xorS key nonce c _ (((streamL key nonce c b).length + 63) / 64) = b
  rw [hl, key' _ (Nat.le_refl _), List.take_of_length_le (by omega)]
end Go.Proofs.XCode
end
section
namespace Go.Proofs.XCode
open Go.X Go.Proofs
set_option maxRecDepth 100000
-- escutcheon/mac.Same
abbrev n_mac_Same : Nat := 96
abbrev c_mac_Same_0 : XC := XC.region [⟨(some (ixOf 4)), (.p (.mov (.c (.bool false)))), none⟩]
abbrev c_mac_Same_1 : XC := XC.region [⟨(some (ixOf 5)), (.a (.alloc 64 [(.int .i64 (.ofNat 0))])), none⟩]
abbrev c_mac_Same_2 : XC := XC.region [⟨(some (ixOf 8)), (.p (.mov (.t (ixOf 0)))), none⟩,
  ⟨(some (ixOf 9)), (.p (.mov (.t (ixOf 1)))), none⟩,
  ⟨(some (ixOf 10)), (.e (.call 85 [(.t (ixOf 8)), (.t (ixOf 9))])), none⟩,
  ⟨(some (ixOf 11)), (.a (.convSB (.t (ixOf 10)))), none⟩,
  ⟨(some (ixOf 12)), (.r (.len (.slice 5) (.t (ixOf 11)))), none⟩,
  ⟨(some (ixOf 13)), (.p (.mov (.c (.int .i64 (.ofNat 0))))), none⟩]
abbrev c_mac_Same_3 : XC := XC.region [⟨(some (ixOf 14)), (.p (.bin (.int .i64) .lss (.t (ixOf 13)) (.t (ixOf 12)))), none⟩]
abbrev c_mac_Same_4 : XC := XC.cond (.t (ixOf 14)) .skip (.exit 0)
abbrev c_mac_Same_5 : XC := XC.region [⟨(some (ixOf 15)), (.p (.idxL 1 (.t (ixOf 11)) (.t (ixOf 13)))), none⟩,
  ⟨(some (ixOf 16)), (.r (.load .one (.t (ixOf 15)))), none⟩,
  ⟨(some (ixOf 7)), (.p (.mov (.t (ixOf 16)))), none⟩]
abbrev c_mac_Same_6 : XC := XC.region [⟨(some (ixOf 17)), (.p (.mov (.t (ixOf 7)))), none⟩,
  ⟨(some (ixOf 18)), (.p (.bin (.int .u8) .neq (.t (ixOf 17)) (.c (.int .u8 (.ofNat 0))))), none⟩]
abbrev c_mac_Same_7 : XC := XC.region [⟨(some (ixOf 19)), (.e (.call 21 [(.t (ixOf 5)), (.c (.int .i64 (.ofNat 1)))])), none⟩]
abbrev c_mac_Same_8 : XC := XC.cond (.t (ixOf 18)) c_mac_Same_7 .skip
abbrev c_mac_Same_9 : XC := XC.seq c_mac_Same_6 c_mac_Same_8
abbrev c_mac_Same_10 : XC := XC.seq c_mac_Same_5 c_mac_Same_9
abbrev c_mac_Same_11 : XC := XC.block 1 c_mac_Same_10
abbrev c_mac_Same_12 : XC := XC.region [⟨(some (ixOf 20)), (.p (.bin (.int .i64) .add (.t (ixOf 13)) (.c (.int .i64 (.ofNat 1))))), none⟩,
  ⟨(some (ixOf 13)), (.p (.mov (.t (ixOf 20)))), none⟩]
abbrev c_mac_Same_13 : XC := XC.seq c_mac_Same_11 c_mac_Same_12
abbrev c_mac_Same_14 : XC := XC.seq c_mac_Same_4 c_mac_Same_13
abbrev c_mac_Same_15 : XC := XC.seq c_mac_Same_3 c_mac_Same_14
abbrev c_mac_Same_16 : XC := XC.loop c_mac_Same_15
abbrev c_mac_Same_17 : XC := XC.block 0 c_mac_Same_16
abbrev c_mac_Same_18 : XC := XC.seq c_mac_Same_2 c_mac_Same_17
abbrev c_mac_Same_19 : XC := XC.region [⟨(some (ixOf 21)), (.e (.call 29 [(.t (ixOf 5))])), none⟩,
  ⟨(some (ixOf 22)), (.p (.bin (.int .i64) .eql (.t (ixOf 21)) (.c (.int .i64 (.ofNat 0))))), none⟩,
  ⟨(some (ixOf 23)), (.p (.mov (.t (ixOf 22)))), none⟩,
  ⟨(some (ixOf 24)), (.p (.mov (.t (ixOf 0)))), (some ((ixOf 23), true))⟩,
  ⟨(some (ixOf 25)), (.r (.len .str (.t (ixOf 24)))), (some ((ixOf 23), true))⟩,
  ⟨(some (ixOf 26)), (.p (.mov (.t (ixOf 1)))), (some ((ixOf 23), true))⟩,
  ⟨(some (ixOf 27)), (.r (.len .str (.t (ixOf 26)))), (some ((ixOf 23), true))⟩,
  ⟨(some (ixOf 28)), (.p (.bin (.int .i64) .eql (.t (ixOf 25)) (.t (ixOf 27)))), (some ((ixOf 23), true))⟩,
  ⟨(some (ixOf 29)), (.p (.pick (.t (ixOf 23)) (.t (ixOf 28)) (.c (.bool false)))), none⟩,
  ⟨(some (ixOf 4)), (.p (.mov (.t (ixOf 29)))), none⟩]
abbrev c_mac_Same_20 : XC := XC.seq c_mac_Same_19 .ret
abbrev c_mac_Same_21 : XC := XC.seq c_mac_Same_18 c_mac_Same_20
abbrev c_mac_Same_22 : XC := XC.seq c_mac_Same_1 c_mac_Same_21
abbrev c_mac_Same_23 : XC := XC.seq c_mac_Same_0 c_mac_Same_22
abbrev x_mac_Same : XFn := ⟨[.tmp (ixOf 4)], c_mac_Same_23⟩
theorem mk_mac_Same : mkFn tyT.get Tryz.f96 = some x_mac_Same := by kernel_rfl
theorem fn_mac_Same : E0.fn n_mac_Same = some (.fn x_mac_Same) := fn_of (by kernel_rfl) mk_mac_Same
-- escutcheon/box.Open
abbrev n_box_Open : Nat := 50
abbrev c_box_Open_0 : XC := XC.region [⟨(some (ixOf 8)), (.p (.mov (.c (.str [])))), none⟩,
  ⟨(some (ixOf 9)), (.p (.mov (.c (.bool false)))), none⟩]
abbrev c_box_Open_1 : XC := XC.region [⟨(some (ixOf 10)), (.a (.alloc 182 [(.int .i32 (.ofNat 0))])), none⟩]
abbrev c_box_Open_2 : XC := XC.region [⟨(some (ixOf 14)), (.p (.mov (.t (ixOf 2)))), none⟩,
  ⟨(some (ixOf 15)), (.r (.len .str (.t (ixOf 14)))), none⟩,
  ⟨(some (ixOf 16)), (.p (.bin (.int .i64) .sub (.t (ixOf 15)) (.c (.int .i64 (.ofNat 16))))), none⟩,
  ⟨(some (ixOf 11)), (.p (.mov (.t (ixOf 16)))), none⟩]
abbrev c_box_Open_3 : XC := XC.region [⟨(some (ixOf 17)), (.p (.mov (.t (ixOf 11)))), none⟩,
  ⟨(some (ixOf 18)), (.p (.bin (.int .i64) .lss (.t (ixOf 17)) (.c (.int .i64 (.ofNat 0))))), none⟩]
abbrev c_box_Open_4 : XC := XC.region [⟨(some (ixOf 8)), (.p (.mov (.c (.str [])))), none⟩,
  ⟨(some (ixOf 9)), (.p (.mov (.c (.bool false)))), none⟩]
abbrev c_box_Open_5 : XC := XC.seq c_box_Open_4 .ret
abbrev c_box_Open_6 : XC := XC.cond (.t (ixOf 18)) c_box_Open_5 .skip
abbrev c_box_Open_7 : XC := XC.seq c_box_Open_3 c_box_Open_6
abbrev c_box_Open_8 : XC := XC.region [⟨(some (ixOf 20)), (.p (.mov (.t (ixOf 0)))), none⟩,
  ⟨(some (ixOf 21)), (.p (.mov (.t (ixOf 1)))), none⟩,
  ⟨(some (ixOf 22)), (.p (.mov (.t (ixOf 2)))), none⟩,
  ⟨(some (ixOf 23)), (.p (.mov (.t (ixOf 11)))), none⟩,
  ⟨(some (ixOf 24)), (.p (.sliceS (.t (ixOf 22)) none (some (.t (ixOf 23))))), none⟩,
  ⟨(some (ixOf 25)), (.p (.mov (.t (ixOf 3)))), none⟩,
  ⟨(some (ixOf 26)), (.e (.call 43 [(.t (ixOf 20)), (.t (ixOf 21)), (.t (ixOf 24)), (.t (ixOf 25))])), none⟩,
  ⟨(some (ixOf 19)), (.p (.mov (.t (ixOf 26)))), none⟩,
  ⟨(some (ixOf 27)), (.p (.extract (.t (ixOf 19)) 0)), none⟩,
  ⟨(some (ixOf 28)), (.p (.extract (.t (ixOf 19)) 1)), none⟩,
  ⟨(some (ixOf 12)), (.p (.mov (.t (ixOf 27)))), none⟩,
  ⟨(some (ixOf 13)), (.p (.mov (.t (ixOf 28)))), none⟩]
abbrev c_box_Open_9 : XC := XC.region [⟨(some (ixOf 29)), (.p (.mov (.t (ixOf 13)))), none⟩,
  ⟨(some (ixOf 30)), (.p (.un .not (.t (ixOf 29)))), none⟩]
abbrev c_box_Open_10 : XC := XC.region [⟨(some (ixOf 31)), (.e (.call 95 [(.t (ixOf 10)), (.c (.int .i32 (.ofNat 1)))])), none⟩]
abbrev c_box_Open_11 : XC := XC.cond (.t (ixOf 30)) c_box_Open_10 .skip
abbrev c_box_Open_12 : XC := XC.seq c_box_Open_9 c_box_Open_11
abbrev c_box_Open_13 : XC := XC.region [⟨(some (ixOf 32)), (.p (.mov (.t (ixOf 12)))), none⟩,
  ⟨(some (ixOf 33)), (.p (.mov (.t (ixOf 2)))), none⟩,
  ⟨(some (ixOf 34)), (.p (.mov (.t (ixOf 11)))), none⟩,
  ⟨(some (ixOf 35)), (.p (.sliceS (.t (ixOf 33)) (some (.t (ixOf 34))) none)), none⟩,
  ⟨(some (ixOf 36)), (.e (.call 96 [(.t (ixOf 32)), (.t (ixOf 35))])), none⟩,
  ⟨(some (ixOf 37)), (.p (.un .not (.t (ixOf 36)))), none⟩]
abbrev c_box_Open_14 : XC := XC.region [⟨(some (ixOf 38)), (.e (.call 95 [(.t (ixOf 10)), (.c (.int .i32 (.ofNat 1)))])), none⟩]
abbrev c_box_Open_15 : XC := XC.cond (.t (ixOf 37)) c_box_Open_14 .skip
abbrev c_box_Open_16 : XC := XC.seq c_box_Open_13 c_box_Open_15
abbrev c_box_Open_17 : XC := XC.region [⟨(some (ixOf 39)), (.e (.call 97 [(.t (ixOf 10))])), none⟩,
  ⟨(some (ixOf 40)), (.p (.bin (.int .i32) .gtr (.t (ixOf 39)) (.c (.int .i32 (.ofNat 0))))), none⟩]
abbrev c_box_Open_18 : XC := XC.region [⟨(some (ixOf 8)), (.p (.mov (.c (.str [])))), none⟩,
  ⟨(some (ixOf 9)), (.p (.mov (.c (.bool false)))), none⟩]
abbrev c_box_Open_19 : XC := XC.seq c_box_Open_18 .ret
abbrev c_box_Open_20 : XC := XC.cond (.t (ixOf 40)) c_box_Open_19 .skip
abbrev c_box_Open_21 : XC := XC.seq c_box_Open_17 c_box_Open_20
abbrev c_box_Open_22 : XC := XC.region [⟨(some (ixOf 41)), (.p (.mov (.t (ixOf 0)))), none⟩,
  ⟨(some (ixOf 42)), (.p (.mov (.t (ixOf 1)))), none⟩,
  ⟨(some (ixOf 43)), (.p (.mov (.t (ixOf 2)))), none⟩,
  ⟨(some (ixOf 44)), (.p (.mov (.t (ixOf 11)))), none⟩,
  ⟨(some (ixOf 45)), (.p (.sliceS (.t (ixOf 43)) none (some (.t (ixOf 44))))), none⟩,
  ⟨(some (ixOf 46)), (.e (.call 42 [(.t (ixOf 41)), (.c (.int .u32 (.ofNat 1))), (.t (ixOf 42)), (.t (ixOf 45))])), none⟩,
  ⟨(some (ixOf 47)), (.p (.extract (.t (ixOf 46)) 0)), none⟩,
  ⟨(some (ixOf 48)), (.p (.extract (.t (ixOf 46)) 1)), none⟩,
  ⟨(some (ixOf 8)), (.p (.mov (.t (ixOf 47)))), none⟩,
  ⟨(some (ixOf 9)), (.p (.mov (.t (ixOf 48)))), none⟩]
abbrev c_box_Open_23 : XC := XC.seq c_box_Open_22 .ret
abbrev c_box_Open_24 : XC := XC.seq c_box_Open_21 c_box_Open_23
abbrev c_box_Open_25 : XC := XC.seq c_box_Open_16 c_box_Open_24
abbrev c_box_Open_26 : XC := XC.seq c_box_Open_12 c_box_Open_25
abbrev c_box_Open_27 : XC := XC.seq c_box_Open_8 c_box_Open_26
abbrev c_box_Open_28 : XC := XC.seq c_box_Open_7 c_box_Open_27
abbrev c_box_Open_29 : XC := XC.seq c_box_Open_2 c_box_Open_28
abbrev c_box_Open_30 : XC := XC.seq c_box_Open_1 c_box_Open_29
abbrev c_box_Open_31 : XC := XC.seq c_box_Open_0 c_box_Open_30
abbrev x_box_Open : XFn := ⟨[.tmp (ixOf 8), .tmp (ixOf 9)], c_box_Open_31⟩
theorem mk_box_Open : mkFn tyT.get Tryz.f50 = some x_box_Open := by kernel_rfl
theorem fn_box_Open : E0.fn n_box_Open = some (.fn x_box_Open) := fn_of (by kernel_rfl) mk_box_Open
-- escutcheon/pad.Unpad
abbrev n_pad_Unpad : Nat := 51
abbrev c_pad_Unpad_0 : XC := XC.region [⟨(some (ixOf 2)), (.p (.mov (.c (.str [])))), none⟩,
  ⟨(some (ixOf 3)), (.p (.mov (.c (.bool false)))), none⟩]
abbrev c_pad_Unpad_1 : XC := XC.region [⟨(some (ixOf 8)), (.p (.mov (.t (ixOf 0)))), none⟩,
  ⟨(some (ixOf 9)), (.r (.len .str (.t (ixOf 8)))), none⟩,
  ⟨(some (ixOf 10)), (.p (.bin (.int .i64) .lss (.t (ixOf 9)) (.c (.int .i64 (.ofNat 2))))), none⟩]
abbrev c_pad_Unpad_2 : XC := XC.region [⟨(some (ixOf 2)), (.p (.mov (.c (.str [])))), none⟩,
  ⟨(some (ixOf 3)), (.p (.mov (.c (.bool false)))), none⟩]
abbrev c_pad_Unpad_3 : XC := XC.seq c_pad_Unpad_2 .ret
abbrev c_pad_Unpad_4 : XC := XC.cond (.t (ixOf 10)) c_pad_Unpad_3 .skip
abbrev c_pad_Unpad_5 : XC := XC.seq c_pad_Unpad_1 c_pad_Unpad_4
abbrev c_pad_Unpad_6 : XC := XC.region [⟨(some (ixOf 11)), (.p (.mov (.t (ixOf 0)))), none⟩,
  ⟨(some (ixOf 12)), (.p (.sliceS (.t (ixOf 11)) none (some (.c (.int .i64 (.ofNat 2)))))), none⟩,
  ⟨(some (ixOf 13)), (.e (.call 22 [(.t (ixOf 12))])), none⟩,
  ⟨(some (ixOf 14)), (.p (.convI .i64 (.t (ixOf 13)))), none⟩,
  ⟨(some (ixOf 4)), (.p (.mov (.t (ixOf 14)))), none⟩]
abbrev c_pad_Unpad_7 : XC := XC.region [⟨(some (ixOf 15)), (.p (.mov (.t (ixOf 4)))), none⟩,
  ⟨(some (ixOf 16)), (.p (.mov (.t (ixOf 0)))), none⟩,
  ⟨(some (ixOf 17)), (.r (.len .str (.t (ixOf 16)))), none⟩,
  ⟨(some (ixOf 18)), (.p (.bin (.int .i64) .sub (.t (ixOf 17)) (.c (.int .i64 (.ofNat 2))))), none⟩,
  ⟨(some (ixOf 19)), (.p (.bin (.int .i64) .gtr (.t (ixOf 15)) (.t (ixOf 18)))), none⟩]
abbrev c_pad_Unpad_8 : XC := XC.region [⟨(some (ixOf 2)), (.p (.mov (.c (.str [])))), none⟩,
  ⟨(some (ixOf 3)), (.p (.mov (.c (.bool false)))), none⟩]
abbrev c_pad_Unpad_9 : XC := XC.seq c_pad_Unpad_8 .ret
abbrev c_pad_Unpad_10 : XC := XC.cond (.t (ixOf 19)) c_pad_Unpad_9 .skip
abbrev c_pad_Unpad_11 : XC := XC.seq c_pad_Unpad_7 c_pad_Unpad_10
abbrev c_pad_Unpad_12 : XC := XC.region [⟨(some (ixOf 20)), (.p (.mov (.t (ixOf 0)))), none⟩,
  ⟨(some (ixOf 21)), (.p (.mov (.t (ixOf 4)))), none⟩,
  ⟨(some (ixOf 22)), (.p (.bin (.int .i64) .add (.c (.int .i64 (.ofNat 2))) (.t (ixOf 21)))), none⟩,
  ⟨(some (ixOf 23)), (.p (.sliceS (.t (ixOf 20)) (some (.c (.int .i64 (.ofNat 2)))) (some (.t (ixOf 22))))), none⟩,
  ⟨(some (ixOf 5)), (.p (.mov (.t (ixOf 23)))), none⟩]
abbrev c_pad_Unpad_13 : XC := XC.region [⟨(some (ixOf 25)), (.p (.mov (.t (ixOf 5)))), none⟩,
  ⟨(some (ixOf 26)), (.e (.call 15 [(.t (ixOf 25))])), none⟩,
  ⟨(some (ixOf 24)), (.p (.mov (.t (ixOf 26)))), none⟩,
  ⟨(some (ixOf 27)), (.p (.extract (.t (ixOf 24)) 0)), none⟩,
  ⟨(some (ixOf 28)), (.p (.extract (.t (ixOf 24)) 1)), none⟩,
  ⟨(some (ixOf 6)), (.p (.mov (.t (ixOf 27)))), none⟩,
  ⟨(some (ixOf 7)), (.p (.mov (.t (ixOf 28)))), none⟩]
abbrev c_pad_Unpad_14 : XC := XC.region [⟨(some (ixOf 29)), (.p (.mov (.t (ixOf 7)))), none⟩,
  ⟨(some (ixOf 30)), (.p (.un .not (.t (ixOf 29)))), none⟩,
  ⟨(some (ixOf 31)), (.p (.mov (.t (ixOf 30)))), none⟩,
  ⟨(some (ixOf 32)), (.p (.mov (.t (ixOf 6)))), (some ((ixOf 31), false))⟩,
  ⟨(some (ixOf 33)), (.p (.mov (.t (ixOf 0)))), (some ((ixOf 31), false))⟩,
  ⟨(some (ixOf 34)), (.p (.bin .str .neq (.t (ixOf 32)) (.t (ixOf 33)))), (some ((ixOf 31), false))⟩,
  ⟨(some (ixOf 35)), (.p (.pick (.t (ixOf 31)) (.c (.bool true)) (.t (ixOf 34)))), none⟩]
abbrev c_pad_Unpad_15 : XC := XC.region [⟨(some (ixOf 2)), (.p (.mov (.c (.str [])))), none⟩,
  ⟨(some (ixOf 3)), (.p (.mov (.c (.bool false)))), none⟩]
abbrev c_pad_Unpad_16 : XC := XC.seq c_pad_Unpad_15 .ret
abbrev c_pad_Unpad_17 : XC := XC.cond (.t (ixOf 35)) c_pad_Unpad_16 .skip
abbrev c_pad_Unpad_18 : XC := XC.seq c_pad_Unpad_14 c_pad_Unpad_17
abbrev c_pad_Unpad_19 : XC := XC.seq c_pad_Unpad_13 c_pad_Unpad_18
abbrev c_pad_Unpad_20 : XC := XC.region [⟨(some (ixOf 36)), (.p (.mov (.t (ixOf 5)))), none⟩,
  ⟨(some (ixOf 2)), (.p (.mov (.t (ixOf 36)))), none⟩,
  ⟨(some (ixOf 3)), (.p (.mov (.c (.bool true)))), none⟩]
abbrev c_pad_Unpad_21 : XC := XC.seq c_pad_Unpad_20 .ret
abbrev c_pad_Unpad_22 : XC := XC.seq c_pad_Unpad_19 c_pad_Unpad_21
abbrev c_pad_Unpad_23 : XC := XC.seq c_pad_Unpad_12 c_pad_Unpad_22
abbrev c_pad_Unpad_24 : XC := XC.seq c_pad_Unpad_11 c_pad_Unpad_23
abbrev c_pad_Unpad_25 : XC := XC.seq c_pad_Unpad_6 c_pad_Unpad_24
abbrev c_pad_Unpad_26 : XC := XC.seq c_pad_Unpad_5 c_pad_Unpad_25
abbrev c_pad_Unpad_27 : XC := XC.seq c_pad_Unpad_0 c_pad_Unpad_26
abbrev x_pad_Unpad : XFn := ⟨[.tmp (ixOf 2), .tmp (ixOf 3)], c_pad_Unpad_27⟩
theorem mk_pad_Unpad : mkFn tyT.get Tryz.f51 = some x_pad_Unpad := by kernel_rfl
theorem fn_pad_Unpad : E0.fn n_pad_Unpad = some (.fn x_pad_Unpad) := fn_of (by kernel_rfl) mk_pad_Unpad
-- (*escutcheon/window.Window).Next
abbrev n_window_Window_Next : Nat := 49
abbrev c_window_Window_Next_0 : XC := XC.region [⟨(some (ixOf 2)), (.p (.mov (.c (.int .i64 (.ofNat 0))))), none⟩]
abbrev c_window_Window_Next_1 : XC := XC.region [⟨(some (ixOf 3)), (.p (.mov (.t (ixOf 0)))), none⟩,
  ⟨(some (ixOf 4)), (.p (.bin (.ptr 70) .eql (.t (ixOf 3)) (.c .nilp))), none⟩]
abbrev c_window_Window_Next_2 : XC := XC.region [⟨(some (ixOf 2)), (.p (.mov (.c (.int .i64 (.ofNat 0))))), none⟩]
abbrev c_window_Window_Next_3 : XC := XC.seq c_window_Window_Next_2 .ret
abbrev c_window_Window_Next_4 : XC := XC.cond (.t (ixOf 4)) c_window_Window_Next_3 .skip
abbrev c_window_Window_Next_5 : XC := XC.seq c_window_Window_Next_1 c_window_Window_Next_4
abbrev c_window_Window_Next_6 : XC := XC.region [⟨(some (ixOf 5)), (.p (.mov (.t (ixOf 0)))), none⟩,
  ⟨(some (ixOf 6)), (.p (.nilCheck (.t (ixOf 5)))), none⟩,
  ⟨(some (ixOf 7)), (.p (.addr 0 (.t (ixOf 6)))), none⟩,
  ⟨(some (ixOf 8)), (.e (.call 29 [(.t (ixOf 7))])), none⟩,
  ⟨(some (ixOf 2)), (.p (.mov (.t (ixOf 8)))), none⟩]
abbrev c_window_Window_Next_7 : XC := XC.seq c_window_Window_Next_6 .ret
abbrev c_window_Window_Next_8 : XC := XC.seq c_window_Window_Next_5 c_window_Window_Next_7
abbrev c_window_Window_Next_9 : XC := XC.seq c_window_Window_Next_0 c_window_Window_Next_8
abbrev x_window_Window_Next : XFn := ⟨[.tmp (ixOf 2)], c_window_Window_Next_9⟩
theorem mk_window_Window_Next : mkFn tyT.get Tryz.f49 = some x_window_Window_Next := by kernel_rfl
theorem fn_window_Window_Next : E0.fn n_window_Window_Next = some (.fn x_window_Window_Next) := fn_of (by kernel_rfl) mk_window_Window_Next
-- (*escutcheon/window.Window).May
abbrev n_window_Window_May : Nat := 23
abbrev c_window_Window_May_0 : XC := XC.region [⟨(some (ixOf 4)), (.p (.mov (.c (.bool false)))), none⟩]
abbrev c_window_Window_May_1 : XC := XC.region [⟨(some (ixOf 6)), (.p (.mov (.t (ixOf 0)))), none⟩,
  ⟨(some (ixOf 7)), (.p (.bin (.ptr 70) .eql (.t (ixOf 6)) (.c .nilp))), none⟩]
abbrev c_window_Window_May_2 : XC := XC.region [⟨(some (ixOf 4)), (.p (.mov (.c (.bool false)))), none⟩]
abbrev c_window_Window_May_3 : XC := XC.seq c_window_Window_May_2 .ret
abbrev c_window_Window_May_4 : XC := XC.cond (.t (ixOf 7)) c_window_Window_May_3 .skip
abbrev c_window_Window_May_5 : XC := XC.seq c_window_Window_May_1 c_window_Window_May_4
abbrev c_window_Window_May_6 : XC := XC.region [⟨(some (ixOf 8)), (.p (.mov (.t (ixOf 0)))), none⟩,
  ⟨(some (ixOf 9)), (.e (.call 49 [(.t (ixOf 8))])), none⟩,
  ⟨(some (ixOf 5)), (.p (.mov (.t (ixOf 9)))), none⟩]
abbrev c_window_Window_May_7 : XC := XC.region [⟨(some (ixOf 10)), (.p (.mov (.t (ixOf 1)))), none⟩,
  ⟨(some (ixOf 11)), (.p (.mov (.t (ixOf 5)))), none⟩,
  ⟨(some (ixOf 12)), (.p (.bin (.int .i64) .geq (.t (ixOf 10)) (.t (ixOf 11)))), none⟩,
  ⟨(some (ixOf 13)), (.p (.mov (.t (ixOf 12)))), none⟩,
  ⟨(some (ixOf 14)), (.p (.mov (.t (ixOf 1)))), (some ((ixOf 13), true))⟩,
  ⟨(some (ixOf 15)), (.p (.mov (.t (ixOf 5)))), (some ((ixOf 13), true))⟩,
  ⟨(some (ixOf 16)), (.p (.bin (.int .i64) .sub (.t (ixOf 14)) (.t (ixOf 15)))), (some ((ixOf 13), true))⟩,
  ⟨(some (ixOf 17)), (.p (.bin (.int .i64) .lss (.t (ixOf 16)) (.c (.int .i64 (.ofNat 64))))), (some ((ixOf 13), true))⟩,
  ⟨(some (ixOf 18)), (.p (.pick (.t (ixOf 13)) (.t (ixOf 17)) (.c (.bool false)))), none⟩,
  ⟨(some (ixOf 19)), (.p (.mov (.t (ixOf 18)))), none⟩,
  ⟨(some (ixOf 20)), (.p (.mov (.t (ixOf 0)))), (some ((ixOf 19), true))⟩,
  ⟨(some (ixOf 21)), (.p (.nilCheck (.t (ixOf 20)))), (some ((ixOf 19), true))⟩,
  ⟨(some (ixOf 22)), (.p (.addr 1 (.t (ixOf 21)))), (some ((ixOf 19), true))⟩,
  ⟨(some (ixOf 23)), (.r (.load .one (.t (ixOf 22)))), (some ((ixOf 19), true))⟩,
  ⟨(some (ixOf 24)), (.p (.mov (.t (ixOf 1)))), (some ((ixOf 19), true))⟩,
  ⟨(some (ixOf 25)), (.r (.lookup false (.bool false) (.t (ixOf 23)) (.t (ixOf 24)) false)), (some ((ixOf 19), true))⟩,
  ⟨(some (ixOf 26)), (.p (.un .not (.t (ixOf 25)))), (some ((ixOf 19), true))⟩,
  ⟨(some (ixOf 27)), (.p (.pick (.t (ixOf 19)) (.t (ixOf 26)) (.c (.bool false)))), none⟩,
  ⟨(some (ixOf 4)), (.p (.mov (.t (ixOf 27)))), none⟩]
abbrev c_window_Window_May_8 : XC := XC.seq c_window_Window_May_7 .ret
abbrev c_window_Window_May_9 : XC := XC.seq c_window_Window_May_6 c_window_Window_May_8
abbrev c_window_Window_May_10 : XC := XC.seq c_window_Window_May_5 c_window_Window_May_9
abbrev c_window_Window_May_11 : XC := XC.seq c_window_Window_May_0 c_window_Window_May_10
abbrev x_window_Window_May : XFn := ⟨[.tmp (ixOf 4)], c_window_Window_May_11⟩
theorem mk_window_Window_May : mkFn tyT.get Tryz.f23 = some x_window_Window_May := by kernel_rfl
theorem fn_window_Window_May : E0.fn n_window_Window_May = some (.fn x_window_Window_May) := fn_of (by kernel_rfl) mk_window_Window_May
-- (*escutcheon/window.Window).Take
abbrev n_window_Window_Take : Nat := 25
abbrev c_window_Window_Take_0 : XC := XC.region [⟨(some (ixOf 4)), (.p (.mov (.c (.bool false)))), none⟩]
abbrev c_window_Window_Take_1 : XC := XC.region [⟨(some (ixOf 5)), (.p (.mov (.t (ixOf 0)))), none⟩,
  ⟨(some (ixOf 6)), (.p (.mov (.t (ixOf 1)))), none⟩,
  ⟨(some (ixOf 7)), (.e (.call 23 [(.t (ixOf 5)), (.t (ixOf 6))])), none⟩,
  ⟨(some (ixOf 8)), (.p (.un .not (.t (ixOf 7)))), none⟩]
abbrev c_window_Window_Take_2 : XC := XC.region [⟨(some (ixOf 4)), (.p (.mov (.c (.bool false)))), none⟩]
abbrev c_window_Window_Take_3 : XC := XC.seq c_window_Window_Take_2 .ret
abbrev c_window_Window_Take_4 : XC := XC.cond (.t (ixOf 8)) c_window_Window_Take_3 .skip
abbrev c_window_Window_Take_5 : XC := XC.seq c_window_Window_Take_1 c_window_Window_Take_4
abbrev c_window_Window_Take_6 : XC := XC.region [⟨(some (ixOf 9)), (.p (.mov (.t (ixOf 0)))), none⟩,
  ⟨(some (ixOf 10)), (.p (.nilCheck (.t (ixOf 9)))), none⟩,
  ⟨(some (ixOf 11)), (.p (.addr 1 (.t (ixOf 10)))), none⟩,
  ⟨(some (ixOf 12)), (.r (.load .one (.t (ixOf 11)))), none⟩,
  ⟨(some (ixOf 13)), (.p (.bin (.map 3 4) .eql (.t (ixOf 12)) (.c .nilm))), none⟩]
abbrev c_window_Window_Take_7 : XC := XC.region [⟨(some (ixOf 14)), (.p (.mov (.t (ixOf 0)))), none⟩,
  ⟨(some (ixOf 15)), (.a .makeMap), none⟩,
  ⟨(some (ixOf 16)), (.p (.nilCheck (.t (ixOf 14)))), none⟩,
  ⟨(some (ixOf 17)), (.p (.addr 1 (.t (ixOf 16)))), none⟩,
  ⟨none, (.e (.store 1 (.t (ixOf 17)) (.t (ixOf 15)))), none⟩]
abbrev c_window_Window_Take_8 : XC := XC.cond (.t (ixOf 13)) c_window_Window_Take_7 .skip
abbrev c_window_Window_Take_9 : XC := XC.seq c_window_Window_Take_6 c_window_Window_Take_8
abbrev c_window_Window_Take_10 : XC := XC.region [⟨(some (ixOf 18)), (.p (.mov (.t (ixOf 0)))), none⟩,
  ⟨(some (ixOf 19)), (.p (.nilCheck (.t (ixOf 18)))), none⟩,
  ⟨(some (ixOf 20)), (.p (.addr 1 (.t (ixOf 19)))), none⟩,
  ⟨(some (ixOf 21)), (.r (.load .one (.t (ixOf 20)))), none⟩,
  ⟨(some (ixOf 22)), (.p (.mov (.t (ixOf 1)))), none⟩,
  ⟨none, (.e (.mapUpdate false (.t (ixOf 21)) (.t (ixOf 22)) (.c (.bool true)))), none⟩]
abbrev c_window_Window_Take_11 : XC := XC.drawn [⟨4, ⟨(some (ixOf 27)), (.p (.mov (.t (ixOf 0)))), none⟩, 0, 0, []⟩,
  ⟨5, ⟨(some (ixOf 28)), (.e (.call 49 [(.t (ixOf 27))])), none⟩, 0, 1, []⟩,
  ⟨0, ⟨(some (ixOf 23)), (.p (.mov (.t (ixOf 0)))), none⟩, 0, 1, []⟩,
  ⟨1, ⟨(some (ixOf 24)), (.p (.nilCheck (.t (ixOf 23)))), none⟩, 0, 1, []⟩,
  ⟨2, ⟨(some (ixOf 25)), (.p (.addr 1 (.t (ixOf 24)))), none⟩, 0, 1, []⟩,
  ⟨3, ⟨(some (ixOf 26)), (.r (.load .one (.t (ixOf 25)))), none⟩, 0, 1, []⟩,
  ⟨6, ⟨(some (ixOf 29)), (.r (.lookup false (.bool false) (.t (ixOf 26)) (.t (ixOf 28)) false)), none⟩, 1, 1, []⟩]
abbrev c_window_Window_Take_12 : XC := XC.cond (.t (ixOf 29)) .skip (.exit 0)
abbrev c_window_Window_Take_13 : XC := XC.seq c_window_Window_Take_11 c_window_Window_Take_12
abbrev c_window_Window_Take_14 : XC := XC.drawn [⟨4, ⟨(some (ixOf 34)), (.p (.mov (.t (ixOf 0)))), none⟩, 0, 0, []⟩,
  ⟨5, ⟨(some (ixOf 35)), (.e (.call 49 [(.t (ixOf 34))])), none⟩, 0, 1, []⟩,
  ⟨0, ⟨(some (ixOf 30)), (.p (.mov (.t (ixOf 0)))), none⟩, 0, 1, []⟩,
  ⟨1, ⟨(some (ixOf 31)), (.p (.nilCheck (.t (ixOf 30)))), none⟩, 0, 1, []⟩,
  ⟨2, ⟨(some (ixOf 32)), (.p (.addr 1 (.t (ixOf 31)))), none⟩, 0, 1, []⟩,
  ⟨3, ⟨(some (ixOf 33)), (.r (.load .one (.t (ixOf 32)))), none⟩, 0, 1, []⟩,
  ⟨6, ⟨none, (.e (.delete false (.t (ixOf 33)) (.t (ixOf 35)))), none⟩, 1, 2, []⟩]
abbrev c_window_Window_Take_15 : XC := XC.region [⟨(some (ixOf 36)), (.p (.mov (.t (ixOf 0)))), none⟩,
  ⟨(some (ixOf 37)), (.p (.nilCheck (.t (ixOf 36)))), none⟩,
  ⟨(some (ixOf 38)), (.p (.addr 0 (.t (ixOf 37)))), none⟩,
  ⟨(some (ixOf 39)), (.e (.call 21 [(.t (ixOf 38)), (.c (.int .i64 (.ofNat 1)))])), none⟩]
abbrev c_window_Window_Take_16 : XC := XC.seq c_window_Window_Take_14 c_window_Window_Take_15
abbrev c_window_Window_Take_17 : XC := XC.block 1 c_window_Window_Take_16
abbrev c_window_Window_Take_18 : XC := XC.seq c_window_Window_Take_13 c_window_Window_Take_17
abbrev c_window_Window_Take_19 : XC := XC.loop c_window_Window_Take_18
abbrev c_window_Window_Take_20 : XC := XC.block 0 c_window_Window_Take_19
abbrev c_window_Window_Take_21 : XC := XC.region [⟨(some (ixOf 4)), (.p (.mov (.c (.bool true)))), none⟩]
abbrev c_window_Window_Take_22 : XC := XC.seq c_window_Window_Take_21 .ret
abbrev c_window_Window_Take_23 : XC := XC.seq c_window_Window_Take_20 c_window_Window_Take_22
abbrev c_window_Window_Take_24 : XC := XC.seq c_window_Window_Take_10 c_window_Window_Take_23
abbrev c_window_Window_Take_25 : XC := XC.seq c_window_Window_Take_9 c_window_Window_Take_24
abbrev c_window_Window_Take_26 : XC := XC.seq c_window_Window_Take_5 c_window_Window_Take_25
abbrev c_window_Window_Take_27 : XC := XC.seq c_window_Window_Take_0 c_window_Window_Take_26
abbrev x_window_Window_Take : XFn := ⟨[.tmp (ixOf 4)], c_window_Window_Take_27⟩
theorem mk_window_Window_Take : mkFn tyT.get Tryz.f25 = some x_window_Window_Take := by kernel_rfl
theorem fn_window_Window_Take : E0.fn n_window_Window_Take = some (.fn x_window_Window_Take) := fn_of (by kernel_rfl) mk_window_Window_Take
-- escutcheon/record.NewIn
abbrev n_record_NewIn : Nat := 8
abbrev c_record_NewIn_0 : XC := XC.region [⟨(some (ixOf 2)), (.p (.mov (.c .nilp))), none⟩]
abbrev c_record_NewIn_1 : XC := XC.region [⟨(some (ixOf 3)), (.p (.mov (.t (ixOf 0)))), none⟩,
  ⟨(some (ixOf 4)), (.r (.len .str (.t (ixOf 3)))), none⟩,
  ⟨(some (ixOf 5)), (.p (.bin (.int .i64) .neq (.t (ixOf 4)) (.c (.int .i64 (.ofNat 32))))), none⟩]
abbrev c_record_NewIn_2 : XC := XC.region [⟨(some (ixOf 2)), (.p (.mov (.c .nilp))), none⟩]
abbrev c_record_NewIn_3 : XC := XC.seq c_record_NewIn_2 .ret
abbrev c_record_NewIn_4 : XC := XC.cond (.t (ixOf 5)) c_record_NewIn_3 .skip
abbrev c_record_NewIn_5 : XC := XC.seq c_record_NewIn_1 c_record_NewIn_4
abbrev c_record_NewIn_6 : XC := XC.region [⟨(some (ixOf 6)), (.p (.mov (.t (ixOf 0)))), none⟩,
  ⟨(some (ixOf 7)), (.a .makeMap), none⟩,
  ⟨(some (ixOf 8)), (.p (.build [(.str []), .nilm] [(0, 1, (.t (ixOf 6))), (1, 1, (.t (ixOf 7)))])), none⟩,
  ⟨(some (ixOf 9)), (.a (.box (.t (ixOf 8)))), none⟩,
  ⟨(some (ixOf 10)), (.p (.build [(.int .i64 (.ofNat 0)), .nilm] [])), none⟩,
  ⟨(some (ixOf 11)), (.a (.box (.t (ixOf 10)))), none⟩,
  ⟨(some (ixOf 12)), (.a .makeMap), none⟩,
  ⟨(some (ixOf 13)), (.p (.build [.nilp, .nilp, (.int .i64 (.ofNat 0)), .nilm] [(0, 1, (.t (ixOf 9))), (1, 1, (.t (ixOf 11))), (3, 1, (.t (ixOf 12)))])), none⟩,
  ⟨(some (ixOf 14)), (.a (.box (.t (ixOf 13)))), none⟩,
  ⟨(some (ixOf 2)), (.p (.mov (.t (ixOf 14)))), none⟩]
abbrev c_record_NewIn_7 : XC := XC.seq c_record_NewIn_6 .ret
abbrev c_record_NewIn_8 : XC := XC.seq c_record_NewIn_5 c_record_NewIn_7
abbrev c_record_NewIn_9 : XC := XC.seq c_record_NewIn_0 c_record_NewIn_8
abbrev x_record_NewIn : XFn := ⟨[.tmp (ixOf 2)], c_record_NewIn_9⟩
theorem mk_record_NewIn : mkFn tyT.get Tryz.f8 = some x_record_NewIn := by kernel_rfl
theorem fn_record_NewIn : E0.fn n_record_NewIn = some (.fn x_record_NewIn) := fn_of (by kernel_rfl) mk_record_NewIn
-- (*escutcheon/record.In).Next
abbrev n_record_In_Next : Nat := 26
abbrev c_record_In_Next_0 : XC := XC.region [⟨(some (ixOf 2)), (.p (.mov (.c (.int .i64 (.ofNat 0))))), none⟩]
abbrev c_record_In_Next_1 : XC := XC.region [⟨(some (ixOf 3)), (.p (.mov (.t (ixOf 0)))), none⟩,
  ⟨(some (ixOf 4)), (.p (.bin (.ptr 73) .eql (.t (ixOf 3)) (.c .nilp))), none⟩]
abbrev c_record_In_Next_2 : XC := XC.region [⟨(some (ixOf 2)), (.p (.mov (.c (.int .i64 (.ofNat 0))))), none⟩]
abbrev c_record_In_Next_3 : XC := XC.seq c_record_In_Next_2 .ret
abbrev c_record_In_Next_4 : XC := XC.cond (.t (ixOf 4)) c_record_In_Next_3 .skip
abbrev c_record_In_Next_5 : XC := XC.seq c_record_In_Next_1 c_record_In_Next_4
abbrev c_record_In_Next_6 : XC := XC.region [⟨(some (ixOf 5)), (.p (.mov (.t (ixOf 0)))), none⟩,
  ⟨(some (ixOf 6)), (.p (.nilCheck (.t (ixOf 5)))), none⟩,
  ⟨(some (ixOf 7)), (.p (.addr 2 (.t (ixOf 6)))), none⟩,
  ⟨(some (ixOf 8)), (.e (.call 29 [(.t (ixOf 7))])), none⟩,
  ⟨(some (ixOf 2)), (.p (.mov (.t (ixOf 8)))), none⟩]
abbrev c_record_In_Next_7 : XC := XC.seq c_record_In_Next_6 .ret
abbrev c_record_In_Next_8 : XC := XC.seq c_record_In_Next_5 c_record_In_Next_7
abbrev c_record_In_Next_9 : XC := XC.seq c_record_In_Next_0 c_record_In_Next_8
abbrev x_record_In_Next : XFn := ⟨[.tmp (ixOf 2)], c_record_In_Next_9⟩
theorem mk_record_In_Next : mkFn tyT.get Tryz.f26 = some x_record_In_Next := by kernel_rfl
theorem fn_record_In_Next : E0.fn n_record_In_Next = some (.fn x_record_In_Next) := fn_of (by kernel_rfl) mk_record_In_Next
-- (*escutcheon/record.In).opened
abbrev n_record_In_opened : Nat := 24
abbrev c_record_In_opened_0 : XC := XC.region [⟨(some (ixOf 6)), (.p (.mov (.c (.str [])))), none⟩,
  ⟨(some (ixOf 7)), (.p (.mov (.c (.bool false)))), none⟩]
abbrev c_record_In_opened_1 : XC := XC.drawn [⟨0, ⟨(some (ixOf 11)), (.p (.mov (.t (ixOf 0)))), none⟩, 0, 0, []⟩,
  ⟨1, ⟨(some (ixOf 12)), (.p (.nilCheck (.t (ixOf 11)))), none⟩, 0, 0, []⟩,
  ⟨2, ⟨(some (ixOf 13)), (.p (.addr 0 (.t (ixOf 12)))), none⟩, 0, 0, []⟩,
  ⟨3, ⟨(some (ixOf 14)), (.r (.load .one (.t (ixOf 13)))), none⟩, 0, 0, []⟩,
  ⟨4, ⟨(some (ixOf 15)), (.p (.mov (.t (ixOf 1)))), none⟩, 0, 0, []⟩,
  ⟨5, ⟨(some (ixOf 16)), (.e (.call 19 [(.t (ixOf 14)), (.t (ixOf 15))])), none⟩, 0, 1, []⟩,
  ⟨6, ⟨(some (ixOf 17)), (.p (.mov (.t (ixOf 1)))), none⟩, 0, 1, []⟩,
  ⟨7, ⟨(some (ixOf 18)), (.e (.call 20 [(.t (ixOf 17))])), none⟩, 1, 2, []⟩,
  ⟨8, ⟨(some (ixOf 19)), (.p (.mov (.t (ixOf 2)))), none⟩, 0, 2, []⟩,
  ⟨9, ⟨(some (ixOf 20)), (.p (.sliceS (.t (ixOf 19)) (some (.c (.int .i64 (.ofNat 8)))) none)), none⟩, 0, 2, []⟩,
  ⟨10, ⟨(some (ixOf 21)), (.p (.mov (.t (ixOf 2)))), none⟩, 0, 2, []⟩,
  ⟨11, ⟨(some (ixOf 22)), (.p (.sliceS (.t (ixOf 21)) none (some (.c (.int .i64 (.ofNat 8)))))), none⟩, 0, 2, []⟩,
  ⟨12, ⟨(some (ixOf 23)), (.e (.call 50 [(.t (ixOf 16)), (.t (ixOf 18)), (.t (ixOf 20)), (.t (ixOf 22))])), none⟩, 2, 3, []⟩,
  ⟨13, ⟨(some (ixOf 10)), (.p (.mov (.t (ixOf 23)))), none⟩, 3, 3, []⟩,
  ⟨14, ⟨(some (ixOf 24)), (.p (.extract (.t (ixOf 10)) 0)), none⟩, 3, 3, []⟩,
  ⟨15, ⟨(some (ixOf 25)), (.p (.extract (.t (ixOf 10)) 1)), none⟩, 3, 3, []⟩,
  ⟨16, ⟨(some (ixOf 8)), (.p (.mov (.t (ixOf 24)))), none⟩, 3, 3, []⟩,
  ⟨17, ⟨(some (ixOf 9)), (.p (.mov (.t (ixOf 25)))), none⟩, 3, 3, []⟩]
abbrev c_record_In_opened_2 : XC := XC.region [⟨(some (ixOf 26)), (.p (.mov (.t (ixOf 9)))), none⟩,
  ⟨(some (ixOf 27)), (.p (.un .not (.t (ixOf 26)))), none⟩]
abbrev c_record_In_opened_3 : XC := XC.region [⟨(some (ixOf 6)), (.p (.mov (.c (.str [])))), none⟩,
  ⟨(some (ixOf 7)), (.p (.mov (.c (.bool false)))), none⟩]
abbrev c_record_In_opened_4 : XC := XC.seq c_record_In_opened_3 .ret
abbrev c_record_In_opened_5 : XC := XC.cond (.t (ixOf 27)) c_record_In_opened_4 .skip
abbrev c_record_In_opened_6 : XC := XC.seq c_record_In_opened_2 c_record_In_opened_5
abbrev c_record_In_opened_7 : XC := XC.region [⟨(some (ixOf 28)), (.p (.mov (.t (ixOf 8)))), none⟩,
  ⟨(some (ixOf 29)), (.e (.call 51 [(.t (ixOf 28))])), none⟩,
  ⟨(some (ixOf 30)), (.p (.extract (.t (ixOf 29)) 0)), none⟩,
  ⟨(some (ixOf 31)), (.p (.extract (.t (ixOf 29)) 1)), none⟩,
  ⟨(some (ixOf 6)), (.p (.mov (.t (ixOf 30)))), none⟩,
  ⟨(some (ixOf 7)), (.p (.mov (.t (ixOf 31)))), none⟩]
abbrev c_record_In_opened_8 : XC := XC.seq c_record_In_opened_7 .ret
abbrev c_record_In_opened_9 : XC := XC.seq c_record_In_opened_6 c_record_In_opened_8
abbrev c_record_In_opened_10 : XC := XC.seq c_record_In_opened_1 c_record_In_opened_9
abbrev c_record_In_opened_11 : XC := XC.seq c_record_In_opened_0 c_record_In_opened_10
abbrev x_record_In_opened : XFn := ⟨[.tmp (ixOf 6), .tmp (ixOf 7)], c_record_In_opened_11⟩
theorem mk_record_In_opened : mkFn tyT.get Tryz.f24 = some x_record_In_opened := by kernel_rfl
theorem fn_record_In_opened : E0.fn n_record_In_opened = some (.fn x_record_In_opened) := fn_of (by kernel_rfl) mk_record_In_opened
-- (*escutcheon/record.In).Open
abbrev n_record_In_Open : Nat := 10
abbrev c_record_In_Open_0 : XC := XC.region [⟨(some (ixOf 4)), (.p (.mov (.c .nils))), none⟩,
  ⟨(some (ixOf 5)), (.p (.mov (.c (.int .i64 (.ofNat 0))))), none⟩]
abbrev c_record_In_Open_1 : XC := XC.region [⟨(some (ixOf 12)), (.p (.mov (.t (ixOf 0)))), none⟩,
  ⟨(some (ixOf 13)), (.p (.bin (.ptr 73) .eql (.t (ixOf 12)) (.c .nilp))), none⟩,
  ⟨(some (ixOf 14)), (.p (.mov (.t (ixOf 13)))), none⟩,
  ⟨(some (ixOf 15)), (.p (.mov (.t (ixOf 0)))), (some ((ixOf 14), false))⟩,
  ⟨(some (ixOf 16)), (.p (.nilCheck (.t (ixOf 15)))), (some ((ixOf 14), false))⟩,
  ⟨(some (ixOf 17)), (.p (.addr 0 (.t (ixOf 16)))), (some ((ixOf 14), false))⟩,
  ⟨(some (ixOf 18)), (.r (.load .one (.t (ixOf 17)))), (some ((ixOf 14), false))⟩,
  ⟨(some (ixOf 19)), (.p (.bin (.ptr 59) .eql (.t (ixOf 18)) (.c .nilp))), (some ((ixOf 14), false))⟩,
  ⟨(some (ixOf 20)), (.p (.pick (.t (ixOf 14)) (.c (.bool true)) (.t (ixOf 19)))), none⟩]
abbrev c_record_In_Open_2 : XC := XC.region [⟨(some (ixOf 4)), (.p (.mov (.c .nils))), none⟩,
  ⟨(some (ixOf 5)), (.p (.mov (.c (.int .i64 (.ofNat 7))))), none⟩]
abbrev c_record_In_Open_3 : XC := XC.seq c_record_In_Open_2 .ret
abbrev c_record_In_Open_4 : XC := XC.cond (.t (ixOf 20)) c_record_In_Open_3 .skip
abbrev c_record_In_Open_5 : XC := XC.seq c_record_In_Open_1 c_record_In_Open_4
abbrev c_record_In_Open_6 : XC := XC.region [⟨(some (ixOf 21)), (.p (.mov (.t (ixOf 1)))), none⟩,
  ⟨(some (ixOf 22)), (.r (.len .str (.t (ixOf 21)))), none⟩,
  ⟨(some (ixOf 23)), (.p (.bin (.int .i64) .lss (.t (ixOf 22)) (.c (.int .i64 (.ofNat 24))))), none⟩,
  ⟨(some (ixOf 24)), (.p (.mov (.t (ixOf 23)))), none⟩,
  ⟨(some (ixOf 25)), (.p (.mov (.t (ixOf 1)))), (some ((ixOf 24), false))⟩,
  ⟨(some (ixOf 26)), (.p (.sliceS (.t (ixOf 25)) none (some (.c (.int .i64 (.ofNat 8)))))), (some ((ixOf 24), false))⟩,
  ⟨(some (ixOf 27)), (.e (.call 22 [(.t (ixOf 26))])), (some ((ixOf 24), false))⟩,
  ⟨(some (ixOf 28)), (.p (.bin (.int .u64) .geq (.t (ixOf 27)) (.c (.int .u64 (.ofNat 400))))), (some ((ixOf 24), false))⟩,
  ⟨(some (ixOf 29)), (.p (.pick (.t (ixOf 24)) (.c (.bool true)) (.t (ixOf 28)))), none⟩]
abbrev c_record_In_Open_7 : XC := XC.region [⟨(some (ixOf 4)), (.p (.mov (.c .nils))), none⟩,
  ⟨(some (ixOf 5)), (.p (.mov (.c (.int .i64 (.ofNat 2))))), none⟩]
abbrev c_record_In_Open_8 : XC := XC.seq c_record_In_Open_7 .ret
abbrev c_record_In_Open_9 : XC := XC.cond (.t (ixOf 29)) c_record_In_Open_8 .skip
abbrev c_record_In_Open_10 : XC := XC.seq c_record_In_Open_6 c_record_In_Open_9
abbrev c_record_In_Open_11 : XC := XC.region [⟨(some (ixOf 30)), (.p (.mov (.t (ixOf 1)))), none⟩,
  ⟨(some (ixOf 31)), (.p (.sliceS (.t (ixOf 30)) none (some (.c (.int .i64 (.ofNat 8)))))), none⟩,
  ⟨(some (ixOf 32)), (.e (.call 22 [(.t (ixOf 31))])), none⟩,
  ⟨(some (ixOf 33)), (.p (.convI .i64 (.t (ixOf 32)))), none⟩,
  ⟨(some (ixOf 6)), (.p (.mov (.t (ixOf 33)))), none⟩]
abbrev c_record_In_Open_12 : XC := XC.region [⟨(some (ixOf 34)), (.p (.mov (.t (ixOf 0)))), none⟩,
  ⟨(some (ixOf 35)), (.p (.nilCheck (.t (ixOf 34)))), none⟩,
  ⟨(some (ixOf 36)), (.p (.addr 1 (.t (ixOf 35)))), none⟩,
  ⟨(some (ixOf 37)), (.r (.load .one (.t (ixOf 36)))), none⟩,
  ⟨(some (ixOf 38)), (.p (.mov (.t (ixOf 6)))), none⟩,
  ⟨(some (ixOf 39)), (.e (.call 23 [(.t (ixOf 37)), (.t (ixOf 38))])), none⟩,
  ⟨(some (ixOf 40)), (.p (.un .not (.t (ixOf 39)))), none⟩]
abbrev c_record_In_Open_13 : XC := XC.region [⟨(some (ixOf 4)), (.p (.mov (.c .nils))), none⟩,
  ⟨(some (ixOf 5)), (.p (.mov (.c (.int .i64 (.ofNat 4))))), none⟩]
abbrev c_record_In_Open_14 : XC := XC.seq c_record_In_Open_13 .ret
abbrev c_record_In_Open_15 : XC := XC.cond (.t (ixOf 40)) c_record_In_Open_14 .skip
abbrev c_record_In_Open_16 : XC := XC.seq c_record_In_Open_12 c_record_In_Open_15
abbrev c_record_In_Open_17 : XC := XC.region [⟨(some (ixOf 42)), (.p (.mov (.t (ixOf 0)))), none⟩,
  ⟨(some (ixOf 43)), (.p (.mov (.t (ixOf 6)))), none⟩,
  ⟨(some (ixOf 44)), (.p (.mov (.t (ixOf 1)))), none⟩,
  ⟨(some (ixOf 45)), (.e (.call 24 [(.t (ixOf 42)), (.t (ixOf 43)), (.t (ixOf 44))])), none⟩,
  ⟨(some (ixOf 41)), (.p (.mov (.t (ixOf 45)))), none⟩,
  ⟨(some (ixOf 46)), (.p (.extract (.t (ixOf 41)) 0)), none⟩,
  ⟨(some (ixOf 47)), (.p (.extract (.t (ixOf 41)) 1)), none⟩,
  ⟨(some (ixOf 7)), (.p (.mov (.t (ixOf 46)))), none⟩,
  ⟨(some (ixOf 8)), (.p (.mov (.t (ixOf 47)))), none⟩]
abbrev c_record_In_Open_18 : XC := XC.region [⟨(some (ixOf 48)), (.p (.mov (.t (ixOf 8)))), none⟩,
  ⟨(some (ixOf 49)), (.p (.un .not (.t (ixOf 48)))), none⟩]
abbrev c_record_In_Open_19 : XC := XC.region [⟨(some (ixOf 4)), (.p (.mov (.c .nils))), none⟩,
  ⟨(some (ixOf 5)), (.p (.mov (.c (.int .i64 (.ofNat 3))))), none⟩]
abbrev c_record_In_Open_20 : XC := XC.seq c_record_In_Open_19 .ret
abbrev c_record_In_Open_21 : XC := XC.cond (.t (ixOf 49)) c_record_In_Open_20 .skip
abbrev c_record_In_Open_22 : XC := XC.seq c_record_In_Open_18 c_record_In_Open_21
abbrev c_record_In_Open_23 : XC := XC.region [⟨(some (ixOf 50)), (.p (.mov (.t (ixOf 0)))), none⟩,
  ⟨(some (ixOf 51)), (.p (.nilCheck (.t (ixOf 50)))), none⟩,
  ⟨(some (ixOf 52)), (.p (.addr 1 (.t (ixOf 51)))), none⟩,
  ⟨(some (ixOf 53)), (.r (.load .one (.t (ixOf 52)))), none⟩,
  ⟨(some (ixOf 54)), (.p (.mov (.t (ixOf 6)))), none⟩,
  ⟨(some (ixOf 55)), (.e (.call 25 [(.t (ixOf 53)), (.t (ixOf 54))])), none⟩]
abbrev c_record_In_Open_24 : XC := XC.region [⟨(some (ixOf 56)), (.p (.mov (.t (ixOf 0)))), none⟩,
  ⟨(some (ixOf 57)), (.p (.nilCheck (.t (ixOf 56)))), none⟩,
  ⟨(some (ixOf 58)), (.p (.addr 3 (.t (ixOf 57)))), none⟩,
  ⟨(some (ixOf 59)), (.r (.load .one (.t (ixOf 58)))), none⟩,
  ⟨(some (ixOf 60)), (.p (.mov (.t (ixOf 6)))), none⟩,
  ⟨(some (ixOf 61)), (.p (.mov (.t (ixOf 7)))), none⟩,
  ⟨none, (.e (.mapUpdate false (.t (ixOf 59)) (.t (ixOf 60)) (.t (ixOf 61)))), none⟩]
abbrev c_record_In_Open_25 : XC := XC.region [⟨(some (ixOf 9)), (.p (.mov (.c .nils))), none⟩]
abbrev c_record_In_Open_26 : XC := XC.drawn [⟨4, ⟨(some (ixOf 67)), (.p (.mov (.t (ixOf 0)))), none⟩, 0, 0, []⟩,
  ⟨5, ⟨(some (ixOf 68)), (.e (.call 26 [(.t (ixOf 67))])), none⟩, 0, 1, []⟩,
  ⟨0, ⟨(some (ixOf 63)), (.p (.mov (.t (ixOf 0)))), none⟩, 0, 1, []⟩,
  ⟨1, ⟨(some (ixOf 64)), (.p (.nilCheck (.t (ixOf 63)))), none⟩, 0, 1, []⟩,
  ⟨2, ⟨(some (ixOf 65)), (.p (.addr 3 (.t (ixOf 64)))), none⟩, 0, 1, []⟩,
  ⟨3, ⟨(some (ixOf 66)), (.r (.load .one (.t (ixOf 65)))), none⟩, 0, 1, []⟩,
  ⟨6, ⟨(some (ixOf 69)), (.r (.lookup false (.str []) (.t (ixOf 66)) (.t (ixOf 68)) true)), none⟩, 1, 1, []⟩,
  ⟨7, ⟨(some (ixOf 62)), (.p (.mov (.t (ixOf 69)))), none⟩, 1, 1, []⟩,
  ⟨8, ⟨(some (ixOf 70)), (.p (.extract (.t (ixOf 62)) 0)), none⟩, 1, 1, []⟩,
  ⟨9, ⟨(some (ixOf 71)), (.p (.extract (.t (ixOf 62)) 1)), none⟩, 1, 1, []⟩,
  ⟨10, ⟨(some (ixOf 10)), (.p (.mov (.t (ixOf 70)))), none⟩, 1, 1, []⟩,
  ⟨11, ⟨(some (ixOf 11)), (.p (.mov (.t (ixOf 71)))), none⟩, 1, 1, []⟩]
abbrev c_record_In_Open_27 : XC := XC.region [⟨(some (ixOf 72)), (.p (.mov (.t (ixOf 11)))), none⟩,
  ⟨(some (ixOf 73)), (.p (.un .not (.t (ixOf 72)))), none⟩]
abbrev c_record_In_Open_28 : XC := XC.region [⟨(some (ixOf 74)), (.p (.mov (.t (ixOf 9)))), none⟩,
  ⟨(some (ixOf 4)), (.p (.mov (.t (ixOf 74)))), none⟩,
  ⟨(some (ixOf 5)), (.p (.mov (.c (.int .i64 (.ofNat 0))))), none⟩]
abbrev c_record_In_Open_29 : XC := XC.seq c_record_In_Open_28 .ret
abbrev c_record_In_Open_30 : XC := XC.cond (.t (ixOf 73)) c_record_In_Open_29 .skip
abbrev c_record_In_Open_31 : XC := XC.seq c_record_In_Open_27 c_record_In_Open_30
abbrev c_record_In_Open_32 : XC := XC.drawn [⟨4, ⟨(some (ixOf 79)), (.p (.mov (.t (ixOf 0)))), none⟩, 0, 0, []⟩,
  ⟨5, ⟨(some (ixOf 80)), (.e (.call 26 [(.t (ixOf 79))])), none⟩, 0, 1, []⟩,
  ⟨0, ⟨(some (ixOf 75)), (.p (.mov (.t (ixOf 0)))), none⟩, 0, 1, []⟩,
  ⟨1, ⟨(some (ixOf 76)), (.p (.nilCheck (.t (ixOf 75)))), none⟩, 0, 1, []⟩,
  ⟨2, ⟨(some (ixOf 77)), (.p (.addr 3 (.t (ixOf 76)))), none⟩, 0, 1, []⟩,
  ⟨3, ⟨(some (ixOf 78)), (.r (.load .one (.t (ixOf 77)))), none⟩, 0, 1, []⟩,
  ⟨6, ⟨none, (.e (.delete false (.t (ixOf 78)) (.t (ixOf 80)))), none⟩, 1, 2, []⟩]
abbrev c_record_In_Open_33 : XC := XC.region [⟨(some (ixOf 81)), (.p (.mov (.t (ixOf 0)))), none⟩,
  ⟨(some (ixOf 82)), (.p (.nilCheck (.t (ixOf 81)))), none⟩,
  ⟨(some (ixOf 83)), (.p (.addr 2 (.t (ixOf 82)))), none⟩,
  ⟨(some (ixOf 84)), (.e (.call 21 [(.t (ixOf 83)), (.c (.int .i64 (.ofNat 1)))])), none⟩]
abbrev c_record_In_Open_34 : XC := XC.region [⟨(some (ixOf 85)), (.p (.mov (.t (ixOf 9)))), none⟩,
  ⟨(some (ixOf 86)), (.p (.mov (.t (ixOf 10)))), none⟩,
  ⟨(some (ixOf 87)), (.a (.buildSlice 1 [(.str [])] [(0, 1, (.t (ixOf 86)))] 1)), none⟩,
  ⟨(some (ixOf 88)), (.e (.append 1 16 9 (.t (ixOf 85)) (.t (ixOf 87)))), none⟩,
  ⟨(some (ixOf 9)), (.p (.mov (.t (ixOf 88)))), none⟩]
abbrev c_record_In_Open_35 : XC := XC.seq c_record_In_Open_33 c_record_In_Open_34
abbrev c_record_In_Open_36 : XC := XC.seq c_record_In_Open_32 c_record_In_Open_35
abbrev c_record_In_Open_37 : XC := XC.seq c_record_In_Open_31 c_record_In_Open_36
abbrev c_record_In_Open_38 : XC := XC.seq c_record_In_Open_26 c_record_In_Open_37
abbrev c_record_In_Open_39 : XC := XC.block 1 c_record_In_Open_38
abbrev c_record_In_Open_40 : XC := XC.loop c_record_In_Open_39
abbrev c_record_In_Open_41 : XC := XC.block 0 c_record_In_Open_40
abbrev c_record_In_Open_42 : XC := XC.seq c_record_In_Open_25 c_record_In_Open_41
abbrev c_record_In_Open_43 : XC := XC.seq c_record_In_Open_24 c_record_In_Open_42
abbrev c_record_In_Open_44 : XC := XC.seq c_record_In_Open_23 c_record_In_Open_43
abbrev c_record_In_Open_45 : XC := XC.seq c_record_In_Open_22 c_record_In_Open_44
abbrev c_record_In_Open_46 : XC := XC.seq c_record_In_Open_17 c_record_In_Open_45
abbrev c_record_In_Open_47 : XC := XC.seq c_record_In_Open_16 c_record_In_Open_46
abbrev c_record_In_Open_48 : XC := XC.seq c_record_In_Open_11 c_record_In_Open_47
abbrev c_record_In_Open_49 : XC := XC.seq c_record_In_Open_10 c_record_In_Open_48
abbrev c_record_In_Open_50 : XC := XC.seq c_record_In_Open_5 c_record_In_Open_49
abbrev c_record_In_Open_51 : XC := XC.seq c_record_In_Open_0 c_record_In_Open_50
abbrev x_record_In_Open : XFn := ⟨[.tmp (ixOf 4), .tmp (ixOf 5)], c_record_In_Open_51⟩
theorem mk_record_In_Open : mkFn tyT.get Tryz.f10 = some x_record_In_Open := by kernel_rfl
theorem fn_record_In_Open : E0.fn n_record_In_Open = some (.fn x_record_In_Open) := fn_of (by kernel_rfl) mk_record_In_Open
-- (*sync/atomic.Int32).Load
abbrev n_sync_atomic_Int32_Load : Nat := 97
abbrev c_sync_atomic_Int32_Load_0 : XC := XC.region [⟨(some (ixOf 2)), (.p (.mov (.c (.int .i32 (.ofNat 0))))), none⟩]
abbrev c_sync_atomic_Int32_Load_1 : XC := XC.region [⟨(some (ixOf 3)), (.p (.mov (.t (ixOf 0)))), none⟩,
  ⟨(some (ixOf 4)), (.p (.nilCheck (.t (ixOf 3)))), none⟩,
  ⟨(some (ixOf 5)), (.p (.addr 0 (.t (ixOf 4)))), none⟩,
  ⟨(some (ixOf 6)), (.e (.call 152 [(.t (ixOf 5))])), none⟩,
  ⟨(some (ixOf 2)), (.p (.mov (.t (ixOf 6)))), none⟩]
abbrev c_sync_atomic_Int32_Load_2 : XC := XC.seq c_sync_atomic_Int32_Load_1 .ret
abbrev c_sync_atomic_Int32_Load_3 : XC := XC.seq c_sync_atomic_Int32_Load_0 c_sync_atomic_Int32_Load_2
abbrev x_sync_atomic_Int32_Load : XFn := ⟨[.tmp (ixOf 2)], c_sync_atomic_Int32_Load_3⟩
theorem mk_sync_atomic_Int32_Load : mkFn tyT.get Tryz.f97 = some x_sync_atomic_Int32_Load := by kernel_rfl
theorem fn_sync_atomic_Int32_Load : E0.fn n_sync_atomic_Int32_Load = some (.fn x_sync_atomic_Int32_Load) := fn_of (by kernel_rfl) mk_sync_atomic_Int32_Load
end Go.Proofs.XCode
end
section
namespace Go.Proofs.XCode
open Go.X
set_option linter.unusedSimpArgs false
set_option linter.unusedVariables false
set_option maxRecDepth 10000
theorem xorL_self : ∀ a : List Nat, xorL a a = List.replicate a.length 0
  | [] => rfl
  | x :: a => by
    have := xorL_self a
    unfold xorL at this ⊢
    rw [List.zipWith_cons_cons, this, Nat.xor_self]
    rfl
theorem rep_get (n i : Nat) : (List.replicate n 0).getD i 0 = 0 := by
  rw [List.getD_eq_getElem?_getD, List.getElem?_replicate]
  split <;> rfl
theorem Same_call (a : List Nat) (ha : ∀ i, a.getD i 0 < 256) (hl : a.length ≤ 64) (h : XH) : CallEv E0 n_mac_Same [.str a, .str a] h (fun r k => r = .bool true ∧ HExt h k) := by
  refine call_fn fn_mac_Same ?_
  simp only [args0_cons, args0_nil]
  repeat with_reducible first | refine nx ?_ | (refine nw ?_; simp (disch := first | omega | decide) only [bG]; refine rg ?_)
  refine callGo_ex (xor_call a a ha ha (by omega) _) ?_
  rintro _ k1 ⟨rfl, x1⟩
  rw [xorL_self]
  have hz : (List.replicate a.length 0 : List Nat).length = a.length := List.length_replicate
  have g0 := (x1.get h.next (by simp only [XH.next_new]; omega)).trans (get_new_same _ _)
  have n1 : h.next + 1 ≤ k1.next := x1.le
  repeat with_reducible first | refine nx ?_ | (refine nw ?_; simp (disch := first | omega | decide) only [bG, hz]; refine rg ?_)
  have hg : (k1.new (.cells (u8s (List.replicate a.length 0)) false none)).get k1.next = some (.cells (u8s (List.replicate a.length 0)) false none) := get_new_same _ _
  refine go_loop_ind hE0 (fun m fr k => ∃ i, m = a.length - i ∧ i ≤ a.length ∧ k = k1.new (.cells (u8s (List.replicate a.length 0)) false none) ∧
      ev fr (.t (ixOf 11)) = .slice k1.next 0 a.length a.length 1 false ∧ ev fr (.t (ixOf 12)) = .int .i64 (.ofNat a.length) ∧ ev fr (.t (ixOf 13)) = .int .i64 (.ofNat i) ∧ ev fr (.t (ixOf 5)) = .ptr h.next 0 ∧ ev fr (.t (ixOf 0)) = .str a ∧ ev fr (.t (ixOf 1)) = .str a) ?_ (n := a.length) ?_
  · rintro m fr k IH ⟨i, rfl, hi, rfl, f11, f12, f13, f5, f0, f1⟩
    repeat with_reducible first | refine nx ?_ | (refine nv ?_; simp (disch := first | omega | decide) only [bG, f11, f12, f13]; refine rg ?_)
    refine go_cond ?_
    simp (disch := first | omega | decide) only [bG]
    refine condGo_split (fun hc => ?_) (fun hc => ?_)
    ·  have hc := of_decide_eq_true hc
       have ld := r_load1 hg (u8s_get (s := List.replicate a.length 0) (i := i) (by omega))
       rw [rep_get] at ld
       repeat with_reducible first | refine nx ?_ | (refine nw ?_; simp (disch := first | omega | decide) only [bG, f11, f12, f13, ld, neq_self, not_true_eq_false]; refine rg ?_)
       refine ret_loop.2 (IH (a.length - (i + 1)) _ _ (by omega) ⟨i + 1, rfl, by omega, rfl, ?_, ?_, ?_, ?_, ?_, ?_⟩) <;> simp (disch := first | omega | decide) only [bG, f11, f12, f13, f5, f0, f1]
    · have hc := of_decide_eq_false hc
      repeat with_reducible first | refine nx ?_ | (refine nv ?_; simp (disch := first | omega | decide) only [bG, f5, f0, f1]; refine rg ?_)
      have g2 : (k1.new (.cells (u8s (List.replicate a.length 0)) false none)).get h.next = _ := (XH.get_new _ _ _).trans ((if_neg (by omega)).trans g0)
      refine callGo_of (Load_call h.next 0 _ _ _ g2) ?_
      have de : decide (a.length = a.length) = true := decide_eq_true rfl
      repeat with_reducible first | refine nx ?_ | (refine nv ?_; simp (disch := first | omega | decide) only [bG, f5, f0, f1, de, eq_self]; refine rg ?_)
      refine ret_nil.2 ⟨_, fin_tmp (.inr rfl), ?_, ?_⟩
      · simp (disch := first | omega | decide) only [bG]
      · exact ⟨by simp only [XH.next_new]; omega, fun x hx => by rw [XH.get_new, if_neg (by omega), x1.get x (by simp only [XH.next_new]; omega), XH.get_new, if_neg (by omega)]⟩
  · refine ⟨0, by omega, by omega, rfl, ?_, ?_, ?_, ?_, ?_, ?_⟩ <;> simp (disch := first | omega | decide) only [bG, hz]
end Go.Proofs.XCode
end
section
namespace Go.Proofs.XCode
open Go.X
set_option linter.unusedSimpArgs false
set_option linter.unusedVariables false
set_option maxRecDepth 10000
theorem load32_fn : E0.fn 152 = some (.intr 27) := intr_of (by kernel_rfl)
theorem Load32_call (b n : Nat) (ro : Bool) (tg : Option Nat) (h : XH) (hg : h.get b = some (.cells [.int .i32 (.ofNat n)] ro tg)) : CallEv E0 n_sync_atomic_Int32_Load [.ptr b 0] h (fun r k => r = .int .i32 (.ofNat n) ∧ k = h) := by
  have ii : CallEv E0 152 [.ptr b 0] h (fun r k => r = .int .i32 (.ofNat n) ∧ k = h) := by
    refine call_intr' load32_fn 0 (v := .int .i32 (.ofNat n)) (h' := h) ?_ ⟨rfl, rfl⟩
    have hE : E0.intr = intr := rfl
    have hi : ∀ c, intr c 27 [.ptr b 0] h = iLoad .i32 [.ptr b 0] h := fun c => rfl
    rw [hE, hi]
    simp only [iLoad, cellAt, hg]
    rfl
  refine call_fn fn_sync_atomic_Int32_Load ?_
  simp only [args0_cons, args0_nil]
  repeat with_reducible first | refine nx ?_ | (refine nv ?_; simp (disch := first | omega | decide) only [bG]; refine rg ?_)
  refine callGo_of ii ?_
  repeat with_reducible first | refine nx ?_ | (refine nv ?_; simp (disch := first | omega | decide) only [bG]; refine rg ?_)
  refine ret_nil.2 ⟨_, fin_tmp (.inr rfl), ?_, rfl⟩
  simp (disch := first | omega | decide) only [bG]
theorem Open_callB (key nonce plain more b : List Nat) (hb : b = sealL key nonce plain more) (hk : ∀ i, key.getD i 0 < 256) (hn : ∀ i, nonce.getD i 0 < 256) (hp : ∀ i, plain.getD i 0 < 256) (hm : ∀ i, more.getD i 0 < 256) (hkl : key.length = 32) (hnl : nonce.length = 12) (h0 : 1 ≤ plain.length) (hpl : plain.length ≤ 700) (hml : more.length ≤ 100) (h : XH) (hfr : FreshH h) :
    CallEv E0 n_box_Open [.str key, .str nonce, .str b, .str more] h (fun r k => r = .tup [.str plain, .bool true] ∧ HExt h k) := by
  have sl := streamL_len key nonce 1 plain
  have hs := streamL_lt key nonce 1 hp
  have lb : b.length = plain.length + 16 := by rw [hb, sealL_len]
  have e1 : b.take plain.length = streamL key nonce 1 plain := by rw [hb, sealL, List.take_append_of_le_length (by omega), List.take_of_length_le (by omega)]
  have e2 : b.drop plain.length = tagB key nonce (streamL key nonce 1 plain) more := by rw [hb, sealL, List.drop_append_of_le_length (by omega), List.drop_of_length_le (by omega), List.nil_append]
  have e3 : plain.length + 16 - 16 = plain.length := by omega
  have d1 : decide (plain.length < 0) = false := rfl
  have d0 : decide (0 < 0) = false := rfl
  have tl : (tagB key nonce (streamL key nonce 1 plain) more).length = 16 := tagL_len _ _
  have tlt : ∀ i, (tagB key nonce (streamL key nonce 1 plain) more).getD i 0 < 256 := tagL_lt _ _
  clear hb
  refine call_fn fn_box_Open ?_
  simp only [args0_cons, args0_nil]
  repeat with_reducible first | refine nx ?_ | (refine nw ?_; simp (disch := first | omega | decide) only [bG, lb, e3, d1, e1]; refine rg ?_)
  refine callGo_ex ((tag_callB key nonce (streamL key nonce 1 plain) more hk hn hs hm hkl hnl (by omega) hml _ (hfr.new _)).fresh hF0 (hfr.new _)) ?_
  rintro _ k1 ⟨⟨rfl, x1⟩, fr1⟩
  have g1 := (x1.get h.next (by simp only [XH.next_new]; omega)).trans (get_new_same _ _)
  repeat with_reducible first | refine nx ?_ | (refine nw ?_; simp (disch := first | omega | decide) only [bG, u_not, Bool.not_true, lb, e2]; refine rg ?_)
  refine callGo_ex (Same_call _ tlt (by omega) k1) ?_
  rintro _ k2 ⟨rfl, x2⟩
  have n1 : h.next + 1 ≤ k1.next := x1.le
  have g2 := (x2.get h.next (by omega)).trans g1
  repeat with_reducible first | refine nx ?_ | (refine nw ?_; simp (disch := first | omega | decide) only [bG, u_not, Bool.not_true]; refine rg ?_)
  refine callGo_of (Load32_call h.next 0 _ _ k2 g2) ?_
  repeat with_reducible first | refine nx ?_ | (refine nw ?_; simp (disch := first | omega | decide) only [bG, d0, lb, e1]; refine rg ?_)
  refine callGo_ex (Xor_call key nonce (streamL key nonce 1 plain) 1 hk hn hkl hnl hs (by omega) (by omega) (by decide) k2) ?_
  rintro _ k3 ⟨rfl, x3⟩
  rw [streamL_inv]
  repeat with_reducible first | refine nx ?_ | (refine nw ?_; simp (disch := first | omega | decide) only [bG]; refine rg ?_)
  refine ret_nil.2 ⟨_, fin_tmps (l := [8, 9]) (.inr rfl), ?_, ((((HExt.refl h).new _).trans x1).trans x2).trans x3⟩
  simp only [List.map]
  simp (disch := first | omega | decide) only [bG]
  rfl
end Go.Proofs.XCode
end
section
namespace Go.Proofs.XCode
open Go.X Go.RowKit Go.Proofs
set_option maxRecDepth 100000
set_option linter.unusedSimpArgs false
set_option linter.unusedVariables false
theorem s_neqs (t : XK) (a : List Nat) : xbin t .neq (.str a) (.str a) = some (.bool false) := by
  have h : leq a a = true := (leq_iff _ _).2 rfl
  show some (XV.bool (Bool.not (leq a a))) = _
  rw [h]
  rfl
theorem big_put2 (v : Nat) (h : v < 65536) : bigN (putBig v 2) 0 = v := by
  show (0 * 256 + v >>> (8 * 1) % 256) * 256 + v >>> (8 * 0) % 256 = v
  rw [Nat.shiftRight_eq_div_pow, Nat.shiftRight_eq_div_pow]
  omega
theorem big_put8 (v : Nat) (h : v < 65536) : bigN (putBig v 8) 0 = v := by
  show (((((((0 * 256 + v >>> (8 * 7) % 256) * 256 + v >>> (8 * 6) % 256) * 256 + v >>> (8 * 5) % 256) * 256 + v >>> (8 * 4) % 256) * 256 + v >>> (8 * 3) % 256) * 256 + v >>> (8 * 2) % 256) * 256 + v >>> (8 * 1) % 256) * 256 + v >>> (8 * 0) % 256 = v
  simp only [Nat.shiftRight_eq_div_pow]
  omega
theorem fnU : E3.fn n_pad_Unpad = some (.fn x_pad_Unpad) := le3.fn _ _ fn_pad_Unpad
theorem Unpad_call (o b : List Nat) (hb : b = padT o) (ho : ∀ i, o.getD i 0 < 256) (hl : o.length ≤ 510) (h : XH) (hf : FreshH h) : CallEv E3 n_pad_Unpad [.str b] h (fun r k => r = .tup [.str o, .bool true] ∧ HExt h k) := by
  have hz := sizeL_ge hl
  have lb : b.length = sizeL o.length := by rw [hb, padT_len hl]
  have l2 := putBig_len o.length 2
  have e1 : b.take 2 = putBig o.length 2 := by rw [hb, padT, List.append_assoc, List.take_append_of_le_length (by omega), List.take_of_length_le (by omega)]
  have e2 : (b.drop 2).take o.length = o := by rw [hb, padT, List.append_assoc, List.drop_append_of_le_length (by omega), List.drop_of_length_le (by omega), List.nil_append, List.take_append_of_le_length (Nat.le_refl _), List.take_of_length_le (Nat.le_refl _)]
  have e3 : 2 + o.length - 2 = o.length := by omega
  have d1 : decide (sizeL o.length < 2) = false := decide_eq_false (by omega)
  have d2 : decide (sizeL o.length - 2 < o.length) = false := decide_eq_false (by omega)
  refine call_fn fnU ?_
  simp only [args0_cons, args0_nil]
  repeat with_reducible first | refine nx ?_ | (refine nw ?_; simp (disch := first | omega | decide) only [bG, lb, d1, e1]; refine rg ?_)
  refine callGo_ex (((big (putBig o.length 2) (putBig_lt _ _) (by omega) h).le le3).fresh intr3_fr hf) ?_
  rintro _ k1 ⟨⟨rfl, x1⟩, fr1⟩
  rw [big_put2 _ (by omega)]
  repeat with_reducible first | refine nx ?_ | (refine nw ?_; simp (disch := first | omega | decide) only [bG, lb, d2, e2, e3]; refine rg ?_)
  refine callGo_ex (Pad_call o hl k1 fr1) ?_
  rintro _ k2 ⟨rfl, x2⟩
  rw [← hb]
  repeat with_reducible first | refine nx ?_ | (refine nw ?_; simp (disch := first | omega | decide) only [bG, u_not, Bool.not_true, s_neqs]; refine rg ?_)
  refine ret_nil.2 ⟨_, fin_tmps (l := [2, 3]) (.inr rfl), ?_, x1.trans x2⟩
  simp only [List.map]
  simp (disch := first | omega | decide) only [bG]
  rfl
end Go.Proofs.XCode
end
