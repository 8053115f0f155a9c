/- What this text proves serves the claim of its last text: a part of a verified executor, its walks and its runs (S43, S44, S45, S47, XE, XC1, W2, W3, W4, W5, W6, W7, W8, W9). -/
import Derived.Test.YtfaalljnklijjaaGreatDoorQ02
import Derived.Test.YtfaalljnklijjaaGreatDoorQ03
import Derived.KernelRfl
set_option linter.all false
section
namespace Go.X
set_option linter.unusedSimpArgs false
theorem splice1 (c : List XV) (o : Nat) (v : XV) (h : o < c.length) : splice c o [v] = c.set o v := by
  simp only [splice, appX_eq, takeX_eq, dropX_eq, lenX_eq, n_add]
  rw [List.set_eq_take_append_cons_drop, if_pos h]
  rfl
theorem wr1 {h : XH} {b o : Nat} {c : List XV} {tg : Option Nat} {v : XV} (hg : h.get b = some (.cells c false tg)) (hc : o < c.length) (hv : one v = true) : wr h b o [v] = some (h.set b (.cells (c.set o v) false tg)) := by
  have h3 : allOne [v] = true := by show (Bool.rec false true (one v) : Bool) = true; rw [hv]
  simp only [wr, hg, n_ble, n_add, lenX_eq, List.length_singleton, Nat.succ_le_of_lt hc, decide_true, h3, Bool.and_true, cond_true, splice1 c o v hc]
theorem e_store_one {h : XH} {b o : Nat} {c : List XV} {tg : Option Nat} {v : XV} (hg : h.get b = some (.cells c false tg)) (hc : o < c.length) (hv : one v = true) : eStore h 1 (.ptr b o) v = some (unit, h.set b (.cells (c.set o v) false tg)) := by
  have hcells : v.cells = [v] := by cases v <;> first | rfl | cases hv
  simp only [eStore, hcells, lenX_eq, List.length_singleton, n_beq, decide_true, cond_true, wr1 hg hc hv, unitR]
theorem cell_at {h : XH} {b o : Nat} {c : List XV} {ro : Bool} {tg : Option Nat} {v : XV} (hg : h.get b = some (.cells c ro tg)) (hc : c[o]? = some v) : cellAt h b o = some v := by
  simp only [cellAt, hg, nth_eq, hc]
theorem takeN_of {α : Type} : ∀ (n : Nat) (l : List α), n ≤ l.length → takeN n l = some (l.take n)
  | 0, l, _ => rfl
  | n + 1, [], h => by simp at h
  | n + 1, a :: l, h => by
    show (Option.rec none (fun m => some (a :: m)) (takeN n l) : Option (List α)) = _
    rw [takeN_of n l (by simpa using h)]
    rfl
theorem cells_b {h : XH} {b o n : Nat} {c : List XV} {ro : Bool} {tg : Option Nat} (hg : h.get b = some (.cells c ro tg)) (hn : o + n ≤ c.length) : cellsB h b o n = some ((c.drop o).take n) := by
  simp only [cellsB, hg, dropX_eq]
  exact takeN_of _ _ (by rw [List.length_drop]; omega)
theorem e_append_fit {h : XH} {b o len cap et b2 : Nat} {ex ex2 : Bool} {c : List XV} {tg : Option Nat} {v : XV} {ro2 : Bool} {tg2 : Option Nat} (bytes : Nat) (hl : len + 1 ≤ cap) (hg : h.get b = some (.cells c false tg)) (hc : o + len < c.length) (hv : one v = true) (hg2 : h.get b2 = some (.cells [v] ro2 tg2)) :
    eAppend h 1 bytes et (.slice b o len cap 1 ex) (.slice b2 0 1 1 1 ex2) = some (.slice b o (len + 1) cap 1 ex, h.set b (.cells (c.set (o + len) v) false tg)) := by
  have e1 : cellsOf h 1 1 (.slice b2 0 1 1 1 ex2) = some [v] := by
    show cellsB h b2 0 (Nat.mul 1 1) = _
    rw [cells_b hg2 (by simp [n_mul])]
    rfl
  have e2 : wr h b (o + len) [v] = some (h.set b (.cells (c.set (o + len) v) false tg)) := wr1 hg hc hv
  simp only [eAppend, lenOf, e1, appN, n_beq, decide_true, cond_true, n_ble, n_add, hl, n_mul, Nat.mul_one, e2]
theorem r_convBS {h : XH} {b o len cap : Nat} {ex : Bool} {s : List Nat} (hc : cellsB h b o len = some (u8s s)) (hs : ∀ x ∈ s, x < 256) : rConvBS h (.slice b o len cap 1 ex) = some (.str s) := by
  have : ∀ s : List Nat, (∀ x ∈ s, x < 256) → bytesOf (u8s s) = some s := by
    intro s
    induction s with
    | nil => intro _; rfl
    | cons a l ih =>
      intro h
      have ih := ih (fun x hx => h x (List.mem_cons_of_mem _ hx))
      show (Option.rec none (fun l => some (Nat.mod a 256 :: l)) (bytesOf (u8s l)) : Option (List Nat)) = _
      rw [ih]
      show some (a % 256 :: l) = _
      rw [Nat.mod_eq_of_lt (h a (List.mem_cons_self ..))]
  simp only [rConvBS, n_beq, decide_true, cond_true, hc, this s hs]
section
variable {E : Env} {h : XH}
theorem call_intr' {f : FuncId} {i : Nat} {args : List XV} {QC : XV → XH → Prop} (hf : E.fn f = some (.intr i)) {v : XV} {h' : XH} (n : Nat) (hi : E.intr (callX E (run E n)) i args h = some (v, h')) (hq : QC v h') : CallEv E f args h QC :=
  ⟨n, v, h', by unfold callE; simp only [hf]; exact hi, hq⟩
theorem call_once {f : FuncId} {b o : Nat} {g : FuncId} {cs : List XV} {x : XFn} {h1 : XH} {Q : XH → Prop} (hf : E.fn f = some (.intr 1)) (hi : ∀ call args h, E.intr call 1 args h = iOnce call args h) (c0 : cellAt h b o = some (.int .u32 (.ofNat 0))) (c1 : cellAt h b (o + 1) = some (.int .i32 (.ofNat 0)))
    (e1 : wr h b (o + 1) [.int .i32 (.ofNat 1)] = some h1) (hg : E.fn g = some (.fn x)) (hc : CallEv E g cs h1 (fun _ k => ∃ h3 h4, cellAt k b (o + 1) = some (.int .i32 (.ofNat 1)) ∧ wr k b o [.int .u32 (.ofNat 1)] = some h3 ∧ wr h3 b (o + 1) [.int .i32 (.ofNat 0)] = some h4 ∧ Q h4)) :
    CallEv E f [.ptr b o, .func g cs] h (fun r k => r = unit ∧ Q k) := by
  obtain ⟨n, r, k, hr, h3, h4, e2, e3, e4, hq⟩ := hc
  have hr' : callX E (run E n) g cs h1 = some (r, k) := by
    unfold callE at hr
    unfold callX
    simp only [hg] at hr ⊢
    exact hr
  refine call_intr' hf n (v := unit) (h' := h4) ?_ ⟨rfl, hq⟩
  rw [hi]
  simp only [iOnce, c0]
  rw [show cellAt h b (Nat.succ o) = _ from c1]
  simp only
  rw [show wr h b (Nat.succ o) [.int .i32 (.ofNat 1)] = _ from e1]
  show (Option.rec none _ (callX E (run E n) g cs h1) : R) = _
  rw [hr']
  simp only
  rw [show cellAt k b (Nat.succ o) = _ from e2]
  simp only
  rw [show wr k b o [.int .u32 (.ofNat 1)] = _ from e3]
  show (unitR (wr h3 b (Nat.succ o) [.int .i32 (.ofNat 0)]) : R) = _
  rw [show wr h3 b (Nat.succ o) [.int .i32 (.ofNat 0)] = _ from e4]
  rfl
end
theorem r_load_set {h : XH} {n b i : Nat} {o : XO} {p : XP} (hb : b ≠ n) : rLoad (h.set n o) p (.ptr b i) = rLoad h p (.ptr b i) := by
  simp only [rLoad, XH.get_set, if_neg hb]
theorem r_load_new {h : XH} {b i : Nat} {o : XO} {p : XP} (hb : b ≠ h.next) : rLoad (h.new o) p (.ptr b i) = rLoad h p (.ptr b i) := by
  simp only [rLoad, XH.get_new, if_neg hb]
theorem e_store_w {h : XH} {b o : Nat} {c : List Nat} {tg : Option Nat} {v : Nat} (hg : h.get b = some (.cells (words c) false tg)) (hc : o < c.length) : eStore h 1 (.ptr b o) (.int .u32 (.ofNat v)) = some (unit, h.set b (.cells (words (c.set o v)) false tg)) := by
  rw [e_store1 hg (by rw [words_length]; exact hc), words_set]
theorem a_build1 (z : XV) (k : IntKind) (n : Int) : aBuild 1 1 (fillx [(0, 1, .int k n)] [z]) = some (.cells [.int k n] false none, .slice 1 1 1 true) := rfl
structure HExtE (t : Nat) (h k : XH) : Prop where
  le : h.next ≤ k.next
  get : ∀ n, n < h.next → n ≠ t → k.get n = h.get n
end Go.X
end
section
namespace Go.X
set_option linter.unusedSimpArgs false
section
variable {E : Env} {K : List Kont} {fr : XF} {h : XH} {Q : Ex → XF → XH → Prop} {d : Option Ix} {l : List XOper}
noncomputable def opV (w : Bool) (fr : XF) (h : XH) (o : XOp) : R := match w with
  | false => some (unit, h)
  | true => match o with
    | .p o => Option.rec none (fun v => some (v, h)) (runP fr o)
    | .r o => Option.rec none (fun v => some (v, h)) (runR fr h o)
    | .a o => Option.rec none (fun x => some (x.2.of h.next, h.new x.1)) (runA fr o)
    | .e o => eff fr h o
    | .bad => none
noncomputable def pV (h : XH) (v : Option XV) : R := Option.rec none (fun v => some (v, h)) v
noncomputable def aV (h : XH) (v : Option (XO × NV)) : R := Option.rec none (fun x => some (x.2.of h.next, h.new x.1)) v
def wB : XV → Bool → Bool
  | .bool x, b => x == b
  | _, _ => false
theorem oV0 (fr : XF) (h : XH) (o : XOp) : opV false fr h o = some (unit, h) := rfl
theorem oVp (fr : XF) (h : XH) (o : PO) : opV true fr h (.p o) = pV h (runP fr o) := rfl
theorem oVr (fr : XF) (h : XH) (o : RO) : opV true fr h (.r o) = pV h (runR fr h o) := rfl
theorem oVa (fr : XF) (h : XH) (o : AO) : opV true fr h (.a o) = aV h (runA fr o) := rfl
theorem oVe (fr : XF) (h : XH) (o : EO) : opV true fr h (.e o) = eff fr h o := rfl
theorem pVs (h : XH) (v : XV) : pV h (some v) = some (v, h) := rfl
theorem aVs (h : XH) (o : XO) (v : NV) : aV h (some (o, v)) = some (v.of h.next, h.new o) := rfl
theorem wVn (fr : XF) : wantedX fr none = true := rfl
theorem wVs (fr : XF) (i : Ix) (b : Bool) : wantedX fr (some (i, b)) = wB (ev fr (.t i)) b := by
  show (match T.getI i fr with | some (.bool x) => x == b | _ => false) = wB (Option.rec (.tup []) (fun v => v) (T.getI i fr)) b
  cases T.getI i fr with
  | none => rfl
  | some v => cases v <;> rfl
theorem wB1 : wB (.bool true) true = true := rfl
theorem wB2 : wB (.bool false) false = true := rfl
theorem wB3 : wB (.bool true) false = false := rfl
theorem wB4 : wB (.bool false) true = false := rfl
theorem ops_op {o : XOp} {g : Option (Ix × Bool)} (hq : RGo E (opV (wantedX fr g) fr h o) d l K fr Q) : OpsGo E (⟨d, o, g⟩ :: l) K fr h Q := by
  cases hg : wantedX fr g with
  | false =>
    rw [hg] at hq
    obtain ⟨x, h1, hx, hq⟩ := hq
    have := Option.some.inj hx
    injection this with e1 e2
    subst e1; subst e2
    exact ops_off hg hq
  | true =>
    rw [hg] at hq
    cases o with
    | p o =>
      obtain ⟨x, h1, hx, hq⟩ := hq
      refine ops_p hg ?_
      cases e : runP fr o with
      | none => rw [oVp, e] at hx; cases hx
      | some v =>
        rw [oVp, e] at hx
        have := Option.some.inj hx
        injection this with e1 e2
        subst e1; subst e2
        exact ⟨v, rfl, hq⟩
    | r o =>
      obtain ⟨x, h1, hx, hq⟩ := hq
      refine ops_r hg ?_
      cases e : runR fr h o with
      | none => rw [oVr, e] at hx; cases hx
      | some v =>
        rw [oVr, e] at hx
        have := Option.some.inj hx
        injection this with e1 e2
        subst e1; subst e2
        exact ⟨v, rfl, hq⟩
    | a o =>
      obtain ⟨x, h1, hx, hq⟩ := hq
      refine ops_a hg ?_
      cases e : runA fr o with
      | none => rw [oVa, e] at hx; cases hx
      | some v =>
        rw [oVa, e] at hx
        have := Option.some.inj hx
        injection this with e1 e2
        subst e1; subst e2
        exact ⟨v.1, v.2, rfl, hq⟩
    | e o => exact ops_e hg hq
    | bad =>
      obtain ⟨x, h1, hx, hq⟩ := hq
      cases hx
def CallW (E : Env) (w : Bool) (f : FuncId) (args : List XV) (h : XH) (d : Option Ix) (l : List XOper) (K : List Kont) (fr : XF) (Q : Ex → XF → XH → Prop) : Prop := match w with
  | true => CallGo E f args h d l K fr Q
  | false => OpsGo E l K (XF.put fr d unit) h Q
theorem cW1 (E : Env) (f : FuncId) (args : List XV) (h : XH) (d : Option Ix) (l : List XOper) (K : List Kont) (fr : XF) (Q : Ex → XF → XH → Prop) : CallW E true f args h d l K fr Q = CallGo E f args h d l K fr Q := rfl
theorem cW0 (E : Env) (f : FuncId) (args : List XV) (h : XH) (d : Option Ix) (l : List XOper) (K : List Kont) (fr : XF) (Q : Ex → XF → XH → Prop) : CallW E false f args h d l K fr Q = OpsGo E l K (XF.put fr d unit) h Q := rfl
theorem ops_cw (hE : IntrMono E) {f : FuncId} {args : List XA} {g : Option (Ix × Bool)} (hq : CallW E (wantedX fr g) f (evs fr args) h d l K fr Q) : OpsGo E (⟨d, .e (.call f args), g⟩ :: l) K fr h Q := by
  cases hg : wantedX fr g with
  | false => rw [hg] at hq; exact ops_off hg hq
  | true => rw [hg] at hq; exact ops_call hE hg hq
section plan
variable {i lo hi : Nat} {need : List Nat} {p : List PItem} {hs : List XH} {as1 : List NewO} {cs : List Chk}
abbrev PlS := XF × XH × List XH × List NewO × List Chk
noncomputable def plV (fr : XF) (h : XH) (hs : List XH) (as1 : List NewO) (cs : List Chk) (d : Option Ix) (i lo hi : Nat) (need : List Nat) : XOp → Option PlS
  | .p o => Option.rec none (fun v => some (XF.put fr d v, h, hs, as1, cs)) (runP fr o)
  | .r o => Option.rec none (fun v => some (XF.put fr d v, h, hs, as1, ⟨fr, o, v, lo, hi, as1.filter fun a => need.contains a.ix⟩ :: cs)) (runR fr h o)
  | .a o => Option.rec none (fun x => some (XF.put fr d (x.2.of h.next), h.new x.1, hs, ⟨i, Nat.pred (lenX hs), h.next, x.1⟩ :: as1, cs)) (runA fr o)
  | .e o => Option.rec none (fun x => some (XF.put fr d x.1, x.2, x.2 :: hs, as1, cs)) (eff fr h o)
  | .bad => none
noncomputable def ppV (fr : XF) (h : XH) (hs : List XH) (as1 : List NewO) (cs : List Chk) (d : Option Ix) (v : Option XV) : Option PlS := Option.rec none (fun v => some (XF.put fr d v, h, hs, as1, cs)) v
noncomputable def prV (fr : XF) (h : XH) (hs : List XH) (as1 : List NewO) (cs : List Chk) (d : Option Ix) (lo hi : Nat) (need : List Nat) (o : RO) (v : Option XV) : Option PlS := Option.rec none (fun v => some (XF.put fr d v, h, hs, as1, ⟨fr, o, v, lo, hi, as1.filter fun a => need.contains a.ix⟩ :: cs)) v
noncomputable def paV (fr : XF) (h : XH) (hs : List XH) (as1 : List NewO) (cs : List Chk) (d : Option Ix) (i : Nat) (v : Option (XO × NV)) : Option PlS := Option.rec none (fun x => some (XF.put fr d (x.2.of h.next), h.new x.1, hs, ⟨i, Nat.pred (lenX hs), h.next, x.1⟩ :: as1, cs)) v
noncomputable def peV (fr : XF) (hs : List XH) (as1 : List NewO) (cs : List Chk) (d : Option Ix) (v : R) : Option PlS := Option.rec none (fun x => some (XF.put fr d x.1, x.2, x.2 :: hs, as1, cs)) v
theorem lVp (fr : XF) (h : XH) (hs : List XH) (as1 : List NewO) (cs : List Chk) (d : Option Ix) (i lo hi : Nat) (need : List Nat) (o : PO) : plV fr h hs as1 cs d i lo hi need (.p o) = ppV fr h hs as1 cs d (runP fr o) := rfl
theorem lVr (fr : XF) (h : XH) (hs : List XH) (as1 : List NewO) (cs : List Chk) (d : Option Ix) (i lo hi : Nat) (need : List Nat) (o : RO) : plV fr h hs as1 cs d i lo hi need (.r o) = prV fr h hs as1 cs d lo hi need o (runR fr h o) := rfl
theorem lVa (fr : XF) (h : XH) (hs : List XH) (as1 : List NewO) (cs : List Chk) (d : Option Ix) (i lo hi : Nat) (need : List Nat) (o : AO) : plV fr h hs as1 cs d i lo hi need (.a o) = paV fr h hs as1 cs d i (runA fr o) := rfl
theorem lVe (fr : XF) (h : XH) (hs : List XH) (as1 : List NewO) (cs : List Chk) (d : Option Ix) (i lo hi : Nat) (need : List Nat) (o : EO) : plV fr h hs as1 cs d i lo hi need (.e o) = peV fr hs as1 cs d (eff fr h o) := rfl
theorem lVps (fr : XF) (h : XH) (hs : List XH) (as1 : List NewO) (cs : List Chk) (d : Option Ix) (v : XV) : ppV fr h hs as1 cs d (some v) = some (XF.put fr d v, h, hs, as1, cs) := rfl
theorem lVrs (fr : XF) (h : XH) (hs : List XH) (as1 : List NewO) (cs : List Chk) (d : Option Ix) (lo hi : Nat) (need : List Nat) (o : RO) (v : XV) : prV fr h hs as1 cs d lo hi need o (some v) = some (XF.put fr d v, h, hs, as1, ⟨fr, o, v, lo, hi, as1.filter fun a => need.contains a.ix⟩ :: cs) := rfl
theorem lVas (fr : XF) (h : XH) (hs : List XH) (as1 : List NewO) (cs : List Chk) (d : Option Ix) (i : Nat) (x : XO) (v : NV) : paV fr h hs as1 cs d i (some (x, v)) = some (XF.put fr d (v.of h.next), h.new x, hs, ⟨i, Nat.pred (lenX hs), h.next, x⟩ :: as1, cs) := rfl
theorem lVes (fr : XF) (hs : List XH) (as1 : List NewO) (cs : List Chk) (d : Option Ix) (v : XV) (h' : XH) : peV fr hs as1 cs d (some (v, h')) = some (XF.put fr d v, h', h' :: hs, as1, cs) := rfl
def PlR (E : Env) (p : List PItem) (K : List Kont) (r : Option PlS) (Q : Ex → XF → XH → Prop) : Prop := ∃ x, r = some x ∧ PlanGo E p K x.1 x.2.1 x.2.2.1 x.2.2.2.1 x.2.2.2.2 Q
theorem plgo (hq : PlanGo E p K fr h hs as1 cs Q) : PlR E p K (some (fr, h, hs, as1, cs)) Q := ⟨_, rfl, hq⟩
theorem plan_op {o : XOp} (hq : PlR E p K (plV fr h hs as1 cs d i lo hi need o) Q) : PlanGo E (⟨i, ⟨d, o, none⟩, lo, hi, need⟩ :: p) K fr h hs as1 cs Q := by
  obtain ⟨x, hx, hq⟩ := hq
  cases o with
  | p o =>
    cases e : runP fr o with
    | none => rw [lVp, e] at hx; cases hx
    | some v =>
      rw [lVp, e] at hx
      obtain rfl := Option.some.inj hx
      exact plan_p rfl e hq
  | r o =>
    cases e : runR fr h o with
    | none => rw [lVr, e] at hx; cases hx
    | some v =>
      rw [lVr, e] at hx
      obtain rfl := Option.some.inj hx
      exact plan_r rfl e hq
  | a o =>
    cases e : runA fr o with
    | none => rw [lVa, e] at hx; cases hx
    | some v =>
      rw [lVa, e] at hx
      obtain rfl := Option.some.inj hx
      exact plan_a rfl e hq
  | e o =>
    cases e : eff fr h o with
    | none => rw [lVe, e] at hx; cases hx
    | some v =>
      rw [lVe, e] at hx
      obtain rfl := Option.some.inj hx
      exact plan_e rfl e hq
  | bad => cases hx
end plan
end
end Go.X
end
section
namespace Go.X
set_option linter.defProp false
noncomputable def bE := And.intro @runP.eq_1 <| And.intro @runP.eq_2 <| And.intro @runP.eq_3 <| And.intro @runP.eq_4 <| And.intro @runP.eq_5 <| And.intro @runP.eq_6 <| And.intro @runP.eq_7 <| And.intro @runP.eq_8 <| And.intro @runP.eq_9 <| And.intro @runP.eq_10 <| And.intro @runP.eq_11 <| And.intro @runP.eq_12 <| And.intro @runP.eq_13 <| And.intro @runP.eq_14 <| And.intro @runP.eq_15 <| And.intro @runP.eq_16 <| And.intro @runP.eq_17 <| And.intro @runP.eq_18 <| And.intro @runP.eq_19 <| And.intro @runP.eq_20 <| And.intro @runP.eq_21 <| And.intro @runP.eq_22 <| And.intro @runR.eq_1 <| And.intro @runR.eq_2 <| And.intro @runR.eq_3 <| And.intro @runR.eq_4 <| And.intro @runA.eq_1 <| And.intro @runA.eq_2 <| And.intro @runA.eq_3 <| And.intro @runA.eq_4 <| And.intro @runA.eq_5 <| And.intro @runA.eq_6 <| And.intro @runA.eq_7 <| And.intro @modOf.eq_1 <| And.intro @modOf.eq_2 <| And.intro @modOf.eq_3 <| And.intro @modOf.eq_4 <| And.intro @modOf.eq_5 <| And.intro @modOf.eq_6 <| And.intro @modOf.eq_7 <| And.intro @modOf.eq_8 <| And.intro @ev_same <| And.intro @ev_other <| And.intro @ev_c <| And.intro @ev_none <| And.intro @evs_nil <| And.intro @evs_cons <| And.intro @evo_none <| And.intro @evo_some <| And.intro @evp_nil <| And.intro @evp_cons <| And.intro @b_add <| And.intro @b_sub <| And.intro @b_mul <| And.intro @b_quo <| And.intro @b_rem <| And.intro @b_and <| And.intro @b_or <| And.intro @b_xor <| And.intro @b_shl <| And.intro @b_shr <| And.intro @b_eql <| And.intro @b_neq <| And.intro @b_lss <| And.intro @b_leq <| And.intro @b_gtr <| And.intro @b_geq <| And.intro @wrap_i64 <| And.intro @wrap_u64 <| And.intro @wrap_u8 <| And.intro @wrap_u32 <| And.intro @wrap_i64_neg <| And.intro @p_convI <| And.intro @p_nil <| And.intro @p_addr <| And.intro @p_idxA <| And.intro @p_idxL <| And.intro @p_ixStr <| And.intro @p_sliceS <| And.intro @p_sliceS_lo <| And.intro @p_sliceS_hi <| And.intro @s_add <| And.intro @s_eql <| And.intro @u_neg_pos <| And.intro @u_xor32 <| And.intro @r_lenS <| And.intro @r_lenL <| And.intro @r_load_set <| And.intro @r_load_new <| And.intro @ne_eq.{1} <| And.intro @not_false_eq_true <| And.intro @Nat.zero_add <| And.intro @Nat.mul_one <| And.intro @Nat.add_zero <| And.intro @nv_ptr <| And.intro @nv_map <| And.intro @nv_slice <| And.intro @p_pick <| And.intro @p_extract <| And.intro @List.getElem?_cons_zero.{0} <| And.intro @List.getElem?_cons_succ.{0} <| And.intro @List.getElem?_nil.{0} <| And.intro @a_cSB <| And.intro @XH.next_set <| And.intro @XH.next_new <| And.intro @XH.next_del <| And.intro @oV0 <| And.intro @oVp <| And.intro @oVr <| And.intro @oVa <| And.intro @oVe <| And.intro @pVs <| And.intro @aVs <| And.intro @wVn <| And.intro @wVs <| And.intro @wB1 <| And.intro @wB2 <| And.intro @wB3 <| And.intro @wB4 <| And.intro @cW0 <| And.intro @cW1 <| And.intro @lVp <| And.intro @lVr <| And.intro @lVa <| And.intro @lVe <| And.intro @lVps <| And.intro @lVrs <| And.intro @lVas <| @lVes
noncomputable def bP := And.intro @List.all_cons.{0} <| And.intro @List.all_nil.{0} <| And.intro @List.map_cons.{0,0} <| And.intro @List.map_nil.{0,0} <| And.intro @List.filter_nil.{0} <| And.intro @List.filter_cons.{0} <| And.intro @List.reverse_cons.{0} <| And.intro @List.reverse_nil.{0} <| And.intro @List.nil_append.{0} <| And.intro @List.cons_append.{0} <| And.intro @XV.beq_self <| And.intro @n_blt <| And.intro @n_ble <| And.intro @n_beq <| And.intro @n_add <| And.intro @n_succ <| And.intro @Bool.and_true <| And.intro @Bool.true_and <| And.intro @cond_true.{1} <| And.intro @cond_false.{1} <| And.intro @decide_true <| And.intro @decide_false <| And.intro @Nat.le_refl <| And.intro @Nat.lt_irrefl <| @Nat.not_lt_zero
end Go.X
end
section
namespace Go.X
set_option linter.defProp false
class Nx (g : Prop) (p : outParam Prop) : Prop where
  ok : p → g
theorem nx {g p : Prop} [i : Nx g p] (h : p) : g := i.ok h
class Nv (g : Prop) (p : outParam Prop) : Prop where
  ok : p → g
theorem nv {g p : Prop} [i : Nv g p] (h : p) : g := i.ok h
class Nw (g : Prop) (p : outParam Prop) : Prop where
  ok : p → g
theorem nw {g p : Prop} [i : Nw g p] (h : p) : g := i.ok h
class Rg (g : Prop) (p : outParam Prop) : Prop where
  ok : p → g
theorem rg {g p : Prop} [i : Rg g p] (h : p) : g := i.ok h
class IM (E : Env) : Prop where
  ok : IntrMono E
class BN (i j : Nat) : Prop where
  ok : Nat.beq i j = false
instance (n : Nat) : BN 0 (n + 1) := ⟨rfl⟩
instance (n : Nat) : BN (n + 1) 0 := ⟨rfl⟩
instance (a b : Nat) [h : BN a b] : BN (a + 1) (b + 1) := ⟨h.ok⟩
section
variable {E : Env} {K : List Kont} {fr : XF} {h : XH} {Q : Ex → XF → XH → Prop} {d : Option Ix} {l : List XOper} {g : Option (Ix × Bool)}
instance {b : XC} : Nx (Ret E (.seq b :: K) .normal fr h Q) (Go E b K fr h Q) := ⟨ret_seq.2⟩
instance {b : XC} {i : Nat} : Nx (Ret E (.seq b :: K) (.exit i) fr h Q) (Ret E K (.exit i) fr h Q) := ⟨ret_seq_x.2⟩
instance {b : XC} : Nx (Ret E (.seq b :: K) .ret fr h Q) (Ret E K .ret fr h Q) := ⟨ret_seq_r.2⟩
instance {i : Nat} : Nx (Ret E (.block i :: K) .normal fr h Q) (Ret E K .normal fr h Q) := ⟨ret_block.2⟩
instance {i : Nat} : Nx (Ret E (.block i :: K) (.exit i) fr h Q) (Ret E K .normal fr h Q) := ⟨ret_block_hit.2⟩
instance {i j : Nat} [b : BN j i] : Nx (Ret E (.block i :: K) (.exit j) fr h Q) (Ret E K (.exit j) fr h Q) := ⟨(ret_block_miss b.ok).2⟩
instance {i : Nat} : Nx (Ret E (.block i :: K) .ret fr h Q) (Ret E K .ret fr h Q) := ⟨ret_block_r.2⟩
instance {a : XC} {i : Nat} : Nx (Ret E (.loop a :: K) (.exit i) fr h Q) (Ret E K (.exit i) fr h Q) := ⟨ret_loop_x.2⟩
instance {a : XC} : Nx (Ret E (.loop a :: K) .ret fr h Q) (Ret E K .ret fr h Q) := ⟨ret_loop_r.2⟩
instance : Nx (Go E .skip K fr h Q) (Ret E K .normal fr h Q) := ⟨go_skip⟩
instance {i : Nat} : Nx (Go E (.exit i) K fr h Q) (Ret E K (.exit i) fr h Q) := ⟨go_exit⟩
instance : Nx (Go E .ret K fr h Q) (Ret E K .ret fr h Q) := ⟨go_ret⟩
instance [m : IM E] {a b : XC} : Nx (Go E (.seq a b) K fr h Q) (Go E a (.seq b :: K) fr h Q) := ⟨go_seq m.ok⟩
instance {id : Nat} {a : XC} : Nx (Go E (.block id a) K fr h Q) (Go E a (.block id :: K) fr h Q) := ⟨go_block⟩
instance {l : List XOper} : Nx (Go E (.region l) K fr h Q) (OpsGo E l K fr h Q) := ⟨go_region⟩
instance {l : List PItem} : Nx (Go E (.drawn l) K fr h Q) (PlanGo E l K fr h [h] [] [] Q) := ⟨go_drawn⟩
instance : Nx (OpsGo E [] K fr h Q) (Ret E K .normal fr h Q) := ⟨ops_nil⟩
instance [m : IM E] {f : FuncId} {args : List XA} : Nv (OpsGo E (⟨d, .e (.call f args), g⟩ :: l) K fr h Q) (CallW E (wantedX fr g) f (evs fr args) h d l K fr Q) := ⟨ops_cw m.ok⟩
instance (priority := low) {o : XOp} : Nv (OpsGo E (⟨d, o, g⟩ :: l) K fr h Q) (RGo E (opV (wantedX fr g) fr h o) d l K fr Q) := ⟨ops_op⟩
instance {p q : Prop} [i : Nv p q] : Nw p q := ⟨i.ok⟩
instance {c : XA} {a b : XC} : Nw (Go E (.cond c a b) K fr h Q) (CondGo E (ev fr c) a b K fr h Q) := ⟨go_cond⟩
instance {v : XV} {h' : XH} : Rg (RGo E (some (v, h')) d l K fr Q) (OpsGo E l K (XF.put fr d v) h' Q) := ⟨rgo⟩
instance {f : FuncId} {args : List XV} : Rg (CallGo E f args h d l K fr Q) (CallGo E f args h d l K fr Q) := ⟨id⟩
instance : Rg (OpsGo E l K fr h Q) (OpsGo E l K fr h Q) := ⟨id⟩
instance {a b : XC} : Rg (CondGo E (.bool true) a b K fr h Q) (Go E a K fr h Q) := ⟨condGo_true⟩
instance {a b : XC} : Rg (CondGo E (.bool false) a b K fr h Q) (Go E b K fr h Q) := ⟨condGo_false⟩
section
variable {i lo hi : Nat} {need : List Nat} {p : List PItem} {hs : List XH} {as1 : List NewO} {cs : List Chk}
instance [m : IM E] {f : FuncId} {args : List XA} : Nv (PlanGo E (⟨i, ⟨d, .e (.call f args), none⟩, lo, hi, need⟩ :: p) K fr h hs as1 cs Q) (CallPl E f (evs fr args) h d p K fr hs as1 cs Q) := ⟨plan_call m.ok (wanted_none _)⟩
instance (priority := low) {o : XOp} : Nv (PlanGo E (⟨i, ⟨d, o, none⟩, lo, hi, need⟩ :: p) K fr h hs as1 cs Q) (PlR E p K (plV fr h hs as1 cs d i lo hi need o) Q) := ⟨plan_op⟩
instance : Rg (PlR E p K (some (fr, h, hs, as1, cs)) Q) (PlanGo E p K fr h hs as1 cs Q) := ⟨plgo⟩
instance {f : FuncId} {args : List XV} : Rg (CallPl E f args h d p K fr hs as1 cs Q) (CallPl E f args h d p K fr hs as1 cs Q) := ⟨id⟩
end
end
theorem f1 (fr : XF) (h : XH) (s : Nat) (a v : XA) : eff fr h (.store s a v) = eStore h s (ev fr a) (ev fr v) := rfl
theorem f2 (fr : XF) (h : XH) (st : Bool) (m k v : XA) : eff fr h (.mapUpdate st m k v) = eMapUpdate h st (ev fr m) (ev fr k) (ev fr v) := rfl
theorem f3 (fr : XF) (h : XH) (es by' e : Nat) (s x : XA) : eff fr h (.append es by' e s x) = eAppend h es by' e (ev fr s) (ev fr x) := rfl
theorem f4 (fr : XF) (h : XH) (es : Nat) (s x : XA) : eff fr h (.copy es s x) = eCopy h es (ev fr s) (ev fr x) := rfl
theorem f5 (fr : XF) (h : XH) (st : Bool) (m k : XA) : eff fr h (.delete st m k) = eDelete h st (ev fr m) (ev fr k) := rfl
theorem f6 (fr : XF) (h : XH) (es : Nat) (z : List XV) (x : XA) : eff fr h (.clear es z x) = eClear h es z (ev fr x) := rfl
theorem f7 (fr : XF) (h : XH) (x : XA) : eff fr h (.nextS x) = eNext h (ev fr x) := rfl
noncomputable def bG := And.intro bE <| And.intro @f1 <| And.intro @f2 <| And.intro @f3 <| And.intro @f4 <| And.intro @f5 <| And.intro @f6 <| And.intro @f7 <| And.intro @decide_true <| And.intro @decide_false <| And.intro @cond_true.{1} @cond_false.{1}
end Go.X
end
section
namespace Go.Proofs.XCode
open Go.X Go.Proofs
noncomputable def E0 : Env := mkEnv tyT fnT intr
theorem fn_of {f : Nat} {g : Func} {x : XFn} (h1 : fnT.get f = some (.fn g)) (h2 : mkFn tyT.get g = some x) : E0.fn f = some (.fn x) := by
  simp only [E0, mkEnv, h1, h2]
  rfl
theorem intr_of {f i : Nat} (h1 : fnT.get f = some (.intr i)) : E0.fn f = some (.intr i) := by
  simp only [E0, mkEnv, h1]
theorem optR' {α β : Type} {o : Option α} {f : α → Option β} {r : β} (h : (Option.rec none f o : Option β) = some r) : ∃ y, o = some y ∧ f y = some r := by
  cases o with
  | none => cases h
  | some y => exact ⟨y, rfl, h⟩
theorem iOnce_mono {c c' : FuncId → List XV → XH → R} (hc : LeC c c') {args : List XV} {h : XH} {r : XV × XH} (h1 : iOnce c args h = some r) : iOnce c' args h = some r := by
  simp only [iOnce] at h1 ⊢
  split at h1
  · split at h1
    · split at h1
      · obtain ⟨H1, e1, h2⟩ := optR' h1
        obtain ⟨y, e2, h3⟩ := optR' h2
        rw [e1]
        show (Option.rec none _ (c' _ _ H1) : R) = _
        rw [hc _ _ _ _ e2]
        exact h3
      · cases h1
    · exact h1
    · cases h1
  · cases h1
theorem hE0 : IntrMono E0 := by
  intro c c' hc i args h r h1
  change intr c i args h = some r at h1
  show intr c' i args h = some r
  unfold intr at h1 ⊢
  split at h1 <;> first | exact h1 | exact iOnce_mono hc h1
instance : IM E0 := ⟨hE0⟩
end Go.Proofs.XCode
end
section
namespace Go.Proofs.XCode
open Go.X Go.Proofs
set_option maxRecDepth 100000
-- escutcheon/digest.schedule
abbrev n_digest_schedule : Nat := 285
abbrev c_digest_schedule_0 : XC := XC.region [⟨(some (ixOf 2)), (.a (.alloc 334 (List.replicate 64 (.int .u32 (.ofNat 0))))), none⟩]
abbrev c_digest_schedule_1 : XC := XC.region [⟨(some (ixOf 3)), (.a (.alloc 334 (List.replicate 64 (.int .u32 (.ofNat 0))))), none⟩]
abbrev c_digest_schedule_2 : XC := XC.region [⟨(some (ixOf 7)), (.p (.mov (.c (.int .i64 (.ofNat 0))))), none⟩]
abbrev c_digest_schedule_3 : XC := XC.region [⟨(some (ixOf 8)), (.p (.bin (.int .i64) .lss (.t (ixOf 7)) (.c (.int .i64 (.ofNat 64))))), none⟩]
abbrev c_digest_schedule_4 : XC := XC.cond (.t (ixOf 8)) .skip (.exit 0)
abbrev c_digest_schedule_5 : XC := XC.region [⟨(some (ixOf 9)), (.p (.mov (.t (ixOf 7)))), none⟩,
  ⟨(some (ixOf 4)), (.p (.mov (.t (ixOf 9)))), none⟩]
abbrev c_digest_schedule_6 : XC := XC.region [⟨(some (ixOf 10)), (.p (.mov (.t (ixOf 4)))), none⟩,
  ⟨(some (ixOf 11)), (.p (.bin (.int .i64) .lss (.t (ixOf 10)) (.c (.int .i64 (.ofNat 16))))), none⟩]
abbrev c_digest_schedule_7 : XC := XC.region [⟨(some (ixOf 12)), (.p (.mov (.t (ixOf 4)))), none⟩,
  ⟨(some (ixOf 13)), (.p (.mov (.t (ixOf 0)))), none⟩,
  ⟨(some (ixOf 14)), (.p (.mov (.t (ixOf 4)))), none⟩,
  ⟨(some (ixOf 15)), (.p (.bin (.int .i64) .mul (.c (.int .i64 (.ofNat 4))) (.t (ixOf 14)))), none⟩,
  ⟨(some (ixOf 16)), (.p (.mov (.t (ixOf 4)))), none⟩,
  ⟨(some (ixOf 17)), (.p (.bin (.int .i64) .mul (.c (.int .i64 (.ofNat 4))) (.t (ixOf 16)))), none⟩,
  ⟨(some (ixOf 18)), (.p (.bin (.int .i64) .add (.t (ixOf 17)) (.c (.int .i64 (.ofNat 4))))), none⟩,
  ⟨(some (ixOf 19)), (.p (.sliceS (.t (ixOf 13)) (some (.t (ixOf 15))) (some (.t (ixOf 18))))), none⟩,
  ⟨(some (ixOf 20)), (.e (.call 22 [(.t (ixOf 19))])), none⟩,
  ⟨(some (ixOf 21)), (.p (.convI .u32 (.t (ixOf 20)))), none⟩,
  ⟨(some (ixOf 22)), (.p (.idxA 64 1 (.t (ixOf 3)) (.t (ixOf 12)))), none⟩,
  ⟨none, (.e (.store 1 (.t (ixOf 22)) (.t (ixOf 21)))), none⟩]
abbrev c_digest_schedule_8 : XC := XC.seq c_digest_schedule_7 (.exit 1)
abbrev c_digest_schedule_9 : XC := XC.cond (.t (ixOf 11)) c_digest_schedule_8 .skip
abbrev c_digest_schedule_10 : XC := XC.seq c_digest_schedule_6 c_digest_schedule_9
abbrev c_digest_schedule_11 : XC := XC.drawn [⟨0, ⟨(some (ixOf 23)), (.p (.mov (.t (ixOf 4)))), none⟩, 0, 0, []⟩,
  ⟨1, ⟨(some (ixOf 24)), (.p (.bin (.int .i64) .sub (.t (ixOf 23)) (.c (.int .i64 (.ofNat 15))))), none⟩, 0, 0, []⟩,
  ⟨2, ⟨(some (ixOf 25)), (.p (.idxA 64 1 (.t (ixOf 3)) (.t (ixOf 24)))), none⟩, 0, 0, []⟩,
  ⟨3, ⟨(some (ixOf 26)), (.r (.load .one (.t (ixOf 25)))), none⟩, 0, 0, []⟩,
  ⟨4, ⟨(some (ixOf 27)), (.p (.mov (.t (ixOf 4)))), none⟩, 0, 0, []⟩,
  ⟨5, ⟨(some (ixOf 28)), (.p (.bin (.int .i64) .sub (.t (ixOf 27)) (.c (.int .i64 (.ofNat 2))))), none⟩, 0, 0, []⟩,
  ⟨6, ⟨(some (ixOf 29)), (.p (.idxA 64 1 (.t (ixOf 3)) (.t (ixOf 28)))), none⟩, 0, 0, []⟩,
  ⟨7, ⟨(some (ixOf 30)), (.r (.load .one (.t (ixOf 29)))), none⟩, 0, 0, []⟩,
  ⟨8, ⟨(some (ixOf 5)), (.p (.mov (.t (ixOf 26)))), none⟩, 0, 0, []⟩,
  ⟨9, ⟨(some (ixOf 6)), (.p (.mov (.t (ixOf 30)))), none⟩, 0, 0, []⟩]
abbrev c_digest_schedule_12 : XC := XC.drawn [⟨5, ⟨(some (ixOf 36)), (.p (.mov (.t (ixOf 5)))), none⟩, 0, 0, []⟩,
  ⟨6, ⟨(some (ixOf 37)), (.e (.call 320 [(.t (ixOf 36)), (.c (.int .i64 (.ofNat 7)))])), none⟩, 0, 1, []⟩,
  ⟨7, ⟨(some (ixOf 38)), (.p (.mov (.t (ixOf 5)))), none⟩, 0, 1, []⟩,
  ⟨8, ⟨(some (ixOf 39)), (.e (.call 320 [(.t (ixOf 38)), (.c (.int .i64 (.ofNat 18)))])), none⟩, 1, 2, []⟩,
  ⟨19, ⟨(some (ixOf 50)), (.p (.mov (.t (ixOf 6)))), none⟩, 0, 2, []⟩,
  ⟨20, ⟨(some (ixOf 51)), (.e (.call 320 [(.t (ixOf 50)), (.c (.int .i64 (.ofNat 17)))])), none⟩, 2, 3, []⟩,
  ⟨21, ⟨(some (ixOf 52)), (.p (.mov (.t (ixOf 6)))), none⟩, 0, 3, []⟩,
  ⟨22, ⟨(some (ixOf 53)), (.e (.call 320 [(.t (ixOf 52)), (.c (.int .i64 (.ofNat 19)))])), none⟩, 3, 4, []⟩,
  ⟨0, ⟨(some (ixOf 31)), (.p (.mov (.t (ixOf 4)))), none⟩, 0, 4, []⟩,
  ⟨1, ⟨(some (ixOf 32)), (.p (.mov (.t (ixOf 4)))), none⟩, 0, 4, []⟩,
  ⟨2, ⟨(some (ixOf 33)), (.p (.bin (.int .i64) .sub (.t (ixOf 32)) (.c (.int .i64 (.ofNat 16))))), none⟩, 0, 4, []⟩,
  ⟨3, ⟨(some (ixOf 34)), (.p (.idxA 64 1 (.t (ixOf 3)) (.t (ixOf 33)))), none⟩, 0, 4, []⟩,
  ⟨4, ⟨(some (ixOf 35)), (.r (.load .one (.t (ixOf 34)))), none⟩, 0, 4, []⟩,
  ⟨9, ⟨(some (ixOf 40)), (.p (.bin (.int .u32) .xor (.t (ixOf 37)) (.t (ixOf 39)))), none⟩, 2, 4, []⟩,
  ⟨10, ⟨(some (ixOf 41)), (.p (.mov (.t (ixOf 5)))), none⟩, 0, 4, []⟩,
  ⟨11, ⟨(some (ixOf 42)), (.p (.bin (.int .u32) .shr (.t (ixOf 41)) (.c (.int .u64 (.ofNat 3))))), none⟩, 0, 4, []⟩,
  ⟨12, ⟨(some (ixOf 43)), (.p (.bin (.int .u32) .xor (.t (ixOf 40)) (.t (ixOf 42)))), none⟩, 2, 4, []⟩,
  ⟨13, ⟨(some (ixOf 44)), (.p (.bin (.int .u32) .add (.t (ixOf 35)) (.t (ixOf 43)))), none⟩, 2, 4, []⟩,
  ⟨14, ⟨(some (ixOf 45)), (.p (.mov (.t (ixOf 4)))), none⟩, 0, 4, []⟩,
  ⟨15, ⟨(some (ixOf 46)), (.p (.bin (.int .i64) .sub (.t (ixOf 45)) (.c (.int .i64 (.ofNat 7))))), none⟩, 0, 4, []⟩,
  ⟨16, ⟨(some (ixOf 47)), (.p (.idxA 64 1 (.t (ixOf 3)) (.t (ixOf 46)))), none⟩, 0, 4, []⟩,
  ⟨17, ⟨(some (ixOf 48)), (.r (.load .one (.t (ixOf 47)))), none⟩, 0, 4, []⟩,
  ⟨18, ⟨(some (ixOf 49)), (.p (.bin (.int .u32) .add (.t (ixOf 44)) (.t (ixOf 48)))), none⟩, 2, 4, []⟩,
  ⟨23, ⟨(some (ixOf 54)), (.p (.bin (.int .u32) .xor (.t (ixOf 51)) (.t (ixOf 53)))), none⟩, 4, 4, []⟩,
  ⟨24, ⟨(some (ixOf 55)), (.p (.mov (.t (ixOf 6)))), none⟩, 0, 4, []⟩,
  ⟨25, ⟨(some (ixOf 56)), (.p (.bin (.int .u32) .shr (.t (ixOf 55)) (.c (.int .u64 (.ofNat 10))))), none⟩, 0, 4, []⟩,
  ⟨26, ⟨(some (ixOf 57)), (.p (.bin (.int .u32) .xor (.t (ixOf 54)) (.t (ixOf 56)))), none⟩, 4, 4, []⟩,
  ⟨27, ⟨(some (ixOf 58)), (.p (.bin (.int .u32) .add (.t (ixOf 49)) (.t (ixOf 57)))), none⟩, 4, 4, []⟩,
  ⟨28, ⟨(some (ixOf 59)), (.p (.idxA 64 1 (.t (ixOf 3)) (.t (ixOf 31)))), none⟩, 4, 4, []⟩,
  ⟨29, ⟨none, (.e (.store 1 (.t (ixOf 59)) (.t (ixOf 58)))), none⟩, 4, 5, []⟩]
abbrev c_digest_schedule_13 : XC := XC.seq c_digest_schedule_11 c_digest_schedule_12
abbrev c_digest_schedule_14 : XC := XC.seq c_digest_schedule_10 c_digest_schedule_13
abbrev c_digest_schedule_15 : XC := XC.seq c_digest_schedule_5 c_digest_schedule_14
abbrev c_digest_schedule_16 : XC := XC.block 1 c_digest_schedule_15
abbrev c_digest_schedule_17 : XC := XC.region [⟨(some (ixOf 60)), (.p (.bin (.int .i64) .add (.t (ixOf 7)) (.c (.int .i64 (.ofNat 1))))), none⟩,
  ⟨(some (ixOf 7)), (.p (.mov (.t (ixOf 60)))), none⟩]
abbrev c_digest_schedule_18 : XC := XC.seq c_digest_schedule_16 c_digest_schedule_17
abbrev c_digest_schedule_19 : XC := XC.seq c_digest_schedule_4 c_digest_schedule_18
abbrev c_digest_schedule_20 : XC := XC.seq c_digest_schedule_3 c_digest_schedule_19
abbrev c_digest_schedule_21 : XC := XC.loop c_digest_schedule_20
abbrev c_digest_schedule_22 : XC := XC.block 0 c_digest_schedule_21
abbrev c_digest_schedule_23 : XC := XC.seq c_digest_schedule_2 c_digest_schedule_22
abbrev c_digest_schedule_24 : XC := XC.region [⟨(some (ixOf 61)), (.r (.load (.many 64) (.t (ixOf 3)))), none⟩,
  ⟨none, (.e (.store 64 (.t (ixOf 2)) (.t (ixOf 61)))), none⟩]
abbrev c_digest_schedule_25 : XC := XC.seq c_digest_schedule_24 .ret
abbrev c_digest_schedule_26 : XC := XC.seq c_digest_schedule_23 c_digest_schedule_25
abbrev c_digest_schedule_27 : XC := XC.seq c_digest_schedule_1 c_digest_schedule_26
abbrev c_digest_schedule_28 : XC := XC.seq c_digest_schedule_0 c_digest_schedule_27
abbrev x_digest_schedule : XFn := ⟨[.cell (ixOf 2) (.many 64)], c_digest_schedule_28⟩
theorem mk_digest_schedule : mkFn tyT.get Tryz.f285 = some x_digest_schedule := by kernel_rfl
theorem fn_digest_schedule : E0.fn n_digest_schedule = some (.fn x_digest_schedule) := fn_of (by kernel_rfl) mk_digest_schedule
-- escutcheon/digest.right
abbrev n_digest_right : Nat := 320
abbrev c_digest_right_0 : XC := XC.region [⟨(some (ixOf 4)), (.p (.mov (.c (.int .u32 (.ofNat 0))))), none⟩]
abbrev c_digest_right_1 : XC := XC.region [⟨(some (ixOf 5)), (.p (.mov (.t (ixOf 0)))), none⟩,
  ⟨(some (ixOf 6)), (.p (.mov (.t (ixOf 1)))), none⟩,
  ⟨(some (ixOf 7)), (.p (.un .neg (.t (ixOf 6)))), none⟩,
  ⟨(some (ixOf 8)), (.e (.call 185 [(.t (ixOf 5)), (.t (ixOf 7))])), none⟩,
  ⟨(some (ixOf 4)), (.p (.mov (.t (ixOf 8)))), none⟩]
abbrev c_digest_right_2 : XC := XC.seq c_digest_right_1 .ret
abbrev c_digest_right_3 : XC := XC.seq c_digest_right_0 c_digest_right_2
abbrev x_digest_right : XFn := ⟨[.tmp (ixOf 4)], c_digest_right_3⟩
theorem mk_digest_right : mkFn tyT.get Tryz.f320 = some x_digest_right := by kernel_rfl
theorem fn_digest_right : E0.fn n_digest_right = some (.fn x_digest_right) := fn_of (by kernel_rfl) mk_digest_right
-- escutcheon/octet.Left
abbrev n_octet_Left : Nat := 185
abbrev c_octet_Left_0 : XC := XC.region [⟨(some (ixOf 4)), (.p (.mov (.c (.int .u32 (.ofNat 0))))), none⟩]
abbrev c_octet_Left_1 : XC := XC.region [⟨(some (ixOf 5)), (.p (.mov (.t (ixOf 0)))), none⟩,
  ⟨(some (ixOf 6)), (.p (.mov (.t (ixOf 1)))), none⟩,
  ⟨(some (ixOf 7)), (.p (.bin (.int .i64) .rem (.t (ixOf 6)) (.c (.int .i64 (.ofNat 32))))), none⟩,
  ⟨(some (ixOf 8)), (.p (.bin (.int .i64) .add (.t (ixOf 7)) (.c (.int .i64 (.ofNat 32))))), none⟩,
  ⟨(some (ixOf 9)), (.p (.bin (.int .i64) .rem (.t (ixOf 8)) (.c (.int .i64 (.ofNat 32))))), none⟩,
  ⟨(some (ixOf 10)), (.e (.call 222 [(.t (ixOf 5)), (.t (ixOf 9))])), none⟩,
  ⟨(some (ixOf 4)), (.p (.mov (.t (ixOf 10)))), none⟩]
abbrev c_octet_Left_2 : XC := XC.seq c_octet_Left_1 .ret
abbrev c_octet_Left_3 : XC := XC.seq c_octet_Left_0 c_octet_Left_2
abbrev x_octet_Left : XFn := ⟨[.tmp (ixOf 4)], c_octet_Left_3⟩
theorem mk_octet_Left : mkFn tyT.get Tryz.f185 = some x_octet_Left := by kernel_rfl
theorem fn_octet_Left : E0.fn n_octet_Left = some (.fn x_octet_Left) := fn_of (by kernel_rfl) mk_octet_Left
-- math/bits.RotateLeft32
abbrev n_math_bits_RotateLeft32 : Nat := 222
abbrev c_math_bits_RotateLeft32_0 : XC := XC.region [⟨(some (ixOf 4)), (.p (.mov (.c (.int .u32 (.ofNat 0))))), none⟩]
abbrev c_math_bits_RotateLeft32_1 : XC := XC.region [⟨(some (ixOf 6)), (.p (.mov (.t (ixOf 1)))), none⟩,
  ⟨(some (ixOf 7)), (.p (.convI .u64 (.t (ixOf 6)))), none⟩,
  ⟨(some (ixOf 8)), (.p (.bin (.int .u64) .and (.t (ixOf 7)) (.c (.int .u64 (.ofNat 31))))), none⟩,
  ⟨(some (ixOf 5)), (.p (.mov (.t (ixOf 8)))), none⟩]
abbrev c_math_bits_RotateLeft32_2 : XC := XC.region [⟨(some (ixOf 9)), (.p (.mov (.t (ixOf 0)))), none⟩,
  ⟨(some (ixOf 10)), (.p (.mov (.t (ixOf 5)))), none⟩,
  ⟨(some (ixOf 11)), (.p (.bin (.int .u32) .shl (.t (ixOf 9)) (.t (ixOf 10)))), none⟩,
  ⟨(some (ixOf 12)), (.p (.mov (.t (ixOf 0)))), none⟩,
  ⟨(some (ixOf 13)), (.p (.mov (.t (ixOf 5)))), none⟩,
  ⟨(some (ixOf 14)), (.p (.bin (.int .u64) .sub (.c (.int .u64 (.ofNat 32))) (.t (ixOf 13)))), none⟩,
  ⟨(some (ixOf 15)), (.p (.bin (.int .u32) .shr (.t (ixOf 12)) (.t (ixOf 14)))), none⟩,
  ⟨(some (ixOf 16)), (.p (.bin (.int .u32) .or (.t (ixOf 11)) (.t (ixOf 15)))), none⟩,
  ⟨(some (ixOf 4)), (.p (.mov (.t (ixOf 16)))), none⟩]
abbrev c_math_bits_RotateLeft32_3 : XC := XC.seq c_math_bits_RotateLeft32_2 .ret
abbrev c_math_bits_RotateLeft32_4 : XC := XC.seq c_math_bits_RotateLeft32_1 c_math_bits_RotateLeft32_3
abbrev c_math_bits_RotateLeft32_5 : XC := XC.seq c_math_bits_RotateLeft32_0 c_math_bits_RotateLeft32_4
abbrev x_math_bits_RotateLeft32 : XFn := ⟨[.tmp (ixOf 4)], c_math_bits_RotateLeft32_5⟩
theorem mk_math_bits_RotateLeft32 : mkFn tyT.get Tryz.f222 = some x_math_bits_RotateLeft32 := by kernel_rfl
theorem fn_math_bits_RotateLeft32 : E0.fn n_math_bits_RotateLeft32 = some (.fn x_math_bits_RotateLeft32) := fn_of (by kernel_rfl) mk_math_bits_RotateLeft32
-- escutcheon/digest.turned
abbrev n_digest_turned : Nat := 286
abbrev c_digest_turned_0 : XC := XC.region [⟨(some (ixOf 8)), (.p (.mov (.c (.int .u32 (.ofNat 0))))), none⟩]
abbrev c_digest_turned_1 : XC := XC.region [⟨(some (ixOf 9)), (.p (.mov (.t (ixOf 0)))), none⟩,
  ⟨(some (ixOf 10)), (.p (.mov (.t (ixOf 1)))), none⟩,
  ⟨(some (ixOf 11)), (.e (.call 320 [(.t (ixOf 9)), (.t (ixOf 10))])), none⟩,
  ⟨(some (ixOf 12)), (.p (.mov (.t (ixOf 0)))), none⟩,
  ⟨(some (ixOf 13)), (.p (.mov (.t (ixOf 2)))), none⟩,
  ⟨(some (ixOf 14)), (.e (.call 320 [(.t (ixOf 12)), (.t (ixOf 13))])), none⟩,
  ⟨(some (ixOf 15)), (.p (.bin (.int .u32) .xor (.t (ixOf 11)) (.t (ixOf 14)))), none⟩,
  ⟨(some (ixOf 16)), (.p (.mov (.t (ixOf 0)))), none⟩,
  ⟨(some (ixOf 17)), (.p (.mov (.t (ixOf 3)))), none⟩,
  ⟨(some (ixOf 18)), (.e (.call 320 [(.t (ixOf 16)), (.t (ixOf 17))])), none⟩,
  ⟨(some (ixOf 19)), (.p (.bin (.int .u32) .xor (.t (ixOf 15)) (.t (ixOf 18)))), none⟩,
  ⟨(some (ixOf 8)), (.p (.mov (.t (ixOf 19)))), none⟩]
abbrev c_digest_turned_2 : XC := XC.seq c_digest_turned_1 .ret
abbrev c_digest_turned_3 : XC := XC.seq c_digest_turned_0 c_digest_turned_2
abbrev x_digest_turned : XFn := ⟨[.tmp (ixOf 8)], c_digest_turned_3⟩
theorem mk_digest_turned : mkFn tyT.get Tryz.f286 = some x_digest_turned := by kernel_rfl
theorem fn_digest_turned : E0.fn n_digest_turned = some (.fn x_digest_turned) := fn_of (by kernel_rfl) mk_digest_turned
-- escutcheon/octet.Big
abbrev n_octet_Big : Nat := 22
abbrev c_octet_Big_0 : XC := XC.region [⟨(some (ixOf 2)), (.p (.mov (.c (.int .u64 (.ofNat 0))))), none⟩]
abbrev c_octet_Big_1 : XC := XC.region [⟨(some (ixOf 3)), (.p (.mov (.c (.int .u64 (.ofNat 0))))), none⟩]
abbrev c_octet_Big_2 : XC := XC.region [⟨(some (ixOf 6)), (.p (.mov (.t (ixOf 0)))), none⟩,
  ⟨(some (ixOf 7)), (.p (.mov (.t (ixOf 0)))), none⟩,
  ⟨(some (ixOf 8)), (.r (.len .str (.t (ixOf 7)))), none⟩,
  ⟨(some (ixOf 9)), (.p (.bin (.int .i64) .sub (.t (ixOf 8)) (.c (.int .i64 (.ofNat 8))))), none⟩,
  ⟨(some (ixOf 10)), (.p (.max [(.t (ixOf 9)), (.c (.int .i64 (.ofNat 0)))])), none⟩,
  ⟨(some (ixOf 11)), (.p (.sliceS (.t (ixOf 6)) (some (.t (ixOf 10))) none)), none⟩,
  ⟨(some (ixOf 12)), (.a (.convSB (.t (ixOf 11)))), none⟩,
  ⟨(some (ixOf 13)), (.r (.len (.slice 5) (.t (ixOf 12)))), none⟩,
  ⟨(some (ixOf 14)), (.p (.mov (.c (.int .i64 (.ofNat 0))))), none⟩]
abbrev c_octet_Big_3 : XC := XC.region [⟨(some (ixOf 15)), (.p (.bin (.int .i64) .lss (.t (ixOf 14)) (.t (ixOf 13)))), none⟩]
abbrev c_octet_Big_4 : XC := XC.cond (.t (ixOf 15)) .skip (.exit 0)
abbrev c_octet_Big_5 : XC := XC.region [⟨(some (ixOf 16)), (.p (.idxL 1 (.t (ixOf 12)) (.t (ixOf 14)))), none⟩,
  ⟨(some (ixOf 17)), (.r (.load .one (.t (ixOf 16)))), none⟩,
  ⟨(some (ixOf 5)), (.p (.mov (.t (ixOf 17)))), none⟩]
abbrev c_octet_Big_6 : XC := XC.region [⟨(some (ixOf 18)), (.p (.mov (.t (ixOf 3)))), none⟩,
  ⟨(some (ixOf 19)), (.p (.bin (.int .u64) .shl (.t (ixOf 18)) (.c (.int .u64 (.ofNat 8))))), none⟩,
  ⟨(some (ixOf 20)), (.p (.mov (.t (ixOf 5)))), none⟩,
  ⟨(some (ixOf 21)), (.p (.convI .u64 (.t (ixOf 20)))), none⟩,
  ⟨(some (ixOf 22)), (.p (.bin (.int .u64) .or (.t (ixOf 19)) (.t (ixOf 21)))), none⟩,
  ⟨(some (ixOf 3)), (.p (.mov (.t (ixOf 22)))), none⟩]
abbrev c_octet_Big_7 : XC := XC.seq c_octet_Big_5 c_octet_Big_6
abbrev c_octet_Big_8 : XC := XC.block 1 c_octet_Big_7
abbrev c_octet_Big_9 : XC := XC.region [⟨(some (ixOf 23)), (.p (.bin (.int .i64) .add (.t (ixOf 14)) (.c (.int .i64 (.ofNat 1))))), none⟩,
  ⟨(some (ixOf 14)), (.p (.mov (.t (ixOf 23)))), none⟩]
abbrev c_octet_Big_10 : XC := XC.seq c_octet_Big_8 c_octet_Big_9
abbrev c_octet_Big_11 : XC := XC.seq c_octet_Big_4 c_octet_Big_10
abbrev c_octet_Big_12 : XC := XC.seq c_octet_Big_3 c_octet_Big_11
abbrev c_octet_Big_13 : XC := XC.loop c_octet_Big_12
abbrev c_octet_Big_14 : XC := XC.block 0 c_octet_Big_13
abbrev c_octet_Big_15 : XC := XC.seq c_octet_Big_2 c_octet_Big_14
abbrev c_octet_Big_16 : XC := XC.region [⟨(some (ixOf 24)), (.p (.mov (.t (ixOf 3)))), none⟩,
  ⟨(some (ixOf 2)), (.p (.mov (.t (ixOf 24)))), none⟩]
abbrev c_octet_Big_17 : XC := XC.seq c_octet_Big_16 .ret
abbrev c_octet_Big_18 : XC := XC.seq c_octet_Big_15 c_octet_Big_17
abbrev c_octet_Big_19 : XC := XC.seq c_octet_Big_1 c_octet_Big_18
abbrev c_octet_Big_20 : XC := XC.seq c_octet_Big_0 c_octet_Big_19
abbrev x_octet_Big : XFn := ⟨[.tmp (ixOf 2)], c_octet_Big_20⟩
theorem mk_octet_Big : mkFn tyT.get Tryz.f22 = some x_octet_Big := by kernel_rfl
theorem fn_octet_Big : E0.fn n_octet_Big = some (.fn x_octet_Big) := fn_of (by kernel_rfl) mk_octet_Big
-- (*escutcheon/digest.table).mix
abbrev n_digest_table_mix : Nat := 253
abbrev c_digest_table_mix_0 : XC := XC.region [⟨(some (ixOf 4)), (.a (.box (.t (ixOf 1)))), none⟩,
  ⟨(some (ixOf 6)), (.a (.alloc 288 (List.replicate 8 (.int .u32 (.ofNat 0))))), none⟩]
abbrev c_digest_table_mix_1 : XC := XC.region [⟨(some (ixOf 19)), (.p (.mov (.t (ixOf 2)))), none⟩,
  ⟨(some (ixOf 20)), (.e (.call 285 [(.t (ixOf 19))])), none⟩,
  ⟨(some (ixOf 7)), (.a (.alloc 334 (List.replicate 64 (.int .u32 (.ofNat 0))))), none⟩,
  ⟨none, (.e (.store 64 (.t (ixOf 7)) (.t (ixOf 20)))), none⟩]
abbrev c_digest_table_mix_2 : XC := XC.region [⟨(some (ixOf 21)), (.r (.load (.many 8) (.t (ixOf 4)))), none⟩,
  ⟨(some (ixOf 8)), (.a (.alloc 288 (List.replicate 8 (.int .u32 (.ofNat 0))))), none⟩,
  ⟨none, (.e (.store 8 (.t (ixOf 8)) (.t (ixOf 21)))), none⟩]
abbrev c_digest_table_mix_3 : XC := XC.region [⟨(some (ixOf 22)), (.p (.mov (.c (.int .i64 (.ofNat 0))))), none⟩]
abbrev c_digest_table_mix_4 : XC := XC.region [⟨(some (ixOf 23)), (.p (.bin (.int .i64) .lss (.t (ixOf 22)) (.c (.int .i64 (.ofNat 64))))), none⟩]
abbrev c_digest_table_mix_5 : XC := XC.cond (.t (ixOf 23)) .skip (.exit 0)
abbrev c_digest_table_mix_6 : XC := XC.region [⟨(some (ixOf 24)), (.p (.mov (.t (ixOf 22)))), none⟩,
  ⟨(some (ixOf 9)), (.p (.mov (.t (ixOf 24)))), none⟩]
abbrev c_digest_table_mix_7 : XC := XC.drawn [⟨0, ⟨(some (ixOf 25)), (.p (.idxA 8 1 (.t (ixOf 8)) (.c (.int .i64 (.ofNat 4))))), none⟩, 0, 0, []⟩,
  ⟨1, ⟨(some (ixOf 26)), (.r (.load .one (.t (ixOf 25)))), none⟩, 0, 0, []⟩,
  ⟨2, ⟨(some (ixOf 27)), (.p (.idxA 8 1 (.t (ixOf 8)) (.c (.int .i64 (.ofNat 5))))), none⟩, 0, 0, []⟩,
  ⟨3, ⟨(some (ixOf 28)), (.r (.load .one (.t (ixOf 27)))), none⟩, 0, 0, []⟩,
  ⟨4, ⟨(some (ixOf 29)), (.p (.idxA 8 1 (.t (ixOf 8)) (.c (.int .i64 (.ofNat 6))))), none⟩, 0, 0, []⟩,
  ⟨5, ⟨(some (ixOf 30)), (.r (.load .one (.t (ixOf 29)))), none⟩, 0, 0, []⟩,
  ⟨6, ⟨(some (ixOf 10)), (.p (.mov (.t (ixOf 26)))), none⟩, 0, 0, []⟩,
  ⟨7, ⟨(some (ixOf 11)), (.p (.mov (.t (ixOf 28)))), none⟩, 0, 0, []⟩,
  ⟨8, ⟨(some (ixOf 12)), (.p (.mov (.t (ixOf 30)))), none⟩, 0, 0, []⟩]
abbrev c_digest_table_mix_8 : XC := XC.drawn [⟨2, ⟨(some (ixOf 33)), (.p (.mov (.t (ixOf 10)))), none⟩, 0, 0, []⟩,
  ⟨3, ⟨(some (ixOf 34)), (.e (.call 286 [(.t (ixOf 33)), (.c (.int .i64 (.ofNat 6))), (.c (.int .i64 (.ofNat 11))), (.c (.int .i64 (.ofNat 25)))])), none⟩, 0, 1, []⟩,
  ⟨0, ⟨(some (ixOf 31)), (.p (.idxA 8 1 (.t (ixOf 8)) (.c (.int .i64 (.ofNat 7))))), none⟩, 0, 1, []⟩,
  ⟨1, ⟨(some (ixOf 32)), (.r (.load .one (.t (ixOf 31)))), none⟩, 0, 1, []⟩,
  ⟨4, ⟨(some (ixOf 35)), (.p (.bin (.int .u32) .add (.t (ixOf 32)) (.t (ixOf 34)))), none⟩, 1, 1, []⟩,
  ⟨5, ⟨(some (ixOf 36)), (.p (.mov (.t (ixOf 10)))), none⟩, 0, 1, []⟩,
  ⟨6, ⟨(some (ixOf 37)), (.p (.mov (.t (ixOf 11)))), none⟩, 0, 1, []⟩,
  ⟨7, ⟨(some (ixOf 38)), (.p (.bin (.int .u32) .and (.t (ixOf 36)) (.t (ixOf 37)))), none⟩, 0, 1, []⟩,
  ⟨8, ⟨(some (ixOf 39)), (.p (.mov (.t (ixOf 10)))), none⟩, 0, 1, []⟩,
  ⟨9, ⟨(some (ixOf 40)), (.p (.un .xor (.t (ixOf 39)))), none⟩, 0, 1, []⟩,
  ⟨10, ⟨(some (ixOf 41)), (.p (.mov (.t (ixOf 12)))), none⟩, 0, 1, []⟩,
  ⟨11, ⟨(some (ixOf 42)), (.p (.bin (.int .u32) .and (.t (ixOf 40)) (.t (ixOf 41)))), none⟩, 0, 1, []⟩,
  ⟨12, ⟨(some (ixOf 43)), (.p (.bin (.int .u32) .xor (.t (ixOf 38)) (.t (ixOf 42)))), none⟩, 0, 1, []⟩,
  ⟨13, ⟨(some (ixOf 44)), (.p (.bin (.int .u32) .add (.t (ixOf 35)) (.t (ixOf 43)))), none⟩, 1, 1, []⟩,
  ⟨14, ⟨(some (ixOf 45)), (.p (.mov (.t (ixOf 0)))), none⟩, 0, 1, []⟩,
  ⟨15, ⟨(some (ixOf 46)), (.p (.mov (.t (ixOf 9)))), none⟩, 0, 1, []⟩,
  ⟨16, ⟨(some (ixOf 47)), (.p (.nilCheck (.t (ixOf 45)))), none⟩, 0, 1, []⟩,
  ⟨17, ⟨(some (ixOf 48)), (.p (.addr 3 (.t (ixOf 47)))), none⟩, 0, 1, []⟩,
  ⟨18, ⟨(some (ixOf 49)), (.p (.idxA 64 1 (.t (ixOf 48)) (.t (ixOf 46)))), none⟩, 0, 1, []⟩,
  ⟨19, ⟨(some (ixOf 50)), (.r (.load .one (.t (ixOf 49)))), none⟩, 0, 1, []⟩,
  ⟨20, ⟨(some (ixOf 51)), (.p (.bin (.int .u32) .add (.t (ixOf 44)) (.t (ixOf 50)))), none⟩, 1, 1, []⟩,
  ⟨21, ⟨(some (ixOf 52)), (.p (.mov (.t (ixOf 9)))), none⟩, 0, 1, []⟩,
  ⟨22, ⟨(some (ixOf 53)), (.p (.idxA 64 1 (.t (ixOf 7)) (.t (ixOf 52)))), none⟩, 0, 1, []⟩,
  ⟨23, ⟨(some (ixOf 54)), (.r (.load .one (.t (ixOf 53)))), none⟩, 0, 1, []⟩,
  ⟨24, ⟨(some (ixOf 55)), (.p (.bin (.int .u32) .add (.t (ixOf 51)) (.t (ixOf 54)))), none⟩, 1, 1, []⟩,
  ⟨25, ⟨(some (ixOf 13)), (.p (.mov (.t (ixOf 55)))), none⟩, 1, 1, []⟩]
abbrev c_digest_table_mix_9 : XC := XC.drawn [⟨0, ⟨(some (ixOf 56)), (.p (.idxA 8 1 (.t (ixOf 8)) (.c (.int .i64 (.ofNat 0))))), none⟩, 0, 0, []⟩,
  ⟨1, ⟨(some (ixOf 57)), (.r (.load .one (.t (ixOf 56)))), none⟩, 0, 0, []⟩,
  ⟨2, ⟨(some (ixOf 58)), (.p (.idxA 8 1 (.t (ixOf 8)) (.c (.int .i64 (.ofNat 1))))), none⟩, 0, 0, []⟩,
  ⟨3, ⟨(some (ixOf 59)), (.r (.load .one (.t (ixOf 58)))), none⟩, 0, 0, []⟩,
  ⟨4, ⟨(some (ixOf 60)), (.p (.idxA 8 1 (.t (ixOf 8)) (.c (.int .i64 (.ofNat 2))))), none⟩, 0, 0, []⟩,
  ⟨5, ⟨(some (ixOf 61)), (.r (.load .one (.t (ixOf 60)))), none⟩, 0, 0, []⟩,
  ⟨6, ⟨(some (ixOf 14)), (.p (.mov (.t (ixOf 57)))), none⟩, 0, 0, []⟩,
  ⟨7, ⟨(some (ixOf 15)), (.p (.mov (.t (ixOf 59)))), none⟩, 0, 0, []⟩,
  ⟨8, ⟨(some (ixOf 16)), (.p (.mov (.t (ixOf 61)))), none⟩, 0, 0, []⟩]
abbrev c_digest_table_mix_10 : XC := XC.region [⟨(some (ixOf 62)), (.p (.mov (.t (ixOf 14)))), none⟩,
  ⟨(some (ixOf 63)), (.e (.call 286 [(.t (ixOf 62)), (.c (.int .i64 (.ofNat 2))), (.c (.int .i64 (.ofNat 13))), (.c (.int .i64 (.ofNat 22)))])), none⟩,
  ⟨(some (ixOf 64)), (.p (.mov (.t (ixOf 14)))), none⟩,
  ⟨(some (ixOf 65)), (.p (.mov (.t (ixOf 15)))), none⟩,
  ⟨(some (ixOf 66)), (.p (.bin (.int .u32) .and (.t (ixOf 64)) (.t (ixOf 65)))), none⟩,
  ⟨(some (ixOf 67)), (.p (.mov (.t (ixOf 14)))), none⟩,
  ⟨(some (ixOf 68)), (.p (.mov (.t (ixOf 16)))), none⟩,
  ⟨(some (ixOf 69)), (.p (.bin (.int .u32) .and (.t (ixOf 67)) (.t (ixOf 68)))), none⟩,
  ⟨(some (ixOf 70)), (.p (.bin (.int .u32) .xor (.t (ixOf 66)) (.t (ixOf 69)))), none⟩,
  ⟨(some (ixOf 71)), (.p (.mov (.t (ixOf 15)))), none⟩,
  ⟨(some (ixOf 72)), (.p (.mov (.t (ixOf 16)))), none⟩,
  ⟨(some (ixOf 73)), (.p (.bin (.int .u32) .and (.t (ixOf 71)) (.t (ixOf 72)))), none⟩,
  ⟨(some (ixOf 74)), (.p (.bin (.int .u32) .xor (.t (ixOf 70)) (.t (ixOf 73)))), none⟩,
  ⟨(some (ixOf 75)), (.p (.bin (.int .u32) .add (.t (ixOf 63)) (.t (ixOf 74)))), none⟩,
  ⟨(some (ixOf 17)), (.p (.mov (.t (ixOf 75)))), none⟩]
abbrev c_digest_table_mix_11 : XC := XC.region [⟨(some (ixOf 76)), (.p (.mov (.t (ixOf 13)))), none⟩,
  ⟨(some (ixOf 77)), (.p (.mov (.t (ixOf 17)))), none⟩,
  ⟨(some (ixOf 78)), (.p (.bin (.int .u32) .add (.t (ixOf 76)) (.t (ixOf 77)))), none⟩,
  ⟨(some (ixOf 79)), (.p (.mov (.t (ixOf 14)))), none⟩,
  ⟨(some (ixOf 80)), (.p (.mov (.t (ixOf 15)))), none⟩,
  ⟨(some (ixOf 81)), (.p (.mov (.t (ixOf 16)))), none⟩,
  ⟨(some (ixOf 82)), (.p (.idxA 8 1 (.t (ixOf 8)) (.c (.int .i64 (.ofNat 3))))), none⟩,
  ⟨(some (ixOf 83)), (.r (.load .one (.t (ixOf 82)))), none⟩,
  ⟨(some (ixOf 84)), (.p (.mov (.t (ixOf 13)))), none⟩,
  ⟨(some (ixOf 85)), (.p (.bin (.int .u32) .add (.t (ixOf 83)) (.t (ixOf 84)))), none⟩,
  ⟨(some (ixOf 86)), (.p (.mov (.t (ixOf 10)))), none⟩,
  ⟨(some (ixOf 87)), (.p (.mov (.t (ixOf 11)))), none⟩,
  ⟨(some (ixOf 88)), (.p (.mov (.t (ixOf 12)))), none⟩,
  ⟨(some (ixOf 89)), (.p (.build (List.replicate 8 (.int .u32 (.ofNat 0))) [(0, 1, (.t (ixOf 78))), (1, 1, (.t (ixOf 79))), (2, 1, (.t (ixOf 80))), (3, 1, (.t (ixOf 81))), (4, 1, (.t (ixOf 85))), (5, 1, (.t (ixOf 86))), (6, 1, (.t (ixOf 87))), (7, 1, (.t (ixOf 88)))])), none⟩,
  ⟨none, (.e (.store 8 (.t (ixOf 8)) (.t (ixOf 89)))), none⟩]
abbrev c_digest_table_mix_12 : XC := XC.seq c_digest_table_mix_10 c_digest_table_mix_11
abbrev c_digest_table_mix_13 : XC := XC.seq c_digest_table_mix_9 c_digest_table_mix_12
abbrev c_digest_table_mix_14 : XC := XC.seq c_digest_table_mix_8 c_digest_table_mix_13
abbrev c_digest_table_mix_15 : XC := XC.seq c_digest_table_mix_7 c_digest_table_mix_14
abbrev c_digest_table_mix_16 : XC := XC.seq c_digest_table_mix_6 c_digest_table_mix_15
abbrev c_digest_table_mix_17 : XC := XC.block 1 c_digest_table_mix_16
abbrev c_digest_table_mix_18 : XC := XC.region [⟨(some (ixOf 90)), (.p (.bin (.int .i64) .add (.t (ixOf 22)) (.c (.int .i64 (.ofNat 1))))), none⟩,
  ⟨(some (ixOf 22)), (.p (.mov (.t (ixOf 90)))), none⟩]
abbrev c_digest_table_mix_19 : XC := XC.seq c_digest_table_mix_17 c_digest_table_mix_18
abbrev c_digest_table_mix_20 : XC := XC.seq c_digest_table_mix_5 c_digest_table_mix_19
abbrev c_digest_table_mix_21 : XC := XC.seq c_digest_table_mix_4 c_digest_table_mix_20
abbrev c_digest_table_mix_22 : XC := XC.loop c_digest_table_mix_21
abbrev c_digest_table_mix_23 : XC := XC.block 0 c_digest_table_mix_22
abbrev c_digest_table_mix_24 : XC := XC.seq c_digest_table_mix_3 c_digest_table_mix_23
abbrev c_digest_table_mix_25 : XC := XC.region [⟨(some (ixOf 91)), (.p (.mov (.c (.int .i64 (.ofNat 0))))), none⟩]
abbrev c_digest_table_mix_26 : XC := XC.region [⟨(some (ixOf 92)), (.p (.bin (.int .i64) .lss (.t (ixOf 91)) (.c (.int .i64 (.ofNat 8))))), none⟩]
abbrev c_digest_table_mix_27 : XC := XC.cond (.t (ixOf 92)) .skip (.exit 2)
abbrev c_digest_table_mix_28 : XC := XC.region [⟨(some (ixOf 93)), (.p (.mov (.t (ixOf 91)))), none⟩,
  ⟨(some (ixOf 18)), (.p (.mov (.t (ixOf 93)))), none⟩]
abbrev c_digest_table_mix_29 : XC := XC.drawn [⟨0, ⟨(some (ixOf 94)), (.p (.mov (.t (ixOf 18)))), none⟩, 0, 0, []⟩,
  ⟨1, ⟨(some (ixOf 95)), (.p (.idxA 8 1 (.t (ixOf 8)) (.t (ixOf 94)))), none⟩, 0, 0, []⟩,
  ⟨2, ⟨(some (ixOf 96)), (.r (.load .one (.t (ixOf 95)))), none⟩, 0, 0, []⟩,
  ⟨3, ⟨(some (ixOf 97)), (.p (.mov (.t (ixOf 18)))), none⟩, 0, 0, []⟩,
  ⟨4, ⟨(some (ixOf 98)), (.p (.idxA 8 1 (.t (ixOf 4)) (.t (ixOf 97)))), none⟩, 0, 0, []⟩,
  ⟨5, ⟨(some (ixOf 99)), (.r (.load .one (.t (ixOf 98)))), none⟩, 0, 0, []⟩,
  ⟨6, ⟨(some (ixOf 100)), (.p (.bin (.int .u32) .add (.t (ixOf 96)) (.t (ixOf 99)))), none⟩, 0, 0, []⟩,
  ⟨7, ⟨(some (ixOf 101)), (.p (.idxA 8 1 (.t (ixOf 8)) (.t (ixOf 94)))), none⟩, 0, 0, []⟩,
  ⟨8, ⟨none, (.e (.store 1 (.t (ixOf 101)) (.t (ixOf 100)))), none⟩, 0, 1, []⟩]
abbrev c_digest_table_mix_30 : XC := XC.seq c_digest_table_mix_28 c_digest_table_mix_29
abbrev c_digest_table_mix_31 : XC := XC.block 3 c_digest_table_mix_30
abbrev c_digest_table_mix_32 : XC := XC.region [⟨(some (ixOf 102)), (.p (.bin (.int .i64) .add (.t (ixOf 91)) (.c (.int .i64 (.ofNat 1))))), none⟩,
  ⟨(some (ixOf 91)), (.p (.mov (.t (ixOf 102)))), none⟩]
abbrev c_digest_table_mix_33 : XC := XC.seq c_digest_table_mix_31 c_digest_table_mix_32
abbrev c_digest_table_mix_34 : XC := XC.seq c_digest_table_mix_27 c_digest_table_mix_33
abbrev c_digest_table_mix_35 : XC := XC.seq c_digest_table_mix_26 c_digest_table_mix_34
abbrev c_digest_table_mix_36 : XC := XC.loop c_digest_table_mix_35
abbrev c_digest_table_mix_37 : XC := XC.block 2 c_digest_table_mix_36
abbrev c_digest_table_mix_38 : XC := XC.seq c_digest_table_mix_25 c_digest_table_mix_37
abbrev c_digest_table_mix_39 : XC := XC.region [⟨(some (ixOf 103)), (.r (.load (.many 8) (.t (ixOf 8)))), none⟩,
  ⟨none, (.e (.store 8 (.t (ixOf 6)) (.t (ixOf 103)))), none⟩]
abbrev c_digest_table_mix_40 : XC := XC.seq c_digest_table_mix_39 .ret
abbrev c_digest_table_mix_41 : XC := XC.seq c_digest_table_mix_38 c_digest_table_mix_40
abbrev c_digest_table_mix_42 : XC := XC.seq c_digest_table_mix_24 c_digest_table_mix_41
abbrev c_digest_table_mix_43 : XC := XC.seq c_digest_table_mix_2 c_digest_table_mix_42
abbrev c_digest_table_mix_44 : XC := XC.seq c_digest_table_mix_1 c_digest_table_mix_43
abbrev c_digest_table_mix_45 : XC := XC.seq c_digest_table_mix_0 c_digest_table_mix_44
abbrev x_digest_table_mix : XFn := ⟨[.cell (ixOf 6) (.many 8)], c_digest_table_mix_45⟩
theorem mk_digest_table_mix : mkFn tyT.get Tryz.f253 = some x_digest_table_mix := by kernel_rfl
theorem fn_digest_table_mix : E0.fn n_digest_table_mix = some (.fn x_digest_table_mix) := fn_of (by kernel_rfl) mk_digest_table_mix
-- (*escutcheon/digest.table).made$1
abbrev n_digest_table_made_1 : Nat := 254
abbrev c_digest_table_made_1_0 : XC := XC.region [⟨(some (ixOf 1)), (.r (.load .one (.t (ixOf 0)))), none⟩,
  ⟨(some (ixOf 2)), (.p (.nilCheck (.t (ixOf 1)))), none⟩,
  ⟨(some (ixOf 3)), (.p (.addr 3 (.t (ixOf 2)))), none⟩,
  ⟨(some (ixOf 4)), (.p (.sliceA 64 1 (.t (ixOf 3)) none none)), none⟩,
  ⟨(some (ixOf 5)), (.e (.call 255 [(.t (ixOf 4)), (.c (.str [52, 50, 56, 97, 50, 102, 57, 56, 55, 49, 51, 55, 52, 52, 57, 49, 98, 53, 99, 48, 102, 98, 99, 102, 101, 57, 98, 53, 100, 98, 97, 53, 51, 57, 53, 54, 99, 50, 53, 98, 53, 57, 102, 49, 49, 49, 102, 49, 57, 50, 51, 102, 56, 50, 97, 52, 97, 98, 49, 99, 53, 101, 100, 53, 100, 56, 48, 55, 97, 97, 57, 56, 49, 50, 56, 51, 53, 98, 48, 49, 50, 52, 51, 49, 56, 53, 98, 101, 53, 53, 48, 99, 55, 100, 99, 51, 55, 50, 98, 101, 53, 100, 55, 52, 56, 48, 100, 101, 98, 49, 102, 101, 57, 98, 100, 99, 48, 54, 97, 55, 99, 49, 57, 98, 102, 49, 55, 52, 101, 52, 57, 98, 54, 57, 99, 49, 101, 102, 98, 101, 52, 55, 56, 54, 48, 102, 99, 49, 57, 100, 99, 54, 50, 52, 48, 99, 97, 49, 99, 99, 50, 100, 101, 57, 50, 99, 54, 102, 52, 97, 55, 52, 56, 52, 97, 97, 53, 99, 98, 48, 97, 57, 100, 99, 55, 54, 102, 57, 56, 56, 100, 97, 57, 56, 51, 101, 53, 49, 53, 50, 97, 56, 51, 49, 99, 54, 54, 100, 98, 48, 48, 51, 50, 55, 99, 56, 98, 102, 53, 57, 55, 102, 99, 55, 99, 54, 101, 48, 48, 98, 102, 51, 100, 53, 97, 55, 57, 49, 52, 55, 48, 54, 99, 97, 54, 51, 53, 49, 49, 52, 50, 57, 50, 57, 54, 55, 50, 55, 98, 55, 48, 97, 56, 53, 50, 101, 49, 98, 50, 49, 51, 56, 52, 100, 50, 99, 54, 100, 102, 99, 53, 51, 51, 56, 48, 100, 49, 51, 54, 53, 48, 97, 55, 51, 53, 52, 55, 54, 54, 97, 48, 97, 98, 98, 56, 49, 99, 50, 99, 57, 50, 101, 57, 50, 55, 50, 50, 99, 56, 53, 97, 50, 98, 102, 101, 56, 97, 49, 97, 56, 49, 97, 54, 54, 52, 98, 99, 50, 52, 98, 56, 98, 55, 48, 99, 55, 54, 99, 53, 49, 97, 51, 100, 49, 57, 50, 101, 56, 49, 57, 100, 54, 57, 57, 48, 54, 50, 52, 102, 52, 48, 101, 51, 53, 56, 53, 49, 48, 54, 97, 97, 48, 55, 48, 49, 57, 97, 52, 99, 49, 49, 54, 49, 101, 51, 55, 54, 99, 48, 56, 50, 55, 52, 56, 55, 55, 52, 99, 51, 52, 98, 48, 98, 99, 98, 53, 51, 57, 49, 99, 48, 99, 98, 51, 52, 101, 100, 56, 97, 97, 52, 97, 53, 98, 57, 99, 99, 97, 52, 102, 54, 56, 50, 101, 54, 102, 102, 51, 55, 52, 56, 102, 56, 50, 101, 101, 55, 56, 97, 53, 54, 51, 54, 102, 56, 52, 99, 56, 55, 56, 49, 52, 56, 99, 99, 55, 48, 50, 48, 56, 57, 48, 98, 101, 102, 102, 102, 97, 97, 52, 53, 48, 54, 99, 101, 98, 98, 101, 102, 57, 97, 51, 102, 55, 99, 54, 55, 49, 55, 56, 102, 50]))])), none⟩]
abbrev c_digest_table_made_1_1 : XC := XC.region [⟨(some (ixOf 6)), (.r (.load .one (.t (ixOf 0)))), none⟩,
  ⟨(some (ixOf 7)), (.p (.nilCheck (.t (ixOf 6)))), none⟩,
  ⟨(some (ixOf 8)), (.p (.addr 67 (.t (ixOf 7)))), none⟩,
  ⟨(some (ixOf 9)), (.p (.sliceA 8 1 (.t (ixOf 8)) none none)), none⟩,
  ⟨(some (ixOf 10)), (.e (.call 255 [(.t (ixOf 9)), (.c (.str [54, 97, 48, 57, 101, 54, 54, 55, 98, 98, 54, 55, 97, 101, 56, 53, 51, 99, 54, 101, 102, 51, 55, 50, 97, 53, 52, 102, 102, 53, 51, 97, 53, 49, 48, 101, 53, 50, 55, 102, 57, 98, 48, 53, 54, 56, 56, 99, 49, 102, 56, 51, 100, 57, 97, 98, 53, 98, 101, 48, 99, 100, 49, 57]))])), none⟩]
abbrev c_digest_table_made_1_2 : XC := XC.seq c_digest_table_made_1_0 c_digest_table_made_1_1
abbrev x_digest_table_made_1 : XFn := ⟨[], c_digest_table_made_1_2⟩
theorem mk_digest_table_made_1 : mkFn tyT.get Tryz.f254 = some x_digest_table_made_1 := by kernel_rfl
theorem fn_digest_table_made_1 : E0.fn n_digest_table_made_1 = some (.fn x_digest_table_made_1) := fn_of (by kernel_rfl) mk_digest_table_made_1
-- (*escutcheon/digest.table).made
abbrev n_digest_table_made : Nat := 221
abbrev c_digest_table_made_0 : XC := XC.region [⟨(some (ixOf 1)), (.a (.box (.t (ixOf 0)))), none⟩,
  ⟨(some (ixOf 2)), (.p (.mov (.c .nilp))), none⟩]
abbrev c_digest_table_made_1 : XC := XC.region [⟨(some (ixOf 3)), (.r (.load .one (.t (ixOf 1)))), none⟩,
  ⟨(some (ixOf 4)), (.p (.nilCheck (.t (ixOf 3)))), none⟩,
  ⟨(some (ixOf 5)), (.p (.addr 0 (.t (ixOf 4)))), none⟩,
  ⟨(some (ixOf 6)), (.p (.makeFunc 254 [(.t (ixOf 1))])), none⟩,
  ⟨(some (ixOf 7)), (.e (.call 45 [(.t (ixOf 5)), (.t (ixOf 6))])), none⟩]
abbrev c_digest_table_made_2 : XC := XC.region [⟨(some (ixOf 8)), (.r (.load .one (.t (ixOf 1)))), none⟩,
  ⟨(some (ixOf 2)), (.p (.mov (.t (ixOf 8)))), none⟩]
abbrev c_digest_table_made_3 : XC := XC.seq c_digest_table_made_2 .ret
abbrev c_digest_table_made_4 : XC := XC.seq c_digest_table_made_1 c_digest_table_made_3
abbrev c_digest_table_made_5 : XC := XC.seq c_digest_table_made_0 c_digest_table_made_4
abbrev x_digest_table_made : XFn := ⟨[.tmp (ixOf 2)], c_digest_table_made_5⟩
theorem mk_digest_table_made : mkFn tyT.get Tryz.f221 = some x_digest_table_made := by kernel_rfl
theorem fn_digest_table_made : E0.fn n_digest_table_made = some (.fn x_digest_table_made) := fn_of (by kernel_rfl) mk_digest_table_made
-- (*escutcheon/digest.Digest).add
abbrev n_digest_Digest_add : Nat := 220
abbrev c_digest_Digest_add_0 : XC := XC.region [⟨(some (ixOf 6)), (.p (.mov (.t (ixOf 0)))), none⟩,
  ⟨(some (ixOf 7)), (.p (.nilCheck (.t (ixOf 6)))), none⟩,
  ⟨(some (ixOf 8)), (.p (.addr 0 (.t (ixOf 7)))), none⟩,
  ⟨(some (ixOf 9)), (.r (.load .one (.t (ixOf 8)))), none⟩,
  ⟨(some (ixOf 10)), (.p (.un .not (.t (ixOf 9)))), none⟩]
abbrev c_digest_Digest_add_1 : XC := XC.region [⟨(some (ixOf 11)), (.p (.mov (.t (ixOf 0)))), none⟩,
  ⟨(some (ixOf 12)), (.p (.mov (.t (ixOf 0)))), none⟩,
  ⟨(some (ixOf 13)), (.p (.mov (.t (ixOf 1)))), none⟩,
  ⟨(some (ixOf 14)), (.p (.nilCheck (.t (ixOf 13)))), none⟩,
  ⟨(some (ixOf 15)), (.p (.addr 67 (.t (ixOf 14)))), none⟩,
  ⟨(some (ixOf 16)), (.r (.load (.many 8) (.t (ixOf 15)))), none⟩,
  ⟨(some (ixOf 17)), (.p (.nilCheck (.t (ixOf 11)))), none⟩,
  ⟨(some (ixOf 18)), (.p (.addr 0 (.t (ixOf 17)))), none⟩,
  ⟨none, (.e (.store 1 (.t (ixOf 18)) (.c (.bool true)))), none⟩,
  ⟨(some (ixOf 19)), (.p (.nilCheck (.t (ixOf 12)))), none⟩,
  ⟨(some (ixOf 20)), (.p (.addr 1 (.t (ixOf 19)))), none⟩,
  ⟨none, (.e (.store 8 (.t (ixOf 20)) (.t (ixOf 16)))), none⟩]
abbrev c_digest_Digest_add_2 : XC := XC.cond (.t (ixOf 10)) c_digest_Digest_add_1 .skip
abbrev c_digest_Digest_add_3 : XC := XC.seq c_digest_Digest_add_0 c_digest_Digest_add_2
abbrev c_digest_Digest_add_4 : XC := XC.region [⟨(some (ixOf 21)), (.p (.mov (.t (ixOf 0)))), none⟩,
  ⟨(some (ixOf 22)), (.p (.nilCheck (.t (ixOf 21)))), none⟩,
  ⟨(some (ixOf 23)), (.p (.addr 10 (.t (ixOf 22)))), none⟩,
  ⟨(some (ixOf 24)), (.r (.load .one (.t (ixOf 23)))), none⟩,
  ⟨(some (ixOf 25)), (.p (.mov (.t (ixOf 2)))), none⟩,
  ⟨(some (ixOf 26)), (.r (.len .str (.t (ixOf 25)))), none⟩,
  ⟨(some (ixOf 27)), (.p (.bin (.int .i64) .add (.t (ixOf 24)) (.t (ixOf 26)))), none⟩,
  ⟨(some (ixOf 28)), (.p (.nilCheck (.t (ixOf 21)))), none⟩,
  ⟨(some (ixOf 29)), (.p (.addr 10 (.t (ixOf 28)))), none⟩,
  ⟨none, (.e (.store 1 (.t (ixOf 29)) (.t (ixOf 27)))), none⟩]
abbrev c_digest_Digest_add_5 : XC := XC.region [⟨(some (ixOf 30)), (.p (.mov (.t (ixOf 0)))), none⟩,
  ⟨(some (ixOf 31)), (.p (.nilCheck (.t (ixOf 30)))), none⟩,
  ⟨(some (ixOf 32)), (.p (.addr 9 (.t (ixOf 31)))), none⟩,
  ⟨(some (ixOf 33)), (.r (.load .one (.t (ixOf 32)))), none⟩,
  ⟨(some (ixOf 34)), (.p (.mov (.t (ixOf 2)))), none⟩,
  ⟨(some (ixOf 35)), (.p (.bin .str .add (.t (ixOf 33)) (.t (ixOf 34)))), none⟩,
  ⟨(some (ixOf 2)), (.p (.mov (.t (ixOf 35)))), none⟩]
abbrev c_digest_Digest_add_6 : XC := XC.region [⟨(some (ixOf 36)), (.p (.mov (.t (ixOf 2)))), none⟩,
  ⟨(some (ixOf 37)), (.r (.len .str (.t (ixOf 36)))), none⟩,
  ⟨(some (ixOf 38)), (.p (.bin (.int .i64) .geq (.t (ixOf 37)) (.c (.int .i64 (.ofNat 64))))), none⟩]
abbrev c_digest_Digest_add_7 : XC := XC.cond (.t (ixOf 38)) .skip (.exit 0)
abbrev c_digest_Digest_add_8 : XC := XC.seq c_digest_Digest_add_6 c_digest_Digest_add_7
abbrev c_digest_Digest_add_9 : XC := XC.drawn [⟨1, ⟨(some (ixOf 40)), (.p (.mov (.t (ixOf 1)))), none⟩, 0, 0, []⟩,
  ⟨2, ⟨(some (ixOf 41)), (.p (.mov (.t (ixOf 0)))), none⟩, 0, 0, []⟩,
  ⟨3, ⟨(some (ixOf 42)), (.p (.nilCheck (.t (ixOf 41)))), none⟩, 0, 0, []⟩,
  ⟨4, ⟨(some (ixOf 43)), (.p (.addr 1 (.t (ixOf 42)))), none⟩, 0, 0, []⟩,
  ⟨5, ⟨(some (ixOf 44)), (.r (.load (.many 8) (.t (ixOf 43)))), none⟩, 0, 0, []⟩,
  ⟨6, ⟨(some (ixOf 45)), (.p (.mov (.t (ixOf 2)))), none⟩, 0, 0, []⟩,
  ⟨7, ⟨(some (ixOf 46)), (.p (.sliceS (.t (ixOf 45)) none (some (.c (.int .i64 (.ofNat 64)))))), none⟩, 0, 0, []⟩,
  ⟨8, ⟨(some (ixOf 47)), (.e (.call 253 [(.t (ixOf 40)), (.t (ixOf 44)), (.t (ixOf 46))])), none⟩, 0, 1, []⟩,
  ⟨0, ⟨(some (ixOf 39)), (.p (.mov (.t (ixOf 0)))), none⟩, 0, 1, []⟩,
  ⟨9, ⟨(some (ixOf 48)), (.p (.nilCheck (.t (ixOf 39)))), none⟩, 1, 1, []⟩,
  ⟨10, ⟨(some (ixOf 49)), (.p (.addr 1 (.t (ixOf 48)))), none⟩, 1, 1, []⟩,
  ⟨11, ⟨none, (.e (.store 8 (.t (ixOf 49)) (.t (ixOf 47)))), none⟩, 1, 2, []⟩]
abbrev c_digest_Digest_add_10 : XC := XC.region [⟨(some (ixOf 50)), (.p (.mov (.t (ixOf 2)))), none⟩,
  ⟨(some (ixOf 51)), (.p (.sliceS (.t (ixOf 50)) (some (.c (.int .i64 (.ofNat 64)))) none)), none⟩,
  ⟨(some (ixOf 2)), (.p (.mov (.t (ixOf 51)))), none⟩]
abbrev c_digest_Digest_add_11 : XC := XC.seq c_digest_Digest_add_9 c_digest_Digest_add_10
abbrev c_digest_Digest_add_12 : XC := XC.block 1 c_digest_Digest_add_11
abbrev c_digest_Digest_add_13 : XC := XC.seq c_digest_Digest_add_8 c_digest_Digest_add_12
abbrev c_digest_Digest_add_14 : XC := XC.loop c_digest_Digest_add_13
abbrev c_digest_Digest_add_15 : XC := XC.block 0 c_digest_Digest_add_14
abbrev c_digest_Digest_add_16 : XC := XC.region [⟨(some (ixOf 52)), (.p (.mov (.t (ixOf 0)))), none⟩,
  ⟨(some (ixOf 53)), (.p (.mov (.t (ixOf 2)))), none⟩,
  ⟨(some (ixOf 54)), (.e (.call 54 [(.t (ixOf 53))])), none⟩,
  ⟨(some (ixOf 55)), (.p (.nilCheck (.t (ixOf 52)))), none⟩,
  ⟨(some (ixOf 56)), (.p (.addr 9 (.t (ixOf 55)))), none⟩,
  ⟨none, (.e (.store 1 (.t (ixOf 56)) (.t (ixOf 54)))), none⟩]
abbrev c_digest_Digest_add_17 : XC := XC.seq c_digest_Digest_add_15 c_digest_Digest_add_16
abbrev c_digest_Digest_add_18 : XC := XC.seq c_digest_Digest_add_5 c_digest_Digest_add_17
abbrev c_digest_Digest_add_19 : XC := XC.seq c_digest_Digest_add_4 c_digest_Digest_add_18
abbrev c_digest_Digest_add_20 : XC := XC.seq c_digest_Digest_add_3 c_digest_Digest_add_19
abbrev x_digest_Digest_add : XFn := ⟨[], c_digest_Digest_add_20⟩
theorem mk_digest_Digest_add : mkFn tyT.get Tryz.f220 = some x_digest_Digest_add := by kernel_rfl
theorem fn_digest_Digest_add : E0.fn n_digest_Digest_add = some (.fn x_digest_Digest_add) := fn_of (by kernel_rfl) mk_digest_Digest_add
-- (*escutcheon/digest.Digest).Add
abbrev n_digest_Digest_Add : Nat := 180
abbrev c_digest_Digest_Add_0 : XC := XC.region [⟨(some (ixOf 5)), (.p (.mov (.t (ixOf 0)))), none⟩,
  ⟨(some (ixOf 6)), (.p (.bin (.ptr 290) .neq (.t (ixOf 5)) (.c .nilp))), none⟩]
abbrev c_digest_Digest_Add_1 : XC := XC.region [⟨(some (ixOf 4)), (.a (.alloc 336 [(.int .u32 (.ofNat 0)), (.int .i32 (.ofNat 0)), (.int .u32 (.ofNat 0)), (.int .u32 (.ofNat 0)), (.int .u32 (.ofNat 0)), (.int .u32 (.ofNat 0)), (.int .u32 (.ofNat 0)), (.int .u32 (.ofNat 0)), (.int .u32 (.ofNat 0)), (.int .u32 (.ofNat 0)), (.int .u32 (.ofNat 0)), (.int .u32 (.ofNat 0)), (.int .u32 (.ofNat 0)), (.int .u32 (.ofNat 0)), (.int .u32 (.ofNat 0)), (.int .u32 (.ofNat 0)), (.int .u32 (.ofNat 0)), (.int .u32 (.ofNat 0)), (.int .u32 (.ofNat 0)), (.int .u32 (.ofNat 0)), (.int .u32 (.ofNat 0)), (.int .u32 (.ofNat 0)), (.int .u32 (.ofNat 0)), (.int .u32 (.ofNat 0)), (.int .u32 (.ofNat 0)), (.int .u32 (.ofNat 0)), (.int .u32 (.ofNat 0)), (.int .u32 (.ofNat 0)), (.int .u32 (.ofNat 0)), (.int .u32 (.ofNat 0)), (.int .u32 (.ofNat 0)), (.int .u32 (.ofNat 0)), (.int .u32 (.ofNat 0)), (.int .u32 (.ofNat 0)), (.int .u32 (.ofNat 0)), (.int .u32 (.ofNat 0)), (.int .u32 (.ofNat 0)), (.int .u32 (.ofNat 0)), (.int .u32 (.ofNat 0)), (.int .u32 (.ofNat 0)), (.int .u32 (.ofNat 0)), (.int .u32 (.ofNat 0)), (.int .u32 (.ofNat 0)), (.int .u32 (.ofNat 0)), (.int .u32 (.ofNat 0)), (.int .u32 (.ofNat 0)), (.int .u32 (.ofNat 0)), (.int .u32 (.ofNat 0)), (.int .u32 (.ofNat 0)), (.int .u32 (.ofNat 0)), (.int .u32 (.ofNat 0)), (.int .u32 (.ofNat 0)), (.int .u32 (.ofNat 0)), (.int .u32 (.ofNat 0)), (.int .u32 (.ofNat 0)), (.int .u32 (.ofNat 0)), (.int .u32 (.ofNat 0)), (.int .u32 (.ofNat 0)), (.int .u32 (.ofNat 0)), (.int .u32 (.ofNat 0)), (.int .u32 (.ofNat 0)), (.int .u32 (.ofNat 0)), (.int .u32 (.ofNat 0)), (.int .u32 (.ofNat 0)), (.int .u32 (.ofNat 0)), (.int .u32 (.ofNat 0)), (.int .u32 (.ofNat 0)), (.int .u32 (.ofNat 0)), (.int .u32 (.ofNat 0)), (.int .u32 (.ofNat 0)), (.int .u32 (.ofNat 0)), (.int .u32 (.ofNat 0)), (.int .u32 (.ofNat 0)), (.int .u32 (.ofNat 0)), (.int .u32 (.ofNat 0))])), none⟩]
abbrev c_digest_Digest_Add_2 : XC := XC.region [⟨(some (ixOf 7)), (.p (.mov (.t (ixOf 0)))), none⟩,
  ⟨(some (ixOf 8)), (.e (.call 221 [(.t (ixOf 4))])), none⟩,
  ⟨(some (ixOf 9)), (.p (.mov (.t (ixOf 1)))), none⟩,
  ⟨(some (ixOf 10)), (.e (.call 220 [(.t (ixOf 7)), (.t (ixOf 8)), (.t (ixOf 9))])), none⟩]
abbrev c_digest_Digest_Add_3 : XC := XC.seq c_digest_Digest_Add_1 c_digest_Digest_Add_2
abbrev c_digest_Digest_Add_4 : XC := XC.cond (.t (ixOf 6)) c_digest_Digest_Add_3 .skip
abbrev c_digest_Digest_Add_5 : XC := XC.seq c_digest_Digest_Add_0 c_digest_Digest_Add_4
abbrev x_digest_Digest_Add : XFn := ⟨[], c_digest_Digest_Add_5⟩
theorem mk_digest_Digest_Add : mkFn tyT.get Tryz.f180 = some x_digest_Digest_Add := by kernel_rfl
theorem fn_digest_Digest_Add : E0.fn n_digest_Digest_Add = some (.fn x_digest_Digest_Add) := fn_of (by kernel_rfl) mk_digest_Digest_Add
-- (*escutcheon/digest.Digest).Sum
abbrev n_digest_Digest_Sum : Nat := 181
abbrev c_digest_Digest_Sum_0 : XC := XC.region [⟨(some (ixOf 2)), (.p (.mov (.c (.str [])))), none⟩]
abbrev c_digest_Digest_Sum_1 : XC := XC.region [⟨(some (ixOf 9)), (.p (.mov (.t (ixOf 0)))), none⟩,
  ⟨(some (ixOf 10)), (.p (.bin (.ptr 290) .eql (.t (ixOf 9)) (.c .nilp))), none⟩]
abbrev c_digest_Digest_Sum_2 : XC := XC.region [⟨(some (ixOf 2)), (.p (.mov (.c (.str [])))), none⟩]
abbrev c_digest_Digest_Sum_3 : XC := XC.seq c_digest_Digest_Sum_2 .ret
abbrev c_digest_Digest_Sum_4 : XC := XC.cond (.t (ixOf 10)) c_digest_Digest_Sum_3 .skip
abbrev c_digest_Digest_Sum_5 : XC := XC.seq c_digest_Digest_Sum_1 c_digest_Digest_Sum_4
abbrev c_digest_Digest_Sum_6 : XC := XC.region [⟨(some (ixOf 3)), (.a (.alloc 336 [(.int .u32 (.ofNat 0)), (.int .i32 (.ofNat 0)), (.int .u32 (.ofNat 0)), (.int .u32 (.ofNat 0)), (.int .u32 (.ofNat 0)), (.int .u32 (.ofNat 0)), (.int .u32 (.ofNat 0)), (.int .u32 (.ofNat 0)), (.int .u32 (.ofNat 0)), (.int .u32 (.ofNat 0)), (.int .u32 (.ofNat 0)), (.int .u32 (.ofNat 0)), (.int .u32 (.ofNat 0)), (.int .u32 (.ofNat 0)), (.int .u32 (.ofNat 0)), (.int .u32 (.ofNat 0)), (.int .u32 (.ofNat 0)), (.int .u32 (.ofNat 0)), (.int .u32 (.ofNat 0)), (.int .u32 (.ofNat 0)), (.int .u32 (.ofNat 0)), (.int .u32 (.ofNat 0)), (.int .u32 (.ofNat 0)), (.int .u32 (.ofNat 0)), (.int .u32 (.ofNat 0)), (.int .u32 (.ofNat 0)), (.int .u32 (.ofNat 0)), (.int .u32 (.ofNat 0)), (.int .u32 (.ofNat 0)), (.int .u32 (.ofNat 0)), (.int .u32 (.ofNat 0)), (.int .u32 (.ofNat 0)), (.int .u32 (.ofNat 0)), (.int .u32 (.ofNat 0)), (.int .u32 (.ofNat 0)), (.int .u32 (.ofNat 0)), (.int .u32 (.ofNat 0)), (.int .u32 (.ofNat 0)), (.int .u32 (.ofNat 0)), (.int .u32 (.ofNat 0)), (.int .u32 (.ofNat 0)), (.int .u32 (.ofNat 0)), (.int .u32 (.ofNat 0)), (.int .u32 (.ofNat 0)), (.int .u32 (.ofNat 0)), (.int .u32 (.ofNat 0)), (.int .u32 (.ofNat 0)), (.int .u32 (.ofNat 0)), (.int .u32 (.ofNat 0)), (.int .u32 (.ofNat 0)), (.int .u32 (.ofNat 0)), (.int .u32 (.ofNat 0)), (.int .u32 (.ofNat 0)), (.int .u32 (.ofNat 0)), (.int .u32 (.ofNat 0)), (.int .u32 (.ofNat 0)), (.int .u32 (.ofNat 0)), (.int .u32 (.ofNat 0)), (.int .u32 (.ofNat 0)), (.int .u32 (.ofNat 0)), (.int .u32 (.ofNat 0)), (.int .u32 (.ofNat 0)), (.int .u32 (.ofNat 0)), (.int .u32 (.ofNat 0)), (.int .u32 (.ofNat 0)), (.int .u32 (.ofNat 0)), (.int .u32 (.ofNat 0)), (.int .u32 (.ofNat 0)), (.int .u32 (.ofNat 0)), (.int .u32 (.ofNat 0)), (.int .u32 (.ofNat 0)), (.int .u32 (.ofNat 0)), (.int .u32 (.ofNat 0)), (.int .u32 (.ofNat 0)), (.int .u32 (.ofNat 0))])), none⟩]
abbrev c_digest_Digest_Sum_7 : XC := XC.region [⟨(some (ixOf 11)), (.p (.mov (.t (ixOf 0)))), none⟩,
  ⟨(some (ixOf 12)), (.p (.nilCheck (.t (ixOf 11)))), none⟩,
  ⟨(some (ixOf 13)), (.r (.load (.many 11) (.t (ixOf 12)))), none⟩,
  ⟨(some (ixOf 4)), (.a (.alloc 290 [(.bool false), (.int .u32 (.ofNat 0)), (.int .u32 (.ofNat 0)), (.int .u32 (.ofNat 0)), (.int .u32 (.ofNat 0)), (.int .u32 (.ofNat 0)), (.int .u32 (.ofNat 0)), (.int .u32 (.ofNat 0)), (.int .u32 (.ofNat 0)), (.str []), (.int .i64 (.ofNat 0))])), none⟩,
  ⟨none, (.e (.store 11 (.t (ixOf 4)) (.t (ixOf 13)))), none⟩]
abbrev c_digest_Digest_Sum_8 : XC := XC.region [⟨(some (ixOf 14)), (.p (.mov (.t (ixOf 0)))), none⟩,
  ⟨(some (ixOf 15)), (.p (.nilCheck (.t (ixOf 14)))), none⟩,
  ⟨(some (ixOf 16)), (.p (.addr 10 (.t (ixOf 15)))), none⟩,
  ⟨(some (ixOf 17)), (.r (.load .one (.t (ixOf 16)))), none⟩,
  ⟨(some (ixOf 18)), (.p (.bin (.int .i64) .rem (.t (ixOf 17)) (.c (.int .i64 (.ofNat 64))))), none⟩,
  ⟨(some (ixOf 19)), (.p (.bin (.int .i64) .sub (.c (.int .i64 (.ofNat 119))) (.t (ixOf 18)))), none⟩,
  ⟨(some (ixOf 20)), (.p (.bin (.int .i64) .rem (.t (ixOf 19)) (.c (.int .i64 (.ofNat 64))))), none⟩,
  ⟨(some (ixOf 5)), (.p (.mov (.t (ixOf 20)))), none⟩]
abbrev c_digest_Digest_Sum_9 : XC := XC.drawn [⟨0, ⟨(some (ixOf 21)), (.e (.call 221 [(.t (ixOf 3))])), none⟩, 0, 1, []⟩,
  ⟨1, ⟨(some (ixOf 22)), (.p (.mov (.t (ixOf 5)))), none⟩, 0, 1, []⟩,
  ⟨2, ⟨(some (ixOf 23)), (.e (.call 41 [(.c (.str [0])), (.t (ixOf 22))])), none⟩, 1, 2, []⟩,
  ⟨4, ⟨(some (ixOf 25)), (.p (.mov (.t (ixOf 0)))), none⟩, 0, 2, []⟩,
  ⟨5, ⟨(some (ixOf 26)), (.p (.nilCheck (.t (ixOf 25)))), none⟩, 0, 2, []⟩,
  ⟨6, ⟨(some (ixOf 27)), (.p (.addr 10 (.t (ixOf 26)))), none⟩, 0, 2, []⟩,
  ⟨7, ⟨(some (ixOf 28)), (.r (.load .one (.t (ixOf 27)))), none⟩, 0, 2, []⟩,
  ⟨8, ⟨(some (ixOf 29)), (.p (.convI .u64 (.t (ixOf 28)))), none⟩, 0, 2, []⟩,
  ⟨9, ⟨(some (ixOf 30)), (.p (.bin (.int .u64) .mul (.t (ixOf 29)) (.c (.int .u64 (.ofNat 8))))), none⟩, 0, 2, []⟩,
  ⟨10, ⟨(some (ixOf 31)), (.e (.call 17 [(.t (ixOf 30)), (.c (.int .i64 (.ofNat 8)))])), none⟩, 2, 3, []⟩,
  ⟨3, ⟨(some (ixOf 24)), (.p (.bin .str .add (.c (.str [128])) (.t (ixOf 23)))), none⟩, 2, 3, []⟩,
  ⟨11, ⟨(some (ixOf 32)), (.p (.bin .str .add (.t (ixOf 24)) (.t (ixOf 31)))), none⟩, 3, 3, []⟩,
  ⟨12, ⟨(some (ixOf 33)), (.e (.call 220 [(.t (ixOf 4)), (.t (ixOf 21)), (.t (ixOf 32))])), none⟩, 3, 4, []⟩]
abbrev c_digest_Digest_Sum_10 : XC := XC.region [⟨(some (ixOf 6)), (.a (.alloc 167 [.nilp, .nils])), none⟩]
abbrev c_digest_Digest_Sum_11 : XC := XC.region [⟨(some (ixOf 34)), (.p (.addr 1 (.t (ixOf 4)))), none⟩,
  ⟨(some (ixOf 35)), (.r (.load (.many 8) (.t (ixOf 34)))), none⟩,
  ⟨(some (ixOf 36)), (.p (.mov (.c (.int .i64 (.ofNat 0))))), none⟩]
abbrev c_digest_Digest_Sum_12 : XC := XC.region [⟨(some (ixOf 37)), (.p (.bin (.int .i64) .lss (.t (ixOf 36)) (.c (.int .i64 (.ofNat 8))))), none⟩]
abbrev c_digest_Digest_Sum_13 : XC := XC.cond (.t (ixOf 37)) .skip (.exit 0)
abbrev c_digest_Digest_Sum_14 : XC := XC.region [⟨(some (ixOf 38)), (.p (.ixAgg .one 8 1 (.t (ixOf 35)) (.t (ixOf 36)))), none⟩,
  ⟨(some (ixOf 8)), (.p (.mov (.t (ixOf 38)))), none⟩]
abbrev c_digest_Digest_Sum_15 : XC := XC.region [⟨(some (ixOf 39)), (.p (.mov (.t (ixOf 8)))), none⟩,
  ⟨(some (ixOf 40)), (.p (.convI .u64 (.t (ixOf 39)))), none⟩,
  ⟨(some (ixOf 41)), (.e (.call 17 [(.t (ixOf 40)), (.c (.int .i64 (.ofNat 4)))])), none⟩,
  ⟨(some (ixOf 42)), (.e (.call 80 [(.t (ixOf 6)), (.t (ixOf 41))])), none⟩]
abbrev c_digest_Digest_Sum_16 : XC := XC.seq c_digest_Digest_Sum_14 c_digest_Digest_Sum_15
abbrev c_digest_Digest_Sum_17 : XC := XC.block 1 c_digest_Digest_Sum_16
abbrev c_digest_Digest_Sum_18 : XC := XC.region [⟨(some (ixOf 43)), (.p (.bin (.int .i64) .add (.t (ixOf 36)) (.c (.int .i64 (.ofNat 1))))), none⟩,
  ⟨(some (ixOf 36)), (.p (.mov (.t (ixOf 43)))), none⟩]
abbrev c_digest_Digest_Sum_19 : XC := XC.seq c_digest_Digest_Sum_17 c_digest_Digest_Sum_18
abbrev c_digest_Digest_Sum_20 : XC := XC.seq c_digest_Digest_Sum_13 c_digest_Digest_Sum_19
abbrev c_digest_Digest_Sum_21 : XC := XC.seq c_digest_Digest_Sum_12 c_digest_Digest_Sum_20
abbrev c_digest_Digest_Sum_22 : XC := XC.loop c_digest_Digest_Sum_21
abbrev c_digest_Digest_Sum_23 : XC := XC.block 0 c_digest_Digest_Sum_22
abbrev c_digest_Digest_Sum_24 : XC := XC.seq c_digest_Digest_Sum_11 c_digest_Digest_Sum_23
abbrev c_digest_Digest_Sum_25 : XC := XC.region [⟨(some (ixOf 44)), (.e (.call 82 [(.t (ixOf 6))])), none⟩,
  ⟨(some (ixOf 2)), (.p (.mov (.t (ixOf 44)))), none⟩]
abbrev c_digest_Digest_Sum_26 : XC := XC.seq c_digest_Digest_Sum_25 .ret
abbrev c_digest_Digest_Sum_27 : XC := XC.seq c_digest_Digest_Sum_24 c_digest_Digest_Sum_26
abbrev c_digest_Digest_Sum_28 : XC := XC.seq c_digest_Digest_Sum_10 c_digest_Digest_Sum_27
abbrev c_digest_Digest_Sum_29 : XC := XC.seq c_digest_Digest_Sum_9 c_digest_Digest_Sum_28
abbrev c_digest_Digest_Sum_30 : XC := XC.seq c_digest_Digest_Sum_8 c_digest_Digest_Sum_29
abbrev c_digest_Digest_Sum_31 : XC := XC.seq c_digest_Digest_Sum_7 c_digest_Digest_Sum_30
abbrev c_digest_Digest_Sum_32 : XC := XC.seq c_digest_Digest_Sum_6 c_digest_Digest_Sum_31
abbrev c_digest_Digest_Sum_33 : XC := XC.seq c_digest_Digest_Sum_5 c_digest_Digest_Sum_32
abbrev c_digest_Digest_Sum_34 : XC := XC.seq c_digest_Digest_Sum_0 c_digest_Digest_Sum_33
abbrev x_digest_Digest_Sum : XFn := ⟨[.tmp (ixOf 2)], c_digest_Digest_Sum_34⟩
theorem mk_digest_Digest_Sum : mkFn tyT.get Tryz.f181 = some x_digest_Digest_Sum := by kernel_rfl
theorem fn_digest_Digest_Sum : E0.fn n_digest_Digest_Sum = some (.fn x_digest_Digest_Sum) := fn_of (by kernel_rfl) mk_digest_Digest_Sum
-- escutcheon/digest.Sum
abbrev n_digest_Sum : Nat := 129
abbrev c_digest_Sum_0 : XC := XC.region [⟨(some (ixOf 2)), (.p (.mov (.c (.str [])))), none⟩]
abbrev c_digest_Sum_1 : XC := XC.region [⟨(some (ixOf 3)), (.a (.alloc 290 [(.bool false), (.int .u32 (.ofNat 0)), (.int .u32 (.ofNat 0)), (.int .u32 (.ofNat 0)), (.int .u32 (.ofNat 0)), (.int .u32 (.ofNat 0)), (.int .u32 (.ofNat 0)), (.int .u32 (.ofNat 0)), (.int .u32 (.ofNat 0)), (.str []), (.int .i64 (.ofNat 0))])), none⟩]
abbrev c_digest_Sum_2 : XC := XC.region [⟨(some (ixOf 4)), (.p (.mov (.t (ixOf 0)))), none⟩,
  ⟨(some (ixOf 5)), (.e (.call 180 [(.t (ixOf 3)), (.t (ixOf 4))])), none⟩]
abbrev c_digest_Sum_3 : XC := XC.region [⟨(some (ixOf 6)), (.e (.call 181 [(.t (ixOf 3))])), none⟩,
  ⟨(some (ixOf 2)), (.p (.mov (.t (ixOf 6)))), none⟩]
abbrev c_digest_Sum_4 : XC := XC.seq c_digest_Sum_3 .ret
abbrev c_digest_Sum_5 : XC := XC.seq c_digest_Sum_2 c_digest_Sum_4
abbrev c_digest_Sum_6 : XC := XC.seq c_digest_Sum_1 c_digest_Sum_5
abbrev c_digest_Sum_7 : XC := XC.seq c_digest_Sum_0 c_digest_Sum_6
abbrev x_digest_Sum : XFn := ⟨[.tmp (ixOf 2)], c_digest_Sum_7⟩
theorem mk_digest_Sum : mkFn tyT.get Tryz.f129 = some x_digest_Sum := by kernel_rfl
theorem fn_digest_Sum : E0.fn n_digest_Sum = some (.fn x_digest_Sum) := fn_of (by kernel_rfl) mk_digest_Sum
-- escutcheon/octet.PutBig
abbrev n_octet_PutBig : Nat := 17
abbrev c_octet_PutBig_0 : XC := XC.region [⟨(some (ixOf 4)), (.p (.mov (.c (.str [])))), none⟩]
abbrev c_octet_PutBig_1 : XC := XC.region [⟨(some (ixOf 7)), (.p (.mov (.t (ixOf 1)))), none⟩,
  ⟨(some (ixOf 8)), (.p (.bin (.int .i64) .lss (.t (ixOf 7)) (.c (.int .i64 (.ofNat 1))))), none⟩,
  ⟨(some (ixOf 9)), (.p (.mov (.t (ixOf 8)))), none⟩,
  ⟨(some (ixOf 10)), (.p (.mov (.t (ixOf 1)))), (some ((ixOf 9), false))⟩,
  ⟨(some (ixOf 11)), (.p (.bin (.int .i64) .gtr (.t (ixOf 10)) (.c (.int .i64 (.ofNat 8))))), (some ((ixOf 9), false))⟩,
  ⟨(some (ixOf 12)), (.p (.pick (.t (ixOf 9)) (.c (.bool true)) (.t (ixOf 11)))), none⟩]
abbrev c_octet_PutBig_2 : XC := XC.region [⟨(some (ixOf 4)), (.p (.mov (.c (.str [])))), none⟩]
abbrev c_octet_PutBig_3 : XC := XC.seq c_octet_PutBig_2 .ret
abbrev c_octet_PutBig_4 : XC := XC.cond (.t (ixOf 12)) c_octet_PutBig_3 .skip
abbrev c_octet_PutBig_5 : XC := XC.seq c_octet_PutBig_1 c_octet_PutBig_4
abbrev c_octet_PutBig_6 : XC := XC.region [⟨(some (ixOf 13)), (.p (.mov (.t (ixOf 1)))), none⟩,
  ⟨(some (ixOf 14)), (.a (.makeSlice 1 [(.int .u8 (.ofNat 0))] 1 (.t (ixOf 13)) (.t (ixOf 13)))), none⟩,
  ⟨(some (ixOf 5)), (.p (.mov (.t (ixOf 14)))), none⟩]
abbrev c_octet_PutBig_7 : XC := XC.region [⟨(some (ixOf 15)), (.p (.mov (.t (ixOf 5)))), none⟩,
  ⟨(some (ixOf 16)), (.r (.len (.slice 5) (.t (ixOf 15)))), none⟩,
  ⟨(some (ixOf 17)), (.p (.mov (.c (.int .i64 (.ofNat 0))))), none⟩]
abbrev c_octet_PutBig_8 : XC := XC.region [⟨(some (ixOf 18)), (.p (.bin (.int .i64) .lss (.t (ixOf 17)) (.t (ixOf 16)))), none⟩]
abbrev c_octet_PutBig_9 : XC := XC.cond (.t (ixOf 18)) .skip (.exit 0)
abbrev c_octet_PutBig_10 : XC := XC.region [⟨(some (ixOf 19)), (.p (.mov (.t (ixOf 17)))), none⟩,
  ⟨(some (ixOf 6)), (.p (.mov (.t (ixOf 19)))), none⟩]
abbrev c_octet_PutBig_11 : XC := XC.region [⟨(some (ixOf 20)), (.p (.mov (.t (ixOf 5)))), none⟩,
  ⟨(some (ixOf 21)), (.p (.mov (.t (ixOf 1)))), none⟩,
  ⟨(some (ixOf 22)), (.p (.bin (.int .i64) .sub (.t (ixOf 21)) (.c (.int .i64 (.ofNat 1))))), none⟩,
  ⟨(some (ixOf 23)), (.p (.mov (.t (ixOf 6)))), none⟩,
  ⟨(some (ixOf 24)), (.p (.bin (.int .i64) .sub (.t (ixOf 22)) (.t (ixOf 23)))), none⟩,
  ⟨(some (ixOf 25)), (.p (.mov (.t (ixOf 0)))), none⟩,
  ⟨(some (ixOf 26)), (.p (.mov (.t (ixOf 6)))), none⟩,
  ⟨(some (ixOf 27)), (.p (.bin (.int .i64) .mul (.c (.int .i64 (.ofNat 8))) (.t (ixOf 26)))), none⟩,
  ⟨(some (ixOf 28)), (.p (.bin (.int .u64) .shr (.t (ixOf 25)) (.t (ixOf 27)))), none⟩,
  ⟨(some (ixOf 29)), (.p (.convI .u8 (.t (ixOf 28)))), none⟩,
  ⟨(some (ixOf 30)), (.p (.idxL 1 (.t (ixOf 20)) (.t (ixOf 24)))), none⟩,
  ⟨none, (.e (.store 1 (.t (ixOf 30)) (.t (ixOf 29)))), none⟩]
abbrev c_octet_PutBig_12 : XC := XC.seq c_octet_PutBig_10 c_octet_PutBig_11
abbrev c_octet_PutBig_13 : XC := XC.block 1 c_octet_PutBig_12
abbrev c_octet_PutBig_14 : XC := XC.region [⟨(some (ixOf 31)), (.p (.bin (.int .i64) .add (.t (ixOf 17)) (.c (.int .i64 (.ofNat 1))))), none⟩,
  ⟨(some (ixOf 17)), (.p (.mov (.t (ixOf 31)))), none⟩]
abbrev c_octet_PutBig_15 : XC := XC.seq c_octet_PutBig_13 c_octet_PutBig_14
abbrev c_octet_PutBig_16 : XC := XC.seq c_octet_PutBig_9 c_octet_PutBig_15
abbrev c_octet_PutBig_17 : XC := XC.seq c_octet_PutBig_8 c_octet_PutBig_16
abbrev c_octet_PutBig_18 : XC := XC.loop c_octet_PutBig_17
abbrev c_octet_PutBig_19 : XC := XC.block 0 c_octet_PutBig_18
abbrev c_octet_PutBig_20 : XC := XC.seq c_octet_PutBig_7 c_octet_PutBig_19
abbrev c_octet_PutBig_21 : XC := XC.region [⟨(some (ixOf 32)), (.p (.mov (.t (ixOf 5)))), none⟩,
  ⟨(some (ixOf 33)), (.r (.convBS (.t (ixOf 32)))), none⟩,
  ⟨(some (ixOf 4)), (.p (.mov (.t (ixOf 33)))), none⟩]
abbrev c_octet_PutBig_22 : XC := XC.seq c_octet_PutBig_21 .ret
abbrev c_octet_PutBig_23 : XC := XC.seq c_octet_PutBig_20 c_octet_PutBig_22
abbrev c_octet_PutBig_24 : XC := XC.seq c_octet_PutBig_6 c_octet_PutBig_23
abbrev c_octet_PutBig_25 : XC := XC.seq c_octet_PutBig_5 c_octet_PutBig_24
abbrev c_octet_PutBig_26 : XC := XC.seq c_octet_PutBig_0 c_octet_PutBig_25
abbrev x_octet_PutBig : XFn := ⟨[.tmp (ixOf 4)], c_octet_PutBig_26⟩
theorem mk_octet_PutBig : mkFn tyT.get Tryz.f17 = some x_octet_PutBig := by kernel_rfl
theorem fn_octet_PutBig : E0.fn n_octet_PutBig = some (.fn x_octet_PutBig) := fn_of (by kernel_rfl) mk_octet_PutBig
-- (*strings.Builder).WriteString
abbrev n_strings_Builder_WriteString : Nat := 80
abbrev c_strings_Builder_WriteString_0 : XC := XC.region [⟨(some (ixOf 4)), (.p (.mov (.c (.int .i64 (.ofNat 0))))), none⟩,
  ⟨(some (ixOf 5)), (.p (.mov (.c .nili))), none⟩]
abbrev c_strings_Builder_WriteString_1 : XC := XC.region [⟨(some (ixOf 6)), (.p (.mov (.t (ixOf 0)))), none⟩,
  ⟨(some (ixOf 7)), (.e (.call 134 [(.t (ixOf 6))])), none⟩]
abbrev c_strings_Builder_WriteString_2 : XC := XC.region [⟨(some (ixOf 8)), (.p (.mov (.t (ixOf 0)))), none⟩,
  ⟨(some (ixOf 9)), (.p (.mov (.t (ixOf 0)))), none⟩,
  ⟨(some (ixOf 10)), (.p (.nilCheck (.t (ixOf 9)))), none⟩,
  ⟨(some (ixOf 11)), (.p (.addr 1 (.t (ixOf 10)))), none⟩,
  ⟨(some (ixOf 12)), (.r (.load .one (.t (ixOf 11)))), none⟩,
  ⟨(some (ixOf 13)), (.p (.mov (.t (ixOf 1)))), none⟩,
  ⟨(some (ixOf 14)), (.e (.append 1 1 5 (.t (ixOf 12)) (.t (ixOf 13)))), none⟩,
  ⟨(some (ixOf 15)), (.p (.nilCheck (.t (ixOf 8)))), none⟩,
  ⟨(some (ixOf 16)), (.p (.addr 1 (.t (ixOf 15)))), none⟩,
  ⟨none, (.e (.store 1 (.t (ixOf 16)) (.t (ixOf 14)))), none⟩]
abbrev c_strings_Builder_WriteString_3 : XC := XC.region [⟨(some (ixOf 17)), (.p (.mov (.t (ixOf 1)))), none⟩,
  ⟨(some (ixOf 18)), (.r (.len .str (.t (ixOf 17)))), none⟩,
  ⟨(some (ixOf 4)), (.p (.mov (.t (ixOf 18)))), none⟩,
  ⟨(some (ixOf 5)), (.p (.mov (.c .nili))), none⟩]
abbrev c_strings_Builder_WriteString_4 : XC := XC.seq c_strings_Builder_WriteString_3 .ret
abbrev c_strings_Builder_WriteString_5 : XC := XC.seq c_strings_Builder_WriteString_2 c_strings_Builder_WriteString_4
abbrev c_strings_Builder_WriteString_6 : XC := XC.seq c_strings_Builder_WriteString_1 c_strings_Builder_WriteString_5
abbrev c_strings_Builder_WriteString_7 : XC := XC.seq c_strings_Builder_WriteString_0 c_strings_Builder_WriteString_6
abbrev x_strings_Builder_WriteString : XFn := ⟨[.tmp (ixOf 4), .tmp (ixOf 5)], c_strings_Builder_WriteString_7⟩
theorem mk_strings_Builder_WriteString : mkFn tyT.get Tryz.f80 = some x_strings_Builder_WriteString := by kernel_rfl
theorem fn_strings_Builder_WriteString : E0.fn n_strings_Builder_WriteString = some (.fn x_strings_Builder_WriteString) := fn_of (by kernel_rfl) mk_strings_Builder_WriteString
-- escutcheon/digest.words
abbrev n_digest_words : Nat := 255
abbrev c_digest_words_0 : XC := XC.region [⟨(some (ixOf 8)), (.p (.mov (.t (ixOf 1)))), none⟩,
  ⟨(some (ixOf 9)), (.e (.call 287 [(.t (ixOf 8))])), none⟩,
  ⟨(some (ixOf 7)), (.p (.mov (.t (ixOf 9)))), none⟩,
  ⟨(some (ixOf 10)), (.p (.extract (.t (ixOf 7)) 0)), none⟩,
  ⟨(some (ixOf 11)), (.p (.extract (.t (ixOf 7)) 1)), none⟩,
  ⟨(some (ixOf 4)), (.p (.mov (.t (ixOf 10)))), none⟩,
  ⟨(some (ixOf 5)), (.p (.mov (.t (ixOf 11)))), none⟩]
abbrev c_digest_words_1 : XC := XC.region [⟨(some (ixOf 12)), (.p (.mov (.t (ixOf 0)))), none⟩,
  ⟨(some (ixOf 13)), (.r (.len (.slice 110) (.t (ixOf 12)))), none⟩,
  ⟨(some (ixOf 14)), (.p (.mov (.c (.int .i64 (.ofNat 0))))), none⟩]
abbrev c_digest_words_2 : XC := XC.region [⟨(some (ixOf 15)), (.p (.bin (.int .i64) .lss (.t (ixOf 14)) (.t (ixOf 13)))), none⟩]
abbrev c_digest_words_3 : XC := XC.cond (.t (ixOf 15)) .skip (.exit 0)
abbrev c_digest_words_4 : XC := XC.region [⟨(some (ixOf 16)), (.p (.mov (.t (ixOf 14)))), none⟩,
  ⟨(some (ixOf 6)), (.p (.mov (.t (ixOf 16)))), none⟩]
abbrev c_digest_words_5 : XC := XC.region [⟨(some (ixOf 17)), (.p (.mov (.t (ixOf 0)))), none⟩,
  ⟨(some (ixOf 18)), (.p (.mov (.t (ixOf 6)))), none⟩,
  ⟨(some (ixOf 19)), (.p (.mov (.t (ixOf 4)))), none⟩,
  ⟨(some (ixOf 20)), (.p (.mov (.t (ixOf 6)))), none⟩,
  ⟨(some (ixOf 21)), (.p (.bin (.int .i64) .mul (.c (.int .i64 (.ofNat 4))) (.t (ixOf 20)))), none⟩,
  ⟨(some (ixOf 22)), (.p (.mov (.t (ixOf 6)))), none⟩,
  ⟨(some (ixOf 23)), (.p (.bin (.int .i64) .mul (.c (.int .i64 (.ofNat 4))) (.t (ixOf 22)))), none⟩,
  ⟨(some (ixOf 24)), (.p (.bin (.int .i64) .add (.t (ixOf 23)) (.c (.int .i64 (.ofNat 4))))), none⟩,
  ⟨(some (ixOf 25)), (.p (.sliceS (.t (ixOf 19)) (some (.t (ixOf 21))) (some (.t (ixOf 24))))), none⟩,
  ⟨(some (ixOf 26)), (.e (.call 22 [(.t (ixOf 25))])), none⟩,
  ⟨(some (ixOf 27)), (.p (.convI .u32 (.t (ixOf 26)))), none⟩,
  ⟨(some (ixOf 28)), (.p (.idxL 1 (.t (ixOf 17)) (.t (ixOf 18)))), none⟩,
  ⟨none, (.e (.store 1 (.t (ixOf 28)) (.t (ixOf 27)))), none⟩]
abbrev c_digest_words_6 : XC := XC.seq c_digest_words_4 c_digest_words_5
abbrev c_digest_words_7 : XC := XC.block 1 c_digest_words_6
abbrev c_digest_words_8 : XC := XC.region [⟨(some (ixOf 29)), (.p (.bin (.int .i64) .add (.t (ixOf 14)) (.c (.int .i64 (.ofNat 1))))), none⟩,
  ⟨(some (ixOf 14)), (.p (.mov (.t (ixOf 29)))), none⟩]
abbrev c_digest_words_9 : XC := XC.seq c_digest_words_7 c_digest_words_8
abbrev c_digest_words_10 : XC := XC.seq c_digest_words_3 c_digest_words_9
abbrev c_digest_words_11 : XC := XC.seq c_digest_words_2 c_digest_words_10
abbrev c_digest_words_12 : XC := XC.loop c_digest_words_11
abbrev c_digest_words_13 : XC := XC.block 0 c_digest_words_12
abbrev c_digest_words_14 : XC := XC.seq c_digest_words_1 c_digest_words_13
abbrev c_digest_words_15 : XC := XC.seq c_digest_words_0 c_digest_words_14
abbrev x_digest_words : XFn := ⟨[], c_digest_words_15⟩
theorem mk_digest_words : mkFn tyT.get Tryz.f255 = some x_digest_words := by kernel_rfl
theorem fn_digest_words : E0.fn n_digest_words = some (.fn x_digest_words) := fn_of (by kernel_rfl) mk_digest_words
-- escutcheon/octet.Unhex
abbrev n_octet_Unhex : Nat := 287
abbrev c_octet_Unhex_0 : XC := XC.region [⟨(some (ixOf 2)), (.p (.mov (.c (.str [])))), none⟩,
  ⟨(some (ixOf 3)), (.p (.mov (.c (.bool false)))), none⟩]
abbrev c_octet_Unhex_1 : XC := XC.region [⟨(some (ixOf 8)), (.p (.mov (.t (ixOf 0)))), none⟩,
  ⟨(some (ixOf 9)), (.r (.len .str (.t (ixOf 8)))), none⟩,
  ⟨(some (ixOf 10)), (.p (.bin (.int .i64) .rem (.t (ixOf 9)) (.c (.int .i64 (.ofNat 2))))), none⟩,
  ⟨(some (ixOf 11)), (.p (.bin (.int .i64) .neq (.t (ixOf 10)) (.c (.int .i64 (.ofNat 0))))), none⟩]
abbrev c_octet_Unhex_2 : XC := XC.region [⟨(some (ixOf 2)), (.p (.mov (.c (.str [])))), none⟩,
  ⟨(some (ixOf 3)), (.p (.mov (.c (.bool false)))), none⟩]
abbrev c_octet_Unhex_3 : XC := XC.seq c_octet_Unhex_2 .ret
abbrev c_octet_Unhex_4 : XC := XC.cond (.t (ixOf 11)) c_octet_Unhex_3 .skip
abbrev c_octet_Unhex_5 : XC := XC.seq c_octet_Unhex_1 c_octet_Unhex_4
abbrev c_octet_Unhex_6 : XC := XC.region [⟨(some (ixOf 12)), (.p (.mov (.t (ixOf 0)))), none⟩,
  ⟨(some (ixOf 13)), (.r (.len .str (.t (ixOf 12)))), none⟩,
  ⟨(some (ixOf 14)), (.p (.bin (.int .i64) .quo (.t (ixOf 13)) (.c (.int .i64 (.ofNat 2))))), none⟩,
  ⟨(some (ixOf 15)), (.a (.makeSlice 1 [(.int .u8 (.ofNat 0))] 1 (.c (.int .i64 (.ofNat 0))) (.t (ixOf 14)))), none⟩,
  ⟨(some (ixOf 4)), (.p (.mov (.t (ixOf 15)))), none⟩]
abbrev c_octet_Unhex_7 : XC := XC.region [⟨(some (ixOf 5)), (.p (.mov (.c (.int .i64 (.ofNat 0))))), none⟩]
abbrev c_octet_Unhex_8 : XC := XC.region [⟨(some (ixOf 16)), (.p (.mov (.t (ixOf 5)))), none⟩,
  ⟨(some (ixOf 17)), (.p (.mov (.t (ixOf 0)))), none⟩,
  ⟨(some (ixOf 18)), (.r (.len .str (.t (ixOf 17)))), none⟩,
  ⟨(some (ixOf 19)), (.p (.bin (.int .i64) .lss (.t (ixOf 16)) (.t (ixOf 18)))), none⟩]
abbrev c_octet_Unhex_9 : XC := XC.cond (.t (ixOf 19)) .skip (.exit 0)
abbrev c_octet_Unhex_10 : XC := XC.seq c_octet_Unhex_8 c_octet_Unhex_9
abbrev c_octet_Unhex_11 : XC := XC.drawn [⟨0, ⟨(some (ixOf 22)), (.p (.mov (.t (ixOf 0)))), none⟩, 0, 0, []⟩,
  ⟨1, ⟨(some (ixOf 23)), (.p (.mov (.t (ixOf 5)))), none⟩, 0, 0, []⟩,
  ⟨2, ⟨(some (ixOf 24)), (.p (.ixStr (.t (ixOf 22)) (.t (ixOf 23)))), none⟩, 0, 0, []⟩,
  ⟨3, ⟨(some (ixOf 25)), (.e (.call 321 [(.t (ixOf 24))])), none⟩, 0, 1, []⟩,
  ⟨4, ⟨(some (ixOf 26)), (.p (.mov (.t (ixOf 0)))), none⟩, 0, 1, []⟩,
  ⟨5, ⟨(some (ixOf 27)), (.p (.mov (.t (ixOf 5)))), none⟩, 0, 1, []⟩,
  ⟨6, ⟨(some (ixOf 28)), (.p (.bin (.int .i64) .add (.t (ixOf 27)) (.c (.int .i64 (.ofNat 1))))), none⟩, 0, 1, []⟩,
  ⟨7, ⟨(some (ixOf 29)), (.p (.ixStr (.t (ixOf 26)) (.t (ixOf 28)))), none⟩, 0, 1, []⟩,
  ⟨8, ⟨(some (ixOf 30)), (.e (.call 321 [(.t (ixOf 29))])), none⟩, 1, 2, []⟩,
  ⟨9, ⟨(some (ixOf 6)), (.p (.mov (.t (ixOf 25)))), none⟩, 2, 2, []⟩,
  ⟨10, ⟨(some (ixOf 7)), (.p (.mov (.t (ixOf 30)))), none⟩, 2, 2, []⟩]
abbrev c_octet_Unhex_12 : XC := XC.region [⟨(some (ixOf 31)), (.p (.mov (.t (ixOf 6)))), none⟩,
  ⟨(some (ixOf 32)), (.p (.bin (.int .i64) .lss (.t (ixOf 31)) (.c (.int .i64 (.ofNat 0))))), none⟩,
  ⟨(some (ixOf 33)), (.p (.mov (.t (ixOf 32)))), none⟩,
  ⟨(some (ixOf 34)), (.p (.mov (.t (ixOf 7)))), (some ((ixOf 33), false))⟩,
  ⟨(some (ixOf 35)), (.p (.bin (.int .i64) .lss (.t (ixOf 34)) (.c (.int .i64 (.ofNat 0))))), (some ((ixOf 33), false))⟩,
  ⟨(some (ixOf 36)), (.p (.pick (.t (ixOf 33)) (.c (.bool true)) (.t (ixOf 35)))), none⟩]
abbrev c_octet_Unhex_13 : XC := XC.region [⟨(some (ixOf 2)), (.p (.mov (.c (.str [])))), none⟩,
  ⟨(some (ixOf 3)), (.p (.mov (.c (.bool false)))), none⟩]
abbrev c_octet_Unhex_14 : XC := XC.seq c_octet_Unhex_13 .ret
abbrev c_octet_Unhex_15 : XC := XC.cond (.t (ixOf 36)) c_octet_Unhex_14 .skip
abbrev c_octet_Unhex_16 : XC := XC.seq c_octet_Unhex_12 c_octet_Unhex_15
abbrev c_octet_Unhex_17 : XC := XC.region [⟨(some (ixOf 37)), (.p (.mov (.t (ixOf 4)))), none⟩,
  ⟨(some (ixOf 38)), (.p (.mov (.t (ixOf 6)))), none⟩,
  ⟨(some (ixOf 39)), (.p (.bin (.int .i64) .shl (.t (ixOf 38)) (.c (.int .u64 (.ofNat 4))))), none⟩,
  ⟨(some (ixOf 40)), (.p (.mov (.t (ixOf 7)))), none⟩,
  ⟨(some (ixOf 41)), (.p (.bin (.int .i64) .or (.t (ixOf 39)) (.t (ixOf 40)))), none⟩,
  ⟨(some (ixOf 42)), (.p (.convI .u8 (.t (ixOf 41)))), none⟩,
  ⟨(some (ixOf 43)), (.a (.buildSlice 1 [(.int .u8 (.ofNat 0))] [(0, 1, (.t (ixOf 42)))] 1)), none⟩,
  ⟨(some (ixOf 44)), (.e (.append 1 1 5 (.t (ixOf 37)) (.t (ixOf 43)))), none⟩,
  ⟨(some (ixOf 4)), (.p (.mov (.t (ixOf 44)))), none⟩]
abbrev c_octet_Unhex_18 : XC := XC.seq c_octet_Unhex_16 c_octet_Unhex_17
abbrev c_octet_Unhex_19 : XC := XC.seq c_octet_Unhex_11 c_octet_Unhex_18
abbrev c_octet_Unhex_20 : XC := XC.block 1 c_octet_Unhex_19
abbrev c_octet_Unhex_21 : XC := XC.region [⟨(some (ixOf 20)), (.p (.mov (.t (ixOf 5)))), none⟩,
  ⟨(some (ixOf 21)), (.p (.bin (.int .i64) .add (.t (ixOf 20)) (.c (.int .i64 (.ofNat 2))))), none⟩,
  ⟨(some (ixOf 5)), (.p (.mov (.t (ixOf 21)))), none⟩]
abbrev c_octet_Unhex_22 : XC := XC.seq c_octet_Unhex_20 c_octet_Unhex_21
abbrev c_octet_Unhex_23 : XC := XC.seq c_octet_Unhex_10 c_octet_Unhex_22
abbrev c_octet_Unhex_24 : XC := XC.loop c_octet_Unhex_23
abbrev c_octet_Unhex_25 : XC := XC.block 0 c_octet_Unhex_24
abbrev c_octet_Unhex_26 : XC := XC.seq c_octet_Unhex_7 c_octet_Unhex_25
abbrev c_octet_Unhex_27 : XC := XC.region [⟨(some (ixOf 45)), (.p (.mov (.t (ixOf 4)))), none⟩,
  ⟨(some (ixOf 46)), (.r (.convBS (.t (ixOf 45)))), none⟩,
  ⟨(some (ixOf 2)), (.p (.mov (.t (ixOf 46)))), none⟩,
  ⟨(some (ixOf 3)), (.p (.mov (.c (.bool true)))), none⟩]
abbrev c_octet_Unhex_28 : XC := XC.seq c_octet_Unhex_27 .ret
abbrev c_octet_Unhex_29 : XC := XC.seq c_octet_Unhex_26 c_octet_Unhex_28
abbrev c_octet_Unhex_30 : XC := XC.seq c_octet_Unhex_6 c_octet_Unhex_29
abbrev c_octet_Unhex_31 : XC := XC.seq c_octet_Unhex_5 c_octet_Unhex_30
abbrev c_octet_Unhex_32 : XC := XC.seq c_octet_Unhex_0 c_octet_Unhex_31
abbrev x_octet_Unhex : XFn := ⟨[.tmp (ixOf 2), .tmp (ixOf 3)], c_octet_Unhex_32⟩
theorem mk_octet_Unhex : mkFn tyT.get Tryz.f287 = some x_octet_Unhex := by kernel_rfl
theorem fn_octet_Unhex : E0.fn n_octet_Unhex = some (.fn x_octet_Unhex) := fn_of (by kernel_rfl) mk_octet_Unhex
-- escutcheon/octet.digit
abbrev n_octet_digit : Nat := 321
abbrev c_octet_digit_0 : XC := XC.region [⟨(some (ixOf 2)), (.p (.mov (.c (.int .i64 (.ofNat 0))))), none⟩]
abbrev c_octet_digit_1 : XC := XC.region [⟨(some (ixOf 4)), (.p (.mov (.c (.int .i64 (.ofNat 0))))), none⟩]
abbrev c_octet_digit_2 : XC := XC.region [⟨(some (ixOf 5)), (.p (.bin (.int .i64) .lss (.t (ixOf 4)) (.c (.int .i64 (.ofNat 16))))), none⟩]
abbrev c_octet_digit_3 : XC := XC.cond (.t (ixOf 5)) .skip (.exit 0)
abbrev c_octet_digit_4 : XC := XC.region [⟨(some (ixOf 6)), (.p (.mov (.t (ixOf 4)))), none⟩,
  ⟨(some (ixOf 3)), (.p (.mov (.t (ixOf 6)))), none⟩]
abbrev c_octet_digit_5 : XC := XC.region [⟨(some (ixOf 7)), (.p (.mov (.t (ixOf 3)))), none⟩,
  ⟨(some (ixOf 8)), (.p (.ixStr (.c (.str [48, 49, 50, 51, 52, 53, 54, 55, 56, 57, 97, 98, 99, 100, 101, 102])) (.t (ixOf 7)))), none⟩,
  ⟨(some (ixOf 9)), (.p (.mov (.t (ixOf 0)))), none⟩,
  ⟨(some (ixOf 10)), (.p (.bin (.int .u8) .eql (.t (ixOf 8)) (.t (ixOf 9)))), none⟩]
abbrev c_octet_digit_6 : XC := XC.region [⟨(some (ixOf 11)), (.p (.mov (.t (ixOf 3)))), none⟩,
  ⟨(some (ixOf 2)), (.p (.mov (.t (ixOf 11)))), none⟩]
abbrev c_octet_digit_7 : XC := XC.seq c_octet_digit_6 .ret
abbrev c_octet_digit_8 : XC := XC.cond (.t (ixOf 10)) c_octet_digit_7 .skip
abbrev c_octet_digit_9 : XC := XC.seq c_octet_digit_5 c_octet_digit_8
abbrev c_octet_digit_10 : XC := XC.seq c_octet_digit_4 c_octet_digit_9
abbrev c_octet_digit_11 : XC := XC.block 1 c_octet_digit_10
abbrev c_octet_digit_12 : XC := XC.region [⟨(some (ixOf 12)), (.p (.bin (.int .i64) .add (.t (ixOf 4)) (.c (.int .i64 (.ofNat 1))))), none⟩,
  ⟨(some (ixOf 4)), (.p (.mov (.t (ixOf 12)))), none⟩]
abbrev c_octet_digit_13 : XC := XC.seq c_octet_digit_11 c_octet_digit_12
abbrev c_octet_digit_14 : XC := XC.seq c_octet_digit_3 c_octet_digit_13
abbrev c_octet_digit_15 : XC := XC.seq c_octet_digit_2 c_octet_digit_14
abbrev c_octet_digit_16 : XC := XC.loop c_octet_digit_15
abbrev c_octet_digit_17 : XC := XC.block 0 c_octet_digit_16
abbrev c_octet_digit_18 : XC := XC.seq c_octet_digit_1 c_octet_digit_17
abbrev c_octet_digit_19 : XC := XC.region [⟨(some (ixOf 2)), (.p (.mov (.c (.int .i64 (.negSucc 0))))), none⟩]
abbrev c_octet_digit_20 : XC := XC.seq c_octet_digit_19 .ret
abbrev c_octet_digit_21 : XC := XC.seq c_octet_digit_18 c_octet_digit_20
abbrev c_octet_digit_22 : XC := XC.seq c_octet_digit_0 c_octet_digit_21
abbrev x_octet_digit : XFn := ⟨[.tmp (ixOf 2)], c_octet_digit_22⟩
theorem mk_octet_digit : mkFn tyT.get Tryz.f321 = some x_octet_digit := by kernel_rfl
theorem fn_octet_digit : E0.fn n_octet_digit = some (.fn x_octet_digit) := fn_of (by kernel_rfl) mk_octet_digit
end Go.Proofs.XCode
end
section
namespace Go.Proofs.XCode
open Go.X
set_option linter.unusedSimpArgs false
set_option linter.unusedVariables false
theorem shr_lt {x n : Nat} (h : x < 4294967296) : x >>> n < 4294967296 := Nat.lt_of_le_of_lt (Nat.shiftRight_le x n) h
theorem or_lt {x y : Nat} (h : x < 4294967296) (h' : y < 4294967296) : x ||| y < 4294967296 := Nat.or_lt_two_pow (n := 32) h h'
theorem xor_lt {x y : Nat} (h : x < 4294967296) (h' : y < 4294967296) : x ^^^ y < 4294967296 := Nat.xor_lt_two_pow (n := 32) h h'
theorem and_lt {x y : Nat} (h : x < 4294967296) : x &&& y < 4294967296 := Nat.lt_of_le_of_lt Nat.and_le_left h
theorem mod_lt32 (x : Nat) : x % 4294967296 < 4294967296 := Nat.mod_lt _ (by decide)
def ror (x n : Nat) : Nat := (x <<< (32 - n)) % 4294967296 ||| x >>> n
theorem ror_lt {x n : Nat} (h : x < 4294967296) : ror x n < 4294967296 := or_lt (mod_lt32 _) (shr_lt h)
theorem rot32 (x n : Nat) (hx : x < 4294967296) (hn : n < 32) (h : XH) :
    CallEv E0 n_math_bits_RotateLeft32 [.int .u32 (.ofNat x), .int .i64 (.ofNat n)] h (fun r k => r = .int .u32 (.ofNat ((x <<< n) % 4294967296 ||| x >>> (32 - n))) ∧ k = h) := by
  have e1 : n % 18446744073709551616 &&& 31 % 18446744073709551616 = n := by
    rw [Nat.mod_eq_of_lt (by omega), show 31 % 18446744073709551616 = 2 ^ 5 - 1 from rfl, Nat.and_two_pow_sub_one_eq_mod, Nat.mod_eq_of_lt (by omega)]
  have e2 : n ≤ IntKind.u32.bits := by show n ≤ 32; omega
  have e3 : 32 - n ≤ IntKind.u32.bits := by show 32 - n ≤ 32; omega
  refine call_fn fn_math_bits_RotateLeft32 ?_
  simp only [args0_cons, args0_nil]
  repeat with_reducible first | refine nx ?_ | (refine nv ?_; simp (disch := first | omega | decide) only [bG, e1, e2, e3]; refine rg ?_)
  refine ret_nil.2 ⟨_, fin_tmp (.inr rfl), ?_, rfl⟩
  simp (disch := first | omega | decide) only [bG, modOf]
  have h1 := shr_lt (n := 32 - n) hx
  have h2 := mod_lt32 (x <<< n)
  rw [Nat.mod_mod, Nat.mod_eq_of_lt h1, Nat.mod_eq_of_lt (or_lt h2 h1)]
theorem left32 (x n : Nat) (hx : x < 4294967296) (hn : n < 31) (h : XH) :
    CallEv E0 n_octet_Left [.int .u32 (.ofNat x), .int .i64 (.negSucc n)] h (fun r k => r = .int .u32 (.ofNat (ror x (n + 1))) ∧ k = h) := by
  have e1 : xbin (.int .i64) .rem (.int .i64 (.negSucc n)) (.int .i64 (.ofNat 32)) = some (.int .i64 (.negSucc n)) := by
    show some (XV.int .i64 (Int.neg (.ofNat (Nat.mod (n + 1) 32)))) = _
    rw [n_mod, Nat.mod_eq_of_lt (by omega)]
    rfl
  have e2 : xbin (.int .i64) .add (.int .i64 (.negSucc n)) (.int .i64 (.ofNat 32)) = some (.int .i64 (.ofNat (31 - n))) := by
    show some (XV.int .i64 (wrapX .i64 (Int.add (.negSucc n) 32))) = _
    have : Int.add (.negSucc n) 32 = .ofNat (31 - n) := by
      show Int.negSucc n + 32 = Int.ofNat (31 - n)
      simp only [Int.ofNat_eq_natCast]
      omega
    rw [this, wrap_i64 (by omega)]
  have e3 : (31 - n) % 32 = 31 - n := Nat.mod_eq_of_lt (by omega)
  refine call_fn fn_octet_Left ?_
  simp only [args0_cons, args0_nil]
  repeat with_reducible first | refine nx ?_ | (refine nv ?_; simp (disch := first | omega | decide) only [bG, e1, e2, e3]; refine rg ?_)
  refine callGo_of (rot32 _ _ hx (by omega) _) ?_
  repeat with_reducible first | refine nx ?_ | (refine nv ?_; simp (disch := first | omega | decide) only [bG]; refine rg ?_)
  refine ret_nil.2 ⟨_, fin_tmp (.inr rfl), ?_, rfl⟩
  simp (disch := first | omega | decide) only [bG]
  unfold ror
  rw [show 32 - (31 - n) = n + 1 by omega, show 32 - (n + 1) = 31 - n by omega]
theorem right32 (x n : Nat) (hx : x < 4294967296) (hn : n < 31) (h : XH) :
    CallEv E0 n_digest_right [.int .u32 (.ofNat x), .int .i64 (.ofNat (n + 1))] h (fun r k => r = .int .u32 (.ofNat (ror x (n + 1))) ∧ k = h) := by
  refine call_fn fn_digest_right ?_
  simp only [args0_cons, args0_nil]
  repeat with_reducible first | refine nx ?_ | (refine nv ?_; simp (disch := first | omega | decide) only [bG]; refine rg ?_)
  refine callGo_of (left32 _ _ hx hn _) ?_
  repeat with_reducible first | refine nx ?_ | (refine nv ?_; simp (disch := first | omega | decide) only [bG]; refine rg ?_)
  refine ret_nil.2 ⟨_, fin_tmp (.inr rfl), ?_, rfl⟩
  simp (disch := first | omega | decide) only [bG]
theorem turned32 (x a b c : Nat) (hx : x < 4294967296) (ha : a < 31) (hb : b < 31) (hc : c < 31) (h : XH) :
    CallEv E0 n_digest_turned [.int .u32 (.ofNat x), .int .i64 (.ofNat (a + 1)), .int .i64 (.ofNat (b + 1)), .int .i64 (.ofNat (c + 1))] h (fun r k => r = .int .u32 (.ofNat (ror x (a + 1) ^^^ ror x (b + 1) ^^^ ror x (c + 1))) ∧ k = h) := by
  have ea := ror_lt (n := a + 1) hx
  have eb := ror_lt (n := b + 1) hx
  have ec := ror_lt (n := c + 1) hx
  refine call_fn fn_digest_turned ?_
  simp only [args0_cons, args0_nil]
  repeat with_reducible first | refine nx ?_ | (refine nv ?_; simp (disch := first | omega | decide) only [bG]; refine rg ?_)
  refine callGo_of (right32 _ _ hx ha _) ?_
  repeat with_reducible first | refine nx ?_ | (refine nv ?_; simp (disch := first | omega | decide) only [bG]; refine rg ?_)
  refine callGo_of (right32 _ _ hx hb _) ?_
  repeat with_reducible first | refine nx ?_ | (refine nv ?_; simp (disch := first | omega | decide) only [bG]; refine rg ?_)
  refine callGo_of (right32 _ _ hx hc _) ?_
  repeat with_reducible first | refine nx ?_ | (refine nv ?_; simp (disch := first | omega | decide) only [bG]; refine rg ?_)
  refine ret_nil.2 ⟨_, fin_tmp (.inr rfl), ?_, rfl⟩
  simp (disch := first | omega | decide) only [bG, modOf]
  rw [Nat.mod_eq_of_lt ea, Nat.mod_eq_of_lt eb, Nat.mod_eq_of_lt ec, Nat.mod_eq_of_lt (xor_lt ea eb), Nat.mod_eq_of_lt (xor_lt ea eb), Nat.mod_eq_of_lt (xor_lt (xor_lt ea eb) ec)]
end Go.Proofs.XCode
end
section
namespace Go.Proofs.XCode
open Go.X
set_option linter.unusedSimpArgs false
set_option linter.unusedVariables false
def bigN : List Nat → Nat → Nat
  | [], v => v
  | c :: l, v => bigN l (v * 256 + c)
theorem big_neg : ∀ n, n ≤ 8 → ∃ D, xbin (.int .i64) .sub (.int .i64 (.ofNat n)) (.int .i64 (.ofNat 8)) = some (.int .i64 D) ∧ pMax [.int .i64 D, .int .i64 (.ofNat 0)] = some (.int .i64 (.ofNat 0)) := by
  intro n hn
  match n, hn with
  | 0, _ => exact ⟨_, rfl, rfl⟩
  | 1, _ => exact ⟨_, rfl, rfl⟩
  | 2, _ => exact ⟨_, rfl, rfl⟩
  | 3, _ => exact ⟨_, rfl, rfl⟩
  | 4, _ => exact ⟨_, rfl, rfl⟩
  | 5, _ => exact ⟨_, rfl, rfl⟩
  | 6, _ => exact ⟨_, rfl, rfl⟩
  | 7, _ => exact ⟨_, rfl, rfl⟩
  | 8, _ => exact ⟨_, rfl, rfl⟩
theorem shl8_or {v c : Nat} (hc : c < 256) : v <<< 8 ||| c = v * 256 + c := by
  rw [Nat.shiftLeft_eq, Nat.mul_comm, ← Nat.two_pow_add_eq_or_of_lt (i := 8) hc]
theorem bigN_drop {s : List Nat} {i v : Nat} (h : i < s.length) : bigN (s.drop i) v = bigN (s.drop (i + 1)) (v * 256 + s.getD i 0) := by
  rw [List.drop_eq_getElem_cons h]
  simp [bigN, List.getD_eq_getElem?_getD, List.getElem?_eq_getElem h]
theorem big (s : List Nat) (hs : ∀ i, s.getD i 0 < 256) (hl : s.length ≤ 8) (h : XH) : CallEv E0 n_octet_Big [.str s] h (fun r k => r = .int .u64 (.ofNat (bigN s 0)) ∧ HExt h k) := by
  obtain ⟨D, e1, e2⟩ := big_neg s.length hl
  refine call_fn fn_octet_Big ?_
  simp only [args0_cons, args0_nil]
  repeat with_reducible first | refine nx ?_ | (refine nv ?_; simp (disch := first | omega | decide) only [bG, e1, e2, List.drop_zero]; refine rg ?_)
  have hg : (h.new (.cells (u8s s) false none)).get h.next = some (.cells (u8s s) false none) := by rw [XH.get_new, if_pos rfl]
  refine go_loop_ind hE0 (fun n fr k => k = h.new (.cells (u8s s) false none) ∧ ∃ i v, n = s.length - i ∧ i ≤ s.length ∧ v < 256 ^ i ∧ bigN s 0 = bigN (s.drop i) v ∧
      ev fr (.t (ixOf 12)) = .slice h.next 0 s.length s.length 1 false ∧ ev fr (.t (ixOf 13)) = .int .i64 (.ofNat s.length) ∧ ev fr (.t (ixOf 14)) = .int .i64 (.ofNat i) ∧ ev fr (.t (ixOf 3)) = .int .u64 (.ofNat v)) ?_ (n := s.length) ?_
  · rintro n fr k IH ⟨rfl, i, v, rfl, hi, hv, hb, f12, f13, f14, f3⟩
    repeat with_reducible first | refine nx ?_ | (refine nv ?_; simp (disch := first | omega | decide) only [bG, f12, f13, f14, f3]; refine rg ?_)
    refine go_cond ?_
    simp (disch := first | omega | decide) only [bG]
    refine condGo_split (fun hc => ?_) (fun hc => ?_)
    · have hc := of_decide_eq_true hc
      have hp : 256 ^ i ≤ 256 ^ 7 := Nat.pow_le_pow_right (by decide) (by omega)
      have hl1 : (v <<< 8) % 18446744073709551616 = v <<< 8 := Nat.mod_eq_of_lt (by rw [Nat.shiftLeft_eq]; omega)
      have hi0 := hs i
      have h8 : 8 ≤ IntKind.u64.bits := by decide
      repeat with_reducible first | refine nx ?_ | (refine nv ?_; simp (disch := first | omega | decide) only [bG, f12, f13, f14, f3, r_load1 hg (u8s_get hc), h8]; refine rg ?_)
      refine ret_loop.2 (IH (s.length - (i + 1)) _ _ (by omega) ⟨rfl, i + 1, v * 256 + s.getD i 0, rfl, by omega, ?_, ?_, ?_, ?_, ?_, ?_⟩)
      · have : 256 ^ (i + 1) = 256 ^ i * 256 := Nat.pow_succ ..
        omega
      · rw [hb, bigN_drop hc]
      all_goals simp (disch := first | omega | decide) only [bG, f12, f13, f14, f3, wrapX, n_mod]
      rw [hl1, Nat.mod_eq_of_lt (by omega : s.getD i 0 < 18446744073709551616), shl8_or hi0, Nat.mod_eq_of_lt (by omega)]
    · have hc := of_decide_eq_false hc
      obtain rfl : i = s.length := by omega
      rw [List.drop_length] at hb
      repeat with_reducible first | refine nx ?_ | (refine nv ?_; simp (disch := first | omega | decide) only [bG, f3]; refine rg ?_)
      refine ret_nil.2 ⟨_, fin_tmp (.inr rfl), ?_, (HExt.refl h).new _⟩
      simp (disch := first | omega | decide) only [bG, f3]
      rw [hb]
      rfl
  · refine ⟨rfl, 0, 0, by omega, by omega, by decide, rfl, ?_, ?_, ?_, ?_⟩ <;> simp (disch := first | omega | decide) only [bG]
end Go.Proofs.XCode
end
section
namespace Go.Proofs.XCode
open Go.X
set_option linter.unusedSimpArgs false
set_option linter.unusedVariables false
def schedS (b : List Nat) (W : List Nat) (t : Nat) : Nat :=
  if t < 16 then bigN ((b.drop (4 * t)).take 4) 0
  else ((((W.getD (t - 16) 0 + (ror (W.getD (t - 15) 0) 7 ^^^ ror (W.getD (t - 15) 0) 18 ^^^ W.getD (t - 15) 0 >>> 3)) % 4294967296) + W.getD (t - 7) 0) % 4294967296 + (ror (W.getD (t - 2) 0) 17 ^^^ ror (W.getD (t - 2) 0) 19 ^^^ W.getD (t - 2) 0 >>> 10)) % 4294967296
def schedF (b : List Nat) : Nat → List Nat
  | 0 => List.replicate 64 0
  | t + 1 => (schedF b t).set t (schedS b (schedF b t) t)
theorem schedF_len (b : List Nat) : ∀ t, (schedF b t).length = 64
  | 0 => by simp [schedF]
  | t + 1 => by rw [schedF, List.length_set, schedF_len b t]
theorem bigN_lt : ∀ (l : List Nat) (v : Nat), (∀ i, l.getD i 0 < 256) → bigN l v < (v + 1) * 256 ^ l.length
  | [], v, _ => by simp [bigN]
  | c :: l, v, h => by
    have h0 : c < 256 := by simpa using h 0
    have := bigN_lt l (v * 256 + c) (fun i => by simpa using h (i + 1))
    rw [bigN, List.length_cons, Nat.pow_succ]
    refine Nat.lt_of_lt_of_le this ?_
    rw [Nat.mul_comm (256 ^ l.length) 256, ← Nat.mul_assoc]
    exact Nat.mul_le_mul_right _ (by omega)
theorem getD_drop (l : List Nat) (n i : Nat) : (l.drop n).getD i 0 = l.getD (n + i) 0 := by
  simp [List.getD_eq_getElem?_getD, List.getElem?_drop]
theorem getD_take (l : List Nat) (n i : Nat) : (l.take n).getD i 0 = if i < n then l.getD i 0 else 0 := by
  simp only [List.getD_eq_getElem?_getD, List.getElem?_take]
  split <;> rfl
theorem getD_part {b : List Nat} (hb : ∀ i, b.getD i 0 < 256) (n m i : Nat) : ((b.drop n).take m).getD i 0 < 256 := by
  rw [getD_take]
  split
  · rw [getD_drop]; exact hb _
  · decide
theorem schedS_lt {b W : List Nat} {t : Nat} (hb : ∀ i, b.getD i 0 < 256) : schedS b W t < 4294967296 := by
  unfold schedS
  split
  · have := bigN_lt ((b.drop (4 * t)).take 4) 0 (getD_part hb _ _)
    refine Nat.lt_of_lt_of_le this ?_
    have hl : ((b.drop (4 * t)).take 4).length ≤ 4 := by rw [List.length_take]; omega
    have := Nat.pow_le_pow_right (n := 256) (by decide) hl
    omega
  · exact mod_lt32 _
theorem schedF_lt {b : List Nat} (hb : ∀ i, b.getD i 0 < 256) : ∀ t i, (schedF b t).getD i 0 < 4294967296
  | 0, i => by
    simp only [schedF, List.getD_eq_getElem?_getD, List.getElem?_replicate]
    split <;> decide
  | t + 1, i => by
    rw [schedF, List.getD_eq_getElem?_getD, List.getElem?_set]
    split
    · split
      · exact schedS_lt hb
      · decide
    · rw [← List.getD_eq_getElem?_getD]; exact schedF_lt hb t i
theorem rep_words (n : Nat) : List.replicate n (XV.int .u32 (.ofNat 0)) = words (List.replicate n 0) := by simp [words]
theorem sched_call (b : List Nat) (hb : ∀ i, b.getD i 0 < 256) (hl : b.length = 64) (h : XH) : CallEv E0 n_digest_schedule [.str b] h (fun r k => r = .agg (words (schedF b 64)) ∧ HExt h k) := by
  refine call_fn fn_digest_schedule ?_
  simp only [args0_cons, args0_nil]
  repeat with_reducible first | refine nx ?_ | (refine nv ?_; simp (disch := first | omega | decide) only [bG, rep_words]; refine rg ?_)
  refine go_loop_ind hE0 (fun n fr k => ∃ i tg2 tg3, n = 64 - i ∧ i ≤ 64 ∧ HExt h k ∧ h.next + 2 ≤ k.next ∧ k.get h.next = some (.cells (words (List.replicate 64 0)) false tg2) ∧ k.get (h.next + 1) = some (.cells (words (schedF b i)) false tg3) ∧
      ev fr (.t (ixOf 0)) = .str b ∧ ev fr (.t (ixOf 2)) = .ptr h.next 0 ∧ ev fr (.t (ixOf 3)) = .ptr (h.next + 1) 0 ∧ ev fr (.t (ixOf 7)) = .int .i64 (.ofNat i)) ?_ (n := 64) ?_
  · rintro n fr k IH ⟨i, tg2, tg3, rfl, hi, hx, hn, g2, g3, f0, f2, f3, f7⟩
    repeat with_reducible first | refine nx ?_ | (refine nv ?_; simp (disch := first | omega | decide) only [bG, f7]; refine rg ?_)
    refine go_cond ?_
    simp (disch := first | omega | decide) only [bG]
    refine condGo_split (fun hc => ?_) (fun hc => ?_)
    · have hc := of_decide_eq_true hc
      repeat with_reducible first | refine nx ?_ | (refine nv ?_; simp (disch := first | omega | decide) only [bG, f0, f3, f7]; refine rg ?_)
      refine go_cond ?_
      simp (disch := first | omega | decide) only [bG]
      refine condGo_split (fun hc2 => ?_) (fun hc2 => ?_)
      · have hc2 := of_decide_eq_true hc2
        have e4 : 4 * i + 4 - 4 * i = 4 := by omega
        repeat with_reducible first | refine nx ?_ | (refine nv ?_; simp (disch := first | omega | decide) only [bG, f0, f3, f7, e4]; refine rg ?_)
        refine callGo_ex (big _ (getD_part hb _ _) (by rw [List.length_take]; omega) _) ?_
        rintro _ k1 ⟨rfl, hk⟩
        have g3' : k1.get (h.next + 1) = _ := (hk.get _ (by omega)).trans g3
        have g2' : k1.get h.next = _ := (hk.get _ (by omega)).trans g2
        have hs : bigN ((b.drop (4 * i)).take 4) 0 % 4294967296 = schedS b (schedF b i) i := by
          have := schedS_lt (W := schedF b i) (t := i) hb
          unfold schedS at this ⊢
          rw [if_pos hc2] at this ⊢
          exact Nat.mod_eq_of_lt this
        have hst := e_store1 (k := .u32) (n := .ofNat (schedS b (schedF b i) i)) (o := i) g3' (by rw [words_length, schedF_len]; omega)
        repeat with_reducible first | refine nx ?_ | (refine nv ?_; simp (disch := first | omega | decide) only [bG, f0, f3, f7, hs, hst]; refine rg ?_)
        refine ret_loop.2 (IH (64 - (i + 1)) _ _ (by omega) ⟨i + 1, tg2, tg3, rfl, by omega, (hx.trans hk).set (by omega) _, ?_, ?_, ?_, ?_, ?_, ?_, ?_⟩)
        · have := hk.le
          rw [XH.next_set]; omega
        · rw [XH.get_set, if_neg (by omega)]; exact g2'
        · rw [XH.get_set, if_pos rfl, words_set]; rfl
        all_goals simp (disch := first | omega | decide) only [bG, f0, f2, f3, f7]
      · have hc2 := of_decide_eq_false hc2
        have hW := schedF_lt hb i
        have hl2 := schedF_len b i
        have l15 := r_load1 (h := k) (o := i - 15) g3 (words_get (i := i - 15) (by omega))
        have l2 := r_load1 (h := k) (o := i - 2) g3 (words_get (i := i - 2) (by omega))
        have l16 := r_load1 (h := k) (o := i - 16) g3 (words_get (i := i - 16) (by omega))
        have l7 := r_load1 (h := k) (o := i - 7) g3 (words_get (i := i - 7) (by omega))
        have h3 : 3 ≤ IntKind.u32.bits := by decide
        have h10 : 10 ≤ IntKind.u32.bits := by decide
        repeat with_reducible first | refine nx ?_ | (refine nv ?_; simp (disch := first | omega | decide) only [bG, f0, f3, f7, l15, l2]; refine rg ?_)
        refine plan_nil (by simp (disch := first | omega | decide) only [endOk, chkAt, addNew, newOk, rangeOk, distinctN, Nat.reduceLT, Nat.reduceAdd, Nat.reduceLeDiff, bP, bG, f0, f3, f7, l15, l2]) ?_
        repeat with_reducible first | refine nx ?_ | (refine nv ?_; simp (disch := first | omega | decide) only [bG, f0, f3, f7, l15, l2]; refine rg ?_)
        refine callPl_of (right32 _ 6 (hW _) (by decide) _) ?_
        repeat with_reducible first | refine nx ?_ | (refine nv ?_; simp (disch := first | omega | decide) only [bG, f0, f3, f7, l15, l2]; refine rg ?_)
        refine callPl_of (right32 _ 17 (hW _) (by decide) _) ?_
        repeat with_reducible first | refine nx ?_ | (refine nv ?_; simp (disch := first | omega | decide) only [bG, f0, f3, f7, l15, l2]; refine rg ?_)
        refine callPl_of (right32 _ 16 (hW _) (by decide) _) ?_
        repeat with_reducible first | refine nx ?_ | (refine nv ?_; simp (disch := first | omega | decide) only [bG, f0, f3, f7, l15, l2]; refine rg ?_)
        refine callPl_of (right32 _ 18 (hW _) (by decide) _) ?_
        have hst := fun n => e_store1 (k := .u32) (n := n) (o := i) g3 (by rw [words_length, schedF_len]; omega)
        repeat with_reducible first | refine nx ?_ | (refine nv ?_; simp (disch := first | omega | decide) only [bG, f0, f3, f7, l16, l7, h3, h10, hst]; refine rg ?_)
        refine plan_nil (by simp (disch := first | omega | decide) only [endOk, chkAt, addNew, newOk, rangeOk, distinctN, Nat.reduceLT, Nat.reduceAdd, Nat.reduceLeDiff, bP, bG, f0, f3, f7, l16, l7]) ?_
        repeat with_reducible first | refine nx ?_ | (refine nv ?_; simp (disch := first | omega | decide) only [bG, f7]; refine rg ?_)
        refine ret_loop.2 (IH (64 - (i + 1)) _ _ (by omega) ⟨i + 1, tg2, tg3, rfl, by omega, hx.set (m := h.next + 1) (by omega) _, ?_, ?_, ?_, ?_, ?_, ?_, ?_⟩)
        · rw [XH.next_set]; omega
        · rw [XH.get_set, if_neg (by omega)]; exact g2
        · rw [XH.get_set, if_pos rfl, words_set]
          have r7 := ror_lt (n := 6 + 1) (hW (i - 15))
          have r18 := ror_lt (n := 17 + 1) (hW (i - 15))
          have r17 := ror_lt (n := 16 + 1) (hW (i - 2))
          have r19 := ror_lt (n := 18 + 1) (hW (i - 2))
          have q1 := shr_lt (n := 3) (hW (i - 15))
          have q2 := shr_lt (n := 10) (hW (i - 2))
          rw [schedF, schedS, if_neg hc2]
          rw [Nat.mod_eq_of_lt r7, Nat.mod_eq_of_lt r18, Nat.mod_eq_of_lt r17, Nat.mod_eq_of_lt r19, Nat.mod_eq_of_lt q1, Nat.mod_eq_of_lt q2, Nat.mod_eq_of_lt (xor_lt r7 r18), Nat.mod_eq_of_lt (xor_lt r17 r19), Nat.mod_eq_of_lt (xor_lt r7 r18), Nat.mod_eq_of_lt (xor_lt r17 r19),
            Nat.mod_eq_of_lt (xor_lt (xor_lt r7 r18) q1), Nat.mod_eq_of_lt (xor_lt (xor_lt r17 r19) q2)]
        all_goals simp (disch := first | omega | decide) only [bG, f0, f2, f3, f7]
    · have hc := of_decide_eq_false hc
      obtain rfl : i = 64 := by omega
      have hl2 := r_loadN (n := 64) g3 (by rw [words_length, schedF_len])
      have hst := e_storeN (n := 64) g2 (vs := words (schedF b 64)) (by rw [words_length, schedF_len]) (by rw [words_length, words_length, schedF_len]; simp) (words_one _)
      repeat with_reducible first | refine nx ?_ | (refine nv ?_; simp (disch := first | omega | decide) only [bG, f2, f3, hl2, hst]; refine rg ?_)
      refine ret_nil.2 ⟨_, fin_cell (.inr rfl) (v := .agg (words (schedF b 64))) ?_, rfl, hx.set (m := h.next) (by omega) _⟩
      simp (disch := first | omega | decide) only [bG, f2]
      exact r_loadN (by rw [XH.get_set, if_pos rfl]) (by rw [words_length, schedF_len])
  · refine ⟨0, some (Nat.mul 2 334), some (Nat.mul 2 334), rfl, by omega, ((HExt.refl h).new _).new _, by simp, ?_, ?_, ?_, ?_, ?_, ?_⟩
    · rw [XH.get_new, XH.next_new, if_neg (by omega), XH.get_new, if_pos rfl]
    · rw [XH.get_new, XH.next_new, if_pos rfl]
      rfl
    all_goals simp (disch := first | omega | decide) only [bG]
end Go.Proofs.XCode
end
section
namespace Go.Proofs.XCode
open Go.X
set_option linter.unusedSimpArgs false
set_option linter.unusedVariables false
abbrev M32 : Nat := 4294967296
def rt1 (K W X : List Nat) (i : Nat) : Nat :=
  (((((X.getD 7 0 + (ror (X.getD 4 0) 6 ^^^ ror (X.getD 4 0) 11 ^^^ ror (X.getD 4 0) 25)) % 4294967296) + ((X.getD 4 0 &&& X.getD 5 0) ^^^ ((4294967295 - X.getD 4 0) &&& X.getD 6 0))) % 4294967296 + K.getD i 0) % 4294967296 + W.getD i 0) % 4294967296
def rt2 (X : List Nat) : Nat :=
  ((ror (X.getD 0 0) 2 ^^^ ror (X.getD 0 0) 13 ^^^ ror (X.getD 0 0) 22) + ((X.getD 0 0 &&& X.getD 1 0) ^^^ (X.getD 0 0 &&& X.getD 2 0) ^^^ (X.getD 1 0 &&& X.getD 2 0))) % 4294967296
def roundS (K W X : List Nat) (i : Nat) : List Nat :=
  [(rt1 K W X i + rt2 X) % 4294967296, X.getD 0 0, X.getD 1 0, X.getD 2 0, (X.getD 3 0 + rt1 K W X i) % 4294967296, X.getD 4 0, X.getD 5 0, X.getD 6 0]
def roundsF (K W s : List Nat) : Nat → List Nat
  | 0 => s
  | i + 1 => roundS K W (roundsF K W s i) i
def addF (x s : List Nat) : Nat → List Nat
  | 0 => x
  | i + 1 => (addF x s i).set i (((addF x s i).getD i 0 + s.getD i 0) % 4294967296)
theorem roundsF_len {K W s : List Nat} (hs : s.length = 8) : ∀ i, (roundsF K W s i).length = 8
  | 0 => hs
  | i + 1 => rfl
theorem roundS_lt {K W X : List Nat} {i : Nat} (hX : ∀ i, X.getD i 0 < 4294967296) : ∀ j, (roundS K W X i).getD j 0 < 4294967296
  | 0 => mod_lt32 _
  | 1 => hX _
  | 2 => hX _
  | 3 => hX _
  | 4 => mod_lt32 _
  | 5 => hX _
  | 6 => hX _
  | 7 => hX _
  | j + 8 => by simp [roundS, List.getD_eq_getElem?_getD]
theorem roundsF_lt {K W s : List Nat} (hs : ∀ i, s.getD i 0 < 4294967296) : ∀ i j, (roundsF K W s i).getD j 0 < 4294967296
  | 0, j => hs j
  | i + 1, j => roundS_lt (roundsF_lt hs i) j
theorem addF_len (x s : List Nat) : ∀ i, (addF x s i).length = x.length
  | 0 => rfl
  | i + 1 => by rw [addF, List.length_set, addF_len x s i]
theorem fill8 (a b c d e f g h : Nat) (z : List XV) (hz : z = words (List.replicate 8 0)) : pBuild z [(0, 1, .int .u32 (.ofNat a)), (1, 1, .int .u32 (.ofNat b)), (2, 1, .int .u32 (.ofNat c)), (3, 1, .int .u32 (.ofNat d)), (4, 1, .int .u32 (.ofNat e)), (5, 1, .int .u32 (.ofNat f)), (6, 1, .int .u32 (.ofNat g)), (7, 1, .int .u32 (.ofNat h))] = some (.agg (words [a, b, c, d, e, f, g, h])) := by
  subst hz
  rfl
structure Rounds (h k : XH) (t n7 : Nat) (T : List XV) (K W s X : List Nat) : Prop where
  ext : HExt h k
  lo : h.next + 2 ≤ n7
  nx : n7 + 2 ≤ k.next
  tab : ∃ ro tg, k.get t = some (.cells T ro tg)
  arg : ∃ tg, k.get h.next = some (.cells (words s) false tg)
  res : ∃ tg, k.get (h.next + 1) = some (.cells (words (List.replicate 8 0)) false tg)
  w : ∃ ro tg, k.get n7 = some (.cells (words W) ro tg)
  x : ∃ tg, k.get (n7 + 1) = some (.cells (words X) false tg)
theorem Rounds.store {h k : XH} {t n7 : Nat} {T : List XV} {K W s X : List Nat} (hr : Rounds h k t n7 T K W s X) (ht : t < h.next) (Y : List Nat) (tg : Option Nat) : Rounds h (k.set (n7 + 1) (.cells (words Y) false tg)) t n7 T K W s Y := by
  have h1 := hr.lo
  have h2 := hr.nx
  refine ⟨hr.ext.set (by omega) _, h1, by simpa using h2, ?_, ?_, ?_, ?_, ⟨tg, by rw [XH.get_set, if_pos rfl]⟩⟩
  · obtain ⟨ro, tg, h⟩ := hr.tab; exact ⟨ro, tg, by rw [XH.get_set, if_neg (by omega)]; exact h⟩
  · obtain ⟨tg, h⟩ := hr.arg; exact ⟨tg, by rw [XH.get_set, if_neg (by omega)]; exact h⟩
  · obtain ⟨tg, h⟩ := hr.res; exact ⟨tg, by rw [XH.get_set, if_neg (by omega)]; exact h⟩
  · obtain ⟨ro, tg, h⟩ := hr.w; exact ⟨ro, tg, by rw [XH.get_set, if_neg (by omega)]; exact h⟩
set_option maxHeartbeats 1000000 in
theorem mix_call (t : Nat) (T : List XV) (K : List Nat) (hK : ∀ i, i < 64 → T[3 + i]? = some (.int .u32 (.ofNat (K.getD i 0)))) (s b : List Nat) (hs : ∀ i, s.getD i 0 < 4294967296) (hsl : s.length = 8) (hb : ∀ i, b.getD i 0 < 256) (hl : b.length = 64) (h : XH) (ht : t < h.next) (hT : ∃ ro tg, h.get t = some (.cells T ro tg)) :
    CallEv E0 n_digest_table_mix [.ptr t 0, .agg (words s), .str b] h (fun r k => r = .agg (words (addF (roundsF K (schedF b 64) s 64) s 8)) ∧ HExt h k) := by
  refine call_fn fn_digest_table_mix ?_
  simp only [args0_cons, args0_nil]
  repeat with_reducible first | refine nx ?_ | (refine nv ?_; simp (disch := first | omega | decide) only [bG, rep_words, XV.cells]; refine rg ?_)
  refine callGo_ex (sched_call b hb hl _) ?_
  rintro _ k1 ⟨rfl, hx1⟩
  have hk1 := hx1.le
  simp only [XH.next_new] at hk1
  have hst := e_storeN (h := k1.new (.cells (words (List.replicate 64 0)) false (some (Nat.mul 2 334)))) (n := 64) (b := k1.next) (by rw [XH.get_new, if_pos rfl]) (vs := words (schedF b 64)) (by rw [words_length, schedF_len]) (by rw [words_length, words_length, schedF_len]; simp) (words_one _)
  have g4 : k1.get h.next = some (.cells (words s) false none) := by
    rw [hx1.get _ (by simp only [XH.next_new]; omega), XH.get_new, XH.next_new, if_neg (by omega), XH.get_new, if_pos rfl]
  have g6 : k1.get (h.next + 1) = some (.cells (words (List.replicate 8 0)) false (some (Nat.mul 2 288))) := by
    rw [hx1.get _ (by simp only [XH.next_new]; omega), XH.get_new, XH.next_new, if_pos rfl]
  repeat with_reducible first | refine nx ?_ | (refine nv ?_; simp (disch := first | omega | decide) only [bG, rep_words, hst]; refine rg ?_)
  obtain ⟨k2, hk2⟩ : ∃ k2, k2 = (k1.new (.cells (words (List.replicate 64 0)) false (some (Nat.mul 2 334)))).set k1.next (.cells (words (schedF b 64)) false (some (Nat.mul 2 334))) := ⟨_, rfl⟩
  rw [← hk2]
  have n2 : k2.next = k1.next + 1 := by rw [hk2]; rfl
  have a4 : k2.get h.next = some (.cells (words s) false none) := by rw [hk2, XH.get_set, if_neg (by omega), XH.get_new, if_neg (by omega)]; exact g4
  have a6 : k2.get (h.next + 1) = some (.cells (words (List.replicate 8 0)) false (some (Nat.mul 2 288))) := by rw [hk2, XH.get_set, if_neg (by omega), XH.get_new, if_neg (by omega)]; exact g6
  have a7 : k2.get k1.next = some (.cells (words (schedF b 64)) false (some (Nat.mul 2 334))) := by rw [hk2, XH.get_set, if_pos rfl]
  have x2 : HExt h k2 := by
    rw [hk2]
    exact (((((HExt.refl h).new _).new _).trans hx1).new _).set (by omega) _
  clear hk2 hst
  have l8 := r_loadN (h := k2) (n := 8) a4 (by rw [words_length, hsl])
  have hst := e_storeN (h := k2.new (.cells (words (List.replicate 8 0)) false (some (Nat.mul 2 288)))) (n := 8) (b := k2.next) (by rw [XH.get_new, if_pos rfl]) (vs := words s) (by rw [words_length, hsl]) (by rw [words_length, words_length, hsl]; rfl) (words_one _)
  repeat with_reducible first | refine nx ?_ | (refine nv ?_; simp (disch := first | omega | decide) only [bG, rep_words, l8, hst]; refine rg ?_)
  have hR : Rounds h ((k2.new (.cells (words (List.replicate 8 0)) false (some (Nat.mul 2 288)))).set k2.next (.cells (words s) false (some (Nat.mul 2 288)))) t k1.next T K (schedF b 64) s s := by
    rw [n2]
    obtain ⟨ro, tg, hT⟩ := hT
    refine ⟨?_, by omega, by simp only [XH.next_set, XH.next_new, n2]; omega, ⟨ro, tg, ?_⟩, ⟨none, ?_⟩, ⟨some (Nat.mul 2 288), ?_⟩, ⟨false, some (Nat.mul 2 334), ?_⟩, ⟨_, by rw [XH.get_set, if_pos rfl]⟩⟩
    · exact (x2.new _).set (by omega) _
    · rw [XH.get_set, if_neg (by omega), XH.get_new, if_neg (by omega), x2.get _ ht]; exact hT
    · rw [XH.get_set, if_neg (by omega), XH.get_new, if_neg (by omega)]; exact a4
    · rw [XH.get_set, if_neg (by omega), XH.get_new, if_neg (by omega)]; exact a6
    · rw [XH.get_set, if_neg (by omega), XH.get_new, if_neg (by omega)]; exact a7
  generalize ((k2.new (.cells (words (List.replicate 8 0)) false (some (Nat.mul 2 288)))).set k2.next (.cells (words s) false (some (Nat.mul 2 288)))) = k3 at hR ⊢
  obtain ⟨n7, hn7⟩ : ∃ n7, n7 = k1.next := ⟨_, rfl⟩
  rw [n2, ← hn7]
  rw [← hn7] at hR
  clear n2 a4 a6 a7 x2 l8 hst g4 g6 hx1 hk1 hT
  refine go_loop_ind hE0 (fun n fr k => ∃ i, n = 64 - i ∧ i ≤ 64 ∧ Rounds h k t n7 T K (schedF b 64) s (roundsF K (schedF b 64) s i) ∧
      ev fr (.t (ixOf 0)) = .ptr t 0 ∧ ev fr (.t (ixOf 4)) = .ptr h.next 0 ∧ ev fr (.t (ixOf 6)) = .ptr (h.next + 1) 0 ∧ ev fr (.t (ixOf 7)) = .ptr n7 0 ∧ ev fr (.t (ixOf 8)) = .ptr (n7 + 1) 0 ∧ ev fr (.t (ixOf 22)) = .int .i64 (.ofNat i)) ?_ (n := 64) ?_
  · rintro n fr k IH ⟨i, rfl, hi, hR, f0, f4, f6, f7, f8, f22⟩
    repeat with_reducible first | refine nx ?_ | (refine nv ?_; simp (disch := first | omega | decide) only [bG, f22]; refine rg ?_)
    refine go_cond ?_
    simp (disch := first | omega | decide) only [bG]
    refine condGo_split (fun hc => ?_) (fun hc => ?_)
    · have hc := of_decide_eq_true hc
      have hX := roundsF_lt (K := K) (W := schedF b 64) hs i
      have hXl := roundsF_len (K := K) (W := schedF b 64) hsl i
      have hR' := hR
      obtain ⟨tg8, gx⟩ := hR'.x
      obtain ⟨ro7, tg7, gw⟩ := hR'.w
      obtain ⟨rot, tgt, gt⟩ := hR'.tab
      generalize hXe : roundsF K (schedF b 64) s i = X at hR gx hX hXl
      have lx : ∀ j, j < 8 → rLoad k .one (.ptr (n7 + 1) j) = some (.int .u32 (.ofNat (X.getD j 0))) := fun j hj => r_load1 gx (words_get (by omega))
      have lw := r_load1 (h := k) (o := i) gw (words_get (by rw [schedF_len]; omega))
      have lk := r_load1 (h := k) gt (hK i hc)
      have l0 := lx 0 (by omega)
      have l1 := lx 1 (by omega)
      have l2 := lx 2 (by omega)
      have l3 := lx 3 (by omega)
      have l4 := lx 4 (by omega)
      have l5 := lx 5 (by omega)
      have l6 := lx 6 (by omega)
      have l7 := lx 7 (by omega)
      repeat with_reducible first | refine nx ?_ | (refine nv ?_; simp (disch := first | omega | decide) only [bG, f0, f8, f22, l4, l5, l6]; refine rg ?_)
      refine plan_nil (by simp (disch := first | omega | decide) only [endOk, chkAt, addNew, newOk, rangeOk, distinctN, Nat.reduceLT, Nat.reduceAdd, Nat.reduceLeDiff, bP, bG, f0, f8, f22, l4, l5, l6]) ?_
      repeat with_reducible first | refine nx ?_ | (refine nv ?_; simp (disch := first | omega | decide) only [bG, f0, f8, f22, l4, l5, l6]; refine rg ?_)
      refine callPl_of (turned32 _ 5 10 24 (hX _) (by decide) (by decide) (by decide) _) ?_
      repeat with_reducible first | refine nx ?_ | (refine nv ?_; simp (disch := first | omega | decide) only [bG, f0, f7, f8, f22, l7, lk, lw]; refine rg ?_)
      refine plan_nil (by simp (disch := first | omega | decide) only [endOk, chkAt, addNew, newOk, rangeOk, distinctN, Nat.reduceLT, Nat.reduceAdd, Nat.reduceLeDiff, bP, bG, f0, f7, f8, f22, l7, lk, lw]) ?_
      repeat with_reducible first | refine nx ?_ | (refine nv ?_; simp (disch := first | omega | decide) only [bG, f0, f7, f8, f22, l0, l1, l2]; refine rg ?_)
      refine plan_nil (by simp (disch := first | omega | decide) only [endOk, chkAt, addNew, newOk, rangeOk, distinctN, Nat.reduceLT, Nat.reduceAdd, Nat.reduceLeDiff, bP, bG, f0, f7, f8, f22, l0, l1, l2]) ?_
      repeat with_reducible first | refine nx ?_ | (refine nv ?_; simp (disch := first | omega | decide) only [bG, f0, f7, f8, f22, l0, l1, l2]; refine rg ?_)
      refine callGo_of (turned32 _ 1 12 21 (hX _) (by decide) (by decide) (by decide) _) ?_
      have f8' := fun a b c d e f g h => fill8 a b c d e f g h _ (rep_words 8)
      have hst := fun vs (h1 : vs.length = 8) => e_storeN (h := k) (n := 8) (b := n7 + 1) gx (vs := words vs) (by rw [words_length, h1]) (by rw [words_length, words_length, h1, hXl]) (words_one _)
      have hst' := fun a b c d e f g h => hst [a, b, c, d, e, f, g, h] rfl
      repeat with_reducible first | refine nx ?_ | (refine nv ?_; simp (disch := first | omega | decide) only [bG, f0, f7, f8, f22, l3, f8', hst']; refine rg ?_)
      repeat with_reducible first | refine nx ?_ | (refine nv ?_; simp (disch := first | omega | decide) only [bG, f22]; refine rg ?_)
      refine ret_loop.2 (IH (64 - (i + 1)) _ _ (by omega) ⟨i + 1, rfl, by omega, ?_, ?_, ?_, ?_, ?_, ?_, ?_⟩)
      · rw [roundsF, hXe]
        have b4 : 4294967295 - X.getD 4 0 < 4294967296 := by omega
        have m0 := Nat.mod_eq_of_lt (hX 0)
        have m1 := Nat.mod_eq_of_lt (hX 1)
        have m2 := Nat.mod_eq_of_lt (hX 2)
        have m4 := Nat.mod_eq_of_lt (hX 4)
        have m5 := Nat.mod_eq_of_lt (hX 5)
        have m6 := Nat.mod_eq_of_lt (hX 6)
        have n4 := Nat.mod_eq_of_lt b4
        have A1 := Nat.mod_eq_of_lt (and_lt (y := X.getD 5 0) (hX 4))
        have A2 := Nat.mod_eq_of_lt (and_lt (y := X.getD 6 0) b4)
        have A3 := Nat.mod_eq_of_lt (xor_lt (and_lt (y := X.getD 5 0) (hX 4)) (and_lt (y := X.getD 6 0) b4))
        have B1 := Nat.mod_eq_of_lt (and_lt (y := X.getD 1 0) (hX 0))
        have B2 := Nat.mod_eq_of_lt (and_lt (y := X.getD 2 0) (hX 0))
        have B3 := Nat.mod_eq_of_lt (and_lt (y := X.getD 2 0) (hX 1))
        have B12 := Nat.mod_eq_of_lt (xor_lt (and_lt (y := X.getD 1 0) (hX 0)) (and_lt (y := X.getD 2 0) (hX 0)))
        have B123 := Nat.mod_eq_of_lt (xor_lt (xor_lt (and_lt (y := X.getD 1 0) (hX 0)) (and_lt (y := X.getD 2 0) (hX 0))) (and_lt (y := X.getD 2 0) (hX 1)))
        simp only [m0, m1, m2, m4, m5, m6, n4, A1, A2, A3, B1, B2, B3, B12, B123]
        exact hR.store ht (roundS K (schedF b 64) X i) tg8
      all_goals simp (disch := first | omega | decide) only [bG, f0, f4, f6, f7, f8, f22]
    · have hc := of_decide_eq_false hc
      obtain rfl : i = 64 := by omega
      have hX := roundsF_lt (K := K) (W := schedF b 64) hs 64
      have hXl := roundsF_len (K := K) (W := schedF b 64) hsl 64
      generalize hXe : roundsF K (schedF b 64) s 64 = X at hR hX hXl
      repeat with_reducible first | refine nx ?_ | (refine nv ?_; simp (disch := first | omega | decide) only [bG]; refine rg ?_)
      refine go_loop_ind hE0 (fun n fr k => ∃ i, n = 8 - i ∧ i ≤ 8 ∧ Rounds h k t n7 T K (schedF b 64) s (addF X s i) ∧
          ev fr (.t (ixOf 4)) = .ptr h.next 0 ∧ ev fr (.t (ixOf 6)) = .ptr (h.next + 1) 0 ∧ ev fr (.t (ixOf 8)) = .ptr (n7 + 1) 0 ∧ ev fr (.t (ixOf 91)) = .int .i64 (.ofNat i)) ?_ (n := 8) ?_
      · clear IH f0 f4 f6 f7 f8 f22 hR
        rintro n fr k IH ⟨i, rfl, hi, hR, f4, f6, f8, f91⟩
        have hAl : (addF X s i).length = 8 := by rw [addF_len, hXl]
        repeat with_reducible first | refine nx ?_ | (refine nv ?_; simp (disch := first | omega | decide) only [bG, f91]; refine rg ?_)
        refine go_cond ?_
        simp (disch := first | omega | decide) only [bG]
        refine condGo_split (fun hc => ?_) (fun hc => ?_)
        · have hc := of_decide_eq_true hc
          have hR' := hR
          obtain ⟨tg8, gx⟩ := hR'.x
          obtain ⟨tg4, gs⟩ := hR'.arg
          have lx := r_load1 (h := k) (o := i) gx (words_get (by omega))
          have ls := r_load1 (h := k) (o := i) gs (words_get (by omega))
          have hst := fun n => e_store1 (k := .u32) (n := n) (o := i) gx (by rw [words_length, hAl]; omega)
          repeat with_reducible first | refine nx ?_ | (refine nv ?_; simp (disch := first | omega | decide) only [bG, f4, f8, f91, lx, ls, hst]; refine rg ?_)
          refine plan_nil (by simp (disch := first | omega | decide) only [endOk, chkAt, addNew, newOk, rangeOk, distinctN, Nat.reduceLT, Nat.reduceAdd, Nat.reduceLeDiff, bP, bG, f4, f8, f91, lx, ls]) ?_
          repeat with_reducible first | refine nx ?_ | (refine nv ?_; simp (disch := first | omega | decide) only [bG, f91]; refine rg ?_)
          refine ret_loop.2 (IH (8 - (i + 1)) _ _ (by omega) ⟨i + 1, rfl, by omega, ?_, ?_, ?_, ?_, ?_⟩)
          · rw [words_set]
            exact hR.store ht (addF X s (i + 1)) tg8
          all_goals simp (disch := first | omega | decide) only [bG, f4, f6, f8, f91]
        · have hc := of_decide_eq_false hc
          obtain rfl : i = 8 := by omega
          obtain ⟨tg8, gx⟩ := hR.x
          obtain ⟨tg6, gr⟩ := hR.res
          have hl8 := r_loadN (n := 8) gx (by rw [words_length, hAl])
          have hst := e_storeN (n := 8) gr (vs := words (addF X s 8)) (by rw [words_length, hAl]) (by rw [words_length, words_length, hAl]; rfl) (words_one _)
          repeat with_reducible first | refine nx ?_ | (refine nv ?_; simp (disch := first | omega | decide) only [bG, f6, f8, hl8, hst]; refine rg ?_)
          refine ret_nil.2 ⟨_, fin_cell (.inr rfl) (v := .agg (words (addF X s 8))) ?_, rfl, ?_⟩
          · simp (disch := first | omega | decide) only [bG, f6]
            exact r_loadN (by rw [XH.get_set, if_pos rfl]) (by rw [words_length, hAl])
          · exact ⟨hR.ext.le, fun n hn => by rw [XH.get_set, if_neg (by omega)]; exact hR.ext.get n hn⟩
      · refine ⟨0, by omega, by omega, hR, ?_, ?_, ?_, ?_⟩ <;> simp (disch := first | omega | decide) only [bG, f4, f6, f8]
  · refine ⟨0, by omega, by omega, hR, ?_, ?_, ?_, ?_, ?_, ?_⟩ <;> simp (disch := first | omega | decide) only [bG]
end Go.Proofs.XCode
end
section
namespace Go.Proofs.XCode
open Go.X
set_option linter.unusedSimpArgs false
set_option linter.unusedVariables false
def digs : List Nat := [48, 49, 50, 51, 52, 53, 54, 55, 56, 57, 97, 98, 99, 100, 101, 102]
theorem dig_inj : ∀ i, i < 16 → ∀ j, j < 16 → digs.getD i 0 = digs.getD j 0 → i = j := by decide
theorem digit_call (j : Nat) (hj : j < 16) (h : XH) : CallEv E0 n_octet_digit [.int .u8 (.ofNat (digs.getD j 0))] h (fun r k => r = .int .i64 (.ofNat j) ∧ k = h) := by
  refine call_fn fn_octet_digit ?_
  simp only [args0_cons, args0_nil]
  repeat with_reducible first | refine nx ?_ | (refine nv ?_; simp (disch := first | omega | decide) only [bG]; refine rg ?_)
  refine go_loop_ind hE0 (fun n fr k => k = h ∧ ∃ i, n = 16 - i ∧ i ≤ j ∧ ev fr (.t (ixOf 0)) = .int .u8 (.ofNat (digs.getD j 0)) ∧ ev fr (.t (ixOf 4)) = .int .i64 (.ofNat i)) ?_ (n := 16) ?_
  · rintro n fr k IH ⟨rfl, i, rfl, hi, f0, f4⟩
    repeat with_reducible first | refine nx ?_ | (refine nv ?_; simp (disch := first | omega | decide) only [bG, f4]; refine rg ?_)
    refine go_cond ?_
    have hc : i < 16 := by omega
    simp (disch := first | omega | decide) only [bG, hc, decide_true]
    refine condGo_true ?_
    have hd : ([48, 49, 50, 51, 52, 53, 54, 55, 56, 57, 97, 98, 99, 100, 101, 102] : List Nat)[i]? = some (digs.getD i 0) := by
      show digs[i]? = _
      rw [List.getD_eq_getElem?_getD, List.getElem?_eq_getElem hc]
      rfl
    repeat with_reducible first | refine nx ?_ | (refine nv ?_; simp (disch := first | omega | decide) only [bG, f0, f4, p_ixStr _ _ _ hd]; refine rg ?_)
    refine go_cond ?_
    simp (disch := first | omega | decide) only [bG]
    refine condGo_split (fun h1 => ?_) (fun h1 => ?_)
    · have := dig_inj i hc j hj (of_decide_eq_true h1)
      subst this
      repeat with_reducible first | refine nx ?_ | (refine nv ?_; simp (disch := first | omega | decide) only [bG, f4]; refine rg ?_)
      refine ret_nil.2 ⟨_, fin_tmp (.inr rfl), ?_, rfl⟩
      simp (disch := first | omega | decide) only [bG, f4]
    · have : i ≠ j := fun e => of_decide_eq_false h1 (by rw [e])
      repeat with_reducible first | refine nx ?_ | (refine nv ?_; simp (disch := first | omega | decide) only [bG, f4]; refine rg ?_)
      refine ret_loop.2 (IH (16 - (i + 1)) _ _ (by omega) ⟨rfl, i + 1, rfl, by omega, ?_, ?_⟩) <;> simp (disch := first | omega | decide) only [bG, f0, f4]
  · refine ⟨rfl, 0, rfl, by omega, ?_, ?_⟩ <;> simp (disch := first | omega | decide) only [bG]
def hexL (b : List Nat) : List Nat := b.flatMap fun x => [digs.getD (x / 16) 0, digs.getD (x % 16) 0]
theorem hexL_len : ∀ b : List Nat, (hexL b).length = 2 * b.length
  | [] => rfl
  | x :: b => by
    have := hexL_len b
    simp [hexL, List.flatMap_cons] at this ⊢
    omega
theorem hexL_get : ∀ (b : List Nat) (j : Nat), j < b.length → (hexL b)[2 * j]? = some (digs.getD (b.getD j 0 / 16) 0) ∧ (hexL b)[2 * j + 1]? = some (digs.getD (b.getD j 0 % 16) 0)
  | [], j, h => by simp at h
  | x :: b, 0, h => ⟨rfl, rfl⟩
  | x :: b, j + 1, h => by
    have := hexL_get b j (by simpa using h)
    have e : hexL (x :: b) = digs.getD (x / 16) 0 :: digs.getD (x % 16) 0 :: hexL b := rfl
    rw [e, show 2 * (j + 1) = 2 * j + 1 + 1 by omega]
    simpa using this
noncomputable def part (b : List Nat) (j : Nat) : List XV := u8s (b.take j) ++ List.replicate (b.length - j) (.int .u8 (.ofNat 0))
theorem part_set {b : List Nat} {j : Nat} (hj : j < b.length) : (part b j).set j (.int .u8 (.ofNat (b.getD j 0))) = part b (j + 1) := by
  have hl : (u8s (b.take j)).length = j := by rw [u8s_length, List.length_take]; omega
  unfold part
  rw [List.set_append_right _ _ (by omega), hl, Nat.sub_self, show b.length - j = (b.length - (j + 1)) + 1 by omega, List.replicate_succ, List.set_cons_zero]
  have e : b.take (j + 1) = b.take j ++ [b.getD j 0] := by
    rw [List.take_add_one, List.getElem?_eq_getElem hj, List.getD_eq_getElem?_getD, List.getElem?_eq_getElem hj]
    rfl
  rw [e]
  simp [u8s, mapX_eq]
theorem part_len {b : List Nat} {j : Nat} (hj : j ≤ b.length) : (part b j).length = b.length := by
  simp [part, u8s_length, List.length_take]; omega
theorem part_all (b : List Nat) : part b b.length = u8s b := by simp [part]
theorem a_mk (es l c bytes : Nat) (z : List XV) (h1 : l ≤ c) (h2 : c ≤ 1000000) (h3 : c * bytes ≤ 1000000) (k j : IntKind) : aMake es z bytes (.int k (.ofNat l)) (.int j (.ofNat c)) = some (.cells (List.replicate c z).flatten false none, .slice l c es true) := by
  simp only [aMake, natOf, n_ble, n_mul, h1, h2, h3, decide_true, Bool.and_self, cond_true]
theorem flat1 (n : Nat) (z : XV) : (List.replicate n [z]).flatten = List.replicate n z := by
  induction n with
  | zero => rfl
  | succ n ih => rw [List.replicate_succ, List.flatten_cons, ih]; rfl
theorem unhex_call (b : List Nat) (hb : ∀ i, b.getD i 0 < 256) (hl : b.length ≤ 1000) (h : XH) : CallEv E0 n_octet_Unhex [.str (hexL b)] h (fun r k => r = .tup [.str b, .bool true] ∧ HExt h k) := by
  have hlen := hexL_len b
  have e0 : (hexL b).length % 2 = 0 := by omega
  have e1 : (hexL b).length / 2 = b.length := by omega
  have hp : (0 : Nat) < 2 := by decide
  have p0 : part b 0 = List.replicate b.length (XV.int .u8 (.ofNat 0)) := by simp [part, u8s, mapX_eq]
  refine call_fn fn_octet_Unhex ?_
  simp only [args0_cons, args0_nil]
  repeat with_reducible first | refine nx ?_ | (refine nv ?_; simp (disch := first | omega | decide) only [bG, e0]; refine rg ?_)
  refine go_cond ?_
  simp (disch := first | omega | decide) only [bG, e0, not_true_eq_false, decide_false]
  refine condGo_false ?_
  repeat with_reducible first | refine nx ?_ | (refine nv ?_; simp (disch := first | omega | decide) only [bG, e1, a_mk, flat1]; refine rg ?_)
  refine go_loop_ind hE0 (fun n fr k => ∃ i, n = b.length - i ∧ i ≤ b.length ∧ HExt h k ∧ h.next + 1 ≤ k.next ∧ k.get h.next = some (.cells (part b i) false none) ∧
      ev fr (.t (ixOf 0)) = .str (hexL b) ∧ ev fr (.t (ixOf 4)) = .slice h.next 0 i b.length 1 true ∧ ev fr (.t (ixOf 5)) = .int .i64 (.ofNat (2 * i))) ?_ (n := b.length) ?_
  · rintro n fr k IH ⟨i, rfl, hi, hx, hn, hg, f0, f4, f5⟩
    repeat with_reducible first | refine nx ?_ | (refine nv ?_; simp (disch := first | omega | decide) only [bG, f0, f5]; refine rg ?_)
    refine go_cond ?_
    simp (disch := first | omega | decide) only [bG, hlen]
    refine condGo_split (fun hc => ?_) (fun hc => ?_)
    · have hc := of_decide_eq_true hc
      obtain ⟨d1, d2⟩ := hexL_get b i (by omega)
      have hbi := hb i
      have q1 : b.getD i 0 / 16 < 16 := by omega
      have q2 : b.getD i 0 % 16 < 16 := Nat.mod_lt _ (by decide)
      repeat with_reducible first | refine nx ?_ | (refine nv ?_; simp (disch := first | omega | decide) only [bG, f0, f5, p_ixStr _ _ _ d1]; refine rg ?_)
      refine callPl_of (digit_call _ q1 _) ?_
      repeat with_reducible first | refine nx ?_ | (refine nv ?_; simp (disch := first | omega | decide) only [bG, f0, f5, p_ixStr _ _ _ d2]; refine rg ?_)
      refine callPl_of (digit_call _ q2 _) ?_
      repeat with_reducible first | refine nx ?_ | (refine nv ?_; simp (disch := first | omega | decide) only [bG]; refine rg ?_)
      refine plan_nil (by simp (disch := first | omega | decide) only [endOk, chkAt, addNew, newOk, rangeOk, distinctN, Nat.reduceLT, Nat.reduceAdd, Nat.reduceLeDiff, bP, bG]) ?_
      repeat with_reducible first | refine nx ?_ | (refine nv ?_; simp (disch := first | omega | decide) only [bG, Nat.not_lt_zero, decide_false, cond_false]; refine rg ?_)
      refine go_cond ?_
      simp (disch := first | omega | decide) only [bG, Nat.not_lt_zero, decide_false, cond_false]
      refine condGo_false ?_
      have h4 : 4 ≤ IntKind.i64.bits := by decide
      have hv : wrapX .u8 (.ofNat (((b.getD i 0 / 16) <<< 4 % 18446744073709551616 ||| b.getD i 0 % 16 % 18446744073709551616))) = .ofNat (b.getD i 0) := by
        have a1 : (b.getD i 0 / 16) <<< 4 ||| b.getD i 0 % 16 = b.getD i 0 := by
          rw [Nat.shiftLeft_eq, Nat.mul_comm, ← Nat.two_pow_add_eq_or_of_lt (i := 4) q2]
          omega
        rw [Nat.mod_eq_of_lt (by rw [Nat.shiftLeft_eq]; omega), Nat.mod_eq_of_lt (by omega), a1, wrap_u8 hbi]
      have hq : (b.getD i 0 / 16) <<< 4 % 18446744073709551616 ||| b.getD i 0 % 16 % 18446744073709551616 ≤ 9223372036854775807 := by
        have : (b.getD i 0 / 16) <<< 4 % 18446744073709551616 ||| b.getD i 0 % 16 % 18446744073709551616 < 2 ^ 62 := Nat.or_lt_two_pow (by rw [Nat.mod_eq_of_lt (by rw [Nat.shiftLeft_eq]; omega), Nat.shiftLeft_eq]; omega) (by omega)
        omega
      have hs4 : (b.getD i 0 / 16) <<< 4 ≤ 9223372036854775807 := by rw [Nat.shiftLeft_eq]; omega
      have hap := e_append_fit (h := k.new (.cells [.int .u8 (.ofNat (b.getD i 0))] false none)) (b := h.next) (o := 0) (len := i) (cap := b.length) (et := 5) (b2 := k.next) (ex := true) (ex2 := true) 1 (by omega) (by rw [XH.get_new, if_neg (by omega)]; exact hg) (by rw [part_len hi]; omega) rfl (by rw [XH.get_new, if_pos rfl])
      rw [Nat.zero_add, part_set (by omega)] at hap
      repeat with_reducible first | refine nx ?_ | (refine nv ?_; simp (disch := first | omega | decide) only [bG, f4, f5, h4, hs4, hq, hv, a_build1, hap]; refine rg ?_)
      refine ret_loop.2 (IH (b.length - (i + 1)) _ _ (by omega) ⟨i + 1, rfl, by omega, (hx.new _).set (m := h.next) (by omega) _, ?_, ?_, ?_, ?_, ?_⟩)
      · simp only [XH.next_set, XH.next_new]; omega
      · rw [XH.get_set, if_pos rfl]
      all_goals simp (disch := first | omega | decide) only [bG, f0, f4, f5]
      rw [show 2 * (i + 1) = 2 * i + 2 by omega]
    · have hc := of_decide_eq_false hc
      obtain rfl : i = b.length := by omega
      have hcv := r_convBS (h := k) (b := h.next) (o := 0) (len := b.length) (cap := b.length) (ex := true) (s := b) (by rw [cells_b hg (by rw [part_len (Nat.le_refl _)]; omega), part_all, List.drop_zero, List.take_of_length_le (by rw [u8s_length]; exact Nat.le_refl _)]) (fun x hx => by
        obtain ⟨j, hj, rfl⟩ := List.getElem_of_mem hx
        have := hb j
        rwa [List.getD_eq_getElem?_getD, List.getElem?_eq_getElem hj] at this)
      repeat with_reducible first | refine nx ?_ | (refine nv ?_; simp (disch := first | omega | decide) only [bG, f4, hcv]; refine rg ?_)
      refine ret_nil.2 ⟨.tup [.str b, .bool true], ?_, rfl, hx⟩
      rw [show ([.tmp (ixOf 2), .tmp (ixOf 3)] : List XRes) = [2, 3].map fun i => .tmp (ixOf i) from rfl, fin_tmps (.inr rfl)]
      simp only [List.map_cons, List.map_nil]
      simp (disch := first | omega | decide) only [bG, tupOf]
  · refine ⟨0, rfl, by omega, (HExt.refl h).new _, ?_, ?_, ?_, ?_, ?_⟩
    · simp only [XH.next_new]; omega
    · rw [XH.get_new, if_pos rfl, p0]
    all_goals simp (disch := first | omega | decide) only [bG]
end Go.Proofs.XCode
end
section
namespace Go.Proofs.XCode
open Go.X
set_option linter.unusedSimpArgs false
set_option linter.unusedVariables false
set_option maxRecDepth 100000
def eachB : List Nat := [66, 138, 47, 152, 113, 55, 68, 145, 181, 192, 251, 207, 233, 181, 219, 165, 57, 86, 194, 91, 89, 241, 17, 241, 146, 63, 130, 164, 171, 28, 94, 213, 216, 7, 170, 152, 18, 131, 91, 1, 36, 49, 133, 190, 85, 12, 125, 195, 114, 190, 93, 116, 128, 222, 177, 254, 155, 220, 6, 167, 193, 155, 241, 116, 228, 155, 105, 193, 239, 190, 71, 134, 15, 193, 157, 198, 36, 12, 161, 204, 45, 233, 44, 111, 74, 116, 132, 170, 92, 176, 169, 220, 118, 249, 136, 218, 152, 62, 81, 82, 168, 49, 198, 109, 176, 3, 39, 200, 191, 89, 127, 199, 198, 224, 11, 243, 213, 167, 145, 71, 6, 202, 99, 81, 20, 41, 41, 103, 39, 183, 10, 133, 46, 27, 33, 56, 77, 44, 109, 252, 83, 56, 13, 19, 101, 10, 115, 84, 118, 106, 10, 187, 129, 194, 201, 46, 146, 114, 44, 133, 162, 191, 232, 161, 168, 26, 102, 75, 194, 75, 139, 112, 199, 108, 81, 163, 209, 146, 232, 25, 214, 153, 6, 36, 244, 14, 53, 133, 16, 106, 160, 112, 25, 164, 193, 22, 30, 55, 108, 8, 39, 72, 119, 76, 52, 176, 188, 181, 57, 28, 12, 179, 78, 216, 170, 74, 91, 156, 202, 79, 104, 46, 111, 243, 116, 143, 130, 238, 120, 165, 99, 111, 132, 200, 120, 20, 140, 199, 2, 8, 144, 190, 255, 250, 164, 80, 108, 235, 190, 249, 163, 247, 198, 113, 120, 242]
def firstB : List Nat := [106, 9, 230, 103, 187, 103, 174, 133, 60, 110, 243, 114, 165, 79, 245, 58, 81, 14, 82, 127, 155, 5, 104, 140, 31, 131, 217, 171, 91, 224, 205, 25]
theorem each_hex : ([52, 50, 56, 97, 50, 102, 57, 56, 55, 49, 51, 55, 52, 52, 57, 49, 98, 53, 99, 48, 102, 98, 99, 102, 101, 57, 98, 53, 100, 98, 97, 53, 51, 57, 53, 54, 99, 50, 53, 98, 53, 57, 102, 49, 49, 49, 102, 49, 57, 50, 51, 102, 56, 50, 97, 52, 97, 98, 49, 99, 53, 101, 100, 53, 100, 56, 48, 55, 97, 97, 57, 56, 49, 50, 56, 51, 53, 98, 48, 49, 50, 52, 51, 49, 56, 53, 98, 101, 53, 53, 48, 99, 55, 100, 99, 51, 55, 50, 98, 101, 53, 100, 55, 52, 56, 48, 100, 101, 98, 49, 102, 101, 57, 98, 100, 99, 48, 54, 97, 55, 99, 49, 57, 98, 102, 49, 55, 52, 101, 52, 57, 98, 54, 57, 99, 49, 101, 102, 98, 101, 52, 55, 56, 54, 48, 102, 99, 49, 57, 100, 99, 54, 50, 52, 48, 99, 97, 49, 99, 99, 50, 100, 101, 57, 50, 99, 54, 102, 52, 97, 55, 52, 56, 52, 97, 97, 53, 99, 98, 48, 97, 57, 100, 99, 55, 54, 102, 57, 56, 56, 100, 97, 57, 56, 51, 101, 53, 49, 53, 50, 97, 56, 51, 49, 99, 54, 54, 100, 98, 48, 48, 51, 50, 55, 99, 56, 98, 102, 53, 57, 55, 102, 99, 55, 99, 54, 101, 48, 48, 98, 102, 51, 100, 53, 97, 55, 57, 49, 52, 55, 48, 54, 99, 97, 54, 51, 53, 49, 49, 52, 50, 57, 50, 57, 54, 55, 50, 55, 98, 55, 48, 97, 56, 53, 50, 101, 49, 98, 50, 49, 51, 56, 52, 100, 50, 99, 54, 100, 102, 99, 53, 51, 51, 56, 48, 100, 49, 51, 54, 53, 48, 97, 55, 51, 53, 52, 55, 54, 54, 97, 48, 97, 98, 98, 56, 49, 99, 50, 99, 57, 50, 101, 57, 50, 55, 50, 50, 99, 56, 53, 97, 50, 98, 102, 101, 56, 97, 49, 97, 56, 49, 97, 54, 54, 52, 98, 99, 50, 52, 98, 56, 98, 55, 48, 99, 55, 54, 99, 53, 49, 97, 51, 100, 49, 57, 50, 101, 56, 49, 57, 100, 54, 57, 57, 48, 54, 50, 52, 102, 52, 48, 101, 51, 53, 56, 53, 49, 48, 54, 97, 97, 48, 55, 48, 49, 57, 97, 52, 99, 49, 49, 54, 49, 101, 51, 55, 54, 99, 48, 56, 50, 55, 52, 56, 55, 55, 52, 99, 51, 52, 98, 48, 98, 99, 98, 53, 51, 57, 49, 99, 48, 99, 98, 51, 52, 101, 100, 56, 97, 97, 52, 97, 53, 98, 57, 99, 99, 97, 52, 102, 54, 56, 50, 101, 54, 102, 102, 51, 55, 52, 56, 102, 56, 50, 101, 101, 55, 56, 97, 53, 54, 51, 54, 102, 56, 52, 99, 56, 55, 56, 49, 52, 56, 99, 99, 55, 48, 50, 48, 56, 57, 48, 98, 101, 102, 102, 102, 97, 97, 52, 53, 48, 54, 99, 101, 98, 98, 101, 102, 57, 97, 51, 102, 55, 99, 54, 55, 49, 55, 56, 102, 50] : List Nat) = hexL eachB := by decide
theorem first_hex : ([54, 97, 48, 57, 101, 54, 54, 55, 98, 98, 54, 55, 97, 101, 56, 53, 51, 99, 54, 101, 102, 51, 55, 50, 97, 53, 52, 102, 102, 53, 51, 97, 53, 49, 48, 101, 53, 50, 55, 102, 57, 98, 48, 53, 54, 56, 56, 99, 49, 102, 56, 51, 100, 57, 97, 98, 53, 98, 101, 48, 99, 100, 49, 57] : List Nat) = hexL firstB := by decide
theorem eachB_lt : ∀ i, eachB.getD i 0 < 256 := by
  have h : ∀ x ∈ eachB, x < 256 := by decide
  intro i
  rw [List.getD_eq_getElem?_getD]
  cases e : eachB[i]? with
  | none => decide
  | some x => exact h x (List.mem_of_getElem? e)
theorem firstB_lt : ∀ i, firstB.getD i 0 < 256 := by
  have h : ∀ x ∈ firstB, x < 256 := by decide
  intro i
  rw [List.getD_eq_getElem?_getD]
  cases e : firstB[i]? with
  | none => decide
  | some x => exact h x (List.mem_of_getElem? e)
def wordAt (b : List Nat) (i : Nat) : Nat := bigN ((b.drop (4 * i)).take 4) 0
def putW (T : List XV) (off : Nat) (b : List Nat) : Nat → List XV
  | 0 => T
  | i + 1 => (putW T off b i).set (off + i) (.int .u32 (.ofNat (wordAt b i)))
theorem putW_len (T : List XV) (off : Nat) (b : List Nat) : ∀ i, (putW T off b i).length = T.length
  | 0 => rfl
  | i + 1 => by rw [putW, List.length_set, putW_len T off b i]
theorem wordAt_lt {b : List Nat} {i : Nat} (hb : ∀ i, b.getD i 0 < 256) : wordAt b i < 4294967296 := by
  have := bigN_lt ((b.drop (4 * i)).take 4) 0 (getD_part hb _ _)
  refine Nat.lt_of_lt_of_le this ?_
  have hl : ((b.drop (4 * i)).take 4).length ≤ 4 := by rw [List.length_take]; omega
  have := Nat.pow_le_pow_right (n := 256) (by decide) hl
  omega
theorem words_call (t off n : Nat) (b : List Nat) (hb : ∀ i, b.getD i 0 < 256) (hl : b.length = 4 * n) (hn : n ≤ 64) (T : List XV) (tg : Option Nat) (h : XH) (ht : t < h.next) (hg : h.get t = some (.cells T false tg)) (hT : off + n ≤ T.length) :
    CallEv E0 n_digest_words [.slice t off n n 1 true, .str (hexL b)] h (fun _ k => k.get t = some (.cells (putW T off b n) false tg) ∧ HExtE t h k) := by
  refine call_fn fn_digest_words ?_
  simp only [args0_cons, args0_nil]
  repeat with_reducible first | refine nx ?_ | (refine nv ?_; simp (disch := first | omega | decide) only [bG]; refine rg ?_)
  refine callGo_ex (unhex_call b hb (by omega) h) ?_
  rintro _ k1 ⟨rfl, hx1⟩
  repeat with_reducible first | refine nx ?_ | (refine nv ?_; simp (disch := first | omega | decide) only [bG]; refine rg ?_)
  refine go_loop_ind hE0 (fun m fr k => ∃ i, m = n - i ∧ i ≤ n ∧ h.next ≤ k.next ∧ (∀ m, m < h.next → m ≠ t → k.get m = h.get m) ∧ k.get t = some (.cells (putW T off b i) false tg) ∧
      ev fr (.t (ixOf 0)) = .slice t off n n 1 true ∧ ev fr (.t (ixOf 4)) = .str b ∧ ev fr (.t (ixOf 13)) = .int .i64 (.ofNat n) ∧ ev fr (.t (ixOf 14)) = .int .i64 (.ofNat i)) ?_ (n := n) ?_
  · rintro m fr k IH ⟨i, rfl, hi, hk1, hk2, hk3, f0, f4, f13, f14⟩
    repeat with_reducible first | refine nx ?_ | (refine nv ?_; simp (disch := first | omega | decide) only [bG, f13, f14]; refine rg ?_)
    refine go_cond ?_
    simp (disch := first | omega | decide) only [bG]
    refine condGo_split (fun hc => ?_) (fun hc => ?_)
    · have hc := of_decide_eq_true hc
      have e4 : 4 * i + 4 - 4 * i = 4 := by omega
      repeat with_reducible first | refine nx ?_ | (refine nv ?_; simp (disch := first | omega | decide) only [bG, f0, f4, f14, e4]; refine rg ?_)
      refine callGo_ex (big _ (getD_part hb _ _) (by rw [List.length_take]; omega) k) ?_
      rintro _ k2 ⟨rfl, hx2⟩
      have g2 : k2.get t = _ := (hx2.get _ (by omega)).trans hk3
      have hw : bigN ((b.drop (4 * i)).take 4) 0 % 4294967296 = wordAt b i := Nat.mod_eq_of_lt (wordAt_lt hb)
      have hst := e_store1 (k := .u32) (n := .ofNat (wordAt b i)) (o := off + i) g2 (by rw [putW_len]; omega)
      repeat with_reducible first | refine nx ?_ | (refine nv ?_; simp (disch := first | omega | decide) only [bG, f0, f4, f14, hw, hst]; refine rg ?_)
      refine ret_loop.2 (IH (n - (i + 1)) _ _ (by omega) ⟨i + 1, rfl, by omega, ?_, ?_, ?_, ?_, ?_, ?_, ?_⟩)
      · have := hx2.le
        simp only [XH.next_set]; omega
      · intro m h1 h2
        rw [XH.get_set, if_neg h2, hx2.get _ (by omega), hk2 m h1 h2]
      · rw [XH.get_set, if_pos rfl, putW]
      all_goals simp (disch := first | omega | decide) only [bG, f0, f4, f13, f14]
    · have hc := of_decide_eq_false hc
      obtain rfl : i = n := by omega
      repeat with_reducible first | refine nx ?_ | (refine nv ?_; simp (disch := first | omega | decide) only [bG]; refine rg ?_)
      exact ret_nil.2 ⟨unit, rfl, hk3, hk1, hk2⟩
  · refine ⟨0, rfl, by omega, hx1.le, fun m h1 _ => hx1.get m h1, (hx1.get t ht).trans hg, ?_, ?_, ?_, ?_⟩ <;> simp (disch := first | omega | decide) only [bG]
def KS : List Nat := [1116352408, 1899447441, 3049323471, 3921009573, 961987163, 1508970993, 2453635748, 2870763221, 3624381080, 310598401, 607225278, 1426881987, 1925078388, 2162078206, 2614888103, 3248222580, 3835390401, 4022224774, 264347078, 604807628, 770255983, 1249150122, 1555081692, 1996064986, 2554220882, 2821834349, 2952996808, 3210313671, 3336571891, 3584528711, 113926993, 338241895, 666307205, 773529912, 1294757372, 1396182291, 1695183700, 1986661051, 2177026350, 2456956037, 2730485921, 2820302411, 3259730800, 3345764771, 3516065817, 3600352804, 4094571909, 275423344, 430227734, 506948616, 659060556, 883997877, 958139571, 1322822218, 1537002063, 1747873779, 1955562222, 2024104815, 2227730452, 2361852424, 2428436474, 2756734187, 3204031479, 3329325298]
def FI : List Nat := [1779033703, 3144134277, 1013904242, 2773480762, 1359893119, 2600822924, 528734635, 1541459225]
noncomputable def table0 : List XV := [.int .u32 (.ofNat 0), .int .i32 (.ofNat 0), .int .u32 (.ofNat 0)] ++ List.replicate 72 (.int .u32 (.ofNat 0))
noncomputable def tableA : List XV := table0.set 1 (.int .i32 (.ofNat 1))
noncomputable def tableB : List XV := putW tableA 3 eachB 64
noncomputable def tableC : List XV := putW tableB 67 firstB 8
noncomputable def tableD : List XV := (tableC.set 0 (.int .u32 (.ofNat 1))).set 1 (.int .i32 (.ofNat 0))
theorem tableD_eq : tableD = [.int .u32 (.ofNat 1), .int .i32 (.ofNat 0), .int .u32 (.ofNat 0)] ++ words KS ++ words FI := by kernel_rfl
theorem tableC1 : tableC[1]? = some (.int .i32 (.ofNat 1)) := by kernel_rfl
theorem tableC_len : tableC.length = 75 := by kernel_rfl
theorem tableD_k : ∀ i, i < 64 → tableD[3 + i]? = some (.int .u32 (.ofNat (KS.getD i 0))) := by
  intro i hi
  rw [tableD_eq, List.getElem?_append_left (by rw [List.length_append, words_length]; show 3 + i < 3 + 64; omega), List.getElem?_append_right (by show 3 ≤ 3 + i; omega)]
  show (words KS)[3 + i - 3]? = _
  rw [Nat.add_sub_cancel_left]
  exact words_get hi
theorem tableD_len : tableD.length = 75 := by rw [tableD_eq]; rfl
theorem tableD_first : (tableD.drop 67).take 8 = words FI := by kernel_rfl
theorem p_sliceA_all (n es b o : Nat) (hn : 0 < n) : pSliceA n es (.ptr b o) none none = some (.slice b o n n es true) := by
  have h1 : Nat.ble n 0 = false := by
    rw [n_ble]; exact decide_eq_false (by omega)
  simp only [pSliceA, bnds, oNat, n_ble, Nat.zero_le, Nat.le_refl, decide_true, cond_true, offAt, n_beq, show ¬ n = 0 by omega, decide_false, cond_false, n_add, n_mul, n_sub, Nat.zero_mul, Nat.add_zero, Nat.sub_zero]
theorem once_fn : E0.fn 45 = some (.intr 1) := intr_of (by kernel_rfl)
theorem made1_call (p t : Nat) (h : XH) (tg tp : Option Nat) (hp : p < h.next) (ht : t < h.next) (hpt : p ≠ t) (hgp : h.get p = some (.cells [.ptr t 0] false tp)) (hg : h.get t = some (.cells tableA false tg)) :
    CallEv E0 n_digest_table_made_1 [.ptr p 0] h (fun _ k => k.get t = some (.cells tableC false tg) ∧ HExtE t h k) := by
  have l1 := r_load1 (h := h) (o := 0) hgp rfl
  refine call_fn fn_digest_table_made_1 ?_
  simp only [args0_cons, args0_nil]
  repeat with_reducible first | refine nx ?_ | (refine nv ?_; simp (disch := first | omega | decide) only [bG, l1, p_sliceA_all, each_hex]; refine rg ?_)
  refine callGo_ex (words_call t 3 64 eachB eachB_lt rfl (by decide) tableA tg h ht hg (by decide)) ?_
  rintro _ k1 ⟨g1, x1⟩
  have gp : k1.get p = _ := (x1.get p hp hpt).trans hgp
  have l2 := r_load1 (h := k1) (o := 0) gp rfl
  have hk := x1.le
  repeat with_reducible first | refine nx ?_ | (refine nv ?_; simp (disch := first | omega | decide) only [bG, l2, p_sliceA_all, first_hex]; refine rg ?_)
  refine callGo_ex (words_call t 67 8 firstB firstB_lt rfl (by decide) tableB tg k1 (by omega) g1 (by rw [tableB, putW_len]; decide)) ?_
  rintro _ k2 ⟨g2, x2⟩
  have hk2 := x2.le
  repeat with_reducible first | refine nx ?_ | (refine nv ?_; simp (disch := first | omega | decide) only [bG]; refine rg ?_)
  exact ret_nil.2 ⟨unit, rfl, g2, ⟨by omega, fun n h1 h2 => by rw [x2.get n (by omega) h2, x1.get n h1 h2]⟩⟩
theorem made_call (t : Nat) (h : XH) (tg : Option Nat) (ht : t < h.next) (hg : h.get t = some (.cells table0 false tg)) :
    CallEv E0 n_digest_table_made [.ptr t 0] h (fun r k => r = .ptr t 0 ∧ k.get t = some (.cells tableD false tg) ∧ HExtE t h k) := by
  have gb : (h.new (.cells [.ptr t 0] false none)).get h.next = some (.cells [.ptr t 0] false none) := by rw [XH.get_new, if_pos rfl]
  have gt : (h.new (.cells [.ptr t 0] false none)).get t = some (.cells table0 false tg) := by rw [XH.get_new, if_neg (by omega)]; exact hg
  have l1 := r_load1 (o := 0) gb rfl
  refine call_fn fn_digest_table_made ?_
  simp only [args0_cons, args0_nil]
  repeat with_reducible first | refine nx ?_ | (refine nv ?_; simp (disch := first | omega | decide) only [bG, XV.cells, l1, mapX]; refine rg ?_)
  have c0 := cell_at (o := 0) (v := .int .u32 (.ofNat 0)) gt rfl
  have c1 := cell_at (o := 1) (v := .int .i32 (.ofNat 0)) gt rfl
  have e1 := wr1 (o := 1) (v := .int .i32 (.ofNat 1)) gt (by decide) rfl
  obtain ⟨h1, hh1⟩ : ∃ h1, h1 = (h.new (.cells [.ptr t 0] false none)).set t (.cells (table0.set 1 (.int .i32 (.ofNat 1))) false tg) := ⟨_, rfl⟩
  rw [← hh1] at e1
  have n1 : h1.next = h.next + 1 := by rw [hh1]; rfl
  have gp1 : h1.get h.next = some (.cells [.ptr t 0] false none) := by rw [hh1, XH.get_set, if_neg (by omega)]; exact gb
  have gt1 : h1.get t = some (.cells tableA false tg) := by rw [hh1, XH.get_set, if_pos rfl]; rfl
  have o1 : ∀ n, n < h.next → n ≠ t → h1.get n = h.get n := fun n h2 h3 => by rw [hh1, XH.get_set, if_neg h3, XH.get_new, if_neg (by omega)]
  refine callGo_ex (call_once once_fn (fun _ _ _ => rfl) c0 c1 e1 fn_digest_table_made_1 ((made1_call h.next t h1 tg none (by omega) (by omega) (by omega) gp1 gt1).mono (fun _ k hk => ?_)) (Q := fun k => k.get t = some (.cells tableD false tg) ∧ HExtE t h k ∧ h.next + 1 ≤ k.next ∧ k.get h.next = some (.cells [.ptr t 0] false none))) ?_
  · obtain ⟨g2, x2⟩ := hk
    have hk2 := x2.le
    have e3 := wr1 (o := 0) (v := .int .u32 (.ofNat 1)) g2 (by rw [tableC_len]; decide) rfl
    have e4 := wr1 (h := k.set t (.cells (tableC.set 0 (.int .u32 (.ofNat 1))) false tg)) (o := 1) (v := .int .i32 (.ofNat 0)) (by rw [XH.get_set, if_pos rfl]) (by rw [List.length_set, tableC_len]; decide) rfl
    refine ⟨_, _, cell_at g2 tableC1, e3, e4, ?_, ⟨?_, fun n h2 h3 => ?_⟩, ?_, ?_⟩
    · rw [XH.get_set, if_pos rfl]; rfl
    · simp only [XH.next_set]; omega
    · rw [XH.get_set, if_neg h3, XH.get_set, if_neg h3, x2.get n (by omega) h3, o1 n h2 h3]
    · simp only [XH.next_set]; omega
    · rw [XH.get_set, if_neg (by omega), XH.get_set, if_neg (by omega), x2.get _ (by omega) (by omega)]; exact gp1
  · rintro _ k ⟨rfl, g2, x2, n2, gp2⟩
    have l2 := r_load1 (o := 0) gp2 rfl
    repeat with_reducible first | refine nx ?_ | (refine nv ?_; simp (disch := first | omega | decide) only [bG, l2]; refine rg ?_)
    refine ret_nil.2 ⟨_, fin_tmp (.inr rfl), ?_, g2, x2⟩
    simp (disch := first | omega | decide) only [bG]
end Go.Proofs.XCode
end
section
namespace Go.Proofs.XCode
open Go.X
set_option linter.unusedSimpArgs false
set_option linter.unusedVariables false
theorem u8s_set (l : List Nat) (i x : Nat) : (u8s l).set i (.int .u8 (.ofNat x)) = u8s (l.set i x) := by
  simp [u8s, mapX_eq, List.map_set]
theorem u8s_append (a b : List Nat) : u8s (a ++ b) = u8s a ++ u8s b := by simp [u8s, mapX_eq]
theorem u8s_one (l : List Nat) : allOne (u8s l) = true := by
  induction l with
  | nil => rfl
  | cons a l ih => exact ih
theorem rep_u8s (n : Nat) : List.replicate n (XV.int .u8 (.ofNat 0)) = u8s (List.replicate n 0) := by simp [u8s, mapX_eq]
theorem wrap_u8m (n : Nat) : wrapX .u8 (.ofNat n) = .ofNat (n % 256) := rfl
theorem lt_all {l : List Nat} (h : ∀ i, l.getD i 0 < 256) : ∀ x ∈ l, x < 256 := by
  intro x hx
  obtain ⟨j, hj, rfl⟩ := List.getElem_of_mem hx
  have := h j
  rwa [List.getD_eq_getElem?_getD, List.getElem?_eq_getElem hj] at this
def pbN (v n : Nat) : Nat → List Nat
  | 0 => List.replicate n 0
  | i + 1 => (pbN v n i).set (n - 1 - i) (v >>> (8 * i) % 256)
theorem pbN_len (v n : Nat) : ∀ i, (pbN v n i).length = n
  | 0 => by simp [pbN]
  | i + 1 => by rw [pbN, List.length_set, pbN_len v n i]
theorem getD_set_lt {l : List Nat} {i x m : Nat} (hm : 0 < m) (hl : ∀ i, l.getD i 0 < m) (hx : x < m) : ∀ j, (l.set i x).getD j 0 < m := by
  intro j
  rw [List.getD_eq_getElem?_getD, List.getElem?_set]
  split
  · split
    · exact hx
    · exact hm
  · rw [← List.getD_eq_getElem?_getD]; exact hl j
theorem pbN_lt (v n : Nat) : ∀ i j, (pbN v n i).getD j 0 < 256
  | 0, j => by
    simp only [pbN, List.getD_eq_getElem?_getD, List.getElem?_replicate]
    split <;> decide
  | i + 1, j => getD_set_lt (by decide) (pbN_lt v n i) (Nat.mod_lt _ (by decide)) j
noncomputable def putBig (v n : Nat) : List Nat := pbN v n n
theorem putBig_call (v n : Nat) (hv : v < 18446744073709551616) (h1 : 1 ≤ n) (h8 : n ≤ 8) (h : XH) : CallEv E0 n_octet_PutBig [.int .u64 (.ofNat v), .int .i64 (.ofNat n)] h (fun r k => r = .str (putBig v n) ∧ HExt h k) := by
  have c1 : ¬ n < 1 := by omega
  have c2 : ¬ 8 < n := by omega
  refine call_fn fn_octet_PutBig ?_
  simp only [args0_cons, args0_nil]
  repeat with_reducible first | refine nx ?_ | (refine nv ?_; simp (disch := first | omega | decide) only [bG, c1, c2, decide_false, cond_false]; refine rg ?_)
  refine go_cond ?_
  simp (disch := first | omega | decide) only [bG, c1, c2, decide_false, cond_false]
  refine condGo_false ?_
  repeat with_reducible first | refine nx ?_ | (refine nv ?_; simp (disch := first | omega | decide) only [bG, a_mk _ _ _ _ _ (Nat.le_refl n), flat1, rep_u8s]; refine rg ?_)
  refine go_loop_ind hE0 (fun m fr k => ∃ i, m = n - i ∧ i ≤ n ∧ HExt h k ∧ h.next + 1 ≤ k.next ∧ k.get h.next = some (.cells (u8s (pbN v n i)) false none) ∧
      ev fr (.t (ixOf 0)) = .int .u64 (.ofNat v) ∧ ev fr (.t (ixOf 1)) = .int .i64 (.ofNat n) ∧ ev fr (.t (ixOf 5)) = .slice h.next 0 n n 1 true ∧ ev fr (.t (ixOf 16)) = .int .i64 (.ofNat n) ∧ ev fr (.t (ixOf 17)) = .int .i64 (.ofNat i)) ?_ (n := n) ?_
  · rintro m fr k IH ⟨i, rfl, hi, hx, hn, hg, f0, f1, f5, f16, f17⟩
    repeat with_reducible first | refine nx ?_ | (refine nv ?_; simp (disch := first | omega | decide) only [bG, f16, f17]; refine rg ?_)
    refine go_cond ?_
    simp (disch := first | omega | decide) only [bG]
    refine condGo_split (fun hc => ?_) (fun hc => ?_)
    · have hc := of_decide_eq_true hc
      have hb : 8 * i ≤ IntKind.u64.bits := by show 8 * i ≤ 64; omega
      have hst := e_store_one (b := h.next) (o := n - 1 - i) (v := .int .u8 (.ofNat (v >>> (8 * i) % 256))) hg (by rw [u8s_length, pbN_len]; omega) rfl
      rw [u8s_set] at hst
      repeat with_reducible first | refine nx ?_ | (refine nv ?_; simp (disch := first | omega | decide) only [bG, f0, f1, f5, f17, hb, wrap_u8m, hst]; refine rg ?_)
      refine ret_loop.2 (IH (n - (i + 1)) _ _ (by omega) ⟨i + 1, rfl, by omega, hx.set (m := h.next) (by omega) _, ?_, ?_, ?_, ?_, ?_, ?_, ?_⟩)
      · simp only [XH.next_set]; omega
      · rw [XH.get_set, if_pos rfl]; rfl
      all_goals simp (disch := first | omega | decide) only [bG, f0, f1, f5, f16, f17]
    · have hc := of_decide_eq_false hc
      obtain rfl : i = n := by omega
      have hcv := r_convBS (h := k) (b := h.next) (o := 0) (len := i) (cap := i) (ex := true) (s := pbN v i i) (by rw [cells_b hg (by rw [u8s_length, pbN_len]; omega), List.drop_zero, List.take_of_length_le (by rw [u8s_length, pbN_len]; exact Nat.le_refl _)]) (lt_all (pbN_lt _ _ _))
      repeat with_reducible first | refine nx ?_ | (refine nv ?_; simp (disch := first | omega | decide) only [bG, f5, hcv]; refine rg ?_)
      refine ret_nil.2 ⟨_, fin_tmp (.inr rfl), ?_, hx⟩
      simp (disch := first | omega | decide) only [bG]
      rfl
  · refine ⟨0, rfl, by omega, (HExt.refl h).new _, ?_, ?_, ?_, ?_, ?_, ?_, ?_⟩
    · simp only [XH.next_new]; omega
    · rw [XH.get_new, if_pos rfl]; rfl
    all_goals simp (disch := first | omega | decide) only [bG]
theorem check_fn : E0.fn 134 = some (.intr (1000 + 167)) := intr_of (by kernel_rfl)
theorem string_fn : E0.fn 82 = some (.intr (2000 + 5)) := intr_of (by kernel_rfl)
def BldAt (B : Nat) (h : XH) (b : Nat) (s : List Nat) : Prop :=
  ∃ p buf, h.get b = some (.cells [p, buf] false (some (Nat.mul 2 167))) ∧ B ≤ b ∧ b < h.next ∧ (p = .nilp ∨ p = .ptr b 0) ∧
    ((s = [] ∧ buf = .nils) ∨ ∃ n, n ≠ b ∧ B ≤ n ∧ n < h.next ∧ s ≠ [] ∧ buf = .slice n 0 s.length s.length 1 false ∧ h.get n = some (.cells (u8s s) false (rowTag 5)))
def Keep (B : Nat) (h k : XH) : Prop := h.next ≤ k.next ∧ ∀ n, n < B → k.get n = h.get n
theorem check_ev {B b : Nat} {h : XH} {s : List Nat} (hb : BldAt B h b s) : CallEv E0 134 [.ptr b 0] h (fun _ k => (∃ buf, k.get b = some (.cells [.ptr b 0, buf] false (some (Nat.mul 2 167))) ∧ ((s = [] ∧ buf = .nils) ∨ ∃ n, n ≠ b ∧ B ≤ n ∧ n < k.next ∧ s ≠ [] ∧ buf = .slice n 0 s.length s.length 1 false ∧ k.get n = some (.cells (u8s s) false (rowTag 5)))) ∧ B ≤ b ∧ b < k.next ∧ Keep B h k) := by
  obtain ⟨p, buf, hg, hB, hlt, hp, hbuf⟩ := hb
  have hi : ∀ c, intr c (1000 + 167) [.ptr b 0] h = iCheck (Nat.mul 2 167) [.ptr b 0] h := fun c => rfl
  have hE : E0.intr = intr := rfl
  rcases hp with rfl | rfl
  · refine call_intr' check_fn 0 (v := unit) (h' := h.set b (.cells [.ptr b 0, buf] false (some (Nat.mul 2 167)))) ?_ ⟨⟨buf, by rw [XH.get_set, if_pos rfl], ?_⟩, hB, by simpa using hlt, by simp, fun n hn => by rw [XH.get_set, if_neg (by omega)]⟩
    · rw [hE, hi]
      simp only [iCheck, hg, lenX_eq, n_beq, List.length_cons, List.length_nil, decide_true, Bool.and_self, cond_true, nth_eq, List.getElem?_cons_zero, Nat.zero_add]
      rw [wr1 hg (by simp) rfl]
      rfl
    · rcases hbuf with h1 | ⟨n, h1, h2, h3, h4, h5, h6⟩
      · exact .inl h1
      · exact .inr ⟨n, h1, h2, by simpa using h3, h4, h5, by rw [XH.get_set, if_neg h1]; exact h6⟩
  · refine call_intr' check_fn 0 (v := unit) (h' := h) ?_ ⟨⟨buf, hg, hbuf⟩, hB, hlt, Nat.le_refl _, fun _ _ => rfl⟩
    rw [hE, hi]
    simp only [iCheck, hg, lenX_eq, n_beq, List.length_cons, List.length_nil, decide_true, Bool.and_self, cond_true, nth_eq, List.getElem?_cons_zero, Nat.zero_add]
theorem app_nil (h : XH) (w : List Nat) (hw : w ≠ []) (hl : w.length ≤ 1000) (et : Nat) : eAppend h 1 1 et .nils (.str w) = some (.slice h.next 0 w.length w.length 1 false, h.new (.cells (u8s w) false (rowTag et))) := by
  have h1 : lenOf (.str w) = some w.length := by simp [lenOf, lenX_eq]
  have h2 : cellsOf h 1 w.length (.str w) = some (u8s w) := by
    show (bif Nat.beq 1 1 then some (u8s (takeX w.length w)) else none) = _
    rw [takeX_eq, List.take_length]; rfl
  have h3 : ¬ w.length = 0 := fun e => hw (List.length_eq_zero_iff.1 e)
  have h4 : w.length * 2 ≤ 1000000 := by omega
  simp only [eAppend, h1, h2, appN, n_beq, h3, decide_false, cond_false, n_ble, n_mul, n_succ, h4, decide_true, cond_true, newS]
theorem app_row (h : XH) (s w : List Nat) (n et : Nat) (hw : w ≠ []) (hl : s.length + w.length ≤ 1000) (hg : h.get n = some (.cells (u8s s) false (rowTag et))) :
    eAppend h 1 1 et (.slice n 0 s.length s.length 1 false) (.str w) = some (.slice h.next 0 (s ++ w).length (s ++ w).length 1 false, (h.del n).new (.cells (u8s (s ++ w)) false (rowTag et))) := by
  have h1 : lenOf (.str w) = some w.length := by simp [lenOf, lenX_eq]
  have h2 : cellsOf h 1 w.length (.str w) = some (u8s w) := by
    show (bif Nat.beq 1 1 then some (u8s (takeX w.length w)) else none) = _
    rw [takeX_eq, List.take_length]; rfl
  have h3 : ¬ w.length = 0 := fun e => hw (List.length_eq_zero_iff.1 e)
  have h4 : (s.length + w.length) * 2 ≤ 1000000 := by omega
  have h5 : ¬ s.length + w.length ≤ s.length := by omega
  have h6 : cellsB h n 0 (s.length * 1) = some (u8s s) := by
    rw [cells_b hg (by rw [u8s_length]; omega), Nat.mul_one, List.drop_zero, List.take_of_length_le (by rw [u8s_length]; exact Nat.le_refl _)]
  have h7 : growTag 0 et (rowTag et) = rowTag et := by
    show (bif and (Nat.beq 0 0) (Nat.beq (Nat.succ (Nat.mul 2 et)) (Nat.succ (Nat.mul 2 et))) then _ else _) = _
    rw [Nat.beq_refl, Nat.beq_refl]; rfl
  simp only [eAppend, h1, h2, appN, n_beq, decide_true, cond_true, n_ble, n_add, h5, decide_false, cond_false, growS, h6, n_mul, n_succ, h4, hg, u8s_one, h7, newS, appX_eq, u8s_append, List.length_append]
  rfl
theorem write_call {B b : Nat} {h : XH} {s : List Nat} (hb : BldAt B h b s) (w : List Nat) (hw : w ≠ []) (hl : s.length + w.length ≤ 1000) : CallEv E0 n_strings_Builder_WriteString [.ptr b 0, .str w] h (fun _ k => BldAt B k b (s ++ w) ∧ Keep B h k) := by
  refine call_fn fn_strings_Builder_WriteString ?_
  simp only [args0_cons, args0_nil]
  repeat with_reducible first | refine nx ?_ | (refine nv ?_; simp (disch := first | omega | decide) only [bG]; refine rg ?_)
  refine callGo_ex (check_ev hb) ?_
  rintro _ k ⟨⟨buf, hg, hbuf⟩, hB, hlt, hk1, hk2⟩
  have l1 := r_load1 (o := 1) hg rfl
  have hsw : s ++ w ≠ [] := by simp [hw]
  rcases hbuf with ⟨rfl, rfl⟩ | ⟨n, n1, n2, n3, n4, rfl, n6⟩
  · have ha := app_nil k w hw (by simpa using hl) 5
    have hst := e_store_one (h := k.new (.cells (u8s w) false (rowTag 5))) (b := b) (o := 1) (v := .slice k.next 0 w.length w.length 1 false) (by rw [XH.get_new, if_neg (by omega)]; exact hg) (by simp) rfl
    repeat with_reducible first | refine nx ?_ | (refine nv ?_; simp (disch := first | omega | decide) only [bG, l1, ha, hst]; refine rg ?_)
    refine ret_nil.2 ⟨_, by rw [show ([.tmp (ixOf 4), .tmp (ixOf 5)] : List XRes) = [4, 5].map fun i => .tmp (ixOf i) from rfl, fin_tmps (.inr rfl)], ?_, ?_, ?_⟩
    · refine ⟨.ptr b 0, .slice k.next 0 w.length w.length 1 false, by rw [XH.get_set, if_pos rfl]; rfl, hB, by simp only [XH.next_set, XH.next_new]; omega, .inr rfl, .inr ⟨k.next, by omega, by omega, by simp only [XH.next_set, XH.next_new]; omega, hsw, rfl, ?_⟩⟩
      rw [XH.get_set, if_neg (by omega), XH.get_new, if_pos rfl]; rfl
    · simp only [XH.next_set, XH.next_new]; omega
    · intro m hm
      rw [XH.get_set, if_neg (by omega), XH.get_new, if_neg (by omega), hk2 m hm]
  · have ha := app_row k s w n 5 hw hl n6
    have hst := e_store_one (h := (k.del n).new (.cells (u8s (s ++ w)) false (rowTag 5))) (b := b) (o := 1) (v := .slice k.next 0 (s ++ w).length (s ++ w).length 1 false) (by rw [XH.get_new, XH.next_del, if_neg (by omega), XH.get_del, if_neg (by omega)]; exact hg) (by simp) rfl
    repeat with_reducible first | refine nx ?_ | (refine nv ?_; simp (disch := first | omega | decide) only [bG, l1, ha, hst]; refine rg ?_)
    refine ret_nil.2 ⟨_, by rw [show ([.tmp (ixOf 4), .tmp (ixOf 5)] : List XRes) = [4, 5].map fun i => .tmp (ixOf i) from rfl, fin_tmps (.inr rfl)], ?_, ?_, ?_⟩
    · refine ⟨.ptr b 0, .slice k.next 0 (s ++ w).length (s ++ w).length 1 false, by rw [XH.get_set, if_pos rfl]; rfl, hB, by simp only [XH.next_set, XH.next_new, XH.next_del]; omega, .inr rfl, .inr ⟨k.next, by omega, by omega, by simp only [XH.next_set, XH.next_new, XH.next_del]; omega, hsw, rfl, ?_⟩⟩
      rw [XH.get_set, if_neg (by omega), XH.get_new, XH.next_del, if_pos rfl]
    · simp only [XH.next_set, XH.next_new, XH.next_del]; omega
    · intro m hm
      rw [XH.get_set, if_neg (by omega), XH.get_new, XH.next_del, if_neg (by omega), XH.get_del, if_neg (by omega), hk2 m hm]
theorem string_call {B b : Nat} {h : XH} {s : List Nat} (hb : BldAt B h b s) (hs : ∀ i, s.getD i 0 < 256) (h0 : s ≠ []) (hl : s.length ≤ 1000) : CallEv E0 82 [.ptr b 0] h (fun r k => r = .str s ∧ Keep B h k) := by
  obtain ⟨p, buf, hg, hB, hlt, hp, hbuf⟩ := hb
  rcases hbuf with ⟨rfl, _⟩ | ⟨n, n1, n2, n3, n4, rfl, n6⟩
  · exact absurd rfl h0
  · refine call_intr' string_fn 0 (v := .str s) (h' := h.del n) ?_ ⟨rfl, by rw [XH.next_del]; exact Nat.le_refl _, fun m hm => by rw [XH.get_del, if_neg (by omega)]⟩
    have hE : E0.intr = intr := rfl
    have hi : ∀ c, intr c (2000 + 5) [.ptr b 0] h = iString 5 [.ptr b 0] h := fun c => rfl
    have h1 := cell_at (o := 1) (v := .slice n 0 s.length s.length 1 false) hg rfl
    have h2 : 1 ≤ s.length := by
      cases s with
      | nil => exact absurd rfl h0
      | cons a l => simp
    have h3 : takeN s.length (u8s s) = some (u8s s) := by
      rw [takeN_of _ _ (by rw [u8s_length]; exact Nat.le_refl _), List.take_of_length_le (by rw [u8s_length]; exact Nat.le_refl _)]
    have h4 := r_convBS (h := h) (b := n) (o := 0) (len := s.length) (cap := s.length) (ex := false) (s := s) (by rw [cells_b n6 (by rw [u8s_length]; omega), List.drop_zero, List.take_of_length_le (by rw [u8s_length]; exact Nat.le_refl _)]) (lt_all hs)
    have h5 : bytesOf (u8s s) = some s := by
      simp only [rConvBS, n_beq, decide_true, cond_true, cells_b n6 (show 0 + s.length ≤ (u8s s).length by rw [u8s_length]; omega), List.drop_zero, List.take_of_length_le (show (u8s s).length ≤ s.length by rw [u8s_length]; exact Nat.le_refl _)] at h4
      cases e : bytesOf (u8s s) with
      | none => rw [e] at h4; cases h4
      | some r => rw [e] at h4; simpa using h4
    rw [hE, hi]
    simp only [iString, Nat.succ_eq_add_one, Nat.zero_add, h1, n6, rowTag, Nat.beq_refl, n_ble, h2, show s.length ≤ 1000000 by omega, decide_true, Bool.and_self, cond_true, h3, h5]
end Go.Proofs.XCode
end
section
namespace Go.Proofs.XCode
open Go.X
set_option linter.unusedSimpArgs false
set_option linter.unusedVariables false
set_option maxRecDepth 10000
theorem list8 {W : List Nat} (h : W.length = 8) : ∃ a b c d e f g i, W = [a, b, c, d, e, f, g, i] := by
  match W, h with
  | [a, b, c, d, e, f, g, i], _ => exact ⟨a, b, c, d, e, f, g, i, rfl⟩
noncomputable def dCells (bg : Bool) (W rest : List Nat) (n : Nat) : List XV := [.bool bg] ++ words W ++ [.str rest, .int .i64 (.ofNat n)]
theorem dCells_len {bg : Bool} {W rest : List Nat} {n : Nat} (hW : W.length = 8) : (dCells bg W rest n).length = 11 := by
  simp [dCells, words_length, hW]
theorem d_0 {bg : Bool} {W rest : List Nat} {n : Nat} : (dCells bg W rest n)[0]? = some (.bool bg) := rfl
theorem d_9 {bg : Bool} {W rest : List Nat} {n : Nat} (hW : W.length = 8) : (dCells bg W rest n)[9]? = some (.str rest) := by
  obtain ⟨a, b, c, d, e, f, g, i, rfl⟩ := list8 hW; rfl
theorem d_10 {bg : Bool} {W rest : List Nat} {n : Nat} (hW : W.length = 8) : (dCells bg W rest n)[10]? = some (.int .i64 (.ofNat n)) := by
  obtain ⟨a, b, c, d, e, f, g, i, rfl⟩ := list8 hW; rfl
theorem d_w {bg : Bool} {W rest : List Nat} {n : Nat} (hW : W.length = 8) : ((dCells bg W rest n).drop 1).take 8 = words W := by
  obtain ⟨a, b, c, d, e, f, g, i, rfl⟩ := list8 hW; rfl
theorem d_set0 {bg : Bool} {W rest : List Nat} {n : Nat} (v : Bool) : (dCells bg W rest n).set 0 (.bool v) = dCells v W rest n := rfl
theorem d_set9 {bg : Bool} {W rest : List Nat} {n : Nat} (hW : W.length = 8) (r : List Nat) : (dCells bg W rest n).set 9 (.str r) = dCells bg W r n := by
  obtain ⟨a, b, c, d, e, f, g, i, rfl⟩ := list8 hW; rfl
theorem d_set10 {bg : Bool} {W rest : List Nat} {n : Nat} (hW : W.length = 8) (m : Nat) : (dCells bg W rest n).set 10 (.int .i64 (.ofNat m)) = dCells bg W rest m := by
  obtain ⟨a, b, c, d, e, f, g, i, rfl⟩ := list8 hW; rfl
theorem d_splice {bg : Bool} {W rest V : List Nat} {n : Nat} (hW : W.length = 8) (hV : V.length = 8) : splice (dCells bg W rest n) 1 (words V) = dCells bg V rest n := by
  obtain ⟨a, b, c, d, e, f, g, i, rfl⟩ := list8 hW
  obtain ⟨a', b', c', d', e', f', g', i', rfl⟩ := list8 hV
  rfl
theorem r_loadNo {h : XH} {b o n : Nat} {c : List XV} {ro : Bool} {tg : Option Nat} (hg : h.get b = some (.cells c ro tg)) (hc : o + n ≤ c.length) : rLoad h (.many n) (.ptr b o) = some (.agg ((c.drop o).take n)) := by
  simp only [rLoad, hg, takeP, dropX_eq]
  rw [takeN_of _ _ (by rw [List.length_drop]; omega)]
theorem e_storeNo {h : XH} {b o n : Nat} {c vs : List XV} {tg : Option Nat} (hg : h.get b = some (.cells c false tg)) (hn : n = vs.length) (hc : o + vs.length ≤ c.length) (h1 : allOne vs = true) : eStore h n (.ptr b o) (.agg vs) = some (unit, h.set b (.cells (splice c o vs) false tg)) := by
  subst hn
  simp only [eStore, XV.cells, lenX_eq, n_beq, decide_true, cond_true, wr, hg, n_ble, n_add, hc, h1, Bool.and_true, unitR]
theorem u_not (b : Bool) : xun .not (.bool b) = some (.bool (!b)) := rfl
theorem b_ptr_neq (e b o : Nat) : xbin (.ptr e) .neq (.ptr b o) .nilp = some (.bool true) := rfl
theorem b_ptr_eql (e b o : Nat) : xbin (.ptr e) .eql (.ptr b o) .nilp = some (.bool false) := rfl
def mixF (W blk : List Nat) : List Nat := addF (roundsF KS (schedF blk 64) W 64) W 8
def mixN : Nat → List Nat → List Nat → List Nat
  | 0, W, _ => W
  | m + 1, W, b => mixN m (mixF W (b.take 64)) (b.drop 64)
theorem addF_lt {x s : List Nat} (hx : ∀ i, x.getD i 0 < 4294967296) : ∀ i j, (addF x s i).getD j 0 < 4294967296
  | 0, j => hx j
  | i + 1, j => getD_set_lt (by decide) (addF_lt hx i) (mod_lt32 _) j
theorem mixF_lt {W blk : List Nat} (hW : ∀ i, W.getD i 0 < 4294967296) : ∀ j, (mixF W blk).getD j 0 < 4294967296 := addF_lt (roundsF_lt hW 64) 8
theorem mixF_len {W blk : List Nat} (hW : W.length = 8) : (mixF W blk).length = 8 := by rw [mixF, addF_len, roundsF_len hW]
theorem FI_lt : ∀ i, FI.getD i 0 < 4294967296 := by
  have h : ∀ x ∈ FI, x < 4294967296 := by decide
  intro i
  rw [List.getD_eq_getElem?_getD]
  cases e : FI[i]? with
  | none => decide
  | some x => exact h x (List.mem_of_getElem? e)
theorem clone_fn : E0.fn 54 = some (.intr 5) := intr_of (by kernel_rfl)
theorem clone_ev (s : List Nat) (hs : s.length ≤ 1000000) (h : XH) : CallEv E0 54 [.str s] h (fun r k => r = .str s ∧ k = h) := by
  refine call_intr' clone_fn 0 (v := .str s) (h' := h) ?_ ⟨rfl, rfl⟩
  have hE : E0.intr = intr := rfl
  have hi : ∀ c, intr c 5 [.str s] h = iClone [.str s] h := fun c => rfl
  rw [hE, hi]
  simp only [iClone, n_ble, lenX_eq, hs, decide_true, cond_true]
set_option maxHeartbeats 1000000 in
theorem add_call (d t : Nat) (bg : Bool) (W rest b : List Nat) (n : Nat) (hW : W.length = 8) (hWl : ∀ i, W.getD i 0 < 4294967296) (hr : ∀ i, (rest ++ b).getD i 0 < 256) (hl : rest.length + b.length ≤ 2000) (hn : n ≤ 100000) (h : XH) (hd : d < h.next) (ht : t < h.next) (hdt : d ≠ t) (tg tg2 : Option Nat)
    (hg : h.get d = some (.cells (dCells bg W rest n) false tg)) (hgt : h.get t = some (.cells tableD false tg2)) :
    CallEv E0 n_digest_Digest_add [.ptr d 0, .ptr t 0, .str b] h (fun _ k => k.get d = some (.cells (dCells true (mixN ((rest ++ b).length / 64) (if bg then W else FI) (rest ++ b)) ((rest ++ b).drop (64 * ((rest ++ b).length / 64))) (n + b.length)) false tg) ∧ HExtE d h k) := by
  refine call_fn fn_digest_Digest_add ?_
  simp only [args0_cons, args0_nil]
  have l0 := r_load1 (o := 0) hg d_0
  repeat with_reducible first | refine nx ?_ | (refine nv ?_; simp (disch := first | omega | decide) only [bG, l0, u_not]; refine rg ?_)
  -- behind the first test: the words are there
  have key : ∀ (fr : XF) (k : XH) (V : List Nat), V = (if bg then W else FI) → V.length = 8 → (∀ i, V.getD i 0 < 4294967296) → h.next ≤ k.next → (∀ m, m < h.next → m ≠ d → k.get m = h.get m) → k.get d = some (.cells (dCells true V rest n) false tg) →
      ev fr (.t (ixOf 0)) = .ptr d 0 → ev fr (.t (ixOf 1)) = .ptr t 0 → ev fr (.t (ixOf 2)) = .str b →
      Go E0 c_digest_Digest_add_19 [] fr k (fun e fr h_1 => ∃ v, finX [] (e, fr, h_1) = some (v, h_1) ∧ h_1.get d = some (.cells (dCells true (mixN ((rest ++ b).length / 64) (if bg then W else FI) (rest ++ b)) ((rest ++ b).drop (64 * ((rest ++ b).length / 64))) (n + b.length)) false tg) ∧ HExtE d h h_1) := by
    intro fr k V hV hV8 hVl hk1 hk2 gk f0 f1 f2
    rw [← hV]
    have l10 := r_load1 (o := 10) gk (d_10 hV8)
    have s10 := e_store_one (o := 10) (v := .int .i64 (.ofNat (n + b.length))) gk (by rw [dCells_len hV8]; decide) rfl
    rw [d_set10 hV8] at s10
    have gk2 : (k.set d (.cells (dCells true V rest (n + b.length)) false tg)).get d = some (.cells (dCells true V rest (n + b.length)) false tg) := by rw [XH.get_set, if_pos rfl]
    have l9 := r_load1 (o := 9) gk2 (d_9 hV8)
    repeat with_reducible first | refine nx ?_ | (refine nv ?_; simp (disch := first | omega | decide) only [bG, f0, f1, f2, l10, s10, l9]; refine rg ?_)
    have hk0 : ∀ m, m < h.next → m ≠ d → (k.set d (.cells (dCells true V rest (n + b.length)) false tg)).get m = h.get m := fun m h1 h2 => by rw [XH.get_set, if_neg h2, hk2 m h1 h2]
    have hkn : h.next ≤ (k.set d (.cells (dCells true V rest (n + b.length)) false tg)).next := hk1
    generalize (k.set d (.cells (dCells true V rest (n + b.length)) false tg)) = k0 at gk2 hk0 hkn ⊢
    refine go_loop_ind hE0 (fun m fr k => ∃ V' b', m = b'.length ∧ V'.length = 8 ∧ (∀ i, V'.getD i 0 < 4294967296) ∧ (∀ i, b'.getD i 0 < 256) ∧ b'.length ≤ 2000 ∧ h.next ≤ k.next ∧ (∀ m, m < h.next → m ≠ d → k.get m = h.get m) ∧ k.get d = some (.cells (dCells true V' rest (n + b.length)) false tg) ∧
        mixN (b'.length / 64) V' b' = mixN ((rest ++ b).length / 64) V (rest ++ b) ∧ b'.drop (64 * (b'.length / 64)) = (rest ++ b).drop (64 * ((rest ++ b).length / 64)) ∧
        ev fr (.t (ixOf 0)) = .ptr d 0 ∧ ev fr (.t (ixOf 1)) = .ptr t 0 ∧ ev fr (.t (ixOf 2)) = .str b') ?_ (n := (rest ++ b).length) ?_
    · clear f0 f1 f2 gk2 hk0 hkn l10 s10 l9 gk hk1 hk2
      rintro m fr k IH ⟨V', b', rfl, hV', hVl', hb', hbl, hkn, hk2, gk, hm, hd', f0, f1, f2⟩
      repeat with_reducible first | refine nx ?_ | (refine nv ?_; simp (disch := first | omega | decide) only [bG, f2]; refine rg ?_)
      refine go_cond ?_
      simp (disch := first | omega | decide) only [bG]
      refine condGo_split (fun hc => ?_) (fun hc => ?_)
      · have hc := of_decide_eq_true hc
        have lw := r_loadNo (o := 1) (n := 8) gk (by rw [dCells_len hV']; decide)
        rw [d_w hV'] at lw
        repeat with_reducible first | refine nx ?_ | (refine nv ?_; simp (disch := first | omega | decide) only [bG, f0, f1, f2, lw]; refine rg ?_)
        refine callPl_ex (mix_call t tableD KS tableD_k V' (b'.take 64) hVl' hV' (by
          intro i
          have := getD_part hb' 0 64 i
          rwa [List.drop_zero] at this) (by rw [List.length_take]; omega) k (by omega) ⟨false, tg2, (hk2 t ht (Ne.symm hdt)).trans hgt⟩) ?_
        rintro _ k1 ⟨rfl, x1⟩
        have hk1 := x1.le
        have g1 := (x1.get d (by omega)).trans gk
        have hst := e_storeNo (h := k1) (n := 8) (o := 1) (vs := words (mixF V' (b'.take 64))) g1 (by rw [words_length, mixF_len hV']) (by rw [words_length, mixF_len hV', dCells_len hV']; decide) (words_one _)
        rw [d_splice hV' (mixF_len hV')] at hst
        have hst' : eStore k1 8 (.ptr d 1) (.agg (words (addF (roundsF KS (schedF (b'.take 64) 64) V' 64) V' 8))) = _ := hst
        repeat with_reducible first | refine nx ?_ | (refine nv ?_; simp (disch := first | omega | decide) only [bG, f0, f1, f2, hst']; refine rg ?_)
        refine plan_nil (by simp (disch := first | omega | decide) only [endOk, chkAt, addNew, newOk, rangeOk, distinctN, Nat.reduceLT, Nat.reduceAdd, Nat.reduceLeDiff, bP, bG, f0, f1, f2, lw, hk1]) ?_
        repeat with_reducible first | refine nx ?_ | (refine nv ?_; simp (disch := first | omega | decide) only [bG, f2]; refine rg ?_)
        refine ret_loop.2 (IH (b'.drop 64).length _ _ (by rw [List.length_drop]; omega) ⟨mixF V' (b'.take 64), b'.drop 64, rfl, mixF_len hV', mixF_lt hVl', fun i => by rw [getD_drop]; exact hb' _, by rw [List.length_drop]; omega, ?_, ?_, ?_, ?_, ?_, ?_, ?_, ?_⟩)
        · simp only [XH.next_set]; omega
        · intro m h1 h2
          rw [XH.get_set, if_neg h2, x1.get _ (by omega), hk2 m h1 h2]
        · rw [XH.get_set, if_pos rfl]
        · rw [← hm, List.length_drop, show b'.length / 64 = (b'.length - 64) / 64 + 1 by omega]
          rfl
        · rw [← hd', List.length_drop, List.drop_drop, show 64 + 64 * ((b'.length - 64) / 64) = 64 * (b'.length / 64) by omega]
        all_goals simp (disch := first | omega | decide) only [bG, f0, f1, f2]
      · have hc := of_decide_eq_false hc
        have e0 : b'.length / 64 = 0 := by omega
        rw [e0] at hm hd'
        rw [Nat.mul_zero, List.drop_zero] at hd'
        repeat with_reducible first | refine nx ?_ | (refine nv ?_; simp (disch := first | omega | decide) only [bG, f0, f2]; refine rg ?_)
        refine callGo_of (clone_ev b' (by omega) k) ?_
        have hst := e_store_one (o := 9) (v := .str b') gk (by rw [dCells_len hV']; decide) rfl
        rw [d_set9 hV'] at hst
        repeat with_reducible first | refine nx ?_ | (refine nv ?_; simp (disch := first | omega | decide) only [bG, hst]; refine rg ?_)
        refine ret_nil.2 ⟨unit, rfl, ?_, hkn, fun m h1 h2 => by rw [XH.get_set, if_neg h2, hk2 m h1 h2]⟩
        rw [XH.get_set, if_pos rfl, ← hm, ← hd']
        rfl
    · refine ⟨V, rest ++ b, rfl, hV8, hVl, hr, by rw [List.length_append]; omega, hkn, hk0, gk2, rfl, rfl, ?_, ?_, ?_⟩ <;> simp (disch := first | omega | decide) only [bG, f0, f1, f2]
  refine go_cond ?_
  simp (disch := first | omega | decide) only [bG]
  cases bg with
  | true =>
    refine condGo_false ?_
    refine go_skip (ret_seq.2 ?_)
    refine key _ h W rfl hW hWl (Nat.le_refl _) (fun _ _ _ => rfl) hg ?_ ?_ ?_ <;> simp (disch := first | omega | decide) only [bG]
  | false =>
    refine condGo_true ?_
    have lt8 := r_loadNo (o := 67) (n := 8) hgt (by rw [tableD_len]; decide)
    rw [tableD_first] at lt8
    have s0 := e_store_one (o := 0) (v := .bool true) hg (by rw [dCells_len hW]; decide) rfl
    rw [d_set0] at s0
    have s8 := e_storeNo (h := h.set d (.cells (dCells true W rest n) false tg)) (b := d) (o := 1) (n := 8) (c := dCells true W rest n) (tg := tg) (vs := words FI) (by rw [XH.get_set, if_pos rfl]) rfl (by rw [words_length, dCells_len hW]; decide) (words_one _)
    rw [d_splice hW rfl] at s8
    generalize hK : [Kont.seq c_digest_Digest_add_19] = K
    repeat with_reducible first | refine nx ?_ | (refine nv ?_; simp (disch := first | omega | decide) only [bG, lt8, s0, s8]; refine rg ?_)
    subst hK
    refine ret_seq.2 (key _ _ FI rfl rfl FI_lt ?_ ?_ ?_ ?_ ?_ ?_)
    · simp only [XH.next_set]; exact Nat.le_refl _
    · exact fun m h1 h2 => by rw [XH.get_set, if_neg h2, XH.get_set, if_neg h2]
    · rw [XH.get_set, if_pos rfl]
    all_goals simp (disch := first | omega | decide) only [bG]
theorem dig_zero : ([(.bool false), (.int .u32 (.ofNat 0)), (.int .u32 (.ofNat 0)), (.int .u32 (.ofNat 0)), (.int .u32 (.ofNat 0)), (.int .u32 (.ofNat 0)), (.int .u32 (.ofNat 0)), (.int .u32 (.ofNat 0)), (.int .u32 (.ofNat 0)), (.str []), (.int .i64 (.ofNat 0))] : List XV) = dCells false (List.replicate 8 0) [] 0 := rfl
theorem Add_call (d : Nat) (bg : Bool) (W rest b : List Nat) (n : Nat) (hW : W.length = 8) (hWl : ∀ i, W.getD i 0 < 4294967296) (hr : ∀ i, (rest ++ b).getD i 0 < 256) (hl : rest.length + b.length ≤ 2000) (hn : n ≤ 100000) (h : XH) (hd : d < h.next) (tg : Option Nat) (hg : h.get d = some (.cells (dCells bg W rest n) false tg)) :
    CallEv E0 n_digest_Digest_Add [.ptr d 0, .str b] h (fun _ k => k.get d = some (.cells (dCells true (mixN ((rest ++ b).length / 64) (if bg then W else FI) (rest ++ b)) ((rest ++ b).drop (64 * ((rest ++ b).length / 64))) (n + b.length)) false tg) ∧ HExtE d h k) := by
  refine call_fn fn_digest_Digest_Add ?_
  simp only [args0_cons, args0_nil]
  repeat with_reducible first | refine nx ?_ | (refine nv ?_; simp (disch := first | omega | decide) only [bG, b_ptr_neq]; refine rg ?_)
  refine go_cond ?_
  simp (disch := first | omega | decide) only [bG]
  refine condGo_true ?_
  repeat with_reducible first | refine nx ?_ | (refine nv ?_; simp (disch := first | omega | decide) only [bG]; refine rg ?_)
  have gt : ∀ l : List XV, l = table0 → (h.new (.cells l false (some (Nat.mul 2 336)))).get h.next = some (.cells table0 false (some (Nat.mul 2 336))) := fun l hl => by rw [XH.get_new, if_pos rfl, hl]
  refine callGo_ex (made_call h.next _ (some (Nat.mul 2 336)) (by simp only [XH.next_new]; omega) (gt _ rfl)) ?_
  rintro _ k ⟨rfl, g1, x1⟩
  have hk := x1.le
  simp only [XH.next_new] at hk
  have gd : k.get d = some (.cells (dCells bg W rest n) false tg) := by rw [x1.get d (by simp only [XH.next_new]; omega) (by omega), XH.get_new, if_neg (by omega)]; exact hg
  repeat with_reducible first | refine nx ?_ | (refine nv ?_; simp (disch := first | omega | decide) only [bG]; refine rg ?_)
  refine callGo_ex (add_call d h.next bg W rest b n hW hWl hr hl hn k (by omega) (by omega) (by omega) tg _ gd g1) ?_
  rintro _ k2 ⟨g2, x2⟩
  have hk2 := x2.le
  repeat with_reducible first | refine nx ?_ | (refine nv ?_; simp (disch := first | omega | decide) only [bG]; refine rg ?_)
  refine ret_nil.2 ⟨unit, rfl, g2, by omega, fun m h1 h2 => ?_⟩
  rw [x2.get m (by omega) h2, x1.get m (by simp only [XH.next_new]; omega) (by omega), XH.get_new, if_neg (by omega)]
end Go.Proofs.XCode
end
