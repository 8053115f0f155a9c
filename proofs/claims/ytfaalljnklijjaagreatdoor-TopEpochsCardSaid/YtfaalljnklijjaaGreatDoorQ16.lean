/- What this text proves serves the claim of its last text: a part of a verified executor, its walks and its runs (S22). -/
import Derived.Test.YtfaalljnklijjaaGreatDoorQ14
import Derived.Test.YtfaalljnklijjaaGreatDoorQ02
set_option linter.all false
section
namespace Go.X
open Go.RowKit
def fnOf (o : Option TE) : Option Func := match o with | some (.fn g) => some g | _ => none
noncomputable def fnRow (P : Program) (tab : T TE) (f : Nat) : Option Func := Option.rec none (fun _ => P.funcs[f]?) (fnOf (tab.get f))
def named (g : Option Func) : Bool := match g with | some g => !(g.name == "runtime.NumGoroutine") | none => true
theorem enter_run {P : Program} {f : FuncId} {g : Func} {c : Code} (h : P.funcs[f]? = some g) (hb : g.body = some c) (hn : named (some g) = true) (args : Array Value) (w : World) : (callFunc f args).run P w = .ok (.enter f args) w := by
  have h1 : (g.name == "runtime.NumGoroutine") = false := by simpa [named] using hn
  simp only [callFunc, Sem.run_bind, run_program, Result.andThen_ok, h, h1, hb]
  rfl
theorem fnOK_of {P : Program} {ty : T XTy} {tab : T TE} {it : (FuncId → List XV → XH → R) → Nat → List XV → XH → R} {n : Nat} (hb : chkT tab (fun t _ => Nat.blt t n) = true) (h : (List.range n).map (fnRow P tab) = (List.range n).map (fun f => fnOf (tab.get f))) (hn : chkT tab (fun _ x => named (fnOf (some x))) = true)
    (hi : ∀ f i, tab.get f = some (.intr i) → IntrOK P f (fun call => it call i)) : FnOK P ty.get (mkEnv ty tab it) where
  fn f x hx := by
    simp only [mkEnv] at hx
    split at hx
    · rename_i g hg
      cases hm : mkFn ty.get g with
      | none => rw [hm] at hx; cases hx
      | some x' =>
        rw [hm] at hx
        have hx := Option.some.inj hx
        injection hx with hx
        subst hx
        have hlt : f < n := Nat.le_of_ble_eq_true (chkT_spec hb hg)
        have h1 := congrArg (fun l => l[f]?) h
        simp only [List.getElem?_map, List.getElem?_range hlt, Option.map_some, Option.some.injEq] at h1
        unfold fnRow at h1
        rw [hg] at h1
        have h1 : P.funcs[f]? = some g := h1
        have h2 : named (some g) = true := chkT_spec hn hg
        cases hb : g.body with
        | none => unfold mkFn at hm; rw [hb] at hm; cases hm
        | some c => exact ⟨g, c, h1, hb, hm, fun args w => enter_run h1 hb h2 args w⟩
    · cases hx
    · cases hx
  intr f i hf call c1 c2 args H r H' h' := by
    simp only [mkEnv] at hf
    split at hf
    · rename_i g hg
      cases hm : mkFn ty.get g with
      | none => rw [hm] at hf; cases hf
      | some x' => rw [hm] at hf; cases hf
    · rename_i j hg
      have hf := Option.some.inj hf
      injection hf with hf
      subst hf
      exact hi f _ hg call c1 c2 args H r H' h'
    · cases hf
end Go.X
end
