/- What this text proves serves the claim of its last text: a part of a verified executor, its walks and its runs (O2). -/
import Derived.Test.YtfaalljnklijjaaGreatDoorQ09
set_option linter.all false
section
namespace Go.Proofs.OnceParts
open Go.X Go.RowKit
set_option maxRecDepth 100000 in
set_option maxHeartbeats 1600000 in
theorem slow (b off : Nat) (g : FuncId) (vs : Array Value) (w : World) (K : World → Prop)
    (h0 : w.cell? ⟨b, off, none⟩ = some (.int .u32 0)) (h1 : w.cell? ⟨b, off + 1, none⟩ = some (.int .i32 0))
    (f0 : w.frozen? ⟨b, off, none⟩ = false) (f1 : w.frozen? ⟨b, off + 1, none⟩ = false)
    (hcall : Invoked Tryz.prog g vs (w.setCell ⟨b, off + 1, none⟩ (.int .i32 1)) (fun _ w2 => (∃ x, w2.cell? ⟨b, off, none⟩ = some x) ∧ w2.frozen? ⟨b, off, none⟩ = false ∧ w2.cell? ⟨b, off + 1, none⟩ = some (.int .i32 1) ∧ w2.frozen? ⟨b, off + 1, none⟩ = false ∧ K ((w2.drew.setCell ⟨b, off, none⟩ (.int .u32 1)).setCell ⟨b, off + 1, none⟩ (.int .i32 0)))) :
    Calls Tryz.prog 93 #[.pointer (some ⟨b, off, none⟩), .func (.func g) #[] vs] w fun e w' => e = .returned (.tuple #[]) ∧ K w' := by
  have hl := run_call_load (P := Tryz.prog) Tryz.func147 (by kernel_rfl) (by kernel_rfl) (by kernel_rfl) .u32 (by kernel_rfl) (w := w.setCell ⟨b, off + 1, none⟩ (.int .i32 1)) (a := ⟨b, off, none⟩) (x := 0) ((World.cell?_setCell_other _ ⟨b, off + 1, none⟩ ⟨b, off, none⟩ _ (by simp)).trans h0)
  have hnot : ∀ (x : Bool) (w : World), (Op.unary .not (.bool x)).run Tryz.prog w = .ok (.bool (!x)) w := fun _ _ => rfl
  go_enter_defers Tryz.func93, Tryz.ntmps93
  go_wp2_with (go_at_call 148; refine (lock_free ⟨b, off + 1, none⟩ _ (by go_simp) (by go_simp)).mono ?_; rintro e w' ⟨rfl, rfl⟩)
  go_wp2
  rename_i Kx hK
  rcases hcall with ⟨v, w2, e1, ⟨x, k0⟩, k1, k2, k3, k4⟩ | ⟨e1, hC⟩
  · rw [e1, Oper.upon_value]
    refine hK _ _ ?_
    go_wp2
    refine leaves_cons (f := 150) (args := #[.pointer (some ⟨b, off, none⟩), .bool true]) (by simp) (by simp [go_sem]) ?_
    refine (store_deferred ⟨b, off, none⟩ x .returning w2 k0 k1).mono ?_
    rintro e u' w'' ⟨rfl, rfl, rfl⟩
    refine leaves_cons (f := 149) (args := #[.pointer (some ⟨b, off + 1, none⟩)]) (by simp [settle]) (by simp [go_sem]) ?_
    refine (unlock_deferred ⟨b, off + 1, none⟩ _ _ ?_ (by simp [k3])).mono ?_
    · exact (World.cell?_setCell_other _ ⟨b, off, none⟩ ⟨b, off + 1, none⟩ _ (by simp)).trans k2
    rintro e u' w'' ⟨rfl, rfl, rfl⟩
    simpa [Leaves, settle, results, Tryz.results93] using k4
  · rw [e1]
    refine hC.mono ?_
    rintro e w2 ⟨v, rfl, ⟨x, k0⟩, k1, k2, k3, k4⟩
    show Kx _ _
    refine hK _ _ ?_
    go_wp2
    refine leaves_cons (f := 150) (args := #[.pointer (some ⟨b, off, none⟩), .bool true]) (by simp) (by simp [go_sem]) ?_
    refine (store_deferred ⟨b, off, none⟩ x .returning w2 k0 k1).mono ?_
    rintro e u' w'' ⟨rfl, rfl, rfl⟩
    refine leaves_cons (f := 149) (args := #[.pointer (some ⟨b, off + 1, none⟩)]) (by simp [settle]) (by simp [go_sem]) ?_
    refine (unlock_deferred ⟨b, off + 1, none⟩ _ _ ?_ (by simp [k3])).mono ?_
    · exact (World.cell?_setCell_other _ ⟨b, off, none⟩ ⟨b, off + 1, none⟩ _ (by simp)).trans k2
    rintro e u' w'' ⟨rfl, rfl, rfl⟩
    simpa [Leaves, settle, results, Tryz.results93] using k4
theorem bool_load (a : Addr) (x : Int) (w : World) (h : w.cell? a = some (.int .u32 x)) : Calls Tryz.prog 92 #[.pointer (some a)] w fun e w' => e = .returned (.bool (x != 0)) ∧ w' = w := by
  have hl := run_call_load (P := Tryz.prog) Tryz.func147 (by kernel_rfl) (by kernel_rfl) (by kernel_rfl) .u32 (by kernel_rfl) (w := w) (a := a) (x := x) h
  go_enter Tryz.func92, Tryz.ntmps92
  go_wp2
  go_ret
  exact ⟨rfl, rfl⟩
set_option maxRecDepth 100000 in
set_option maxHeartbeats 1600000 in
theorem do_slow (b off : Nat) (g : FuncId) (vs : Array Value) (w : World) (K : World → Prop)
    (h0 : w.cell? ⟨b, off, none⟩ = some (.int .u32 0)) (h1 : w.cell? ⟨b, off + 1, none⟩ = some (.int .i32 0))
    (f0 : w.frozen? ⟨b, off, none⟩ = false) (f1 : w.frozen? ⟨b, off + 1, none⟩ = false)
    (hcall : Invoked Tryz.prog g vs (w.setCell ⟨b, off + 1, none⟩ (.int .i32 1)) (fun _ w2 => (∃ x, w2.cell? ⟨b, off, none⟩ = some x) ∧ w2.frozen? ⟨b, off, none⟩ = false ∧ w2.cell? ⟨b, off + 1, none⟩ = some (.int .i32 1) ∧ w2.frozen? ⟨b, off + 1, none⟩ = false ∧ K ((w2.drew.setCell ⟨b, off, none⟩ (.int .u32 1)).setCell ⟨b, off + 1, none⟩ (.int .i32 0)))) :
    Calls Tryz.prog 45 #[.pointer (some ⟨b, off, none⟩), .func (.func g) #[] vs] w fun e w' => e = .returned (.tuple #[]) ∧ K w' := by
  have HL := bool_load ⟨b, off, none⟩ 0 w h0
  have hnot : ∀ (x : Bool) (w : World), (Op.unary .not (.bool x)).run Tryz.prog w = .ok (.bool (!x)) w := fun _ _ => rfl
  have HS := slow b off g vs w K h0 h1 f0 f1 hcall
  clear hcall
  go_enter Tryz.func45, Tryz.ntmps45
  go_wp2_with first | (go_at_call 92; refine HL.mono ?_; rintro e w' ⟨rfl, rfl⟩) | (go_at_call 93; refine HS.mono ?_; rintro e w' ⟨rfl, hk⟩)
  go_end0
  exact ⟨rfl, hk⟩
set_option maxRecDepth 100000 in
set_option maxHeartbeats 1600000 in
theorem do_done (b off : Nat) (n : Nat) (fv : Value) (w : World) (h0 : w.cell? ⟨b, off, none⟩ = some (.int .u32 (n + 1 : Nat))) :
    Calls Tryz.prog 45 #[.pointer (some ⟨b, off, none⟩), fv] w fun e w' => e = .returned (.tuple #[]) ∧ w' = w := by
  have hl := run_call_load (P := Tryz.prog) Tryz.func147 (by kernel_rfl) (by kernel_rfl) (by kernel_rfl) .u32 (by kernel_rfl) (w := w) (a := ⟨b, off, none⟩) (x := ((n + 1 : Nat) : Int)) h0
  have hnot : ∀ (x : Bool) (w : World), (Op.unary .not (.bool x)).run Tryz.prog w = .ok (.bool (!x)) w := fun _ _ => rfl
  go_enter Tryz.func45, Tryz.ntmps45
  go_wp2
  go_end0
  exact ⟨rfl, rfl⟩
end Go.Proofs.OnceParts
end
