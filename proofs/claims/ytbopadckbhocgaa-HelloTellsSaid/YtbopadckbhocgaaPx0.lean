-- Written by wip/inj.py (the kit's print, with contracts typed by hand beside it).
import Derived.Test.YtbopadckbhocgaaProg
import Derived.Below
import Derived.Deep.Draws
import Derived.Deep.AppendLies
import Derived.Maps.AppendAt
import Derived.OwnWalk
import Derived.Laws.BytesArg
import Derived.Laws.MakeOwn
import Derived.Laws.OwnMore
import Derived.Deep.OwnRows
import Derived.Tactics
import Derived.Lib.ConvBytes
import Derived.Laws.Slices
import Derived.WalkKit
import Derived.KernelRfl
import Derived.RowKit3
import Derived.Deep.LoopGhost
import Derived.Deep.QuietTactic
import Derived.BigQuiet
import Derived.WideLaws
import Derived.Deep.DeepCutAuto
import Derived.Deep.CutBlock
import Derived.Deep.RegionHeld3
import Derived.Laws.Rows
import Derived.Lib.AppendStr
import Derived.ArgAppend
import Derived.Laws.IdiomCopy
import Derived.OrdersHeld
import Derived.Laws.BitsLemmas
import Derived.RowKit
import Derived.Lib.ConvBytes
import Derived.Lib.Strings
import Derived.Lib.Walk
import Derived.Lib.BufferWrite
import Derived.Lib.UnsafeStr
import Derived.Lib.Hide
import Derived.IntWalk
import Derived.WalkSpells
import Derived.Outline
import Derived.Lib.Builder
import Derived.Lib.Bytealg
import Derived.Laws.LoneSync
import Derived.Laws.Externs
import Derived.Deep.CutRange
import Derived.Lib.SlBytesRow
import Derived.Test.YtbopadckbhocgaaWWords
import Derived.Test.YtbopadckbhocgaaWLast
import Derived.Test.YtbopadckbhocgaaWTab
import Derived.Test.YtbopadckbhocgaaWFour
import Derived.Test.YtbopadckbhocgaaWQPut
import Derived.Test.YtbopadckbhocgaaWApart
import Derived.Test.YtbopadckbhocgaaWArr
import Derived.Test.YtbopadckbhocgaaWZeros
import Derived.Test.YtbopadckbhocgaaWFoot
import Derived.Test.YtbopadckbhocgaaWKept
import Derived.Test.YtbopadckbhocgaaWShare
import Derived.Test.YtbopadckbhocgaaWN
import Derived.Test.YtbopadckbhocgaaWFootNe
import Derived.Test.YtbopadckbhocgaaWAt
import Derived.Test.YtbopadckbhocgaaWEqStruct
import Derived.Test.YtbopadckbhocgaaWRepsOne
import Derived.Test.YtbopadckbhocgaaWInv
import Derived.Test.YtbopadckbhocgaaWInvWords
import Derived.Test.YtbopadckbhocgaaWGuard
import Derived.Test.YtbopadckbhocgaaWNEv
import Derived.Test.YtbopadckbhocgaaWMore
namespace Go.Proofs.Ytbopadckbhocgaa.P
open Go.RowKit Go.Proofs.YtbopadckbhocgaaW.PrintWords Go.Proofs.YtbopadckbhocgaaW.PrintLast Go.Proofs.YtbopadckbhocgaaW.PrintMore
attribute [local go_sem] max2_int min2_int max_two min_two max_three min_three max_four min_four   -- for this text's walks alone
set_option linter.unusedVariables false
set_option linter.unusedSimpArgs false



def errW : Option Int → Value
  | none => .nilIface
  | some c => .iface 0 (.int .i64 c)
theorem errW_none : errW none = .nilIface := rfl
theorem errW_some (c : Int) : errW (some c) = .iface 0 (.int .i64 c) := rfl

theorem wrap_u64_mod32 (x : Int) : IntKind.u64.wrap (x % 4294967296) = x % 4294967296 := by
  simp [IntKind.wrap, IntKind.bits, IntKind.signed]; omega
theorem cell_set_blk (w : World) (g i j : Nat) (u : Value) : (w.setCell ⟨g, i, none⟩ u).cell? ⟨g, j, none⟩ = (w.cell? ⟨g, j, none⟩).map (fun v => if i = j then u else v) := by
  by_cases h : i = j
  · subst h
    rw [show (fun v : Value => if i = i then u else v) = (fun _ => u) by funext v; rw [if_pos rfl]]
    cases hc : w.cell? ⟨g, i, none⟩ with
    | none =>
      cases hh : w.heap[g]? with
      | none => simp [World.setCell, World.cell?, Array.getElem?_modify, hh]
      | some o => cases o <;> simp_all [World.setCell, World.cell?, Array.getElem?_modify]
    | some v => rw [World.cell?_setCell_same w _ _ hc]; rfl
  · rw [World.cell?_setCell_other _ _ _ _ (by intro e; injection e with _ e2 _; exact h e2)]
    cases w.cell? ⟨g, j, none⟩ <;> simp [h]
section
variable {P : Program} {ops : Array Oper} {rest : List Nat} {o : Oper} {a : Act} {Q : Exit → Act → World → Prop} {α : Type}
theorem R_makecap {restO : List Oper} (d : Kd α) {w0 W : World} (base e : Nat) (hgd : o.guard = none) {N : Tmp} (_hd : o.dst = some N) (t : TypeId) (x y : Operand) (ho : o.op = .makeSlice t x y) (c : Int) (hx : a.eval x = .int .i64 0) (hy : a.eval y = .int .i64 c)
    (ht : P.underlying t = some (.slice e)) (z : Value) (bytes : Nat) (hinfo : (P.info? e).map (fun i => (i.zero, i.size, i.bytes)) = some (some z, d.sz, bytes)) (hz : z.cells.size = d.sz) (hs0 : 0 < d.sz) (hb0 : 0 < bytes)
    (z0 : α) {ok okp : Nat → Prop} (_hzero : d.M W base okp z0 z.cells.toList) (_hok : ∀ k, okp k → ok k) (hfresh : ok W.heap.size) (h0 : 0 ≤ c) (hl : c.toNat * bytes ≤ 281474976710656) (HB : Below base w0 W) (hbase : base ≤ W.heap.size)
    (h : ∀ v1 w1, d.R e w1 base ok v1 [] → Below base w0 w1 → W.grownBy w1 none → (∃ b, v1.ownBlock = some b ∧ W.heap.size ≤ b) → wpList P ops Q restO (a.put o.dst v1) w1) : wpList P ops Q (o :: restO) a W := by
  obtain ⟨m, rfl⟩ := Int.eq_ofNat_of_zero_le h0
  simp only [Int.toNat_natCast] at hl
  obtain ⟨i0, hi, hzz⟩ := Option.map_eq_some_iff.1 hinfo
  simp only [Prod.mk.injEq] at hzz
  obtain ⟨hz0, hz1, hz2⟩ := hzz
  have hm : m ≤ 281474976710656 := Nat.le_trans (Nat.le_mul_of_pos_right _ hb0) hl
  have hr := run_make (P := P) W t e i0 z ht hi hz0 .i64 .i64 0 (m : Int) (by omega) (by omega)
    (by
      have h3 : ((i0.bytes * m : Nat) : Int) ≤ 281474976710656 := by rw [hz2, Nat.mul_comm]; omega
      rwa [Int.natCast_mul] at h3) (by omega)
  simp only [Int.toNat_natCast] at hr
  rw [hz1] at hr
  have hrun : (execOp a.eval o).run P W = .ok (.value (.slice (some ⟨W.heap.size, 0, none⟩) 0 m)) (W.alloc (.cells (madeCells z.cells (m * d.sz)) e)) := by
    simp [execOp, ho, hx, hy, hr]
  refine Kd.event_run hgd hrun (h _ _ ⟨fun k hk => ?_, [], ?_, Reps.none _ _⟩ (HB.alloc hbase _) (World.grownBy_alloc W _ none) ⟨W.heap.size, by simp [Value.ownBlock], Nat.le_refl _⟩)
  · have : W.heap.size = k := by simpa [Value.ownBlock] using hk
    subst this
    exact hfresh
  · exact World.ownsRow_made W _ m hbase (by simp [maxLen]; omega) (size_madeCells _ _)
end

theorem info4 : (Try.prog.info? 4).map (fun i => (i.zero, i.size, i.bytes)) = some (some (.bool false), 1, 1) := by kernel_rfl
theorem info5 : (Try.prog.info? 5).map (fun i => (i.zero, i.size, i.bytes)) = some (some (.int .u8 0), 1, 1) := by kernel_rfl
-- the values' own types

end Go.Proofs.Ytbopadckbhocgaa.P
