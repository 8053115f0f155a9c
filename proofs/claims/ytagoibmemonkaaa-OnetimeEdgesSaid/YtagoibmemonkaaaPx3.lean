-- Written by wip/inj.py (the kit's print, with contracts typed by hand beside it).
import Derived.Test.YtagoibmemonkaaaPx0
import Derived.Test.YtagoibmemonkaaaPx1
import Derived.Test.YtagoibmemonkaaaPx2
namespace Go.Proofs.Ytagoibmemonkaaa.P
open Go.RowKit Go.Proofs.YtagoibmemonkaaaW.PrintWords Go.Proofs.YtagoibmemonkaaaW.PrintLast Go.Proofs.YtagoibmemonkaaaW.PrintMore
attribute [local go_sem] max2_int min2_int max_two min_two max_three min_three max_four min_four   -- for this text's walks alone
set_option linter.unusedVariables false
set_option linter.unusedSimpArgs false

/-! ### onetime_Tag: function 11 (by hand) -/
/-! escutcheon/onetime.split -/
def onetime_split.cells (l : List Int) : Array Value := (l.map (Value.int .u64)).toArray
theorem onetime_split.cells_size (l : List Int) : (onetime_split.cells l).size = l.length := by simp [onetime_split.cells]
theorem onetime_split.cells_one (l : List Int) : (onetime_split.cells l).all (·.oneCell') = true := by simp [onetime_split.cells, Value.oneCell']
theorem onetime_split.cells_upd (l : List Int) (i : Nat) (v : Int) : (onetime_split.cells l).setIfInBounds i (.int .u64 v) = onetime_split.cells (l.set i v) := by simp [onetime_split.cells]
theorem onetime_split.cells_get (x : List Int) (i : Nat) (h : i < x.length) : (onetime_split.cells x)[i]? = some (.int .u64 (x.getD i 0)) := by simp [onetime_split.cells, h]
theorem onetime_split.bsr {B g : Nat} {w0 w : World} (hb : Below B w0 w) (hBg : B ≤ g) (cs : Array Value) : Below B w0 (w.setRow g cs) :=
  hb.trans ⟨rfl, rfl, rfl, by simp, fun k hk => setRow_other _ _ _ _ (by omega)⟩
theorem onetime_split.info (l : List Int) (h : l.length = 5) : (Try.prog.info? 37).map (·.size) = some (onetime_split.cells l).size := by rw [onetime_split.cells_size, h]; kernel_rfl
def onetime_split.f (a b c : Int) : List Int := [Go.bits .and .u64 a 67108863, Go.bits .and .u64 (a / 67108864) 67108863, Go.bits .and .u64 (Go.bits .or .u64 (a / 4503599627370496) (IntKind.u64.wrap (b * 4096))) 67108863, Go.bits .and .u64 (b / 16384) 67108863, Go.bits .or .u64 (b / 1099511627776) (IntKind.u64.wrap (c * 16777216))]
set_option maxHeartbeats 4000000 in
set_option maxRecDepth 100000 in
theorem onetime_split.calls (a b c : Int) (w : World) :
    Calls Try.prog 18 #[.int .u64 a, .int .u64 b, .int .u64 c] w fun e w' => e = .returned (.agg (onetime_split.cells (onetime_split.f a b c))) ∧ Below w.heap.size w w' := by
  have EI := Aside0.mk (onetime_split.info (onetime_split.f a b c) rfl)
  have EC := Aside0.mk (onetime_split.cells_one (onetime_split.f a b c))
  have EH := Aside0.mk (show (onetime_split.cells (List.replicate 5 0)).size = (onetime_split.cells (onetime_split.f a b c)).size from rfl)
  go_enter Try.func18, Try.ntmps18
  go_wp2_with (first | ((with_reducible refine gate_dst (N := 6) rfl ?_); refine box_event ?hg (N := 6) ?hd (cs := onetime_split.cells (List.replicate 5 0)) (t := 37) ?hr ?_; (case hd => rfl); (case hg => rfl); (case hr => first | (go_simp; done) | (go_simp; rfl)); intro g0 hg0 w2 hbox hbx; have BK0 := Aside0.mk hbox; have HB2 := Aside0.mk hbx; have HG0 := Aside0.mk hg0; clear hbox hbx hg0) | ((with_reducible refine gate_store (t := 37) (p := 6) rfl ?_); refine wpList_store_row rfl 37 _ _ rfl g0 (onetime_split.cells (onetime_split.f a b c)) rfl rfl 37 _ BK0.out EI.out EH.out EC.out ?_))
  refine bodyPost_ret (v := .agg (onetime_split.cells (onetime_split.f a b c))) (results_cell_row (p := 6) (by kernel_rfl) _ _ g0 37 (onetime_split.cells (onetime_split.f a b c)) (0, 0) (.array 5 35) (by first | rfl | simp [Act.put]) (setRow_heap _ _ _ _ _ _ BK0.out) Try.underlying37 rfl EI.out) (by first | rfl | simp [Act.put]) ⟨rfl, ?_⟩
  exact onetime_split.bsr HB2.out (by rw [HG0.out]; exact Nat.le_refl _) _
/-! (escutcheon/onetime.number).carry -/
def onetime_number_carry.step (x : List Int) (i : Nat) (c : Int) : List Int := (x.set i (IntKind.u64.wrap (x.getD i 0 + c))).set i (Go.bits .and .u64 (IntKind.u64.wrap (x.getD i 0 + c)) 67108863)
def onetime_number_carry.out (x : List Int) (i : Nat) (c : Int) : Int := IntKind.u64.wrap (x.getD i 0 + c) / 67108864
def onetime_number_carry.inner : Nat → Nat → List Int → Int → List Int × Int
  | 0, _, x, c => (x, c)
  | n + 1, i, x, c => onetime_number_carry.inner n (i + 1) (onetime_number_carry.step x i c) (onetime_number_carry.out x i c)
def onetime_number_carry.pass (x : List Int) : List Int := ((onetime_number_carry.inner 5 0 x 0).1).set 0 (IntKind.u64.wrap ((onetime_number_carry.inner 5 0 x 0).1.getD 0 0 + IntKind.u64.wrap ((onetime_number_carry.inner 5 0 x 0).2 * 5)))
def onetime_number_carry.passes : Nat → List Int → List Int
  | 0, x => x
  | n + 1, x => onetime_number_carry.passes n (onetime_number_carry.pass x)
def onetime_number_carry.f (x : List Int) : List Int := onetime_number_carry.passes 3 x
theorem onetime_number_carry.step_len (x : List Int) (i : Nat) (c : Int) : (onetime_number_carry.step x i c).length = x.length := by simp [onetime_number_carry.step]
theorem onetime_number_carry.inner_len : ∀ (n i : Nat) (x : List Int) (c : Int), (onetime_number_carry.inner n i x c).1.length = x.length
  | 0, _, _, _ => rfl
  | n + 1, i, x, c => by rw [onetime_number_carry.inner, onetime_number_carry.inner_len n, onetime_number_carry.step_len]
theorem onetime_number_carry.pass_len (x : List Int) : (onetime_number_carry.pass x).length = x.length := by rw [onetime_number_carry.pass, List.length_set, onetime_number_carry.inner_len]
theorem onetime_number_carry.passes_len : ∀ (n : Nat) (x : List Int), (onetime_number_carry.passes n x).length = x.length
  | 0, _ => rfl
  | n + 1, x => by rw [onetime_number_carry.passes, onetime_number_carry.passes_len n, onetime_number_carry.pass_len]
set_option maxHeartbeats 4000000 in
set_option maxRecDepth 100000 in
theorem onetime_number_carry.calls (x : List Int) (hx : x.length = 5) (w : World) :
    Calls Try.prog 28 #[.agg (onetime_split.cells x)] w fun e w' => e = .returned (.agg (onetime_split.cells (onetime_number_carry.f x))) ∧ Below w.heap.size w w' := by
  have HX := Lib.hid hx
  clear hx
  obtain ⟨F, hF⟩ : ∃ F, onetime_number_carry.f x = F := ⟨_, rfl⟩
  rw [hF]
  have HF0 := Aside0.mk (show onetime_number_carry.passes 3 x = F from hF)
  clear hF
  go_enter Try.func28, Try.ntmps28
  go_wp2_with (first | ((with_reducible refine gate_dst (N := 1) rfl ?_); refine box_event ?hg (N := 1) ?hd (cs := onetime_split.cells x) (t := 37) ?hr ?_; (case hd => rfl); (case hg => rfl); (case hr => first | (go_simp; done) | (go_simp; rfl)); intro g1 hg1 w2 hbox hbx; have BK1 := Aside0.mk hbox; have HB1 := Aside0.mk hbx; have HG1 := Aside0.mk hg1; clear hbox hbx hg1) | ((with_reducible refine gate_dst (N := 2) rfl ?_); refine box_event ?hg (N := 2) ?hd (cs := onetime_split.cells (List.replicate 5 0)) (t := 37) ?hr ?_; (case hd => rfl); (case hg => rfl); (case hr => first | (go_simp; done) | (go_simp; rfl)); intro g2 hg2 w3 hbox hbx; have BK2 := Aside0.mk hbox; have HB2 := Aside0.mk hbx; have HG2 := Aside0.mk hg2; clear hbox hbx hg2))
  have L1 := Aside0.mk (show w.heap.size ≤ g1 by rw [HG1.out]; exact Nat.le_refl _)
  have L2 := Aside0.mk (show g1 < g2 by rw [HG2.out]; exact blk_lt BK1.out)
  have HB := Aside0.mk (below_step HB1.out HB2.out)
  replace BK1 := Aside0.mk (blk_below BK1.out HB2.out)
  clear HB1 HB2 HG1 HG2
  go_loopw [5] (fun v5 wr => ∃ (p : Nat) (y : List Int), p ≤ 3 ∧ v5 = .int .i64 p ∧ Aside0 (onetime_number_carry.passes (3 - p) y = F) ∧ Aside0 (y.length = 5) ∧ Aside0 (wr.heap[g1]? = some (.cells (onetime_split.cells y) 37 (0, 0))) ∧ Aside0 (wr.heap[g2]? = some (.cells (onetime_split.cells (List.replicate 5 0)) 37 (0, 0))) ∧ Aside0 (Below w.heap.size w wr)) (fun v5 _ => 3 - (intOf v5).toNat)
  case atStart => exact ⟨0, x, by omega, rfl, HF0, ⟨HX.out⟩, BK1, BK2, HB⟩
  case round =>
    clear BK1 BK2 HB
    obtain ⟨p, y, hp, rfl, HP, HY, BK1, BK2, HB⟩ := hrel
    by_cases hlt : p < 3
    · go_wp2_with fail
      go_loopw [3, 7] (fun v3 v7 wr => ∃ (n : Nat) (z : List Int) (c : Int), n ≤ 5 ∧ v7 = .int .i64 n ∧ v3 = .int .u64 c ∧ Aside0 (onetime_number_carry.inner (5 - n) n z c = onetime_number_carry.inner 5 0 y 0) ∧ Aside0 (z.length = 5) ∧ Aside0 (wr.heap[g1]? = some (.cells (onetime_split.cells z) 37 (0, 0))) ∧ Aside0 (wr.heap[g2]? = some (.cells (onetime_split.cells (List.replicate 5 0)) 37 (0, 0))) ∧ Aside0 (Below w.heap.size w wr)) (fun _ v7 _ => 5 - (intOf v7).toNat)
      case atStart => exact ⟨0, y, 0, by omega, rfl, rfl, ⟨rfl⟩, HY, BK1, BK2, HB⟩
      case round =>
        clear BK1 BK2 HB
        obtain ⟨n, z, c, hn, rfl, rfl, HI, HZ, BK1, BK2, HB⟩ := hrel
        by_cases hlt2 : n < 5
        · have hi := HI.out
          rw [show 5 - n = (4 - n) + 1 by omega] at hi
          simp only [onetime_number_carry.inner] at hi
          have HI2 := Lib.hid hi
          clear hi HI
          obtain ⟨ze, hze⟩ : ∃ ze, z.getD n 0 = ze := ⟨_, rfl⟩
          have hc1 : wr.cell? ⟨g1, n, none⟩ = some (.int .u64 ze) := by rw [blk_cell BK1.out, onetime_split.cells_get _ _ (by rw [HZ.out]; exact hlt2), hze]
          have HZE := Lib.hid hze
          clear hze
          have hf1 : wr.frozen? ⟨g1, n, none⟩ = false := blk_frozen BK1.out n
          obtain ⟨v, hv⟩ : ∃ v, IntKind.u64.wrap (ze + c) = v := ⟨_, rfl⟩
          go_wp2_with fail
          go_round
          case rel =>
            refine ⟨n + 1, onetime_number_carry.step z n c, onetime_number_carry.out z n c, hlt2, by go_num, by unfold onetime_number_carry.out; rw [HZE.out, hv], ⟨by rw [show 5 - (n + 1) = 4 - n by omega]; exact HI2.out⟩, ⟨by rw [onetime_number_carry.step_len]; exact HZ.out⟩, ⟨?_⟩, ⟨?_⟩, ⟨?_⟩⟩
            · unfold onetime_number_carry.step
              rw [HZE.out, hv]
              exact blk_put (blk_put BK1.out _ _ (onetime_split.cells_upd _ _ _)) _ _ (onetime_split.cells_upd _ _ _)
            · exact blk_far (blk_far BK2.out (p := ⟨g1, n, none⟩) (by have := L2.out; simp; omega) _) (p := ⟨g1, n, none⟩) (by have := L2.out; simp; omega) _
            · exact (HB.out.setCell (p := ⟨g1, n, none⟩) L1.out _).setCell (p := ⟨g1, n, none⟩) L1.out _
          case measure => simp [intOf]; omega
        · obtain rfl : n = 5 := by omega
          have hi := HI.out
          simp only [Nat.sub_self, onetime_number_carry.inner] at hi
          have HI2 := Lib.hid hi
          clear hi HI
          obtain ⟨ze, hze⟩ : ∃ ze, z.getD 0 0 = ze := ⟨_, rfl⟩
          have hc1 : wr.cell? ⟨g1, 0, none⟩ = some (.int .u64 ze) := by rw [blk_cell BK1.out, onetime_split.cells_get _ _ (by rw [HZ.out]; omega), hze]
          have HZE := Lib.hid hze
          clear hze
          have hf1 : wr.frozen? ⟨g1, 0, none⟩ = false := blk_frozen BK1.out 0
          go_wp2_with fail
          go_round
          case rel =>
            have e1 : z = (onetime_number_carry.inner 5 0 y 0).1 := congrArg Prod.fst HI2.out
            have e2 : c = (onetime_number_carry.inner 5 0 y 0).2 := congrArg Prod.snd HI2.out
            refine ⟨p + 1, onetime_number_carry.pass y, hlt, by go_num, ⟨?_⟩, ⟨by rw [onetime_number_carry.pass_len]; exact HY.out⟩, ⟨?_⟩, ⟨?_⟩, ⟨?_⟩⟩
            · have := HP.out
              rw [show 3 - p = (3 - (p + 1)) + 1 by omega, onetime_number_carry.passes] at this
              exact this
            · unfold onetime_number_carry.pass
              rw [← e1, ← e2, HZE.out]
              exact blk_put BK1.out _ _ (onetime_split.cells_upd _ _ _)
            · exact blk_far BK2.out (p := ⟨g1, 0, none⟩) (by have := L2.out; simp; omega) _
            · exact HB.out.setCell (p := ⟨g1, 0, none⟩) L1.out _
          case measure => simp [intOf]; omega
    · obtain rfl : p = 3 := by omega
      have hy := HP.out
      simp only [Nat.sub_self, onetime_number_carry.passes] at hy
      subst hy
      have EI := Aside0.mk (onetime_split.info _ HY.out)
      have EC := Aside0.mk (onetime_split.cells_one y)
      have EH := Aside0.mk (show (onetime_split.cells (List.replicate 5 0)).size = (onetime_split.cells y).size by rw [onetime_split.cells_size, onetime_split.cells_size, HY.out]; rfl)
      have L3 := Aside0.mk (show w.heap.size ≤ g2 by have := L1.out; have := L2.out; omega)
      clear HP
      go_wp2_with (first | ((with_reducible refine gate_dst (N := 33) rfl ?_); refine wpList_load_row rfl 37 _ rfl g1 rfl 37 _ (0, 0) _ BK1.out Try.underlying37 rfl EI.out ?_) | ((with_reducible refine gate_store (t := 37) (p := 2) rfl ?_); refine wpList_store_row rfl 37 _ _ rfl g2 (onetime_split.cells y) rfl rfl 37 _ BK2.out EI.out EH.out EC.out ?_))
      refine bodyPost_ret (v := .agg (onetime_split.cells y)) (results_cell_row (p := 2) (by kernel_rfl) _ _ g2 37 (onetime_split.cells y) (0, 0) (.array 5 35) (by first | rfl | simp [Act.put]) (setRow_heap _ _ _ _ _ _ BK2.out) Try.underlying37 rfl EI.out) (by first | rfl | simp [Act.put]) ⟨rfl, ?_⟩
      exact onetime_split.bsr HB.out L3.out _
/-! (escutcheon/onetime.number).plus -/
/-! Regions that draw their order, with two kinds of facts: T stays behind every operation, S behind those that are not of ds. -/
section
variable {P : Program} {ops : Array Oper} {Q : Exit → Act → World → Prop} {md : Region.Mode} {T S : World → Prop} {ds : List Nat}
def tw (P : Program) (md : Region.Mode) (ops : Array Oper) (Q : Exit → Act → World → Prop) (T S : World → Prop) (ds : List Nat) : Nat → Array Bool → Act → World → Prop
  | 0, listed, a, w => Region.ready md ops listed = [] ∧ Q .normal a w
  | fuel + 1, listed, a, w =>
    (Region.ready md ops listed = [] → Q .normal a w) ∧
    ∀ i ∈ Region.ready md ops listed, wpOp P ops Q i (fun a' w' => ((T w → T w') ∧ (i ∉ ds → S w → S w')) ∧ tw P md ops Q T S ds fuel (listed.setIfInBounds i true) a' w') a w
theorem tw_any_of : ∀ (fuel : Nat) (listed : Array Bool) (a : Act) (w : World), tw P md ops Q T S ds fuel listed a w → wpAny P md ops Q fuel listed a w
  | 0, _, _, _, h => h
  | fuel + 1, _, _, _, h => ⟨h.1, fun i hi => wpOp_mono (fun a' w' h' => tw_any_of fuel _ a' w' h'.2) (h.2 i hi)⟩
theorem tw_first {U : World → Prop} {i : Nat} {oi : Oper} {v : Value} (hi : ops[i]? = some oi) (hsel : ∀ (j : Nat) (o : Oper) cs b, ops[j]? = some o → o.op ≠ .select cs b)
    (hQ : ∀ c a w, Q (.panic c) (a.put oi.dst v) w → Q (.panic c) a w) (n : Nat) :
    ∀ (fuel : Nat) (listed : Array Bool) (a : Act) (w : World),
      (∀ j oj, ops[j]? = some oj → j ≠ i → listed.getD j true = false → (∀ e ∈ oj.after, Region.binds md e = true → e.on ≠ i) → oi.apart ops oj = true) →
      ListedClosed md ops listed → ((∀ w w', (T w → T w') → U w → U w') ∨ ((∀ w w', (S w → S w') → U w → U w') ∧ ∀ d ∈ ds, listed.getD d true = false → Region.reachB md ops i n d = true)) →
      i ∈ Region.ready md ops listed → YieldsIf P ops U oi v a → U w →
      tw P md ops Q T S ds fuel (listed.setIfInBounds i true) (a.put oi.dst v) w → tw P md ops Q T S ds (fuel + 1) listed a w := by
  intro fuel
  induction fuel with
  | zero =>
    intro listed a w _ _ _ hr hy hS H
    refine ⟨fun h => (by rw [h] at hr; cases hr), fun j hj => ?_⟩
    by_cases hji : j = i
    · subst hji; exact hy.wpOp hi hS ⟨⟨fun h => h, fun _ h => h⟩, H⟩
    · have := ready_mono hj hji
      rw [H.1] at this
      cases this
  | succ fuel ih =>
    intro listed a w hfree hc hd hr hy hS H
    refine ⟨fun h => (by rw [h] at hr; cases hr), fun j hj => ?_⟩
    by_cases hji : j = i
    · subst hji; exact hy.wpOp hi hS ⟨⟨fun h => h, fun _ h => h⟩, H⟩
    · have h1 := H.2 j (ready_mono hj hji)
      obtain ⟨hjun, oj, hoj, hall⟩ := mem_ready.1 hj
      have hiun := (mem_ready.1 hr).1
      have hnot : ∀ e ∈ oj.after, Region.binds md e = true → e.on ≠ i := fun e he hb heq => by
        have h1 := hall e he hb
        rw [heq] at h1
        rcases Nat.lt_or_ge i listed.size with h' | h'
        · simp [h'] at hiun h1; rw [hiun] at h1; cases h1
        · simp [Array.getElem?_eq_none h'] at h1
      have keep : ∀ w', ((T w → T w') ∧ (j ∉ ds → S w → S w')) → U w → U w' := by
        intro w' hk
        rcases hd with h | ⟨h, hd⟩
        · exact h _ _ hk.1
        · exact h _ _ (hk.2 (fun hm => Region.reach_not_ready hc (hd j hm hjun) hiun hj))
      have h2 := wpOp_putIf hoj (hfree j oj hoj hji hjun hnot) (fun cs b => hsel i oi cs b hi) (fun cs b => hsel j oj cs b hoj) hQ hy h1
      have hfree' : ∀ k ok, ops[k]? = some ok → k ≠ i → (listed.setIfInBounds j true).getD k true = false →
          (∀ e ∈ ok.after, Region.binds md e = true → e.on ≠ i) → oi.apart ops ok = true := fun k ok hk hki hun hno => by
        refine hfree k ok hk hki ?_ hno
        by_cases hjk : j = k
        · subst hjk; exact hjun
        · rw [getD_set_ne true hjk] at hun; exact hun
      have hd' : ((∀ w w', (T w → T w') → U w → U w') ∨ ((∀ w w', (S w → S w') → U w → U w') ∧ ∀ d ∈ ds, (listed.setIfInBounds j true).getD d true = false → Region.reachB md ops i n d = true)) := by
        refine hd.imp id (fun hh => ⟨hh.1, fun d hm hun => hh.2 d hm ?_⟩)
        by_cases hjk : j = d
        · subst hjk; exact hjun
        · rw [getD_set_ne true hjk] at hun; exact hun
      refine wpOp_mono (fun a' w' h3 => ⟨h3.2.1, ih (listed.setIfInBounds j true) a' w' hfree' (hc.set hj) hd' (ready_mono hr (Ne.symm hji)) h3.1 (keep w' h3.2.1 hS) ?_⟩) h2
      rw [Array.setIfInBounds_comm _ _ hji]
      exact h3.2.2
theorem tw_anyway {i : Nat} {oi : Oper} {v : Value} (hi : ops[i]? = some oi) (hsel : ∀ (j : Nat) (o : Oper) cs b, ops[j]? = some o → o.op ≠ .select cs b)
    (hQ : ∀ c a w, Q (.panic c) (a.put oi.dst v) w → Q (.panic c) a w) :
    ∀ (fuel : Nat) (listed : Array Bool) (a : Act) (w : World),
      (∀ j oj, ops[j]? = some oj → j ≠ i → listed.getD j true = false → (∀ e ∈ oj.after, Region.binds md e = true → e.on ≠ i) → oi.apart ops oj = true) →
      i ∈ Region.ready md ops listed → Yields P ops oi v a →
      tw P md ops Q T S ds fuel (listed.setIfInBounds i true) (a.put oi.dst v) w → tw P md ops Q T S ds (fuel + 1) listed a w := by
  intro fuel
  induction fuel with
  | zero =>
    intro listed a w _ hr hy H
    refine ⟨fun h => (by rw [h] at hr; cases hr), fun j hj => ?_⟩
    by_cases hji : j = i
    · subst hji; exact (hy.yieldsIf (S := fun _ => True)).wpOp hi trivial ⟨⟨fun h => h, fun _ h => h⟩, H⟩
    · have := ready_mono hj hji
      rw [H.1] at this
      cases this
  | succ fuel ih =>
    intro listed a w hfree hr hy H
    refine ⟨fun h => (by rw [h] at hr; cases hr), fun j hj => ?_⟩
    by_cases hji : j = i
    · subst hji; exact (hy.yieldsIf (S := fun _ => True)).wpOp hi trivial ⟨⟨fun h => h, fun _ h => h⟩, H⟩
    · have h1 := H.2 j (ready_mono hj hji)
      obtain ⟨hjun, oj, hoj, hall⟩ := mem_ready.1 hj
      have hiun := (mem_ready.1 hr).1
      have hnot : ∀ e ∈ oj.after, Region.binds md e = true → e.on ≠ i := fun e he hb heq => by
        have h1 := hall e he hb
        rw [heq] at h1
        rcases Nat.lt_or_ge i listed.size with h' | h'
        · simp [h'] at hiun h1; rw [hiun] at h1; cases h1
        · simp [Array.getElem?_eq_none h'] at h1
      have h2 := wpOp_put hoj (hfree j oj hoj hji hjun hnot) (fun cs b => hsel i oi cs b hi) (fun cs b => hsel j oj cs b hoj) hQ hy h1
      have hfree' : ∀ k ok, ops[k]? = some ok → k ≠ i → (listed.setIfInBounds j true).getD k true = false →
          (∀ e ∈ ok.after, Region.binds md e = true → e.on ≠ i) → oi.apart ops ok = true := fun k ok hk hki hun hno => by
        refine hfree k ok hk hki ?_ hno
        by_cases hjk : j = k
        · subst hjk; exact hjun
        · rw [getD_set_ne true hjk] at hun; exact hun
      refine wpOp_mono (fun a' w' h3 => ⟨h3.2.1, ih (listed.setIfInBounds j true) a' w' hfree' (ready_mono hr (Ne.symm hji)) h3.1 ?_⟩) h2
      rw [Array.setIfInBounds_comm _ _ hji]
      exact h3.2.2
theorem tw_start {id n : Nat} {a : Act} {w : World} (l : Array Bool) (hm : P.follows .mixedOrders = true) (hn : ops.size = n) (hl : Array.replicate n false = l) (hT : T w.drew) (hS : S w.drew)
    (h : T w.drew → S w.drew → tw P .any ops Q T S ds n l a w.drew) : (Code.region id ops true).wp P Q a w := by
  subst hn
  subst hl
  exact wp_region_any hm (tw_any_of _ _ _ _ (h hT hS))
theorem tw_pure {i : Nat} {N : Option Tmp} {oi : Oper} {v : Value} {fuel : Nat} {l : Array Bool} {a : Act} {w : World} (l' : Array Bool) (hi : ops[i]? = some oi) (hN : oi.dst = N) (hc : anyB md ops l l' i = true)
    (hQ : ∀ c a w, Q (.panic c) (a.put oi.dst v) w → Q (.panic c) a w) (hy : Yields P ops oi v a) {a' : Act} (ha : a.put N v = a')
    (h : tw P md ops Q T S ds fuel l' a' w) : tw P md ops Q T S ds (fuel + 1) l a w := by
  subst ha
  subst hN
  simp only [anyB, Bool.and_eq_true, beq_iff_eq] at hc
  obtain ⟨⟨⟨h1, h2⟩, h3⟩, h6⟩ := hc
  subst h6
  exact tw_anyway hi (Region.noSelect_spec h1) hQ fuel l a w (Region.free_spec hi h2) (by simpa using h3) hy h
/-- A load of what stays behind every operation. -/
theorem tw_takeT {i : Nat} {N : Option Tmp} {oi : Oper} {v : Value} {fuel : Nat} {l : Array Bool} {a : Act} {w : World} (l' : Array Bool) (hi : ops[i]? = some oi) (hN : oi.dst = N) (hc : takeB md ops [] l l' i = true)
    (hQ : ∀ c a w, Q (.panic c) (a.put oi.dst v) w → Q (.panic c) a w) (hy : YieldsIf P ops T oi v a) (hT : T w) {a' : Act} (ha : a.put N v = a')
    (h : tw P md ops Q T S ds fuel l' a' w) : tw P md ops Q T S ds (fuel + 1) l a w := by
  subst ha
  subst hN
  simp only [takeB, Bool.and_eq_true, beq_iff_eq] at hc
  obtain ⟨⟨⟨⟨⟨h1, h2⟩, h3⟩, h4⟩, h5⟩, h6⟩ := hc
  subst h6
  exact tw_first hi (Region.noSelect_spec h1) hQ ops.size fuel l a w (Region.free_spec hi h2) (Region.closedB_spec h4) (Or.inl fun _ _ h => h) (by simpa using h3) hy hT h
/-- A load of what stays till the operations of ds, which wait for it. -/
theorem tw_takeS {i : Nat} {N : Option Tmp} {oi : Oper} {v : Value} {fuel : Nat} {l : Array Bool} {a : Act} {w : World} (l' : Array Bool) (hi : ops[i]? = some oi) (hN : oi.dst = N) (hc : takeB md ops ds l l' i = true)
    (hQ : ∀ c a w, Q (.panic c) (a.put oi.dst v) w → Q (.panic c) a w) (hy : YieldsIf P ops S oi v a) (hS : S w) {a' : Act} (ha : a.put N v = a')
    (h : tw P md ops Q T S ds fuel l' a' w) : tw P md ops Q T S ds (fuel + 1) l a w := by
  subst ha
  subst hN
  simp only [takeB, Bool.and_eq_true, beq_iff_eq] at hc
  obtain ⟨⟨⟨⟨⟨h1, h2⟩, h3⟩, h4⟩, h5⟩, h6⟩ := hc
  subst h6
  exact tw_first hi (Region.noSelect_spec h1) hQ ops.size fuel l a w (Region.free_spec hi h2) (Region.closedB_spec h4) (Or.inr ⟨fun _ _ h => h, fun d hm hun => by have := List.all_eq_true.1 h5 d hm; rw [hun] at this; simpa using this⟩) (by simpa using h3) hy hS h
theorem tw_ready {i : Nat} {oi : Oper} {fuel : Nat} {l : Array Bool} {a : Act} {w : World} (hi : ops[i]? = some oi) (hr : Region.ready md ops l = [i])
    (h : wpOp P ops Q i (fun a' w' => ((T w → T w') ∧ (i ∉ ds → S w → S w')) ∧ tw P md ops Q T S ds fuel (l.setIfInBounds i true) a' w') a w) : tw P md ops Q T S ds (fuel + 1) l a w :=
  ⟨fun h0 => (by rw [hr] at h0; cases h0), fun j hj => by rw [hr] at hj; cases (List.mem_singleton.mp hj); exact h⟩
theorem tw_one {i : Nat} {N : Option Tmp} {oi : Oper} {fuel : Nat} {l : Array Bool} {a : Act} {w : World} (l' : Array Bool) (hi : ops[i]? = some oi) (hN : oi.dst = N) (hc : readyB md ops l l' i = true)
    (h : ∀ K : Act → World → Prop, Shut (∀ a' w', T w' → S w' → (T w' → S w' → tw P md ops Q T S ds fuel l' a' w') → K a' w') → if Region.wanted oi (yielded ops a.tmps) = true then Oper.wp P oi a w K Q else K (a.put N undef) w) :
    tw P md ops Q T S ds (fuel + 1) l a w := by
  subst hN
  simp only [readyB, Bool.and_eq_true, beq_iff_eq] at hc
  obtain ⟨h1, h2⟩ := hc
  subst h2
  exact tw_ready hi h1 (wpOp_step hi (fun K' hK => h K' (fun a w hT hS hW => hK a w ⟨⟨fun _ => hT, fun _ _ => hS⟩, hW hT hS⟩)))
theorem tw_last {i : Nat} {N : Option Tmp} {oi : Oper} {fuel : Nat} {l : Array Bool} {a : Act} {w : World} (l' : Array Bool) (hi : ops[i]? = some oi) (hN : oi.dst = N) (hc : readyB md ops l l' i = true) (hd : i ∈ ds)
    (h : ∀ K : Act → World → Prop, Shut (∀ a' w', T w' → (T w' → tw P md ops Q T S ds fuel l' a' w') → K a' w') → if Region.wanted oi (yielded ops a.tmps) = true then Oper.wp P oi a w K Q else K (a.put N undef) w) :
    tw P md ops Q T S ds (fuel + 1) l a w := by
  subst hN
  simp only [readyB, Bool.and_eq_true, beq_iff_eq] at hc
  obtain ⟨h1, h2⟩ := hc
  subst h2
  exact tw_ready hi h1 (wpOp_step hi (fun K' hK => h K' (fun a w hT hW => hK a w ⟨⟨fun _ => hT, fun hn => absurd hd hn⟩, hW hT⟩)))
theorem tw_done {l : Array Bool} {a : Act} {w : World} {n : Nat} (hr : (Region.ready md ops l == []) = true) (h : Q .normal a w) : tw P md ops Q T S ds n l a w := by
  have hr : Region.ready md ops l = [] := by simpa using hr
  cases n with
  | zero => exact ⟨hr, h⟩
  | succ n => exact ⟨fun _ => h, by rw [hr]; simp⟩
theorem tw_norm {fuel : Nat} {l : Array Bool} {a a' : Act} {w : World} (ha : a = a') (h : tw P md ops Q T S ds fuel l a' w) : tw P md ops Q T S ds fuel l a w := by
  subst ha
  exact h
end
def onetime_number_plus.loop : Nat → Nat → List Int → List Int → List Int
  | 0, _, x, _ => x
  | n + 1, i, x, y => onetime_number_plus.loop n (i + 1) (x.set i (IntKind.u64.wrap (x.getD i 0 + y.getD i 0))) y
def onetime_number_plus.f (x y : List Int) : List Int := onetime_number_plus.loop 5 0 x y
set_option maxHeartbeats 4000000 in
set_option maxRecDepth 100000 in
theorem onetime_number_plus.calls (x y : List Int) (hx : x.length = 5) (hy : y.length = 5) (w : World) :
    Calls Try.prog 20 #[.agg (onetime_split.cells x), .agg (onetime_split.cells y)] w fun e w' => e = .returned (.agg (onetime_split.cells (onetime_number_plus.f x y))) ∧ Below w.heap.size w w' := by
  have HX := Lib.hid hx
  have HY := Lib.hid hy
  clear hx hy
  obtain ⟨F, hF⟩ : ∃ F, onetime_number_plus.f x y = F := ⟨_, rfl⟩
  rw [hF]
  have HF0 := Aside0.mk (show onetime_number_plus.loop 5 0 x y = F from hF)
  clear hF
  go_enter Try.func20, Try.ntmps20
  go_wp2_with (first | ((with_reducible refine gate_dst (N := 2) rfl ?_); refine box_event ?hg (N := 2) ?hd (cs := onetime_split.cells x) (t := 37) ?hr ?_; (case hd => rfl); (case hg => rfl); (case hr => first | (go_simp; done) | (go_simp; rfl)); intro g1 hg1 w2 hbox hbx; have BK1 := Aside0.mk hbox; have HB1 := Aside0.mk hbx; have HG1 := Aside0.mk hg1; clear hbox hbx hg1) | ((with_reducible refine gate_dst (N := 3) rfl ?_); refine box_event ?hg (N := 3) ?hd (cs := onetime_split.cells y) (t := 37) ?hr ?_; (case hd => rfl); (case hg => rfl); (case hr => first | (go_simp; done) | (go_simp; rfl)); intro g2 hg2 w3 hbox hbx; have BK2 := Aside0.mk hbox; have HB2 := Aside0.mk hbx; have HG2 := Aside0.mk hg2; clear hbox hbx hg2) | ((with_reducible refine gate_dst (N := 4) rfl ?_); refine box_event ?hg (N := 4) ?hd (cs := onetime_split.cells (List.replicate 5 0)) (t := 37) ?hr ?_; (case hd => rfl); (case hg => rfl); (case hr => first | (go_simp; done) | (go_simp; rfl)); intro g3 hg3 w4 hbox hbx; have BK3 := Aside0.mk hbox; have HB3 := Aside0.mk hbx; have HG3 := Aside0.mk hg3; clear hbox hbx hg3))
  have L1 := Aside0.mk (show w.heap.size ≤ g1 by rw [HG1.out]; exact Nat.le_refl _)
  have L2 := Aside0.mk (show g1 < g2 by rw [HG2.out]; exact blk_lt BK1.out)
  have L3 := Aside0.mk (show g2 < g3 by rw [HG3.out]; exact blk_lt BK2.out)
  have HB := Aside0.mk (below_step (below_step HB1.out HB2.out) HB3.out)
  replace BK1 := Aside0.mk (blk_below (blk_below BK1.out HB2.out) HB3.out)
  replace BK2 := Aside0.mk (blk_below BK2.out HB3.out)
  clear HB1 HB2 HB3 HG1 HG2 HG3
  go_wp2_with fail
  go_loopw [6] (fun v6 wr => ∃ (n : Nat) (z : List Int), n ≤ 5 ∧ v6 = .int .i64 n ∧ Aside0 (onetime_number_plus.loop (5 - n) n z y = F) ∧ Aside0 (z.length = 5) ∧ Aside0 (wr.heap[g1]? = some (.cells (onetime_split.cells z) 37 (0, 0))) ∧ Aside0 (wr.heap[g2]? = some (.cells (onetime_split.cells y) 37 (0, 0))) ∧ Aside0 (wr.heap[g3]? = some (.cells (onetime_split.cells (List.replicate 5 0)) 37 (0, 0))) ∧ Aside0 (Below w.heap.size w wr)) (fun v6 _ => 5 - (intOf v6).toNat)
  case atStart => exact ⟨0, x, by omega, rfl, HF0, ⟨HX.out⟩, BK1, BK2, BK3, HB⟩
  case round =>
    clear BK1 BK2 BK3 HB
    obtain ⟨n, z, hn, rfl, HI, HZ, BK1, BK2, BK3, HB⟩ := hrel
    by_cases hlt : n < 5
    · have hi := HI.out
      rw [show 5 - n = (4 - n) + 1 by omega] at hi
      simp only [onetime_number_plus.loop] at hi
      have HI2 := Lib.hid hi
      clear hi HI
      go_wp2_with fail
      replace BK1 := Aside0.mk (show wr.drew.heap[g1]? = some (.cells (onetime_split.cells z) 37 (0, 0)) from BK1.out)
      replace BK2 := Aside0.mk (show wr.drew.heap[g2]? = some (.cells (onetime_split.cells y) 37 (0, 0)) from BK2.out)
      replace BK3 := Aside0.mk (show wr.drew.heap[g3]? = some (.cells (onetime_split.cells (List.replicate 5 0)) 37 (0, 0)) from BK3.out)
      replace HB := Aside0.mk (show Below w.heap.size w wr.drew from below_drew1 HB.out)
      obtain ⟨ze, hze⟩ : ∃ ze, z.getD n 0 = ze := ⟨_, rfl⟩
      obtain ⟨ye, hye⟩ : ∃ ye, y.getD n 0 = ye := ⟨_, rfl⟩
      have hc1 : wr.drew.cell? ⟨g1, n, none⟩ = some (.int .u64 ze) := by rw [blk_cell BK1.out, onetime_split.cells_get _ _ (by rw [HZ.out]; exact hlt), hze]
      have hc2 : wr.drew.cell? ⟨g2, n, none⟩ = some (.int .u64 ye) := by rw [blk_cell BK2.out, onetime_split.cells_get _ _ (by rw [HY.out]; exact hlt), hye]
      have hf1 : wr.drew.frozen? ⟨g1, n, none⟩ = false := blk_frozen BK1.out n
      have HZE := Lib.hid hze
      have HYE := Lib.hid hye
      have ia := eq_true (show (n : Int) < 5 by omega)
      clear hze hye
      refine tw_start (n := 9) (T := fun _ => True) (S := fun w' => w'.cell? ⟨g1, n, none⟩ = some (.int .u64 ze) ∧ w'.cell? ⟨g2, n, none⟩ = some (.int .u64 ye)) (ds := [8]) #[false, false, false, false, false, false, false, false, false] (by kernel_rfl) rfl rfl trivial ⟨hc1, hc2⟩ (fun hHT hHS => ?_)
      generalize wr.drew = w7 at *
      refine tw_pure (i := 0) (N := some 9) (v := ?_) (a' := ?_) #[true, false, false, false, false, false, false, false, false] rfl rfl (by kernel_rfl) (fun _ _ _ h => h) (Or.inl ⟨by rfl, ?_⟩) ?_ ?_
      rotate_left
      · intro w'
        go_simp
        with_reducible rfl
      rotate_left
      · simp only [Act.put, List.setIfInBounds_toArray, List.set_cons_zero, List.set_cons_succ, i64_w, i32_w, IntKind.wrap_u32]
        rfl
      refine tw_pure (i := 1) (N := some 10) (v := ?_) (a' := ?_) #[true, true, false, false, false, false, false, false, false] rfl rfl (by kernel_rfl) (fun _ _ _ h => h) (Or.inl ⟨by rfl, ?_⟩) ?_ ?_
      rotate_left
      · intro w'
        go_simp
        with_reducible rfl
      rotate_left
      · simp only [Act.put, List.setIfInBounds_toArray, List.set_cons_zero, List.set_cons_succ, i64_w, i32_w, IntKind.wrap_u32]
        rfl
      refine tw_pure (i := 3) (N := some 12) (v := ?_) (a' := ?_) #[true, true, false, true, false, false, false, false, false] rfl rfl (by kernel_rfl) (fun _ _ _ h => h) (Or.inl ⟨by rfl, ?_⟩) ?_ ?_
      rotate_left
      · intro w'
        go_simp
        with_reducible rfl
      rotate_left
      · simp only [Act.put, List.setIfInBounds_toArray, List.set_cons_zero, List.set_cons_succ, i64_w, i32_w, IntKind.wrap_u32]
        rfl
      refine tw_pure (i := 4) (N := some 13) (v := ?_) (a' := ?_) #[true, true, false, true, true, false, false, false, false] rfl rfl (by kernel_rfl) (fun _ _ _ h => h) (Or.inl ⟨by rfl, ?_⟩) ?_ ?_
      rotate_left
      · intro w'
        go_simp
        with_reducible rfl
      rotate_left
      · simp only [Act.put, List.setIfInBounds_toArray, List.set_cons_zero, List.set_cons_succ, i64_w, i32_w, IntKind.wrap_u32]
        rfl
      refine tw_takeS (i := 2) (N := some 11) (v := ?_) (a' := ?_) #[true, true, true, true, true, false, false, false, false] rfl rfl (by kernel_rfl) (fun _ _ _ h => h) (Or.inl ⟨by rfl, ?_⟩) hHS ?_ ?_
      rotate_left
      · rintro w' ⟨hc1, hc2⟩
        go_simp
        with_reducible rfl
      rotate_left
      · simp only [Act.put, List.setIfInBounds_toArray, List.set_cons_zero, List.set_cons_succ, i64_w, i32_w, IntKind.wrap_u32]
        rfl
      refine tw_takeS (i := 5) (N := some 14) (v := ?_) (a' := ?_) #[true, true, true, true, true, true, false, false, false] rfl rfl (by kernel_rfl) (fun _ _ _ h => h) (Or.inl ⟨by rfl, ?_⟩) hHS ?_ ?_
      rotate_left
      · rintro w' ⟨hc1, hc2⟩
        go_simp
        with_reducible rfl
      rotate_left
      · simp only [Act.put, List.setIfInBounds_toArray, List.set_cons_zero, List.set_cons_succ, i64_w, i32_w, IntKind.wrap_u32]
        rfl
      refine tw_pure (i := 6) (N := some 15) (v := ?_) (a' := ?_) #[true, true, true, true, true, true, true, false, false] rfl rfl (by kernel_rfl) (fun _ _ _ h => h) (Or.inl ⟨by rfl, ?_⟩) ?_ ?_
      rotate_left
      · intro w'
        go_simp
        with_reducible rfl
      rotate_left
      · simp only [Act.put, List.setIfInBounds_toArray, List.set_cons_zero, List.set_cons_succ, i64_w, i32_w, IntKind.wrap_u32]
        rfl
      refine tw_pure (i := 7) (N := some 16) (v := ?_) (a' := ?_) #[true, true, true, true, true, true, true, true, false] rfl rfl (by kernel_rfl) (fun _ _ _ h => h) (Or.inl ⟨by rfl, ?_⟩) ?_ ?_
      rotate_left
      · intro w'
        go_simp
        with_reducible rfl
      rotate_left
      · simp only [Act.put, List.setIfInBounds_toArray, List.set_cons_zero, List.set_cons_succ, i64_w, i32_w, IntKind.wrap_u32]
        rfl
      refine tw_last (i := 8) (N := none) #[true, true, true, true, true, true, true, true, true] rfl rfl (by kernel_rfl) (by decide) (fun K hK => ?_)
      refine skip_ (w1 := ?_) (by rfl) rfl ?_ ?_
      rotate_left
      · first | (go_simp; rfl) | (have hSC_ := @cell_set_blk; go_simp; rfl)
      refine hK.out _ _ trivial (fun hHT => ?_)
      clear hK K
      refine tw_done (by kernel_rfl) ?_
      go_wp2_with fail
      go_round
      case rel =>
        refine ⟨n + 1, z.set n (IntKind.u64.wrap (ze + ye)), hlt, by go_num, ⟨by rw [show 5 - (n + 1) = 4 - n by omega, ← HZE.out, ← HYE.out]; exact HI2.out⟩, ⟨by rw [List.length_set]; exact HZ.out⟩, ⟨?_⟩, ⟨?_⟩, ⟨?_⟩, ⟨?_⟩⟩
        · exact blk_put BK1.out _ _ (onetime_split.cells_upd _ _ _)
        · exact blk_far BK2.out (p := ⟨g1, n, none⟩) (by have := L2.out; simp; omega) _
        · exact blk_far BK3.out (p := ⟨g1, n, none⟩) (by have := L2.out; have := L3.out; simp; omega) _
        · exact HB.out.setCell (p := ⟨g1, n, none⟩) L1.out _
      case measure => simp [intOf]; omega
    · obtain rfl : n = 5 := by omega
      have hy := HI.out
      simp only [Nat.sub_self, onetime_number_plus.loop] at hy
      subst hy
      have EI := Aside0.mk (onetime_split.info _ HZ.out)
      have EC := Aside0.mk (onetime_split.cells_one z)
      have EH := Aside0.mk (show (onetime_split.cells (List.replicate 5 0)).size = (onetime_split.cells z).size by rw [onetime_split.cells_size, onetime_split.cells_size, HZ.out]; rfl)
      have L4 := Aside0.mk (show w.heap.size ≤ g3 by have := L1.out; have := L2.out; have := L3.out; omega)
      clear HI
      go_wp2_with (first | ((with_reducible refine gate_dst (N := 18) rfl ?_); refine wpList_load_row rfl 37 _ rfl g1 rfl 37 _ (0, 0) _ BK1.out Try.underlying37 rfl EI.out ?_) | ((with_reducible refine gate_store (t := 37) (p := 4) rfl ?_); refine wpList_store_row rfl 37 _ _ rfl g3 (onetime_split.cells z) rfl rfl 37 _ BK3.out EI.out EH.out EC.out ?_))
      refine bodyPost_ret (v := .agg (onetime_split.cells z)) (results_cell_row (p := 4) (by kernel_rfl) _ _ g3 37 (onetime_split.cells z) (0, 0) (.array 5 35) (by first | rfl | simp [Act.put]) (setRow_heap _ _ _ _ _ _ BK3.out) Try.underlying37 rfl EI.out) (by first | rfl | simp [Act.put]) ⟨rfl, ?_⟩
      exact onetime_split.bsr HB.out L4.out _
/-! (escutcheon/onetime.number).times -/
def onetime_number_times.step (x y : List Int) (i j : Nat) (o : List Int) : List Int :=
  o.set i (IntKind.u64.wrap (o.getD i 0 + if j ≤ i then IntKind.u64.wrap (x.getD j 0 * y.getD (i - j) 0) else IntKind.u64.wrap (IntKind.u64.wrap (x.getD j 0 * y.getD (5 + i - j) 0) * 5)))
def onetime_number_times.inner (x y : List Int) (i : Nat) : Nat → Nat → List Int → List Int
  | 0, _, o => o
  | n + 1, j, o => onetime_number_times.inner x y i n (j + 1) (onetime_number_times.step x y i j o)
def onetime_number_times.outer (x y : List Int) : Nat → Nat → List Int → List Int
  | 0, _, o => o
  | n + 1, i, o => onetime_number_times.outer x y n (i + 1) (onetime_number_times.inner x y i 5 0 o)
theorem onetime_number_times.step_len (x y : List Int) (i j : Nat) (o : List Int) : (onetime_number_times.step x y i j o).length = o.length := by simp [onetime_number_times.step]
theorem onetime_number_times.inner_len (x y : List Int) (i : Nat) : ∀ (n j : Nat) (o : List Int), (onetime_number_times.inner x y i n j o).length = o.length
  | 0, _, _ => rfl
  | n + 1, j, o => by rw [onetime_number_times.inner, onetime_number_times.inner_len x y i n, onetime_number_times.step_len]
theorem onetime_number_times.outer_len (x y : List Int) : ∀ (n i : Nat) (o : List Int), (onetime_number_times.outer x y n i o).length = o.length
  | 0, _, _ => rfl
  | n + 1, i, o => by rw [onetime_number_times.outer, onetime_number_times.outer_len x y n, onetime_number_times.inner_len]
def onetime_number_times.f (x y : List Int) : List Int := onetime_number_carry.f (onetime_number_times.outer x y 5 0 (List.replicate 5 0))
set_option maxHeartbeats 4000000 in
set_option maxRecDepth 100000 in
theorem onetime_number_times.calls (x y : List Int) (hx : x.length = 5) (hy : y.length = 5) (w : World) :
    Calls Try.prog 21 #[.agg (onetime_split.cells x), .agg (onetime_split.cells y)] w fun e w' => e = .returned (.agg (onetime_split.cells (onetime_number_times.f x y))) ∧ Below w.heap.size w w' := by
  have HX := Lib.hid hx
  have HY := Lib.hid hy
  clear hx hy
  obtain ⟨F, hF⟩ : ∃ F, onetime_number_times.outer x y 5 0 (List.replicate 5 0) = F := ⟨_, rfl⟩
  unfold onetime_number_times.f
  rw [hF]
  have HF0 := Aside0.mk hF
  have HL := Aside0.mk (show F.length = 5 by rw [← hF, onetime_number_times.outer_len]; rfl)
  obtain ⟨z, hz⟩ : ∃ z, onetime_number_carry.f F = z := ⟨_, rfl⟩
  rw [hz]
  have HZ := Aside0.mk (show z.length = 5 by rw [← hz, onetime_number_carry.f, onetime_number_carry.passes_len]; exact HL.out)
  have HZ0 := Aside0.mk hz
  clear hF hz
  go_enter Try.func21, Try.ntmps21
  go_wp2_with (first | ((with_reducible refine gate_dst (N := 2) rfl ?_); refine box_event ?hg (N := 2) ?hd (cs := onetime_split.cells x) (t := 37) ?hr ?_; (case hd => rfl); (case hg => rfl); (case hr => first | (go_simp; done) | (go_simp; rfl)); intro g1 hg1 w2 hbox hbx; have BK1 := Aside0.mk hbox; have HB1 := Aside0.mk hbx; have HG1 := Aside0.mk hg1; clear hbox hbx hg1) | ((with_reducible refine gate_dst (N := 3) rfl ?_); refine box_event ?hg (N := 3) ?hd (cs := onetime_split.cells y) (t := 37) ?hr ?_; (case hd => rfl); (case hg => rfl); (case hr => first | (go_simp; done) | (go_simp; rfl)); intro g2 hg2 w3 hbox hbx; have BK2 := Aside0.mk hbox; have HB2 := Aside0.mk hbx; have HG2 := Aside0.mk hg2; clear hbox hbx hg2) | ((with_reducible refine gate_dst (N := 4) rfl ?_); refine box_event ?hg (N := 4) ?hd (cs := onetime_split.cells (List.replicate 5 0)) (t := 37) ?hr ?_; (case hd => rfl); (case hg => rfl); (case hr => first | (go_simp; done) | (go_simp; rfl)); intro g3 hg3 w4 hbox hbx; have BK3 := Aside0.mk hbox; have HB3 := Aside0.mk hbx; have HG3 := Aside0.mk hg3; clear hbox hbx hg3) | ((with_reducible refine gate_dst (N := 5) rfl ?_); refine box_event ?hg (N := 5) ?hd (cs := onetime_split.cells (List.replicate 5 0)) (t := 37) ?hr ?_; (case hd => rfl); (case hg => rfl); (case hr => first | (go_simp; done) | (go_simp; rfl)); intro g4 hg4 w5 hbox hbx; have BK4 := Aside0.mk hbox; have HB4 := Aside0.mk hbx; have HG4 := Aside0.mk hg4; clear hbox hbx hg4))
  have L1 := Aside0.mk (show w.heap.size ≤ g1 by rw [HG1.out]; exact Nat.le_refl _)
  have L2 := Aside0.mk (show g1 < g2 by rw [HG2.out]; exact blk_lt BK1.out)
  have L3 := Aside0.mk (show g2 < g3 by rw [HG3.out]; exact blk_lt BK2.out)
  have L4 := Aside0.mk (show g3 < g4 by rw [HG4.out]; exact blk_lt BK3.out)
  have HB := Aside0.mk (below_step (below_step (below_step HB1.out HB2.out) HB3.out) HB4.out)
  replace BK1 := Aside0.mk (blk_below (blk_below (blk_below BK1.out HB2.out) HB3.out) HB4.out)
  replace BK2 := Aside0.mk (blk_below (blk_below BK2.out HB3.out) HB4.out)
  replace BK3 := Aside0.mk (blk_below BK3.out HB4.out)
  clear HB1 HB2 HB3 HB4 HG1 HG2 HG3 HG4
  go_wp2_with fail
  go_loopw [8] (fun v8 wr => ∃ (i : Nat) (o : List Int), i ≤ 5 ∧ v8 = .int .i64 i ∧ Aside0 (onetime_number_times.outer x y (5 - i) i o = F) ∧ Aside0 (o.length = 5) ∧ Aside0 (wr.heap[g1]? = some (.cells (onetime_split.cells x) 37 (0, 0))) ∧ Aside0 (wr.heap[g2]? = some (.cells (onetime_split.cells y) 37 (0, 0))) ∧ Aside0 (wr.heap[g3]? = some (.cells (onetime_split.cells (List.replicate 5 0)) 37 (0, 0))) ∧ Aside0 (wr.heap[g4]? = some (.cells (onetime_split.cells o) 37 (0, 0))) ∧ Aside0 (Below w.heap.size w wr)) (fun v8 _ => 5 - (intOf v8).toNat)
  case atStart => exact ⟨0, List.replicate 5 0, by omega, rfl, HF0, ⟨rfl⟩, BK1, BK2, BK3, BK4, HB⟩
  case round =>
    clear BK1 BK2 BK3 BK4 HB HF0
    obtain ⟨i, p, hi, rfl, HI, HP, BK1, BK2, BK3, BK4, HB⟩ := hrel
    by_cases hlt : i < 5
    · have hu := HI.out
      rw [show 5 - i = (4 - i) + 1 by omega] at hu
      simp only [onetime_number_times.outer] at hu
      obtain ⟨G, hG⟩ : ∃ G, onetime_number_times.inner x y i 5 0 p = G := ⟨_, rfl⟩
      rw [hG] at hu
      have HI2 := Lib.hid hu
      have HG := Aside0.mk hG
      have HGL := Aside0.mk (show G.length = 5 by rw [← hG, onetime_number_times.inner_len]; exact HP.out)
      clear hu hG HI
      go_wp2_with fail
      go_loopw [11] (fun v11 wr => ∃ (j : Nat) (o : List Int), j ≤ 5 ∧ v11 = .int .i64 j ∧ Aside0 (onetime_number_times.inner x y i (5 - j) j o = G) ∧ Aside0 (o.length = 5) ∧ Aside0 (wr.heap[g1]? = some (.cells (onetime_split.cells x) 37 (0, 0))) ∧ Aside0 (wr.heap[g2]? = some (.cells (onetime_split.cells y) 37 (0, 0))) ∧ Aside0 (wr.heap[g3]? = some (.cells (onetime_split.cells (List.replicate 5 0)) 37 (0, 0))) ∧ Aside0 (wr.heap[g4]? = some (.cells (onetime_split.cells o) 37 (0, 0))) ∧ Aside0 (Below w.heap.size w wr)) (fun v11 _ => 5 - (intOf v11).toNat)
      case atStart => exact ⟨0, p, by omega, rfl, HG, HP, BK1, BK2, BK3, BK4, HB⟩
      case round =>
        clear BK1 BK2 BK3 BK4 HB HG HP
        obtain ⟨j, o, hj, rfl, HJ, HO, BK1, BK2, BK3, BK4, HB⟩ := hrel
        by_cases hltj : j < 5
        · have hu := HJ.out
          rw [show 5 - j = (4 - j) + 1 by omega] at hu
          simp only [onetime_number_times.inner] at hu
          have HI2 := Lib.hid hu
          clear hu HJ
          by_cases hji : j ≤ i
          · obtain ⟨q, hq0⟩ : ∃ q, i - j = q := ⟨_, rfl⟩
            have HQ := Lib.hid hq0
            have hq : IntKind.i64.wrap ((i : Int) - (j : Int)) = (q : Int) := by rw [IntKind.wrap_i64]; omega
            go_wp2_with fail
            replace BK1 := Aside0.mk (show wr.drew.heap[g1]? = some (.cells (onetime_split.cells x) 37 (0, 0)) from BK1.out)
            replace BK2 := Aside0.mk (show wr.drew.heap[g2]? = some (.cells (onetime_split.cells y) 37 (0, 0)) from BK2.out)
            replace BK3 := Aside0.mk (show wr.drew.heap[g3]? = some (.cells (onetime_split.cells (List.replicate 5 0)) 37 (0, 0)) from BK3.out)
            replace BK4 := Aside0.mk (show wr.drew.heap[g4]? = some (.cells (onetime_split.cells o) 37 (0, 0)) from BK4.out)
            replace HB := Aside0.mk (show Below w.heap.size w wr.drew from below_drew1 HB.out)
            obtain ⟨xe, hxe⟩ : ∃ e, x.getD j 0 = e := ⟨_, rfl⟩
            obtain ⟨ye, hye⟩ : ∃ e, y.getD q 0 = e := ⟨_, rfl⟩
            obtain ⟨oe, hoe⟩ : ∃ e, o.getD i 0 = e := ⟨_, rfl⟩
            have hc1 : wr.drew.cell? ⟨g1, j, none⟩ = some (.int .u64 xe) := by rw [blk_cell BK1.out, onetime_split.cells_get _ _ (by rw [HX.out]; exact hltj), hxe]
            have hc2 : wr.drew.cell? ⟨g2, q, none⟩ = some (.int .u64 ye) := by rw [blk_cell BK2.out, onetime_split.cells_get _ _ (by rw [HY.out]; omega), hye]
            have hc4 : wr.drew.cell? ⟨g4, i, none⟩ = some (.int .u64 oe) := by rw [blk_cell BK4.out, onetime_split.cells_get _ _ (by rw [HO.out]; exact hlt), hoe]
            have hf1 : wr.drew.frozen? ⟨g4, i, none⟩ = false := blk_frozen BK4.out i
            have HS := Lib.hid (show onetime_number_times.step x y i j o = o.set i (IntKind.u64.wrap (oe + IntKind.u64.wrap (xe * ye))) by unfold onetime_number_times.step; rw [if_pos hji, HQ.out, hxe, hye, hoe])
            have ia := eq_true (show (i : Int) < 5 by omega)
            have ib := eq_true (show (j : Int) < 5 by omega)
            have ic := eq_true (show (q : Int) < 5 by omega)
            clear hxe hye hoe
            refine tw_start (n := 15) (T := fun _ => True) (S := fun w' => w'.cell? ⟨g4, i, none⟩ = some (.int .u64 oe) ∧ w'.cell? ⟨g1, j, none⟩ = some (.int .u64 xe) ∧ w'.cell? ⟨g2, q, none⟩ = some (.int .u64 ye)) (ds := [14]) #[false, false, false, false, false, false, false, false, false, false, false, false, false, false, false] (by kernel_rfl) rfl rfl trivial ⟨hc4, hc1, hc2⟩ (fun hHT hHS => ?_)
            generalize wr.drew = w7 at *
            refine tw_pure (i := 0) (N := some 17) (v := ?_) (a' := ?_) #[true, false, false, false, false, false, false, false, false, false, false, false, false, false, false] rfl rfl (by kernel_rfl) (fun _ _ _ h => h) (Or.inl ⟨by rfl, ?_⟩) ?_ ?_
            rotate_left
            · intro w'
              go_simp
              with_reducible rfl
            rotate_left
            · simp only [Act.put, List.setIfInBounds_toArray, List.set_cons_zero, List.set_cons_succ, i64_w, i32_w, IntKind.wrap_u32]
              rfl
            refine tw_pure (i := 1) (N := some 18) (v := ?_) (a' := ?_) #[true, true, false, false, false, false, false, false, false, false, false, false, false, false, false] rfl rfl (by kernel_rfl) (fun _ _ _ h => h) (Or.inl ⟨by rfl, ?_⟩) ?_ ?_
            rotate_left
            · intro w'
              go_simp
              with_reducible rfl
            rotate_left
            · simp only [Act.put, List.setIfInBounds_toArray, List.set_cons_zero, List.set_cons_succ, i64_w, i32_w, IntKind.wrap_u32]
              rfl
            refine tw_pure (i := 3) (N := some 20) (v := ?_) (a' := ?_) #[true, true, false, true, false, false, false, false, false, false, false, false, false, false, false] rfl rfl (by kernel_rfl) (fun _ _ _ h => h) (Or.inl ⟨by rfl, ?_⟩) ?_ ?_
            rotate_left
            · intro w'
              go_simp
              with_reducible rfl
            rotate_left
            · simp only [Act.put, List.setIfInBounds_toArray, List.set_cons_zero, List.set_cons_succ, i64_w, i32_w, IntKind.wrap_u32]
              rfl
            refine tw_pure (i := 4) (N := some 21) (v := ?_) (a' := ?_) #[true, true, false, true, true, false, false, false, false, false, false, false, false, false, false] rfl rfl (by kernel_rfl) (fun _ _ _ h => h) (Or.inl ⟨by rfl, ?_⟩) ?_ ?_
            rotate_left
            · intro w'
              go_simp
              with_reducible rfl
            rotate_left
            · simp only [Act.put, List.setIfInBounds_toArray, List.set_cons_zero, List.set_cons_succ, i64_w, i32_w, IntKind.wrap_u32]
              rfl
            refine tw_pure (i := 6) (N := some 23) (v := ?_) (a' := ?_) #[true, true, false, true, true, false, true, false, false, false, false, false, false, false, false] rfl rfl (by kernel_rfl) (fun _ _ _ h => h) (Or.inl ⟨by rfl, ?_⟩) ?_ ?_
            rotate_left
            · intro w'
              go_simp
              with_reducible rfl
            rotate_left
            · simp only [Act.put, List.setIfInBounds_toArray, List.set_cons_zero, List.set_cons_succ, i64_w, i32_w, IntKind.wrap_u32]
              rfl
            refine tw_pure (i := 7) (N := some 24) (v := ?_) (a' := ?_) #[true, true, false, true, true, false, true, true, false, false, false, false, false, false, false] rfl rfl (by kernel_rfl) (fun _ _ _ h => h) (Or.inl ⟨by rfl, ?_⟩) ?_ ?_
            rotate_left
            · intro w'
              go_simp
              with_reducible rfl
            rotate_left
            · simp only [Act.put, List.setIfInBounds_toArray, List.set_cons_zero, List.set_cons_succ, i64_w, i32_w, IntKind.wrap_u32]
              rfl
            refine tw_pure (i := 8) (N := some 25) (v := ?_) (a' := ?_) #[true, true, false, true, true, false, true, true, true, false, false, false, false, false, false] rfl rfl (by kernel_rfl) (fun _ _ _ h => h) (Or.inl ⟨by rfl, ?_⟩) ?_ ?_
            rotate_left
            · intro w'
              go_simp
              with_reducible rfl
            rotate_left
            · simp only [Act.put, List.setIfInBounds_toArray, List.set_cons_zero, List.set_cons_succ, i64_w, i32_w, IntKind.wrap_u32]
              rfl
            refine tw_pure (i := 9) (N := some 26) (v := ?_) (a' := ?_) #[true, true, false, true, true, false, true, true, true, true, false, false, false, false, false] rfl rfl (by kernel_rfl) (fun _ _ _ h => h) (Or.inl ⟨by rfl, ?_⟩) ?_ ?_
            rotate_left
            · intro w'
              go_simp
              with_reducible rfl
            rotate_left
            · simp only [Act.put, List.setIfInBounds_toArray, List.set_cons_zero, List.set_cons_succ, i64_w, i32_w, IntKind.wrap_u32]
              rfl
            refine tw_takeS (i := 2) (N := some 19) (v := ?_) (a' := ?_) #[true, true, true, true, true, false, true, true, true, true, false, false, false, false, false] rfl rfl (by kernel_rfl) (fun _ _ _ h => h) (Or.inl ⟨by rfl, ?_⟩) hHS ?_ ?_
            rotate_left
            · rintro w' ⟨hc4, hc1, hc2⟩
              go_simp
              with_reducible rfl
            rotate_left
            · simp only [Act.put, List.setIfInBounds_toArray, List.set_cons_zero, List.set_cons_succ, i64_w, i32_w, IntKind.wrap_u32]
              rfl
            refine tw_takeS (i := 5) (N := some 22) (v := ?_) (a' := ?_) #[true, true, true, true, true, true, true, true, true, true, false, false, false, false, false] rfl rfl (by kernel_rfl) (fun _ _ _ h => h) (Or.inl ⟨by rfl, ?_⟩) hHS ?_ ?_
            rotate_left
            · rintro w' ⟨hc4, hc1, hc2⟩
              go_simp
              with_reducible rfl
            rotate_left
            · simp only [Act.put, List.setIfInBounds_toArray, List.set_cons_zero, List.set_cons_succ, i64_w, i32_w, IntKind.wrap_u32]
              rfl
            refine tw_takeS (i := 10) (N := some 27) (v := ?_) (a' := ?_) #[true, true, true, true, true, true, true, true, true, true, true, false, false, false, false] rfl rfl (by kernel_rfl) (fun _ _ _ h => h) (Or.inl ⟨by rfl, ?_⟩) hHS ?_ ?_
            rotate_left
            · rintro w' ⟨hc4, hc1, hc2⟩
              go_simp
              with_reducible rfl
            rotate_left
            · simp only [Act.put, List.setIfInBounds_toArray, List.set_cons_zero, List.set_cons_succ, i64_w, i32_w, IntKind.wrap_u32]
              rfl
            refine tw_pure (i := 11) (N := some 28) (v := ?_) (a' := ?_) #[true, true, true, true, true, true, true, true, true, true, true, true, false, false, false] rfl rfl (by kernel_rfl) (fun _ _ _ h => h) (Or.inl ⟨by rfl, ?_⟩) ?_ ?_
            rotate_left
            · intro w'
              go_simp
              with_reducible rfl
            rotate_left
            · simp only [Act.put, List.setIfInBounds_toArray, List.set_cons_zero, List.set_cons_succ, i64_w, i32_w, IntKind.wrap_u32]
              rfl
            refine tw_pure (i := 12) (N := some 29) (v := ?_) (a' := ?_) #[true, true, true, true, true, true, true, true, true, true, true, true, true, false, false] rfl rfl (by kernel_rfl) (fun _ _ _ h => h) (Or.inl ⟨by rfl, ?_⟩) ?_ ?_
            rotate_left
            · intro w'
              go_simp
              with_reducible rfl
            rotate_left
            · simp only [Act.put, List.setIfInBounds_toArray, List.set_cons_zero, List.set_cons_succ, i64_w, i32_w, IntKind.wrap_u32]
              rfl
            refine tw_pure (i := 13) (N := some 30) (v := ?_) (a' := ?_) #[true, true, true, true, true, true, true, true, true, true, true, true, true, true, false] rfl rfl (by kernel_rfl) (fun _ _ _ h => h) (Or.inl ⟨by rfl, ?_⟩) ?_ ?_
            rotate_left
            · intro w'
              go_simp
              with_reducible rfl
            rotate_left
            · simp only [Act.put, List.setIfInBounds_toArray, List.set_cons_zero, List.set_cons_succ, i64_w, i32_w, IntKind.wrap_u32]
              rfl
            refine tw_last (i := 14) (N := none) #[true, true, true, true, true, true, true, true, true, true, true, true, true, true, true] rfl rfl (by kernel_rfl) (by decide) (fun K hK => ?_)
            refine skip_ (w1 := ?_) (by rfl) rfl ?_ ?_
            rotate_left
            · first | (go_simp; rfl) | (have hSC_ := @cell_set_blk; go_simp; rfl)
            refine hK.out _ _ trivial (fun hHT => ?_)
            clear hK K
            refine tw_done (by kernel_rfl) ?_
            go_wp2_with fail
            go_round
            case rel =>
              refine ⟨j + 1, o.set i (IntKind.u64.wrap (oe + IntKind.u64.wrap (xe * ye))), hltj, by go_num, ⟨by rw [show 5 - (j + 1) = 4 - j by omega, ← HS.out]; exact HI2.out⟩, ⟨by rw [List.length_set]; exact HO.out⟩, ⟨?_⟩, ⟨?_⟩, ⟨?_⟩, ⟨?_⟩, ⟨?_⟩⟩
              · exact blk_far BK1.out (p := ⟨g4, i, none⟩) (by have := L2.out; have := L3.out; have := L4.out; simp; omega) _
              · exact blk_far BK2.out (p := ⟨g4, i, none⟩) (by have := L3.out; have := L4.out; simp; omega) _
              · exact blk_far BK3.out (p := ⟨g4, i, none⟩) (by have := L4.out; simp; omega) _
              · exact blk_put BK4.out _ _ (onetime_split.cells_upd _ _ _)
              · exact HB.out.setCell (p := ⟨g4, i, none⟩) (show w.heap.size ≤ g4 by have := L1.out; have := L2.out; have := L3.out; have := L4.out; omega) _
            case measure => simp [intOf]; omega
          · obtain ⟨r, hr0⟩ : ∃ r, 5 + i = r := ⟨_, rfl⟩
            obtain ⟨q, hq0⟩ : ∃ q, 5 + i - j = q := ⟨_, rfl⟩
            have HQ := Lib.hid hq0
            have hr : IntKind.i64.wrap (5 + (i : Int)) = (r : Int) := by rw [IntKind.wrap_i64]; omega
            have hq : IntKind.i64.wrap ((r : Int) - (j : Int)) = (q : Int) := by rw [IntKind.wrap_i64]; omega
            go_wp2_with fail
            replace BK1 := Aside0.mk (show wr.drew.heap[g1]? = some (.cells (onetime_split.cells x) 37 (0, 0)) from BK1.out)
            replace BK2 := Aside0.mk (show wr.drew.heap[g2]? = some (.cells (onetime_split.cells y) 37 (0, 0)) from BK2.out)
            replace BK3 := Aside0.mk (show wr.drew.heap[g3]? = some (.cells (onetime_split.cells (List.replicate 5 0)) 37 (0, 0)) from BK3.out)
            replace BK4 := Aside0.mk (show wr.drew.heap[g4]? = some (.cells (onetime_split.cells o) 37 (0, 0)) from BK4.out)
            replace HB := Aside0.mk (show Below w.heap.size w wr.drew from below_drew1 HB.out)
            obtain ⟨xe, hxe⟩ : ∃ e, x.getD j 0 = e := ⟨_, rfl⟩
            obtain ⟨ye, hye⟩ : ∃ e, y.getD q 0 = e := ⟨_, rfl⟩
            obtain ⟨oe, hoe⟩ : ∃ e, o.getD i 0 = e := ⟨_, rfl⟩
            have hc1 : wr.drew.cell? ⟨g1, j, none⟩ = some (.int .u64 xe) := by rw [blk_cell BK1.out, onetime_split.cells_get _ _ (by rw [HX.out]; exact hltj), hxe]
            have hc2 : wr.drew.cell? ⟨g2, q, none⟩ = some (.int .u64 ye) := by rw [blk_cell BK2.out, onetime_split.cells_get _ _ (by rw [HY.out]; omega), hye]
            have hc4 : wr.drew.cell? ⟨g4, i, none⟩ = some (.int .u64 oe) := by rw [blk_cell BK4.out, onetime_split.cells_get _ _ (by rw [HO.out]; exact hlt), hoe]
            have hf1 : wr.drew.frozen? ⟨g4, i, none⟩ = false := blk_frozen BK4.out i
            have HS := Lib.hid (show onetime_number_times.step x y i j o = o.set i (IntKind.u64.wrap (oe + IntKind.u64.wrap (IntKind.u64.wrap (xe * ye) * 5))) by unfold onetime_number_times.step; rw [if_neg hji, HQ.out, hxe, hye, hoe])
            have ia := eq_true (show (i : Int) < 5 by omega)
            have ib := eq_true (show (j : Int) < 5 by omega)
            have ic := eq_true (show (q : Int) < 5 by omega)
            clear hxe hye hoe
            refine tw_start (n := 17) (T := fun _ => True) (S := fun w' => w'.cell? ⟨g4, i, none⟩ = some (.int .u64 oe) ∧ w'.cell? ⟨g1, j, none⟩ = some (.int .u64 xe) ∧ w'.cell? ⟨g2, q, none⟩ = some (.int .u64 ye)) (ds := [16]) #[false, false, false, false, false, false, false, false, false, false, false, false, false, false, false, false, false] (by kernel_rfl) rfl rfl trivial ⟨hc4, hc1, hc2⟩ (fun hHT hHS => ?_)
            generalize wr.drew = w7 at *
            refine tw_pure (i := 0) (N := some 31) (v := ?_) (a' := ?_) #[true, false, false, false, false, false, false, false, false, false, false, false, false, false, false, false, false] rfl rfl (by kernel_rfl) (fun _ _ _ h => h) (Or.inl ⟨by rfl, ?_⟩) ?_ ?_
            rotate_left
            · intro w'
              go_simp
              with_reducible rfl
            rotate_left
            · simp only [Act.put, List.setIfInBounds_toArray, List.set_cons_zero, List.set_cons_succ, i64_w, i32_w, IntKind.wrap_u32]
              rfl
            refine tw_pure (i := 1) (N := some 32) (v := ?_) (a' := ?_) #[true, true, false, false, false, false, false, false, false, false, false, false, false, false, false, false, false] rfl rfl (by kernel_rfl) (fun _ _ _ h => h) (Or.inl ⟨by rfl, ?_⟩) ?_ ?_
            rotate_left
            · intro w'
              go_simp
              with_reducible rfl
            rotate_left
            · simp only [Act.put, List.setIfInBounds_toArray, List.set_cons_zero, List.set_cons_succ, i64_w, i32_w, IntKind.wrap_u32]
              rfl
            refine tw_pure (i := 3) (N := some 34) (v := ?_) (a' := ?_) #[true, true, false, true, false, false, false, false, false, false, false, false, false, false, false, false, false] rfl rfl (by kernel_rfl) (fun _ _ _ h => h) (Or.inl ⟨by rfl, ?_⟩) ?_ ?_
            rotate_left
            · intro w'
              go_simp
              with_reducible rfl
            rotate_left
            · simp only [Act.put, List.setIfInBounds_toArray, List.set_cons_zero, List.set_cons_succ, i64_w, i32_w, IntKind.wrap_u32]
              rfl
            refine tw_pure (i := 4) (N := some 35) (v := ?_) (a' := ?_) #[true, true, false, true, true, false, false, false, false, false, false, false, false, false, false, false, false] rfl rfl (by kernel_rfl) (fun _ _ _ h => h) (Or.inl ⟨by rfl, ?_⟩) ?_ ?_
            rotate_left
            · intro w'
              go_simp
              with_reducible rfl
            rotate_left
            · simp only [Act.put, List.setIfInBounds_toArray, List.set_cons_zero, List.set_cons_succ, i64_w, i32_w, IntKind.wrap_u32]
              rfl
            refine tw_pure (i := 6) (N := some 37) (v := ?_) (a' := ?_) #[true, true, false, true, true, false, true, false, false, false, false, false, false, false, false, false, false] rfl rfl (by kernel_rfl) (fun _ _ _ h => h) (Or.inl ⟨by rfl, ?_⟩) ?_ ?_
            rotate_left
            · intro w'
              go_simp
              with_reducible rfl
            rotate_left
            · simp only [Act.put, List.setIfInBounds_toArray, List.set_cons_zero, List.set_cons_succ, i64_w, i32_w, IntKind.wrap_u32]
              rfl
            refine tw_pure (i := 7) (N := some 38) (v := ?_) (a' := ?_) #[true, true, false, true, true, false, true, true, false, false, false, false, false, false, false, false, false] rfl rfl (by kernel_rfl) (fun _ _ _ h => h) (Or.inl ⟨by rfl, ?_⟩) ?_ ?_
            rotate_left
            · intro w'
              go_simp
              with_reducible rfl
            rotate_left
            · simp only [Act.put, List.setIfInBounds_toArray, List.set_cons_zero, List.set_cons_succ, i64_w, i32_w, IntKind.wrap_u32]
              rfl
            refine tw_pure (i := 8) (N := some 39) (v := ?_) (a' := ?_) #[true, true, false, true, true, false, true, true, true, false, false, false, false, false, false, false, false] rfl rfl (by kernel_rfl) (fun _ _ _ h => h) (Or.inl ⟨by rfl, ?_⟩) ?_ ?_
            rotate_left
            · intro w'
              go_simp
              with_reducible rfl
            rotate_left
            · simp only [Act.put, List.setIfInBounds_toArray, List.set_cons_zero, List.set_cons_succ, i64_w, i32_w, IntKind.wrap_u32]
              rfl
            refine tw_pure (i := 9) (N := some 40) (v := ?_) (a' := ?_) #[true, true, false, true, true, false, true, true, true, true, false, false, false, false, false, false, false] rfl rfl (by kernel_rfl) (fun _ _ _ h => h) (Or.inl ⟨by rfl, ?_⟩) ?_ ?_
            rotate_left
            · intro w'
              go_simp
              with_reducible rfl
            rotate_left
            · simp only [Act.put, List.setIfInBounds_toArray, List.set_cons_zero, List.set_cons_succ, i64_w, i32_w, IntKind.wrap_u32]
              rfl
            refine tw_pure (i := 10) (N := some 41) (v := ?_) (a' := ?_) #[true, true, false, true, true, false, true, true, true, true, true, false, false, false, false, false, false] rfl rfl (by kernel_rfl) (fun _ _ _ h => h) (Or.inl ⟨by rfl, ?_⟩) ?_ ?_
            rotate_left
            · intro w'
              go_simp
              with_reducible rfl
            rotate_left
            · simp only [Act.put, List.setIfInBounds_toArray, List.set_cons_zero, List.set_cons_succ, i64_w, i32_w, IntKind.wrap_u32]
              rfl
            refine tw_takeS (i := 2) (N := some 33) (v := ?_) (a' := ?_) #[true, true, true, true, true, false, true, true, true, true, true, false, false, false, false, false, false] rfl rfl (by kernel_rfl) (fun _ _ _ h => h) (Or.inl ⟨by rfl, ?_⟩) hHS ?_ ?_
            rotate_left
            · rintro w' ⟨hc4, hc1, hc2⟩
              go_simp
              with_reducible rfl
            rotate_left
            · simp only [Act.put, List.setIfInBounds_toArray, List.set_cons_zero, List.set_cons_succ, i64_w, i32_w, IntKind.wrap_u32]
              rfl
            refine tw_takeS (i := 5) (N := some 36) (v := ?_) (a' := ?_) #[true, true, true, true, true, true, true, true, true, true, true, false, false, false, false, false, false] rfl rfl (by kernel_rfl) (fun _ _ _ h => h) (Or.inl ⟨by rfl, ?_⟩) hHS ?_ ?_
            rotate_left
            · rintro w' ⟨hc4, hc1, hc2⟩
              go_simp
              with_reducible rfl
            rotate_left
            · simp only [Act.put, List.setIfInBounds_toArray, List.set_cons_zero, List.set_cons_succ, i64_w, i32_w, IntKind.wrap_u32]
              rfl
            refine tw_takeS (i := 11) (N := some 42) (v := ?_) (a' := ?_) #[true, true, true, true, true, true, true, true, true, true, true, true, false, false, false, false, false] rfl rfl (by kernel_rfl) (fun _ _ _ h => h) (Or.inl ⟨by rfl, ?_⟩) hHS ?_ ?_
            rotate_left
            · rintro w' ⟨hc4, hc1, hc2⟩
              go_simp
              with_reducible rfl
            rotate_left
            · simp only [Act.put, List.setIfInBounds_toArray, List.set_cons_zero, List.set_cons_succ, i64_w, i32_w, IntKind.wrap_u32]
              rfl
            refine tw_pure (i := 12) (N := some 43) (v := ?_) (a' := ?_) #[true, true, true, true, true, true, true, true, true, true, true, true, true, false, false, false, false] rfl rfl (by kernel_rfl) (fun _ _ _ h => h) (Or.inl ⟨by rfl, ?_⟩) ?_ ?_
            rotate_left
            · intro w'
              go_simp
              with_reducible rfl
            rotate_left
            · simp only [Act.put, List.setIfInBounds_toArray, List.set_cons_zero, List.set_cons_succ, i64_w, i32_w, IntKind.wrap_u32]
              rfl
            refine tw_pure (i := 13) (N := some 44) (v := ?_) (a' := ?_) #[true, true, true, true, true, true, true, true, true, true, true, true, true, true, false, false, false] rfl rfl (by kernel_rfl) (fun _ _ _ h => h) (Or.inl ⟨by rfl, ?_⟩) ?_ ?_
            rotate_left
            · intro w'
              go_simp
              with_reducible rfl
            rotate_left
            · simp only [Act.put, List.setIfInBounds_toArray, List.set_cons_zero, List.set_cons_succ, i64_w, i32_w, IntKind.wrap_u32]
              rfl
            refine tw_pure (i := 14) (N := some 45) (v := ?_) (a' := ?_) #[true, true, true, true, true, true, true, true, true, true, true, true, true, true, true, false, false] rfl rfl (by kernel_rfl) (fun _ _ _ h => h) (Or.inl ⟨by rfl, ?_⟩) ?_ ?_
            rotate_left
            · intro w'
              go_simp
              with_reducible rfl
            rotate_left
            · simp only [Act.put, List.setIfInBounds_toArray, List.set_cons_zero, List.set_cons_succ, i64_w, i32_w, IntKind.wrap_u32]
              rfl
            refine tw_pure (i := 15) (N := some 46) (v := ?_) (a' := ?_) #[true, true, true, true, true, true, true, true, true, true, true, true, true, true, true, true, false] rfl rfl (by kernel_rfl) (fun _ _ _ h => h) (Or.inl ⟨by rfl, ?_⟩) ?_ ?_
            rotate_left
            · intro w'
              go_simp
              with_reducible rfl
            rotate_left
            · simp only [Act.put, List.setIfInBounds_toArray, List.set_cons_zero, List.set_cons_succ, i64_w, i32_w, IntKind.wrap_u32]
              rfl
            refine tw_last (i := 16) (N := none) #[true, true, true, true, true, true, true, true, true, true, true, true, true, true, true, true, true] rfl rfl (by kernel_rfl) (by decide) (fun K hK => ?_)
            refine skip_ (w1 := ?_) (by rfl) rfl ?_ ?_
            rotate_left
            · first | (go_simp; rfl) | (have hSC_ := @cell_set_blk; go_simp; rfl)
            refine hK.out _ _ trivial (fun hHT => ?_)
            clear hK K
            refine tw_done (by kernel_rfl) ?_
            go_wp2_with fail
            go_round
            case rel =>
              refine ⟨j + 1, o.set i (IntKind.u64.wrap (oe + IntKind.u64.wrap (IntKind.u64.wrap (xe * ye) * 5))), hltj, by go_num, ⟨by rw [show 5 - (j + 1) = 4 - j by omega, ← HS.out]; exact HI2.out⟩, ⟨by rw [List.length_set]; exact HO.out⟩, ⟨?_⟩, ⟨?_⟩, ⟨?_⟩, ⟨?_⟩, ⟨?_⟩⟩
              · exact blk_far BK1.out (p := ⟨g4, i, none⟩) (by have := L2.out; have := L3.out; have := L4.out; simp; omega) _
              · exact blk_far BK2.out (p := ⟨g4, i, none⟩) (by have := L3.out; have := L4.out; simp; omega) _
              · exact blk_far BK3.out (p := ⟨g4, i, none⟩) (by have := L4.out; simp; omega) _
              · exact blk_put BK4.out _ _ (onetime_split.cells_upd _ _ _)
              · exact HB.out.setCell (p := ⟨g4, i, none⟩) (show w.heap.size ≤ g4 by have := L1.out; have := L2.out; have := L3.out; have := L4.out; omega) _
            case measure => simp [intOf]; omega
        · obtain rfl : j = 5 := by omega
          have hu := HJ.out
          simp only [Nat.sub_self, onetime_number_times.inner] at hu
          subst hu
          clear HJ
          go_wp2_with fail
          go_round
          case rel => exact ⟨i + 1, o, hlt, by go_num, ⟨by rw [show 5 - (i + 1) = 4 - i by omega]; exact HI2.out⟩, HO, BK1, BK2, BK3, BK4, HB⟩
          case measure => simp [intOf]; omega
    · obtain rfl : i = 5 := by omega
      have hu := HI.out
      simp only [Nat.sub_self, onetime_number_times.outer] at hu
      subst hu
      have EI := Aside0.mk (onetime_split.info _ HP.out)
      clear HI
      go_wp2_with (((with_reducible refine gate_dst (N := 49) rfl ?_); refine wpList_load_row rfl 37 _ rfl g4 rfl 37 _ (0, 0) _ BK4.out Try.underlying37 rfl EI.out ?_))
      refine (onetime_number_carry.calls p HP.out _).mono ?_
      rintro e_ w6 ⟨rfl, hb6⟩
      rw [HZ0.out]
      replace BK3 := Aside0.mk (blk_below BK3.out hb6)
      replace HB := Aside0.mk (below_step HB.out hb6)
      have EI := Aside0.mk (onetime_split.info _ HZ.out)
      have EC := Aside0.mk (onetime_split.cells_one z)
      have EH := Aside0.mk (show (onetime_split.cells (List.replicate 5 0)).size = (onetime_split.cells z).size by rw [onetime_split.cells_size, onetime_split.cells_size, HZ.out]; rfl)
      have L5 := Aside0.mk (show w.heap.size ≤ g3 by have := L1.out; have := L2.out; have := L3.out; omega)
      clear BK1 BK2 BK4 hb6
      go_wp2_with (((with_reducible refine gate_store (t := 37) (p := 4) rfl ?_); refine wpList_store_row rfl 37 _ _ rfl g3 (onetime_split.cells z) rfl rfl 37 _ BK3.out EI.out EH.out EC.out ?_))
      refine bodyPost_ret (v := .agg (onetime_split.cells z)) (results_cell_row (p := 4) (by kernel_rfl) _ _ g3 37 (onetime_split.cells z) (0, 0) (.array 5 35) (by first | rfl | simp [Act.put]) (setRow_heap _ _ _ _ _ _ BK3.out) Try.underlying37 rfl EI.out) (by first | rfl | simp [Act.put]) ⟨rfl, ?_⟩
      exact onetime_split.bsr HB.out L5.out _
/-! (escutcheon/onetime.number).whole -/
def onetime_number_whole.f (x : List Int) : List Int := if 0 < (onetime_number_carry.inner 5 0 (onetime_number_carry.f x) 5).2 then (onetime_number_carry.inner 5 0 (onetime_number_carry.f x) 5).1 else onetime_number_carry.f x
set_option maxHeartbeats 4000000 in
set_option maxRecDepth 100000 in
theorem onetime_number_whole.calls (x : List Int) (hx : x.length = 5) (w : World) :
    Calls Try.prog 22 #[.agg (onetime_split.cells x)] w fun e w' => e = .returned (.agg (onetime_split.cells (onetime_number_whole.f x))) ∧ Below w.heap.size w w' := by
  obtain ⟨x1, hx1⟩ : ∃ z, onetime_number_carry.f x = z := ⟨_, rfl⟩
  obtain ⟨R, hR⟩ : ∃ R, onetime_number_carry.inner 5 0 x1 5 = R := ⟨_, rfl⟩
  unfold onetime_number_whole.f
  rw [hx1, hR]
  obtain ⟨Z, hZ⟩ : ∃ Z, (if 0 < R.2 then R.1 else x1) = Z := ⟨_, rfl⟩
  rw [hZ]
  have HX := Lib.hid hx
  have HX1 := Lib.hid hx1
  have HL1 := Lib.hid (show x1.length = 5 by rw [← hx1, onetime_number_carry.f, onetime_number_carry.passes_len]; exact hx)
  have HR := Aside0.mk hR
  have HZ0 := Lib.hid hZ
  have EI1 := Aside0.mk (onetime_split.info _ hx)
  have EI2 := Aside0.mk (onetime_split.info _ HL1.out)
  have EC2 := Aside0.mk (onetime_split.cells_one x1)
  have EH2 := Aside0.mk (show (onetime_split.cells x).size = (onetime_split.cells x1).size by rw [onetime_split.cells_size, onetime_split.cells_size, hx, HL1.out])
  have EH3 := Aside0.mk (show (onetime_split.cells (List.replicate 5 0)).size = (onetime_split.cells x1).size by rw [onetime_split.cells_size, onetime_split.cells_size, HL1.out]; rfl)
  clear hx hx1 hR hZ
  go_enter Try.func22, Try.ntmps22
  go_wp2_with (first | ((with_reducible refine gate_dst (N := 1) rfl ?_); refine box_event ?hg (N := 1) ?hd (cs := onetime_split.cells x) (t := 37) ?hr ?_; (case hd => rfl); (case hg => rfl); (case hr => first | (go_simp; done) | (go_simp; rfl)); intro g1 hg1 w2 hbox hbx; have BK1 := Aside0.mk hbox; have HB1 := Aside0.mk hbx; have HG1 := Aside0.mk hg1; clear hbox hbx hg1) | ((with_reducible refine gate_dst (N := 2) rfl ?_); refine box_event ?hg (N := 2) ?hd (cs := onetime_split.cells (List.replicate 5 0)) (t := 37) ?hr ?_; (case hd => rfl); (case hg => rfl); (case hr => first | (go_simp; done) | (go_simp; rfl)); intro g2 hg2 w3 hbox hbx; have BK2 := Aside0.mk hbox; have HB2 := Aside0.mk hbx; have HG2 := Aside0.mk hg2; have BK1b := Aside0.mk (blk_below BK1.out HB2.out); clear hbox hbx hg2) | ((with_reducible refine gate_dst (N := 6) rfl ?_); refine wpList_load_row rfl 37 _ rfl g1 rfl 37 _ (0, 0) _ BK1b.out Try.underlying37 rfl EI1.out ?_))
  have L1 := Aside0.mk (show w.heap.size ≤ g1 by rw [HG1.out]; exact Nat.le_refl _)
  have L2 := Aside0.mk (show g1 < g2 by rw [HG2.out]; exact blk_lt BK1.out)
  have HB := Aside0.mk (below_step HB1.out HB2.out)
  clear HB1 HB2 HG1 HG2 BK1
  refine (onetime_number_carry.calls x HX.out _).mono ?_
  rintro e_ w4 ⟨rfl, hb4⟩
  rw [HX1.out]
  have BK1 := Aside0.mk (blk_below BK1b.out hb4)
  have BK2' := Aside0.mk (blk_below BK2.out hb4)
  have HB' := Aside0.mk (below_step HB.out hb4)
  clear BK1b BK2 HB hb4
  go_wp2_with (first | ((with_reducible refine gate_store (t := 37) (p := 1) rfl ?_); refine wpList_store_row rfl 37 _ _ rfl g1 (onetime_split.cells x1) rfl rfl 37 _ BK1.out EI2.out EH2.out EC2.out ?_) | ((with_reducible refine gate_dst (N := 8) rfl ?_); refine wpList_load_row rfl 37 _ rfl g1 rfl 37 _ (0, 0) _ (setRow_heap _ _ _ _ _ _ BK1.out) Try.underlying37 rfl EI2.out ?_) | ((with_reducible refine gate_dst (N := 3) rfl ?_); refine box_event ?hg (N := 3) ?hd (cs := onetime_split.cells (List.replicate 5 0)) (t := 37) ?hr ?_; (case hd => rfl); (case hg => rfl); (case hr => first | (go_simp; done) | (go_simp; rfl)); intro g3 hg3 w5 hbox hbx; have BK3 := Aside0.mk hbox; have HB3 := Aside0.mk hbx; have HG3 := Aside0.mk hg3; clear hbox hbx hg3) | ((with_reducible refine gate_store (t := 37) (p := 3) rfl ?_); refine wpList_store_row rfl 37 _ _ rfl g3 (onetime_split.cells x1) rfl rfl 37 _ BK3.out EI2.out EH3.out EC2.out ?_))
  have L3 := Aside0.mk (show g2 < g3 by rw [HG3.out]; have := blk_lt BK2'.out; simpa using this)
  have BK1c := Aside0.mk (blk_below (setRow_heap w4 g1 _ (onetime_split.cells x1) _ _ BK1.out) HB3.out)
  have BK2c := Aside0.mk (blk_below ((setRow_other w4 g1 g2 (onetime_split.cells x1) (by have := L2.out; omega)).trans BK2'.out) HB3.out)
  have HBc := Aside0.mk (below_step (onetime_split.bsr HB'.out L1.out (onetime_split.cells x1)) HB3.out)
  have BK1d := Aside0.mk ((setRow_other w5 g3 g1 (onetime_split.cells x1) (by have := L2.out; have := L3.out; omega)).trans BK1c.out)
  have BK2d := Aside0.mk ((setRow_other w5 g3 g2 (onetime_split.cells x1) (by have := L3.out; omega)).trans BK2c.out)
  have BK3d := Aside0.mk (setRow_heap w5 g3 _ (onetime_split.cells x1) _ _ BK3.out)
  have HBd := Aside0.mk (onetime_split.bsr HBc.out (show w.heap.size ≤ g3 by have := L1.out; have := L2.out; have := L3.out; omega) (onetime_split.cells x1))
  clear BK1 BK2' HB' BK1c BK2c HBc BK3 HB3 HG3
  generalize w5.setRow g3 (onetime_split.cells x1) = w6 at *
  go_wp2_with fail
  go_loopw [4, 9] (fun v4 v9 wr => ∃ (n : Nat) (z : List Int) (c : Int), n ≤ 5 ∧ v9 = .int .i64 n ∧ v4 = .int .u64 c ∧ Aside0 (onetime_number_carry.inner (5 - n) n z c = R) ∧ Aside0 (z.length = 5) ∧ Aside0 (wr.heap[g1]? = some (.cells (onetime_split.cells x1) 37 (0, 0))) ∧ Aside0 (wr.heap[g2]? = some (.cells (onetime_split.cells (List.replicate 5 0)) 37 (0, 0))) ∧ Aside0 (wr.heap[g3]? = some (.cells (onetime_split.cells z) 37 (0, 0))) ∧ Aside0 (Below w.heap.size w wr)) (fun _ v9 _ => 5 - (intOf v9).toNat)
  case atStart => exact ⟨0, x1, 5, by omega, rfl, rfl, HR, ⟨HL1.out⟩, BK1d, BK2d, BK3d, HBd⟩
  case round =>
    clear BK1d BK2d BK3d HBd HX HX1 HL1
    obtain ⟨n, z, c, hn, rfl, rfl, HI, HZ, BK1, BK2, BK3, HB⟩ := hrel
    by_cases hlt2 : n < 5
    · have hi := HI.out
      rw [show 5 - n = (4 - n) + 1 by omega] at hi
      simp only [onetime_number_carry.inner] at hi
      have HI2 := Lib.hid hi
      clear hi HI
      obtain ⟨ze, hze⟩ : ∃ ze, z.getD n 0 = ze := ⟨_, rfl⟩
      have hc1 : wr.cell? ⟨g3, n, none⟩ = some (.int .u64 ze) := by rw [blk_cell BK3.out, onetime_split.cells_get _ _ (by rw [HZ.out]; exact hlt2), hze]
      have HZE := Lib.hid hze
      clear hze
      have hf1 : wr.frozen? ⟨g3, n, none⟩ = false := blk_frozen BK3.out n
      obtain ⟨v, hv⟩ : ∃ v, IntKind.u64.wrap (ze + c) = v := ⟨_, rfl⟩
      go_wp2_with fail
      go_round
      case rel =>
        refine ⟨n + 1, onetime_number_carry.step z n c, onetime_number_carry.out z n c, hlt2, by go_num, by unfold onetime_number_carry.out; rw [HZE.out, hv], ⟨by rw [show 5 - (n + 1) = 4 - n by omega]; exact HI2.out⟩, ⟨by rw [onetime_number_carry.step_len]; exact HZ.out⟩, ⟨?_⟩, ⟨?_⟩, ⟨?_⟩, ⟨?_⟩⟩
        · exact blk_far (blk_far BK1.out (p := ⟨g3, n, none⟩) (by have := L2.out; have := L3.out; simp; omega) _) (p := ⟨g3, n, none⟩) (by have := L2.out; have := L3.out; simp; omega) _
        · exact blk_far (blk_far BK2.out (p := ⟨g3, n, none⟩) (by have := L3.out; simp; omega) _) (p := ⟨g3, n, none⟩) (by have := L3.out; simp; omega) _
        · unfold onetime_number_carry.step
          rw [HZE.out, hv]
          exact blk_put (blk_put BK3.out _ _ (onetime_split.cells_upd _ _ _)) _ _ (onetime_split.cells_upd _ _ _)
        · have h3 : w.heap.size ≤ g3 := by have := L1.out; have := L2.out; have := L3.out; omega
          exact (HB.out.setCell (p := ⟨g3, n, none⟩) h3 _).setCell (p := ⟨g3, n, none⟩) h3 _
      case measure => simp [intOf]; omega
    · obtain rfl : n = 5 := by omega
      have hi := HI.out
      simp only [Nat.sub_self, onetime_number_carry.inner] at hi
      have EIz := Aside0.mk (onetime_split.info _ HZ.out)
      have ECz := Aside0.mk (onetime_split.cells_one z)
      have EHz := Aside0.mk (show (onetime_split.cells (List.replicate 5 0)).size = (onetime_split.cells z).size by rw [onetime_split.cells_size, onetime_split.cells_size, HZ.out]; rfl)
      have h2 : w.heap.size ≤ g2 := by have := L1.out; have := L2.out; omega
      have L4 := Lib.hid h2
      clear h2
      by_cases hc : 0 < c
      · have hZ := HZ0.out
        rw [← hi, if_pos hc] at hZ
        simp only at hZ
        have HE := Lib.hid hZ
        clear hZ hi HI HR HZ0
        go_wp2_with (first | ((with_reducible refine gate_dst (N := 30) rfl ?_); refine wpList_load_row rfl 37 _ rfl g3 rfl 37 _ (0, 0) _ BK3.out Try.underlying37 rfl EIz.out ?_) | ((with_reducible refine gate_store (t := 37) (p := 2) rfl ?_); refine wpList_store_row rfl 37 _ _ rfl g2 (onetime_split.cells z) rfl rfl 37 _ BK2.out EIz.out EHz.out ECz.out ?_))
        refine bodyPost_ret (v := .agg (onetime_split.cells z)) (results_cell_row (p := 2) (by kernel_rfl) _ _ g2 37 (onetime_split.cells z) (0, 0) (.array 5 35) (by first | rfl | simp [Act.put]) (setRow_heap _ _ _ _ _ _ BK2.out) Try.underlying37 rfl EIz.out) (by first | rfl | simp [Act.put]) ⟨by rw [HE.out], ?_⟩
        exact onetime_split.bsr HB.out L4.out _
      · have hZ := HZ0.out
        rw [← hi, if_neg hc] at hZ
        have HE := Lib.hid hZ
        clear hZ hi HI HR HZ0
        go_wp2_with (first | ((with_reducible refine gate_dst (N := 31) rfl ?_); refine wpList_load_row rfl 37 _ rfl g1 rfl 37 _ (0, 0) _ BK1.out Try.underlying37 rfl EI2.out ?_) | ((with_reducible refine gate_store (t := 37) (p := 2) rfl ?_); refine wpList_store_row rfl 37 _ _ rfl g2 (onetime_split.cells x1) rfl rfl 37 _ BK2.out EI2.out EH3.out EC2.out ?_))
        refine bodyPost_ret (v := .agg (onetime_split.cells x1)) (results_cell_row (p := 2) (by kernel_rfl) _ _ g2 37 (onetime_split.cells x1) (0, 0) (.array 5 35) (by first | rfl | simp [Act.put]) (setRow_heap _ _ _ _ _ _ BK2.out) Try.underlying37 rfl EI2.out) (by first | rfl | simp [Act.put]) ⟨by rw [HE.out], ?_⟩
        exact onetime_split.bsr HB.out L4.out _
theorem onetime_Tag.run_ld_row {P : Program} {o : Oper} {a : Act} {w : World} (ty : TypeId) (x : Operand) (ho : o.op = .load ty x)
    (g : Nat) (hx : a.eval x = .pointer (some ⟨g, 0, none⟩)) (t : TypeId) (cs : Array Value) (fr : Nat × Nat) (d : TypeDesc) (hg : w.heap[g]? = some (.cells cs t fr))
    (hu : P.underlying ty = some d) (hd : (match d with | .struct _ | .array _ _ => true | _ => false) = true) (hi : (P.info? ty).map (·.size) = some cs.size) :
    (execOp a.eval o).run P w = .ok (.value (.agg cs)) w := by
  unfold execOp
  simp only [ho, hx, Instr.loadAt, Instr.sureAddr, Sem.run_bind, Sem.run_pure, Result.andThen_ok, run_loadVar_row w g t ty cs fr d hg hu hd hi]
section
variable {P : Program} {ops : Array Oper} {Q : Exit → Act → World → Prop} {md : Region.Mode} {T S : World → Prop} {ds : List Nat}
theorem onetime_Tag.val_ {oi : Oper} {N : Option Tmp} {a : Act} {w w1 : World} {v : Value} {K : Act → World → Prop} (hw : Region.wanted oi (yielded ops a.tmps) = true) (hN : oi.dst = N) (hrun : (execOp a.eval oi).run P w = .ok (.value v) w1)
    (h : K (a.put N v) w1) : if Region.wanted oi (yielded ops a.tmps) = true then Oper.wp P oi a w K Q else K (a.put N undef) w := by
  rw [if_pos hw]
  unfold Oper.wp
  rw [hrun]
  subst hN
  exact h
def onetime_Tag.forkB (md : Region.Mode) (ops : Array Oper) (l li lj : Array Bool) (i j : Nat) : Bool := (Region.ready md ops l == [i, j]) && ((l.setIfInBounds i true == li) && (l.setIfInBounds j true == lj))
theorem onetime_Tag.fork {i j : Nat} {Ni Nj : Option Tmp} {oi oj : Oper} {fuel : Nat} {l : Array Bool} {a : Act} {w : World} (li lj : Array Bool) (hi : ops[i]? = some oi) (hj : ops[j]? = some oj) (hNi : oi.dst = Ni) (hNj : oj.dst = Nj) (hc : onetime_Tag.forkB md ops l li lj i j = true)
    (h1 : ∀ K : Act → World → Prop, Shut (∀ a' w', T w' → S w' → (T w' → S w' → tw P md ops Q T S ds fuel li a' w') → K a' w') → if Region.wanted oi (yielded ops a.tmps) = true then Oper.wp P oi a w K Q else K (a.put Ni undef) w)
    (h2 : ∀ K : Act → World → Prop, Shut (∀ a' w', T w' → S w' → (T w' → S w' → tw P md ops Q T S ds fuel lj a' w') → K a' w') → if Region.wanted oj (yielded ops a.tmps) = true then Oper.wp P oj a w K Q else K (a.put Nj undef) w) :
    tw P md ops Q T S ds (fuel + 1) l a w := by
  subst hNi hNj
  simp only [onetime_Tag.forkB, Bool.and_eq_true, beq_iff_eq] at hc
  obtain ⟨hr, hli, hlj⟩ := hc
  subst hli hlj
  refine ⟨fun h0 => (by rw [hr] at h0; cases h0), fun k hk => ?_⟩
  rw [hr] at hk
  rcases List.mem_cons.mp hk with rfl | hk
  · exact wpOp_step hi (fun K' hK => h1 K' (fun a w hT hS hW => hK a w ⟨⟨fun _ => hT, fun _ _ => hS⟩, hW hT hS⟩))
  · cases List.mem_singleton.mp hk
    exact wpOp_step hj (fun K' hK => h2 K' (fun a w hT hS hW => hK a w ⟨⟨fun _ => hT, fun _ _ => hS⟩, hW hT hS⟩))
end
def onetime_Tag.chunk (b : ByteArray) : ByteArray := ⟨((b.extract 0 (min b.size 16)).data.toList ++ (1 :: List.replicate (16 - min b.size 16) 0)).toArray⟩
def onetime_Tag.go (k : Nat) (y : List Int) : Nat → ByteArray → List Int → Option (List Int)
  | 0, _, _ => none
  | n + 1, b, s => if b.size = 0 then some s else (octet_Little.f k ((onetime_Tag.chunk b).extract 0 8)).bind fun l0 => (octet_Little.f k ((onetime_Tag.chunk b).extract 8 16)).bind fun l1 => onetime_Tag.go k y n (b.extract (min b.size 16) b.size) (onetime_number_times.f (onetime_number_plus.f s (onetime_split.f l0 l1 (IntKind.u64.wrap (bt (onetime_Tag.chunk b) 16)))) y)
def onetime_Tag.low (s : List Int) : Int := Go.bits .or .u64 (Go.bits .or .u64 (s.getD 0 0) (IntKind.u64.wrap (s.getD 1 0 * 67108864))) (IntKind.u64.wrap (s.getD 2 0 * 4503599627370496))
def onetime_Tag.high (s : List Int) : Int := Go.bits .or .u64 (Go.bits .or .u64 (s.getD 2 0 / 4096) (IntKind.u64.wrap (s.getD 3 0 * 16384))) (IntKind.u64.wrap (s.getD 4 0 * 1099511627776))
def onetime_Tag.word (x : Int) : Prop := 0 ≤ x ∧ x < 18446744073709551616
instance (x : Int) : Decidable (onetime_Tag.word x) := inferInstanceAs (Decidable (_ ∧ _))
def onetime_Tag.fin (k : Nat) (key : ByteArray) (s : List Int) : Option (ByteArray × Bool) :=
  (octet_Little.f k (key.extract 16 24)).bind fun m0 => (octet_Little.f k (key.extract 24 key.size)).bind fun m1 =>
    if onetime_Tag.word (onetime_Tag.low s) ∧ onetime_Tag.word m0 ∧ onetime_Tag.word (onetime_Tag.high s) ∧ onetime_Tag.word m1 then
      (octet_PutLittle.f k ((onetime_Tag.low s + m0) % 18446744073709551616) 8).bind fun p0 => (octet_PutLittle.f k ((onetime_Tag.high s + m1 + (onetime_Tag.low s + m0) / 18446744073709551616) % 18446744073709551616) 8).bind fun p1 => if p0.size = 8 ∧ p1.size = 8 then some (p0 ++ p1, true) else none
    else none
def onetime_Tag.f (k : Nat) (key b : ByteArray) : Option (ByteArray × Bool) :=
  (onetime_Clamp.f key).bind fun r => if r.2 = true then
    (if r.1.size = 16 ∧ key.size = 32 ∧ b.size ≤ 1000000 then (octet_Little.f k (r.1.extract 0 8)).bind fun l0 => (octet_Little.f k (r.1.extract 8 r.1.size)).bind fun l1 =>
      (onetime_Tag.go k (onetime_split.f l0 l1 0) k b (List.replicate 5 0)).bind fun s => onetime_Tag.fin k key (onetime_number_whole.f s) else none)
    else some ((⟨#[]⟩ : ByteArray), false)
theorem onetime_Tag.go_mono (k : Nat) (y : List Int) : ∀ n b s, LeO (onetime_Tag.go k y n b s) (onetime_Tag.go (k + 1) y (n + 1) b s)
  | 0, _, _ => fun r h => by cases h
  | n + 1, b, s => by
    rw [onetime_Tag.go, onetime_Tag.go]
    split
    · exact LeO.refl _
    · exact LeO.bind (octet_Little.mono _ k) (fun l0 => LeO.bind (octet_Little.mono _ k) (fun l1 => onetime_Tag.go_mono k y n _ _))
theorem onetime_Tag.fin_mono (k : Nat) (key : ByteArray) (s : List Int) : LeO (onetime_Tag.fin k key s) (onetime_Tag.fin (k + 1) key s) := by
  unfold onetime_Tag.fin
  refine LeO.bind (octet_Little.mono _ k) (fun m0 => LeO.bind (octet_Little.mono _ k) (fun m1 => ?_))
  split
  · exact LeO.bind (octet_PutLittle.mono _ _ k) (fun p0 => LeO.bind (octet_PutLittle.mono _ _ k) (fun p1 => LeO.refl _))
  · exact LeO.refl _
theorem onetime_Tag.mono : ∀ a0 a1 k, LeO (onetime_Tag.f k a0 a1) (onetime_Tag.f (k + 1) a0 a1) := by
  intro a0 a1 k
  unfold onetime_Tag.f
  refine LeO.bind (LeO.refl _) (fun r => ?_)
  split
  · split
    · exact LeO.bind (octet_Little.mono _ k) (fun l0 => LeO.bind (octet_Little.mono _ k) (fun l1 => LeO.bind (onetime_Tag.go_mono k _ k _ _) (fun s => onetime_Tag.fin_mono k _ _)))
    · exact LeO.refl _
  · exact LeO.refl _
theorem onetime_Tag.pl_len (x y : List Int) : ∀ n i, (onetime_number_plus.loop n i x y).length = x.length := by
  intro n
  induction n generalizing x with
  | zero => intro i; rfl
  | succ n ih => intro i; rw [onetime_number_plus.loop, ih, List.length_set]
theorem onetime_Tag.plus_len (x y : List Int) : (onetime_number_plus.f x y).length = x.length := onetime_Tag.pl_len x y 5 0
theorem onetime_Tag.times_len (x y : List Int) : (onetime_number_times.f x y).length = 5 := by rw [onetime_number_times.f, onetime_number_carry.f, onetime_number_carry.passes_len, onetime_number_times.outer_len]; rfl
theorem onetime_Tag.inner_len : ∀ (n i : Nat) (x : List Int) (c : Int), (onetime_number_carry.inner n i x c).1.length = x.length := onetime_number_carry.inner_len
theorem onetime_Tag.whole_len (x : List Int) : (onetime_number_whole.f x).length = x.length := by
  unfold onetime_number_whole.f
  split
  · rw [onetime_number_carry.inner_len, onetime_number_carry.f, onetime_number_carry.passes_len]
  · rw [onetime_number_carry.f, onetime_number_carry.passes_len]
theorem onetime_Tag.chunk_size (b : ByteArray) : (onetime_Tag.chunk b).size = 17 := by
  have hs : (b.extract 0 (min b.size 16)).data.toList.length = min b.size 16 := by rw [← Lib.size_eq, ByteArray.size_extract]; omega
  unfold onetime_Tag.chunk
  rw [Lib.size_eq]
  show (_ ++ _ : List UInt8).length = 17
  rw [List.length_append, List.length_cons, List.length_replicate, hs]
  omega
theorem onetime_Tag.row_eq (b : ByteArray) (m : Nat) (hm : min b.size 16 = m) :
    (((Array.replicate 17 (Value.int .u8 0)).toList.take 0 ++ Lib.byteCells (b.extract 0 m).data.toList ++ (Array.replicate 17 (Value.int .u8 0)).toList.drop (0 + (b.extract 0 m).size)).toArray).setIfInBounds m (.int .u8 1) = (Lib.byteCells (onetime_Tag.chunk b).data.toList).toArray := by
  have hs : (b.extract 0 m).size = m := by rw [ByteArray.size_extract]; omega
  have hl : (Lib.byteCells (b.extract 0 m).data.toList).length = m := by rw [Lib.byteCells_length, ← Lib.size_eq, hs]
  have hd : (Array.replicate 17 (Value.int .u8 0)).toList.drop m = Value.int .u8 0 :: List.replicate (16 - m) (Value.int .u8 0) := by
    rw [Array.toList_replicate, List.drop_replicate, show 17 - m = (16 - m) + 1 by omega]; rfl
  rw [hs, List.take_zero, List.nil_append, Nat.zero_add, hd, List.setIfInBounds_toArray]
  congr 1
  rw [List.set_append_right m _ (by omega), hl, Nat.sub_self]
  unfold onetime_Tag.chunk
  rw [hm, List.set_cons_zero]
  have h1 : ∀ A B : List UInt8, Lib.byteCells (A ++ B) = Lib.byteCells A ++ Lib.byteCells B := fun A B => List.map_append
  have h2 : ∀ n, Lib.byteCells (1 :: List.replicate n 0) = Value.int .u8 1 :: List.replicate n (Value.int .u8 0) := fun n => by
    unfold Lib.byteCells
    rw [List.map_cons, List.map_replicate]
    rfl
  show _ = Lib.byteCells (_ ++ _)
  rw [h1, h2]
theorem onetime_Tag.bytes_row {w : World} {g : Nat} {t : TypeId} {s : ByteArray} (h : w.heap[g]? = some (.cells (Lib.byteCells s.data.toList).toArray t (0, 0))) : Lib.Bytes w g 0 s := by
  intro i hi
  rw [Nat.zero_add, blk_cell h]
  have hl : i < s.data.toList.length := by rw [← Lib.size_eq]; exact hi
  rw [List.getElem?_toArray]
  unfold Lib.byteCells
  rw [List.getElem?_map, List.getElem?_eq_getElem hl]
  rfl
theorem onetime_Tag.made {ops : Array Oper} {rest : List Oper} {o : Oper} {a : Act} {W : World} {Q : Exit → Act → World → Prop} (hgd : o.guard = none) {N : Tmp} (hd : o.dst = some N) (x y : Operand) (ho : o.op = .makeSlice 30 x y) (hx : a.eval x = .int .i64 17) (hy : a.eval y = .int .i64 17)
    (h : ∀ g, g = W.heap.size → ∀ w1, w1.heap[g]? = some (.cells (Array.replicate 17 (.int .u8 0)) 5 (0, 0)) → Below W.heap.size W w1 → wpList Try.prog ops Q rest (a.put o.dst (.slice (some ⟨g, 0, none⟩) 17 17)) w1) : wpList Try.prog ops Q (o :: rest) a W := by
  obtain ⟨i0, hi, hzz⟩ := Option.map_eq_some_iff.1 info5
  simp only [Prod.mk.injEq] at hzz
  obtain ⟨hz0, hz1, hz2⟩ := hzz
  have hr := run_make (P := Try.prog) W 30 5 i0 (.int .u8 0) Try.underlying30 hi hz0 .i64 .i64 17 17 (by decide) (by decide) (by rw [hz2]; decide) (by decide)
  rw [hz1, show madeCells (Value.int .u8 0).cells ((17 : Int).toNat * 1) = Array.replicate 17 (.int .u8 0) by kernel_rfl] at hr
  exact Kd.event_run hgd (by simp [execOp, ho, hx, hy, hr]) (h _ rfl _ (blk_new W _) (below_alloc (Below.refl _ _) _))
theorem onetime_Tag.put_none (a : Act) (v : Value) : a.put none v = a := rfl
def onetime_Tag.sz (v : Value) : Nat := match v with | .string s => s.size | _ => 0
set_option maxHeartbeats 4000000 in
set_option maxRecDepth 100000 in
theorem onetime_Tag.calls (k : Nat) (a0 a1 : ByteArray) (r1 : ByteArray) (r2 : Bool) (w : World) (h : onetime_Tag.f k a0 a1 = some (r1, r2)) :
    Calls Try.prog 11 #[.string a0, .string a1] w fun e w' => e = .returned (.tuple #[.string r1, .bool r2]) ∧ Below w.heap.size w w' := by
  unfold onetime_Tag.f at h
  obtain ⟨⟨r, is⟩, hcl, h⟩ := Option.bind_eq_some_iff.mp h
  have HC := Lib.hid hcl
  clear hcl
  cases is
  case false =>
    simp only [Bool.false_eq_true, if_false, Option.some.injEq, Prod.mk.injEq] at h
    obtain ⟨rfl, rfl⟩ := h
    go_enter Try.func11, Try.ntmps11
    go_wp2_with fail
    refine (onetime_Clamp.calls a0 r false _ HC.out).mono ?_
    rintro e_ w1 ⟨rfl, hb1⟩
    go_wp2_with fail
    go_ret2
    exact ⟨rfl, hb1⟩
  case true =>
  rw [if_pos rfl] at h
  split at h
  case isFalse => cases h
  case isTrue hs =>
  obtain ⟨hr16, ha32, hb1⟩ := hs
  simp only at hr16
  simp only [hr16] at h
  obtain ⟨l0, hl0, h⟩ := Option.bind_eq_some_iff.mp h
  obtain ⟨l1, hl1, h⟩ := Option.bind_eq_some_iff.mp h
  obtain ⟨sf, hgo, h⟩ := Option.bind_eq_some_iff.mp h
  obtain ⟨y, hy⟩ : ∃ y, onetime_split.f l0 l1 0 = y := ⟨_, rfl⟩
  rw [hy] at hgo
  have HL0 := Lib.hid hl0
  have HL1 := Lib.hid hl1
  have HGO := Lib.hid hgo
  have HY := Lib.hid hy
  have HYL := Aside0.mk (show y.length = 5 by rw [← hy]; rfl)
  have HF := Lib.hid h
  clear hl0 hl1 hgo hy h
  go_enter Try.func11, Try.ntmps11
  go_wp2_with fail
  refine (onetime_Clamp.calls a0 r true _ HC.out).mono ?_
  rintro e_ w1 ⟨rfl, hb⟩
  have HB1 := Aside0.mk hb
  clear hb
  go_upto_region 4 with fail
  go_cut [8] from 24 to 30 (fun v8 wx => ∃ g, v8 = .pointer (some ⟨g, 0, none⟩) ∧ w.heap.size ≤ g ∧ wx.heap[g]? = some (.cells (onetime_split.cells y) 37 (0, 0)) ∧ Below w.heap.size w wx)
  case first =>
    have EI := Aside0.mk (onetime_split.info _ HYL.out)
    have EC := Aside0.mk (onetime_split.cells_one y)
    have EH := Aside0.mk (show (onetime_split.cells (List.replicate 5 0)).size = (onetime_split.cells y).size by rw [onetime_split.cells_size, onetime_split.cells_size, HYL.out]; rfl)
    have HB2 := Aside0.mk (below_drew1 HB1.out)
    refine tw_start (n := 9) (T := fun _ => True) (S := fun _ => True) (ds := []) #[false, false, false, false, false, false, false, false, false] (by kernel_rfl) rfl rfl trivial trivial (fun hHT hHS => ?_)
    generalize w1.drew = w2 at *
    refine tw_pure (i := 0) (N := some 24) (v := ?_) (a' := ?_) #[true, false, false, false, false, false, false, false, false] rfl rfl (by kernel_rfl) (fun _ _ _ h => h) (Or.inl ⟨by rfl, ?_⟩) ?_ ?_
    rotate_left
    · intro w'
      go_simp
      with_reducible rfl
    rotate_left
    · simp only [Act.put, List.setIfInBounds_toArray, List.set_cons_zero, List.set_cons_succ, i64_w, i32_w, IntKind.wrap_u32]
      rfl
    refine tw_pure (i := 1) (N := some 25) (v := ?_) (a' := ?_) #[true, true, false, false, false, false, false, false, false] rfl rfl (by kernel_rfl) (fun _ _ _ h => h) (Or.inl ⟨by rfl, ?_⟩) ?_ ?_
    rotate_left
    · intro w'
      go_simp
      with_reducible rfl
    rotate_left
    · simp only [Act.put, List.setIfInBounds_toArray, List.set_cons_zero, List.set_cons_succ, i64_w, i32_w, IntKind.wrap_u32]
      rfl
    refine tw_pure (i := 3) (N := some 27) (v := ?_) (a' := ?_) #[true, true, false, true, false, false, false, false, false] rfl rfl (by kernel_rfl) (fun _ _ _ h => h) (Or.inl ⟨by rfl, ?_⟩) ?_ ?_
    rotate_left
    · intro w'
      go_simp
      with_reducible rfl
    rotate_left
    · simp only [Act.put, List.setIfInBounds_toArray, List.set_cons_zero, List.set_cons_succ, i64_w, i32_w, IntKind.wrap_u32]
      rfl
    refine tw_pure (i := 4) (N := some 28) (v := ?_) (a' := ?_) #[true, true, false, true, true, false, false, false, false] rfl rfl (by kernel_rfl) (fun _ _ _ h => h) (Or.inl ⟨by rfl, ?_⟩) ?_ ?_
    rotate_left
    · intro w'
      go_simp
      with_reducible rfl
    rotate_left
    · simp only [Act.put, List.setIfInBounds_toArray, List.set_cons_zero, List.set_cons_succ, i64_w, i32_w, IntKind.wrap_u32]
      rfl
    refine onetime_Tag.fork (i := 2) (j := 7) (Ni := some 26) (Nj := some 8) #[true, true, true, true, true, false, false, false, false] #[true, true, false, true, true, false, false, true, false] rfl rfl rfl rfl (by kernel_rfl) (fun K hK => ?_) (fun K hK => ?_)
    · refine goes_ Try.func19 (by kernel_rfl) rfl #[.string (r.extract 0 8)] (by rfl) rfl rfl (by (try simp only [List.map_toArray, List.map_cons, List.map_nil]); first | done | rfl) ?_
      with_reducible refine (octet_Little.calls k _ l0 _ HL0.out).mono ?_
      rintro e_ w_ ⟨rfl, hb_⟩
      refine ⟨_, rfl, ?_⟩
      have hB_ := Aside0.mk (below_step HB2.out hb_)
      clear HB2
      have HB2 := hB_
      clear hB_
      clear hb_
      clear hHT hHS
      refine hK.out _ _ trivial trivial (fun hHT hHS => ?_)
      clear hK K
      refine tw_norm (a' := ?_) ?_ ?_
      rotate_left
      · show Act.put _ (some 26) _ = _
        simp only [Act.put, List.setIfInBounds_toArray, List.set_cons_zero, List.set_cons_succ, i64_w, i32_w, IntKind.wrap_u32]
        rfl
      generalize w_ = w2 at *
      refine onetime_Tag.fork (i := 5) (j := 7) (Ni := some 29) (Nj := some 8) #[true, true, true, true, true, true, false, false, false] #[true, true, true, true, true, false, false, true, false] rfl rfl rfl rfl (by kernel_rfl) (fun K hK => ?_) (fun K hK => ?_)
      · refine goes_ Try.func19 (by kernel_rfl) rfl #[.string (r.extract 8 16)] (by rfl) rfl rfl (by (try simp only [List.map_toArray, List.map_cons, List.map_nil]); first | done | rfl) ?_
        with_reducible refine (octet_Little.calls k _ l1 _ HL1.out).mono ?_
        rintro e_ w_ ⟨rfl, hb_⟩
        refine ⟨_, rfl, ?_⟩
        have hB_ := Aside0.mk (below_step HB2.out hb_)
        clear HB2
        have HB2 := hB_
        clear hB_
        clear hb_
        clear hHT hHS
        refine hK.out _ _ trivial trivial (fun hHT hHS => ?_)
        clear hK K
        refine tw_norm (a' := ?_) ?_ ?_
        rotate_left
        · show Act.put _ (some 29) _ = _
          simp only [Act.put, List.setIfInBounds_toArray, List.set_cons_zero, List.set_cons_succ, i64_w, i32_w, IntKind.wrap_u32]
          rfl
        generalize w_ = w2 at *
        refine onetime_Tag.fork (i := 6) (j := 7) (Ni := some 30) (Nj := some 8) #[true, true, true, true, true, true, true, false, false] #[true, true, true, true, true, true, false, true, false] rfl rfl rfl rfl (by kernel_rfl) (fun K hK => ?_) (fun K hK => ?_)
        · refine goes_ Try.func18 (by kernel_rfl) rfl #[.int .u64 l0, .int .u64 l1, .int .u64 0] (by rfl) rfl rfl (by (try simp only [List.map_toArray, List.map_cons, List.map_nil]); first | done | rfl) ?_
          with_reducible refine (onetime_split.calls l0 l1 0 _).mono ?_
          rintro e_ w_ ⟨rfl, hb_⟩
          rw [HY.out]
          refine ⟨_, rfl, ?_⟩
          have hB_ := Aside0.mk (below_step HB2.out hb_)
          clear HB2
          have HB2 := hB_
          clear hB_
          clear hb_
          clear hHT hHS
          refine hK.out _ _ trivial trivial (fun hHT hHS => ?_)
          clear hK K
          refine tw_norm (a' := ?_) ?_ ?_
          rotate_left
          · show Act.put _ (some 30) _ = _
            simp only [Act.put, List.setIfInBounds_toArray, List.set_cons_zero, List.set_cons_succ, i64_w, i32_w, IntKind.wrap_u32]
            rfl
          generalize w_ = w2 at *
          refine tw_one (i := 7) (N := some 8) #[true, true, true, true, true, true, true, true, false] rfl rfl (by kernel_rfl) (fun K hK => ?_)
          refine onetime_Tag.val_ (v := .pointer (some ⟨w2.heap.size, 0, none⟩)) (w1 := w2.alloc (.cells (onetime_split.cells (List.replicate 5 0)) 37)) (by rfl) rfl (by first | (go_simp; done) | (go_simp; rfl)) ?_
          have LG := Aside0.mk (show w.heap.size ≤ w2.heap.size from HB2.out.size)
          have BK := Aside0.mk (blk_new w2 (.cells (onetime_split.cells (List.replicate 5 0)) 37))
          have hB_ := Aside0.mk (below_alloc HB2.out (.cells (onetime_split.cells (List.replicate 5 0)) 37))
          clear HB2
          have HB2 := hB_
          clear hB_
          generalize w2.alloc (.cells (onetime_split.cells (List.replicate 5 0)) 37) = w3 at *
          generalize w2.heap.size = g at *
          clear hHT hHS
          refine hK.out _ _ trivial trivial (fun hHT hHS => ?_)
          clear hK K
          refine tw_norm (a' := ?_) ?_ ?_
          rotate_left
          · show Act.put _ (some 8) _ = _
            simp only [Act.put, List.setIfInBounds_toArray, List.set_cons_zero, List.set_cons_succ, i64_w, i32_w, IntKind.wrap_u32]
            rfl
          generalize w3 = w2 at *
          refine tw_one (i := 8) (N := none) #[true, true, true, true, true, true, true, true, true] rfl rfl (by kernel_rfl) (fun K hK => ?_)
          rw [if_pos (by rfl)]
          refine wp_store_row 37 _ _ rfl g (onetime_split.cells y) rfl rfl 37 _ BK.out EI.out EH.out EC.out ?_
          clear hHT hHS
          refine hK.out _ _ trivial trivial (fun hHT hHS => ?_)
          clear hK K
          refine tw_norm (a' := ?_) ?_ ?_
          rotate_left
          · exact onetime_Tag.put_none _ _
          refine tw_done (by kernel_rfl) ?_
          go_wp2_with fail
          go_meet
          case rel => exact ⟨g, rfl, LG.out, setRow_heap _ _ _ _ _ _ BK.out, onetime_split.bsr HB2.out LG.out _⟩
        · refine onetime_Tag.val_ (v := .pointer (some ⟨w2.heap.size, 0, none⟩)) (w1 := w2.alloc (.cells (onetime_split.cells (List.replicate 5 0)) 37)) (by rfl) rfl (by first | (go_simp; done) | (go_simp; rfl)) ?_
          have LG := Aside0.mk (show w.heap.size ≤ w2.heap.size from HB2.out.size)
          have BK := Aside0.mk (blk_new w2 (.cells (onetime_split.cells (List.replicate 5 0)) 37))
          have hB_ := Aside0.mk (below_alloc HB2.out (.cells (onetime_split.cells (List.replicate 5 0)) 37))
          clear HB2
          have HB2 := hB_
          clear hB_
          generalize w2.alloc (.cells (onetime_split.cells (List.replicate 5 0)) 37) = w3 at *
          generalize w2.heap.size = g at *
          clear hHT hHS
          refine hK.out _ _ trivial trivial (fun hHT hHS => ?_)
          clear hK K
          refine tw_norm (a' := ?_) ?_ ?_
          rotate_left
          · show Act.put _ (some 8) _ = _
            simp only [Act.put, List.setIfInBounds_toArray, List.set_cons_zero, List.set_cons_succ, i64_w, i32_w, IntKind.wrap_u32]
            rfl
          generalize w3 = w2 at *
          refine tw_one (i := 6) (N := some 30) #[true, true, true, true, true, true, true, true, false] rfl rfl (by kernel_rfl) (fun K hK => ?_)
          refine goes_ Try.func18 (by kernel_rfl) rfl #[.int .u64 l0, .int .u64 l1, .int .u64 0] (by rfl) rfl rfl (by (try simp only [List.map_toArray, List.map_cons, List.map_nil]); first | done | rfl) ?_
          with_reducible refine (onetime_split.calls l0 l1 0 _).mono ?_
          rintro e_ w_ ⟨rfl, hb_⟩
          rw [HY.out]
          refine ⟨_, rfl, ?_⟩
          have hB_ := Aside0.mk (below_step HB2.out hb_)
          clear HB2
          have HB2 := hB_
          clear hB_
          have hC_ := Aside0.mk (blk_below BK.out hb_)
          clear BK
          have BK := hC_
          clear hC_
          clear hb_
          clear hHT hHS
          refine hK.out _ _ trivial trivial (fun hHT hHS => ?_)
          clear hK K
          refine tw_norm (a' := ?_) ?_ ?_
          rotate_left
          · show Act.put _ (some 30) _ = _
            simp only [Act.put, List.setIfInBounds_toArray, List.set_cons_zero, List.set_cons_succ, i64_w, i32_w, IntKind.wrap_u32]
            rfl
          generalize w_ = w2 at *
          refine tw_one (i := 8) (N := none) #[true, true, true, true, true, true, true, true, true] rfl rfl (by kernel_rfl) (fun K hK => ?_)
          rw [if_pos (by rfl)]
          refine wp_store_row 37 _ _ rfl g (onetime_split.cells y) rfl rfl 37 _ BK.out EI.out EH.out EC.out ?_
          clear hHT hHS
          refine hK.out _ _ trivial trivial (fun hHT hHS => ?_)
          clear hK K
          refine tw_norm (a' := ?_) ?_ ?_
          rotate_left
          · exact onetime_Tag.put_none _ _
          refine tw_done (by kernel_rfl) ?_
          go_wp2_with fail
          go_meet
          case rel => exact ⟨g, rfl, LG.out, setRow_heap _ _ _ _ _ _ BK.out, onetime_split.bsr HB2.out LG.out _⟩
      · refine onetime_Tag.val_ (v := .pointer (some ⟨w2.heap.size, 0, none⟩)) (w1 := w2.alloc (.cells (onetime_split.cells (List.replicate 5 0)) 37)) (by rfl) rfl (by first | (go_simp; done) | (go_simp; rfl)) ?_
        have LG := Aside0.mk (show w.heap.size ≤ w2.heap.size from HB2.out.size)
        have BK := Aside0.mk (blk_new w2 (.cells (onetime_split.cells (List.replicate 5 0)) 37))
        have hB_ := Aside0.mk (below_alloc HB2.out (.cells (onetime_split.cells (List.replicate 5 0)) 37))
        clear HB2
        have HB2 := hB_
        clear hB_
        generalize w2.alloc (.cells (onetime_split.cells (List.replicate 5 0)) 37) = w3 at *
        generalize w2.heap.size = g at *
        clear hHT hHS
        refine hK.out _ _ trivial trivial (fun hHT hHS => ?_)
        clear hK K
        refine tw_norm (a' := ?_) ?_ ?_
        rotate_left
        · show Act.put _ (some 8) _ = _
          simp only [Act.put, List.setIfInBounds_toArray, List.set_cons_zero, List.set_cons_succ, i64_w, i32_w, IntKind.wrap_u32]
          rfl
        generalize w3 = w2 at *
        refine tw_one (i := 5) (N := some 29) #[true, true, true, true, true, true, false, true, false] rfl rfl (by kernel_rfl) (fun K hK => ?_)
        refine goes_ Try.func19 (by kernel_rfl) rfl #[.string (r.extract 8 16)] (by rfl) rfl rfl (by (try simp only [List.map_toArray, List.map_cons, List.map_nil]); first | done | rfl) ?_
        with_reducible refine (octet_Little.calls k _ l1 _ HL1.out).mono ?_
        rintro e_ w_ ⟨rfl, hb_⟩
        refine ⟨_, rfl, ?_⟩
        have hB_ := Aside0.mk (below_step HB2.out hb_)
        clear HB2
        have HB2 := hB_
        clear hB_
        have hC_ := Aside0.mk (blk_below BK.out hb_)
        clear BK
        have BK := hC_
        clear hC_
        clear hb_
        clear hHT hHS
        refine hK.out _ _ trivial trivial (fun hHT hHS => ?_)
        clear hK K
        refine tw_norm (a' := ?_) ?_ ?_
        rotate_left
        · show Act.put _ (some 29) _ = _
          simp only [Act.put, List.setIfInBounds_toArray, List.set_cons_zero, List.set_cons_succ, i64_w, i32_w, IntKind.wrap_u32]
          rfl
        generalize w_ = w2 at *
        refine tw_one (i := 6) (N := some 30) #[true, true, true, true, true, true, true, true, false] rfl rfl (by kernel_rfl) (fun K hK => ?_)
        refine goes_ Try.func18 (by kernel_rfl) rfl #[.int .u64 l0, .int .u64 l1, .int .u64 0] (by rfl) rfl rfl (by (try simp only [List.map_toArray, List.map_cons, List.map_nil]); first | done | rfl) ?_
        with_reducible refine (onetime_split.calls l0 l1 0 _).mono ?_
        rintro e_ w_ ⟨rfl, hb_⟩
        rw [HY.out]
        refine ⟨_, rfl, ?_⟩
        have hB_ := Aside0.mk (below_step HB2.out hb_)
        clear HB2
        have HB2 := hB_
        clear hB_
        have hC_ := Aside0.mk (blk_below BK.out hb_)
        clear BK
        have BK := hC_
        clear hC_
        clear hb_
        clear hHT hHS
        refine hK.out _ _ trivial trivial (fun hHT hHS => ?_)
        clear hK K
        refine tw_norm (a' := ?_) ?_ ?_
        rotate_left
        · show Act.put _ (some 30) _ = _
          simp only [Act.put, List.setIfInBounds_toArray, List.set_cons_zero, List.set_cons_succ, i64_w, i32_w, IntKind.wrap_u32]
          rfl
        generalize w_ = w2 at *
        refine tw_one (i := 8) (N := none) #[true, true, true, true, true, true, true, true, true] rfl rfl (by kernel_rfl) (fun K hK => ?_)
        rw [if_pos (by rfl)]
        refine wp_store_row 37 _ _ rfl g (onetime_split.cells y) rfl rfl 37 _ BK.out EI.out EH.out EC.out ?_
        clear hHT hHS
        refine hK.out _ _ trivial trivial (fun hHT hHS => ?_)
        clear hK K
        refine tw_norm (a' := ?_) ?_ ?_
        rotate_left
        · exact onetime_Tag.put_none _ _
        refine tw_done (by kernel_rfl) ?_
        go_wp2_with fail
        go_meet
        case rel => exact ⟨g, rfl, LG.out, setRow_heap _ _ _ _ _ _ BK.out, onetime_split.bsr HB2.out LG.out _⟩
    · refine onetime_Tag.val_ (v := .pointer (some ⟨w2.heap.size, 0, none⟩)) (w1 := w2.alloc (.cells (onetime_split.cells (List.replicate 5 0)) 37)) (by rfl) rfl (by first | (go_simp; done) | (go_simp; rfl)) ?_
      have LG := Aside0.mk (show w.heap.size ≤ w2.heap.size from HB2.out.size)
      have BK := Aside0.mk (blk_new w2 (.cells (onetime_split.cells (List.replicate 5 0)) 37))
      have hB_ := Aside0.mk (below_alloc HB2.out (.cells (onetime_split.cells (List.replicate 5 0)) 37))
      clear HB2
      have HB2 := hB_
      clear hB_
      generalize w2.alloc (.cells (onetime_split.cells (List.replicate 5 0)) 37) = w3 at *
      generalize w2.heap.size = g at *
      clear hHT hHS
      refine hK.out _ _ trivial trivial (fun hHT hHS => ?_)
      clear hK K
      refine tw_norm (a' := ?_) ?_ ?_
      rotate_left
      · show Act.put _ (some 8) _ = _
        simp only [Act.put, List.setIfInBounds_toArray, List.set_cons_zero, List.set_cons_succ, i64_w, i32_w, IntKind.wrap_u32]
        rfl
      generalize w3 = w2 at *
      refine tw_one (i := 2) (N := some 26) #[true, true, true, true, true, false, false, true, false] rfl rfl (by kernel_rfl) (fun K hK => ?_)
      refine goes_ Try.func19 (by kernel_rfl) rfl #[.string (r.extract 0 8)] (by rfl) rfl rfl (by (try simp only [List.map_toArray, List.map_cons, List.map_nil]); first | done | rfl) ?_
      with_reducible refine (octet_Little.calls k _ l0 _ HL0.out).mono ?_
      rintro e_ w_ ⟨rfl, hb_⟩
      refine ⟨_, rfl, ?_⟩
      have hB_ := Aside0.mk (below_step HB2.out hb_)
      clear HB2
      have HB2 := hB_
      clear hB_
      have hC_ := Aside0.mk (blk_below BK.out hb_)
      clear BK
      have BK := hC_
      clear hC_
      clear hb_
      clear hHT hHS
      refine hK.out _ _ trivial trivial (fun hHT hHS => ?_)
      clear hK K
      refine tw_norm (a' := ?_) ?_ ?_
      rotate_left
      · show Act.put _ (some 26) _ = _
        simp only [Act.put, List.setIfInBounds_toArray, List.set_cons_zero, List.set_cons_succ, i64_w, i32_w, IntKind.wrap_u32]
        rfl
      generalize w_ = w2 at *
      refine tw_one (i := 5) (N := some 29) #[true, true, true, true, true, true, false, true, false] rfl rfl (by kernel_rfl) (fun K hK => ?_)
      refine goes_ Try.func19 (by kernel_rfl) rfl #[.string (r.extract 8 16)] (by rfl) rfl rfl (by (try simp only [List.map_toArray, List.map_cons, List.map_nil]); first | done | rfl) ?_
      with_reducible refine (octet_Little.calls k _ l1 _ HL1.out).mono ?_
      rintro e_ w_ ⟨rfl, hb_⟩
      refine ⟨_, rfl, ?_⟩
      have hB_ := Aside0.mk (below_step HB2.out hb_)
      clear HB2
      have HB2 := hB_
      clear hB_
      have hC_ := Aside0.mk (blk_below BK.out hb_)
      clear BK
      have BK := hC_
      clear hC_
      clear hb_
      clear hHT hHS
      refine hK.out _ _ trivial trivial (fun hHT hHS => ?_)
      clear hK K
      refine tw_norm (a' := ?_) ?_ ?_
      rotate_left
      · show Act.put _ (some 29) _ = _
        simp only [Act.put, List.setIfInBounds_toArray, List.set_cons_zero, List.set_cons_succ, i64_w, i32_w, IntKind.wrap_u32]
        rfl
      generalize w_ = w2 at *
      refine tw_one (i := 6) (N := some 30) #[true, true, true, true, true, true, true, true, false] rfl rfl (by kernel_rfl) (fun K hK => ?_)
      refine goes_ Try.func18 (by kernel_rfl) rfl #[.int .u64 l0, .int .u64 l1, .int .u64 0] (by rfl) rfl rfl (by (try simp only [List.map_toArray, List.map_cons, List.map_nil]); first | done | rfl) ?_
      with_reducible refine (onetime_split.calls l0 l1 0 _).mono ?_
      rintro e_ w_ ⟨rfl, hb_⟩
      rw [HY.out]
      refine ⟨_, rfl, ?_⟩
      have hB_ := Aside0.mk (below_step HB2.out hb_)
      clear HB2
      have HB2 := hB_
      clear hB_
      have hC_ := Aside0.mk (blk_below BK.out hb_)
      clear BK
      have BK := hC_
      clear hC_
      clear hb_
      clear hHT hHS
      refine hK.out _ _ trivial trivial (fun hHT hHS => ?_)
      clear hK K
      refine tw_norm (a' := ?_) ?_ ?_
      rotate_left
      · show Act.put _ (some 30) _ = _
        simp only [Act.put, List.setIfInBounds_toArray, List.set_cons_zero, List.set_cons_succ, i64_w, i32_w, IntKind.wrap_u32]
        rfl
      generalize w_ = w2 at *
      refine tw_one (i := 8) (N := none) #[true, true, true, true, true, true, true, true, true] rfl rfl (by kernel_rfl) (fun K hK => ?_)
      rw [if_pos (by rfl)]
      refine wp_store_row 37 _ _ rfl g (onetime_split.cells y) rfl rfl 37 _ BK.out EI.out EH.out EC.out ?_
      clear hHT hHS
      refine hK.out _ _ trivial trivial (fun hHT hHS => ?_)
      clear hK K
      refine tw_norm (a' := ?_) ?_ ?_
      rotate_left
      · exact onetime_Tag.put_none _ _
      refine tw_done (by kernel_rfl) ?_
      go_wp2_with fail
      go_meet
      case rel => exact ⟨g, rfl, LG.out, setRow_heap _ _ _ _ _ _ BK.out, onetime_split.bsr HB2.out LG.out _⟩
  case rest =>
    obtain ⟨g8, rfl, l8, b8, hbc⟩ := hcut
    have L8 := Aside0.mk l8
    have BK8 := Aside0.mk b8
    have HBc := Aside0.mk hbc
    clear l8 b8 hbc HB1
    go_wp2_with (((with_reducible refine gate_dst (N := 9) rfl ?_); refine box_event ?hg (N := 9) ?hd (cs := onetime_split.cells (List.replicate 5 0)) (t := 37) ?hr ?_; (case hd => rfl); (case hg => rfl); (case hr => first | (go_simp; done) | (go_simp; rfl)); intro g9 hg9 w3 hbox hbx; have BK9 := Aside0.mk hbox; have HB3 := Aside0.mk hbx; have HG9 := Aside0.mk hg9; clear hbox hbx hg9))
    have L9 := Aside0.mk (show g8 < g9 by rw [HG9.out]; exact blk_lt BK8.out)
    have BK8b := Aside0.mk (blk_below BK8.out HB3.out)
    have HBb := Aside0.mk (below_step HBc.out HB3.out)
    clear BK8 HBc HB3 HG9
    simp only [Act.put, List.setIfInBounds_toArray, List.set_cons_zero, List.set_cons_succ]
    go_loopw [1] (fun v1 wr => ∃ (n : Nat) (b : ByteArray) (s : List Int), v1 = .string b ∧ b.size ≤ 1000000 ∧ Aside0 (onetime_Tag.go k y n b s = some sf) ∧ Aside0 (s.length = 5) ∧ Aside0 (wr.heap[g8]? = some (.cells (onetime_split.cells y) 37 (0, 0))) ∧ Aside0 (wr.heap[g9]? = some (.cells (onetime_split.cells s) 37 (0, 0))) ∧ Aside0 (Below w.heap.size w wr)) (fun v1 _ => onetime_Tag.sz v1)
    case atStart => exact ⟨k, a1, List.replicate 5 0, rfl, hb1, ⟨HGO.out⟩, ⟨rfl⟩, BK8b, BK9, HBb⟩
    case round =>
      clear BK8b BK9 HBb HGO HC HL0 HL1 HY
      obtain ⟨n, b, s, rfl, hbs, HG, HS, BK8, BK9, HB⟩ := hrel
      by_cases hb0 : 0 < b.size
      · have hg := HG.out
        obtain ⟨n', rfl⟩ : ∃ n', n = n' + 1 := by cases n with | zero => cases hg | succ n' => exact ⟨n', rfl⟩
        rw [onetime_Tag.go, if_neg (by omega)] at hg
        obtain ⟨u0, hu0, hg⟩ := Option.bind_eq_some_iff.mp hg
        obtain ⟨u1, hu1, hg⟩ := Option.bind_eq_some_iff.mp hg
        obtain ⟨m, hm⟩ : ∃ m, min b.size 16 = m := ⟨_, rfl⟩
        obtain ⟨ch, hch⟩ : ∃ c, onetime_Tag.chunk b = c := ⟨_, rfl⟩
        have hcs : ch.size = 17 := by rw [← hch, onetime_Tag.chunk_size]
        have HROW := Lib.hid (onetime_Tag.row_eq b m hm)
        rw [hm] at hg
        rw [hch] at hg hu0 hu1
        obtain ⟨cb, hcb⟩ : ∃ c : Nat, (ch[16]'(by omega)).toNat = c := ⟨_, rfl⟩
        have hcb2 : (ch.data[16]'(by show 16 < ch.size; omega)).toNat = cb := hcb
        have hbt : bt ch 16 = (cb : Int) := by
          have h1 := bt_at ch 16 (by simp [hcs])
          rw [← h1, ← hcb]
          rfl
        rw [hbt] at hg
        clear hbt
        obtain ⟨p, hp⟩ : ∃ p, onetime_split.f u0 u1 (IntKind.u64.wrap (cb : Int)) = p := ⟨_, rfl⟩
        obtain ⟨q, hq⟩ : ∃ q, onetime_number_plus.f s p = q := ⟨_, rfl⟩
        obtain ⟨z, hz⟩ : ∃ z, onetime_number_times.f q y = z := ⟨_, rfl⟩
        have HPL := Aside0.mk (show p.length = 5 by rw [← hp]; rfl)
        have HQL := Aside0.mk (show q.length = 5 by rw [← hq, onetime_Tag.plus_len]; exact HS.out)
        have HZL := Aside0.mk (show z.length = 5 by rw [← hz, onetime_Tag.times_len])
        rw [hp, hq, hz] at hg
        rw [hch] at HROW
        have hmn : (if (16 : Int) < (b.size : Int) then (16 : Int) else (b.size : Int)) = (m : Int) := by split <;> omega
        have hmn2 : (if 16 < b.size then (16 : Int) else (b.size : Int)) = (m : Int) := by split <;> omega
        have hm1 : m ≤ b.size := by omega
        have hm0 : 0 < m := by omega
        have hm16 : m ≤ 16 := by omega
        have hme : (b.extract 0 m).size = m := by rw [ByteArray.size_extract]; omega
        have im := eq_true (show (m : Int) ≤ (b.size : Int) by omega)
        have im2 := eq_true (show (m : Int) < 17 by omega)
        have HU0 := Lib.hid hu0
        have HU1 := Lib.hid hu1
        have HG2 := Lib.hid hg
        have HP := Lib.hid hp
        have HQ := Lib.hid hq
        have HZ := Lib.hid hz
        have HME := Lib.hid hme
        clear hm hu0 hu1 hg hp hq hz hch HG hme
        go_wp2_with (((with_reducible refine gate_dst (N := 37) rfl ?_); refine onetime_Tag.made ?hg (N := 37) ?hd _ _ rfl rfl rfl ?_; (case hd => rfl); (case hg => rfl); intro g hg w4 hbox hbx; have BK := Aside0.mk hbox; have HB4 := Aside0.mk hbx; have HGg := Aside0.mk hg; clear hbox hbx hg))
        have LG := Aside0.mk (show w.heap.size ≤ g by rw [HGg.out]; exact HB.out.size)
        have LG9 := Aside0.mk (show g9 < g by rw [HGg.out]; exact blk_lt BK9.out)
        have hcp := Lib.run_copy_row_string (P := Try.prog) w4 30 9 3 5 g 0 17 17 (b.extract 0 m) (Array.replicate 17 (.int .u8 0)) 5 Try.underlying30 (by kernel_rfl) BK.out (by rw [HME.out]; omega) (by rw [HME.out, Array.size_replicate]; omega)
        rw [hcp]
        clear hcp
        have HROW' := HROW.out
        generalize ((Array.replicate 17 (Value.int .u8 0)).toList.take 0 ++ Lib.byteCells (b.extract 0 m).data.toList ++ (Array.replicate 17 (Value.int .u8 0)).toList.drop (0 + (b.extract 0 m).size)).toArray = row at *
        have HROW2 := Lib.hid HROW'
        have hrs : row.size = 17 := by
          have h17 : (Lib.byteCells ch.data.toList).toArray.size = 17 := by rw [List.size_toArray, Lib.byteCells_length, ← Lib.size_eq, hcs]
          have := congrArg Array.size HROW'
          rw [Array.size_setIfInBounds, h17] at this
          exact this
        clear HROW' HROW
        obtain ⟨v0, hv0⟩ : ∃ v, row[m]? = some v := ⟨_, Array.getElem?_eq_getElem (by omega)⟩
        have BKr := Aside0.mk (setRow_heap w4 g _ row _ _ BK.out)
        have BK8c := Aside0.mk ((setRow_other w4 g g8 row (by have := L9.out; have := LG9.out; omega)).trans (blk_below BK8.out HB4.out))
        have BK9c := Aside0.mk ((setRow_other w4 g g9 row (by have := LG9.out; omega)).trans (blk_below BK9.out HB4.out))
        have HBc := Aside0.mk (onetime_split.bsr (below_step HB.out HB4.out) LG.out row)
        have hcell : (w4.setRow g row).cell? ⟨g, m, none⟩ = some v0 := (blk_cell BKr.out m).trans hv0
        have hfz : (w4.setRow g row).frozen? ⟨g, m, none⟩ = false := blk_frozen BKr.out m
        clear BK BK8 BK9 HB HB4 HGg hv0
        generalize w4.setRow g row = w5 at *
        go_wp2_with fail
        have hcv := Lib.run_convert_whole (P := Try.prog) (w5.setCell ⟨g, m, none⟩ (.int .u8 1)) 30 5 9 Try.underlying30 Try.underlying5 Try.underlying9 g 0 ch (onetime_Tag.bytes_row (blk_put BKr.out m _ HROW2.out)) 17
        rw [hcs] at hcv
        rw [hcv]
        have BK8d := Aside0.mk (blk_far BK8c.out (p := ⟨g, m, none⟩) (by have := L9.out; have := LG9.out; simp; omega) (.int .u8 1))
        have BK9d := Aside0.mk (blk_far BK9c.out (p := ⟨g, m, none⟩) (by have := LG9.out; simp; omega) (.int .u8 1))
        have HBd := Aside0.mk (HBc.out.setCell (p := ⟨g, m, none⟩) LG.out (.int .u8 1))
        clear hcv hcell hfz BKr HROW2 BK8c BK9c HBc
        generalize w5.setCell ⟨g, m, none⟩ (.int .u8 1) = w6 at *
        go_wp2_with fail
        have EIs := Aside0.mk (onetime_split.info _ HS.out)
        have EIy := Aside0.mk (onetime_split.info _ HYL.out)
        have EIz := Aside0.mk (onetime_split.info _ HZL.out)
        have ECz := Aside0.mk (onetime_split.cells_one z)
        have EHz := Aside0.mk (show (onetime_split.cells s).size = (onetime_split.cells z).size by rw [onetime_split.cells_size, onetime_split.cells_size, HZL.out, HS.out])
        have BK8e := Aside0.mk (blk_drew BK8d.out)
        have BK9e := Aside0.mk (blk_drew BK9d.out)
        have HBe := Aside0.mk (below_drew1 HBd.out)
        clear BK8d BK9d HBd
        refine tw_start (n := 15) (T := fun _ => True) (S := fun w' => w'.heap[g9]? = some (.cells (onetime_split.cells s) 37 (0, 0)) ∧ w'.heap[g8]? = some (.cells (onetime_split.cells y) 37 (0, 0))) (ds := [14]) #[false, false, false, false, false, false, false, false, false, false, false, false, false, false, false] (by kernel_rfl) rfl rfl trivial ⟨BK9e.out, BK8e.out⟩ (fun hHT hHS => ?_)
        generalize w6.drew = w7 at *
        refine tw_pure (i := 1) (N := some 49) (v := ?_) (a' := ?_) #[false, true, false, false, false, false, false, false, false, false, false, false, false, false, false] rfl rfl (by kernel_rfl) (fun _ _ _ h => h) (Or.inl ⟨by rfl, ?_⟩) ?_ ?_
        rotate_left
        · intro w'
          go_simp
          with_reducible rfl
        rotate_left
        · simp only [Act.put, List.setIfInBounds_toArray, List.set_cons_zero, List.set_cons_succ, i64_w, i32_w, IntKind.wrap_u32]
          rfl
        refine tw_pure (i := 2) (N := some 50) (v := ?_) (a' := ?_) #[false, true, true, false, false, false, false, false, false, false, false, false, false, false, false] rfl rfl (by kernel_rfl) (fun _ _ _ h => h) (Or.inl ⟨by rfl, ?_⟩) ?_ ?_
        rotate_left
        · intro w'
          go_simp
          with_reducible rfl
        rotate_left
        · simp only [Act.put, List.setIfInBounds_toArray, List.set_cons_zero, List.set_cons_succ, i64_w, i32_w, IntKind.wrap_u32]
          rfl
        refine tw_pure (i := 4) (N := some 52) (v := ?_) (a' := ?_) #[false, true, true, false, true, false, false, false, false, false, false, false, false, false, false] rfl rfl (by kernel_rfl) (fun _ _ _ h => h) (Or.inl ⟨by rfl, ?_⟩) ?_ ?_
        rotate_left
        · intro w'
          go_simp
          with_reducible rfl
        rotate_left
        · simp only [Act.put, List.setIfInBounds_toArray, List.set_cons_zero, List.set_cons_succ, i64_w, i32_w, IntKind.wrap_u32]
          rfl
        refine tw_pure (i := 5) (N := some 53) (v := ?_) (a' := ?_) #[false, true, true, false, true, true, false, false, false, false, false, false, false, false, false] rfl rfl (by kernel_rfl) (fun _ _ _ h => h) (Or.inl ⟨by rfl, ?_⟩) ?_ ?_
        rotate_left
        · intro w'
          go_simp
          with_reducible rfl
        rotate_left
        · simp only [Act.put, List.setIfInBounds_toArray, List.set_cons_zero, List.set_cons_succ, i64_w, i32_w, IntKind.wrap_u32]
          rfl
        refine tw_pure (i := 7) (N := some 55) (v := ?_) (a' := ?_) #[false, true, true, false, true, true, false, true, false, false, false, false, false, false, false] rfl rfl (by kernel_rfl) (fun _ _ _ h => h) (Or.inl ⟨by rfl, ?_⟩) ?_ ?_
        rotate_left
        · intro w'
          go_simp
          with_reducible rfl
        rotate_left
        · simp only [Act.put, List.setIfInBounds_toArray, List.set_cons_zero, List.set_cons_succ, i64_w, i32_w, IntKind.wrap_u32]
          rfl
        refine tw_pure (i := 8) (N := some 56) (v := ?_) (a' := ?_) #[false, true, true, false, true, true, false, true, true, false, false, false, false, false, false] rfl rfl (by kernel_rfl) (fun _ _ _ h => h) (Or.inl ⟨by rfl, ?_⟩) ?_ ?_
        rotate_left
        · intro w'
          go_simp
          with_reducible rfl
        rotate_left
        · simp only [Act.put, List.setIfInBounds_toArray, List.set_cons_zero, List.set_cons_succ, i64_w, i32_w, IntKind.wrap_u32]
          rfl
        refine tw_pure (i := 9) (N := some 57) (v := ?_) (a' := ?_) #[false, true, true, false, true, true, false, true, true, true, false, false, false, false, false] rfl rfl (by kernel_rfl) (fun _ _ _ h => h) (Or.inl ⟨by rfl, ?_⟩) ?_ ?_
        rotate_left
        · intro w'
          go_simp
          with_reducible rfl
        rotate_left
        · simp only [Act.put, List.setIfInBounds_toArray, List.set_cons_zero, List.set_cons_succ, i64_w, i32_w, IntKind.wrap_u32]
          rfl
        refine tw_takeS (i := 0) (N := some 48) (v := ?_) (a' := ?_) #[true, true, true, false, true, true, false, true, true, true, false, false, false, false, false] rfl rfl (by kernel_rfl) (fun _ _ _ h => h) (Or.inl ⟨by rfl, ?_⟩) hHS ?_ ?_
        rotate_left
        · rintro w' ⟨h1_, h2_⟩
          refine onetime_Tag.run_ld_row 37 (.tmp 9) ?_ g9 ?_ 37 _ (0, 0) _ h1_ Try.underlying37 rfl EIs.out <;> rfl
        rotate_left
        · simp only [Act.put, List.setIfInBounds_toArray, List.set_cons_zero, List.set_cons_succ, i64_w, i32_w, IntKind.wrap_u32]
          rfl
        refine tw_takeS (i := 12) (N := some 60) (v := ?_) (a' := ?_) #[true, true, true, false, true, true, false, true, true, true, false, false, true, false, false] rfl rfl (by kernel_rfl) (fun _ _ _ h => h) (Or.inl ⟨by rfl, ?_⟩) hHS ?_ ?_
        rotate_left
        · rintro w' ⟨h1_, h2_⟩
          refine onetime_Tag.run_ld_row 37 (.tmp 8) ?_ g8 ?_ 37 _ (0, 0) _ h2_ Try.underlying37 rfl EIy.out <;> rfl
        rotate_left
        · simp only [Act.put, List.setIfInBounds_toArray, List.set_cons_zero, List.set_cons_succ, i64_w, i32_w, IntKind.wrap_u32]
          rfl
        refine tw_one (i := 3) (N := some 51) #[true, true, true, true, true, true, false, true, true, true, false, false, true, false, false] rfl rfl (by kernel_rfl) (fun K hK => ?_)
        refine goes_ Try.func19 (by kernel_rfl) rfl #[.string (ch.extract 0 8)] (by rfl) rfl rfl (by (try simp only [List.map_toArray, List.map_cons, List.map_nil]); first | done | rfl) ?_
        with_reducible refine (octet_Little.calls k _ u0 _ HU0.out).mono ?_
        rintro e_ w_ ⟨rfl, hb_⟩
        refine ⟨_, rfl, ?_⟩
        have hA_ := Aside0.mk (blk_below BK8e.out hb_)
        have hB_ := Aside0.mk (blk_below BK9e.out hb_)
        have hC_ := Aside0.mk (below_step HBe.out hb_)
        clear BK8e BK9e HBe hb_
        have BK8e := hA_
        have BK9e := hB_
        have HBe := hC_
        clear hA_ hB_ hC_
        clear hHT hHS
        refine hK.out _ _ trivial ⟨BK9e.out, BK8e.out⟩ (fun hHT hHS => ?_)
        clear hK K
        refine tw_norm (a' := ?_) ?_ ?_
        rotate_left
        · show Act.put _ (some 51) _ = _
          simp only [Act.put, List.setIfInBounds_toArray, List.set_cons_zero, List.set_cons_succ, i64_w, i32_w, IntKind.wrap_u32]
          rfl
        generalize w_ = w7 at *
        refine tw_one (i := 6) (N := some 54) #[true, true, true, true, true, true, true, true, true, true, false, false, true, false, false] rfl rfl (by kernel_rfl) (fun K hK => ?_)
        refine goes_ Try.func19 (by kernel_rfl) rfl #[.string (ch.extract 8 16)] (by rfl) rfl rfl (by (try simp only [List.map_toArray, List.map_cons, List.map_nil]); first | done | rfl) ?_
        with_reducible refine (octet_Little.calls k _ u1 _ HU1.out).mono ?_
        rintro e_ w_ ⟨rfl, hb_⟩
        refine ⟨_, rfl, ?_⟩
        have hA_ := Aside0.mk (blk_below BK8e.out hb_)
        have hB_ := Aside0.mk (blk_below BK9e.out hb_)
        have hC_ := Aside0.mk (below_step HBe.out hb_)
        clear BK8e BK9e HBe hb_
        have BK8e := hA_
        have BK9e := hB_
        have HBe := hC_
        clear hA_ hB_ hC_
        clear hHT hHS
        refine hK.out _ _ trivial ⟨BK9e.out, BK8e.out⟩ (fun hHT hHS => ?_)
        clear hK K
        refine tw_norm (a' := ?_) ?_ ?_
        rotate_left
        · show Act.put _ (some 54) _ = _
          simp only [Act.put, List.setIfInBounds_toArray, List.set_cons_zero, List.set_cons_succ, i64_w, i32_w, IntKind.wrap_u32]
          rfl
        generalize w_ = w7 at *
        refine tw_one (i := 10) (N := some 58) #[true, true, true, true, true, true, true, true, true, true, true, false, true, false, false] rfl rfl (by kernel_rfl) (fun K hK => ?_)
        refine goes_ Try.func18 (by kernel_rfl) rfl #[.int .u64 u0, .int .u64 u1, .int .u64 (IntKind.u64.wrap (cb : Int))] (by rfl) rfl rfl (by (try simp only [List.map_toArray, List.map_cons, List.map_nil]); first | done | rfl) ?_
        with_reducible refine (onetime_split.calls u0 u1 _ _).mono ?_
        rintro e_ w_ ⟨rfl, hb_⟩
        rw [HP.out]
        refine ⟨_, rfl, ?_⟩
        have hA_ := Aside0.mk (blk_below BK8e.out hb_)
        have hB_ := Aside0.mk (blk_below BK9e.out hb_)
        have hC_ := Aside0.mk (below_step HBe.out hb_)
        clear BK8e BK9e HBe hb_
        have BK8e := hA_
        have BK9e := hB_
        have HBe := hC_
        clear hA_ hB_ hC_
        clear hHT hHS
        refine hK.out _ _ trivial ⟨BK9e.out, BK8e.out⟩ (fun hHT hHS => ?_)
        clear hK K
        refine tw_norm (a' := ?_) ?_ ?_
        rotate_left
        · show Act.put _ (some 58) _ = _
          simp only [Act.put, List.setIfInBounds_toArray, List.set_cons_zero, List.set_cons_succ, i64_w, i32_w, IntKind.wrap_u32]
          rfl
        generalize w_ = w7 at *
        refine tw_one (i := 11) (N := some 59) #[true, true, true, true, true, true, true, true, true, true, true, true, true, false, false] rfl rfl (by kernel_rfl) (fun K hK => ?_)
        refine goes_ Try.func20 (by kernel_rfl) rfl #[.agg (onetime_split.cells s), .agg (onetime_split.cells p)] (by rfl) rfl rfl (by (try simp only [List.map_toArray, List.map_cons, List.map_nil]); first | done | rfl) ?_
        with_reducible refine (onetime_number_plus.calls s p HS.out HPL.out _).mono ?_
        rintro e_ w_ ⟨rfl, hb_⟩
        rw [HQ.out]
        refine ⟨_, rfl, ?_⟩
        have hA_ := Aside0.mk (blk_below BK8e.out hb_)
        have hB_ := Aside0.mk (blk_below BK9e.out hb_)
        have hC_ := Aside0.mk (below_step HBe.out hb_)
        clear BK8e BK9e HBe hb_
        have BK8e := hA_
        have BK9e := hB_
        have HBe := hC_
        clear hA_ hB_ hC_
        clear hHT hHS
        refine hK.out _ _ trivial ⟨BK9e.out, BK8e.out⟩ (fun hHT hHS => ?_)
        clear hK K
        refine tw_norm (a' := ?_) ?_ ?_
        rotate_left
        · show Act.put _ (some 59) _ = _
          simp only [Act.put, List.setIfInBounds_toArray, List.set_cons_zero, List.set_cons_succ, i64_w, i32_w, IntKind.wrap_u32]
          rfl
        generalize w_ = w7 at *
        refine tw_one (i := 13) (N := some 61) #[true, true, true, true, true, true, true, true, true, true, true, true, true, true, false] rfl rfl (by kernel_rfl) (fun K hK => ?_)
        refine goes_ Try.func21 (by kernel_rfl) rfl #[.agg (onetime_split.cells q), .agg (onetime_split.cells y)] (by rfl) rfl rfl (by (try simp only [List.map_toArray, List.map_cons, List.map_nil]); first | done | rfl) ?_
        with_reducible refine (onetime_number_times.calls q y HQL.out HYL.out _).mono ?_
        rintro e_ w_ ⟨rfl, hb_⟩
        rw [HZ.out]
        refine ⟨_, rfl, ?_⟩
        have hA_ := Aside0.mk (blk_below BK8e.out hb_)
        have hB_ := Aside0.mk (blk_below BK9e.out hb_)
        have hC_ := Aside0.mk (below_step HBe.out hb_)
        clear BK8e BK9e HBe hb_
        have BK8e := hA_
        have BK9e := hB_
        have HBe := hC_
        clear hA_ hB_ hC_
        clear hHT hHS
        refine hK.out _ _ trivial ⟨BK9e.out, BK8e.out⟩ (fun hHT hHS => ?_)
        clear hK K
        refine tw_norm (a' := ?_) ?_ ?_
        rotate_left
        · show Act.put _ (some 61) _ = _
          simp only [Act.put, List.setIfInBounds_toArray, List.set_cons_zero, List.set_cons_succ, i64_w, i32_w, IntKind.wrap_u32]
          rfl
        generalize w_ = w7 at *
        refine tw_last (i := 14) (N := none) #[true, true, true, true, true, true, true, true, true, true, true, true, true, true, true] rfl rfl (by kernel_rfl) (by decide) (fun K hK => ?_)
        rw [if_pos (by rfl)]
        refine wp_store_row 37 _ _ rfl g9 (onetime_split.cells z) rfl rfl 37 _ BK9e.out EIz.out EHz.out ECz.out ?_
        refine hK.out _ _ trivial (fun hHT => ?_)
        clear hK K
        refine tw_norm (a' := ?_) ?_ ?_
        rotate_left
        · exact onetime_Tag.put_none _ _
        refine tw_done (by kernel_rfl) ?_
        have L8' := Aside0.mk (show w.heap.size ≤ g9 by have := L8.out; have := L9.out; omega)
        have BK8f := Aside0.mk ((setRow_other w7 g9 g8 (onetime_split.cells z) (by have := L9.out; omega)).trans BK8e.out)
        have BK9f := Aside0.mk (setRow_heap w7 g9 _ (onetime_split.cells z) _ _ BK9e.out)
        have HBf := Aside0.mk (onetime_split.bsr HBe.out L8'.out (onetime_split.cells z))
        clear BK8e BK9e HBe
        generalize w7.setRow g9 (onetime_split.cells z) = w8 at *
        go_wp2_with fail
        go_round
        case rel => exact ⟨n', _, z, rfl, by rw [ByteArray.size_extract]; omega, ⟨HG2.out⟩, HZL, BK8f, BK9f, HBf⟩
        case measure => simp [onetime_Tag.sz, ByteArray.size_extract]; omega
      · obtain rfl : b = ⟨#[]⟩ := by
          apply ByteArray.ext
          exact Array.eq_empty_of_size_eq_zero (by show b.size = 0; omega)
        have hg := HG.out
        obtain ⟨n', rfl⟩ : ∃ n', n = n' + 1 := by cases n with | zero => cases hg | succ n' => exact ⟨n', rfl⟩
        rw [onetime_Tag.go, if_pos (show (⟨#[]⟩ : ByteArray).size = 0 from rfl)] at hg
        injection hg with hg
        subst hg
        obtain ⟨v, hv⟩ : ∃ v, onetime_number_whole.f s = v := ⟨_, rfl⟩
        have hvl : v.length = 5 := by rw [← hv, onetime_Tag.whole_len]; exact HS.out
        have hf := HF.out
        rw [hv] at hf
        unfold onetime_Tag.fin at hf
        simp only [ha32] at hf
        obtain ⟨m0, hm0, hf⟩ := Option.bind_eq_some_iff.mp hf
        obtain ⟨m1, hm1, hf⟩ := Option.bind_eq_some_iff.mp hf
        split at hf
        case isFalse => cases hf
        case isTrue hw =>
        obtain ⟨⟨ha1, ha2⟩, ⟨hb1', hb2⟩, ⟨hc1', hc2⟩, ⟨hd1, hd2⟩⟩ := hw
        obtain ⟨lo, hlo⟩ : ∃ lo, onetime_Tag.low v = lo := ⟨_, rfl⟩
        obtain ⟨hi, hhi⟩ : ∃ hi, onetime_Tag.high v = hi := ⟨_, rfl⟩
        rw [hlo] at hf ha1 ha2
        rw [hhi] at hf hc1' hc2
        obtain ⟨x0, hx0⟩ : ∃ x, (lo + m0) % 18446744073709551616 = x := ⟨_, rfl⟩
        obtain ⟨c, hc⟩ : ∃ x, (lo + m0) / 18446744073709551616 = x := ⟨_, rfl⟩
        rw [hx0, hc] at hf
        obtain ⟨x1, hx1⟩ : ∃ x, (hi + m1 + c) % 18446744073709551616 = x := ⟨_, rfl⟩
        obtain ⟨c2, hc2'⟩ : ∃ x, (hi + m1 + c) / 18446744073709551616 = x := ⟨_, rfl⟩
        rw [hx1] at hf
        obtain ⟨p0, hp0, hf⟩ := Option.bind_eq_some_iff.mp hf
        obtain ⟨p1, hp1, hf⟩ := Option.bind_eq_some_iff.mp hf
        split at hf
        case isFalse => cases hf
        case isTrue hps =>
        obtain ⟨hps0, hps1⟩ := hps
        simp only [Option.some.injEq, Prod.mk.injEq] at hf
        obtain ⟨rfl, rfl⟩ := hf
        have hadd : ∀ w, (callFunc 23 #[.int .u64 lo, .int .u64 m0, .int .u64 0]).run Try.prog w = .ok (.value (.tuple #[.int .u64 x0, .int .u64 c])) w := fun w => by
          rw [run_callFunc_extern Try.func23 (by kernel_rfl) (by kernel_rfl) (by kernel_rfl) (e := add64Entry) (by kernel_rfl), run_add64 lo m0 0 ha1 hb1' (Int.le_refl 0) (by decide), Int.add_zero, hx0, hc]
          rfl
        have hadd2 : ∀ w, (callFunc 23 #[.int .u64 hi, .int .u64 m1, .int .u64 c]).run Try.prog w = .ok (.value (.tuple #[.int .u64 x1, .int .u64 c2])) w := fun w => by
          rw [run_callFunc_extern Try.func23 (by kernel_rfl) (by kernel_rfl) (by kernel_rfl) (e := add64Entry) (by kernel_rfl), run_add64 hi m1 c hc1' hd1 (by omega) (by omega), hx1, hc2']
          rfl
        obtain ⟨e0, he0⟩ : ∃ e, v.getD 0 0 = e := ⟨_, rfl⟩
        obtain ⟨e1, he1⟩ : ∃ e, v.getD 1 0 = e := ⟨_, rfl⟩
        obtain ⟨e2, he2⟩ : ∃ e, v.getD 2 0 = e := ⟨_, rfl⟩
        obtain ⟨e3, he3⟩ : ∃ e, v.getD 3 0 = e := ⟨_, rfl⟩
        obtain ⟨e4, he4⟩ : ∃ e, v.getD 4 0 = e := ⟨_, rfl⟩
        unfold onetime_Tag.low at hlo
        unfold onetime_Tag.high at hhi
        rw [he0, he1, he2] at hlo
        rw [he2, he3, he4] at hhi
        have HE0 := Lib.hid he0
        have HE1 := Lib.hid he1
        have HE2 := Lib.hid he2
        have HE3 := Lib.hid he3
        have HE4 := Lib.hid he4
        have HVL := Aside0.mk hvl
        have HV := Lib.hid hv
        have HM0 := Lib.hid hm0
        have HM1 := Lib.hid hm1
        have HP0 := Lib.hid hp0
        have HP1 := Lib.hid hp1
        have EIs := Aside0.mk (onetime_split.info _ HS.out)
        have EIv := Aside0.mk (onetime_split.info _ hvl)
        have ECv := Aside0.mk (onetime_split.cells_one v)
        have EHv := Aside0.mk (show (onetime_split.cells s).size = (onetime_split.cells v).size by rw [onetime_split.cells_size, onetime_split.cells_size, hvl, HS.out])
        have L8' := Aside0.mk (show w.heap.size ≤ g9 by have := L8.out; have := L9.out; omega)
        clear ha1 ha2 hb1' hb2 hc1' hc2 hd1 hd2 hx0 hc hx1 hc2' he0 he1 he2 he3 he4 hv hm0 hm1 hp0 hp1 hvl HF HG BK8 hb0
        go_wp2_with (((with_reducible refine gate_dst (N := 65) rfl ?_); refine wpList_load_row rfl 37 _ rfl g9 rfl 37 _ (0, 0) _ BK9.out Try.underlying37 rfl EIs.out ?_))
        refine (onetime_number_whole.calls s HS.out _).mono ?_
        rintro e_ w3' ⟨rfl, hb_⟩
        rw [HV.out]
        have BK9a := Aside0.mk (blk_below BK9.out hb_)
        have HBa := Aside0.mk (below_step HB.out hb_)
        clear BK9 HB hb_ HV
        go_wp2_with (((with_reducible refine gate_store (t := 37) (p := 9) rfl ?_); refine wpList_store_row rfl 37 _ _ rfl g9 (onetime_split.cells v) rfl rfl 37 _ BK9a.out EIv.out EHv.out ECv.out ?_))
        have BK9b := Aside0.mk (setRow_heap w3' g9 _ (onetime_split.cells v) _ _ BK9a.out)
        have HBb' := Aside0.mk (onetime_split.bsr HBa.out L8'.out (onetime_split.cells v))
        clear BK9a HBa
        generalize w3'.setRow g9 (onetime_split.cells v) = w6 at *
        have hgc : ∀ (i : Nat) (e : Int), i < 5 → v.getD i 0 = e → w6.drew.cell? ⟨g9, i, none⟩ = some (.int .u64 e) := fun i e h5 he => by rw [blk_cell (blk_drew BK9b.out), onetime_split.cells_get _ _ (by rw [HVL.out]; exact h5), he]
        have hd0 := hgc 0 e0 (by decide) HE0.out
        have hd1 := hgc 1 e1 (by decide) HE1.out
        have hd2 := hgc 2 e2 (by decide) HE2.out
        have BK9e := Aside0.mk (blk_drew BK9b.out)
        have HBe := Aside0.mk (below_drew1 HBb'.out)
        clear BK9b HBb' hgc
        go_wp2_with fail
        refine tw_start (n := 19) (T := fun _ => True) (S := fun w' => w'.cell? ⟨g9, 0, none⟩ = some (.int .u64 e0) ∧ w'.cell? ⟨g9, 1, none⟩ = some (.int .u64 e1) ∧ w'.cell? ⟨g9, 2, none⟩ = some (.int .u64 e2)) (ds := []) #[false, false, false, false, false, false, false, false, false, false, false, false, false, false, false, false, false, false, false] (by kernel_rfl) rfl rfl trivial ⟨hd0, hd1, hd2⟩ (fun hHT hHS => ?_)
        generalize w6.drew = w7 at *
        refine tw_pure (i := 0) (N := some 68) (v := ?_) (a' := ?_) #[true, false, false, false, false, false, false, false, false, false, false, false, false, false, false, false, false, false, false] rfl rfl (by kernel_rfl) (fun _ _ _ h => h) (Or.inl ⟨by rfl, ?_⟩) ?_ ?_
        rotate_left
        · intro w'
          go_simp
          with_reducible rfl
        rotate_left
        · simp only [Act.put, List.setIfInBounds_toArray, List.set_cons_zero, List.set_cons_succ, i64_w, i32_w, IntKind.wrap_u32]
          rfl
        refine tw_pure (i := 2) (N := some 70) (v := ?_) (a' := ?_) #[true, false, true, false, false, false, false, false, false, false, false, false, false, false, false, false, false, false, false] rfl rfl (by kernel_rfl) (fun _ _ _ h => h) (Or.inl ⟨by rfl, ?_⟩) ?_ ?_
        rotate_left
        · intro w'
          go_simp
          with_reducible rfl
        rotate_left
        · simp only [Act.put, List.setIfInBounds_toArray, List.set_cons_zero, List.set_cons_succ, i64_w, i32_w, IntKind.wrap_u32]
          rfl
        refine tw_pure (i := 6) (N := some 74) (v := ?_) (a' := ?_) #[true, false, true, false, false, false, true, false, false, false, false, false, false, false, false, false, false, false, false] rfl rfl (by kernel_rfl) (fun _ _ _ h => h) (Or.inl ⟨by rfl, ?_⟩) ?_ ?_
        rotate_left
        · intro w'
          go_simp
          with_reducible rfl
        rotate_left
        · simp only [Act.put, List.setIfInBounds_toArray, List.set_cons_zero, List.set_cons_succ, i64_w, i32_w, IntKind.wrap_u32]
          rfl
        refine tw_takeS (i := 1) (N := some 69) (v := ?_) (a' := ?_) #[true, true, true, false, false, false, true, false, false, false, false, false, false, false, false, false, false, false, false] rfl rfl (by kernel_rfl) (fun _ _ _ h => h) (Or.inl ⟨by rfl, ?_⟩) hHS ?_ ?_
        rotate_left
        · rintro w' ⟨s0_, s1_, s2_⟩
          go_simp
          with_reducible rfl
        rotate_left
        · simp only [Act.put, List.setIfInBounds_toArray, List.set_cons_zero, List.set_cons_succ, i64_w, i32_w, IntKind.wrap_u32]
          rfl
        refine tw_takeS (i := 3) (N := some 71) (v := ?_) (a' := ?_) #[true, true, true, true, false, false, true, false, false, false, false, false, false, false, false, false, false, false, false] rfl rfl (by kernel_rfl) (fun _ _ _ h => h) (Or.inl ⟨by rfl, ?_⟩) hHS ?_ ?_
        rotate_left
        · rintro w' ⟨s0_, s1_, s2_⟩
          go_simp
          with_reducible rfl
        rotate_left
        · simp only [Act.put, List.setIfInBounds_toArray, List.set_cons_zero, List.set_cons_succ, i64_w, i32_w, IntKind.wrap_u32]
          rfl
        refine tw_takeS (i := 7) (N := some 75) (v := ?_) (a' := ?_) #[true, true, true, true, false, false, true, true, false, false, false, false, false, false, false, false, false, false, false] rfl rfl (by kernel_rfl) (fun _ _ _ h => h) (Or.inl ⟨by rfl, ?_⟩) hHS ?_ ?_
        rotate_left
        · rintro w' ⟨s0_, s1_, s2_⟩
          go_simp
          with_reducible rfl
        rotate_left
        · simp only [Act.put, List.setIfInBounds_toArray, List.set_cons_zero, List.set_cons_succ, i64_w, i32_w, IntKind.wrap_u32]
          rfl
        refine tw_pure (i := 4) (N := some 72) (v := ?_) (a' := ?_) #[true, true, true, true, true, false, true, true, false, false, false, false, false, false, false, false, false, false, false] rfl rfl (by kernel_rfl) (fun _ _ _ h => h) (Or.inl ⟨by rfl, ?_⟩) ?_ ?_
        rotate_left
        · intro w'
          go_simp
          with_reducible rfl
        rotate_left
        · simp only [Act.put, List.setIfInBounds_toArray, List.set_cons_zero, List.set_cons_succ, i64_w, i32_w, IntKind.wrap_u32]
          rfl
        refine tw_pure (i := 5) (N := some 73) (v := ?_) (a' := ?_) #[true, true, true, true, true, true, true, true, false, false, false, false, false, false, false, false, false, false, false] rfl rfl (by kernel_rfl) (fun _ _ _ h => h) (Or.inl ⟨by rfl, ?_⟩) ?_ ?_
        rotate_left
        · intro w'
          go_simp
          with_reducible rfl
        rotate_left
        · simp only [Act.put, List.setIfInBounds_toArray, List.set_cons_zero, List.set_cons_succ, i64_w, i32_w, IntKind.wrap_u32]
          rfl
        refine tw_pure (i := 8) (N := some 76) (v := ?_) (a' := ?_) #[true, true, true, true, true, true, true, true, true, false, false, false, false, false, false, false, false, false, false] rfl rfl (by kernel_rfl) (fun _ _ _ h => h) (Or.inl ⟨by rfl, ?_⟩) ?_ ?_
        rotate_left
        · intro w'
          go_simp
          with_reducible rfl
        rotate_left
        · simp only [Act.put, List.setIfInBounds_toArray, List.set_cons_zero, List.set_cons_succ, i64_w, i32_w, IntKind.wrap_u32]
          rfl
        refine tw_pure (i := 9) (N := some 77) (v := ?_) (a' := ?_) #[true, true, true, true, true, true, true, true, true, true, false, false, false, false, false, false, false, false, false] rfl rfl (by kernel_rfl) (fun _ _ _ h => h) (Or.inl ⟨by rfl, ?_⟩) ?_ ?_
        rotate_left
        · intro w'
          go_simp
          with_reducible rfl
        rotate_left
        · simp only [Act.put, List.setIfInBounds_toArray, List.set_cons_zero, List.set_cons_succ, i64_w, i32_w, IntKind.wrap_u32]
          rfl
        refine tw_pure (i := 10) (N := some 78) (v := ?_) (a' := ?_) #[true, true, true, true, true, true, true, true, true, true, true, false, false, false, false, false, false, false, false] rfl rfl (by kernel_rfl) (fun _ _ _ h => h) (Or.inl ⟨by rfl, ?_⟩) ?_ ?_
        rotate_left
        · intro w'
          go_simp
          with_reducible rfl
        rotate_left
        · simp only [Act.put, List.setIfInBounds_toArray, List.set_cons_zero, List.set_cons_succ, i64_w, i32_w, IntKind.wrap_u32]
          rfl
        refine tw_pure (i := 11) (N := some 79) (v := ?_) (a' := ?_) #[true, true, true, true, true, true, true, true, true, true, true, true, false, false, false, false, false, false, false] rfl rfl (by kernel_rfl) (fun _ _ _ h => h) (Or.inl ⟨by rfl, ?_⟩) ?_ ?_
        rotate_left
        · intro w'
          go_simp
          with_reducible rfl
        rotate_left
        · simp only [Act.put, List.setIfInBounds_toArray, List.set_cons_zero, List.set_cons_succ, i64_w, i32_w, IntKind.wrap_u32]
          rfl
        refine tw_one (i := 12) (N := some 80) #[true, true, true, true, true, true, true, true, true, true, true, true, true, false, false, false, false, false, false] rfl rfl (by kernel_rfl) (fun K hK => ?_)
        refine goes_ Try.func19 (by kernel_rfl) rfl #[.string (a0.extract 16 24)] (by rfl) rfl rfl (by (try simp only [List.map_toArray, List.map_cons, List.map_nil]); first | done | rfl) ?_
        with_reducible refine (octet_Little.calls k _ m0 _ HM0.out).mono ?_
        rintro e_ w_ ⟨rfl, hb_⟩
        refine ⟨_, rfl, ?_⟩
        replace hd0 := (hb_.cell (p := ⟨g9, 0, none⟩) (blk_lt BK9e.out)).trans hd0
        replace hd1 := (hb_.cell (p := ⟨g9, 1, none⟩) (blk_lt BK9e.out)).trans hd1
        replace hd2 := (hb_.cell (p := ⟨g9, 2, none⟩) (blk_lt BK9e.out)).trans hd2
        have hB_ := Aside0.mk (blk_below BK9e.out hb_)
        have hC_ := Aside0.mk (below_step HBe.out hb_)
        clear BK9e HBe hb_
        have BK9e := hB_
        have HBe := hC_
        clear hB_ hC_
        clear hHT hHS
        refine hK.out _ _ trivial ⟨hd0, hd1, hd2⟩ (fun hHT hHS => ?_)
        clear hK K
        refine tw_norm (a' := ?_) ?_ ?_
        rotate_left
        · show Act.put _ (some 80) _ = _
          simp only [Act.put, List.setIfInBounds_toArray, List.set_cons_zero, List.set_cons_succ, i64_w, i32_w, IntKind.wrap_u32]
          rfl
        generalize w_ = w7 at *
        refine tw_one (i := 13) (N := some 81) #[true, true, true, true, true, true, true, true, true, true, true, true, true, true, false, false, false, false, false] rfl rfl (by kernel_rfl) (fun K hK => ?_)
        refine onetime_Tag.val_ (v := .tuple #[.int .u64 x0, .int .u64 c]) (w1 := w7) (by rfl) rfl (by first | (go_simp; done) | (go_simp; rfl)) ?_
        clear hHT hHS
        refine hK.out _ _ trivial ⟨hd0, hd1, hd2⟩ (fun hHT hHS => ?_)
        clear hK K
        refine tw_norm (a' := ?_) ?_ ?_
        rotate_left
        · show Act.put _ (some 81) _ = _
          simp only [Act.put, List.setIfInBounds_toArray, List.set_cons_zero, List.set_cons_succ, i64_w, i32_w, IntKind.wrap_u32]
          rfl
        refine tw_pure (i := 14) (N := some 67) (v := ?_) (a' := ?_) #[true, true, true, true, true, true, true, true, true, true, true, true, true, true, true, false, false, false, false] rfl rfl (by kernel_rfl) (fun _ _ _ h => h) (Or.inl ⟨by rfl, ?_⟩) ?_ ?_
        rotate_left
        · intro w'
          go_simp
          with_reducible rfl
        rotate_left
        · simp only [Act.put, List.setIfInBounds_toArray, List.set_cons_zero, List.set_cons_succ, i64_w, i32_w, IntKind.wrap_u32]
          rfl
        refine tw_pure (i := 15) (N := some 82) (v := ?_) (a' := ?_) #[true, true, true, true, true, true, true, true, true, true, true, true, true, true, true, true, false, false, false] rfl rfl (by kernel_rfl) (fun _ _ _ h => h) (Or.inl ⟨by rfl, ?_⟩) ?_ ?_
        rotate_left
        · intro w'
          go_simp
          with_reducible rfl
        rotate_left
        · simp only [Act.put, List.setIfInBounds_toArray, List.set_cons_zero, List.set_cons_succ, i64_w, i32_w, IntKind.wrap_u32]
          rfl
        refine tw_pure (i := 16) (N := some 83) (v := ?_) (a' := ?_) #[true, true, true, true, true, true, true, true, true, true, true, true, true, true, true, true, true, false, false] rfl rfl (by kernel_rfl) (fun _ _ _ h => h) (Or.inl ⟨by rfl, ?_⟩) ?_ ?_
        rotate_left
        · intro w'
          go_simp
          with_reducible rfl
        rotate_left
        · simp only [Act.put, List.setIfInBounds_toArray, List.set_cons_zero, List.set_cons_succ, i64_w, i32_w, IntKind.wrap_u32]
          rfl
        refine tw_pure (i := 17) (N := some 13) (v := ?_) (a' := ?_) #[true, true, true, true, true, true, true, true, true, true, true, true, true, true, true, true, true, true, false] rfl rfl (by kernel_rfl) (fun _ _ _ h => h) (Or.inl ⟨by rfl, ?_⟩) ?_ ?_
        rotate_left
        · intro w'
          go_simp
          with_reducible rfl
        rotate_left
        · simp only [Act.put, List.setIfInBounds_toArray, List.set_cons_zero, List.set_cons_succ, i64_w, i32_w, IntKind.wrap_u32]
          rfl
        refine tw_pure (i := 18) (N := some 14) (v := ?_) (a' := ?_) #[true, true, true, true, true, true, true, true, true, true, true, true, true, true, true, true, true, true, true] rfl rfl (by kernel_rfl) (fun _ _ _ h => h) (Or.inl ⟨by rfl, ?_⟩) ?_ ?_
        rotate_left
        · intro w'
          go_simp
          with_reducible rfl
        rotate_left
        · simp only [Act.put, List.setIfInBounds_toArray, List.set_cons_zero, List.set_cons_succ, i64_w, i32_w, IntKind.wrap_u32]
          rfl
        refine tw_done (by kernel_rfl) ?_
        clear hd0 hd1 hd2
        have hgc : ∀ (i : Nat) (e : Int), i < 5 → v.getD i 0 = e → w7.drew.cell? ⟨g9, i, none⟩ = some (.int .u64 e) := fun i e h5 he => by rw [blk_cell (blk_drew BK9e.out), onetime_split.cells_get _ _ (by rw [HVL.out]; exact h5), he]
        have hd2 := hgc 2 e2 (by decide) HE2.out
        have hd3 := hgc 3 e3 (by decide) HE3.out
        have hd4 := hgc 4 e4 (by decide) HE4.out
        replace BK9e := Aside0.mk (blk_drew BK9e.out)
        replace HBe := Aside0.mk (below_drew1 HBe.out)
        clear hgc
        go_wp2_with fail
        refine tw_start (n := 21) (T := fun _ => True) (S := fun w' => w'.cell? ⟨g9, 2, none⟩ = some (.int .u64 e2) ∧ w'.cell? ⟨g9, 3, none⟩ = some (.int .u64 e3) ∧ w'.cell? ⟨g9, 4, none⟩ = some (.int .u64 e4)) (ds := []) #[false, false, false, false, false, false, false, false, false, false, false, false, false, false, false, false, false, false, false, false, false] (by kernel_rfl) rfl rfl trivial ⟨hd2, hd3, hd4⟩ (fun hHT hHS => ?_)
        generalize w7.drew = w8 at *
        generalize w8 = w7 at *
        refine tw_pure (i := 0) (N := some 85) (v := ?_) (a' := ?_) #[true, false, false, false, false, false, false, false, false, false, false, false, false, false, false, false, false, false, false, false, false] rfl rfl (by kernel_rfl) (fun _ _ _ h => h) (Or.inl ⟨by rfl, ?_⟩) ?_ ?_
        rotate_left
        · intro w'
          go_simp
          with_reducible rfl
        rotate_left
        · simp only [Act.put, List.setIfInBounds_toArray, List.set_cons_zero, List.set_cons_succ, i64_w, i32_w, IntKind.wrap_u32]
          rfl
        refine tw_pure (i := 3) (N := some 88) (v := ?_) (a' := ?_) #[true, false, false, true, false, false, false, false, false, false, false, false, false, false, false, false, false, false, false, false, false] rfl rfl (by kernel_rfl) (fun _ _ _ h => h) (Or.inl ⟨by rfl, ?_⟩) ?_ ?_
        rotate_left
        · intro w'
          go_simp
          with_reducible rfl
        rotate_left
        · simp only [Act.put, List.setIfInBounds_toArray, List.set_cons_zero, List.set_cons_succ, i64_w, i32_w, IntKind.wrap_u32]
          rfl
        refine tw_pure (i := 7) (N := some 92) (v := ?_) (a' := ?_) #[true, false, false, true, false, false, false, true, false, false, false, false, false, false, false, false, false, false, false, false, false] rfl rfl (by kernel_rfl) (fun _ _ _ h => h) (Or.inl ⟨by rfl, ?_⟩) ?_ ?_
        rotate_left
        · intro w'
          go_simp
          with_reducible rfl
        rotate_left
        · simp only [Act.put, List.setIfInBounds_toArray, List.set_cons_zero, List.set_cons_succ, i64_w, i32_w, IntKind.wrap_u32]
          rfl
        refine tw_takeS (i := 1) (N := some 86) (v := ?_) (a' := ?_) #[true, true, false, true, false, false, false, true, false, false, false, false, false, false, false, false, false, false, false, false, false] rfl rfl (by kernel_rfl) (fun _ _ _ h => h) (Or.inl ⟨by rfl, ?_⟩) hHS ?_ ?_
        rotate_left
        · rintro w' ⟨s0_, s1_, s2_⟩
          go_simp
          with_reducible rfl
        rotate_left
        · simp only [Act.put, List.setIfInBounds_toArray, List.set_cons_zero, List.set_cons_succ, i64_w, i32_w, IntKind.wrap_u32]
          rfl
        refine tw_takeS (i := 4) (N := some 89) (v := ?_) (a' := ?_) #[true, true, false, true, true, false, false, true, false, false, false, false, false, false, false, false, false, false, false, false, false] rfl rfl (by kernel_rfl) (fun _ _ _ h => h) (Or.inl ⟨by rfl, ?_⟩) hHS ?_ ?_
        rotate_left
        · rintro w' ⟨s0_, s1_, s2_⟩
          go_simp
          with_reducible rfl
        rotate_left
        · simp only [Act.put, List.setIfInBounds_toArray, List.set_cons_zero, List.set_cons_succ, i64_w, i32_w, IntKind.wrap_u32]
          rfl
        refine tw_takeS (i := 8) (N := some 93) (v := ?_) (a' := ?_) #[true, true, false, true, true, false, false, true, true, false, false, false, false, false, false, false, false, false, false, false, false] rfl rfl (by kernel_rfl) (fun _ _ _ h => h) (Or.inl ⟨by rfl, ?_⟩) hHS ?_ ?_
        rotate_left
        · rintro w' ⟨s0_, s1_, s2_⟩
          go_simp
          with_reducible rfl
        rotate_left
        · simp only [Act.put, List.setIfInBounds_toArray, List.set_cons_zero, List.set_cons_succ, i64_w, i32_w, IntKind.wrap_u32]
          rfl
        refine tw_pure (i := 2) (N := some 87) (v := ?_) (a' := ?_) #[true, true, true, true, true, false, false, true, true, false, false, false, false, false, false, false, false, false, false, false, false] rfl rfl (by kernel_rfl) (fun _ _ _ h => h) (Or.inl ⟨by rfl, ?_⟩) ?_ ?_
        rotate_left
        · intro w'
          go_simp
          with_reducible rfl
        rotate_left
        · simp only [Act.put, List.setIfInBounds_toArray, List.set_cons_zero, List.set_cons_succ, i64_w, i32_w, IntKind.wrap_u32]
          rfl
        refine tw_pure (i := 5) (N := some 90) (v := ?_) (a' := ?_) #[true, true, true, true, true, true, false, true, true, false, false, false, false, false, false, false, false, false, false, false, false] rfl rfl (by kernel_rfl) (fun _ _ _ h => h) (Or.inl ⟨by rfl, ?_⟩) ?_ ?_
        rotate_left
        · intro w'
          go_simp
          with_reducible rfl
        rotate_left
        · simp only [Act.put, List.setIfInBounds_toArray, List.set_cons_zero, List.set_cons_succ, i64_w, i32_w, IntKind.wrap_u32]
          rfl
        refine tw_pure (i := 6) (N := some 91) (v := ?_) (a' := ?_) #[true, true, true, true, true, true, true, true, true, false, false, false, false, false, false, false, false, false, false, false, false] rfl rfl (by kernel_rfl) (fun _ _ _ h => h) (Or.inl ⟨by rfl, ?_⟩) ?_ ?_
        rotate_left
        · intro w'
          go_simp
          with_reducible rfl
        rotate_left
        · simp only [Act.put, List.setIfInBounds_toArray, List.set_cons_zero, List.set_cons_succ, i64_w, i32_w, IntKind.wrap_u32]
          rfl
        refine tw_pure (i := 9) (N := some 94) (v := ?_) (a' := ?_) #[true, true, true, true, true, true, true, true, true, true, false, false, false, false, false, false, false, false, false, false, false] rfl rfl (by kernel_rfl) (fun _ _ _ h => h) (Or.inl ⟨by rfl, ?_⟩) ?_ ?_
        rotate_left
        · intro w'
          go_simp
          with_reducible rfl
        rotate_left
        · simp only [Act.put, List.setIfInBounds_toArray, List.set_cons_zero, List.set_cons_succ, i64_w, i32_w, IntKind.wrap_u32]
          rfl
        refine tw_pure (i := 10) (N := some 95) (v := ?_) (a' := ?_) #[true, true, true, true, true, true, true, true, true, true, true, false, false, false, false, false, false, false, false, false, false] rfl rfl (by kernel_rfl) (fun _ _ _ h => h) (Or.inl ⟨by rfl, ?_⟩) ?_ ?_
        rotate_left
        · intro w'
          go_simp
          with_reducible rfl
        rotate_left
        · simp only [Act.put, List.setIfInBounds_toArray, List.set_cons_zero, List.set_cons_succ, i64_w, i32_w, IntKind.wrap_u32]
          rfl
        refine tw_pure (i := 11) (N := some 96) (v := ?_) (a' := ?_) #[true, true, true, true, true, true, true, true, true, true, true, true, false, false, false, false, false, false, false, false, false] rfl rfl (by kernel_rfl) (fun _ _ _ h => h) (Or.inl ⟨by rfl, ?_⟩) ?_ ?_
        rotate_left
        · intro w'
          go_simp
          with_reducible rfl
        rotate_left
        · simp only [Act.put, List.setIfInBounds_toArray, List.set_cons_zero, List.set_cons_succ, i64_w, i32_w, IntKind.wrap_u32]
          rfl
        refine tw_pure (i := 12) (N := some 97) (v := ?_) (a' := ?_) #[true, true, true, true, true, true, true, true, true, true, true, true, true, false, false, false, false, false, false, false, false] rfl rfl (by kernel_rfl) (fun _ _ _ h => h) (Or.inl ⟨by rfl, ?_⟩) ?_ ?_
        rotate_left
        · intro w'
          go_simp
          with_reducible rfl
        rotate_left
        · simp only [Act.put, List.setIfInBounds_toArray, List.set_cons_zero, List.set_cons_succ, i64_w, i32_w, IntKind.wrap_u32]
          rfl
        refine tw_pure (i := 14) (N := some 99) (v := ?_) (a' := ?_) #[true, true, true, true, true, true, true, true, true, true, true, true, true, false, true, false, false, false, false, false, false] rfl rfl (by kernel_rfl) (fun _ _ _ h => h) (Or.inl ⟨by rfl, ?_⟩) ?_ ?_
        rotate_left
        · intro w'
          go_simp
          with_reducible rfl
        rotate_left
        · simp only [Act.put, List.setIfInBounds_toArray, List.set_cons_zero, List.set_cons_succ, i64_w, i32_w, IntKind.wrap_u32]
          rfl
        refine tw_one (i := 13) (N := some 98) #[true, true, true, true, true, true, true, true, true, true, true, true, true, true, true, false, false, false, false, false, false] rfl rfl (by kernel_rfl) (fun K hK => ?_)
        refine goes_ Try.func19 (by kernel_rfl) rfl #[.string (a0.extract 24 32)] (by rfl) rfl rfl (by (try simp only [List.map_toArray, List.map_cons, List.map_nil]); first | done | rfl) ?_
        with_reducible refine (octet_Little.calls k _ m1 _ HM1.out).mono ?_
        rintro e_ w_ ⟨rfl, hb_⟩
        refine ⟨_, rfl, ?_⟩
        replace hd2 := (hb_.cell (p := ⟨g9, 2, none⟩) (blk_lt BK9e.out)).trans hd2
        replace hd3 := (hb_.cell (p := ⟨g9, 3, none⟩) (blk_lt BK9e.out)).trans hd3
        replace hd4 := (hb_.cell (p := ⟨g9, 4, none⟩) (blk_lt BK9e.out)).trans hd4
        have hB_ := Aside0.mk (blk_below BK9e.out hb_)
        have hC_ := Aside0.mk (below_step HBe.out hb_)
        clear BK9e HBe hb_
        have BK9e := hB_
        have HBe := hC_
        clear hB_ hC_
        clear hHT hHS
        refine hK.out _ _ trivial ⟨hd2, hd3, hd4⟩ (fun hHT hHS => ?_)
        clear hK K
        refine tw_norm (a' := ?_) ?_ ?_
        rotate_left
        · show Act.put _ (some 98) _ = _
          simp only [Act.put, List.setIfInBounds_toArray, List.set_cons_zero, List.set_cons_succ, i64_w, i32_w, IntKind.wrap_u32]
          rfl
        generalize w_ = w7 at *
        refine tw_one (i := 15) (N := some 100) #[true, true, true, true, true, true, true, true, true, true, true, true, true, true, true, true, false, false, false, false, false] rfl rfl (by kernel_rfl) (fun K hK => ?_)
        refine onetime_Tag.val_ (v := .tuple #[.int .u64 x1, .int .u64 c2]) (w1 := w7) (by rfl) rfl (by first | (go_simp; done) | (go_simp; rfl)) ?_
        clear hHT hHS
        refine hK.out _ _ trivial ⟨hd2, hd3, hd4⟩ (fun hHT hHS => ?_)
        clear hK K
        refine tw_norm (a' := ?_) ?_ ?_
        rotate_left
        · show Act.put _ (some 100) _ = _
          simp only [Act.put, List.setIfInBounds_toArray, List.set_cons_zero, List.set_cons_succ, i64_w, i32_w, IntKind.wrap_u32]
          rfl
        refine tw_pure (i := 16) (N := some 84) (v := ?_) (a' := ?_) #[true, true, true, true, true, true, true, true, true, true, true, true, true, true, true, true, true, false, false, false, false] rfl rfl (by kernel_rfl) (fun _ _ _ h => h) (Or.inl ⟨by rfl, ?_⟩) ?_ ?_
        rotate_left
        · intro w'
          go_simp
          with_reducible rfl
        rotate_left
        · simp only [Act.put, List.setIfInBounds_toArray, List.set_cons_zero, List.set_cons_succ, i64_w, i32_w, IntKind.wrap_u32]
          rfl
        refine tw_pure (i := 17) (N := some 101) (v := ?_) (a' := ?_) #[true, true, true, true, true, true, true, true, true, true, true, true, true, true, true, true, true, true, false, false, false] rfl rfl (by kernel_rfl) (fun _ _ _ h => h) (Or.inl ⟨by rfl, ?_⟩) ?_ ?_
        rotate_left
        · intro w'
          go_simp
          with_reducible rfl
        rotate_left
        · simp only [Act.put, List.setIfInBounds_toArray, List.set_cons_zero, List.set_cons_succ, i64_w, i32_w, IntKind.wrap_u32]
          rfl
        refine tw_pure (i := 18) (N := some 102) (v := ?_) (a' := ?_) #[true, true, true, true, true, true, true, true, true, true, true, true, true, true, true, true, true, true, true, false, false] rfl rfl (by kernel_rfl) (fun _ _ _ h => h) (Or.inl ⟨by rfl, ?_⟩) ?_ ?_
        rotate_left
        · intro w'
          go_simp
          with_reducible rfl
        rotate_left
        · simp only [Act.put, List.setIfInBounds_toArray, List.set_cons_zero, List.set_cons_succ, i64_w, i32_w, IntKind.wrap_u32]
          rfl
        refine tw_pure (i := 19) (N := some 15) (v := ?_) (a' := ?_) #[true, true, true, true, true, true, true, true, true, true, true, true, true, true, true, true, true, true, true, true, false] rfl rfl (by kernel_rfl) (fun _ _ _ h => h) (Or.inl ⟨by rfl, ?_⟩) ?_ ?_
        rotate_left
        · intro w'
          go_simp
          with_reducible rfl
        rotate_left
        · simp only [Act.put, List.setIfInBounds_toArray, List.set_cons_zero, List.set_cons_succ, i64_w, i32_w, IntKind.wrap_u32]
          rfl
        refine tw_pure (i := 20) (N := some 16) (v := ?_) (a' := ?_) #[true, true, true, true, true, true, true, true, true, true, true, true, true, true, true, true, true, true, true, true, true] rfl rfl (by kernel_rfl) (fun _ _ _ h => h) (Or.inl ⟨by rfl, ?_⟩) ?_ ?_
        rotate_left
        · intro w'
          go_simp
          with_reducible rfl
        rotate_left
        · simp only [Act.put, List.setIfInBounds_toArray, List.set_cons_zero, List.set_cons_succ, i64_w, i32_w, IntKind.wrap_u32]
          rfl
        refine tw_done (by kernel_rfl) ?_
        clear hd2 hd3 hd4
        go_wp2_with fail
        refine (octet_PutLittle.calls k x0 8 p0 _ HP0.out).mono ?_
        rintro e_ w_ ⟨rfl, hb_⟩
        have HBg := Aside0.mk (below_step HBe.out hb_)
        clear hb_
        go_wp2_with fail
        refine (octet_PutLittle.calls k x1 8 p1 _ HP1.out).mono ?_
        rintro e_ w_ ⟨rfl, hb_⟩
        have HBh := Aside0.mk (below_step HBg.out hb_)
        clear hb_
        go_wp2_with fail
        go_ret2
        exact ⟨rfl, HBh.out⟩


end Go.Proofs.Ytagoibmemonkaaa.P
