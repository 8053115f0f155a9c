-- Written by wip/inj.py (the kit's print, with contracts typed by hand beside it).
import Derived.Test.YtdnlenhkagfiaaaPx0
import Derived.Test.YtdnlenhkagfiaaaPx1
import Derived.Test.YtdnlenhkagfiaaaPx2
namespace Go.Proofs.Ytdnlenhkagfiaaa.P
open Go.RowKit Go.Proofs.YtdnlenhkagfiaaaW.PrintWords Go.Proofs.YtdnlenhkagfiaaaW.PrintLast Go.Proofs.YtdnlenhkagfiaaaW.PrintMore
attribute [local go_sem] max2_int min2_int max_two min_two max_three min_three max_four min_four   -- for this text's walks alone
set_option linter.unusedVariables false
set_option linter.unusedSimpArgs false

/-! ### stream_block: function 20 (by hand) -/
/-! Regions that draw their order, with two kinds of facts: T stays behind every operation, S behind those that are not of ds. -/
section
variable {P : Program} {ops : Array Oper} {Q : Exit → Act → World → Prop} {md : Region.Mode} {T S : World → Prop} {ds : List Nat}
def tw (P : Program) (md : Region.Mode) (ops : Array Oper) (Q : Exit → Act → World → Prop) (T S : World → Prop) (ds : List Nat) : Nat → Array Bool → Act → World → Prop
  | 0, listed, a, w => Region.ready md ops listed = [] ∧ Q .normal a w
  | fuel + 1, listed, a, w =>
    (Region.ready md ops listed = [] → Q .normal a w) ∧
    ∀ i ∈ Region.ready md ops listed, wpOp P ops Q i (fun a' w' => ((T w → T w') ∧ (i ∉ ds → S w → S w')) ∧ tw P md ops Q T S ds fuel (listed.setIfInBounds i true) a' w') a w
theorem tw_any_of : ∀ (fuel : Nat) (listed : Array Bool) (a : Act) (w : World), tw P md ops Q T S ds fuel listed a w → wpAny P md ops Q fuel listed a w
  | 0, _, _, _, h => h
  | fuel + 1, _, _, _, h => ⟨h.1, fun i hi => wpOp_mono (fun a' w' h' => tw_any_of fuel _ a' w' h'.2) (h.2 i hi)⟩
theorem tw_first {U : World → Prop} {i : Nat} {oi : Oper} {v : Value} (hi : ops[i]? = some oi) (hsel : ∀ (j : Nat) (o : Oper) cs b, ops[j]? = some o → o.op ≠ .select cs b)
    (hQ : ∀ c a w, Q (.panic c) (a.put oi.dst v) w → Q (.panic c) a w) (n : Nat) :
    ∀ (fuel : Nat) (listed : Array Bool) (a : Act) (w : World),
      (∀ j oj, ops[j]? = some oj → j ≠ i → listed.getD j true = false → (∀ e ∈ oj.after, Region.binds md e = true → e.on ≠ i) → oi.apart ops oj = true) →
      ListedClosed md ops listed → ((∀ w w', (T w → T w') → U w → U w') ∨ ((∀ w w', (S w → S w') → U w → U w') ∧ ∀ d ∈ ds, listed.getD d true = false → Region.reachB md ops i n d = true)) →
      i ∈ Region.ready md ops listed → YieldsIf P ops U oi v a → U w →
      tw P md ops Q T S ds fuel (listed.setIfInBounds i true) (a.put oi.dst v) w → tw P md ops Q T S ds (fuel + 1) listed a w := by
  intro fuel
  induction fuel with
  | zero =>
    intro listed a w _ _ _ hr hy hS H
    refine ⟨fun h => (by rw [h] at hr; cases hr), fun j hj => ?_⟩
    by_cases hji : j = i
    · subst hji; exact hy.wpOp hi hS ⟨⟨fun h => h, fun _ h => h⟩, H⟩
    · have := ready_mono hj hji
      rw [H.1] at this
      cases this
  | succ fuel ih =>
    intro listed a w hfree hc hd hr hy hS H
    refine ⟨fun h => (by rw [h] at hr; cases hr), fun j hj => ?_⟩
    by_cases hji : j = i
    · subst hji; exact hy.wpOp hi hS ⟨⟨fun h => h, fun _ h => h⟩, H⟩
    · have h1 := H.2 j (ready_mono hj hji)
      obtain ⟨hjun, oj, hoj, hall⟩ := mem_ready.1 hj
      have hiun := (mem_ready.1 hr).1
      have hnot : ∀ e ∈ oj.after, Region.binds md e = true → e.on ≠ i := fun e he hb heq => by
        have h1 := hall e he hb
        rw [heq] at h1
        rcases Nat.lt_or_ge i listed.size with h' | h'
        · simp [h'] at hiun h1; rw [hiun] at h1; cases h1
        · simp [Array.getElem?_eq_none h'] at h1
      have keep : ∀ w', ((T w → T w') ∧ (j ∉ ds → S w → S w')) → U w → U w' := by
        intro w' hk
        rcases hd with h | ⟨h, hd⟩
        · exact h _ _ hk.1
        · exact h _ _ (hk.2 (fun hm => Region.reach_not_ready hc (hd j hm hjun) hiun hj))
      have h2 := wpOp_putIf hoj (hfree j oj hoj hji hjun hnot) (fun cs b => hsel i oi cs b hi) (fun cs b => hsel j oj cs b hoj) hQ hy h1
      have hfree' : ∀ k ok, ops[k]? = some ok → k ≠ i → (listed.setIfInBounds j true).getD k true = false →
          (∀ e ∈ ok.after, Region.binds md e = true → e.on ≠ i) → oi.apart ops ok = true := fun k ok hk hki hun hno => by
        refine hfree k ok hk hki ?_ hno
        by_cases hjk : j = k
        · subst hjk; exact hjun
        · rw [getD_set_ne true hjk] at hun; exact hun
      have hd' : ((∀ w w', (T w → T w') → U w → U w') ∨ ((∀ w w', (S w → S w') → U w → U w') ∧ ∀ d ∈ ds, (listed.setIfInBounds j true).getD d true = false → Region.reachB md ops i n d = true)) := by
        refine hd.imp id (fun hh => ⟨hh.1, fun d hm hun => hh.2 d hm ?_⟩)
        by_cases hjk : j = d
        · subst hjk; exact hjun
        · rw [getD_set_ne true hjk] at hun; exact hun
      refine wpOp_mono (fun a' w' h3 => ⟨h3.2.1, ih (listed.setIfInBounds j true) a' w' hfree' (hc.set hj) hd' (ready_mono hr (Ne.symm hji)) h3.1 (keep w' h3.2.1 hS) ?_⟩) h2
      rw [Array.setIfInBounds_comm _ _ hji]
      exact h3.2.2
theorem tw_anyway {i : Nat} {oi : Oper} {v : Value} (hi : ops[i]? = some oi) (hsel : ∀ (j : Nat) (o : Oper) cs b, ops[j]? = some o → o.op ≠ .select cs b)
    (hQ : ∀ c a w, Q (.panic c) (a.put oi.dst v) w → Q (.panic c) a w) :
    ∀ (fuel : Nat) (listed : Array Bool) (a : Act) (w : World),
      (∀ j oj, ops[j]? = some oj → j ≠ i → listed.getD j true = false → (∀ e ∈ oj.after, Region.binds md e = true → e.on ≠ i) → oi.apart ops oj = true) →
      i ∈ Region.ready md ops listed → Yields P ops oi v a →
      tw P md ops Q T S ds fuel (listed.setIfInBounds i true) (a.put oi.dst v) w → tw P md ops Q T S ds (fuel + 1) listed a w := by
  intro fuel
  induction fuel with
  | zero =>
    intro listed a w _ hr hy H
    refine ⟨fun h => (by rw [h] at hr; cases hr), fun j hj => ?_⟩
    by_cases hji : j = i
    · subst hji; exact (hy.yieldsIf (S := fun _ => True)).wpOp hi trivial ⟨⟨fun h => h, fun _ h => h⟩, H⟩
    · have := ready_mono hj hji
      rw [H.1] at this
      cases this
  | succ fuel ih =>
    intro listed a w hfree hr hy H
    refine ⟨fun h => (by rw [h] at hr; cases hr), fun j hj => ?_⟩
    by_cases hji : j = i
    · subst hji; exact (hy.yieldsIf (S := fun _ => True)).wpOp hi trivial ⟨⟨fun h => h, fun _ h => h⟩, H⟩
    · have h1 := H.2 j (ready_mono hj hji)
      obtain ⟨hjun, oj, hoj, hall⟩ := mem_ready.1 hj
      have hiun := (mem_ready.1 hr).1
      have hnot : ∀ e ∈ oj.after, Region.binds md e = true → e.on ≠ i := fun e he hb heq => by
        have h1 := hall e he hb
        rw [heq] at h1
        rcases Nat.lt_or_ge i listed.size with h' | h'
        · simp [h'] at hiun h1; rw [hiun] at h1; cases h1
        · simp [Array.getElem?_eq_none h'] at h1
      have h2 := wpOp_put hoj (hfree j oj hoj hji hjun hnot) (fun cs b => hsel i oi cs b hi) (fun cs b => hsel j oj cs b hoj) hQ hy h1
      have hfree' : ∀ k ok, ops[k]? = some ok → k ≠ i → (listed.setIfInBounds j true).getD k true = false →
          (∀ e ∈ ok.after, Region.binds md e = true → e.on ≠ i) → oi.apart ops ok = true := fun k ok hk hki hun hno => by
        refine hfree k ok hk hki ?_ hno
        by_cases hjk : j = k
        · subst hjk; exact hjun
        · rw [getD_set_ne true hjk] at hun; exact hun
      refine wpOp_mono (fun a' w' h3 => ⟨h3.2.1, ih (listed.setIfInBounds j true) a' w' hfree' (ready_mono hr (Ne.symm hji)) h3.1 ?_⟩) h2
      rw [Array.setIfInBounds_comm _ _ hji]
      exact h3.2.2
theorem tw_start {id n : Nat} {a : Act} {w : World} (l : Array Bool) (hm : P.follows .mixedOrders = true) (hn : ops.size = n) (hl : Array.replicate n false = l) (hT : T w.drew) (hS : S w.drew)
    (h : T w.drew → S w.drew → tw P .any ops Q T S ds n l a w.drew) : (Code.region id ops true).wp P Q a w := by
  subst hn
  subst hl
  exact wp_region_any hm (tw_any_of _ _ _ _ (h hT hS))
theorem tw_pure {i : Nat} {N : Option Tmp} {oi : Oper} {v : Value} {fuel : Nat} {l : Array Bool} {a : Act} {w : World} (l' : Array Bool) (hi : ops[i]? = some oi) (hN : oi.dst = N) (hc : anyB md ops l l' i = true)
    (hQ : ∀ c a w, Q (.panic c) (a.put oi.dst v) w → Q (.panic c) a w) (hy : Yields P ops oi v a) {a' : Act} (ha : a.put N v = a')
    (h : tw P md ops Q T S ds fuel l' a' w) : tw P md ops Q T S ds (fuel + 1) l a w := by
  subst ha
  subst hN
  simp only [anyB, Bool.and_eq_true, beq_iff_eq] at hc
  obtain ⟨⟨⟨h1, h2⟩, h3⟩, h6⟩ := hc
  subst h6
  exact tw_anyway hi (Region.noSelect_spec h1) hQ fuel l a w (Region.free_spec hi h2) (by simpa using h3) hy h
/-- A load of what stays behind every operation. -/
theorem tw_takeT {i : Nat} {N : Option Tmp} {oi : Oper} {v : Value} {fuel : Nat} {l : Array Bool} {a : Act} {w : World} (l' : Array Bool) (hi : ops[i]? = some oi) (hN : oi.dst = N) (hc : takeB md ops [] l l' i = true)
    (hQ : ∀ c a w, Q (.panic c) (a.put oi.dst v) w → Q (.panic c) a w) (hy : YieldsIf P ops T oi v a) (hT : T w) {a' : Act} (ha : a.put N v = a')
    (h : tw P md ops Q T S ds fuel l' a' w) : tw P md ops Q T S ds (fuel + 1) l a w := by
  subst ha
  subst hN
  simp only [takeB, Bool.and_eq_true, beq_iff_eq] at hc
  obtain ⟨⟨⟨⟨⟨h1, h2⟩, h3⟩, h4⟩, h5⟩, h6⟩ := hc
  subst h6
  exact tw_first hi (Region.noSelect_spec h1) hQ ops.size fuel l a w (Region.free_spec hi h2) (Region.closedB_spec h4) (Or.inl fun _ _ h => h) (by simpa using h3) hy hT h
/-- A load of what stays till the operations of ds, which wait for it. -/
theorem tw_takeS {i : Nat} {N : Option Tmp} {oi : Oper} {v : Value} {fuel : Nat} {l : Array Bool} {a : Act} {w : World} (l' : Array Bool) (hi : ops[i]? = some oi) (hN : oi.dst = N) (hc : takeB md ops ds l l' i = true)
    (hQ : ∀ c a w, Q (.panic c) (a.put oi.dst v) w → Q (.panic c) a w) (hy : YieldsIf P ops S oi v a) (hS : S w) {a' : Act} (ha : a.put N v = a')
    (h : tw P md ops Q T S ds fuel l' a' w) : tw P md ops Q T S ds (fuel + 1) l a w := by
  subst ha
  subst hN
  simp only [takeB, Bool.and_eq_true, beq_iff_eq] at hc
  obtain ⟨⟨⟨⟨⟨h1, h2⟩, h3⟩, h4⟩, h5⟩, h6⟩ := hc
  subst h6
  exact tw_first hi (Region.noSelect_spec h1) hQ ops.size fuel l a w (Region.free_spec hi h2) (Region.closedB_spec h4) (Or.inr ⟨fun _ _ h => h, fun d hm hun => by have := List.all_eq_true.1 h5 d hm; rw [hun] at this; simpa using this⟩) (by simpa using h3) hy hS h
theorem tw_ready {i : Nat} {oi : Oper} {fuel : Nat} {l : Array Bool} {a : Act} {w : World} (hi : ops[i]? = some oi) (hr : Region.ready md ops l = [i])
    (h : wpOp P ops Q i (fun a' w' => ((T w → T w') ∧ (i ∉ ds → S w → S w')) ∧ tw P md ops Q T S ds fuel (l.setIfInBounds i true) a' w') a w) : tw P md ops Q T S ds (fuel + 1) l a w :=
  ⟨fun h0 => (by rw [hr] at h0; cases h0), fun j hj => by rw [hr] at hj; cases (List.mem_singleton.mp hj); exact h⟩
theorem tw_one {i : Nat} {N : Option Tmp} {oi : Oper} {fuel : Nat} {l : Array Bool} {a : Act} {w : World} (l' : Array Bool) (hi : ops[i]? = some oi) (hN : oi.dst = N) (hc : readyB md ops l l' i = true)
    (h : ∀ K : Act → World → Prop, Shut (∀ a' w', T w' → S w' → (T w' → S w' → tw P md ops Q T S ds fuel l' a' w') → K a' w') → if Region.wanted oi (yielded ops a.tmps) = true then Oper.wp P oi a w K Q else K (a.put N undef) w) :
    tw P md ops Q T S ds (fuel + 1) l a w := by
  subst hN
  simp only [readyB, Bool.and_eq_true, beq_iff_eq] at hc
  obtain ⟨h1, h2⟩ := hc
  subst h2
  exact tw_ready hi h1 (wpOp_step hi (fun K' hK => h K' (fun a w hT hS hW => hK a w ⟨⟨fun _ => hT, fun _ _ => hS⟩, hW hT hS⟩)))
theorem tw_last {i : Nat} {N : Option Tmp} {oi : Oper} {fuel : Nat} {l : Array Bool} {a : Act} {w : World} (l' : Array Bool) (hi : ops[i]? = some oi) (hN : oi.dst = N) (hc : readyB md ops l l' i = true) (hd : i ∈ ds)
    (h : ∀ K : Act → World → Prop, Shut (∀ a' w', T w' → (T w' → tw P md ops Q T S ds fuel l' a' w') → K a' w') → if Region.wanted oi (yielded ops a.tmps) = true then Oper.wp P oi a w K Q else K (a.put N undef) w) :
    tw P md ops Q T S ds (fuel + 1) l a w := by
  subst hN
  simp only [readyB, Bool.and_eq_true, beq_iff_eq] at hc
  obtain ⟨h1, h2⟩ := hc
  subst h2
  exact tw_ready hi h1 (wpOp_step hi (fun K' hK => h K' (fun a w hT hW => hK a w ⟨⟨fun _ => hT, fun hn => absurd hd hn⟩, hW hT⟩)))
theorem tw_done {l : Array Bool} {a : Act} {w : World} {n : Nat} (hr : (Region.ready md ops l == []) = true) (h : Q .normal a w) : tw P md ops Q T S ds n l a w := by
  have hr : Region.ready md ops l = [] := by simpa using hr
  cases n with
  | zero => exact ⟨hr, h⟩
  | succ n => exact ⟨fun _ => h, by rw [hr]; simp⟩
theorem tw_norm {fuel : Nat} {l : Array Bool} {a a' : Act} {w : World} (ha : a = a') (h : tw P md ops Q T S ds fuel l a' w) : tw P md ops Q T S ds fuel l a w := by
  subst ha
  exact h
end

theorem stream_block.bld.sizeB : (Try.prog.info? 49).map (·.size) = some 2 := by kernel_rfl
theorem stream_block.bld.liesB : liesAt Try.prog Try.prog.depth 49 (2 / Try.prog.cellsOf 49) 0 49 1 = true := by kernel_rfl
theorem stream_block.bld.info8 : (Try.prog.info? 5).map (fun i => (i.zero, i.size, i.bytes)) = some (some (.int .u8 0), 1, 1) := by kernel_rfl
theorem stream_block.bld.cells8 : Try.prog.cellsOf 5 = 1 := by kernel_rfl
set_option maxHeartbeats 1000000 in
set_option maxRecDepth 100000 in
theorem stream_block.bld.check_used (b : Nat) (w : World) (h0 : w.cell? ⟨b, 0, none⟩ = some (.pointer (some ⟨b, 0, none⟩))) :
    Calls Try.prog 33 #[.pointer (some ⟨b, 0, none⟩)] w fun e w' => e = .returned (.tuple #[]) ∧ w' = w := by
  obtain ⟨j, hj, _⟩ := Option.map_eq_some_iff.1 stream_block.bld.sizeB
  go_enter Try.func33, Try.ntmps33
  go_wp2
  rw [Lib.run_neq_ptr_same w _ Try.underlying47 hj]
  go_wp2
  go_end0
  exact ⟨rfl, rfl⟩
set_option maxHeartbeats 1000000 in
set_option maxRecDepth 100000 in
theorem stream_block.bld.check_fresh (b : Nat) (w : World) (h0 : w.cell? ⟨b, 0, none⟩ = some (.pointer none)) (hsh : w.shape? b = some (49, 2)) (hfz : w.frozen? ⟨b, 0, none⟩ = false) :
    Calls Try.prog 33 #[.pointer (some ⟨b, 0, none⟩)] w fun e w' => e = .returned (.tuple #[]) ∧ w' = w.setCell ⟨b, 0, none⟩ (.pointer (some ⟨b, 0, none⟩)) := by
  obtain ⟨j, hj, hjs⟩ := Option.map_eq_some_iff.1 stream_block.bld.sizeB
  go_enter Try.func33, Try.ntmps33
  go_wp2
  rw [Lib.run_to_unsafe w ⟨b, 0, none⟩ Try.underlying47 Try.underlying71 hj (by rw [hjs]; decide) hsh (Nat.zero_lt_succ 1)]
  simp only [Result.andThen]
  rw [Oper.upon_value]
  go_wp2
  rw [run_callFunc_extern Try.func35 (by kernel_rfl) (by kernel_rfl) (by kernel_rfl) (e := Extern.AbiNoEscape.same) (by kernel_rfl)]
  rw [Lib.run_noEscape]
  simp only [Result.andThen]
  rw [Oper.upon_value]
  go_wp2
  rw [Lib.run_from_unsafe w ⟨b, 0, none⟩ Try.underlying71 Try.underlying47 hj hsh stream_block.bld.liesB]
  simp only [Result.andThen]
  rw [Oper.upon_value]
  go_wp2
  go_end0
  exact ⟨rfl, rfl⟩
theorem stream_block.bld.check (B b : Nat) (bs : List Value) (w : World) (h : Lib.IsBuilder 49 5 B b bs w) :
    Calls Try.prog 33 #[.pointer (some ⟨b, 0, none⟩)] w fun e w' => e = .returned (.tuple #[]) ∧ (Lib.BuilderAt 49 5 B b (.pointer (some ⟨b, 0, none⟩)) bs w' ∧ Below B w w') := by
  rcases h with h | h
  · refine (stream_block.bld.check_fresh b w h.cell0 h.shape h.frozen0).mono ?_
    rintro e w' ⟨rfl, rfl⟩
    exact ⟨rfl, h.used _, (Below.refl B w).setCell (p := ⟨b, 0, none⟩) h.1 _⟩
  · refine (stream_block.bld.check_used b w h.cell0).mono ?_
    rintro e w' ⟨rfl, rfl⟩
    exact ⟨rfl, h, Below.refl B _⟩
set_option maxHeartbeats 2000000 in
set_option maxRecDepth 100000 in
theorem stream_block.bld.writeS (B b : Nat) (l : List UInt8) (s : ByteArray) (w : World) (h : Lib.IsBuilder 49 5 B b (Lib.byteCells l) w) (hlen : l.length + s.size ≤ 140737488355328) (hBw : B ≤ w.heap.size) :
    Calls Try.prog 22 #[.pointer (some ⟨b, 0, none⟩), .string s] w fun e w' => e = .returned (.tuple #[.int .i64 s.size, .nilIface]) ∧ (Lib.IsBuilder 49 5 B b (Lib.byteCells (l ++ s.data.toList)) w' ∧ Below B w w') := by
  obtain ⟨i0, hi, hz0, hz1, hz2⟩ := info_parts stream_block.bld.info8
  have hml : l.length + s.size ≤ maxLen := by unfold maxLen; omega
  go_enter Try.func22, Try.ntmps22
  go_wp2_with (go_at_call 33; refine (stream_block.bld.check B b (Lib.byteCells l) _ h).mono ?_)
  rintro e w1 ⟨rfl, h1, hb1⟩
  obtain ⟨hB, v, hbk, hown, hne⟩ := h1
  have hl : (Lib.byteCells l).length = l.length := Lib.byteCells_length l
  rw [hl] at hown
  have c0 : w1.cell? ⟨b, 0, none⟩ = some (.pointer (some ⟨b, 0, none⟩)) := by rw [Lib.cell_of_heap hbk]; rfl
  have c1 : w1.cell? ⟨b, 1, none⟩ = some v := by rw [Lib.cell_of_heap hbk]; rfl
  have HL := Lib.hid hl
  clear hl
  go_wp2_with (at_builtin; refine Lib.wpList_append_own_string _ rfl _ _ 35 9 rfl B 5 i0 Try.underlying35 Try.underlying9 hi hz0 hz1 hz2 v l.length (Lib.byteCells l) rfl hown s rfl hml hlen ?c5 ?_)
  case c5 => have := hb1.size; omega
  intro v' w2 hown' hgrow _
  have hlt : b < w1.heap.size := by
    rcases Nat.lt_or_ge b w1.heap.size with h' | h'
    · exact h'
    · simp [Array.getElem?_eq_none h'] at hbk
  have hb2 : w2.heap[b]? = some (.cells #[.pointer (some ⟨b, 0, none⟩), v] 49 (0, 0)) := by
    rw [hgrow.block b hlt (fun e => hne e.symm)]
    exact hbk
  have d0 : w2.cell? ⟨b, 0, none⟩ = some (.pointer (some ⟨b, 0, none⟩)) := by rw [Lib.cell_of_heap hb2]; rfl
  have d1 : w2.cell? ⟨b, 1, none⟩ = some v := by rw [Lib.cell_of_heap hb2]; rfl
  have f1 : w2.frozen? ⟨b, 1, none⟩ = false := Lib.frozen_of_heap hb2 1
  have hcs : Lib.byteCells l ++ Lib.strCells s = Lib.byteCells (l ++ s.data.toList) := by simp [Lib.byteCells, Lib.strCells]
  have hn : l.length + s.size = (Lib.byteCells (l ++ s.data.toList)).length := by rw [Lib.byteCells_length, List.length_append]; rfl
  rw [hcs, hn] at hown'
  have HF := Aside0.mk (show ∀ w3 : World, w3 = w2.setCell ⟨b, 1, none⟩ v' → Lib.IsBuilder 49 5 B b (Lib.byteCells (l ++ s.data.toList)) w3 ∧ Below B w w3 by
    rintro w3 rfl
    exact ⟨Or.inr (Lib.BuilderAt.put (T := 49) (e := 5) hB hb2 hown' (by decide)), (hb1.grown hgrow (by have := hb1.size; omega) (fun k hk => (hown.lt k hk).1)).setCell (p := ⟨b, 1, none⟩) hB _⟩)
  have hval : (∃ g n c, v' = .slice (some ⟨g, 0, none⟩) n c) ∨ v' = .slice none 0 0 := by
    rcases hown'.2 with ⟨h0, _⟩ | ⟨g, cap, cur, hv, _⟩
    · exact Or.inr h0
    · exact Or.inl ⟨g, _, cap, hv⟩
  clear hcs hn hown' hown hgrow
  rcases hval with ⟨g, n, c, rfl⟩ | rfl
  · go_wp2
    go_ret2
    exact ⟨rfl, HF.out _ rfl⟩
  · go_wp2
    go_ret2
    exact ⟨rfl, HF.out _ rfl⟩
set_option maxHeartbeats 1000000 in
set_option maxRecDepth 100000 in
theorem stream_block.bld.string (B b : Nat) (l : List UInt8) (w : World) (h : Lib.IsBuilder 49 5 B b (Lib.byteCells l) w) (h0 : l ≠ []) :
    Calls Try.prog 25 #[.pointer (some ⟨b, 0, none⟩)] w fun e w' => e = .returned (.string ⟨l.toArray⟩) ∧ Below B w w' := by
  obtain ⟨p, hB, v, hbk, hown, hne⟩ : ∃ p, Lib.BuilderAt 49 5 B b p (Lib.byteCells l) w := by
    rcases h with h | h
    · exact ⟨_, h⟩
    · exact ⟨_, h⟩
  have hl0 : l.length ≠ 0 := by simpa using h0
  rw [Lib.byteCells_length] at hown
  obtain ⟨g, cap, cur, rfl, hbg, hg, hnc, hcm, hcs, htake⟩ : ∃ g cap cur, v = .slice (some ⟨g, 0, none⟩) l.length cap ∧ B ≤ g ∧ w.heap[g]? = some (.cells cur 5 (0, 0)) ∧ l.length ≤ cap ∧ cap ≤ maxLen ∧ cur.size = cap * 1 ∧ cur.toList.take (l.length * 1) = Lib.byteCells l := by
    rcases hown.2 with ⟨_, hz⟩ | ⟨g, cap, cur, hv, r⟩
    · exact absurd hz hl0
    · exact ⟨g, cap, cur, hv, r⟩
  have c1 : w.drew.cell? ⟨b, 1, none⟩ = some (.slice (some ⟨g, 0, none⟩) l.length cap) := by
    have : w.drew.heap[b]? = some (.cells #[p, .slice (some ⟨g, 0, none⟩) l.length cap] 49 (0, 0)) := hbk
    rw [Lib.cell_of_heap this]; rfl
  have hSD : (Builtin.unsafeSliceData_ #[35] 70 #[.slice (some ⟨g, 0, none⟩) l.length cap]).run Try.prog w.drew = .ok (.pointer (some ⟨g, 0, none⟩)) w.drew :=
    Lib.run_unsafeSliceData_row _ _ _ _ _ _ (by omega)
  have hUS : (Builtin.unsafeString_ #[70, 3] 9 #[.pointer (some ⟨g, 0, none⟩), .int .i64 l.length]).run Try.prog w.drew = .ok (.string ⟨l.toArray⟩) (w.drew.freeze ⟨g, 0, none⟩ l.length) := by
    refine Lib.run_unsafeString_row w.drew 70 3 9 5 Try.underlying70 stream_block.bld.cells8 g cur.size (by have hg' : w.drew.heap[g]? = some (.cells cur 5 (0, 0)) := hg; simp [World.shape?, hg']) l h0 (by omega) (by unfold maxLen at hcm; omega) ?_
    intro j x hx
    have := hown.cells (g := g) rfl j (.int .u8 x.toNat) (by simp [Lib.byteCells, hx])
    exact this
  go_enter Try.func25, Try.ntmps25
  go_wp2
  go_region
  all_goals (go_wp2; go_ret; exact ⟨rfl, Lib.below_freeze (Below.drew (Below.refl B w)) (p := ⟨g, 0, none⟩) hbg _⟩)
theorem stream_block.bld.us_none (W : World) (q : Option Addr) : (Builtin.unsafeString_ #[70, 3] 9 #[.pointer q, .int .i64 0]).run Try.prog W = .ok (.string .empty) W :=
  Lib.run_unsafeString_none W _ _ _ q
set_option maxHeartbeats 2000000 in
set_option maxRecDepth 100000 in
theorem stream_block.bld.string_nil (B b : Nat) (p : Value) (w : World) (hbk : w.heap[b]? = some (.cells #[p, .slice none 0 0] 49 (0, 0))) :
    Calls Try.prog 25 #[.pointer (some ⟨b, 0, none⟩)] w fun e w' => e = .returned (.string ⟨#[]⟩) ∧ Below B w w' := by
  have hUS := stream_block.bld.us_none
  have c1 : w.drew.cell? ⟨b, 1, none⟩ = some (.slice none 0 0) := by
    have : w.drew.heap[b]? = some (.cells #[p, .slice none 0 0] 49 (0, 0)) := hbk
    rw [Lib.cell_of_heap this]; rfl
  have hSD : (Builtin.unsafeSliceData_ #[35] 70 #[.slice none 0 0]).run Try.prog w.drew = .ok (.pointer none) w.drew := rfl
  go_enter Try.func25, Try.ntmps25
  go_wp2
  go_region
  all_goals (go_wp2; go_ret; exact ⟨rfl, Below.drew (Below.refl B w)⟩)
set_option maxHeartbeats 2000000 in
set_option maxRecDepth 100000 in
theorem stream_block.bld.string_noroom (B b g : Nat) (p : Value) (cur : Array Value) (w : World) (hBw : B ≤ w.heap.size) (hbk : w.heap[b]? = some (.cells #[p, .slice (some ⟨g, 0, none⟩) 0 0] 49 (0, 0))) (hg : w.heap[g]? = some (.cells cur 5 (0, 0))) :
    Calls Try.prog 25 #[.pointer (some ⟨b, 0, none⟩)] w fun e w' => e = .returned (.string ⟨#[]⟩) ∧ Below B w w' := by
  have hUS := stream_block.bld.us_none
  have hlt : b < w.heap.size := by
    rcases Nat.lt_or_ge b w.heap.size with h' | h'
    · exact h'
    · simp [Array.getElem?_eq_none h'] at hbk
  have c1 : w.drew.cell? ⟨b, 1, none⟩ = some (.slice (some ⟨g, 0, none⟩) 0 0) := by
    have : w.drew.heap[b]? = some (.cells #[p, .slice (some ⟨g, 0, none⟩) 0 0] 49 (0, 0)) := hbk
    rw [Lib.cell_of_heap this]; rfl
  have hSD : (Builtin.unsafeSliceData_ #[35] 70 #[.slice (some ⟨g, 0, none⟩) 0 0]).run Try.prog w.drew = .ok (.pointer (some ⟨w.drew.heap.size, 0, none⟩)) (w.drew.alloc (.view ⟨g, 0, none⟩ 5)) :=
    Lib.run_unsafeSliceData_zero w.drew _ _ 5 Try.underlying70 ⟨g, 0, none⟩ 0 (5, cur.size) (by have hg' : w.drew.heap[g]? = some (.cells cur 5 (0, 0)) := hg; simp [World.shape?, hg'])
  have c2 : (w.drew.alloc (.view ⟨g, 0, none⟩ 5)).cell? ⟨b, 1, none⟩ = some (.slice (some ⟨g, 0, none⟩) 0 0) := by
    have : (w.drew.alloc (.view ⟨g, 0, none⟩ 5)).heap[b]? = _ := (Lib.alloc_old w.drew _ b hlt).trans hbk
    rw [Lib.cell_of_heap this]; rfl
  have c3 : (w.alloc (.view ⟨g, 0, none⟩ 5)).drew.cell? ⟨b, 1, none⟩ = some (.slice (some ⟨g, 0, none⟩) 0 0) := c2
  have c0 : w.cell? ⟨b, 1, none⟩ = some (.slice (some ⟨g, 0, none⟩) 0 0) := c1
  go_enter Try.func25, Try.ntmps25
  go_wp2
  go_region
  all_goals (go_wp2; go_ret; exact ⟨rfl, (Below.drew (Below.refl B w)).alloc hBw _⟩)
set_option maxHeartbeats 2000000 in
set_option maxRecDepth 100000 in
theorem stream_block.bld.string_room (B b g cap : Nat) (p : Value) (w : World) (hc0 : cap ≠ 0) (hbk : w.heap[b]? = some (.cells #[p, .slice (some ⟨g, 0, none⟩) 0 cap] 49 (0, 0))) :
    Calls Try.prog 25 #[.pointer (some ⟨b, 0, none⟩)] w fun e w' => e = .returned (.string ⟨#[]⟩) ∧ Below B w w' := by
  have hUS := stream_block.bld.us_none
  have c1 : w.drew.cell? ⟨b, 1, none⟩ = some (.slice (some ⟨g, 0, none⟩) 0 cap) := by
    have : w.drew.heap[b]? = some (.cells #[p, .slice (some ⟨g, 0, none⟩) 0 cap] 49 (0, 0)) := hbk
    rw [Lib.cell_of_heap this]; rfl
  have hSD : (Builtin.unsafeSliceData_ #[35] 70 #[.slice (some ⟨g, 0, none⟩) 0 cap]).run Try.prog w.drew = .ok (.pointer (some ⟨g, 0, none⟩)) w.drew :=
    Lib.run_unsafeSliceData_row _ _ _ _ _ _ hc0
  clear hc0
  go_enter Try.func25, Try.ntmps25
  go_wp2
  go_region
  all_goals (go_wp2; go_ret; exact ⟨rfl, Below.drew (Below.refl B w)⟩)
theorem stream_block.bld.string_any (B b : Nat) (l : List UInt8) (w : World) (h : Lib.IsBuilder 49 5 B b (Lib.byteCells l) w) (hBw : B ≤ w.heap.size) :
    Calls Try.prog 25 #[.pointer (some ⟨b, 0, none⟩)] w fun e w' => e = .returned (.string ⟨l.toArray⟩) ∧ Below B w w' := by
  cases l with
  | nil =>
    obtain ⟨p, hB, v, hbk, hown, hne⟩ : ∃ p, Lib.BuilderAt 49 5 B b p [] w := by
      rcases h with h | h
      · exact ⟨_, h⟩
      · exact ⟨_, h⟩
    rcases hown.2 with ⟨rfl, _⟩ | ⟨g, cap, cur, rfl, hbg, hg, _, _, _, _⟩
    · exact stream_block.bld.string_nil B b p w hbk
    · by_cases hc0 : cap = 0
      · subst hc0
        exact stream_block.bld.string_noroom B b g p cur w hBw hbk hg
      · exact stream_block.bld.string_room B b g cap p w hc0 hbk
  | cons x r => exact stream_block.bld.string B b (x :: r) w h (by simp)
-- MARK
def stream_block.places : List (Nat × Nat × Nat × Nat) := [(0, 4, 8, 12), (1, 5, 9, 13), (2, 6, 10, 14), (3, 7, 11, 15), (0, 5, 10, 15), (1, 6, 11, 12), (2, 7, 8, 13), (3, 4, 9, 14)]
def stream_block.all : List (Nat × Nat × Nat × Nat) := (List.replicate 10 stream_block.places).flatten
def stream_block.mix (x : List Int) (p : Nat × Nat × Nat × Nat) : Option (List Int) := (stream_Quarter.f (x.getD p.1 0) (x.getD p.2.1 0) (x.getD p.2.2.1 0) (x.getD p.2.2.2 0)).map fun r => (((x.set p.1 r.1).set p.2.1 r.2.1).set p.2.2.1 r.2.2.1).set p.2.2.2 r.2.2.2
def stream_block.mixes : List (Nat × Nat × Nat × Nat) → List Int → Option (List Int)
  | [], x => some x
  | p :: l, x => (stream_block.mix x p).bind (stream_block.mixes l)
def stream_block.words (k : Nat) (s : ByteArray) : Nat → List Int → Option (List Int)
  | 0, acc => some acc
  | n + 1, acc => (octet_Little.f k (s.extract (4 * acc.length) (4 * acc.length + 4))).bind fun v => stream_block.words k s n (acc ++ [v % 4294967296])
def stream_block.outs (k : Nat) (first x : List Int) : Nat → Nat → List UInt8 → Option (List UInt8)
  | 0, _, acc => some acc
  | n + 1, i, acc => (octet_PutLittle.f k ((x.getD i 0 + first.getD i 0) % 4294967296) 4).bind fun t => if acc.length + t.size ≤ 1000 then stream_block.outs k first x n (i + 1) (acc ++ t.data.toList) else none
def stream_block.begin_ : ByteArray := ⟨#[101, 120, 112, 97, 110, 100, 32, 51, 50, 45, 98, 121, 116, 101, 32, 107]⟩
def stream_block.f (k : Nat) (a0 : ByteArray) (a1 : Int) (a2 : ByteArray) : Option ByteArray :=
  if a0.size = 32 ∧ a2.size = 12 then (octet_PutLittle.f k (IntKind.u64.wrap a1) 4).bind fun c => if c.size = 4 then (stream_block.words k (stream_block.begin_ ++ a0 ++ c ++ a2) 16 []).bind fun first => (stream_block.mixes stream_block.all first).bind fun x => (stream_block.outs k first x 16 0 []).map fun l => ⟨l.toArray⟩ else none else none
def stream_block.cells (l : List Int) : Array Value := (l.map (Value.int .u32)).toArray
theorem stream_block.bsr {B g : Nat} {w0 w : World} (hb : Below B w0 w) (hBg : B ≤ g) (cs : Array Value) : Below B w0 (w.setRow g cs) :=
  hb.trans ⟨rfl, rfl, rfl, by simp, fun k hk => setRow_other _ _ _ _ (by omega)⟩
theorem stream_block.all_drop (i j : Nat) (hi : i < 10) (hj : j < 8) (p : Nat × Nat × Nat × Nat) (h : stream_block.places[j]? = some p) : stream_block.all.drop (8 * i + j) = p :: stream_block.all.drop (8 * i + j + 1) := by
  have e : ∀ i : Fin 10, ∀ j : Fin 8, stream_block.all[8 * i.val + j.val]? = stream_block.places[j.val]? := by decide
  have e := e ⟨i, hi⟩ ⟨j, hj⟩
  simp only at e
  rw [h] at e
  obtain ⟨hl, hg⟩ := List.getElem?_eq_some_iff.mp e
  rw [List.drop_eq_getElem_cons hl, hg]
theorem stream_block.words_mono (k : Nat) (s : ByteArray) : ∀ n acc, LeO (stream_block.words k s n acc) (stream_block.words (k + 1) s n acc)
  | 0, _ => LeO.refl _
  | n + 1, acc => LeO.bind (octet_Little.mono _ k) (fun _ => stream_block.words_mono k s n _)
theorem stream_block.outs_mono (k : Nat) (first x : List Int) : ∀ n i acc, LeO (stream_block.outs k first x n i acc) (stream_block.outs (k + 1) first x n i acc)
  | 0, _, _ => LeO.refl _
  | n + 1, i, acc => LeO.bind (octet_PutLittle.mono _ _ k) (fun t => by
    split
    · exact stream_block.outs_mono k first x n _ _
    · exact LeO.refl _)
theorem stream_block.mono : ∀ a0 a1 a2 k, LeO (stream_block.f k a0 a1 a2) (stream_block.f (k + 1) a0 a1 a2) := by
  intro a0 a1 a2 k
  unfold stream_block.f
  split
  · refine LeO.bind (octet_PutLittle.mono _ _ k) (fun c => ?_)
    split
    · refine LeO.bind (stream_block.words_mono k _ _ _) (fun first => LeO.bind (LeO.refl _) (fun x => ?_))
      rw [Option.map_eq_bind, Option.map_eq_bind]
      exact LeO.bind (stream_block.outs_mono k first x _ _ _) (fun _ => LeO.refl _)
    · exact LeO.refl _
  · exact LeO.refl _
def stream_block.plc : Array Value := (([0, 4, 8, 12, 1, 5, 9, 13, 2, 6, 10, 14, 3, 7, 11, 15, 0, 5, 10, 15, 1, 6, 11, 12, 2, 7, 8, 13, 3, 4, 9, 14] : List Int).map (Value.int .i64)).toArray
set_option maxHeartbeats 4000000 in
set_option maxRecDepth 100000 in
theorem stream_block.places_calls (w : World) : Calls Try.prog 31 #[] w fun e w' => e = .returned (.agg stream_block.plc) ∧ Below w.heap.size w w' := by
  have EI := Aside0.mk (show (Try.prog.info? 64).map (·.size) = some stream_block.plc.size by kernel_rfl)
  have EC := Aside0.mk (show stream_block.plc.all (·.oneCell') = true by simp [stream_block.plc, Value.oneCell'])
  have EH := Aside0.mk (show (Array.replicate 32 (Value.int .i64 0)).size = stream_block.plc.size by simp [stream_block.plc])
  go_enter Try.func31, Try.ntmps31
  go_wp2_with (first | ((with_reducible refine gate_dst (N := 0) rfl ?_); refine box_event ?hg (N := 0) ?hd (cs := Array.replicate 32 (.int .i64 0)) (t := 64) ?hr ?_; (case hd => rfl); (case hg => rfl); (case hr => first | (go_simp; done) | (go_simp; rfl)); intro g0 hg0 w2 hbox hbx; have BK0 := Aside0.mk hbox; have HB2 := Aside0.mk hbx; have HG0 := Aside0.mk hg0; clear hbox hbx hg0) | ((with_reducible refine gate_store (t := 64) (p := 0) rfl ?_); refine wpList_store_row rfl 64 _ _ rfl g0 stream_block.plc rfl rfl 64 _ BK0.out EI.out EH.out EC.out ?_))
  refine bodyPost_ret (v := .agg stream_block.plc) (results_cell_row (p := 0) (by kernel_rfl) _ _ g0 64 stream_block.plc (0, 0) (.array 8 63) (by first | rfl | simp [Act.put]) (setRow_heap _ _ _ _ _ _ BK0.out) Try.underlying64 rfl (by kernel_rfl)) (by first | rfl | simp [Act.put]) ⟨rfl, ?_⟩
  exact stream_block.bsr HB2.out (by rw [HG0.out]; exact Nat.le_refl _) _
theorem stream_block.index_places (j : Nat) (hj : j < 8) : ∃ a b c d : Nat, stream_block.places[j]? = some (a, b, c, d) ∧ a < 16 ∧ b < 16 ∧ c < 16 ∧ d < 16 ∧ ∀ W : World, (Instr.index 64 (.agg stream_block.plc) (.int .i64 j)).run Try.prog W = .ok (.agg #[.int .i64 a, .int .i64 b, .int .i64 c, .int .i64 d]) W := by
  match j, hj with
  | 0, _ => exact ⟨0, 4, 8, 12, rfl, by decide, by decide, by decide, by decide, fun _ => by kernel_rfl⟩
  | 1, _ => exact ⟨1, 5, 9, 13, rfl, by decide, by decide, by decide, by decide, fun _ => by kernel_rfl⟩
  | 2, _ => exact ⟨2, 6, 10, 14, rfl, by decide, by decide, by decide, by decide, fun _ => by kernel_rfl⟩
  | 3, _ => exact ⟨3, 7, 11, 15, rfl, by decide, by decide, by decide, by decide, fun _ => by kernel_rfl⟩
  | 4, _ => exact ⟨0, 5, 10, 15, rfl, by decide, by decide, by decide, by decide, fun _ => by kernel_rfl⟩
  | 5, _ => exact ⟨1, 6, 11, 12, rfl, by decide, by decide, by decide, by decide, fun _ => by kernel_rfl⟩
  | 6, _ => exact ⟨2, 7, 8, 13, rfl, by decide, by decide, by decide, by decide, fun _ => by kernel_rfl⟩
  | 7, _ => exact ⟨3, 4, 9, 14, rfl, by decide, by decide, by decide, by decide, fun _ => by kernel_rfl⟩
theorem stream_block.cells_set (acc : List Int) (n m : Nat) (v : Int) (hn : acc.length = n) (hm : 0 < m) : (stream_block.cells (acc ++ List.replicate m 0)).setIfInBounds n (.int .u32 v) = stream_block.cells ((acc ++ [v]) ++ List.replicate (m - 1) 0) := by
  obtain ⟨m, rfl⟩ : ∃ m', m = m' + 1 := ⟨m - 1, by omega⟩
  subst hn
  simp [stream_block.cells, List.replicate_succ]
theorem stream_block.keep4 {W : World} {g g' : Nat} (hne : g ≠ g') {e : Nat} {u : Value} {p0 p1 p2 p3 : Option Value}
    (h : W.cell? ⟨g', 0, none⟩ = p0 ∧ W.cell? ⟨g', 1, none⟩ = p1 ∧ W.cell? ⟨g', 2, none⟩ = p2 ∧ W.cell? ⟨g', 3, none⟩ = p3) :
    (W.setCell ⟨g, e, none⟩ u).cell? ⟨g', 0, none⟩ = p0 ∧ (W.setCell ⟨g, e, none⟩ u).cell? ⟨g', 1, none⟩ = p1 ∧ (W.setCell ⟨g, e, none⟩ u).cell? ⟨g', 2, none⟩ = p2 ∧ (W.setCell ⟨g, e, none⟩ u).cell? ⟨g', 3, none⟩ = p3 := by
  have k : ∀ j, (W.setCell ⟨g, e, none⟩ u).cell? ⟨g', j, none⟩ = W.cell? ⟨g', j, none⟩ := fun j => World.cell?_setCell_other _ _ _ _ (fun e => by injection e with e1; exact hne e1)
  simp only [k]; exact h
theorem stream_block.ret_ {a b : ByteArray} (h : a = b) : Ending.returned (.string a) = .returned (.string b) := by rw [h]
theorem stream_block.cut {B B' : Nat} {W W' : World} (h : Below B' W W') (hb : B ≤ B') : Below B W W' := ⟨h.os, h.tape, h.output, h.size, fun k hk => h.block k (Nat.lt_of_lt_of_le hk hb)⟩
theorem stream_block.kept {B b : Nat} {bs : List Value} {W W' : World} (h : Lib.IsBuilder 49 5 B b bs W) (hb : Below W.heap.size W W') : Lib.IsBuilder 49 5 B b bs W' := by
  have : ∀ p, Lib.BuilderAt 49 5 B b p bs W → Lib.BuilderAt 49 5 B b p bs W' := by
    intro p h
    have hlt := h.lt
    obtain ⟨hB, v, hbk, hown, hne⟩ := h
    exact ⟨hB, v, (hb.block b hlt).trans hbk, hown.kept (row := none) ⟨hb.os, hb.tape, hb.output, hb.size, fun k hk _ => hb.block k hk⟩ (Classical.em _), hne⟩
  exact h.imp (this _) (this _)
theorem stream_block.cells_size (l : List Int) : (stream_block.cells l).size = l.length := by simp [stream_block.cells]
theorem stream_block.cells_one (l : List Int) : (stream_block.cells l).all (·.oneCell') = true := by simp [stream_block.cells, Value.oneCell']
theorem stream_block.cells_get (x : List Int) (i : Nat) (h : i < x.length) : (stream_block.cells x)[i]? = some (.int .u32 (x.getD i 0)) := by
  simp [stream_block.cells, h]
theorem stream_block.index_x (x : List Int) (n : Nat) (h : n < x.length) (h16 : x.length = 16 := by assumption) : ∀ W : World, (Instr.index 62 (.agg (stream_block.cells x)) (.int .i64 n)).run Try.prog W = .ok (.int .u32 (x.getD n 0)) W := by
  intro W
  have hu : ∀ w, (underlying 62).run Try.prog w = .ok (.array 16 22) w := fun w => run_underlying Try.underlying62 w
  have hs : ∀ w, (sizeOf 22).run Try.prog w = .ok 1 w := fun _ => by kernel_rfl
  have ha : ∀ w, (isAgg 22).run Try.prog w = .ok false w := fun _ => by kernel_rfl
  have hi : (0 : Int) ≤ (n : Int) ∧ (n : Int) < ((16 : Nat) : Int) := ⟨by omega, by omega⟩
  have hg := stream_block.cells_get x n h
  unfold Instr.index
  simp only [asIntOf, Sem.run_bind, Sem.run_pure, Result.andThen_ok, hu]
  rw [if_pos hi]
  simp only [Sem.run_bind, Result.andThen_ok, hs, part, ha, Nat.mul_one, Int.toNat_natCast]
  rw [if_neg (by decide)]
  rw [hg]; rfl
theorem stream_block.cells_upd (l : List Int) (i : Nat) (v : Int) : (stream_block.cells l).setIfInBounds i (.int .u32 v) = stream_block.cells (l.set i v) := by simp [stream_block.cells]
set_option maxHeartbeats 4000000 in
set_option maxRecDepth 100000 in
theorem stream_block.calls (k : Nat) (a0 : ByteArray) (a1 : Int) (a2 : ByteArray) (r : ByteArray) (w : World) (h : stream_block.f k a0 a1 a2 = some r) :
    Calls Try.prog 20 #[.string a0, .int .u32 a1, .string a2] w fun e w' => e = .returned (.string r) ∧ Below w.heap.size w w' := by
  unfold stream_block.f at h
  by_cases hsz : a0.size = 32 ∧ a2.size = 12
  case neg => rw [if_neg hsz] at h; cases h
  rw [if_pos hsz] at h
  obtain ⟨c, hc, h1⟩ := Option.bind_eq_some_iff.mp h
  clear h
  have h := h1
  clear h1
  by_cases hcs : c.size = 4
  case neg => rw [if_neg hcs] at h; cases h
  rw [if_pos hcs] at h
  obtain ⟨first, hf, h1⟩ := Option.bind_eq_some_iff.mp h
  clear h
  have h := h1
  clear h1
  obtain ⟨x, hx, h1⟩ := Option.bind_eq_some_iff.mp h
  clear h
  have h := h1
  clear h1
  obtain ⟨l, hl, h⟩ := Option.map_eq_some_iff.mp h
  have HC := Lib.hid hc
  have HF := Lib.hid hf
  have HX := Lib.hid hx
  have HL := Lib.hid hl
  have HR := Lib.hid h
  have HZ := Lib.hid hsz
  have HCS := Lib.hid hcs
  clear hc hf hx hl h hsz hcs
  have hz1 : a0.size = 32 := HZ.out.1
  have hz2 : a2.size = 12 := HZ.out.2
  go_enter Try.func20, Try.ntmps20
  go_wp2_with fail
  refine (octet_PutLittle.calls k _ _ c _ HC.out).mono ?_
  rintro e_ w1 ⟨rfl, hb1⟩
  have HB1 := Aside0.mk hb1
  clear hb1
  have hz3 : c.size = 4 := HCS.out
  go_wp2_with (first | (((with_reducible refine gate_dst (N := 8) rfl ?_); refine box_event ?hg (N := 8) ?hd (cs := stream_block.cells (List.replicate 16 0)) (t := 62) ?hr ?_; (case hd => rfl); (case hg => rfl); (case hr => first | (go_simp; done) | (go_simp; rfl)); intro g8 hg8 w2 hbox hbx; have BK8 := Aside0.mk hbox; have HB2 := Aside0.mk hbx; have HG8 := Aside0.mk hg8; clear hbox hbx hg8)) | (((with_reducible refine gate_dst (N := 9) rfl ?_); refine box_event ?hg (N := 9) ?hd (cs := stream_block.cells (List.replicate 16 0)) (t := 62) ?hr ?_; (case hd => rfl); (case hg => rfl); (case hr => first | (go_simp; done) | (go_simp; rfl)); intro g9 hg9 w3 hbox hbx; have BK9 := Aside0.mk hbox; have HB3 := Aside0.mk hbx; have HG9 := Aside0.mk hg9; clear hbox hbx hg9)))
  have HSE := Lib.hid (show stream_block.begin_ ++ a0 ++ c ++ a2 = (⟨#[101, 120, 112, 97, 110, 100, 32, 51, 50, 45, 98, 121, 116, 101, 32, 107]⟩ : ByteArray) ++ a0 ++ c ++ a2 from rfl)
  have hss : ((⟨#[101, 120, 112, 97, 110, 100, 32, 51, 50, 45, 98, 121, 116, 101, 32, 107]⟩ : ByteArray) ++ a0 ++ c ++ a2).size = 64 := by
    rw [ByteArray.size_append, ByteArray.size_append, ByteArray.size_append, hz1, hz2, hz3]; rfl
  generalize (⟨#[101, 120, 112, 97, 110, 100, 32, 51, 50, 45, 98, 121, 116, 101, 32, 107]⟩ : ByteArray) ++ a0 ++ c ++ a2 = s at *
  rw [HSE.out] at HF
  clear HSE hz3
  have L8 := Aside0.mk (show w.heap.size ≤ g8 by rw [HG8.out]; exact HB1.out.size)
  have L9 := Aside0.mk (show g8 < g9 by rw [HG9.out, HG8.out]; exact blk_lt (HG8.out ▸ BK8.out))
  have HB := Aside0.mk (below_step (below_step HB1.out HB2.out) HB3.out)
  replace BK8 := Aside0.mk (blk_below BK8.out HB3.out)
  clear HB1 HB2 HB3 HG8 HG9
  go_loopw [24] (fun v24 wr => ∃ (n : Nat) (acc : List Int), n ≤ 16 ∧ v24 = .int .i64 n ∧ Aside0 (acc.length = n) ∧ Aside0 (stream_block.words k s (16 - n) acc = some first) ∧ Aside0 (wr.heap[g8]? = some (.cells (stream_block.cells (acc ++ List.replicate (16 - n) 0)) 62 (0, 0))) ∧ Aside0 (wr.heap[g9]? = some (.cells (stream_block.cells (List.replicate 16 0)) 62 (0, 0))) ∧ Aside0 (Below w.heap.size w wr)) (fun v24 _ => 16 - (intOf v24).toNat)
  case atStart => exact ⟨0, [], by omega, rfl, ⟨rfl⟩, ⟨HF.out⟩, BK8, BK9, HB⟩
  case round =>
    clear HB BK8 BK9
    obtain ⟨n, acc, hn, rfl, HN, HW, BK8, BK9, HB⟩ := hrel
    by_cases hlt : n < 16
    · have hw := HW.out
      rw [show 16 - n = (15 - n) + 1 by omega] at hw
      obtain ⟨v, hv, hw2⟩ := Option.bind_eq_some_iff.mp hw
      rw [HN.out] at hv
      have HV := Lib.hid hv
      have HW2 := Lib.hid hw2
      clear hw hv hw2 HW
      go_wp2_with fail
      refine (octet_Little.calls k _ v _ HV.out).mono ?_
      rintro e_ w4 ⟨rfl, hb4⟩
      have BK8' := Aside0.mk (blk_below BK8.out hb4)
      have BK9' := Aside0.mk (blk_below BK9.out hb4)
      have HB' := Aside0.mk (below_step HB.out hb4)
      have hc8 : w4.cell? ⟨g8, n, none⟩ = some (.int .u32 0) := by
        have hN := HN.out
        rw [blk_cell BK8'.out, stream_block.cells_get _ _ (by rw [List.length_append, List.length_replicate]; omega), List.getD_eq_getElem?_getD, List.getElem?_append_right (by omega), List.getElem?_replicate, if_pos (by omega)]; rfl
      have hf8 : w4.frozen? ⟨g8, n, none⟩ = false := blk_frozen BK8'.out n
      clear BK8 BK9 HB hb4
      go_wp2_with fail
      go_round
      case rel => exact ⟨n + 1, acc ++ [v % 4294967296], by omega, by go_num, ⟨by rw [List.length_append, HN.out]; rfl⟩, ⟨by rw [show 16 - (n + 1) = 15 - n by omega]; exact HW2.out⟩, ⟨by rw [show 16 - (n + 1) = 16 - n - 1 by omega]; exact blk_put BK8'.out _ _ (stream_block.cells_set acc n (16 - n) _ HN.out (by omega))⟩, ⟨blk_far BK9'.out (by have := L9.out; exact fun e => by simp at e; omega) _⟩, ⟨HB'.out.setCell (p := ⟨g8, n, none⟩) L8.out _⟩⟩
      case measure => simp [intOf]; omega
    · obtain rfl : n = 16 := by omega
      have hw := HW.out
      simp only [Nat.sub_self, stream_block.words, Option.some.injEq] at hw
      subst hw
      have BK8' := Aside0.mk (show wr.heap[g8]? = some (.cells (stream_block.cells acc) 62 (0, 0)) by have := BK8.out; simpa using this)
      have EI := Aside0.mk (show (Try.prog.info? 62).map (·.size) = some (stream_block.cells acc).size by rw [stream_block.cells_size, HN.out]; kernel_rfl)
      have EC := Aside0.mk (stream_block.cells_one acc)
      have EH := Aside0.mk (show (stream_block.cells (List.replicate 16 0)).size = (stream_block.cells acc).size by rw [stream_block.cells_size, stream_block.cells_size, HN.out]; rfl)
      clear HW BK8 HF hss
      go_wp2_with (first | ((with_reducible refine gate_dst (N := 39) rfl ?_); refine wpList_load_row rfl 62 _ rfl g8 rfl 62 _ (0, 0) _ BK8'.out Try.underlying62 rfl EI.out ?_) | ((with_reducible refine gate_store (t := 62) (p := 9) rfl ?_); refine wpList_store_row rfl 62 _ _ rfl g9 (stream_block.cells acc) rfl rfl 62 _ BK9.out EI.out EH.out EC.out ?_))
      have BK8 := Aside0.mk (show (wr.setRow g9 (stream_block.cells acc)).heap[g8]? = some (.cells (stream_block.cells acc) 62 (0, 0)) by rw [setRow_other _ _ _ _ (by have := L9.out; omega)]; exact BK8'.out)
      have BK9' := Aside0.mk (setRow_heap wr g9 _ (stream_block.cells acc) _ _ BK9.out)
      have HB' := Aside0.mk (stream_block.bsr HB.out (g := g9) (by have := L9.out; have := L8.out; omega) (stream_block.cells acc))
      clear BK8' BK9 HB EH EC
      generalize wr.setRow g9 (stream_block.cells acc) = wr2 at *
      go_loopw [40] (fun v40 wq => ∃ (i : Nat) (y : List Int), i ≤ 10 ∧ v40 = .int .i64 i ∧ Aside0 (stream_block.mixes (stream_block.all.drop (8 * i)) y = some x) ∧ Aside0 (y.length = 16) ∧ Aside0 (wq.heap[g8]? = some (.cells (stream_block.cells acc) 62 (0, 0))) ∧ Aside0 (wq.heap[g9]? = some (.cells (stream_block.cells y) 62 (0, 0))) ∧ Aside0 (Below w.heap.size w wq)) (fun v40 _ => 10 - (intOf v40).toNat)
      case atStart => exact ⟨0, acc, by omega, rfl, ⟨HX.out⟩, HN, BK8, BK9', HB'⟩
      case round =>
        clear BK8 BK9' HB'
        obtain ⟨i, y, hi, rfl, HM, HY, BK8, BK9, HB⟩ := hrel
        by_cases hlt : i < 10
        · go_wp2_with fail
          refine (stream_block.places_calls _).mono ?_
          rintro e_ w4 ⟨rfl, hb4⟩
          have BK8' := Aside0.mk (blk_below BK8.out hb4)
          have BK9' := Aside0.mk (blk_below BK9.out hb4)
          have HB' := Aside0.mk (below_step HB.out hb4)
          clear BK8 BK9 HB hb4
          go_wp2_with fail
          go_loopw [43] (fun v43 wq => ∃ (j : Nat) (y : List Int), j ≤ 8 ∧ v43 = .int .i64 j ∧ Aside0 (stream_block.mixes (stream_block.all.drop (8 * i + j)) y = some x) ∧ Aside0 (y.length = 16) ∧ Aside0 (wq.heap[g8]? = some (.cells (stream_block.cells acc) 62 (0, 0))) ∧ Aside0 (wq.heap[g9]? = some (.cells (stream_block.cells y) 62 (0, 0))) ∧ Aside0 (Below w.heap.size w wq)) (fun v43 _ => 8 - (intOf v43).toNat)
          case atStart => exact ⟨0, y, by omega, rfl, ⟨HM.out⟩, HY, BK8', BK9', HB'⟩
          case round =>
            clear BK8' BK9' HB' HM HY y
            obtain ⟨j, y, hj, rfl, HM, HY, BK8, BK9, HB⟩ := hrel
            by_cases hlt2 : j < 8
            · obtain ⟨a, b, c', d, hpl, ha, hb, hc, hd, hix⟩ := stream_block.index_places j hlt2
              have hm := HM.out
              rw [stream_block.all_drop i j hlt hlt2 _ hpl] at hm
              simp only [stream_block.mixes] at hm
              obtain ⟨y2, hm1, hm2⟩ := Option.bind_eq_some_iff.mp hm
              simp only [stream_block.mix] at hm1
              obtain ⟨⟨r0, r1, r2, r3⟩, hq, hy2⟩ := Option.map_eq_some_iff.mp hm1
              have HQ := Lib.hid hq
              have HY2 := Lib.hid hy2
              have HM2 := Lib.hid hm2
              clear hm hm1 hm2 hq hy2 HM hpl
              have EI4 := Aside0.mk (show (Try.prog.info? 63).map (·.size) = some (#[Value.int .i64 a, .int .i64 b, .int .i64 c', .int .i64 d] : Array Value).size by kernel_rfl)
              have EC4 := Aside0.mk (show (#[Value.int .i64 a, .int .i64 b, .int .i64 c', .int .i64 d] : Array Value).all (·.oneCell') = true by simp [Value.oneCell'])
              go_wp2_with (first | (((with_reducible refine gate_dst (N := 12) rfl ?_); refine box_event ?hg (N := 12) ?hd (cs := #[.int .i64 0, .int .i64 0, .int .i64 0, .int .i64 0]) (t := 63) ?hr ?_; (case hd => rfl); (case hg => rfl); (case hr => first | (go_simp; done) | (go_simp; rfl)); intro g12 hg12 w5 hbox hbx; have BK12 := Aside0.mk hbox; have HB5 := Aside0.mk hbx; have HG12 := Aside0.mk hg12; clear hbox hbx hg12)) | ((with_reducible refine gate_store (t := 63) (p := 12) rfl ?_); refine wpList_store_row rfl 63 _ _ rfl g12 #[.int .i64 a, .int .i64 b, .int .i64 c', .int .i64 d] rfl rfl 63 _ BK12.out EI4.out rfl EC4.out ?_))
              have N12 := Aside0.mk (show g9 < g12 by rw [HG12.out]; exact blk_lt BK9.out)
              have BK8b := Aside0.mk (show (w5.setRow g12 #[.int .i64 a, .int .i64 b, .int .i64 c', .int .i64 d]).heap[g8]? = some (.cells (stream_block.cells acc) 62 (0, 0)) by rw [setRow_other _ _ _ _ (by have := L9.out; have := N12.out; omega)]; exact blk_below BK8.out HB5.out)
              have BK9b := Aside0.mk (show (w5.setRow g12 #[.int .i64 a, .int .i64 b, .int .i64 c', .int .i64 d]).heap[g9]? = some (.cells (stream_block.cells y) 62 (0, 0)) by rw [setRow_other _ _ _ _ (by have := N12.out; omega)]; exact blk_below BK9.out HB5.out)
              have BK12b := Aside0.mk (setRow_heap w5 g12 _ (#[.int .i64 a, .int .i64 b, .int .i64 c', .int .i64 d] : Array Value) _ _ BK12.out)
              have HBb := Aside0.mk (stream_block.bsr (below_step HB.out HB5.out) (g := g12) (by have := L9.out; have := L8.out; have := N12.out; omega) #[.int .i64 a, .int .i64 b, .int .i64 c', .int .i64 d])
              clear BK8 BK9 HB BK12 HB5 HG12 EI4 EC4
              generalize w5.setRow g12 #[.int .i64 a, .int .i64 b, .int .i64 c', .int .i64 d] = w6 at *
              have hp0 : w6.drew.cell? ⟨g12, 0, none⟩ = some (.int .i64 a) := blk_cell BK12b.out 0
              have hp1 : w6.drew.cell? ⟨g12, 1, none⟩ = some (.int .i64 b) := blk_cell BK12b.out 1
              have hp2 : w6.drew.cell? ⟨g12, 2, none⟩ = some (.int .i64 c') := blk_cell BK12b.out 2
              have hp3 : w6.drew.cell? ⟨g12, 3, none⟩ = some (.int .i64 d) := blk_cell BK12b.out 3
              have hg : ∀ e : Nat, e < 16 → w6.drew.cell? ⟨g9, e, none⟩ = some (.int .u32 (y.getD e 0)) := fun e he => (blk_cell BK9b.out e).trans (stream_block.cells_get y e (by rw [HY.out]; exact he))
              have hy0 := hg a ha
              have hy1 := hg b hb
              have hy2 := hg c' hc
              have hy3 := hg d hd
              have hf0 : w6.drew.frozen? ⟨g9, a, none⟩ = false := blk_frozen BK9b.out a
              have hf1 : w6.drew.frozen? ⟨g9, b, none⟩ = false := blk_frozen BK9b.out b
              have hf2 : w6.drew.frozen? ⟨g9, c', none⟩ = false := blk_frozen BK9b.out c'
              have hf3 : w6.drew.frozen? ⟨g9, d, none⟩ = false := blk_frozen BK9b.out d
              have BK8c := Aside0.mk (show w6.drew.heap[g8]? = some (.cells (stream_block.cells acc) 62 (0, 0)) from BK8b.out)
              have BK9c := Aside0.mk (show w6.drew.heap[g9]? = some (.cells (stream_block.cells y) 62 (0, 0)) from BK9b.out)
              have HBc := Aside0.mk (below_drew1 HBb.out)
              have ia := eq_true (show (a : Int) < 16 by omega)
              have ib := eq_true (show (b : Int) < 16 by omega)
              have ic := eq_true (show (c' : Int) < 16 by omega)
              have id_ := eq_true (show (d : Int) < 16 by omega)
              clear hg BK8b BK9b BK12b HBb hix
              refine tw_start (n := 38) (T := fun w' => w'.cell? ⟨g12, 0, none⟩ = some (.int .i64 a) ∧ w'.cell? ⟨g12, 1, none⟩ = some (.int .i64 b) ∧ w'.cell? ⟨g12, 2, none⟩ = some (.int .i64 c') ∧ w'.cell? ⟨g12, 3, none⟩ = some (.int .i64 d)) (S := fun w' => w'.cell? ⟨g9, a, none⟩ = some (.int .u32 (y.getD a 0)) ∧ w'.cell? ⟨g9, b, none⟩ = some (.int .u32 (y.getD b 0)) ∧ w'.cell? ⟨g9, c', none⟩ = some (.int .u32 (y.getD c' 0)) ∧ w'.cell? ⟨g9, d, none⟩ = some (.int .u32 (y.getD d 0))) (ds := [31, 33, 35, 37]) #[false, false, false, false, false, false, false, false, false, false, false, false, false, false, false, false, false, false, false, false, false, false, false, false, false, false, false, false, false, false, false, false, false, false, false, false, false, false] (by kernel_rfl) rfl rfl ⟨hp0, hp1, hp2, hp3⟩ ⟨hy0, hy1, hy2, hy3⟩ (fun hHT hHS => ?_)
              generalize w6.drew = w7 at *
              refine tw_pure (i := 0) (N := some 47) (v := ?_) (a' := ?_) #[true, false, false, false, false, false, false, false, false, false, false, false, false, false, false, false, false, false, false, false, false, false, false, false, false, false, false, false, false, false, false, false, false, false, false, false, false, false] rfl rfl (by kernel_rfl) (fun _ _ _ h => h) (Or.inl ⟨by rfl, ?_⟩) ?_ ?_
              rotate_left
              · intro w'
                go_simp
                with_reducible rfl
              rotate_left
              · simp only [Act.put, List.setIfInBounds_toArray, List.set_cons_zero, List.set_cons_succ, i64_w, i32_w, IntKind.wrap_u32]
                rfl
              refine tw_pure (i := 2) (N := some 49) (v := ?_) (a' := ?_) #[true, false, true, false, false, false, false, false, false, false, false, false, false, false, false, false, false, false, false, false, false, false, false, false, false, false, false, false, false, false, false, false, false, false, false, false, false, false] rfl rfl (by kernel_rfl) (fun _ _ _ h => h) (Or.inl ⟨by rfl, ?_⟩) ?_ ?_
              rotate_left
              · intro w'
                go_simp
                with_reducible rfl
              rotate_left
              · simp only [Act.put, List.setIfInBounds_toArray, List.set_cons_zero, List.set_cons_succ, i64_w, i32_w, IntKind.wrap_u32]
                rfl
              refine tw_pure (i := 4) (N := some 51) (v := ?_) (a' := ?_) #[true, false, true, false, true, false, false, false, false, false, false, false, false, false, false, false, false, false, false, false, false, false, false, false, false, false, false, false, false, false, false, false, false, false, false, false, false, false] rfl rfl (by kernel_rfl) (fun _ _ _ h => h) (Or.inl ⟨by rfl, ?_⟩) ?_ ?_
              rotate_left
              · intro w'
                go_simp
                with_reducible rfl
              rotate_left
              · simp only [Act.put, List.setIfInBounds_toArray, List.set_cons_zero, List.set_cons_succ, i64_w, i32_w, IntKind.wrap_u32]
                rfl
              refine tw_pure (i := 6) (N := some 53) (v := ?_) (a' := ?_) #[true, false, true, false, true, false, true, false, false, false, false, false, false, false, false, false, false, false, false, false, false, false, false, false, false, false, false, false, false, false, false, false, false, false, false, false, false, false] rfl rfl (by kernel_rfl) (fun _ _ _ h => h) (Or.inl ⟨by rfl, ?_⟩) ?_ ?_
              rotate_left
              · intro w'
                go_simp
                with_reducible rfl
              rotate_left
              · simp only [Act.put, List.setIfInBounds_toArray, List.set_cons_zero, List.set_cons_succ, i64_w, i32_w, IntKind.wrap_u32]
                rfl
              refine tw_pure (i := 8) (N := some 55) (v := ?_) (a' := ?_) #[true, false, true, false, true, false, true, false, true, false, false, false, false, false, false, false, false, false, false, false, false, false, false, false, false, false, false, false, false, false, false, false, false, false, false, false, false, false] rfl rfl (by kernel_rfl) (fun _ _ _ h => h) (Or.inl ⟨by rfl, ?_⟩) ?_ ?_
              rotate_left
              · intro w'
                go_simp
                with_reducible rfl
              rotate_left
              · simp only [Act.put, List.setIfInBounds_toArray, List.set_cons_zero, List.set_cons_succ, i64_w, i32_w, IntKind.wrap_u32]
                rfl
              refine tw_pure (i := 12) (N := some 59) (v := ?_) (a' := ?_) #[true, false, true, false, true, false, true, false, true, false, false, false, true, false, false, false, false, false, false, false, false, false, false, false, false, false, false, false, false, false, false, false, false, false, false, false, false, false] rfl rfl (by kernel_rfl) (fun _ _ _ h => h) (Or.inl ⟨by rfl, ?_⟩) ?_ ?_
              rotate_left
              · intro w'
                go_simp
                with_reducible rfl
              rotate_left
              · simp only [Act.put, List.setIfInBounds_toArray, List.set_cons_zero, List.set_cons_succ, i64_w, i32_w, IntKind.wrap_u32]
                rfl
              refine tw_pure (i := 16) (N := some 63) (v := ?_) (a' := ?_) #[true, false, true, false, true, false, true, false, true, false, false, false, true, false, false, false, true, false, false, false, false, false, false, false, false, false, false, false, false, false, false, false, false, false, false, false, false, false] rfl rfl (by kernel_rfl) (fun _ _ _ h => h) (Or.inl ⟨by rfl, ?_⟩) ?_ ?_
              rotate_left
              · intro w'
                go_simp
                with_reducible rfl
              rotate_left
              · simp only [Act.put, List.setIfInBounds_toArray, List.set_cons_zero, List.set_cons_succ, i64_w, i32_w, IntKind.wrap_u32]
                rfl
              refine tw_pure (i := 20) (N := some 67) (v := ?_) (a' := ?_) #[true, false, true, false, true, false, true, false, true, false, false, false, true, false, false, false, true, false, false, false, true, false, false, false, false, false, false, false, false, false, false, false, false, false, false, false, false, false] rfl rfl (by kernel_rfl) (fun _ _ _ h => h) (Or.inl ⟨by rfl, ?_⟩) ?_ ?_
              rotate_left
              · intro w'
                go_simp
                with_reducible rfl
              rotate_left
              · simp only [Act.put, List.setIfInBounds_toArray, List.set_cons_zero, List.set_cons_succ, i64_w, i32_w, IntKind.wrap_u32]
                rfl
              refine tw_takeT (i := 1) (N := some 48) (v := ?_) (a' := ?_) #[true, true, true, false, true, false, true, false, true, false, false, false, true, false, false, false, true, false, false, false, true, false, false, false, false, false, false, false, false, false, false, false, false, false, false, false, false, false] rfl rfl (by kernel_rfl) (fun _ _ _ h => h) (Or.inl ⟨by rfl, ?_⟩) hHT ?_ ?_
              rotate_left
              · rintro w' ⟨s0, s1, s2, s3⟩
                go_simp
                with_reducible rfl
              rotate_left
              · simp only [Act.put, List.setIfInBounds_toArray, List.set_cons_zero, List.set_cons_succ, i64_w, i32_w, IntKind.wrap_u32]
                rfl
              refine tw_takeT (i := 3) (N := some 50) (v := ?_) (a' := ?_) #[true, true, true, true, true, false, true, false, true, false, false, false, true, false, false, false, true, false, false, false, true, false, false, false, false, false, false, false, false, false, false, false, false, false, false, false, false, false] rfl rfl (by kernel_rfl) (fun _ _ _ h => h) (Or.inl ⟨by rfl, ?_⟩) hHT ?_ ?_
              rotate_left
              · rintro w' ⟨s0, s1, s2, s3⟩
                go_simp
                with_reducible rfl
              rotate_left
              · simp only [Act.put, List.setIfInBounds_toArray, List.set_cons_zero, List.set_cons_succ, i64_w, i32_w, IntKind.wrap_u32]
                rfl
              refine tw_takeT (i := 5) (N := some 52) (v := ?_) (a' := ?_) #[true, true, true, true, true, true, true, false, true, false, false, false, true, false, false, false, true, false, false, false, true, false, false, false, false, false, false, false, false, false, false, false, false, false, false, false, false, false] rfl rfl (by kernel_rfl) (fun _ _ _ h => h) (Or.inl ⟨by rfl, ?_⟩) hHT ?_ ?_
              rotate_left
              · rintro w' ⟨s0, s1, s2, s3⟩
                go_simp
                with_reducible rfl
              rotate_left
              · simp only [Act.put, List.setIfInBounds_toArray, List.set_cons_zero, List.set_cons_succ, i64_w, i32_w, IntKind.wrap_u32]
                rfl
              refine tw_takeT (i := 7) (N := some 54) (v := ?_) (a' := ?_) #[true, true, true, true, true, true, true, true, true, false, false, false, true, false, false, false, true, false, false, false, true, false, false, false, false, false, false, false, false, false, false, false, false, false, false, false, false, false] rfl rfl (by kernel_rfl) (fun _ _ _ h => h) (Or.inl ⟨by rfl, ?_⟩) hHT ?_ ?_
              rotate_left
              · rintro w' ⟨s0, s1, s2, s3⟩
                go_simp
                with_reducible rfl
              rotate_left
              · simp only [Act.put, List.setIfInBounds_toArray, List.set_cons_zero, List.set_cons_succ, i64_w, i32_w, IntKind.wrap_u32]
                rfl
              refine tw_takeT (i := 9) (N := some 56) (v := ?_) (a' := ?_) #[true, true, true, true, true, true, true, true, true, true, false, false, true, false, false, false, true, false, false, false, true, false, false, false, false, false, false, false, false, false, false, false, false, false, false, false, false, false] rfl rfl (by kernel_rfl) (fun _ _ _ h => h) (Or.inl ⟨by rfl, ?_⟩) hHT ?_ ?_
              rotate_left
              · rintro w' ⟨s0, s1, s2, s3⟩
                go_simp
                with_reducible rfl
              rotate_left
              · simp only [Act.put, List.setIfInBounds_toArray, List.set_cons_zero, List.set_cons_succ, i64_w, i32_w, IntKind.wrap_u32]
                rfl
              refine tw_takeT (i := 13) (N := some 60) (v := ?_) (a' := ?_) #[true, true, true, true, true, true, true, true, true, true, false, false, true, true, false, false, true, false, false, false, true, false, false, false, false, false, false, false, false, false, false, false, false, false, false, false, false, false] rfl rfl (by kernel_rfl) (fun _ _ _ h => h) (Or.inl ⟨by rfl, ?_⟩) hHT ?_ ?_
              rotate_left
              · rintro w' ⟨s0, s1, s2, s3⟩
                go_simp
                with_reducible rfl
              rotate_left
              · simp only [Act.put, List.setIfInBounds_toArray, List.set_cons_zero, List.set_cons_succ, i64_w, i32_w, IntKind.wrap_u32]
                rfl
              refine tw_takeT (i := 17) (N := some 64) (v := ?_) (a' := ?_) #[true, true, true, true, true, true, true, true, true, true, false, false, true, true, false, false, true, true, false, false, true, false, false, false, false, false, false, false, false, false, false, false, false, false, false, false, false, false] rfl rfl (by kernel_rfl) (fun _ _ _ h => h) (Or.inl ⟨by rfl, ?_⟩) hHT ?_ ?_
              rotate_left
              · rintro w' ⟨s0, s1, s2, s3⟩
                go_simp
                with_reducible rfl
              rotate_left
              · simp only [Act.put, List.setIfInBounds_toArray, List.set_cons_zero, List.set_cons_succ, i64_w, i32_w, IntKind.wrap_u32]
                rfl
              refine tw_takeT (i := 21) (N := some 68) (v := ?_) (a' := ?_) #[true, true, true, true, true, true, true, true, true, true, false, false, true, true, false, false, true, true, false, false, true, true, false, false, false, false, false, false, false, false, false, false, false, false, false, false, false, false] rfl rfl (by kernel_rfl) (fun _ _ _ h => h) (Or.inl ⟨by rfl, ?_⟩) hHT ?_ ?_
              rotate_left
              · rintro w' ⟨s0, s1, s2, s3⟩
                go_simp
                with_reducible rfl
              rotate_left
              · simp only [Act.put, List.setIfInBounds_toArray, List.set_cons_zero, List.set_cons_succ, i64_w, i32_w, IntKind.wrap_u32]
                rfl
              refine tw_pure (i := 10) (N := some 57) (v := ?_) (a' := ?_) #[true, true, true, true, true, true, true, true, true, true, true, false, true, true, false, false, true, true, false, false, true, true, false, false, false, false, false, false, false, false, false, false, false, false, false, false, false, false] rfl rfl (by kernel_rfl) (fun _ _ _ h => h) (Or.inl ⟨by rfl, ?_⟩) ?_ ?_
              rotate_left
              · intro w'
                go_simp
                with_reducible rfl
              rotate_left
              · simp only [Act.put, List.setIfInBounds_toArray, List.set_cons_zero, List.set_cons_succ, i64_w, i32_w, IntKind.wrap_u32]
                rfl
              refine tw_pure (i := 14) (N := some 61) (v := ?_) (a' := ?_) #[true, true, true, true, true, true, true, true, true, true, true, false, true, true, true, false, true, true, false, false, true, true, false, false, false, false, false, false, false, false, false, false, false, false, false, false, false, false] rfl rfl (by kernel_rfl) (fun _ _ _ h => h) (Or.inl ⟨by rfl, ?_⟩) ?_ ?_
              rotate_left
              · intro w'
                go_simp
                with_reducible rfl
              rotate_left
              · simp only [Act.put, List.setIfInBounds_toArray, List.set_cons_zero, List.set_cons_succ, i64_w, i32_w, IntKind.wrap_u32]
                rfl
              refine tw_pure (i := 18) (N := some 65) (v := ?_) (a' := ?_) #[true, true, true, true, true, true, true, true, true, true, true, false, true, true, true, false, true, true, true, false, true, true, false, false, false, false, false, false, false, false, false, false, false, false, false, false, false, false] rfl rfl (by kernel_rfl) (fun _ _ _ h => h) (Or.inl ⟨by rfl, ?_⟩) ?_ ?_
              rotate_left
              · intro w'
                go_simp
                with_reducible rfl
              rotate_left
              · simp only [Act.put, List.setIfInBounds_toArray, List.set_cons_zero, List.set_cons_succ, i64_w, i32_w, IntKind.wrap_u32]
                rfl
              refine tw_pure (i := 22) (N := some 69) (v := ?_) (a' := ?_) #[true, true, true, true, true, true, true, true, true, true, true, false, true, true, true, false, true, true, true, false, true, true, true, false, false, false, false, false, false, false, false, false, false, false, false, false, false, false] rfl rfl (by kernel_rfl) (fun _ _ _ h => h) (Or.inl ⟨by rfl, ?_⟩) ?_ ?_
              rotate_left
              · intro w'
                go_simp
                with_reducible rfl
              rotate_left
              · simp only [Act.put, List.setIfInBounds_toArray, List.set_cons_zero, List.set_cons_succ, i64_w, i32_w, IntKind.wrap_u32]
                rfl
              refine tw_takeS (i := 11) (N := some 58) (v := ?_) (a' := ?_) #[true, true, true, true, true, true, true, true, true, true, true, true, true, true, true, false, true, true, true, false, true, true, true, false, false, false, false, false, false, false, false, false, false, false, false, false, false, false] rfl rfl (by kernel_rfl) (fun _ _ _ h => h) (Or.inl ⟨by rfl, ?_⟩) hHS ?_ ?_
              rotate_left
              · rintro w' ⟨s0, s1, s2, s3⟩
                go_simp
                with_reducible rfl
              rotate_left
              · simp only [Act.put, List.setIfInBounds_toArray, List.set_cons_zero, List.set_cons_succ, i64_w, i32_w, IntKind.wrap_u32]
                rfl
              refine tw_takeS (i := 15) (N := some 62) (v := ?_) (a' := ?_) #[true, true, true, true, true, true, true, true, true, true, true, true, true, true, true, true, true, true, true, false, true, true, true, false, false, false, false, false, false, false, false, false, false, false, false, false, false, false] rfl rfl (by kernel_rfl) (fun _ _ _ h => h) (Or.inl ⟨by rfl, ?_⟩) hHS ?_ ?_
              rotate_left
              · rintro w' ⟨s0, s1, s2, s3⟩
                go_simp
                with_reducible rfl
              rotate_left
              · simp only [Act.put, List.setIfInBounds_toArray, List.set_cons_zero, List.set_cons_succ, i64_w, i32_w, IntKind.wrap_u32]
                rfl
              refine tw_takeS (i := 19) (N := some 66) (v := ?_) (a' := ?_) #[true, true, true, true, true, true, true, true, true, true, true, true, true, true, true, true, true, true, true, true, true, true, true, false, false, false, false, false, false, false, false, false, false, false, false, false, false, false] rfl rfl (by kernel_rfl) (fun _ _ _ h => h) (Or.inl ⟨by rfl, ?_⟩) hHS ?_ ?_
              rotate_left
              · rintro w' ⟨s0, s1, s2, s3⟩
                go_simp
                with_reducible rfl
              rotate_left
              · simp only [Act.put, List.setIfInBounds_toArray, List.set_cons_zero, List.set_cons_succ, i64_w, i32_w, IntKind.wrap_u32]
                rfl
              refine tw_takeS (i := 23) (N := some 70) (v := ?_) (a' := ?_) #[true, true, true, true, true, true, true, true, true, true, true, true, true, true, true, true, true, true, true, true, true, true, true, true, false, false, false, false, false, false, false, false, false, false, false, false, false, false] rfl rfl (by kernel_rfl) (fun _ _ _ h => h) (Or.inl ⟨by rfl, ?_⟩) hHS ?_ ?_
              rotate_left
              · rintro w' ⟨s0, s1, s2, s3⟩
                go_simp
                with_reducible rfl
              rotate_left
              · simp only [Act.put, List.setIfInBounds_toArray, List.set_cons_zero, List.set_cons_succ, i64_w, i32_w, IntKind.wrap_u32]
                rfl
              refine tw_one (i := 24) (N := some 71) #[true, true, true, true, true, true, true, true, true, true, true, true, true, true, true, true, true, true, true, true, true, true, true, true, true, false, false, false, false, false, false, false, false, false, false, false, false, false] rfl rfl (by kernel_rfl) (fun K hK => ?_)
              refine goes_ Try.func9 (by kernel_rfl) rfl #[.int .u32 (y.getD a 0), .int .u32 (y.getD b 0), .int .u32 (y.getD c' 0), .int .u32 (y.getD d 0)] (by rfl) rfl rfl (by (try simp only [List.map_toArray, List.map_cons, List.map_nil]); first | done | rfl) ?_
              with_reducible refine (stream_Quarter.calls _ _ _ _ r0 r1 r2 r3 _ HQ.out).mono ?_
              rintro e_ w_ ⟨rfl, ⟨nd, rfl⟩⟩
              refine ⟨_, rfl, ?_⟩
              clear hHT hHS
              refine hK.out _ _ ⟨hp0, hp1, hp2, hp3⟩ ⟨hy0, hy1, hy2, hy3⟩ (fun hHT hHS => ?_)
              clear hK K
              refine tw_norm (a' := ?_) ?_ ?_
              rotate_left
              · show Act.put _ (some 71) _ = _
                simp only [Act.put, List.setIfInBounds_toArray, List.set_cons_zero, List.set_cons_succ, i64_w, i32_w, IntKind.wrap_u32]
                rfl
              refine tw_pure (i := 25) (N := some 46) (v := ?_) (a' := ?_) #[true, true, true, true, true, true, true, true, true, true, true, true, true, true, true, true, true, true, true, true, true, true, true, true, true, true, false, false, false, false, false, false, false, false, false, false, false, false] rfl rfl (by kernel_rfl) (fun _ _ _ h => h) (Or.inl ⟨by rfl, ?_⟩) ?_ ?_
              rotate_left
              · intro w'
                go_simp
                with_reducible rfl
              rotate_left
              · simp only [Act.put, List.setIfInBounds_toArray, List.set_cons_zero, List.set_cons_succ, i64_w, i32_w, IntKind.wrap_u32]
                rfl
              refine tw_pure (i := 26) (N := some 72) (v := ?_) (a' := ?_) #[true, true, true, true, true, true, true, true, true, true, true, true, true, true, true, true, true, true, true, true, true, true, true, true, true, true, true, false, false, false, false, false, false, false, false, false, false, false] rfl rfl (by kernel_rfl) (fun _ _ _ h => h) (Or.inl ⟨by rfl, ?_⟩) ?_ ?_
              rotate_left
              · intro w'
                go_simp
                with_reducible rfl
              rotate_left
              · simp only [Act.put, List.setIfInBounds_toArray, List.set_cons_zero, List.set_cons_succ, i64_w, i32_w, IntKind.wrap_u32]
                rfl
              refine tw_pure (i := 27) (N := some 73) (v := ?_) (a' := ?_) #[true, true, true, true, true, true, true, true, true, true, true, true, true, true, true, true, true, true, true, true, true, true, true, true, true, true, true, true, false, false, false, false, false, false, false, false, false, false] rfl rfl (by kernel_rfl) (fun _ _ _ h => h) (Or.inl ⟨by rfl, ?_⟩) ?_ ?_
              rotate_left
              · intro w'
                go_simp
                with_reducible rfl
              rotate_left
              · simp only [Act.put, List.setIfInBounds_toArray, List.set_cons_zero, List.set_cons_succ, i64_w, i32_w, IntKind.wrap_u32]
                rfl
              refine tw_pure (i := 28) (N := some 74) (v := ?_) (a' := ?_) #[true, true, true, true, true, true, true, true, true, true, true, true, true, true, true, true, true, true, true, true, true, true, true, true, true, true, true, true, true, false, false, false, false, false, false, false, false, false] rfl rfl (by kernel_rfl) (fun _ _ _ h => h) (Or.inl ⟨by rfl, ?_⟩) ?_ ?_
              rotate_left
              · intro w'
                go_simp
                with_reducible rfl
              rotate_left
              · simp only [Act.put, List.setIfInBounds_toArray, List.set_cons_zero, List.set_cons_succ, i64_w, i32_w, IntKind.wrap_u32]
                rfl
              refine tw_pure (i := 29) (N := some 75) (v := ?_) (a' := ?_) #[true, true, true, true, true, true, true, true, true, true, true, true, true, true, true, true, true, true, true, true, true, true, true, true, true, true, true, true, true, true, false, false, false, false, false, false, false, false] rfl rfl (by kernel_rfl) (fun _ _ _ h => h) (Or.inl ⟨by rfl, ?_⟩) ?_ ?_
              rotate_left
              · intro w'
                go_simp
                with_reducible rfl
              rotate_left
              · simp only [Act.put, List.setIfInBounds_toArray, List.set_cons_zero, List.set_cons_succ, i64_w, i32_w, IntKind.wrap_u32]
                rfl
              refine tw_pure (i := 30) (N := some 76) (v := ?_) (a' := ?_) #[true, true, true, true, true, true, true, true, true, true, true, true, true, true, true, true, true, true, true, true, true, true, true, true, true, true, true, true, true, true, true, false, false, false, false, false, false, false] rfl rfl (by kernel_rfl) (fun _ _ _ h => h) (Or.inl ⟨by rfl, ?_⟩) ?_ ?_
              rotate_left
              · intro w'
                go_simp
                with_reducible rfl
              rotate_left
              · simp only [Act.put, List.setIfInBounds_toArray, List.set_cons_zero, List.set_cons_succ, i64_w, i32_w, IntKind.wrap_u32]
                rfl
              refine tw_last (i := 31) (N := none) #[true, true, true, true, true, true, true, true, true, true, true, true, true, true, true, true, true, true, true, true, true, true, true, true, true, true, true, true, true, true, true, true, false, false, false, false, false, false] rfl rfl (by kernel_rfl) (by decide) (fun K hK => ?_)
              refine skip_ (w1 := ?_) (by rfl) rfl ?_ ?_
              rotate_left
              · first | (go_simp; rfl) | (have hSC_ := @cell_set_blk; go_simp; rfl)
              refine hK.out _ _ (stream_block.keep4 (Nat.ne_of_lt N12.out) hHT) (fun hHT => ?_)
              clear hK K
              refine tw_pure (i := 32) (N := some 77) (v := ?_) (a' := ?_) #[true, true, true, true, true, true, true, true, true, true, true, true, true, true, true, true, true, true, true, true, true, true, true, true, true, true, true, true, true, true, true, true, true, false, false, false, false, false] rfl rfl (by kernel_rfl) (fun _ _ _ h => h) (Or.inl ⟨by rfl, ?_⟩) ?_ ?_
              rotate_left
              · intro w'
                go_simp
                with_reducible rfl
              rotate_left
              · simp only [Act.put, List.setIfInBounds_toArray, List.set_cons_zero, List.set_cons_succ, i64_w, i32_w, IntKind.wrap_u32]
                rfl
              refine tw_last (i := 33) (N := none) #[true, true, true, true, true, true, true, true, true, true, true, true, true, true, true, true, true, true, true, true, true, true, true, true, true, true, true, true, true, true, true, true, true, true, false, false, false, false] rfl rfl (by kernel_rfl) (by decide) (fun K hK => ?_)
              refine skip_ (w1 := ?_) (by rfl) rfl ?_ ?_
              rotate_left
              · first | (go_simp; rfl) | (have hSC_ := @cell_set_blk; go_simp; rfl)
              refine hK.out _ _ (stream_block.keep4 (Nat.ne_of_lt N12.out) hHT) (fun hHT => ?_)
              clear hK K
              refine tw_pure (i := 34) (N := some 78) (v := ?_) (a' := ?_) #[true, true, true, true, true, true, true, true, true, true, true, true, true, true, true, true, true, true, true, true, true, true, true, true, true, true, true, true, true, true, true, true, true, true, true, false, false, false] rfl rfl (by kernel_rfl) (fun _ _ _ h => h) (Or.inl ⟨by rfl, ?_⟩) ?_ ?_
              rotate_left
              · intro w'
                go_simp
                with_reducible rfl
              rotate_left
              · simp only [Act.put, List.setIfInBounds_toArray, List.set_cons_zero, List.set_cons_succ, i64_w, i32_w, IntKind.wrap_u32]
                rfl
              refine tw_last (i := 35) (N := none) #[true, true, true, true, true, true, true, true, true, true, true, true, true, true, true, true, true, true, true, true, true, true, true, true, true, true, true, true, true, true, true, true, true, true, true, true, false, false] rfl rfl (by kernel_rfl) (by decide) (fun K hK => ?_)
              refine skip_ (w1 := ?_) (by rfl) rfl ?_ ?_
              rotate_left
              · first | (go_simp; rfl) | (have hSC_ := @cell_set_blk; go_simp; rfl)
              refine hK.out _ _ (stream_block.keep4 (Nat.ne_of_lt N12.out) hHT) (fun hHT => ?_)
              clear hK K
              refine tw_pure (i := 36) (N := some 79) (v := ?_) (a' := ?_) #[true, true, true, true, true, true, true, true, true, true, true, true, true, true, true, true, true, true, true, true, true, true, true, true, true, true, true, true, true, true, true, true, true, true, true, true, true, false] rfl rfl (by kernel_rfl) (fun _ _ _ h => h) (Or.inl ⟨by rfl, ?_⟩) ?_ ?_
              rotate_left
              · intro w'
                go_simp
                with_reducible rfl
              rotate_left
              · simp only [Act.put, List.setIfInBounds_toArray, List.set_cons_zero, List.set_cons_succ, i64_w, i32_w, IntKind.wrap_u32]
                rfl
              refine tw_last (i := 37) (N := none) #[true, true, true, true, true, true, true, true, true, true, true, true, true, true, true, true, true, true, true, true, true, true, true, true, true, true, true, true, true, true, true, true, true, true, true, true, true, true] rfl rfl (by kernel_rfl) (by decide) (fun K hK => ?_)
              refine skip_ (w1 := ?_) (by rfl) rfl ?_ ?_
              rotate_left
              · first | (go_simp; rfl) | (have hSC_ := @cell_set_blk; go_simp; rfl)
              refine hK.out _ _ (stream_block.keep4 (Nat.ne_of_lt N12.out) hHT) (fun hHT => ?_)
              clear hK K
              refine tw_done (by kernel_rfl) ?_
              go_wp2_with fail
              go_round
              case rel =>
                refine ⟨j + 1, y2, hlt2, by go_num, ⟨by rw [show 8 * i + (j + 1) = 8 * i + j + 1 by omega]; exact HM2.out⟩, ⟨by rw [← HY2.out]; simp [HY.out]⟩, ⟨?_⟩, ⟨?_⟩, ⟨?_⟩⟩
                · have hne := L9.out
                  exact blk_far (blk_far (blk_far (blk_far BK8c.out (p := ⟨g9, a, none⟩) (by simp; omega) _) (p := ⟨g9, b, none⟩) (by simp; omega) _) (p := ⟨g9, c', none⟩) (by simp; omega) _) (p := ⟨g9, d, none⟩) (by simp; omega) _
                · rw [← HY2.out]
                  exact blk_put (blk_put (blk_put (blk_put BK9c.out _ _ (stream_block.cells_upd _ _ _)) _ _ (stream_block.cells_upd _ _ _)) _ _ (stream_block.cells_upd _ _ _)) _ _ (stream_block.cells_upd _ _ _)
                · have h1 : w.heap.size ≤ g9 := by have := L8.out; have := L9.out; omega
                  exact ((((pw_below_drewN HBc.out nd).setCell (p := ⟨g9, a, none⟩) h1 _).setCell (p := ⟨g9, b, none⟩) h1 _).setCell (p := ⟨g9, c', none⟩) h1 _).setCell (p := ⟨g9, d, none⟩) h1 _
              case measure => simp [intOf]; omega
            · obtain rfl : j = 8 := by omega
              go_wp2_with fail
              go_round
              case rel => exact ⟨i + 1, y, hlt, by go_num, ⟨by rw [show 8 * (i + 1) = 8 * i + 8 by omega]; exact HM.out⟩, HY, BK8, BK9, HB⟩
              case measure => simp [intOf]; omega
        · obtain rfl : i = 10 := by omega
          obtain ⟨wq, rfl⟩ : ∃ q, q = wr := ⟨_, rfl⟩
          have hm := HM.out
          rw [show stream_block.all.drop (8 * 10) = [] by decide] at hm
          simp only [stream_block.mixes, Option.some.injEq] at hm
          subst hm
          have EIy := Aside0.mk (show (Try.prog.info? 62).map (·.size) = some (stream_block.cells y).size by rw [stream_block.cells_size, HY.out]; kernel_rfl)
          clear HM HX EI
          go_wp2_with ((with_reducible refine gate_dst (N := 82) rfl ?_); refine wpList_load_row rfl 62 _ rfl g9 rfl 62 _ (0, 0) _ (blk_alloc BK9.out _) Try.underlying62 rfl EIy.out ?_)
          have HI := Aside0.mk (Lib.fresh_isBuilder 49 5 wq)
          have HBB := Aside0.mk ((Below.refl wq.heap.size wq).alloc (Nat.le_refl _) (.cells #[.pointer none, .slice none 0 0] 49))
          have NB := Aside0.mk (blk_lt BK9.out)
          generalize wq.alloc (.cells #[.pointer none, .slice none 0 0] 49) = wz at *
          clear EIy
          go_loopw [83] (fun v83 wv => ∃ (n : Nat) (bs : List UInt8), n ≤ 16 ∧ v83 = .int .i64 n ∧ bs.length ≤ 1000 ∧ Aside0 (stream_block.outs k acc y (16 - n) n bs = some l) ∧ Aside0 (Lib.IsBuilder 49 5 wq.heap.size wq.heap.size (Lib.byteCells bs) wv) ∧ Aside0 (Below wq.heap.size wq wv)) (fun v83 _ => 16 - (intOf v83).toNat)
          case atStart => exact ⟨0, [], by omega, rfl, Nat.zero_le _, ⟨HL.out⟩, HI, HBB⟩
          case round =>
            clear HI HBB
            obtain ⟨n, bs, hn', rfl, hbs, HO, HI, HBB⟩ := hrel
            by_cases hlt3 : n < 16
            · have ho := HO.out
              rw [show 16 - n = (15 - n) + 1 by omega] at ho
              simp only [stream_block.outs] at ho
              obtain ⟨t, ht, ho2⟩ := Option.bind_eq_some_iff.mp ho
              by_cases htl : bs.length + t.size ≤ 1000
              case neg => rw [if_neg htl] at ho2; cases ho2
              rw [if_pos htl] at ho2
              have HT := Lib.hid ht
              have HO2 := Lib.hid ho2
              clear ho ht ho2 HO
              have hix := stream_block.index_x y n (by rw [HY.out]; exact hlt3) HY.out
              have hc8 : wr.cell? ⟨g8, n, none⟩ = some (.int .u32 (acc.getD n 0)) := by
                rw [blk_cell (blk_below BK8.out HBB.out), stream_block.cells_get _ _ (by rw [HN.out]; exact hlt3)]
              have hW64 := wrap_u64_mod32
              go_wp2_with fail
              refine (octet_PutLittle.calls k _ _ t _ HT.out).mono ?_
              rintro e_ w8 ⟨rfl, hb8⟩
              have HBB8 := Aside0.mk (HBB.out.trans (stream_block.cut hb8 HBB.out.size))
              have HI8 := Aside0.mk (stream_block.kept HI.out hb8)
              clear hix hc8 hW64 hb8 HI HBB
              have e1 : bs.length + t.size ≤ 140737488355328 := by omega
              have W1 := stream_block.bld.writeS wq.heap.size wq.heap.size bs t _ HI8.out e1 HBB8.out.size
              clear e1
              go_wp2_with fail
              refine W1.mono ?_
              clear W1
              rintro e_ w9 ⟨rfl, h9, hb9⟩
              have HI9 := Aside0.mk h9
              have HBB9 := Aside0.mk (HBB8.out.trans hb9)
              clear h9 hb9
              go_wp2_with fail
              go_round
              case rel => exact ⟨n + 1, bs ++ t.data.toList, hlt3, by go_num, by rw [List.length_append]; exact htl, ⟨by rw [show 16 - (n + 1) = 15 - n by omega]; exact HO2.out⟩, HI9, HBB9⟩
              case measure => simp [intOf]; omega
            · obtain rfl : n = 16 := by omega
              have ho := HO.out
              simp only [Nat.sub_self, stream_block.outs, Option.some.injEq] at ho
              subst ho
              clear HO
              have W1 := stream_block.bld.string_any wq.heap.size wq.heap.size bs _ HI.out HBB.out.size
              go_wp2_with (go_at_call 25; refine W1.mono ?_; rintro e_ w9 ⟨rfl, hb9⟩)
              go_ret
              exact ⟨stream_block.ret_ HR.out, below_step HB.out (HBB.out.trans hb9)⟩


end Go.Proofs.Ytdnlenhkagfiaaa.P
