-- Written by wip/inj.py (the kit's print, with contracts typed by hand beside it).
import Derived.Test.YtigbeielobdfiaaPx0
namespace Go.Proofs.Ytigbeielobdfiaa.P
open Go.RowKit Go.Proofs.YtigbeielobdfiaaW.PrintWords Go.Proofs.YtigbeielobdfiaaW.PrintLast Go.Proofs.YtigbeielobdfiaaW.PrintMore
attribute [local go_sem] max2_int min2_int max_two min_two max_three min_three max_four min_four   -- for this text's walks alone
set_option linter.unusedVariables false
set_option linter.unusedSimpArgs false

/-! ### glob_Quote: function 15 (by hand) -/

theorem glob_Quote.bld.sizeB : (Try.prog.info? 43).map (·.size) = some 2 := by kernel_rfl
theorem glob_Quote.bld.liesB : liesAt Try.prog Try.prog.depth 43 (2 / Try.prog.cellsOf 43) 0 43 1 = true := by kernel_rfl
theorem glob_Quote.bld.info8 : (Try.prog.info? 5).map (fun i => (i.zero, i.size, i.bytes)) = some (some (.int .u8 0), 1, 1) := by kernel_rfl
theorem glob_Quote.bld.cells8 : Try.prog.cellsOf 5 = 1 := by kernel_rfl
set_option maxHeartbeats 1000000 in
set_option maxRecDepth 100000 in
theorem glob_Quote.bld.check_used (b : Nat) (w : World) (h0 : w.cell? ⟨b, 0, none⟩ = some (.pointer (some ⟨b, 0, none⟩))) :
    Calls Try.prog 22 #[.pointer (some ⟨b, 0, none⟩)] w fun e w' => e = .returned (.tuple #[]) ∧ w' = w := by
  obtain ⟨j, hj, _⟩ := Option.map_eq_some_iff.1 glob_Quote.bld.sizeB
  go_enter Try.func22, Try.ntmps22
  go_wp2
  rw [Lib.run_neq_ptr_same w _ Try.underlying41 hj]
  go_wp2
  go_end0
  exact ⟨rfl, rfl⟩
set_option maxHeartbeats 1000000 in
set_option maxRecDepth 100000 in
theorem glob_Quote.bld.check_fresh (b : Nat) (w : World) (h0 : w.cell? ⟨b, 0, none⟩ = some (.pointer none)) (hsh : w.shape? b = some (43, 2)) (hfz : w.frozen? ⟨b, 0, none⟩ = false) :
    Calls Try.prog 22 #[.pointer (some ⟨b, 0, none⟩)] w fun e w' => e = .returned (.tuple #[]) ∧ w' = w.setCell ⟨b, 0, none⟩ (.pointer (some ⟨b, 0, none⟩)) := by
  obtain ⟨j, hj, hjs⟩ := Option.map_eq_some_iff.1 glob_Quote.bld.sizeB
  go_enter Try.func22, Try.ntmps22
  go_wp2
  rw [Lib.run_to_unsafe w ⟨b, 0, none⟩ Try.underlying41 Try.underlying50 hj (by rw [hjs]; decide) hsh (Nat.zero_lt_succ 1)]
  simp only [Result.andThen]
  rw [Oper.upon_value]
  go_wp2
  rw [run_callFunc_extern Try.func24 (by kernel_rfl) (by kernel_rfl) (by kernel_rfl) (e := Extern.AbiNoEscape.same) (by kernel_rfl)]
  rw [Lib.run_noEscape]
  simp only [Result.andThen]
  rw [Oper.upon_value]
  go_wp2
  rw [Lib.run_from_unsafe w ⟨b, 0, none⟩ Try.underlying50 Try.underlying41 hj hsh glob_Quote.bld.liesB]
  simp only [Result.andThen]
  rw [Oper.upon_value]
  go_wp2
  go_end0
  exact ⟨rfl, rfl⟩
theorem glob_Quote.bld.check (B b : Nat) (bs : List Value) (w : World) (h : Lib.IsBuilder 43 5 B b bs w) :
    Calls Try.prog 22 #[.pointer (some ⟨b, 0, none⟩)] w fun e w' => e = .returned (.tuple #[]) ∧ (Lib.BuilderAt 43 5 B b (.pointer (some ⟨b, 0, none⟩)) bs w' ∧ Below B w w') := by
  rcases h with h | h
  · refine (glob_Quote.bld.check_fresh b w h.cell0 h.shape h.frozen0).mono ?_
    rintro e w' ⟨rfl, rfl⟩
    exact ⟨rfl, h.used _, (Below.refl B w).setCell (p := ⟨b, 0, none⟩) h.1 _⟩
  · refine (glob_Quote.bld.check_used b w h.cell0).mono ?_
    rintro e w' ⟨rfl, rfl⟩
    exact ⟨rfl, h, Below.refl B _⟩
set_option maxHeartbeats 2000000 in
set_option maxRecDepth 100000 in
theorem glob_Quote.bld.write (B b : Nat) (bs : List Value) (c : Int) (w : World) (h : Lib.IsBuilder 43 5 B b bs w) (hlen : bs.length + 1 ≤ 140737488355328) (hBw : B ≤ w.heap.size) :
    Calls Try.prog 19 #[.pointer (some ⟨b, 0, none⟩), .int .u8 c] w fun e w' => e = .returned .nilIface ∧ (Lib.BuilderAt 43 5 B b (.pointer (some ⟨b, 0, none⟩)) (bs ++ [.int .u8 c]) w' ∧ Below B w w') := by
  obtain ⟨i0, hi, hz0, hz1, hz2⟩ := info_parts glob_Quote.bld.info8
  go_enter Try.func19, Try.ntmps19
  go_wp2_with (go_at_call 22; refine (glob_Quote.bld.check B b bs _ h).mono ?_)
  rintro e w1 ⟨rfl, h1, hb1⟩
  obtain ⟨hB, v, hbk, hown, hne⟩ := h1
  have c0 : w1.cell? ⟨b, 0, none⟩ = some (.pointer (some ⟨b, 0, none⟩)) := by rw [Lib.cell_of_heap hbk]; rfl
  have c1 : w1.cell? ⟨b, 1, none⟩ = some v := by rw [Lib.cell_of_heap hbk]; rfl
  go_wp2_with (at_builtin; refine wpList_append_own _ rfl _ _ 32 rfl B 5 i0 (.int .u8 0) 1 1 Try.underlying32 hi hz0 hz1 hz2 rfl (by decide) _ _ _ rfl (hown.alloc _) ⟨w1.heap.size, 0, none⟩ 1 1 [.int .u8 c] rfl rfl ?c1 ?c2 ?c3 ?c4 ?c5 ?_)
  case c1 =>
    intro j u hj
    match j, hj with
    | 0, hj => simp at hj; subst hj; simp [Addr.add]
  case c2 => intro u hu; simp at hu; subst hu; rfl
  case c3 => unfold maxLen; omega
  case c4 => omega
  case c5 => have := hb1.size; simp; omega
  intro v' w2 hown' hgrow _
  have hlt : b < w1.heap.size := by
    rcases Nat.lt_or_ge b w1.heap.size with h' | h'
    · exact h'
    · simp [Array.getElem?_eq_none h'] at hbk
  have hb2 : w2.heap[b]? = some (.cells #[.pointer (some ⟨b, 0, none⟩), v] 43 (0, 0)) := by
    rw [hgrow.block b (by simp; omega) (fun e => hne e.symm), Lib.alloc_old w1 _ b hlt]
    exact hbk
  have d0 : w2.cell? ⟨b, 0, none⟩ = some (.pointer (some ⟨b, 0, none⟩)) := by rw [Lib.cell_of_heap hb2]; rfl
  have d1 : w2.cell? ⟨b, 1, none⟩ = some v := by rw [Lib.cell_of_heap hb2]; rfl
  have f1 : w2.frozen? ⟨b, 1, none⟩ = false := Lib.frozen_of_heap hb2 1
  obtain ⟨g, cap, rfl⟩ : ∃ g cap, v' = .slice (some ⟨g, 0, none⟩) (bs.length + 1) cap := by
    rcases hown'.2 with ⟨_, h0⟩ | ⟨g, cap, cur, hv, _⟩
    · omega
    · exact ⟨g, cap, hv⟩
  go_wp2
  go_ret
  refine ⟨rfl, ?_, ?_⟩
  · exact Lib.BuilderAt.put (T := 43) (e := 5) hB hb2 (bs' := bs ++ [.int .u8 c]) (by simpa using hown') (by decide)
  · exact ((hb1.alloc (by have := hb1.size; omega) _).grown hgrow (by have := hb1.size; simp; omega) (fun k hk => (hown.lt k hk).1)).setCell (p := ⟨b, 1, none⟩) hB _
theorem glob_Quote.bld.writeN (B b : Nat) (l : List UInt8) (c : UInt8) (n : Int) (hn : n = (c.toNat : Int)) (w : World) (h : Lib.IsBuilder 43 5 B b (Lib.byteCells l) w) (hlen : l.length + 1 ≤ 140737488355328) (hBw : B ≤ w.heap.size) :
    Calls Try.prog 19 #[.pointer (some ⟨b, 0, none⟩), .int .u8 n] w fun e w' => e = .returned .nilIface ∧ (Lib.IsBuilder 43 5 B b (Lib.byteCells (l ++ [c])) w' ∧ Below B w w') := by
  subst hn
  refine (glob_Quote.bld.write B b (Lib.byteCells l) c.toNat w h (by rw [Lib.byteCells_length]; exact hlen) hBw).mono ?_
  rintro e w' ⟨rfl, h1, h2⟩
  exact ⟨rfl, Or.inr (by rw [Lib.byteCells_append]; exact h1), h2⟩
theorem glob_Quote.bld.writeU (B b : Nat) (l : List UInt8) (c : UInt8) (w : World) (h : Lib.IsBuilder 43 5 B b (Lib.byteCells l) w) (hlen : l.length + 1 ≤ 140737488355328) (hBw : B ≤ w.heap.size) :
    Calls Try.prog 19 #[.pointer (some ⟨b, 0, none⟩), .int .u8 (c.toNat : Int)] w fun e w' => e = .returned .nilIface ∧ (Lib.IsBuilder 43 5 B b (Lib.byteCells (l ++ [c])) w' ∧ Below B w w') := by
  refine (glob_Quote.bld.write B b (Lib.byteCells l) c.toNat w h (by rw [Lib.byteCells_length]; exact hlen) hBw).mono ?_
  rintro e w' ⟨rfl, h1, h2⟩
  exact ⟨rfl, Or.inr (by rw [Lib.byteCells_append]; exact h1), h2⟩
set_option maxHeartbeats 1000000 in
set_option maxRecDepth 100000 in
theorem glob_Quote.bld.string (B b : Nat) (l : List UInt8) (w : World) (h : Lib.IsBuilder 43 5 B b (Lib.byteCells l) w) (h0 : l ≠ []) :
    Calls Try.prog 20 #[.pointer (some ⟨b, 0, none⟩)] w fun e w' => e = .returned (.string ⟨l.toArray⟩) ∧ Below B w w' := by
  obtain ⟨p, hB, v, hbk, hown, hne⟩ : ∃ p, Lib.BuilderAt 43 5 B b p (Lib.byteCells l) w := by
    rcases h with h | h
    · exact ⟨_, h⟩
    · exact ⟨_, h⟩
  have hl0 : l.length ≠ 0 := by simpa using h0
  rw [Lib.byteCells_length] at hown
  obtain ⟨g, cap, cur, rfl, hbg, hg, hnc, hcm, hcs, htake⟩ : ∃ g cap cur, v = .slice (some ⟨g, 0, none⟩) l.length cap ∧ B ≤ g ∧ w.heap[g]? = some (.cells cur 5 (0, 0)) ∧ l.length ≤ cap ∧ cap ≤ maxLen ∧ cur.size = cap * 1 ∧ cur.toList.take (l.length * 1) = Lib.byteCells l := by
    rcases hown.2 with ⟨_, hz⟩ | ⟨g, cap, cur, hv, r⟩
    · exact absurd hz hl0
    · exact ⟨g, cap, cur, hv, r⟩
  have c1 : w.drew.cell? ⟨b, 1, none⟩ = some (.slice (some ⟨g, 0, none⟩) l.length cap) := by
    have : w.drew.heap[b]? = some (.cells #[p, .slice (some ⟨g, 0, none⟩) l.length cap] 43 (0, 0)) := hbk
    rw [Lib.cell_of_heap this]; rfl
  have hSD : (Builtin.unsafeSliceData_ #[32] 49 #[.slice (some ⟨g, 0, none⟩) l.length cap]).run Try.prog w.drew = .ok (.pointer (some ⟨g, 0, none⟩)) w.drew :=
    Lib.run_unsafeSliceData_row _ _ _ _ _ _ (by omega)
  have hUS : (Builtin.unsafeString_ #[49, 3] 9 #[.pointer (some ⟨g, 0, none⟩), .int .i64 l.length]).run Try.prog w.drew = .ok (.string ⟨l.toArray⟩) (w.drew.freeze ⟨g, 0, none⟩ l.length) := by
    refine Lib.run_unsafeString_row w.drew 49 3 9 5 Try.underlying49 glob_Quote.bld.cells8 g cur.size (by have hg' : w.drew.heap[g]? = some (.cells cur 5 (0, 0)) := hg; simp [World.shape?, hg']) l h0 (by omega) (by unfold maxLen at hcm; omega) ?_
    intro j x hx
    have := hown.cells (g := g) rfl j (.int .u8 x.toNat) (by simp [Lib.byteCells, hx])
    exact this
  go_enter Try.func20, Try.ntmps20
  go_wp2
  go_region
  all_goals (go_wp2; go_ret; exact ⟨rfl, Lib.below_freeze (Below.drew (Below.refl B w)) (p := ⟨g, 0, none⟩) hbg _⟩)
theorem glob_Quote.bld.us_none (W : World) (q : Option Addr) : (Builtin.unsafeString_ #[49, 3] 9 #[.pointer q, .int .i64 0]).run Try.prog W = .ok (.string .empty) W :=
  Lib.run_unsafeString_none W _ _ _ q
set_option maxHeartbeats 2000000 in
set_option maxRecDepth 100000 in
theorem glob_Quote.bld.string_nil (B b : Nat) (p : Value) (w : World) (hbk : w.heap[b]? = some (.cells #[p, .slice none 0 0] 43 (0, 0))) :
    Calls Try.prog 20 #[.pointer (some ⟨b, 0, none⟩)] w fun e w' => e = .returned (.string ⟨#[]⟩) ∧ Below B w w' := by
  have hUS := glob_Quote.bld.us_none
  have c1 : w.drew.cell? ⟨b, 1, none⟩ = some (.slice none 0 0) := by
    have : w.drew.heap[b]? = some (.cells #[p, .slice none 0 0] 43 (0, 0)) := hbk
    rw [Lib.cell_of_heap this]; rfl
  have hSD : (Builtin.unsafeSliceData_ #[32] 49 #[.slice none 0 0]).run Try.prog w.drew = .ok (.pointer none) w.drew := rfl
  go_enter Try.func20, Try.ntmps20
  go_wp2
  go_region
  all_goals (go_wp2; go_ret; exact ⟨rfl, Below.drew (Below.refl B w)⟩)
set_option maxHeartbeats 2000000 in
set_option maxRecDepth 100000 in
theorem glob_Quote.bld.string_noroom (B b g : Nat) (p : Value) (cur : Array Value) (w : World) (hBw : B ≤ w.heap.size) (hbk : w.heap[b]? = some (.cells #[p, .slice (some ⟨g, 0, none⟩) 0 0] 43 (0, 0))) (hg : w.heap[g]? = some (.cells cur 5 (0, 0))) :
    Calls Try.prog 20 #[.pointer (some ⟨b, 0, none⟩)] w fun e w' => e = .returned (.string ⟨#[]⟩) ∧ Below B w w' := by
  have hUS := glob_Quote.bld.us_none
  have hlt : b < w.heap.size := by
    rcases Nat.lt_or_ge b w.heap.size with h' | h'
    · exact h'
    · simp [Array.getElem?_eq_none h'] at hbk
  have c1 : w.drew.cell? ⟨b, 1, none⟩ = some (.slice (some ⟨g, 0, none⟩) 0 0) := by
    have : w.drew.heap[b]? = some (.cells #[p, .slice (some ⟨g, 0, none⟩) 0 0] 43 (0, 0)) := hbk
    rw [Lib.cell_of_heap this]; rfl
  have hSD : (Builtin.unsafeSliceData_ #[32] 49 #[.slice (some ⟨g, 0, none⟩) 0 0]).run Try.prog w.drew = .ok (.pointer (some ⟨w.drew.heap.size, 0, none⟩)) (w.drew.alloc (.view ⟨g, 0, none⟩ 5)) :=
    Lib.run_unsafeSliceData_zero w.drew _ _ 5 Try.underlying49 ⟨g, 0, none⟩ 0 (5, cur.size) (by have hg' : w.drew.heap[g]? = some (.cells cur 5 (0, 0)) := hg; simp [World.shape?, hg'])
  have c2 : (w.drew.alloc (.view ⟨g, 0, none⟩ 5)).cell? ⟨b, 1, none⟩ = some (.slice (some ⟨g, 0, none⟩) 0 0) := by
    have : (w.drew.alloc (.view ⟨g, 0, none⟩ 5)).heap[b]? = _ := (Lib.alloc_old w.drew _ b hlt).trans hbk
    rw [Lib.cell_of_heap this]; rfl
  have c3 : (w.alloc (.view ⟨g, 0, none⟩ 5)).drew.cell? ⟨b, 1, none⟩ = some (.slice (some ⟨g, 0, none⟩) 0 0) := c2
  have c0 : w.cell? ⟨b, 1, none⟩ = some (.slice (some ⟨g, 0, none⟩) 0 0) := c1
  go_enter Try.func20, Try.ntmps20
  go_wp2
  go_region
  all_goals (go_wp2; go_ret; exact ⟨rfl, (Below.drew (Below.refl B w)).alloc hBw _⟩)
set_option maxHeartbeats 2000000 in
set_option maxRecDepth 100000 in
theorem glob_Quote.bld.string_room (B b g cap : Nat) (p : Value) (w : World) (hc0 : cap ≠ 0) (hbk : w.heap[b]? = some (.cells #[p, .slice (some ⟨g, 0, none⟩) 0 cap] 43 (0, 0))) :
    Calls Try.prog 20 #[.pointer (some ⟨b, 0, none⟩)] w fun e w' => e = .returned (.string ⟨#[]⟩) ∧ Below B w w' := by
  have hUS := glob_Quote.bld.us_none
  have c1 : w.drew.cell? ⟨b, 1, none⟩ = some (.slice (some ⟨g, 0, none⟩) 0 cap) := by
    have : w.drew.heap[b]? = some (.cells #[p, .slice (some ⟨g, 0, none⟩) 0 cap] 43 (0, 0)) := hbk
    rw [Lib.cell_of_heap this]; rfl
  have hSD : (Builtin.unsafeSliceData_ #[32] 49 #[.slice (some ⟨g, 0, none⟩) 0 cap]).run Try.prog w.drew = .ok (.pointer (some ⟨g, 0, none⟩)) w.drew :=
    Lib.run_unsafeSliceData_row _ _ _ _ _ _ hc0
  clear hc0
  go_enter Try.func20, Try.ntmps20
  go_wp2
  go_region
  all_goals (go_wp2; go_ret; exact ⟨rfl, Below.drew (Below.refl B w)⟩)
theorem glob_Quote.bld.string_any (B b : Nat) (l : List UInt8) (w : World) (h : Lib.IsBuilder 43 5 B b (Lib.byteCells l) w) (hBw : B ≤ w.heap.size) :
    Calls Try.prog 20 #[.pointer (some ⟨b, 0, none⟩)] w fun e w' => e = .returned (.string ⟨l.toArray⟩) ∧ Below B w w' := by
  cases l with
  | nil =>
    obtain ⟨p, hB, v, hbk, hown, hne⟩ : ∃ p, Lib.BuilderAt 43 5 B b p [] w := by
      rcases h with h | h
      · exact ⟨_, h⟩
      · exact ⟨_, h⟩
    rcases hown.2 with ⟨rfl, _⟩ | ⟨g, cap, cur, rfl, hbg, hg, _, _, _, _⟩
    · exact glob_Quote.bld.string_nil B b p w hbk
    · by_cases hc0 : cap = 0
      · subst hc0
        exact glob_Quote.bld.string_noroom B b g p cur w hBw hbk hg
      · exact glob_Quote.bld.string_room B b g cap p w hc0 hbk
  | cons x r => exact glob_Quote.bld.string B b (x :: r) w h (by simp)

set_option maxHeartbeats 1000000 in
theorem glob_Quote.ib (s : ByteArray) (x : Int) (w : World) : Calls Try.prog 21 #[.string s, .int .u8 x] w fun e w' => e = .returned (.int .i64 (Lib.indexByte s.data.toList x.toNat.toUInt8)) ∧ w' = w := by
  go_enter Try.func21, Try.ntmps21
  go_wp2
  rw [run_callFunc_extern Try.func23 (by kernel_rfl) (by kernel_rfl) (by kernel_rfl) (e := Extern.BytealgIndexByte.indexByte) (by kernel_rfl), Lib.run_indexByteString]
  simp only [Result.andThen]
  rw [Oper.upon_value]
  go_wp2
  go_ret
  exact ⟨rfl, rfl⟩
set_option maxHeartbeats 1000000 in
theorem glob_Quote.ib1 (s : ByteArray) (x : Int) (w : World) : Calls Try.prog 18 #[.string s, .int .u8 x] w fun e w' => e = .returned (.int .i64 (Lib.indexByte s.data.toList x.toNat.toUInt8)) ∧ w' = w := by
  go_enter Try.func18, Try.ntmps18
  go_wp2_with (go_at_call 21; refine (glob_Quote.ib s x _).mono ?_; rintro e_ w_ ⟨rfl, rfl⟩)
  go_ret
  exact ⟨rfl, rfl⟩
theorem glob_Quote.ibq (c : UInt8) (b : Bool) (w : World) (h : decide (0 ≤ Lib.indexByte [42, 63, 92] c) = b) : Calls Try.prog 18 #[.string ⟨#[42, 63, 92]⟩, .int .u8 (c.toNat : Int)] w fun e w' => ∃ i : Int, e = .returned (.int .i64 i) ∧ decide (0 ≤ i) = b ∧ w' = w := by
  refine (glob_Quote.ib1 _ _ _).mono ?_
  rintro e w' ⟨rfl, rfl⟩
  refine ⟨_, rfl, ?_, rfl⟩
  rw [← h, show (c.toNat : Int).toNat.toUInt8 = c by simp]
def glob_Quote.q (c : UInt8) : List UInt8 := if c = 42 ∨ c = 63 ∨ c = 92 then [92, c] else [c]
def glob_Quote.f (a0 : ByteArray) : Option ByteArray := if a0.size ≤ 1000000 then some ⟨(a0.data.toList.flatMap glob_Quote.q).toArray⟩ else none
theorem glob_Quote.q_len (l : List UInt8) : (l.flatMap glob_Quote.q).length ≤ 2 * l.length := by
  induction l with
  | nil => exact Nat.le_refl _
  | cons c l ih =>
    rw [List.flatMap_cons, List.length_append, List.length_cons]
    have : (glob_Quote.q c).length ≤ 2 := by unfold glob_Quote.q; split <;> simp
    omega
theorem glob_Quote.snoc (s : ByteArray) (k : Nat) (h : k < s.size) : (s.data.toList.take (k + 1)).flatMap glob_Quote.q = (s.data.toList.take k).flatMap glob_Quote.q ++ glob_Quote.q s[k] := by
  rw [List.take_succ_eq_append_getElem (by simpa using h), List.flatMap_append]; simp; rfl
theorem glob_Quote.idx (c : UInt8) : decide (0 ≤ Lib.indexByte [42, 63, 92] c) = decide (c = 42 ∨ c = 63 ∨ c = 92) := by
  revert c
  have : ∀ n : Nat, n < 256 → decide (0 ≤ Lib.indexByte [42, 63, 92] n.toUInt8) = decide (n.toUInt8 = 42 ∨ n.toUInt8 = 63 ∨ n.toUInt8 = 92) := by decide +kernel
  intro c
  have h := this c.toNat c.toNat_lt
  rwa [show c.toNat.toUInt8 = c by simp] at h
theorem glob_Quote.ret_ {a b : ByteArray} (h : a = b) : Ending.returned (.string a) = .returned (.string b) := by rw [h]
set_option maxHeartbeats 4000000 in
set_option maxRecDepth 100000 in
theorem glob_Quote.calls (a0 : ByteArray) (r : ByteArray) (w : World) (h : glob_Quote.f a0 = some r) :
    Calls Try.prog 15 #[.string a0] w fun e w' => e = .returned (.string r) ∧ Below w.heap.size w w' := by
  unfold glob_Quote.f at h
  split at h
  case isFalse => cases h
  case isTrue hsz =>
  injection h with h
  have HR := Lib.hid h
  clear h
  go_enter Try.func15, Try.ntmps15
  go_wp2_with fail
  have HI := Aside0.mk (Lib.fresh_isBuilder 43 5 w)
  have HB := Aside0.mk ((Below.refl w.heap.size w).alloc (Nat.le_refl _) (.cells #[.pointer none, .slice none 0 0] 43))
  generalize w.alloc _ = w0 at *
  go_loopw [7] (fun v7 wr => ∃ k : Nat, k ≤ a0.size ∧ v7 = .int .i64 k ∧ Aside0 (Lib.IsBuilder 43 5 w.heap.size w.heap.size (Lib.byteCells ((a0.data.toList.take k).flatMap glob_Quote.q)) wr) ∧ Aside0 (Below w.heap.size w wr)) (fun v7 _ => a0.size - (intOf v7).toNat)
  case atStart => exact ⟨0, Nat.zero_le _, rfl, HI, HB⟩
  case round =>
    clear HI HB
    obtain ⟨k, hk, rfl, HI, HB⟩ := hrel
    by_cases hlt : k < a0.size
    · have HE := Lib.hid (glob_Quote.snoc a0 k hlt)
      have hL := glob_Quote.q_len (a0.data.toList.take k)
      rw [List.length_take] at hL
      obtain ⟨c8, hcg⟩ : ∃ c8, a0.data[k] = c8 := ⟨_, rfl⟩
      have hcg' : a0[k] = c8 := hcg
      obtain ⟨l, hl⟩ : ∃ l, (a0.data.toList.take k).flatMap glob_Quote.q = l := ⟨_, rfl⟩
      rw [hl] at HI hL
      have HL := Lib.hid hl
      clear hl
      by_cases hq : c8 = 42 ∨ c8 = 63 ∨ c8 = 92
      · have hi : decide (0 ≤ Lib.indexByte [42, 63, 92] c8) = true := by rw [glob_Quote.idx]; exact decide_eq_true hq
        have HQ := Lib.hid (show glob_Quote.q c8 = [92, c8] by unfold glob_Quote.q; rw [if_pos hq])
        have HC := Lib.hid hi
        clear hi hq
        go_wp2_with (go_at_call 18; refine (glob_Quote.ibq c8 true _ HC.out).mono ?_; rintro e_ w_ ⟨i_, rfl, hi_, rfl⟩)
        have e1 : l.length + 1 ≤ 140737488355328 := by omega
        have e2 : (92 : Int) = ((92 : UInt8).toNat : Int) := by decide
        have W1 := glob_Quote.bld.writeN w.heap.size w.heap.size l 92 92 e2 _ HI.out e1 HB.out.size
        clear e1 e2
        go_wp2_with fail
        refine W1.mono ?_
        rintro e_ w1 ⟨rfl, h1, hb1⟩
        clear W1
        have HB1 := Aside0.mk (HB.out.trans hb1)
        have HI1 := Aside0.mk h1
        clear hb1 h1
        have e1 : (l ++ [92]).length + 1 ≤ 140737488355328 := by rw [List.length_append]; simp only [List.length_cons, List.length_nil]; omega
        have W1 := glob_Quote.bld.writeN w.heap.size w.heap.size (l ++ [92]) c8 c8.toNat rfl _ HI1.out e1 HB1.out.size
        clear e1
        go_wp2_with fail
        refine W1.mono ?_
        rintro e_ w2 ⟨rfl, h2, hb2⟩
        clear W1
        have HI2 := Aside0.mk h2
        have HB2 := Aside0.mk (HB1.out.trans hb2)
        clear h2 hb2
        go_wp2_with fail
        go_round
        case rel => exact ⟨k + 1, hlt, by go_num, ⟨by rw [HE.out, HL.out, hcg', HQ.out]; have := HI2.out; rwa [List.append_assoc] at this⟩, HB2⟩
        case measure => simp [intOf]; omega
      · have hi : decide (0 ≤ Lib.indexByte [42, 63, 92] c8) = false := by rw [glob_Quote.idx]; exact decide_eq_false hq
        have HQ := Lib.hid (show glob_Quote.q c8 = [c8] by unfold glob_Quote.q; rw [if_neg hq])
        have HC := Lib.hid hi
        clear hi hq
        go_wp2_with (go_at_call 18; refine (glob_Quote.ibq c8 false _ HC.out).mono ?_; rintro e_ w_ ⟨i_, rfl, hi_, rfl⟩)
        have e1 : l.length + 1 ≤ 140737488355328 := by omega
        have W1 := glob_Quote.bld.writeN w.heap.size w.heap.size l c8 c8.toNat rfl _ HI.out e1 HB.out.size
        clear e1
        go_wp2_with fail
        refine W1.mono ?_
        rintro e_ w1 ⟨rfl, h1, hb1⟩
        clear W1
        have HB1 := Aside0.mk (HB.out.trans hb1)
        have HI1 := Aside0.mk h1
        clear hb1 h1
        go_wp2_with fail
        go_round
        case rel => exact ⟨k + 1, hlt, by go_num, ⟨by rw [HE.out, HL.out, hcg', HQ.out]; exact HI1.out⟩, HB1⟩
        case measure => simp [intOf]; omega
    · have hk2 : k = a0.size := by omega
      have HE := Lib.hid (show (⟨((a0.data.toList.take k).flatMap glob_Quote.q).toArray⟩ : ByteArray) = r by rw [← HR.out, List.take_of_length_le (by simp; omega)])
      clear hk2
      obtain ⟨l, hl⟩ : ∃ l, (a0.data.toList.take k).flatMap glob_Quote.q = l := ⟨_, rfl⟩
      rw [hl] at HI HE
      clear hl
      have W1 := glob_Quote.bld.string_any w.heap.size w.heap.size l _ HI.out HB.out.size
      go_wp2_with (go_at_call 20; refine W1.mono ?_; rintro e_ w1 ⟨rfl, hb1⟩)
      go_ret
      exact ⟨glob_Quote.ret_ HE.out, HB.out.trans hb1⟩


end Go.Proofs.Ytigbeielobdfiaa.P
