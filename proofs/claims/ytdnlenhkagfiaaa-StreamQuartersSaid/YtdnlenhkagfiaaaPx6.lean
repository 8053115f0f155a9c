-- Written by wip/inj.py (the kit's print, with contracts typed by hand beside it).
import Derived.Test.YtdnlenhkagfiaaaPx0
import Derived.Test.YtdnlenhkagfiaaaPx1
import Derived.Test.YtdnlenhkagfiaaaPx3
import Derived.Test.YtdnlenhkagfiaaaPx5
namespace Go.Proofs.Ytdnlenhkagfiaaa.P
open Go.RowKit Go.Proofs.YtdnlenhkagfiaaaW.PrintWords Go.Proofs.YtdnlenhkagfiaaaW.PrintLast Go.Proofs.YtdnlenhkagfiaaaW.PrintMore
attribute [local go_sem] max2_int min2_int max_two min_two max_three min_three max_four min_four   -- for this text's walks alone
set_option linter.unusedVariables false
set_option linter.unusedSimpArgs false

/-! ### stream_Xor: function 14 (by hand) -/
def stream_Xor.go (k : Nat) (a0 a2 : ByteArray) : Nat → Int → ByteArray → List UInt8 → Option (List UInt8)
  | 0, _, _, _ => none
  | n + 1, c, b, acc => if b.size = 0 then some acc else (stream_block.f k a0 (((c + 1) % 4294967296 - 1) % 4294967296) a2).bind fun bl => (octet_Xor.f k (b.extract 0 (min b.size 64)) bl).bind fun t => if acc.length + t.size ≤ 1000000 then stream_Xor.go k a0 a2 n ((c + 1) % 4294967296) (b.extract (min b.size 64) b.size) (acc ++ t.data.toList) else none
def stream_Xor.f (k : Nat) (a0 : ByteArray) (a1 : Int) (a2 : ByteArray) (a3 : ByteArray) : Option (ByteArray × Bool) :=
  (stream_right.f a0 a2).bind fun ok => if ok = true then (if a3.size ≤ 1000000 then (stream_Xor.go k a0 a2 k a1 a3 []).map fun l => ((⟨l.toArray⟩ : ByteArray), true) else none) else some ((⟨#[]⟩ : ByteArray), false)
set_option maxHeartbeats 1000000 in
theorem stream_Xor.store_calls (b : Nat) (c : Int) (u : Value) (w : World) (hc : w.cell? ⟨b, 0, none⟩ = some u) (hz : w.frozen? ⟨b, 0, none⟩ = false) :
    Calls Try.prog 21 #[.pointer (some ⟨b, 0, none⟩), .int .u32 c] w fun e w' => e = .returned (.tuple #[]) ∧ w' = w.setCell ⟨b, 0, none⟩ (.int .u32 c) := by
  have hs := run_call_store (P := Try.prog) Try.func32 (by kernel_rfl) (by kernel_rfl) (by kernel_rfl) (by kernel_rfl) (a := ⟨b, 0, none⟩) (k := .u32) (y := c) hc hz
  go_enter Try.func21, Try.ntmps21
  go_wp2
  go_end0
  exact ⟨rfl, rfl⟩
set_option maxHeartbeats 1000000 in
theorem stream_Xor.add_calls (b : Nat) (c : Int) (w : World) (hc : w.cell? ⟨b, 0, none⟩ = some (.int .u32 c)) (hz : w.frozen? ⟨b, 0, none⟩ = false) :
    Calls Try.prog 24 #[.pointer (some ⟨b, 0, none⟩), .int .u32 1] w fun e w' => e = .returned (.int .u32 ((c + 1) % 4294967296)) ∧ w' = w.setCell ⟨b, 0, none⟩ (.int .u32 ((c + 1) % 4294967296)) := by
  have hs := run_call_add (P := Try.prog) Try.func34 (by kernel_rfl) (by kernel_rfl) (by kernel_rfl) .u32 (by kernel_rfl) (a := ⟨b, 0, none⟩) (x := c) (y := 1) (s := (c + 1) % 4294967296) hc hz (by simp [go_sem, IntKind.wrap_u32])
  clear hc hz
  go_enter Try.func24, Try.ntmps24
  go_wp2
  go_ret
  exact ⟨rfl, rfl⟩
theorem stream_Xor.go_mono (k : Nat) (a0 a2 : ByteArray) : ∀ n c b acc, LeO (stream_Xor.go k a0 a2 n c b acc) (stream_Xor.go (k + 1) a0 a2 (n + 1) c b acc)
  | 0, _, _, _ => fun r h => by cases h
  | n + 1, c, b, acc => by
    rw [stream_Xor.go, stream_Xor.go]
    split
    · exact LeO.refl _
    · refine LeO.bind (stream_block.mono _ _ _ k) (fun bl => LeO.bind (octet_Xor.mono _ _ k) (fun t => ?_))
      split
      · exact stream_Xor.go_mono k a0 a2 n _ _ _
      · exact LeO.refl _
theorem stream_Xor.mono : ∀ a0 a1 a2 a3 k, LeO (stream_Xor.f k a0 a1 a2 a3) (stream_Xor.f (k + 1) a0 a1 a2 a3) := by
  intro a0 a1 a2 a3 k
  unfold stream_Xor.f
  refine LeO.bind (LeO.refl _) (fun ok => ?_)
  split
  · split
    · rw [Option.map_eq_bind, Option.map_eq_bind]
      exact LeO.bind (stream_Xor.go_mono k a0 a2 k a1 a3 []) (fun _ => LeO.refl _)
    · exact LeO.refl _
  · exact LeO.refl _
theorem stream_Xor.cut {B B' : Nat} {W W' : World} (h : Below B' W W') (hb : B ≤ B') : Below B W W' := ⟨h.os, h.tape, h.output, h.size, fun k hk => h.block k (Nat.lt_of_lt_of_le hk hb)⟩
theorem stream_Xor.kept {B b : Nat} {bs : List Value} {W W' : World} (h : Lib.IsBuilder 49 5 B b bs W) (hb : Below W.heap.size W W') : Lib.IsBuilder 49 5 B b bs W' := by
  have : ∀ p, Lib.BuilderAt 49 5 B b p bs W → Lib.BuilderAt 49 5 B b p bs W' := by
    intro p h
    have hlt := h.lt
    obtain ⟨hB, v, hbk, hown, hne⟩ := h
    exact ⟨hB, v, (hb.block b hlt).trans hbk, hown.kept (row := none) ⟨hb.os, hb.tape, hb.output, hb.size, fun k hk _ => hb.block k hk⟩ (Classical.em _), hne⟩
  exact h.imp (this _) (this _)
theorem stream_Xor.kept_set {B b g : Nat} {bs : List Value} {W : World} {u : Value} (h : Lib.IsBuilder 49 5 B b bs W) (hg : g < B) : Lib.IsBuilder 49 5 B b bs (W.setCell ⟨g, 0, none⟩ u) := by
  have : ∀ p, Lib.BuilderAt 49 5 B b p bs W → Lib.BuilderAt 49 5 B b p bs (W.setCell ⟨g, 0, none⟩ u) := by
    intro p h
    obtain ⟨hB, v, hbk, hown, hne⟩ := h
    refine ⟨hB, v, (Below.heap_setCell W ⟨g, 0, none⟩ u b (by simp; omega)).trans hbk, own_move hown (fun k hk => ?_), hne⟩
    have := (hown.lt k hk).1
    exact Below.heap_setCell W ⟨g, 0, none⟩ u k (by simp; omega)
  exact h.imp (this _) (this _)
def stream_Xor.sz (v : Value) : Nat := match v with | .string s => s.size | _ => 0
theorem stream_Xor.ret_ {a b : ByteArray} (h : a = b) (x : Bool) : Ending.returned (.tuple #[.string a, .bool x]) = .returned (.tuple #[.string b, .bool x]) := by rw [h]
set_option maxHeartbeats 4000000 in
set_option maxRecDepth 100000 in
theorem stream_Xor.calls (k : Nat) (a0 : ByteArray) (a1 : Int) (a2 : ByteArray) (a3 : ByteArray) (r1 : ByteArray) (r2 : Bool) (w : World) (h : stream_Xor.f k a0 a1 a2 a3 = some (r1, r2)) :
    Calls Try.prog 14 #[.string a0, .int .u32 a1, .string a2, .string a3] w fun e w' => e = .returned (.tuple #[.string r1, .bool r2]) ∧ Below w.heap.size w w' := by
  unfold stream_Xor.f at h
  obtain ⟨ok, hr, h1⟩ := Option.bind_eq_some_iff.mp h
  have HRt := Lib.hid hr
  clear h hr
  cases ok with
  | false =>
    rw [if_neg (by decide)] at h1
    simp only [Option.some.injEq, Prod.mk.injEq] at h1
    obtain ⟨rfl, rfl⟩ := h1
    go_enter Try.func14, Try.ntmps14
    go_wp2_with (go_at_call 19; refine (stream_right.calls _ _ _ _ HRt.out).mono ?_; rintro e_ w_ ⟨rfl, ⟨nd, rfl⟩⟩)
    go_ret2
    exact ⟨rfl, pw_below_drewN (Below.refl _ _) nd⟩
  | true =>
    rw [if_pos rfl] at h1
    by_cases hs : a3.size ≤ 1000000
    case neg => rw [if_neg hs] at h1; cases h1
    rw [if_pos hs] at h1
    obtain ⟨l, hl, he⟩ := Option.map_eq_some_iff.mp h1
    simp only [Prod.mk.injEq] at he
    obtain ⟨he, rfl⟩ := he
    have HG := Lib.hid hl
    have HE := Lib.hid he
    clear h1 hl he
    go_enter Try.func14, Try.ntmps14
    go_wp2_with fail
    refine (stream_right.calls _ _ _ _ HRt.out).mono ?_
    rintro e_ w_ ⟨rfl, ⟨nd, rfl⟩⟩
    go_wp2_with (((with_reducible refine gate_dst (N := 10) rfl ?_); refine box_event ?hg (N := 10) ?hd (cs := #[.int .u32 0]) (t := 45) ?hr ?_; (case hd => rfl); (case hg => rfl); (case hr => first | (go_simp; done) | (go_simp; rfl)); intro g10 hg10 w2 hbox hbx; have BK := Aside0.mk hbox; have HB2 := Aside0.mk hbx; have HG10 := Aside0.mk hg10; clear hbox hbx hg10))
    have hc10 : w2.cell? ⟨g10, 0, none⟩ = some (.int .u32 0) := blk_cell BK.out 0
    refine (stream_Xor.store_calls g10 a1 _ _ hc10 (blk_frozen BK.out 0)).mono ?_
    rintro e_ w3 ⟨rfl, rfl⟩
    have BK3 := Aside0.mk (blk_put (cs' := #[.int .u32 a1]) BK.out 0 (.int .u32 a1) (by simp))
    have L10 := Aside0.mk (show w.heap.size ≤ g10 by rw [HG10.out]; exact Nat.le_refl _)
    have HB3 := Aside0.mk (below_set (g := g10) (j := 0) (v := .int .u32 a1) (below_step (pw_below_drewN (Below.refl _ w) nd) HB2.out) L10.out)
    clear hc10 BK HB2 HG10
    generalize w2.setCell _ _ = w3 at *
    go_wp2_with fail
    have HI := Aside0.mk (Lib.fresh_isBuilder 49 5 w3)
    have HBB := Aside0.mk ((Below.refl w3.heap.size w3).alloc (Nat.le_refl _) (.cells #[.pointer none, .slice none 0 0] 49))
    have NB := Aside0.mk (blk_lt BK3.out)
    have BK4 := Aside0.mk (blk_alloc BK3.out (.cells #[.pointer none, .slice none 0 0] 49))
    have L3 := Aside0.mk (show w.heap.size ≤ w3.heap.size from HB3.out.size)
    have LBz := Aside0.mk (show w3.heap.size ≤ (w3.alloc (.cells #[.pointer none, .slice none 0 0] 49)).heap.size from HBB.out.size)
    generalize hB : w3.heap.size = B at *
    have HB4 := Aside0.mk (HB3.out.trans (stream_Xor.cut HBB.out L3.out))
    clear HBB HB3 BK3
    generalize w3.alloc (.cells #[.pointer none, .slice none 0 0] 49) = wz at *
    clear hB
    go_loopw [3] (fun v3 wv => ∃ (n : Nat) (c : Int) (b : ByteArray) (acc : List UInt8), v3 = .string b ∧ b.size ≤ 1000000 ∧ acc.length ≤ 1000000 ∧ Aside0 (stream_Xor.go k a0 a2 n c b acc = some l) ∧ Aside0 (Lib.IsBuilder 49 5 B B (Lib.byteCells acc) wv) ∧ Aside0 (wv.heap[g10]? = some (.cells #[.int .u32 c] 45 (0, 0))) ∧ Aside0 (Below w.heap.size w wv) ∧ Aside0 (B ≤ wv.heap.size)) (fun v3 _ => stream_Xor.sz v3)
    case atStart => exact ⟨k, a1, a3, [], rfl, hs, Nat.zero_le _, ⟨HG.out⟩, HI, BK4, HB4, LBz⟩
    case round =>
      clear HI BK4 HB4 LBz
      obtain ⟨n, c, b, acc, rfl, hbs, hacc, HG', HI, BK, HB, LB⟩ := hrel
      by_cases hb0 : 0 < b.size
      · have hg := HG'.out
        obtain ⟨n', rfl⟩ : ∃ n', n = n' + 1 := by cases n with | zero => cases hg | succ n' => exact ⟨n', rfl⟩
        rw [stream_Xor.go, if_neg (by omega)] at hg
        obtain ⟨bl, hbl, hg⟩ := Option.bind_eq_some_iff.mp hg
        obtain ⟨t, ht, hg⟩ := Option.bind_eq_some_iff.mp hg
        by_cases htl : acc.length + t.size ≤ 1000000
        case neg => rw [if_neg htl] at hg; cases hg
        rw [if_pos htl] at hg
        obtain ⟨m, hm⟩ : ∃ m, min b.size 64 = m := ⟨_, rfl⟩
        rw [hm] at ht hg
        have hmn : (if (64 : Int) < (b.size : Int) then (64 : Int) else (b.size : Int)) = (m : Int) := by split <;> omega
        have hmn2 : (if 64 < b.size then (64 : Int) else (b.size : Int)) = (m : Int) := by split <;> omega
        have hm1 : m ≤ b.size := by omega
        have hm0 : 0 < m := by omega
        have im := eq_true (show (m : Int) ≤ (b.size : Int) by omega)
        have HX1 := Lib.hid hbl
        have HX2 := Lib.hid ht
        have HX3 := Lib.hid hg
        have htb := Aside0.mk htl
        clear hm hbl ht hg HG' htl
        go_wp2_with fail
        refine start_ (n := 10) (S := fun w' => True) (ds := []) #[false, false, false, false, false, false, false, false, false, false] (by kernel_rfl) rfl rfl trivial (fun hHeld => ?_)
        refine pure_ (i := 0) (N := some 25) (v := ?_) (a' := ?_) #[true, false, false, false, false, false, false, false, false, false] rfl rfl (by kernel_rfl) (fun _ _ _ h => h) (Or.inl ⟨by rfl, ?_⟩) ?_ ?_
        rotate_left
        · intro w'
          go_simp
          with_reducible rfl
        rotate_left
        · simp only [Act.put, List.setIfInBounds_toArray, List.set_cons_zero, List.set_cons_succ, i64_w, i32_w, IntKind.wrap_u32]
          rfl
        refine pure_ (i := 1) (N := some 26) (v := ?_) (a' := ?_) #[true, true, false, false, false, false, false, false, false, false] rfl rfl (by kernel_rfl) (fun _ _ _ h => h) (Or.inl ⟨by rfl, ?_⟩) ?_ ?_
        rotate_left
        · intro w'
          go_simp
          with_reducible rfl
        rotate_left
        · simp only [Act.put, List.setIfInBounds_toArray, List.set_cons_zero, List.set_cons_succ, i64_w, i32_w, IntKind.wrap_u32]
          rfl
        refine pure_ (i := 3) (N := some 28) (v := ?_) (a' := ?_) #[true, true, false, true, false, false, false, false, false, false] rfl rfl (by kernel_rfl) (fun _ _ _ h => h) (Or.inl ⟨by rfl, ?_⟩) ?_ ?_
        rotate_left
        · intro w'
          go_simp
          with_reducible rfl
        rotate_left
        · simp only [Act.put, List.setIfInBounds_toArray, List.set_cons_zero, List.set_cons_succ, i64_w, i32_w, IntKind.wrap_u32]
          rfl
        refine pure_ (i := 6) (N := some 31) (v := ?_) (a' := ?_) #[true, true, false, true, false, false, true, false, false, false] rfl rfl (by kernel_rfl) (fun _ _ _ h => h) (Or.inl ⟨by rfl, ?_⟩) ?_ ?_
        rotate_left
        · intro w'
          go_simp
          with_reducible rfl
        rotate_left
        · simp only [Act.put, List.setIfInBounds_toArray, List.set_cons_zero, List.set_cons_succ, i64_w, i32_w, IntKind.wrap_u32]
          rfl
        refine pure_ (i := 2) (N := some 27) (v := ?_) (a' := ?_) #[true, true, true, true, false, false, true, false, false, false] rfl rfl (by kernel_rfl) (fun _ _ _ h => h) (Or.inl ⟨by rfl, ?_⟩) ?_ ?_
        rotate_left
        · intro w'
          go_simp
          with_reducible rfl
        rotate_left
        · simp only [Act.put, List.setIfInBounds_toArray, List.set_cons_zero, List.set_cons_succ, i64_w, i32_w, IntKind.wrap_u32]
          rfl
        refine one_ (i := 4) (N := some 29) #[true, true, true, true, true, false, true, false, false, false] rfl rfl (by kernel_rfl) (by decide) (fun K hK => ?_)
        refine goes_ Try.func24 (by kernel_rfl) rfl #[.pointer (some ⟨g10, 0, none⟩), .int .u32 1] (by rfl) rfl rfl (by (try simp only [List.map_toArray, List.map_cons, List.map_nil]); first | done | rfl) ?_
        refine (stream_Xor.add_calls g10 c _ (blk_cell (blk_drew BK.out) 0) (blk_frozen (blk_drew BK.out) 0)).mono ?_
        rintro e_ w_ ⟨rfl, rfl⟩
        refine ⟨_, rfl, ?_⟩
        have BK6 := Aside0.mk (blk_put (cs' := #[.int .u32 ((c + 1) % 4294967296)]) (blk_drew BK.out) 0 (.int .u32 ((c + 1) % 4294967296)) (by simp))
        have HI6 := Aside0.mk (stream_Xor.kept_set (u := .int .u32 ((c + 1) % 4294967296)) (W := wr.drew) (HI.out.imp (·.drew) (·.drew)) NB.out)
        have HB6 := Aside0.mk (below_set (g := g10) (j := 0) (v := .int .u32 ((c + 1) % 4294967296)) (below_drew1 HB.out) L10.out)
        have LB6 := Aside0.mk (show B ≤ (wr.drew.setCell ⟨g10, 0, none⟩ (.int .u32 ((c + 1) % 4294967296))).heap.size by simpa [World.setCell] using LB.out)
        clear BK HI HB LB hHeld
        generalize wr.drew.setCell _ _ = w6 at *
        refine hK.out _ _ trivial (fun hHeld => ?_)
        clear hK K
        refine norm_ (a' := ?_) ?_ ?_
        rotate_left
        · show Act.put _ (some 29) _ = _
          simp only [Act.put, List.setIfInBounds_toArray, List.set_cons_zero, List.set_cons_succ, i64_w, i32_w, IntKind.wrap_u32]
          rfl
        refine pure_ (i := 5) (N := some 30) (v := ?_) (a' := ?_) #[true, true, true, true, true, true, true, false, false, false] rfl rfl (by kernel_rfl) (fun _ _ _ h => h) (Or.inl ⟨by rfl, ?_⟩) ?_ ?_
        rotate_left
        · intro w'
          go_simp
          with_reducible rfl
        rotate_left
        · simp only [Act.put, List.setIfInBounds_toArray, List.set_cons_zero, List.set_cons_succ, i64_w, i32_w, IntKind.wrap_u32]
          rfl
        refine one_ (i := 7) (N := some 32) #[true, true, true, true, true, true, true, true, false, false] rfl rfl (by kernel_rfl) (by decide) (fun K hK => ?_)
        refine goes_ Try.func20 (by kernel_rfl) rfl #[.string a0, .int .u32 (((c + 1) % 4294967296 - 1) % 4294967296), .string a2] (by rfl) rfl rfl (by (try simp only [List.map_toArray, List.map_cons, List.map_nil]); first | done | rfl) ?_
        with_reducible refine (stream_block.calls k a0 _ a2 bl _ HX1.out).mono ?_
        rintro e_ w7 ⟨rfl, hb7⟩
        refine ⟨_, rfl, ?_⟩
        have BK7 := Aside0.mk (blk_below BK6.out hb7)
        have HI7 := Aside0.mk (stream_Xor.kept HI6.out hb7)
        have HB7 := Aside0.mk (below_step HB6.out hb7)
        have LB7 := Aside0.mk (Nat.le_trans LB6.out hb7.size)
        clear BK6 HI6 HB6 LB6 hb7 hHeld
        refine hK.out _ _ trivial (fun hHeld => ?_)
        clear hK K
        refine norm_ (a' := ?_) ?_ ?_
        rotate_left
        · show Act.put _ (some 32) _ = _
          simp only [Act.put, List.setIfInBounds_toArray, List.set_cons_zero, List.set_cons_succ, i64_w, i32_w, IntKind.wrap_u32]
          rfl
        refine one_ (i := 8) (N := some 33) #[true, true, true, true, true, true, true, true, true, false] rfl rfl (by kernel_rfl) (by decide) (fun K hK => ?_)
        refine goes_ Try.func23 (by kernel_rfl) rfl #[.string (b.extract 0 m), .string bl] (by rfl) rfl rfl (by (try simp only [List.map_toArray, List.map_cons, List.map_nil]); first | done | rfl) ?_
        with_reducible refine (octet_Xor.calls k _ _ t _ HX2.out).mono ?_
        rintro e_ w8 ⟨rfl, hb8⟩
        refine ⟨_, rfl, ?_⟩
        have BK8 := Aside0.mk (blk_below BK7.out hb8)
        have HI8 := Aside0.mk (stream_Xor.kept HI7.out hb8)
        have HB8 := Aside0.mk (below_step HB7.out hb8)
        have LB8 := Aside0.mk (Nat.le_trans LB7.out hb8.size)
        clear BK7 HI7 HB7 LB7 hb8 hHeld
        refine hK.out _ _ trivial (fun hHeld => ?_)
        clear hK K
        refine norm_ (a' := ?_) ?_ ?_
        rotate_left
        · show Act.put _ (some 33) _ = _
          simp only [Act.put, List.setIfInBounds_toArray, List.set_cons_zero, List.set_cons_succ, i64_w, i32_w, IntKind.wrap_u32]
          rfl
        refine one_ (i := 9) (N := some 34) #[true, true, true, true, true, true, true, true, true, true] rfl rfl (by kernel_rfl) (by decide) (fun K hK => ?_)
        refine goes_ Try.func22 (by kernel_rfl) rfl #[.pointer (some ⟨B, 0, none⟩), .string t] (by rfl) rfl rfl (by (try simp only [List.map_toArray, List.map_cons, List.map_nil]); first | done | rfl) ?_
        refine (stream_block.bld.writeS B B acc t _ HI8.out (by have := htb.out; omega) LB8.out).mono ?_
        rintro e_ w9 ⟨rfl, hi9, hb9⟩
        refine ⟨_, rfl, ?_⟩
        have BK9 := Aside0.mk ((hb9.block g10 NB.out).trans BK8.out)
        have HI9 := Aside0.mk hi9
        have HB9 := Aside0.mk (HB8.out.trans (stream_Xor.cut hb9 L3.out))
        have LB9 := Aside0.mk (Nat.le_trans LB8.out hb9.size)
        clear BK8 HI8 HB8 LB8 hb9 hi9 hHeld
        refine hK.out _ _ trivial (fun hHeld => ?_)
        clear hK K
        refine norm_ (a' := ?_) ?_ ?_
        rotate_left
        · show Act.put _ (some 34) _ = _
          simp only [Act.put, List.setIfInBounds_toArray, List.set_cons_zero, List.set_cons_succ, i64_w, i32_w, IntKind.wrap_u32]
          rfl
        refine done_ (by kernel_rfl) ?_
        go_wp2_with fail
        go_round
        case rel => exact ⟨n', _, _, _, rfl, by rw [ByteArray.size_extract]; omega, by rw [List.length_append]; exact htb.out, ⟨HX3.out⟩, HI9, BK9, HB9, LB9⟩
        case measure => simp [stream_Xor.sz, ByteArray.size_extract]; omega
      · obtain rfl : b = ⟨#[]⟩ := by
          apply ByteArray.ext
          exact Array.eq_empty_of_size_eq_zero (by show b.size = 0; omega)
        have hg := HG'.out
        cases n with
        | zero => cases hg
        | succ n =>
          rw [stream_Xor.go, if_pos (show (⟨#[]⟩ : ByteArray).size = 0 from rfl)] at hg
          injection hg with hg
          subst hg
          have W1 := stream_block.bld.string_any B B acc _ HI.out LB.out
          clear HG'
          go_wp2_with (go_at_call 25; refine W1.mono ?_; rintro e_ w9 ⟨rfl, hb9⟩)
          go_ret2
          exact ⟨stream_Xor.ret_ HE.out true, HB.out.trans (stream_Xor.cut hb9 L3.out)⟩


/-! ### escutcheonref1_Little: function 26 -/
def escutcheonref1_Little.l0 : Nat → ByteArray → Int → Int → Option (Int)
  | 0, _, _, _ => none
  | k + 1, x0, x3, x4 => if x4 ≥ 0 then (if 0 ≤ x4 then (if x4 < (x0.size : Int) then (escutcheonref1_Little.l0 k x0 (IntKind.u64.wrap ((IntKind.u64.wrap (x3 * 256)) + (IntKind.u64.wrap (bt x0 x4)))) (wrap64 (x4 - 1))) else (none)) else (none)) else (some x3)
def escutcheonref1_Little.f (k : Nat) (a0 : ByteArray) : Option (Int) := escutcheonref1_Little.l0 k a0 0 ((mn (a0.size : Int) 8) - 1)
theorem escutcheonref1_Little.mono_l : ∀ k, (∀ y0 y1 y2, LeO (escutcheonref1_Little.l0 k y0 y1 y2) (escutcheonref1_Little.l0 (k + 1) y0 y1 y2))
  | 0 => fun _ _ _ r h => by simp [escutcheonref1_Little.l0] at h
  | k + 1 => by
    have ih0 := escutcheonref1_Little.mono_l k
    · intro y0 y1 y2
      unfold escutcheonref1_Little.l0
      repeat' first
      | (with_reducible exact ih0 _ _ _)
      | (with_reducible exact LeO.refl _)
      | (with_reducible exact LeO.none _)
      | (with_reducible refine LeO.ite ?_ ?_)
      | (with_reducible refine LeO.bind ?_ (fun _ => ?_))
      | exact ih0 _ _ _
      | exact LeO.none _
      | refine LeO.ite ?_ ?_
      | refine LeO.bind ?_ (fun _ => ?_)
theorem escutcheonref1_Little.mono : ∀ a0 k, LeO (escutcheonref1_Little.f k a0) (escutcheonref1_Little.f (k + 1) a0) := by
  intro a0 k
  have ih0 := escutcheonref1_Little.mono_l k
  unfold escutcheonref1_Little.f
  repeat' first
      | (with_reducible exact ih0 _ _ _)
      | (with_reducible exact LeO.refl _)
      | (with_reducible exact LeO.none _)
      | (with_reducible refine LeO.ite ?_ ?_)
      | (with_reducible refine LeO.bind ?_ (fun _ => ?_))
      | exact ih0 _ _ _
      | exact LeO.none _
      | refine LeO.ite ?_ ?_
      | refine LeO.bind ?_ (fun _ => ?_)
set_option maxHeartbeats 8000000 in
set_option maxRecDepth 100000 in
theorem escutcheonref1_Little.calls (k : Nat) (a0 : ByteArray) (r : Int) (w : World) (h : escutcheonref1_Little.f k a0 = some r) :
    Calls Try.prog 26 #[.string a0] w fun e w' => e = .returned (.int .u64 r) ∧ Below w.heap.size w w' := by
  have HB := Aside0.mk (Below.refl w.heap.size w)
  have H : (escutcheonref1_Little.l0 k a0 0 ((mn (a0.size : Int) 8) - 1)) = some r := h
  clear h
  obtain ⟨ji2, hji2⟩ : ∃ j_ : Int, (mn (a0.size : Int) 8) = j_ := ⟨_, rfl⟩
  replace H : (escutcheonref1_Little.l0 k a0 0 ((ji2) - 1)) = some r := by first | (rw [hji2] at H; exact H) | (simp only [hji2] at H ⊢; exact H)
  (try (have hji2h : ji2 ≤ 8 := by (rw [← hji2]; unfold mn; (repeat' split) <;> omega)))
  (try (have hji2g : ji2 ≤ 64 := by omega))
  (try (have hji2l : 0 ≤ ji2 := by (rw [← hji2]; unfold mn; (repeat' split) <;> omega)))
  (try (have hji2m : 0 ≤ ji2 := by omega))
  have hji2_ : (if 8 < (a0.size : Int) then 8 else (a0.size : Int)) = ji2 := hji2
  (try (have hji2_n := hji2_; simp only [Int.ofNat_lt] at hji2_n))
  have H' := Aside0.mk H
  clear H
  go_enter Try.func26, Try.ntmps26
  go_wp2
  go_loopg [3, 4] k (fun kq v3 v4 w' => ∃ (x3_1 : Int) (x4_1 : Int), v3 = .int .u64 x3_1 ∧ v4 = .int .i64 x4_1 ∧ Aside0 (escutcheonref1_Little.l0 kq a0 x3_1 x4_1 = some r) ∧ Aside0 (kq ≤ k) ∧ Aside0 (Below w.heap.size w w'))
  case atStart => exact ⟨(0), ((ji2) - 1), (by first | rfl | (simp; done) | (simp [*]; done)), (by first | rfl | (simp; done) | (simp only [← hji2] <;> (first | rfl | simp)) | (simp [*]; done)), H', ⟨Nat.le_refl _⟩, ⟨by repeat (first | (with_reducible first | exact HB.out | apply below_alloc | apply pw_below_drewN | apply below_drew1) | exact HB.out)⟩⟩
  case round =>
    clear H'
    try clear c2
    try clear p2
    obtain ⟨x3_1, x4_1, rfl, rfl, HA, HK1, HB⟩ := hrel
    cases gk with
    | zero => exact absurd HA.out (by simp [escutcheonref1_Little.l0])
    | succ k1 =>
      have H := HA.out
      clear HA
      simp only [escutcheonref1_Little.l0] at H
      by_cases c3 : x4_1 ≥ 0
      · rw [if_pos c3] at H
        have c3b0 : decide (0 ≤ x4_1) = true := decide_eq_true c3
        clear c3
        by_cases c4 : 0 ≤ x4_1
        · rw [if_pos c4] at H
          have c4b0 : decide (0 ≤ x4_1) = true := decide_eq_true c4
          clear c4
          by_cases c5 : x4_1 < (a0.size : Int)
          · rw [if_pos c5] at H
            have c5b0 : decide (x4_1 < (a0.size : Int)) = true := decide_eq_true c5
            clear c5
            have H' := Aside0.mk H
            clear H
            have p6 : 0 ≤ (x4_1 : Int) := of_decide_eq_true (by first | (with_reducible assumption) | assumption)
            have q6 : x4_1 < (a0.size : Int) := of_decide_eq_true (by first | (with_reducible assumption) | assumption)
            have hx6 := bt_at a0 x4_1
            replace p6 := eq_true p6
            replace q6 := eq_true q6
            go_wp2
            go_roundg k1
            case measure => have := HK1.out; omega
            case rel => exact ⟨(IntKind.u64.wrap ((IntKind.u64.wrap (x3_1 * 256)) + (IntKind.u64.wrap (bt a0 x4_1)))), (wrap64 (x4_1 - 1)), (by first | rfl | (simp; done) | (simp [*]; done)), (by first | rfl | (simp; done) | (simp [*]; done)), H', ⟨by have := HK1.out; omega⟩, ⟨by repeat (first | (with_reducible first | exact HB.out | apply below_alloc | apply pw_below_drewN | apply below_drew1) | exact HB.out)⟩⟩
          · rw [if_neg c5] at H
            exact absurd H (by simp)
        · rw [if_neg c4] at H
          exact absurd H (by simp)
      · rw [if_neg c3] at H
        have c3b0 : decide (0 ≤ x4_1) = false := decide_eq_false c3
        clear c3
        obtain rfl := Option.some.inj H
        go_wp2
        go_ret
        exact ⟨by first | rfl | (simp [errW_none, errW_some] <;> rfl) | (simp only [← hji2]; first | rfl | (simp [errW_none, errW_some] <;> rfl)) | (simp [*, errW_none, errW_some] <;> rfl), by repeat (first | (with_reducible first | exact HB.out | apply below_alloc | apply pw_below_drewN | apply below_drew1) | exact HB.out)⟩

end Go.Proofs.Ytdnlenhkagfiaaa.P
