/- A part of a verified executor, its walks and its runs (W7, W8, W9, W10, XC2). -/
import Derived.Test.YtbopbldponnnpaaGreatDoorQ04
import Derived.KernelRfl
set_option linter.all false
section
namespace Go.Proofs.XCode
open Go.X
set_option linter.unusedSimpArgs false
set_option linter.unusedVariables false
set_option maxRecDepth 100000
def eachB : List Nat := [66, 138, 47, 152, 113, 55, 68, 145, 181, 192, 251, 207, 233, 181, 219, 165, 57, 86, 194, 91, 89, 241, 17, 241, 146, 63, 130, 164, 171, 28, 94, 213, 216, 7, 170, 152, 18, 131, 91, 1, 36, 49, 133, 190, 85, 12, 125, 195, 114, 190, 93, 116, 128, 222, 177, 254, 155, 220, 6, 167, 193, 155, 241, 116, 228, 155, 105, 193, 239, 190, 71, 134, 15, 193, 157, 198, 36, 12, 161, 204, 45, 233, 44, 111, 74, 116, 132, 170, 92, 176, 169, 220, 118, 249, 136, 218, 152, 62, 81, 82, 168, 49, 198, 109, 176, 3, 39, 200, 191, 89, 127, 199, 198, 224, 11, 243, 213, 167, 145, 71, 6, 202, 99, 81, 20, 41, 41, 103, 39, 183, 10, 133, 46, 27, 33, 56, 77, 44, 109, 252, 83, 56, 13, 19, 101, 10, 115, 84, 118, 106, 10, 187, 129, 194, 201, 46, 146, 114, 44, 133, 162, 191, 232, 161, 168, 26, 102, 75, 194, 75, 139, 112, 199, 108, 81, 163, 209, 146, 232, 25, 214, 153, 6, 36, 244, 14, 53, 133, 16, 106, 160, 112, 25, 164, 193, 22, 30, 55, 108, 8, 39, 72, 119, 76, 52, 176, 188, 181, 57, 28, 12, 179, 78, 216, 170, 74, 91, 156, 202, 79, 104, 46, 111, 243, 116, 143, 130, 238, 120, 165, 99, 111, 132, 200, 120, 20, 140, 199, 2, 8, 144, 190, 255, 250, 164, 80, 108, 235, 190, 249, 163, 247, 198, 113, 120, 242]
def firstB : List Nat := [106, 9, 230, 103, 187, 103, 174, 133, 60, 110, 243, 114, 165, 79, 245, 58, 81, 14, 82, 127, 155, 5, 104, 140, 31, 131, 217, 171, 91, 224, 205, 25]
theorem each_hex : ([52, 50, 56, 97, 50, 102, 57, 56, 55, 49, 51, 55, 52, 52, 57, 49, 98, 53, 99, 48, 102, 98, 99, 102, 101, 57, 98, 53, 100, 98, 97, 53, 51, 57, 53, 54, 99, 50, 53, 98, 53, 57, 102, 49, 49, 49, 102, 49, 57, 50, 51, 102, 56, 50, 97, 52, 97, 98, 49, 99, 53, 101, 100, 53, 100, 56, 48, 55, 97, 97, 57, 56, 49, 50, 56, 51, 53, 98, 48, 49, 50, 52, 51, 49, 56, 53, 98, 101, 53, 53, 48, 99, 55, 100, 99, 51, 55, 50, 98, 101, 53, 100, 55, 52, 56, 48, 100, 101, 98, 49, 102, 101, 57, 98, 100, 99, 48, 54, 97, 55, 99, 49, 57, 98, 102, 49, 55, 52, 101, 52, 57, 98, 54, 57, 99, 49, 101, 102, 98, 101, 52, 55, 56, 54, 48, 102, 99, 49, 57, 100, 99, 54, 50, 52, 48, 99, 97, 49, 99, 99, 50, 100, 101, 57, 50, 99, 54, 102, 52, 97, 55, 52, 56, 52, 97, 97, 53, 99, 98, 48, 97, 57, 100, 99, 55, 54, 102, 57, 56, 56, 100, 97, 57, 56, 51, 101, 53, 49, 53, 50, 97, 56, 51, 49, 99, 54, 54, 100, 98, 48, 48, 51, 50, 55, 99, 56, 98, 102, 53, 57, 55, 102, 99, 55, 99, 54, 101, 48, 48, 98, 102, 51, 100, 53, 97, 55, 57, 49, 52, 55, 48, 54, 99, 97, 54, 51, 53, 49, 49, 52, 50, 57, 50, 57, 54, 55, 50, 55, 98, 55, 48, 97, 56, 53, 50, 101, 49, 98, 50, 49, 51, 56, 52, 100, 50, 99, 54, 100, 102, 99, 53, 51, 51, 56, 48, 100, 49, 51, 54, 53, 48, 97, 55, 51, 53, 52, 55, 54, 54, 97, 48, 97, 98, 98, 56, 49, 99, 50, 99, 57, 50, 101, 57, 50, 55, 50, 50, 99, 56, 53, 97, 50, 98, 102, 101, 56, 97, 49, 97, 56, 49, 97, 54, 54, 52, 98, 99, 50, 52, 98, 56, 98, 55, 48, 99, 55, 54, 99, 53, 49, 97, 51, 100, 49, 57, 50, 101, 56, 49, 57, 100, 54, 57, 57, 48, 54, 50, 52, 102, 52, 48, 101, 51, 53, 56, 53, 49, 48, 54, 97, 97, 48, 55, 48, 49, 57, 97, 52, 99, 49, 49, 54, 49, 101, 51, 55, 54, 99, 48, 56, 50, 55, 52, 56, 55, 55, 52, 99, 51, 52, 98, 48, 98, 99, 98, 53, 51, 57, 49, 99, 48, 99, 98, 51, 52, 101, 100, 56, 97, 97, 52, 97, 53, 98, 57, 99, 99, 97, 52, 102, 54, 56, 50, 101, 54, 102, 102, 51, 55, 52, 56, 102, 56, 50, 101, 101, 55, 56, 97, 53, 54, 51, 54, 102, 56, 52, 99, 56, 55, 56, 49, 52, 56, 99, 99, 55, 48, 50, 48, 56, 57, 48, 98, 101, 102, 102, 102, 97, 97, 52, 53, 48, 54, 99, 101, 98, 98, 101, 102, 57, 97, 51, 102, 55, 99, 54, 55, 49, 55, 56, 102, 50] : List Nat) = hexL eachB := by decide
theorem first_hex : ([54, 97, 48, 57, 101, 54, 54, 55, 98, 98, 54, 55, 97, 101, 56, 53, 51, 99, 54, 101, 102, 51, 55, 50, 97, 53, 52, 102, 102, 53, 51, 97, 53, 49, 48, 101, 53, 50, 55, 102, 57, 98, 48, 53, 54, 56, 56, 99, 49, 102, 56, 51, 100, 57, 97, 98, 53, 98, 101, 48, 99, 100, 49, 57] : List Nat) = hexL firstB := by decide
theorem eachB_lt : ∀ i, eachB.getD i 0 < 256 := by
  have h : ∀ x ∈ eachB, x < 256 := by decide
  intro i
  rw [List.getD_eq_getElem?_getD]
  cases e : eachB[i]? with
  | none => decide
  | some x => exact h x (List.mem_of_getElem? e)
theorem firstB_lt : ∀ i, firstB.getD i 0 < 256 := by
  have h : ∀ x ∈ firstB, x < 256 := by decide
  intro i
  rw [List.getD_eq_getElem?_getD]
  cases e : firstB[i]? with
  | none => decide
  | some x => exact h x (List.mem_of_getElem? e)
def wordAt (b : List Nat) (i : Nat) : Nat := bigN ((b.drop (4 * i)).take 4) 0
def putW (T : List XV) (off : Nat) (b : List Nat) : Nat → List XV
  | 0 => T
  | i + 1 => (putW T off b i).set (off + i) (.int .u32 (.ofNat (wordAt b i)))
theorem putW_len (T : List XV) (off : Nat) (b : List Nat) : ∀ i, (putW T off b i).length = T.length
  | 0 => rfl
  | i + 1 => by rw [putW, List.length_set, putW_len T off b i]
theorem wordAt_lt {b : List Nat} {i : Nat} (hb : ∀ i, b.getD i 0 < 256) : wordAt b i < 4294967296 := by
  have := bigN_lt ((b.drop (4 * i)).take 4) 0 (getD_part hb _ _)
  refine Nat.lt_of_lt_of_le this ?_
  have hl : ((b.drop (4 * i)).take 4).length ≤ 4 := by rw [List.length_take]; omega
  have := Nat.pow_le_pow_right (n := 256) (by decide) hl
  omega
theorem words_call (t off n : Nat) (b : List Nat) (hb : ∀ i, b.getD i 0 < 256) (hl : b.length = 4 * n) (hn : n ≤ 64) (T : List XV) (tg : Option Nat) (h : XH) (ht : t < h.next) (hg : h.get t = some (.cells T false tg)) (hT : off + n ≤ T.length) :
    CallEv E0 n_digest_words [.slice t off n n 1 true, .str (hexL b)] h (fun _ k => k.get t = some (.cells (putW T off b n) false tg) ∧ HExtE t h k) := by
  refine call_fn fn_digest_words ?_
  simp only [args0_cons, args0_nil]
  repeat with_reducible first
    | refine go_seq hE0 ?_ | refine go_region ?_ | refine ops_nil ?_ | refine ret_seq.2 ?_
    | (refine ops_cw hE0 ?_; simp (disch := first | omega | decide) only [eff, runE, bE])
    | (refine ops_op ?_; simp (disch := first | omega | decide) only [eff, runE, bE]; refine rgo ?_)
    | refine go_block ?_ | refine go_skip ?_ | refine go_exit ?_ | refine go_ret ?_
    | refine ret_seq_x.2 ?_ | refine ret_seq_r.2 ?_ | refine ret_block.2 ?_ | refine ret_block_hit.2 ?_ | refine (ret_block_miss rfl).2 ?_ | refine ret_block_r.2 ?_ | refine ret_loop_x.2 ?_ | refine ret_loop_r.2 ?_
  refine callGo_ex (unhex_call b hb (by omega) h) ?_
  rintro _ k1 ⟨rfl, hx1⟩
  repeat with_reducible first
    | refine go_seq hE0 ?_ | refine go_region ?_ | refine ops_nil ?_ | refine ret_seq.2 ?_
    | (refine ops_cw hE0 ?_; simp (disch := first | omega | decide) only [eff, runE, bE])
    | (refine ops_op ?_; simp (disch := first | omega | decide) only [eff, runE, bE]; refine rgo ?_)
    | refine go_block ?_ | refine go_skip ?_ | refine go_exit ?_ | refine go_ret ?_
    | refine ret_seq_x.2 ?_ | refine ret_seq_r.2 ?_ | refine ret_block.2 ?_ | refine ret_block_hit.2 ?_ | refine (ret_block_miss rfl).2 ?_ | refine ret_block_r.2 ?_ | refine ret_loop_x.2 ?_ | refine ret_loop_r.2 ?_
  refine go_loop_ind hE0 (fun m fr k => ∃ i, m = n - i ∧ i ≤ n ∧ h.next ≤ k.next ∧ (∀ m, m < h.next → m ≠ t → k.get m = h.get m) ∧ k.get t = some (.cells (putW T off b i) false tg) ∧
      ev fr (.t (ixOf 0)) = .slice t off n n 1 true ∧ ev fr (.t (ixOf 4)) = .str b ∧ ev fr (.t (ixOf 13)) = .int .i64 (.ofNat n) ∧ ev fr (.t (ixOf 14)) = .int .i64 (.ofNat i)) ?_ (n := n) ?_
  · rintro m fr k IH ⟨i, rfl, hi, hk1, hk2, hk3, f0, f4, f13, f14⟩
    repeat with_reducible first
    | refine go_seq hE0 ?_ | refine go_region ?_ | refine ops_nil ?_ | refine ret_seq.2 ?_
    | (refine ops_cw hE0 ?_; simp (disch := first | omega | decide) only [eff, runE, bE, f13, f14])
    | (refine ops_op ?_; simp (disch := first | omega | decide) only [eff, runE, bE, f13, f14]; refine rgo ?_)
    | refine go_block ?_ | refine go_skip ?_ | refine go_exit ?_ | refine go_ret ?_
    | refine ret_seq_x.2 ?_ | refine ret_seq_r.2 ?_ | refine ret_block.2 ?_ | refine ret_block_hit.2 ?_ | refine (ret_block_miss rfl).2 ?_ | refine ret_block_r.2 ?_ | refine ret_loop_x.2 ?_ | refine ret_loop_r.2 ?_
    refine go_cond ?_
    simp (disch := first | omega | decide) only [eff, runE, bE]
    refine condGo_split (fun hc => ?_) (fun hc => ?_)
    · have hc := of_decide_eq_true hc
      have e4 : 4 * i + 4 - 4 * i = 4 := by omega
      repeat with_reducible first
    | refine go_seq hE0 ?_ | refine go_region ?_ | refine ops_nil ?_ | refine ret_seq.2 ?_
    | (refine ops_cw hE0 ?_; simp (disch := first | omega | decide) only [eff, runE, bE, f0, f4, f14, e4])
    | (refine ops_op ?_; simp (disch := first | omega | decide) only [eff, runE, bE, f0, f4, f14, e4]; refine rgo ?_)
    | refine go_block ?_ | refine go_skip ?_ | refine go_exit ?_ | refine go_ret ?_
    | refine ret_seq_x.2 ?_ | refine ret_seq_r.2 ?_ | refine ret_block.2 ?_ | refine ret_block_hit.2 ?_ | refine (ret_block_miss rfl).2 ?_ | refine ret_block_r.2 ?_ | refine ret_loop_x.2 ?_ | refine ret_loop_r.2 ?_
      refine callGo_ex (big _ (getD_part hb _ _) (by rw [List.length_take]; omega) k) ?_
      rintro _ k2 ⟨rfl, hx2⟩
      have g2 : k2.get t = _ := (hx2.get _ (by omega)).trans hk3
      have hw : bigN ((b.drop (4 * i)).take 4) 0 % 4294967296 = wordAt b i := Nat.mod_eq_of_lt (wordAt_lt hb)
      have hst := e_store1 (k := .u32) (n := .ofNat (wordAt b i)) (o := off + i) g2 (by rw [putW_len]; omega)
      repeat with_reducible first
    | refine go_seq hE0 ?_ | refine go_region ?_ | refine ops_nil ?_ | refine ret_seq.2 ?_
    | (refine ops_cw hE0 ?_; simp (disch := first | omega | decide) only [eff, runE, bE, f0, f4, f14, hw, hst])
    | (refine ops_op ?_; simp (disch := first | omega | decide) only [eff, runE, bE, f0, f4, f14, hw, hst]; refine rgo ?_)
    | refine go_block ?_ | refine go_skip ?_ | refine go_exit ?_ | refine go_ret ?_
    | refine ret_seq_x.2 ?_ | refine ret_seq_r.2 ?_ | refine ret_block.2 ?_ | refine ret_block_hit.2 ?_ | refine (ret_block_miss rfl).2 ?_ | refine ret_block_r.2 ?_ | refine ret_loop_x.2 ?_ | refine ret_loop_r.2 ?_
      refine ret_loop.2 (IH (n - (i + 1)) _ _ (by omega) ⟨i + 1, rfl, by omega, ?_, ?_, ?_, ?_, ?_, ?_, ?_⟩)
      · have := hx2.le
        simp only [XH.next_set]; omega
      · intro m h1 h2
        rw [XH.get_set, if_neg h2, hx2.get _ (by omega), hk2 m h1 h2]
      · rw [XH.get_set, if_pos rfl, putW]
      all_goals simp (disch := first | omega | decide) only [eff, runE, bE, f0, f4, f13, f14]
    · have hc := of_decide_eq_false hc
      obtain rfl : i = n := by omega
      repeat with_reducible first
    | refine go_seq hE0 ?_ | refine go_region ?_ | refine ops_nil ?_ | refine ret_seq.2 ?_
    | (refine ops_cw hE0 ?_; simp (disch := first | omega | decide) only [eff, runE, bE])
    | (refine ops_op ?_; simp (disch := first | omega | decide) only [eff, runE, bE]; refine rgo ?_)
    | refine go_block ?_ | refine go_skip ?_ | refine go_exit ?_ | refine go_ret ?_
    | refine ret_seq_x.2 ?_ | refine ret_seq_r.2 ?_ | refine ret_block.2 ?_ | refine ret_block_hit.2 ?_ | refine (ret_block_miss rfl).2 ?_ | refine ret_block_r.2 ?_ | refine ret_loop_x.2 ?_ | refine ret_loop_r.2 ?_
      exact ret_nil.2 ⟨unit, rfl, hk3, hk1, hk2⟩
  · refine ⟨0, rfl, by omega, hx1.le, fun m h1 _ => hx1.get m h1, (hx1.get t ht).trans hg, ?_, ?_, ?_, ?_⟩ <;> simp (disch := first | omega | decide) only [eff, runE, bE]
def KS : List Nat := [1116352408, 1899447441, 3049323471, 3921009573, 961987163, 1508970993, 2453635748, 2870763221, 3624381080, 310598401, 607225278, 1426881987, 1925078388, 2162078206, 2614888103, 3248222580, 3835390401, 4022224774, 264347078, 604807628, 770255983, 1249150122, 1555081692, 1996064986, 2554220882, 2821834349, 2952996808, 3210313671, 3336571891, 3584528711, 113926993, 338241895, 666307205, 773529912, 1294757372, 1396182291, 1695183700, 1986661051, 2177026350, 2456956037, 2730485921, 2820302411, 3259730800, 3345764771, 3516065817, 3600352804, 4094571909, 275423344, 430227734, 506948616, 659060556, 883997877, 958139571, 1322822218, 1537002063, 1747873779, 1955562222, 2024104815, 2227730452, 2361852424, 2428436474, 2756734187, 3204031479, 3329325298]
def FI : List Nat := [1779033703, 3144134277, 1013904242, 2773480762, 1359893119, 2600822924, 528734635, 1541459225]
noncomputable def table0 : List XV := [.int .u32 (.ofNat 0), .int .i32 (.ofNat 0), .int .u32 (.ofNat 0)] ++ List.replicate 72 (.int .u32 (.ofNat 0))
noncomputable def tableA : List XV := table0.set 1 (.int .i32 (.ofNat 1))
noncomputable def tableB : List XV := putW tableA 3 eachB 64
noncomputable def tableC : List XV := putW tableB 67 firstB 8
noncomputable def tableD : List XV := (tableC.set 0 (.int .u32 (.ofNat 1))).set 1 (.int .i32 (.ofNat 0))
theorem tableD_eq : tableD = [.int .u32 (.ofNat 1), .int .i32 (.ofNat 0), .int .u32 (.ofNat 0)] ++ words KS ++ words FI := by kernel_rfl
theorem tableC1 : tableC[1]? = some (.int .i32 (.ofNat 1)) := by kernel_rfl
theorem tableC_len : tableC.length = 75 := by kernel_rfl
theorem tableD_k : ∀ i, i < 64 → tableD[3 + i]? = some (.int .u32 (.ofNat (KS.getD i 0))) := by
  intro i hi
  rw [tableD_eq, List.getElem?_append_left (by rw [List.length_append, words_length]; show 3 + i < 3 + 64; omega), List.getElem?_append_right (by show 3 ≤ 3 + i; omega)]
  show (words KS)[3 + i - 3]? = _
  rw [Nat.add_sub_cancel_left]
  exact words_get hi
theorem tableD_len : tableD.length = 75 := by rw [tableD_eq]; rfl
theorem tableD_first : (tableD.drop 67).take 8 = words FI := by kernel_rfl
theorem p_sliceA_all (n es b o : Nat) (hn : 0 < n) : pSliceA n es (.ptr b o) none none = some (.slice b o n n es true) := by
  have h1 : Nat.ble n 0 = false := by
    rw [n_ble]; exact decide_eq_false (by omega)
  simp only [pSliceA, bnds, oNat, n_ble, Nat.zero_le, Nat.le_refl, decide_true, cond_true, offAt, n_beq, show ¬ n = 0 by omega, decide_false, cond_false, n_add, n_mul, n_sub, Nat.zero_mul, Nat.add_zero, Nat.sub_zero]
theorem once_fn : E0.fn 99 = some (.intr 1) := intr_of (by kernel_rfl)
theorem made1_call (p t : Nat) (h : XH) (tg tp : Option Nat) (hp : p < h.next) (ht : t < h.next) (hpt : p ≠ t) (hgp : h.get p = some (.cells [.ptr t 0] false tp)) (hg : h.get t = some (.cells tableA false tg)) :
    CallEv E0 n_digest_table_made_1 [.ptr p 0] h (fun _ k => k.get t = some (.cells tableC false tg) ∧ HExtE t h k) := by
  have l1 := r_load1 (h := h) (o := 0) hgp rfl
  refine call_fn fn_digest_table_made_1 ?_
  simp only [args0_cons, args0_nil]
  repeat with_reducible first
    | refine go_seq hE0 ?_ | refine go_region ?_ | refine ops_nil ?_ | refine ret_seq.2 ?_
    | (refine ops_cw hE0 ?_; simp (disch := first | omega | decide) only [eff, runE, bE, l1, p_sliceA_all, each_hex])
    | (refine ops_op ?_; simp (disch := first | omega | decide) only [eff, runE, bE, l1, p_sliceA_all, each_hex]; refine rgo ?_)
    | refine go_block ?_ | refine go_skip ?_ | refine go_exit ?_ | refine go_ret ?_
    | refine ret_seq_x.2 ?_ | refine ret_seq_r.2 ?_ | refine ret_block.2 ?_ | refine ret_block_hit.2 ?_ | refine (ret_block_miss rfl).2 ?_ | refine ret_block_r.2 ?_ | refine ret_loop_x.2 ?_ | refine ret_loop_r.2 ?_
  refine callGo_ex (words_call t 3 64 eachB eachB_lt rfl (by decide) tableA tg h ht hg (by decide)) ?_
  rintro _ k1 ⟨g1, x1⟩
  have gp : k1.get p = _ := (x1.get p hp hpt).trans hgp
  have l2 := r_load1 (h := k1) (o := 0) gp rfl
  have hk := x1.le
  repeat with_reducible first
    | refine go_seq hE0 ?_ | refine go_region ?_ | refine ops_nil ?_ | refine ret_seq.2 ?_
    | (refine ops_cw hE0 ?_; simp (disch := first | omega | decide) only [eff, runE, bE, l2, p_sliceA_all, first_hex])
    | (refine ops_op ?_; simp (disch := first | omega | decide) only [eff, runE, bE, l2, p_sliceA_all, first_hex]; refine rgo ?_)
    | refine go_block ?_ | refine go_skip ?_ | refine go_exit ?_ | refine go_ret ?_
    | refine ret_seq_x.2 ?_ | refine ret_seq_r.2 ?_ | refine ret_block.2 ?_ | refine ret_block_hit.2 ?_ | refine (ret_block_miss rfl).2 ?_ | refine ret_block_r.2 ?_ | refine ret_loop_x.2 ?_ | refine ret_loop_r.2 ?_
  refine callGo_ex (words_call t 67 8 firstB firstB_lt rfl (by decide) tableB tg k1 (by omega) g1 (by rw [tableB, putW_len]; decide)) ?_
  rintro _ k2 ⟨g2, x2⟩
  have hk2 := x2.le
  repeat with_reducible first
    | refine go_seq hE0 ?_ | refine go_region ?_ | refine ops_nil ?_ | refine ret_seq.2 ?_
    | (refine ops_cw hE0 ?_; simp (disch := first | omega | decide) only [eff, runE, bE])
    | (refine ops_op ?_; simp (disch := first | omega | decide) only [eff, runE, bE]; refine rgo ?_)
    | refine go_block ?_ | refine go_skip ?_ | refine go_exit ?_ | refine go_ret ?_
    | refine ret_seq_x.2 ?_ | refine ret_seq_r.2 ?_ | refine ret_block.2 ?_ | refine ret_block_hit.2 ?_ | refine (ret_block_miss rfl).2 ?_ | refine ret_block_r.2 ?_ | refine ret_loop_x.2 ?_ | refine ret_loop_r.2 ?_
  exact ret_nil.2 ⟨unit, rfl, g2, ⟨by omega, fun n h1 h2 => by rw [x2.get n (by omega) h2, x1.get n h1 h2]⟩⟩
theorem made_call (t : Nat) (h : XH) (tg : Option Nat) (ht : t < h.next) (hg : h.get t = some (.cells table0 false tg)) :
    CallEv E0 n_digest_table_made [.ptr t 0] h (fun r k => r = .ptr t 0 ∧ k.get t = some (.cells tableD false tg) ∧ HExtE t h k) := by
  have gb : (h.new (.cells [.ptr t 0] false none)).get h.next = some (.cells [.ptr t 0] false none) := by rw [XH.get_new, if_pos rfl]
  have gt : (h.new (.cells [.ptr t 0] false none)).get t = some (.cells table0 false tg) := by rw [XH.get_new, if_neg (by omega)]; exact hg
  have l1 := r_load1 (o := 0) gb rfl
  refine call_fn fn_digest_table_made ?_
  simp only [args0_cons, args0_nil]
  repeat with_reducible first
    | refine go_seq hE0 ?_ | refine go_region ?_ | refine ops_nil ?_ | refine ret_seq.2 ?_
    | (refine ops_cw hE0 ?_; simp (disch := first | omega | decide) only [eff, runE, bE, XV.cells, l1, mapX])
    | (refine ops_op ?_; simp (disch := first | omega | decide) only [eff, runE, bE, XV.cells, l1, mapX]; refine rgo ?_)
    | refine go_block ?_ | refine go_skip ?_ | refine go_exit ?_ | refine go_ret ?_
    | refine ret_seq_x.2 ?_ | refine ret_seq_r.2 ?_ | refine ret_block.2 ?_ | refine ret_block_hit.2 ?_ | refine (ret_block_miss rfl).2 ?_ | refine ret_block_r.2 ?_ | refine ret_loop_x.2 ?_ | refine ret_loop_r.2 ?_
  have c0 := cell_at (o := 0) (v := .int .u32 (.ofNat 0)) gt rfl
  have c1 := cell_at (o := 1) (v := .int .i32 (.ofNat 0)) gt rfl
  have e1 := wr1 (o := 1) (v := .int .i32 (.ofNat 1)) gt (by decide) rfl
  obtain ⟨h1, hh1⟩ : ∃ h1, h1 = (h.new (.cells [.ptr t 0] false none)).set t (.cells (table0.set 1 (.int .i32 (.ofNat 1))) false tg) := ⟨_, rfl⟩
  rw [← hh1] at e1
  have n1 : h1.next = h.next + 1 := by rw [hh1]; rfl
  have gp1 : h1.get h.next = some (.cells [.ptr t 0] false none) := by rw [hh1, XH.get_set, if_neg (by omega)]; exact gb
  have gt1 : h1.get t = some (.cells tableA false tg) := by rw [hh1, XH.get_set, if_pos rfl]; rfl
  have o1 : ∀ n, n < h.next → n ≠ t → h1.get n = h.get n := fun n h2 h3 => by rw [hh1, XH.get_set, if_neg h3, XH.get_new, if_neg (by omega)]
  refine callGo_ex (call_once once_fn (fun _ _ _ => rfl) c0 c1 e1 fn_digest_table_made_1 ((made1_call h.next t h1 tg none (by omega) (by omega) (by omega) gp1 gt1).mono (fun _ k hk => ?_)) (Q := fun k => k.get t = some (.cells tableD false tg) ∧ HExtE t h k ∧ h.next + 1 ≤ k.next ∧ k.get h.next = some (.cells [.ptr t 0] false none))) ?_
  · obtain ⟨g2, x2⟩ := hk
    have hk2 := x2.le
    have e3 := wr1 (o := 0) (v := .int .u32 (.ofNat 1)) g2 (by rw [tableC_len]; decide) rfl
    have e4 := wr1 (h := k.set t (.cells (tableC.set 0 (.int .u32 (.ofNat 1))) false tg)) (o := 1) (v := .int .i32 (.ofNat 0)) (by rw [XH.get_set, if_pos rfl]) (by rw [List.length_set, tableC_len]; decide) rfl
    refine ⟨_, _, cell_at g2 tableC1, e3, e4, ?_, ⟨?_, fun n h2 h3 => ?_⟩, ?_, ?_⟩
    · rw [XH.get_set, if_pos rfl]; rfl
    · simp only [XH.next_set]; omega
    · rw [XH.get_set, if_neg h3, XH.get_set, if_neg h3, x2.get n (by omega) h3, o1 n h2 h3]
    · simp only [XH.next_set]; omega
    · rw [XH.get_set, if_neg (by omega), XH.get_set, if_neg (by omega), x2.get _ (by omega) (by omega)]; exact gp1
  · rintro _ k ⟨rfl, g2, x2, n2, gp2⟩
    have l2 := r_load1 (o := 0) gp2 rfl
    repeat with_reducible first
    | refine go_seq hE0 ?_ | refine go_region ?_ | refine ops_nil ?_ | refine ret_seq.2 ?_
    | (refine ops_cw hE0 ?_; simp (disch := first | omega | decide) only [eff, runE, bE, l2])
    | (refine ops_op ?_; simp (disch := first | omega | decide) only [eff, runE, bE, l2]; refine rgo ?_)
    | refine go_block ?_ | refine go_skip ?_ | refine go_exit ?_ | refine go_ret ?_
    | refine ret_seq_x.2 ?_ | refine ret_seq_r.2 ?_ | refine ret_block.2 ?_ | refine ret_block_hit.2 ?_ | refine (ret_block_miss rfl).2 ?_ | refine ret_block_r.2 ?_ | refine ret_loop_x.2 ?_ | refine ret_loop_r.2 ?_
    refine ret_nil.2 ⟨_, fin_tmp (.inr rfl), ?_, g2, x2⟩
    simp (disch := first | omega | decide) only [eff, runE, bE]
end Go.Proofs.XCode
end
section
namespace Go.Proofs.XCode
open Go.X
set_option linter.unusedSimpArgs false
set_option linter.unusedVariables false
theorem u8s_set (l : List Nat) (i x : Nat) : (u8s l).set i (.int .u8 (.ofNat x)) = u8s (l.set i x) := by
  simp [u8s, mapX_eq, List.map_set]
theorem u8s_append (a b : List Nat) : u8s (a ++ b) = u8s a ++ u8s b := by simp [u8s, mapX_eq]
theorem u8s_one (l : List Nat) : allOne (u8s l) = true := by
  induction l with
  | nil => rfl
  | cons a l ih => exact ih
theorem rep_u8s (n : Nat) : List.replicate n (XV.int .u8 (.ofNat 0)) = u8s (List.replicate n 0) := by simp [u8s, mapX_eq]
theorem wrap_u8m (n : Nat) : wrapX .u8 (.ofNat n) = .ofNat (n % 256) := rfl
theorem lt_all {l : List Nat} (h : ∀ i, l.getD i 0 < 256) : ∀ x ∈ l, x < 256 := by
  intro x hx
  obtain ⟨j, hj, rfl⟩ := List.getElem_of_mem hx
  have := h j
  rwa [List.getD_eq_getElem?_getD, List.getElem?_eq_getElem hj] at this
def pbN (v n : Nat) : Nat → List Nat
  | 0 => List.replicate n 0
  | i + 1 => (pbN v n i).set (n - 1 - i) (v >>> (8 * i) % 256)
theorem pbN_len (v n : Nat) : ∀ i, (pbN v n i).length = n
  | 0 => by simp [pbN]
  | i + 1 => by rw [pbN, List.length_set, pbN_len v n i]
theorem getD_set_lt {l : List Nat} {i x m : Nat} (hm : 0 < m) (hl : ∀ i, l.getD i 0 < m) (hx : x < m) : ∀ j, (l.set i x).getD j 0 < m := by
  intro j
  rw [List.getD_eq_getElem?_getD, List.getElem?_set]
  split
  · split
    · exact hx
    · exact hm
  · rw [← List.getD_eq_getElem?_getD]; exact hl j
theorem pbN_lt (v n : Nat) : ∀ i j, (pbN v n i).getD j 0 < 256
  | 0, j => by
    simp only [pbN, List.getD_eq_getElem?_getD, List.getElem?_replicate]
    split <;> decide
  | i + 1, j => getD_set_lt (by decide) (pbN_lt v n i) (Nat.mod_lt _ (by decide)) j
noncomputable def putBig (v n : Nat) : List Nat := pbN v n n
theorem putBig_call (v n : Nat) (hv : v < 18446744073709551616) (h1 : 1 ≤ n) (h8 : n ≤ 8) (h : XH) : CallEv E0 n_octet_PutBig [.int .u64 (.ofNat v), .int .i64 (.ofNat n)] h (fun r k => r = .str (putBig v n) ∧ HExt h k) := by
  have c1 : ¬ n < 1 := by omega
  have c2 : ¬ 8 < n := by omega
  refine call_fn fn_octet_PutBig ?_
  simp only [args0_cons, args0_nil]
  repeat with_reducible first
    | refine go_seq hE0 ?_ | refine go_region ?_ | refine ops_nil ?_ | refine ret_seq.2 ?_
    | (refine ops_cw hE0 ?_; simp (disch := first | omega | decide) only [eff, runE, bE, c1, c2, decide_false, cond_false])
    | (refine ops_op ?_; simp (disch := first | omega | decide) only [eff, runE, bE, c1, c2, decide_false, cond_false]; refine rgo ?_)
    | refine go_block ?_ | refine go_skip ?_ | refine go_exit ?_ | refine go_ret ?_
    | refine ret_seq_x.2 ?_ | refine ret_seq_r.2 ?_ | refine ret_block.2 ?_ | refine ret_block_hit.2 ?_ | refine (ret_block_miss rfl).2 ?_ | refine ret_block_r.2 ?_ | refine ret_loop_x.2 ?_ | refine ret_loop_r.2 ?_
  refine go_cond ?_
  simp (disch := first | omega | decide) only [eff, runE, bE, c1, c2, decide_false, cond_false]
  refine condGo_false ?_
  repeat with_reducible first
    | refine go_seq hE0 ?_ | refine go_region ?_ | refine ops_nil ?_ | refine ret_seq.2 ?_
    | (refine ops_cw hE0 ?_; simp (disch := first | omega | decide) only [eff, runE, bE, a_mk _ _ _ _ _ (Nat.le_refl n), flat1, rep_u8s])
    | (refine ops_op ?_; simp (disch := first | omega | decide) only [eff, runE, bE, a_mk _ _ _ _ _ (Nat.le_refl n), flat1, rep_u8s]; refine rgo ?_)
    | refine go_block ?_ | refine go_skip ?_ | refine go_exit ?_ | refine go_ret ?_
    | refine ret_seq_x.2 ?_ | refine ret_seq_r.2 ?_ | refine ret_block.2 ?_ | refine ret_block_hit.2 ?_ | refine (ret_block_miss rfl).2 ?_ | refine ret_block_r.2 ?_ | refine ret_loop_x.2 ?_ | refine ret_loop_r.2 ?_
  refine go_loop_ind hE0 (fun m fr k => ∃ i, m = n - i ∧ i ≤ n ∧ HExt h k ∧ h.next + 1 ≤ k.next ∧ k.get h.next = some (.cells (u8s (pbN v n i)) false none) ∧
      ev fr (.t (ixOf 0)) = .int .u64 (.ofNat v) ∧ ev fr (.t (ixOf 1)) = .int .i64 (.ofNat n) ∧ ev fr (.t (ixOf 5)) = .slice h.next 0 n n 1 true ∧ ev fr (.t (ixOf 16)) = .int .i64 (.ofNat n) ∧ ev fr (.t (ixOf 17)) = .int .i64 (.ofNat i)) ?_ (n := n) ?_
  · rintro m fr k IH ⟨i, rfl, hi, hx, hn, hg, f0, f1, f5, f16, f17⟩
    repeat with_reducible first
    | refine go_seq hE0 ?_ | refine go_region ?_ | refine ops_nil ?_ | refine ret_seq.2 ?_
    | (refine ops_cw hE0 ?_; simp (disch := first | omega | decide) only [eff, runE, bE, f16, f17])
    | (refine ops_op ?_; simp (disch := first | omega | decide) only [eff, runE, bE, f16, f17]; refine rgo ?_)
    | refine go_block ?_ | refine go_skip ?_ | refine go_exit ?_ | refine go_ret ?_
    | refine ret_seq_x.2 ?_ | refine ret_seq_r.2 ?_ | refine ret_block.2 ?_ | refine ret_block_hit.2 ?_ | refine (ret_block_miss rfl).2 ?_ | refine ret_block_r.2 ?_ | refine ret_loop_x.2 ?_ | refine ret_loop_r.2 ?_
    refine go_cond ?_
    simp (disch := first | omega | decide) only [eff, runE, bE]
    refine condGo_split (fun hc => ?_) (fun hc => ?_)
    · have hc := of_decide_eq_true hc
      have hb : 8 * i ≤ IntKind.u64.bits := by show 8 * i ≤ 64; omega
      have hst := e_store_one (b := h.next) (o := n - 1 - i) (v := .int .u8 (.ofNat (v >>> (8 * i) % 256))) hg (by rw [u8s_length, pbN_len]; omega) rfl
      rw [u8s_set] at hst
      repeat with_reducible first
    | refine go_seq hE0 ?_ | refine go_region ?_ | refine ops_nil ?_ | refine ret_seq.2 ?_
    | (refine ops_cw hE0 ?_; simp (disch := first | omega | decide) only [eff, runE, bE, f0, f1, f5, f17, hb, wrap_u8m, hst])
    | (refine ops_op ?_; simp (disch := first | omega | decide) only [eff, runE, bE, f0, f1, f5, f17, hb, wrap_u8m, hst]; refine rgo ?_)
    | refine go_block ?_ | refine go_skip ?_ | refine go_exit ?_ | refine go_ret ?_
    | refine ret_seq_x.2 ?_ | refine ret_seq_r.2 ?_ | refine ret_block.2 ?_ | refine ret_block_hit.2 ?_ | refine (ret_block_miss rfl).2 ?_ | refine ret_block_r.2 ?_ | refine ret_loop_x.2 ?_ | refine ret_loop_r.2 ?_
      refine ret_loop.2 (IH (n - (i + 1)) _ _ (by omega) ⟨i + 1, rfl, by omega, hx.set (m := h.next) (by omega) _, ?_, ?_, ?_, ?_, ?_, ?_, ?_⟩)
      · simp only [XH.next_set]; omega
      · rw [XH.get_set, if_pos rfl]; rfl
      all_goals simp (disch := first | omega | decide) only [eff, runE, bE, f0, f1, f5, f16, f17]
    · have hc := of_decide_eq_false hc
      obtain rfl : i = n := by omega
      have hcv := r_convBS (h := k) (b := h.next) (o := 0) (len := i) (cap := i) (ex := true) (s := pbN v i i) (by rw [cells_b hg (by rw [u8s_length, pbN_len]; omega), List.drop_zero, List.take_of_length_le (by rw [u8s_length, pbN_len]; exact Nat.le_refl _)]) (lt_all (pbN_lt _ _ _))
      repeat with_reducible first
    | refine go_seq hE0 ?_ | refine go_region ?_ | refine ops_nil ?_ | refine ret_seq.2 ?_
    | (refine ops_cw hE0 ?_; simp (disch := first | omega | decide) only [eff, runE, bE, f5, hcv])
    | (refine ops_op ?_; simp (disch := first | omega | decide) only [eff, runE, bE, f5, hcv]; refine rgo ?_)
    | refine go_block ?_ | refine go_skip ?_ | refine go_exit ?_ | refine go_ret ?_
    | refine ret_seq_x.2 ?_ | refine ret_seq_r.2 ?_ | refine ret_block.2 ?_ | refine ret_block_hit.2 ?_ | refine (ret_block_miss rfl).2 ?_ | refine ret_block_r.2 ?_ | refine ret_loop_x.2 ?_ | refine ret_loop_r.2 ?_
      refine ret_nil.2 ⟨_, fin_tmp (.inr rfl), ?_, hx⟩
      simp (disch := first | omega | decide) only [eff, runE, bE]
      rfl
  · refine ⟨0, rfl, by omega, (HExt.refl h).new _, ?_, ?_, ?_, ?_, ?_, ?_, ?_⟩
    · simp only [XH.next_new]; omega
    · rw [XH.get_new, if_pos rfl]; rfl
    all_goals simp (disch := first | omega | decide) only [eff, runE, bE]
theorem check_fn : E0.fn 66 = some (.intr (1000 + 93)) := intr_of (by kernel_rfl)
theorem string_fn : E0.fn 38 = some (.intr (2000 + 5)) := intr_of (by kernel_rfl)
def BldAt (B : Nat) (h : XH) (b : Nat) (s : List Nat) : Prop :=
  ∃ p buf, h.get b = some (.cells [p, buf] false (some (Nat.mul 2 93))) ∧ B ≤ b ∧ b < h.next ∧ (p = .nilp ∨ p = .ptr b 0) ∧
    ((s = [] ∧ buf = .nils) ∨ ∃ n, n ≠ b ∧ B ≤ n ∧ n < h.next ∧ s ≠ [] ∧ buf = .slice n 0 s.length s.length 1 false ∧ h.get n = some (.cells (u8s s) false (rowTag 5)))
def Keep (B : Nat) (h k : XH) : Prop := h.next ≤ k.next ∧ ∀ n, n < B → k.get n = h.get n
theorem check_ev {B b : Nat} {h : XH} {s : List Nat} (hb : BldAt B h b s) : CallEv E0 66 [.ptr b 0] h (fun _ k => (∃ buf, k.get b = some (.cells [.ptr b 0, buf] false (some (Nat.mul 2 93))) ∧ ((s = [] ∧ buf = .nils) ∨ ∃ n, n ≠ b ∧ B ≤ n ∧ n < k.next ∧ s ≠ [] ∧ buf = .slice n 0 s.length s.length 1 false ∧ k.get n = some (.cells (u8s s) false (rowTag 5)))) ∧ B ≤ b ∧ b < k.next ∧ Keep B h k) := by
  obtain ⟨p, buf, hg, hB, hlt, hp, hbuf⟩ := hb
  have hi : ∀ c, intr c (1000 + 93) [.ptr b 0] h = iCheck (Nat.mul 2 93) [.ptr b 0] h := fun c => rfl
  have hE : E0.intr = intr := rfl
  rcases hp with rfl | rfl
  · refine call_intr' check_fn 0 (v := unit) (h' := h.set b (.cells [.ptr b 0, buf] false (some (Nat.mul 2 93)))) ?_ ⟨⟨buf, by rw [XH.get_set, if_pos rfl], ?_⟩, hB, by simpa using hlt, by simp, fun n hn => by rw [XH.get_set, if_neg (by omega)]⟩
    · rw [hE, hi]
      simp only [iCheck, hg, lenX_eq, n_beq, List.length_cons, List.length_nil, decide_true, Bool.and_self, cond_true, nth_eq, List.getElem?_cons_zero, Nat.zero_add]
      rw [wr1 hg (by simp) rfl]
      rfl
    · rcases hbuf with h1 | ⟨n, h1, h2, h3, h4, h5, h6⟩
      · exact .inl h1
      · exact .inr ⟨n, h1, h2, by simpa using h3, h4, h5, by rw [XH.get_set, if_neg h1]; exact h6⟩
  · refine call_intr' check_fn 0 (v := unit) (h' := h) ?_ ⟨⟨buf, hg, hbuf⟩, hB, hlt, Nat.le_refl _, fun _ _ => rfl⟩
    rw [hE, hi]
    simp only [iCheck, hg, lenX_eq, n_beq, List.length_cons, List.length_nil, decide_true, Bool.and_self, cond_true, nth_eq, List.getElem?_cons_zero, Nat.zero_add]
theorem app_nil (h : XH) (w : List Nat) (hw : w ≠ []) (hl : w.length ≤ 1000) (et : Nat) : eAppend h 1 1 et .nils (.str w) = some (.slice h.next 0 w.length w.length 1 false, h.new (.cells (u8s w) false (rowTag et))) := by
  have h1 : lenOf (.str w) = some w.length := by simp [lenOf, lenX_eq]
  have h2 : cellsOf h 1 w.length (.str w) = some (u8s w) := by
    show (bif Nat.beq 1 1 then some (u8s (takeX w.length w)) else none) = _
    rw [takeX_eq, List.take_length]; rfl
  have h3 : ¬ w.length = 0 := fun e => hw (List.length_eq_zero_iff.1 e)
  have h4 : w.length * 2 ≤ 1000000 := by omega
  simp only [eAppend, h1, h2, appN, n_beq, h3, decide_false, cond_false, n_ble, n_mul, n_succ, h4, decide_true, cond_true, newS]
theorem app_row (h : XH) (s w : List Nat) (n et : Nat) (hw : w ≠ []) (hl : s.length + w.length ≤ 1000) (hg : h.get n = some (.cells (u8s s) false (rowTag et))) :
    eAppend h 1 1 et (.slice n 0 s.length s.length 1 false) (.str w) = some (.slice h.next 0 (s ++ w).length (s ++ w).length 1 false, (h.del n).new (.cells (u8s (s ++ w)) false (rowTag et))) := by
  have h1 : lenOf (.str w) = some w.length := by simp [lenOf, lenX_eq]
  have h2 : cellsOf h 1 w.length (.str w) = some (u8s w) := by
    show (bif Nat.beq 1 1 then some (u8s (takeX w.length w)) else none) = _
    rw [takeX_eq, List.take_length]; rfl
  have h3 : ¬ w.length = 0 := fun e => hw (List.length_eq_zero_iff.1 e)
  have h4 : (s.length + w.length) * 2 ≤ 1000000 := by omega
  have h5 : ¬ s.length + w.length ≤ s.length := by omega
  have h6 : cellsB h n 0 (s.length * 1) = some (u8s s) := by
    rw [cells_b hg (by rw [u8s_length]; omega), Nat.mul_one, List.drop_zero, List.take_of_length_le (by rw [u8s_length]; exact Nat.le_refl _)]
  have h7 : growTag 0 et (rowTag et) = rowTag et := by
    show (bif and (Nat.beq 0 0) (Nat.beq (Nat.succ (Nat.mul 2 et)) (Nat.succ (Nat.mul 2 et))) then _ else _) = _
    rw [Nat.beq_refl, Nat.beq_refl]; rfl
  simp only [eAppend, h1, h2, appN, n_beq, decide_true, cond_true, n_ble, n_add, h5, decide_false, cond_false, growS, h6, n_mul, n_succ, h4, hg, u8s_one, h7, newS, appX_eq, u8s_append, List.length_append]
  rfl
theorem write_call {B b : Nat} {h : XH} {s : List Nat} (hb : BldAt B h b s) (w : List Nat) (hw : w ≠ []) (hl : s.length + w.length ≤ 1000) : CallEv E0 n_strings_Builder_WriteString [.ptr b 0, .str w] h (fun _ k => BldAt B k b (s ++ w) ∧ Keep B h k) := by
  refine call_fn fn_strings_Builder_WriteString ?_
  simp only [args0_cons, args0_nil]
  repeat with_reducible first
    | refine go_seq hE0 ?_ | refine go_region ?_ | refine ops_nil ?_ | refine ret_seq.2 ?_
    | (refine ops_cw hE0 ?_; simp (disch := first | omega | decide) only [eff, runE, bE])
    | (refine ops_op ?_; simp (disch := first | omega | decide) only [eff, runE, bE]; refine rgo ?_)
    | refine go_block ?_ | refine go_skip ?_ | refine go_exit ?_ | refine go_ret ?_
    | refine ret_seq_x.2 ?_ | refine ret_seq_r.2 ?_ | refine ret_block.2 ?_ | refine ret_block_hit.2 ?_ | refine (ret_block_miss rfl).2 ?_ | refine ret_block_r.2 ?_ | refine ret_loop_x.2 ?_ | refine ret_loop_r.2 ?_
  refine callGo_ex (check_ev hb) ?_
  rintro _ k ⟨⟨buf, hg, hbuf⟩, hB, hlt, hk1, hk2⟩
  have l1 := r_load1 (o := 1) hg rfl
  have hsw : s ++ w ≠ [] := by simp [hw]
  rcases hbuf with ⟨rfl, rfl⟩ | ⟨n, n1, n2, n3, n4, rfl, n6⟩
  · have ha := app_nil k w hw (by simpa using hl) 5
    have hst := e_store_one (h := k.new (.cells (u8s w) false (rowTag 5))) (b := b) (o := 1) (v := .slice k.next 0 w.length w.length 1 false) (by rw [XH.get_new, if_neg (by omega)]; exact hg) (by simp) rfl
    repeat with_reducible first
    | refine go_seq hE0 ?_ | refine go_region ?_ | refine ops_nil ?_ | refine ret_seq.2 ?_
    | (refine ops_cw hE0 ?_; simp (disch := first | omega | decide) only [eff, runE, bE, l1, ha, hst])
    | (refine ops_op ?_; simp (disch := first | omega | decide) only [eff, runE, bE, l1, ha, hst]; refine rgo ?_)
    | refine go_block ?_ | refine go_skip ?_ | refine go_exit ?_ | refine go_ret ?_
    | refine ret_seq_x.2 ?_ | refine ret_seq_r.2 ?_ | refine ret_block.2 ?_ | refine ret_block_hit.2 ?_ | refine (ret_block_miss rfl).2 ?_ | refine ret_block_r.2 ?_ | refine ret_loop_x.2 ?_ | refine ret_loop_r.2 ?_
    refine ret_nil.2 ⟨_, by rw [show ([.tmp (ixOf 4), .tmp (ixOf 5)] : List XRes) = [4, 5].map fun i => .tmp (ixOf i) from rfl, fin_tmps (.inr rfl)], ?_, ?_, ?_⟩
    · refine ⟨.ptr b 0, .slice k.next 0 w.length w.length 1 false, by rw [XH.get_set, if_pos rfl]; rfl, hB, by simp only [XH.next_set, XH.next_new]; omega, .inr rfl, .inr ⟨k.next, by omega, by omega, by simp only [XH.next_set, XH.next_new]; omega, hsw, rfl, ?_⟩⟩
      rw [XH.get_set, if_neg (by omega), XH.get_new, if_pos rfl]; rfl
    · simp only [XH.next_set, XH.next_new]; omega
    · intro m hm
      rw [XH.get_set, if_neg (by omega), XH.get_new, if_neg (by omega), hk2 m hm]
  · have ha := app_row k s w n 5 hw hl n6
    have hst := e_store_one (h := (k.del n).new (.cells (u8s (s ++ w)) false (rowTag 5))) (b := b) (o := 1) (v := .slice k.next 0 (s ++ w).length (s ++ w).length 1 false) (by rw [XH.get_new, XH.next_del, if_neg (by omega), XH.get_del, if_neg (by omega)]; exact hg) (by simp) rfl
    repeat with_reducible first
    | refine go_seq hE0 ?_ | refine go_region ?_ | refine ops_nil ?_ | refine ret_seq.2 ?_
    | (refine ops_cw hE0 ?_; simp (disch := first | omega | decide) only [eff, runE, bE, l1, ha, hst])
    | (refine ops_op ?_; simp (disch := first | omega | decide) only [eff, runE, bE, l1, ha, hst]; refine rgo ?_)
    | refine go_block ?_ | refine go_skip ?_ | refine go_exit ?_ | refine go_ret ?_
    | refine ret_seq_x.2 ?_ | refine ret_seq_r.2 ?_ | refine ret_block.2 ?_ | refine ret_block_hit.2 ?_ | refine (ret_block_miss rfl).2 ?_ | refine ret_block_r.2 ?_ | refine ret_loop_x.2 ?_ | refine ret_loop_r.2 ?_
    refine ret_nil.2 ⟨_, by rw [show ([.tmp (ixOf 4), .tmp (ixOf 5)] : List XRes) = [4, 5].map fun i => .tmp (ixOf i) from rfl, fin_tmps (.inr rfl)], ?_, ?_, ?_⟩
    · refine ⟨.ptr b 0, .slice k.next 0 (s ++ w).length (s ++ w).length 1 false, by rw [XH.get_set, if_pos rfl]; rfl, hB, by simp only [XH.next_set, XH.next_new, XH.next_del]; omega, .inr rfl, .inr ⟨k.next, by omega, by omega, by simp only [XH.next_set, XH.next_new, XH.next_del]; omega, hsw, rfl, ?_⟩⟩
      rw [XH.get_set, if_neg (by omega), XH.get_new, XH.next_del, if_pos rfl]
    · simp only [XH.next_set, XH.next_new, XH.next_del]; omega
    · intro m hm
      rw [XH.get_set, if_neg (by omega), XH.get_new, XH.next_del, if_neg (by omega), XH.get_del, if_neg (by omega), hk2 m hm]
theorem string_call {B b : Nat} {h : XH} {s : List Nat} (hb : BldAt B h b s) (hs : ∀ i, s.getD i 0 < 256) (h0 : s ≠ []) (hl : s.length ≤ 1000) : CallEv E0 38 [.ptr b 0] h (fun r k => r = .str s ∧ Keep B h k) := by
  obtain ⟨p, buf, hg, hB, hlt, hp, hbuf⟩ := hb
  rcases hbuf with ⟨rfl, _⟩ | ⟨n, n1, n2, n3, n4, rfl, n6⟩
  · exact absurd rfl h0
  · refine call_intr' string_fn 0 (v := .str s) (h' := h.del n) ?_ ⟨rfl, by rw [XH.next_del]; exact Nat.le_refl _, fun m hm => by rw [XH.get_del, if_neg (by omega)]⟩
    have hE : E0.intr = intr := rfl
    have hi : ∀ c, intr c (2000 + 5) [.ptr b 0] h = iString 5 [.ptr b 0] h := fun c => rfl
    have h1 := cell_at (o := 1) (v := .slice n 0 s.length s.length 1 false) hg rfl
    have h2 : 1 ≤ s.length := by
      cases s with
      | nil => exact absurd rfl h0
      | cons a l => simp
    have h3 : takeN s.length (u8s s) = some (u8s s) := by
      rw [takeN_of _ _ (by rw [u8s_length]; exact Nat.le_refl _), List.take_of_length_le (by rw [u8s_length]; exact Nat.le_refl _)]
    have h4 := r_convBS (h := h) (b := n) (o := 0) (len := s.length) (cap := s.length) (ex := false) (s := s) (by rw [cells_b n6 (by rw [u8s_length]; omega), List.drop_zero, List.take_of_length_le (by rw [u8s_length]; exact Nat.le_refl _)]) (lt_all hs)
    have h5 : bytesOf (u8s s) = some s := by
      simp only [rConvBS, n_beq, decide_true, cond_true, cells_b n6 (show 0 + s.length ≤ (u8s s).length by rw [u8s_length]; omega), List.drop_zero, List.take_of_length_le (show (u8s s).length ≤ s.length by rw [u8s_length]; exact Nat.le_refl _)] at h4
      cases e : bytesOf (u8s s) with
      | none => rw [e] at h4; cases h4
      | some r => rw [e] at h4; simpa using h4
    rw [hE, hi]
    simp only [iString, Nat.succ_eq_add_one, Nat.zero_add, h1, n6, rowTag, Nat.beq_refl, n_ble, h2, show s.length ≤ 1000000 by omega, decide_true, Bool.and_self, cond_true, h3, h5]
end Go.Proofs.XCode
end
section
namespace Go.Proofs.XCode
open Go.X
set_option linter.unusedSimpArgs false
set_option linter.unusedVariables false
set_option maxRecDepth 10000
theorem list8 {W : List Nat} (h : W.length = 8) : ∃ a b c d e f g i, W = [a, b, c, d, e, f, g, i] := by
  match W, h with
  | [a, b, c, d, e, f, g, i], _ => exact ⟨a, b, c, d, e, f, g, i, rfl⟩
noncomputable def dCells (bg : Bool) (W rest : List Nat) (n : Nat) : List XV := [.bool bg] ++ words W ++ [.str rest, .int .i64 (.ofNat n)]
theorem dCells_len {bg : Bool} {W rest : List Nat} {n : Nat} (hW : W.length = 8) : (dCells bg W rest n).length = 11 := by
  simp [dCells, words_length, hW]
theorem d_0 {bg : Bool} {W rest : List Nat} {n : Nat} : (dCells bg W rest n)[0]? = some (.bool bg) := rfl
theorem d_9 {bg : Bool} {W rest : List Nat} {n : Nat} (hW : W.length = 8) : (dCells bg W rest n)[9]? = some (.str rest) := by
  obtain ⟨a, b, c, d, e, f, g, i, rfl⟩ := list8 hW; rfl
theorem d_10 {bg : Bool} {W rest : List Nat} {n : Nat} (hW : W.length = 8) : (dCells bg W rest n)[10]? = some (.int .i64 (.ofNat n)) := by
  obtain ⟨a, b, c, d, e, f, g, i, rfl⟩ := list8 hW; rfl
theorem d_w {bg : Bool} {W rest : List Nat} {n : Nat} (hW : W.length = 8) : ((dCells bg W rest n).drop 1).take 8 = words W := by
  obtain ⟨a, b, c, d, e, f, g, i, rfl⟩ := list8 hW; rfl
theorem d_set0 {bg : Bool} {W rest : List Nat} {n : Nat} (v : Bool) : (dCells bg W rest n).set 0 (.bool v) = dCells v W rest n := rfl
theorem d_set9 {bg : Bool} {W rest : List Nat} {n : Nat} (hW : W.length = 8) (r : List Nat) : (dCells bg W rest n).set 9 (.str r) = dCells bg W r n := by
  obtain ⟨a, b, c, d, e, f, g, i, rfl⟩ := list8 hW; rfl
theorem d_set10 {bg : Bool} {W rest : List Nat} {n : Nat} (hW : W.length = 8) (m : Nat) : (dCells bg W rest n).set 10 (.int .i64 (.ofNat m)) = dCells bg W rest m := by
  obtain ⟨a, b, c, d, e, f, g, i, rfl⟩ := list8 hW; rfl
theorem d_splice {bg : Bool} {W rest V : List Nat} {n : Nat} (hW : W.length = 8) (hV : V.length = 8) : splice (dCells bg W rest n) 1 (words V) = dCells bg V rest n := by
  obtain ⟨a, b, c, d, e, f, g, i, rfl⟩ := list8 hW
  obtain ⟨a', b', c', d', e', f', g', i', rfl⟩ := list8 hV
  rfl
theorem r_loadNo {h : XH} {b o n : Nat} {c : List XV} {ro : Bool} {tg : Option Nat} (hg : h.get b = some (.cells c ro tg)) (hc : o + n ≤ c.length) : rLoad h (.many n) (.ptr b o) = some (.agg ((c.drop o).take n)) := by
  simp only [rLoad, hg, takeP, dropX_eq]
  rw [takeN_of _ _ (by rw [List.length_drop]; omega)]
theorem e_storeNo {h : XH} {b o n : Nat} {c vs : List XV} {tg : Option Nat} (hg : h.get b = some (.cells c false tg)) (hn : n = vs.length) (hc : o + vs.length ≤ c.length) (h1 : allOne vs = true) : eStore h n (.ptr b o) (.agg vs) = some (unit, h.set b (.cells (splice c o vs) false tg)) := by
  subst hn
  simp only [eStore, XV.cells, lenX_eq, n_beq, decide_true, cond_true, wr, hg, n_ble, n_add, hc, h1, Bool.and_true, unitR]
theorem u_not (b : Bool) : xun .not (.bool b) = some (.bool (!b)) := rfl
theorem b_ptr_neq (e b o : Nat) : xbin (.ptr e) .neq (.ptr b o) .nilp = some (.bool true) := rfl
theorem b_ptr_eql (e b o : Nat) : xbin (.ptr e) .eql (.ptr b o) .nilp = some (.bool false) := rfl
def mixF (W blk : List Nat) : List Nat := addF (roundsF KS (schedF blk 64) W 64) W 8
def mixN : Nat → List Nat → List Nat → List Nat
  | 0, W, _ => W
  | m + 1, W, b => mixN m (mixF W (b.take 64)) (b.drop 64)
theorem addF_lt {x s : List Nat} (hx : ∀ i, x.getD i 0 < 4294967296) : ∀ i j, (addF x s i).getD j 0 < 4294967296
  | 0, j => hx j
  | i + 1, j => getD_set_lt (by decide) (addF_lt hx i) (mod_lt32 _) j
theorem mixF_lt {W blk : List Nat} (hW : ∀ i, W.getD i 0 < 4294967296) : ∀ j, (mixF W blk).getD j 0 < 4294967296 := addF_lt (roundsF_lt hW 64) 8
theorem mixF_len {W blk : List Nat} (hW : W.length = 8) : (mixF W blk).length = 8 := by rw [mixF, addF_len, roundsF_len hW]
theorem FI_lt : ∀ i, FI.getD i 0 < 4294967296 := by
  have h : ∀ x ∈ FI, x < 4294967296 := by decide
  intro i
  rw [List.getD_eq_getElem?_getD]
  cases e : FI[i]? with
  | none => decide
  | some x => exact h x (List.mem_of_getElem? e)
theorem clone_fn : E0.fn 41 = some (.intr 5) := intr_of (by kernel_rfl)
theorem clone_ev (s : List Nat) (hs : s.length ≤ 1000000) (h : XH) : CallEv E0 41 [.str s] h (fun r k => r = .str s ∧ k = h) := by
  refine call_intr' clone_fn 0 (v := .str s) (h' := h) ?_ ⟨rfl, rfl⟩
  have hE : E0.intr = intr := rfl
  have hi : ∀ c, intr c 5 [.str s] h = iClone [.str s] h := fun c => rfl
  rw [hE, hi]
  simp only [iClone, n_ble, lenX_eq, hs, decide_true, cond_true]
set_option maxHeartbeats 1000000 in
theorem add_call (d t : Nat) (bg : Bool) (W rest b : List Nat) (n : Nat) (hW : W.length = 8) (hWl : ∀ i, W.getD i 0 < 4294967296) (hr : ∀ i, (rest ++ b).getD i 0 < 256) (hl : rest.length + b.length ≤ 2000) (hn : n ≤ 100000) (h : XH) (hd : d < h.next) (ht : t < h.next) (hdt : d ≠ t) (tg tg2 : Option Nat)
    (hg : h.get d = some (.cells (dCells bg W rest n) false tg)) (hgt : h.get t = some (.cells tableD false tg2)) :
    CallEv E0 n_digest_Digest_add [.ptr d 0, .ptr t 0, .str b] h (fun _ k => k.get d = some (.cells (dCells true (mixN ((rest ++ b).length / 64) (if bg then W else FI) (rest ++ b)) ((rest ++ b).drop (64 * ((rest ++ b).length / 64))) (n + b.length)) false tg) ∧ HExtE d h k) := by
  refine call_fn fn_digest_Digest_add ?_
  simp only [args0_cons, args0_nil]
  have l0 := r_load1 (o := 0) hg d_0
  repeat with_reducible first
    | refine go_seq hE0 ?_ | refine go_region ?_ | refine ops_nil ?_ | refine ret_seq.2 ?_
    | (refine ops_cw hE0 ?_; simp (disch := first | omega | decide) only [eff, runE, bE, l0, u_not])
    | (refine ops_op ?_; simp (disch := first | omega | decide) only [eff, runE, bE, l0, u_not]; refine rgo ?_)
    | refine go_drawn ?_
    | (refine plan_call hE0 (wanted_none _) ?_; simp (disch := first | omega | decide) only [eff, runE, bE, l0, u_not])
    | (refine plan_op ?_; simp (disch := first | omega | decide) only [eff, runE, bE, l0, u_not]; refine plgo ?_)
    | refine go_block ?_ | refine go_skip ?_ | refine go_exit ?_ | refine go_ret ?_
    | refine ret_seq_x.2 ?_ | refine ret_seq_r.2 ?_ | refine ret_block.2 ?_ | refine ret_block_hit.2 ?_ | refine (ret_block_miss rfl).2 ?_ | refine ret_block_r.2 ?_ | refine ret_loop_x.2 ?_ | refine ret_loop_r.2 ?_
  -- behind the first test: the words are there
  have key : ∀ (fr : XF) (k : XH) (V : List Nat), V = (if bg then W else FI) → V.length = 8 → (∀ i, V.getD i 0 < 4294967296) → h.next ≤ k.next → (∀ m, m < h.next → m ≠ d → k.get m = h.get m) → k.get d = some (.cells (dCells true V rest n) false tg) →
      ev fr (.t (ixOf 0)) = .ptr d 0 → ev fr (.t (ixOf 1)) = .ptr t 0 → ev fr (.t (ixOf 2)) = .str b →
      Go E0 c_digest_Digest_add_19 [] fr k (fun e fr h_1 => ∃ v, finX [] (e, fr, h_1) = some (v, h_1) ∧ h_1.get d = some (.cells (dCells true (mixN ((rest ++ b).length / 64) (if bg then W else FI) (rest ++ b)) ((rest ++ b).drop (64 * ((rest ++ b).length / 64))) (n + b.length)) false tg) ∧ HExtE d h h_1) := by
    intro fr k V hV hV8 hVl hk1 hk2 gk f0 f1 f2
    rw [← hV]
    have l10 := r_load1 (o := 10) gk (d_10 hV8)
    have s10 := e_store_one (o := 10) (v := .int .i64 (.ofNat (n + b.length))) gk (by rw [dCells_len hV8]; decide) rfl
    rw [d_set10 hV8] at s10
    have gk2 : (k.set d (.cells (dCells true V rest (n + b.length)) false tg)).get d = some (.cells (dCells true V rest (n + b.length)) false tg) := by rw [XH.get_set, if_pos rfl]
    have l9 := r_load1 (o := 9) gk2 (d_9 hV8)
    repeat with_reducible first
    | refine go_seq hE0 ?_ | refine go_region ?_ | refine ops_nil ?_ | refine ret_seq.2 ?_
    | (refine ops_cw hE0 ?_; simp (disch := first | omega | decide) only [eff, runE, bE, f0, f1, f2, l10, s10, l9])
    | (refine ops_op ?_; simp (disch := first | omega | decide) only [eff, runE, bE, f0, f1, f2, l10, s10, l9]; refine rgo ?_)
    | refine go_drawn ?_
    | (refine plan_call hE0 (wanted_none _) ?_; simp (disch := first | omega | decide) only [eff, runE, bE, f0, f1, f2, l10, s10, l9])
    | (refine plan_op ?_; simp (disch := first | omega | decide) only [eff, runE, bE, f0, f1, f2, l10, s10, l9]; refine plgo ?_)
    | refine go_block ?_ | refine go_skip ?_ | refine go_exit ?_ | refine go_ret ?_
    | refine ret_seq_x.2 ?_ | refine ret_seq_r.2 ?_ | refine ret_block.2 ?_ | refine ret_block_hit.2 ?_ | refine (ret_block_miss rfl).2 ?_ | refine ret_block_r.2 ?_ | refine ret_loop_x.2 ?_ | refine ret_loop_r.2 ?_
    have hk0 : ∀ m, m < h.next → m ≠ d → (k.set d (.cells (dCells true V rest (n + b.length)) false tg)).get m = h.get m := fun m h1 h2 => by rw [XH.get_set, if_neg h2, hk2 m h1 h2]
    have hkn : h.next ≤ (k.set d (.cells (dCells true V rest (n + b.length)) false tg)).next := hk1
    generalize (k.set d (.cells (dCells true V rest (n + b.length)) false tg)) = k0 at gk2 hk0 hkn ⊢
    refine go_loop_ind hE0 (fun m fr k => ∃ V' b', m = b'.length ∧ V'.length = 8 ∧ (∀ i, V'.getD i 0 < 4294967296) ∧ (∀ i, b'.getD i 0 < 256) ∧ b'.length ≤ 2000 ∧ h.next ≤ k.next ∧ (∀ m, m < h.next → m ≠ d → k.get m = h.get m) ∧ k.get d = some (.cells (dCells true V' rest (n + b.length)) false tg) ∧
        mixN (b'.length / 64) V' b' = mixN ((rest ++ b).length / 64) V (rest ++ b) ∧ b'.drop (64 * (b'.length / 64)) = (rest ++ b).drop (64 * ((rest ++ b).length / 64)) ∧
        ev fr (.t (ixOf 0)) = .ptr d 0 ∧ ev fr (.t (ixOf 1)) = .ptr t 0 ∧ ev fr (.t (ixOf 2)) = .str b') ?_ (n := (rest ++ b).length) ?_
    · clear f0 f1 f2 gk2 hk0 hkn l10 s10 l9 gk hk1 hk2
      rintro m fr k IH ⟨V', b', rfl, hV', hVl', hb', hbl, hkn, hk2, gk, hm, hd', f0, f1, f2⟩
      repeat with_reducible first
    | refine go_seq hE0 ?_ | refine go_region ?_ | refine ops_nil ?_ | refine ret_seq.2 ?_
    | (refine ops_cw hE0 ?_; simp (disch := first | omega | decide) only [eff, runE, bE, f2])
    | (refine ops_op ?_; simp (disch := first | omega | decide) only [eff, runE, bE, f2]; refine rgo ?_)
    | refine go_drawn ?_
    | (refine plan_call hE0 (wanted_none _) ?_; simp (disch := first | omega | decide) only [eff, runE, bE, f2])
    | (refine plan_op ?_; simp (disch := first | omega | decide) only [eff, runE, bE, f2]; refine plgo ?_)
    | refine go_block ?_ | refine go_skip ?_ | refine go_exit ?_ | refine go_ret ?_
    | refine ret_seq_x.2 ?_ | refine ret_seq_r.2 ?_ | refine ret_block.2 ?_ | refine ret_block_hit.2 ?_ | refine (ret_block_miss rfl).2 ?_ | refine ret_block_r.2 ?_ | refine ret_loop_x.2 ?_ | refine ret_loop_r.2 ?_
      refine go_cond ?_
      simp (disch := first | omega | decide) only [eff, runE, bE]
      refine condGo_split (fun hc => ?_) (fun hc => ?_)
      · have hc := of_decide_eq_true hc
        have lw := r_loadNo (o := 1) (n := 8) gk (by rw [dCells_len hV']; decide)
        rw [d_w hV'] at lw
        repeat with_reducible first
    | refine go_seq hE0 ?_ | refine go_region ?_ | refine ops_nil ?_ | refine ret_seq.2 ?_
    | (refine ops_cw hE0 ?_; simp (disch := first | omega | decide) only [eff, runE, bE, f0, f1, f2, lw])
    | (refine ops_op ?_; simp (disch := first | omega | decide) only [eff, runE, bE, f0, f1, f2, lw]; refine rgo ?_)
    | refine go_drawn ?_
    | (refine plan_call hE0 (wanted_none _) ?_; simp (disch := first | omega | decide) only [eff, runE, bE, f0, f1, f2, lw])
    | (refine plan_op ?_; simp (disch := first | omega | decide) only [eff, runE, bE, f0, f1, f2, lw]; refine plgo ?_)
    | refine go_block ?_ | refine go_skip ?_ | refine go_exit ?_ | refine go_ret ?_
    | refine ret_seq_x.2 ?_ | refine ret_seq_r.2 ?_ | refine ret_block.2 ?_ | refine ret_block_hit.2 ?_ | refine (ret_block_miss rfl).2 ?_ | refine ret_block_r.2 ?_ | refine ret_loop_x.2 ?_ | refine ret_loop_r.2 ?_
        refine callPl_ex (mix_call t tableD KS tableD_k V' (b'.take 64) hVl' hV' (by
          intro i
          have := getD_part hb' 0 64 i
          rwa [List.drop_zero] at this) (by rw [List.length_take]; omega) k (by omega) ⟨false, tg2, (hk2 t ht (Ne.symm hdt)).trans hgt⟩) ?_
        rintro _ k1 ⟨rfl, x1⟩
        have hk1 := x1.le
        have g1 := (x1.get d (by omega)).trans gk
        have hst := e_storeNo (h := k1) (n := 8) (o := 1) (vs := words (mixF V' (b'.take 64))) g1 (by rw [words_length, mixF_len hV']) (by rw [words_length, mixF_len hV', dCells_len hV']; decide) (words_one _)
        rw [d_splice hV' (mixF_len hV')] at hst
        have hst' : eStore k1 8 (.ptr d 1) (.agg (words (addF (roundsF KS (schedF (b'.take 64) 64) V' 64) V' 8))) = _ := hst
        repeat with_reducible first
    | refine go_seq hE0 ?_ | refine go_region ?_ | refine ops_nil ?_ | refine ret_seq.2 ?_
    | (refine ops_cw hE0 ?_; simp (disch := first | omega | decide) only [eff, runE, bE, f0, f1, f2, hst'])
    | (refine ops_op ?_; simp (disch := first | omega | decide) only [eff, runE, bE, f0, f1, f2, hst']; refine rgo ?_)
    | refine go_drawn ?_
    | (refine plan_call hE0 (wanted_none _) ?_; simp (disch := first | omega | decide) only [eff, runE, bE, f0, f1, f2, hst'])
    | (refine plan_op ?_; simp (disch := first | omega | decide) only [eff, runE, bE, f0, f1, f2, hst']; refine plgo ?_)
    | refine go_block ?_ | refine go_skip ?_ | refine go_exit ?_ | refine go_ret ?_
    | refine ret_seq_x.2 ?_ | refine ret_seq_r.2 ?_ | refine ret_block.2 ?_ | refine ret_block_hit.2 ?_ | refine (ret_block_miss rfl).2 ?_ | refine ret_block_r.2 ?_ | refine ret_loop_x.2 ?_ | refine ret_loop_r.2 ?_
        refine plan_nil (by simp (disch := first | omega | decide) only [endOk, chkAt, addNew, newOk, rangeOk, distinctN, Nat.reduceLT, Nat.reduceAdd, Nat.reduceLeDiff, bP, eff, runE, bE, f0, f1, f2, lw, hk1]) ?_
        repeat with_reducible first
    | refine go_seq hE0 ?_ | refine go_region ?_ | refine ops_nil ?_ | refine ret_seq.2 ?_
    | (refine ops_cw hE0 ?_; simp (disch := first | omega | decide) only [eff, runE, bE, f2])
    | (refine ops_op ?_; simp (disch := first | omega | decide) only [eff, runE, bE, f2]; refine rgo ?_)
    | refine go_drawn ?_
    | (refine plan_call hE0 (wanted_none _) ?_; simp (disch := first | omega | decide) only [eff, runE, bE, f2])
    | (refine plan_op ?_; simp (disch := first | omega | decide) only [eff, runE, bE, f2]; refine plgo ?_)
    | refine go_block ?_ | refine go_skip ?_ | refine go_exit ?_ | refine go_ret ?_
    | refine ret_seq_x.2 ?_ | refine ret_seq_r.2 ?_ | refine ret_block.2 ?_ | refine ret_block_hit.2 ?_ | refine (ret_block_miss rfl).2 ?_ | refine ret_block_r.2 ?_ | refine ret_loop_x.2 ?_ | refine ret_loop_r.2 ?_
        refine ret_loop.2 (IH (b'.drop 64).length _ _ (by rw [List.length_drop]; omega) ⟨mixF V' (b'.take 64), b'.drop 64, rfl, mixF_len hV', mixF_lt hVl', fun i => by rw [getD_drop]; exact hb' _, by rw [List.length_drop]; omega, ?_, ?_, ?_, ?_, ?_, ?_, ?_, ?_⟩)
        · simp only [XH.next_set]; omega
        · intro m h1 h2
          rw [XH.get_set, if_neg h2, x1.get _ (by omega), hk2 m h1 h2]
        · rw [XH.get_set, if_pos rfl]
        · rw [← hm, List.length_drop, show b'.length / 64 = (b'.length - 64) / 64 + 1 by omega]
          rfl
        · rw [← hd', List.length_drop, List.drop_drop, show 64 + 64 * ((b'.length - 64) / 64) = 64 * (b'.length / 64) by omega]
        all_goals simp (disch := first | omega | decide) only [eff, runE, bE, f0, f1, f2]
      · have hc := of_decide_eq_false hc
        have e0 : b'.length / 64 = 0 := by omega
        rw [e0] at hm hd'
        rw [Nat.mul_zero, List.drop_zero] at hd'
        repeat with_reducible first
    | refine go_seq hE0 ?_ | refine go_region ?_ | refine ops_nil ?_ | refine ret_seq.2 ?_
    | (refine ops_cw hE0 ?_; simp (disch := first | omega | decide) only [eff, runE, bE, f0, f2])
    | (refine ops_op ?_; simp (disch := first | omega | decide) only [eff, runE, bE, f0, f2]; refine rgo ?_)
    | refine go_drawn ?_
    | (refine plan_call hE0 (wanted_none _) ?_; simp (disch := first | omega | decide) only [eff, runE, bE, f0, f2])
    | (refine plan_op ?_; simp (disch := first | omega | decide) only [eff, runE, bE, f0, f2]; refine plgo ?_)
    | refine go_block ?_ | refine go_skip ?_ | refine go_exit ?_ | refine go_ret ?_
    | refine ret_seq_x.2 ?_ | refine ret_seq_r.2 ?_ | refine ret_block.2 ?_ | refine ret_block_hit.2 ?_ | refine (ret_block_miss rfl).2 ?_ | refine ret_block_r.2 ?_ | refine ret_loop_x.2 ?_ | refine ret_loop_r.2 ?_
        refine callGo_of (clone_ev b' (by omega) k) ?_
        have hst := e_store_one (o := 9) (v := .str b') gk (by rw [dCells_len hV']; decide) rfl
        rw [d_set9 hV'] at hst
        repeat with_reducible first
    | refine go_seq hE0 ?_ | refine go_region ?_ | refine ops_nil ?_ | refine ret_seq.2 ?_
    | (refine ops_cw hE0 ?_; simp (disch := first | omega | decide) only [eff, runE, bE, hst])
    | (refine ops_op ?_; simp (disch := first | omega | decide) only [eff, runE, bE, hst]; refine rgo ?_)
    | refine go_drawn ?_
    | (refine plan_call hE0 (wanted_none _) ?_; simp (disch := first | omega | decide) only [eff, runE, bE, hst])
    | (refine plan_op ?_; simp (disch := first | omega | decide) only [eff, runE, bE, hst]; refine plgo ?_)
    | refine go_block ?_ | refine go_skip ?_ | refine go_exit ?_ | refine go_ret ?_
    | refine ret_seq_x.2 ?_ | refine ret_seq_r.2 ?_ | refine ret_block.2 ?_ | refine ret_block_hit.2 ?_ | refine (ret_block_miss rfl).2 ?_ | refine ret_block_r.2 ?_ | refine ret_loop_x.2 ?_ | refine ret_loop_r.2 ?_
        refine ret_nil.2 ⟨unit, rfl, ?_, hkn, fun m h1 h2 => by rw [XH.get_set, if_neg h2, hk2 m h1 h2]⟩
        rw [XH.get_set, if_pos rfl, ← hm, ← hd']
        rfl
    · refine ⟨V, rest ++ b, rfl, hV8, hVl, hr, by rw [List.length_append]; omega, hkn, hk0, gk2, rfl, rfl, ?_, ?_, ?_⟩ <;> simp (disch := first | omega | decide) only [eff, runE, bE, f0, f1, f2]
  refine go_cond ?_
  simp (disch := first | omega | decide) only [eff, runE, bE]
  cases bg with
  | true =>
    refine condGo_false ?_
    refine go_skip (ret_seq.2 ?_)
    refine key _ h W rfl hW hWl (Nat.le_refl _) (fun _ _ _ => rfl) hg ?_ ?_ ?_ <;> simp (disch := first | omega | decide) only [eff, runE, bE]
  | false =>
    refine condGo_true ?_
    have lt8 := r_loadNo (o := 67) (n := 8) hgt (by rw [tableD_len]; decide)
    rw [tableD_first] at lt8
    have s0 := e_store_one (o := 0) (v := .bool true) hg (by rw [dCells_len hW]; decide) rfl
    rw [d_set0] at s0
    have s8 := e_storeNo (h := h.set d (.cells (dCells true W rest n) false tg)) (b := d) (o := 1) (n := 8) (c := dCells true W rest n) (tg := tg) (vs := words FI) (by rw [XH.get_set, if_pos rfl]) rfl (by rw [words_length, dCells_len hW]; decide) (words_one _)
    rw [d_splice hW rfl] at s8
    generalize hK : [Kont.seq c_digest_Digest_add_19] = K
    repeat with_reducible first
    | refine go_seq hE0 ?_ | refine go_region ?_ | refine ops_nil ?_ | refine ret_seq.2 ?_
    | (refine ops_cw hE0 ?_; simp (disch := first | omega | decide) only [eff, runE, bE, lt8, s0, s8])
    | (refine ops_op ?_; simp (disch := first | omega | decide) only [eff, runE, bE, lt8, s0, s8]; refine rgo ?_)
    | refine go_drawn ?_
    | (refine plan_call hE0 (wanted_none _) ?_; simp (disch := first | omega | decide) only [eff, runE, bE, lt8, s0, s8])
    | (refine plan_op ?_; simp (disch := first | omega | decide) only [eff, runE, bE, lt8, s0, s8]; refine plgo ?_)
    | refine go_block ?_ | refine go_skip ?_ | refine go_exit ?_ | refine go_ret ?_
    | refine ret_seq_x.2 ?_ | refine ret_seq_r.2 ?_ | refine ret_block.2 ?_ | refine ret_block_hit.2 ?_ | refine (ret_block_miss rfl).2 ?_ | refine ret_block_r.2 ?_ | refine ret_loop_x.2 ?_ | refine ret_loop_r.2 ?_
    subst hK
    refine ret_seq.2 (key _ _ FI rfl rfl FI_lt ?_ ?_ ?_ ?_ ?_ ?_)
    · simp only [XH.next_set]; exact Nat.le_refl _
    · exact fun m h1 h2 => by rw [XH.get_set, if_neg h2, XH.get_set, if_neg h2]
    · rw [XH.get_set, if_pos rfl]
    all_goals simp (disch := first | omega | decide) only [eff, runE, bE]
theorem dig_zero : ([(.bool false), (.int .u32 (.ofNat 0)), (.int .u32 (.ofNat 0)), (.int .u32 (.ofNat 0)), (.int .u32 (.ofNat 0)), (.int .u32 (.ofNat 0)), (.int .u32 (.ofNat 0)), (.int .u32 (.ofNat 0)), (.int .u32 (.ofNat 0)), (.str []), (.int .i64 (.ofNat 0))] : List XV) = dCells false (List.replicate 8 0) [] 0 := rfl
theorem Add_call (d : Nat) (bg : Bool) (W rest b : List Nat) (n : Nat) (hW : W.length = 8) (hWl : ∀ i, W.getD i 0 < 4294967296) (hr : ∀ i, (rest ++ b).getD i 0 < 256) (hl : rest.length + b.length ≤ 2000) (hn : n ≤ 100000) (h : XH) (hd : d < h.next) (tg : Option Nat) (hg : h.get d = some (.cells (dCells bg W rest n) false tg)) :
    CallEv E0 n_digest_Digest_Add [.ptr d 0, .str b] h (fun _ k => k.get d = some (.cells (dCells true (mixN ((rest ++ b).length / 64) (if bg then W else FI) (rest ++ b)) ((rest ++ b).drop (64 * ((rest ++ b).length / 64))) (n + b.length)) false tg) ∧ HExtE d h k) := by
  refine call_fn fn_digest_Digest_Add ?_
  simp only [args0_cons, args0_nil]
  repeat with_reducible first
    | refine go_seq hE0 ?_ | refine go_region ?_ | refine ops_nil ?_ | refine ret_seq.2 ?_
    | (refine ops_cw hE0 ?_; simp (disch := first | omega | decide) only [eff, runE, bE, b_ptr_neq])
    | (refine ops_op ?_; simp (disch := first | omega | decide) only [eff, runE, bE, b_ptr_neq]; refine rgo ?_)
    | refine go_drawn ?_
    | (refine plan_call hE0 (wanted_none _) ?_; simp (disch := first | omega | decide) only [eff, runE, bE, b_ptr_neq])
    | (refine plan_op ?_; simp (disch := first | omega | decide) only [eff, runE, bE, b_ptr_neq]; refine plgo ?_)
    | refine go_block ?_ | refine go_skip ?_ | refine go_exit ?_ | refine go_ret ?_
    | refine ret_seq_x.2 ?_ | refine ret_seq_r.2 ?_ | refine ret_block.2 ?_ | refine ret_block_hit.2 ?_ | refine (ret_block_miss rfl).2 ?_ | refine ret_block_r.2 ?_ | refine ret_loop_x.2 ?_ | refine ret_loop_r.2 ?_
  refine go_cond ?_
  simp (disch := first | omega | decide) only [eff, runE, bE]
  refine condGo_true ?_
  repeat with_reducible first
    | refine go_seq hE0 ?_ | refine go_region ?_ | refine ops_nil ?_ | refine ret_seq.2 ?_
    | (refine ops_cw hE0 ?_; simp (disch := first | omega | decide) only [eff, runE, bE])
    | (refine ops_op ?_; simp (disch := first | omega | decide) only [eff, runE, bE]; refine rgo ?_)
    | refine go_drawn ?_
    | (refine plan_call hE0 (wanted_none _) ?_; simp (disch := first | omega | decide) only [eff, runE, bE])
    | (refine plan_op ?_; simp (disch := first | omega | decide) only [eff, runE, bE]; refine plgo ?_)
    | refine go_block ?_ | refine go_skip ?_ | refine go_exit ?_ | refine go_ret ?_
    | refine ret_seq_x.2 ?_ | refine ret_seq_r.2 ?_ | refine ret_block.2 ?_ | refine ret_block_hit.2 ?_ | refine (ret_block_miss rfl).2 ?_ | refine ret_block_r.2 ?_ | refine ret_loop_x.2 ?_ | refine ret_loop_r.2 ?_
  have gt : ∀ l : List XV, l = table0 → (h.new (.cells l false (some (Nat.mul 2 307)))).get h.next = some (.cells table0 false (some (Nat.mul 2 307))) := fun l hl => by rw [XH.get_new, if_pos rfl, hl]
  refine callGo_ex (made_call h.next _ (some (Nat.mul 2 307)) (by simp only [XH.next_new]; omega) (gt _ rfl)) ?_
  rintro _ k ⟨rfl, g1, x1⟩
  have hk := x1.le
  simp only [XH.next_new] at hk
  have gd : k.get d = some (.cells (dCells bg W rest n) false tg) := by rw [x1.get d (by simp only [XH.next_new]; omega) (by omega), XH.get_new, if_neg (by omega)]; exact hg
  repeat with_reducible first
    | refine go_seq hE0 ?_ | refine go_region ?_ | refine ops_nil ?_ | refine ret_seq.2 ?_
    | (refine ops_cw hE0 ?_; simp (disch := first | omega | decide) only [eff, runE, bE])
    | (refine ops_op ?_; simp (disch := first | omega | decide) only [eff, runE, bE]; refine rgo ?_)
    | refine go_drawn ?_
    | (refine plan_call hE0 (wanted_none _) ?_; simp (disch := first | omega | decide) only [eff, runE, bE])
    | (refine plan_op ?_; simp (disch := first | omega | decide) only [eff, runE, bE]; refine plgo ?_)
    | refine go_block ?_ | refine go_skip ?_ | refine go_exit ?_ | refine go_ret ?_
    | refine ret_seq_x.2 ?_ | refine ret_seq_r.2 ?_ | refine ret_block.2 ?_ | refine ret_block_hit.2 ?_ | refine (ret_block_miss rfl).2 ?_ | refine ret_block_r.2 ?_ | refine ret_loop_x.2 ?_ | refine ret_loop_r.2 ?_
  refine callGo_ex (add_call d h.next bg W rest b n hW hWl hr hl hn k (by omega) (by omega) (by omega) tg _ gd g1) ?_
  rintro _ k2 ⟨g2, x2⟩
  have hk2 := x2.le
  repeat with_reducible first
    | refine go_seq hE0 ?_ | refine go_region ?_ | refine ops_nil ?_ | refine ret_seq.2 ?_
    | (refine ops_cw hE0 ?_; simp (disch := first | omega | decide) only [eff, runE, bE])
    | (refine ops_op ?_; simp (disch := first | omega | decide) only [eff, runE, bE]; refine rgo ?_)
    | refine go_drawn ?_
    | (refine plan_call hE0 (wanted_none _) ?_; simp (disch := first | omega | decide) only [eff, runE, bE])
    | (refine plan_op ?_; simp (disch := first | omega | decide) only [eff, runE, bE]; refine plgo ?_)
    | refine go_block ?_ | refine go_skip ?_ | refine go_exit ?_ | refine go_ret ?_
    | refine ret_seq_x.2 ?_ | refine ret_seq_r.2 ?_ | refine ret_block.2 ?_ | refine ret_block_hit.2 ?_ | refine (ret_block_miss rfl).2 ?_ | refine ret_block_r.2 ?_ | refine ret_loop_x.2 ?_ | refine ret_loop_r.2 ?_
  refine ret_nil.2 ⟨unit, rfl, g2, by omega, fun m h1 h2 => ?_⟩
  rw [x2.get m (by omega) h2, x1.get m (by simp only [XH.next_new]; omega) (by omega), XH.get_new, if_neg (by omega)]
end Go.Proofs.XCode
end
section
namespace Go.Proofs.XCode
open Go.X
set_option linter.unusedSimpArgs false
set_option linter.unusedVariables false
set_option maxRecDepth 10000
theorem repeat_fn : E0.fn 16 = some (.intr 6) := intr_of (by kernel_rfl)
theorem repX_one (c n : Nat) : repX [c] n = List.replicate n c := by
  induction n with
  | zero => rfl
  | succ n ih =>
    show appX [c] (repX [c] n) = _
    rw [ih]; rfl
theorem repeat_ev (c n : Nat) (hn : n ≤ 1000000) (h : XH) : CallEv E0 16 [.str [c], .int .i64 (.ofNat n)] h (fun r k => r = .str (List.replicate n c) ∧ k = h) := by
  refine call_intr' repeat_fn 0 (v := .str (List.replicate n c)) (h' := h) ?_ ⟨rfl, rfl⟩
  have hE : E0.intr = intr := rfl
  have hi : ∀ f, intr f 6 [.str [c], .int .i64 (.ofNat n)] h = iRepeat [.str [c], .int .i64 (.ofNat n)] h := fun f => rfl
  rw [hE, hi]
  simp only [iRepeat, n_ble, n_mul, lenX_eq, List.length_singleton, Nat.one_mul, hn, decide_true, Bool.and_self, cond_true, repX_one]
theorem p_ixAgg (W : List Nat) (n i : Nat) (hn : n = W.length) (hi : i < n) : pIxAgg .one n 1 (.agg (words W)) (.int .i64 (.ofNat i)) = some (.int .u32 (.ofNat (W.getD i 0))) := by
  subst hn
  simp only [pIxAgg, natOf, n_ble, n_succ, Nat.succ_le_of_lt hi, decide_true, cond_true, takeP, n_mul, Nat.mul_one, nth_eq, words_get hi]
noncomputable def outF (W : List Nat) : Nat → List Nat
  | 0 => []
  | i + 1 => outF W i ++ putBig (W.getD i 0) 4
theorem putBig_len (v n : Nat) : (putBig v n).length = n := pbN_len v n n
theorem putBig_lt (v n : Nat) : ∀ i, (putBig v n).getD i 0 < 256 := pbN_lt v n n
theorem outF_len (W : List Nat) : ∀ i, (outF W i).length = 4 * i
  | 0 => rfl
  | i + 1 => by rw [outF, List.length_append, outF_len W i, putBig_len]; omega
theorem getD_append_lt {a b : List Nat} {m : Nat} (hm : 0 < m) (ha : ∀ i, a.getD i 0 < m) (hb : ∀ i, b.getD i 0 < m) : ∀ i, (a ++ b).getD i 0 < m := by
  intro i
  rw [List.getD_eq_getElem?_getD, List.getElem?_append]
  split
  · rw [← List.getD_eq_getElem?_getD]; exact ha i
  · rw [← List.getD_eq_getElem?_getD]; exact hb _
theorem outF_lt (W : List Nat) : ∀ i j, (outF W i).getD j 0 < 256
  | 0, j => by simp [outF]
  | i + 1, j => getD_append_lt (by decide) (outF_lt W i) (putBig_lt _ _) j
noncomputable def padL (n : Nat) : List Nat := ([128] ++ List.replicate ((119 - n % 64) % 64) 0) ++ putBig (n * 8) 8
theorem padL_len (n : Nat) : (padL n).length = 9 + (119 - n % 64) % 64 := by simp [padL, putBig_len]; omega
theorem padL_lt (n : Nat) : ∀ i, (padL n).getD i 0 < 256 := by
  refine getD_append_lt (by decide) (getD_append_lt (by decide) (fun i => ?_) (fun i => ?_)) (putBig_lt _ _)
  · cases i <;> simp
  · simp only [List.getD_eq_getElem?_getD, List.getElem?_replicate]
    split <;> decide
noncomputable def endW (W rest : List Nat) (n : Nat) : List Nat := mixN ((rest ++ padL n).length / 64) W (rest ++ padL n)
theorem mixN_len : ∀ (m : Nat) (W b : List Nat), W.length = 8 → (mixN m W b).length = 8
  | 0, W, b, h => h
  | m + 1, W, b, h => mixN_len m _ _ (mixF_len h)
theorem mixN_lt : ∀ (m : Nat) (W b : List Nat), (∀ i, W.getD i 0 < 4294967296) → ∀ i, (mixN m W b).getD i 0 < 4294967296
  | 0, W, b, h => h
  | m + 1, W, b, h => mixN_lt m _ _ (mixF_lt h)
theorem BldAt.ext {B b : Nat} {h k : XH} {s : List Nat} (hb : BldAt B h b s) (hx : HExt h k) : BldAt B k b s := by
  obtain ⟨p, buf, hg, hB, hlt, hp, hbuf⟩ := hb
  have := hx.le
  refine ⟨p, buf, (hx.get b hlt).trans hg, hB, by omega, hp, ?_⟩
  rcases hbuf with h1 | ⟨n, h1, h2, h3, h4, h5, h6⟩
  · exact .inl h1
  · exact .inr ⟨n, h1, h2, by omega, h4, h5, (hx.get n h3).trans h6⟩
theorem BldAt.start {h : XH} : BldAt h.next (h.new (.cells [.nilp, .nils] false (some (Nat.mul 2 93)))) h.next [] :=
  ⟨.nilp, .nils, by rw [XH.get_new, if_pos rfl], Nat.le_refl _, by simp only [XH.next_new]; omega, .inl rfl, .inl ⟨rfl, rfl⟩⟩
theorem Keep.ext {B : Nat} {h k l : XH} (h1 : Keep B h k) (hB : B ≤ k.next) (h2 : HExt k l) : Keep B h l := ⟨Nat.le_trans h1.1 h2.le, fun n hn => (h2.get n (by omega)).trans (h1.2 n hn)⟩
theorem Keep.trans {B : Nat} {h k l : XH} (h1 : Keep B h k) (h2 : Keep B k l) : Keep B h l := ⟨Nat.le_trans h1.1 h2.1, fun n hn => (h2.2 n hn).trans (h1.2 n hn)⟩
set_option maxHeartbeats 1000000 in
theorem DSum_call (d : Nat) (W rest : List Nat) (n : Nat) (hW : W.length = 8) (hWl : ∀ i, W.getD i 0 < 4294967296) (hr : ∀ i, rest.getD i 0 < 256) (hl : rest.length < 64) (hn : n ≤ 100000) (h : XH) (hd : d < h.next) (tg : Option Nat) (hg : h.get d = some (.cells (dCells true W rest n) false tg)) :
    CallEv E0 n_digest_Digest_Sum [.ptr d 0] h (fun r k => r = .str (outF (endW W rest n) 8) ∧ HExt h k) := by
  have l11 := r_loadN (n := 11) hg (dCells_len hW).symm
  have lm : n % 64 < 64 := Nat.mod_lt _ (by decide)
  refine call_fn fn_digest_Digest_Sum ?_
  simp only [args0_cons, args0_nil]
  repeat with_reducible first
    | refine go_seq hE0 ?_ | refine go_region ?_ | refine ops_nil ?_ | refine ret_seq.2 ?_
    | (refine ops_cw hE0 ?_; simp (disch := first | omega | decide) only [eff, runE, bE, b_ptr_eql])
    | (refine ops_op ?_; simp (disch := first | omega | decide) only [eff, runE, bE, b_ptr_eql]; refine rgo ?_)
    | refine go_drawn ?_
    | (refine plan_call hE0 (wanted_none _) ?_; simp (disch := first | omega | decide) only [eff, runE, bE, b_ptr_eql])
    | (refine plan_op ?_; simp (disch := first | omega | decide) only [eff, runE, bE, b_ptr_eql]; refine plgo ?_)
    | refine go_block ?_ | refine go_skip ?_ | refine go_exit ?_ | refine go_ret ?_
    | refine ret_seq_x.2 ?_ | refine ret_seq_r.2 ?_ | refine ret_block.2 ?_ | refine ret_block_hit.2 ?_ | refine (ret_block_miss rfl).2 ?_ | refine ret_block_r.2 ?_ | refine ret_loop_x.2 ?_ | refine ret_loop_r.2 ?_
  refine go_cond ?_
  simp (disch := first | omega | decide) only [eff, runE, bE]
  refine condGo_false ?_
  repeat with_reducible first
    | refine go_seq hE0 ?_ | refine go_region ?_ | refine ops_nil ?_ | refine ret_seq.2 ?_
    | (refine ops_cw hE0 ?_; simp (disch := first | omega | decide) only [eff, runE, bE])
    | (refine ops_op ?_; simp (disch := first | omega | decide) only [eff, runE, bE]; refine rgo ?_)
    | refine go_drawn ?_
    | (refine plan_call hE0 (wanted_none _) ?_; simp (disch := first | omega | decide) only [eff, runE, bE])
    | (refine plan_op ?_; simp (disch := first | omega | decide) only [eff, runE, bE]; refine plgo ?_)
    | refine go_block ?_ | refine go_skip ?_ | refine go_exit ?_ | refine go_ret ?_
    | refine ret_seq_x.2 ?_ | refine ret_seq_r.2 ?_ | refine ret_block.2 ?_ | refine ret_block_hit.2 ?_ | refine (ret_block_miss rfl).2 ?_ | refine ret_block_r.2 ?_ | refine ret_loop_x.2 ?_ | refine ret_loop_r.2 ?_
  generalize hh1 : XH.new h _ = h1
  have n1 : h1.next = h.next + 1 := by rw [← hh1]; rfl
  have t1 : h1.get h.next = some (.cells table0 false (some (Nat.mul 2 307))) := by rw [← hh1, XH.get_new, if_pos rfl]; rfl
  have o1 : ∀ m, m < h.next → h1.get m = h.get m := fun m hm => by rw [← hh1, XH.get_new, if_neg (by omega)]
  clear hh1
  have d1 : h1.get d = some (.cells (dCells true W rest n) false tg) := (o1 d hd).trans hg
  have l11 := r_loadN (n := 11) d1 (dCells_len hW).symm
  have hst := e_storeN (h := h1.new (.cells (dCells false (List.replicate 8 0) [] 0) false (some (Nat.mul 2 257)))) (b := h1.next) (n := 11) (vs := dCells true W rest n) (by rw [XH.get_new, if_pos rfl]) (dCells_len hW).symm (by rw [dCells_len hW]; rfl) (by
    obtain ⟨a, b, c, d, e, f, g, i, rfl⟩ := list8 hW; rfl)
  have hst' := fun l (hl : l = dCells false (List.replicate 8 0) [] 0) => show eStore (h1.new (.cells l false (some (Nat.mul 2 257)))) 11 (.ptr h1.next 0) (.agg (dCells true W rest n)) = some (unit, (h1.new (.cells l false (some (Nat.mul 2 257)))).set h1.next (.cells (dCells true W rest n) false (some (Nat.mul 2 257)))) by rw [hl]; exact hst
  have hst2 := hst' _ dig_zero
  repeat with_reducible first
    | refine go_seq hE0 ?_ | refine go_region ?_ | refine ops_nil ?_ | refine ret_seq.2 ?_
    | (refine ops_cw hE0 ?_; simp (disch := first | omega | decide) only [eff, runE, bE, l11, hst2])
    | (refine ops_op ?_; simp (disch := first | omega | decide) only [eff, runE, bE, l11, hst2]; refine rgo ?_)
    | refine go_drawn ?_
    | (refine plan_call hE0 (wanted_none _) ?_; simp (disch := first | omega | decide) only [eff, runE, bE, l11, hst2])
    | (refine plan_op ?_; simp (disch := first | omega | decide) only [eff, runE, bE, l11, hst2]; refine plgo ?_)
    | refine go_block ?_ | refine go_skip ?_ | refine go_exit ?_ | refine go_ret ?_
    | refine ret_seq_x.2 ?_ | refine ret_seq_r.2 ?_ | refine ret_block.2 ?_ | refine ret_block_hit.2 ?_ | refine (ret_block_miss rfl).2 ?_ | refine ret_block_r.2 ?_ | refine ret_loop_x.2 ?_ | refine ret_loop_r.2 ?_
  generalize hh2 : XH.set (XH.new h1 _) _ _ = h2
  have n2 : h2.next = h1.next + 1 := by rw [← hh2]; rfl
  have x2 : h2.get h1.next = some (.cells (dCells true W rest n) false (some (Nat.mul 2 257))) := by rw [← hh2, XH.get_set, if_pos rfl]
  have o2 : ∀ m, m < h1.next → h2.get m = h1.get m := fun m hm => by rw [← hh2, XH.get_set, if_neg (by omega), XH.get_new, if_neg (by omega)]
  clear hh2 hst hst' hst2 l11
  have d2 := (o2 d (by omega)).trans d1
  have t2 := (o2 h.next (by omega)).trans t1
  have l10 := r_load1 (o := 10) d2 (d_10 hW)
  repeat with_reducible first
    | refine go_seq hE0 ?_ | refine go_region ?_ | refine ops_nil ?_ | refine ret_seq.2 ?_
    | (refine ops_cw hE0 ?_; simp (disch := first | omega | decide) only [eff, runE, bE, l10])
    | (refine ops_op ?_; simp (disch := first | omega | decide) only [eff, runE, bE, l10]; refine rgo ?_)
    | refine go_drawn ?_
    | (refine plan_call hE0 (wanted_none _) ?_; simp (disch := first | omega | decide) only [eff, runE, bE, l10])
    | (refine plan_op ?_; simp (disch := first | omega | decide) only [eff, runE, bE, l10]; refine plgo ?_)
    | refine go_block ?_ | refine go_skip ?_ | refine go_exit ?_ | refine go_ret ?_
    | refine ret_seq_x.2 ?_ | refine ret_seq_r.2 ?_ | refine ret_block.2 ?_ | refine ret_block_hit.2 ?_ | refine (ret_block_miss rfl).2 ?_ | refine ret_block_r.2 ?_ | refine ret_loop_x.2 ?_ | refine ret_loop_r.2 ?_
  refine callPl_ex (made_call h.next h2 _ (by omega) t2) ?_
  rintro _ h3 ⟨rfl, t3, e3⟩
  have n3 := e3.le
  have d3 := (e3.get d (by omega) (by omega)).trans d2
  have x3 := (e3.get h1.next (by omega) (by omega)).trans x2
  have l10' := r_load1 (o := 10) d3 (d_10 hW)
  repeat with_reducible first
    | refine go_seq hE0 ?_ | refine go_region ?_ | refine ops_nil ?_ | refine ret_seq.2 ?_
    | (refine ops_cw hE0 ?_; simp (disch := first | omega | decide) only [eff, runE, bE, l10, l10'])
    | (refine ops_op ?_; simp (disch := first | omega | decide) only [eff, runE, bE, l10, l10']; refine rgo ?_)
    | refine go_drawn ?_
    | (refine plan_call hE0 (wanted_none _) ?_; simp (disch := first | omega | decide) only [eff, runE, bE, l10, l10'])
    | (refine plan_op ?_; simp (disch := first | omega | decide) only [eff, runE, bE, l10, l10']; refine plgo ?_)
    | refine go_block ?_ | refine go_skip ?_ | refine go_exit ?_ | refine go_ret ?_
    | refine ret_seq_x.2 ?_ | refine ret_seq_r.2 ?_ | refine ret_block.2 ?_ | refine ret_block_hit.2 ?_ | refine (ret_block_miss rfl).2 ?_ | refine ret_block_r.2 ?_ | refine ret_loop_x.2 ?_ | refine ret_loop_r.2 ?_
  refine callPl_of (repeat_ev 0 ((119 - n % 64) % 64) (by omega) h3) ?_
  have hm : n * 8 < 18446744073709551616 := by omega
  repeat with_reducible first
    | refine go_seq hE0 ?_ | refine go_region ?_ | refine ops_nil ?_ | refine ret_seq.2 ?_
    | (refine ops_cw hE0 ?_; simp (disch := first | omega | decide) only [eff, runE, bE, l10, l10', Nat.mod_eq_of_lt hm])
    | (refine ops_op ?_; simp (disch := first | omega | decide) only [eff, runE, bE, l10, l10', Nat.mod_eq_of_lt hm]; refine rgo ?_)
    | refine go_drawn ?_
    | (refine plan_call hE0 (wanted_none _) ?_; simp (disch := first | omega | decide) only [eff, runE, bE, l10, l10', Nat.mod_eq_of_lt hm])
    | (refine plan_op ?_; simp (disch := first | omega | decide) only [eff, runE, bE, l10, l10', Nat.mod_eq_of_lt hm]; refine plgo ?_)
    | refine go_block ?_ | refine go_skip ?_ | refine go_exit ?_ | refine go_ret ?_
    | refine ret_seq_x.2 ?_ | refine ret_seq_r.2 ?_ | refine ret_block.2 ?_ | refine ret_block_hit.2 ?_ | refine (ret_block_miss rfl).2 ?_ | refine ret_block_r.2 ?_ | refine ret_loop_x.2 ?_ | refine ret_loop_r.2 ?_
  refine callPl_ex (putBig_call (n * 8) 8 hm (by decide) (by decide) h3) ?_
  rintro _ h4 ⟨rfl, e4⟩
  have n4 := e4.le
  have d4 := (e4.get d (by omega)).trans d3
  have x4 := (e4.get h1.next (by omega)).trans x3
  have t4 := (e4.get h.next (by omega)).trans t3
  have lp := padL_len n
  have lr : ([128] ++ List.replicate ((119 - n % 64) % 64) 0).length = 1 + (119 - n % 64) % 64 := by simp; omega
  have lr2 : ([128] : List Nat).length = 1 := rfl
  have lr3 : (List.replicate ((119 - n % 64) % 64) 0 : List Nat).length = (119 - n % 64) % 64 := List.length_replicate
  have lr4 := putBig_len (n * 8) 8
  repeat with_reducible first
    | refine go_seq hE0 ?_ | refine go_region ?_ | refine ops_nil ?_ | refine ret_seq.2 ?_
    | (refine ops_cw hE0 ?_; simp (disch := first | omega | decide) only [eff, runE, bE, l10, l10'])
    | (refine ops_op ?_; simp (disch := first | omega | decide) only [eff, runE, bE, l10, l10']; refine rgo ?_)
    | refine go_drawn ?_
    | (refine plan_call hE0 (wanted_none _) ?_; simp (disch := first | omega | decide) only [eff, runE, bE, l10, l10'])
    | (refine plan_op ?_; simp (disch := first | omega | decide) only [eff, runE, bE, l10, l10']; refine plgo ?_)
    | refine go_block ?_ | refine go_skip ?_ | refine go_exit ?_ | refine go_ret ?_
    | refine ret_seq_x.2 ?_ | refine ret_seq_r.2 ?_ | refine ret_block.2 ?_ | refine ret_block_hit.2 ?_ | refine (ret_block_miss rfl).2 ?_ | refine ret_block_r.2 ?_ | refine ret_loop_x.2 ?_ | refine ret_loop_r.2 ?_
  refine callPl_ex (add_call h1.next h.next true W rest (padL n) n hW hWl (getD_append_lt (by decide) hr (padL_lt n)) (by omega) hn h4 (by omega) (by omega) (by omega) _ _ x4 t4) ?_
  rintro _ h5 ⟨x5, e5⟩
  have n5 := e5.le
  rw [if_pos rfl] at x5
  generalize hr5 : (List.drop (64 * ((rest ++ padL n).length / 64)) (rest ++ padL n)) = r5 at x5
  have x5' : h5.get h1.next = some (.cells (dCells true (endW W rest n) r5 (n + (padL n).length)) false (some (Nat.mul 2 257))) := x5
  have hE8 : (endW W rest n).length = 8 := mixN_len _ _ _ hW
  have hEl := mixN_lt ((rest ++ padL n).length / 64) W (rest ++ padL n) hWl
  have hEl' : ∀ i, (endW W rest n).getD i 0 < 4294967296 := hEl
  refine plan_nil (by simp (disch := first | omega | decide) only [endOk, chkAt, addNew, newOk, rangeOk, distinctN, Nat.reduceLT, Nat.reduceAdd, Nat.reduceLeDiff, bP, eff, runE, bE, l10, l10', decide_eq_true]) ?_
  have lw := r_loadNo (h := h5.new (.cells [.nilp, .nils] false (some (Nat.mul 2 93)))) (b := h1.next) (o := 1) (n := 8) (by rw [XH.get_new, if_neg (by omega)]; exact x5') (by rw [dCells_len hE8]; decide)
  rw [d_w hE8] at lw
  repeat with_reducible first
    | refine go_seq hE0 ?_ | refine go_region ?_ | refine ops_nil ?_ | refine ret_seq.2 ?_
    | (refine ops_cw hE0 ?_; simp (disch := first | omega | decide) only [eff, runE, bE, lw])
    | (refine ops_op ?_; simp (disch := first | omega | decide) only [eff, runE, bE, lw]; refine rgo ?_)
    | refine go_drawn ?_
    | (refine plan_call hE0 (wanted_none _) ?_; simp (disch := first | omega | decide) only [eff, runE, bE, lw])
    | (refine plan_op ?_; simp (disch := first | omega | decide) only [eff, runE, bE, lw]; refine plgo ?_)
    | refine go_block ?_ | refine go_skip ?_ | refine go_exit ?_ | refine go_ret ?_
    | refine ret_seq_x.2 ?_ | refine ret_seq_r.2 ?_ | refine ret_block.2 ?_ | refine ret_block_hit.2 ?_ | refine (ret_block_miss rfl).2 ?_ | refine ret_block_r.2 ?_ | refine ret_loop_x.2 ?_ | refine ret_loop_r.2 ?_
  have hkx : HExt h h5 := ⟨by omega, fun m hm => by rw [e5.get m (by omega) (by omega), e4.get m (by omega), e3.get m (by omega) (by omega), o2 m (by omega), o1 m (by omega)]⟩
  generalize endW W rest n = W2 at hE8 hEl' ⊢
  refine go_loop_ind hE0 (fun m fr k => ∃ i, m = 8 - i ∧ i ≤ 8 ∧ BldAt h5.next k h5.next (outF W2 i) ∧ Keep h5.next (h5.new (.cells [.nilp, .nils] false (some (Nat.mul 2 93)))) k ∧
      ev fr (.t (ixOf 6)) = .ptr h5.next 0 ∧ ev fr (.t (ixOf 35)) = .agg (words W2) ∧ ev fr (.t (ixOf 36)) = .int .i64 (.ofNat i)) ?_ (n := 8) ?_
  · rintro m fr k IH ⟨i, rfl, hi, hb, hk, f6, f35, f36⟩
    have hkn := hk.1
    simp only [XH.next_new] at hkn
    repeat with_reducible first
    | refine go_seq hE0 ?_ | refine go_region ?_ | refine ops_nil ?_ | refine ret_seq.2 ?_
    | (refine ops_cw hE0 ?_; simp (disch := first | omega | decide) only [eff, runE, bE, f36])
    | (refine ops_op ?_; simp (disch := first | omega | decide) only [eff, runE, bE, f36]; refine rgo ?_)
    | refine go_drawn ?_
    | (refine plan_call hE0 (wanted_none _) ?_; simp (disch := first | omega | decide) only [eff, runE, bE, f36])
    | (refine plan_op ?_; simp (disch := first | omega | decide) only [eff, runE, bE, f36]; refine plgo ?_)
    | refine go_block ?_ | refine go_skip ?_ | refine go_exit ?_ | refine go_ret ?_
    | refine ret_seq_x.2 ?_ | refine ret_seq_r.2 ?_ | refine ret_block.2 ?_ | refine ret_block_hit.2 ?_ | refine (ret_block_miss rfl).2 ?_ | refine ret_block_r.2 ?_ | refine ret_loop_x.2 ?_ | refine ret_loop_r.2 ?_
    refine go_cond ?_
    simp (disch := first | omega | decide) only [eff, runE, bE]
    refine condGo_split (fun hc => ?_) (fun hc => ?_)
    · have hc := of_decide_eq_true hc
      have hv := hEl' i
      have hv' : W2.getD i 0 < 18446744073709551616 := by omega
      repeat with_reducible first
    | refine go_seq hE0 ?_ | refine go_region ?_ | refine ops_nil ?_ | refine ret_seq.2 ?_
    | (refine ops_cw hE0 ?_; simp (disch := first | omega | decide) only [eff, runE, bE, f6, f35, f36, p_ixAgg W2 8 i hE8.symm hc])
    | (refine ops_op ?_; simp (disch := first | omega | decide) only [eff, runE, bE, f6, f35, f36, p_ixAgg W2 8 i hE8.symm hc]; refine rgo ?_)
    | refine go_drawn ?_
    | (refine plan_call hE0 (wanted_none _) ?_; simp (disch := first | omega | decide) only [eff, runE, bE, f6, f35, f36, p_ixAgg W2 8 i hE8.symm hc])
    | (refine plan_op ?_; simp (disch := first | omega | decide) only [eff, runE, bE, f6, f35, f36, p_ixAgg W2 8 i hE8.symm hc]; refine plgo ?_)
    | refine go_block ?_ | refine go_skip ?_ | refine go_exit ?_ | refine go_ret ?_
    | refine ret_seq_x.2 ?_ | refine ret_seq_r.2 ?_ | refine ret_block.2 ?_ | refine ret_block_hit.2 ?_ | refine (ret_block_miss rfl).2 ?_ | refine ret_block_r.2 ?_ | refine ret_loop_x.2 ?_ | refine ret_loop_r.2 ?_
      refine callGo_ex (putBig_call (W2.getD i 0) 4 hv' (by decide) (by decide) k) ?_
      rintro _ k1 ⟨rfl, x1⟩
      repeat with_reducible first
    | refine go_seq hE0 ?_ | refine go_region ?_ | refine ops_nil ?_ | refine ret_seq.2 ?_
    | (refine ops_cw hE0 ?_; simp (disch := first | omega | decide) only [eff, runE, bE, f6, f35, f36])
    | (refine ops_op ?_; simp (disch := first | omega | decide) only [eff, runE, bE, f6, f35, f36]; refine rgo ?_)
    | refine go_drawn ?_
    | (refine plan_call hE0 (wanted_none _) ?_; simp (disch := first | omega | decide) only [eff, runE, bE, f6, f35, f36])
    | (refine plan_op ?_; simp (disch := first | omega | decide) only [eff, runE, bE, f6, f35, f36]; refine plgo ?_)
    | refine go_block ?_ | refine go_skip ?_ | refine go_exit ?_ | refine go_ret ?_
    | refine ret_seq_x.2 ?_ | refine ret_seq_r.2 ?_ | refine ret_block.2 ?_ | refine ret_block_hit.2 ?_ | refine (ret_block_miss rfl).2 ?_ | refine ret_block_r.2 ?_ | refine ret_loop_x.2 ?_ | refine ret_loop_r.2 ?_
      refine callGo_ex (write_call (hb.ext x1) (putBig (W2.getD i 0) 4) (fun e => by have := putBig_len (W2.getD i 0) 4; rw [e] at this; cases this) (by rw [outF_len, putBig_len]; omega)) ?_
      rintro _ k2 ⟨hb2, hk2⟩
      repeat with_reducible first
    | refine go_seq hE0 ?_ | refine go_region ?_ | refine ops_nil ?_ | refine ret_seq.2 ?_
    | (refine ops_cw hE0 ?_; simp (disch := first | omega | decide) only [eff, runE, bE, f36])
    | (refine ops_op ?_; simp (disch := first | omega | decide) only [eff, runE, bE, f36]; refine rgo ?_)
    | refine go_drawn ?_
    | (refine plan_call hE0 (wanted_none _) ?_; simp (disch := first | omega | decide) only [eff, runE, bE, f36])
    | (refine plan_op ?_; simp (disch := first | omega | decide) only [eff, runE, bE, f36]; refine plgo ?_)
    | refine go_block ?_ | refine go_skip ?_ | refine go_exit ?_ | refine go_ret ?_
    | refine ret_seq_x.2 ?_ | refine ret_seq_r.2 ?_ | refine ret_block.2 ?_ | refine ret_block_hit.2 ?_ | refine (ret_block_miss rfl).2 ?_ | refine ret_block_r.2 ?_ | refine ret_loop_x.2 ?_ | refine ret_loop_r.2 ?_
      refine ret_loop.2 (IH (8 - (i + 1)) _ _ (by omega) ⟨i + 1, rfl, by omega, hb2, (hk.ext (by omega) x1).trans hk2, ?_, ?_, ?_⟩) <;> simp (disch := first | omega | decide) only [eff, runE, bE, f6, f35, f36]
    · have hc := of_decide_eq_false hc
      obtain rfl : i = 8 := by omega
      repeat with_reducible first
    | refine go_seq hE0 ?_ | refine go_region ?_ | refine ops_nil ?_ | refine ret_seq.2 ?_
    | (refine ops_cw hE0 ?_; simp (disch := first | omega | decide) only [eff, runE, bE, f6])
    | (refine ops_op ?_; simp (disch := first | omega | decide) only [eff, runE, bE, f6]; refine rgo ?_)
    | refine go_drawn ?_
    | (refine plan_call hE0 (wanted_none _) ?_; simp (disch := first | omega | decide) only [eff, runE, bE, f6])
    | (refine plan_op ?_; simp (disch := first | omega | decide) only [eff, runE, bE, f6]; refine plgo ?_)
    | refine go_block ?_ | refine go_skip ?_ | refine go_exit ?_ | refine go_ret ?_
    | refine ret_seq_x.2 ?_ | refine ret_seq_r.2 ?_ | refine ret_block.2 ?_ | refine ret_block_hit.2 ?_ | refine (ret_block_miss rfl).2 ?_ | refine ret_block_r.2 ?_ | refine ret_loop_x.2 ?_ | refine ret_loop_r.2 ?_
      refine callGo_ex (string_call hb (outF_lt W2 8) (fun e => by have := outF_len W2 8; rw [e] at this; cases this) (by rw [outF_len]; omega)) ?_
      rintro _ k1 ⟨rfl, hk1⟩
      repeat with_reducible first
    | refine go_seq hE0 ?_ | refine go_region ?_ | refine ops_nil ?_ | refine ret_seq.2 ?_
    | (refine ops_cw hE0 ?_; simp (disch := first | omega | decide) only [eff, runE, bE])
    | (refine ops_op ?_; simp (disch := first | omega | decide) only [eff, runE, bE]; refine rgo ?_)
    | refine go_drawn ?_
    | (refine plan_call hE0 (wanted_none _) ?_; simp (disch := first | omega | decide) only [eff, runE, bE])
    | (refine plan_op ?_; simp (disch := first | omega | decide) only [eff, runE, bE]; refine plgo ?_)
    | refine go_block ?_ | refine go_skip ?_ | refine go_exit ?_ | refine go_ret ?_
    | refine ret_seq_x.2 ?_ | refine ret_seq_r.2 ?_ | refine ret_block.2 ?_ | refine ret_block_hit.2 ?_ | refine (ret_block_miss rfl).2 ?_ | refine ret_block_r.2 ?_ | refine ret_loop_x.2 ?_ | refine ret_loop_r.2 ?_
      refine ret_nil.2 ⟨_, fin_tmp (.inr rfl), ?_, ?_⟩
      · simp (disch := first | omega | decide) only [eff, runE, bE]
      · have h1 := hk.trans hk1
        refine ⟨by have := h1.1; simp only [XH.next_new] at this; omega, fun m hm => ?_⟩
        rw [h1.2 m (by omega), XH.get_new, if_neg (by omega), hkx.get m hm]
  · refine ⟨0, rfl, by omega, BldAt.start, ⟨Nat.le_refl _, fun _ _ => rfl⟩, ?_, ?_, ?_⟩ <;> simp (disch := first | omega | decide) only [eff, runE, bE]
noncomputable def sumL (b : List Nat) : List Nat := outF (endW (mixN (b.length / 64) FI b) (b.drop (64 * (b.length / 64))) b.length) 8
theorem Sum_call (b : List Nat) (hb : ∀ i, b.getD i 0 < 256) (hl : b.length ≤ 1000) (h : XH) :
    CallEv E0 n_digest_Sum [.str b] h (fun r k => r = .str (sumL b) ∧ HExt h k) := by
  refine call_fn fn_digest_Sum ?_
  simp only [args0_cons, args0_nil]
  repeat with_reducible first
    | refine go_seq hE0 ?_ | refine go_region ?_ | refine ops_nil ?_ | refine ret_seq.2 ?_
    | (refine ops_cw hE0 ?_; simp (disch := first | omega | decide) only [eff, runE, bE])
    | (refine ops_op ?_; simp (disch := first | omega | decide) only [eff, runE, bE]; refine rgo ?_)
    | refine go_drawn ?_
    | (refine plan_call hE0 (wanted_none _) ?_; simp (disch := first | omega | decide) only [eff, runE, bE])
    | (refine plan_op ?_; simp (disch := first | omega | decide) only [eff, runE, bE]; refine plgo ?_)
    | refine go_block ?_ | refine go_skip ?_ | refine go_exit ?_ | refine go_ret ?_
    | refine ret_seq_x.2 ?_ | refine ret_seq_r.2 ?_ | refine ret_block.2 ?_ | refine ret_block_hit.2 ?_ | refine (ret_block_miss rfl).2 ?_ | refine ret_block_r.2 ?_ | refine ret_loop_x.2 ?_ | refine ret_loop_r.2 ?_
  have gd : ∀ l : List XV, l = dCells false (List.replicate 8 0) [] 0 → (h.new (.cells l false (some (Nat.mul 2 257)))).get h.next = some (.cells (dCells false (List.replicate 8 0) [] 0) false (some (Nat.mul 2 257))) := fun l hl => by rw [XH.get_new, if_pos rfl, hl]
  refine callGo_ex (Add_call h.next false (List.replicate 8 0) [] b 0 rfl (fun i => by simp only [List.getD_eq_getElem?_getD, List.getElem?_replicate]; split <;> decide) hb (by simpa using (by omega : b.length ≤ 2000)) (by decide) _ (by simp only [XH.next_new]; omega) _ (gd _ dig_zero)) ?_
  rintro _ k ⟨g1, x1⟩
  have hk := x1.le
  simp only [XH.next_new] at hk
  simp only [List.nil_append, Bool.false_eq_true, if_false, Nat.zero_add] at g1
  repeat with_reducible first
    | refine go_seq hE0 ?_ | refine go_region ?_ | refine ops_nil ?_ | refine ret_seq.2 ?_
    | (refine ops_cw hE0 ?_; simp (disch := first | omega | decide) only [eff, runE, bE])
    | (refine ops_op ?_; simp (disch := first | omega | decide) only [eff, runE, bE]; refine rgo ?_)
    | refine go_drawn ?_
    | (refine plan_call hE0 (wanted_none _) ?_; simp (disch := first | omega | decide) only [eff, runE, bE])
    | (refine plan_op ?_; simp (disch := first | omega | decide) only [eff, runE, bE]; refine plgo ?_)
    | refine go_block ?_ | refine go_skip ?_ | refine go_exit ?_ | refine go_ret ?_
    | refine ret_seq_x.2 ?_ | refine ret_seq_r.2 ?_ | refine ret_block.2 ?_ | refine ret_block_hit.2 ?_ | refine (ret_block_miss rfl).2 ?_ | refine ret_block_r.2 ?_ | refine ret_loop_x.2 ?_ | refine ret_loop_r.2 ?_
  refine callGo_ex (DSum_call h.next _ _ b.length (mixN_len _ _ _ rfl) (mixN_lt _ _ _ FI_lt) (fun i => by rw [getD_drop]; exact hb _) (by rw [List.length_drop]; omega) (by omega) k (by omega) _ g1) ?_
  rintro _ k2 ⟨rfl, x2⟩
  repeat with_reducible first
    | refine go_seq hE0 ?_ | refine go_region ?_ | refine ops_nil ?_ | refine ret_seq.2 ?_
    | (refine ops_cw hE0 ?_; simp (disch := first | omega | decide) only [eff, runE, bE])
    | (refine ops_op ?_; simp (disch := first | omega | decide) only [eff, runE, bE]; refine rgo ?_)
    | refine go_drawn ?_
    | (refine plan_call hE0 (wanted_none _) ?_; simp (disch := first | omega | decide) only [eff, runE, bE])
    | (refine plan_op ?_; simp (disch := first | omega | decide) only [eff, runE, bE]; refine plgo ?_)
    | refine go_block ?_ | refine go_skip ?_ | refine go_exit ?_ | refine go_ret ?_
    | refine ret_seq_x.2 ?_ | refine ret_seq_r.2 ?_ | refine ret_block.2 ?_ | refine ret_block_hit.2 ?_ | refine (ret_block_miss rfl).2 ?_ | refine ret_block_r.2 ?_ | refine ret_loop_x.2 ?_ | refine ret_loop_r.2 ?_
  refine ret_nil.2 ⟨_, fin_tmp (.inr rfl), ?_, ?_⟩
  · simp (disch := first | omega | decide) only [eff, runE, bE]
    rfl
  · have := x2.le
    refine ⟨by omega, fun m hm => ?_⟩
    rw [x2.get m (by omega), x1.get m (by simp only [XH.next_new]; omega) (by omega), XH.get_new, if_neg (by omega)]
end Go.Proofs.XCode
end
section
namespace Go.Proofs.XCode
open Go.X Go.Proofs
set_option maxRecDepth 100000
-- escutcheon/octet.Xor
abbrev n_octet_Xor : Nat := 107
abbrev c_octet_Xor_0 : XC := XC.region [⟨(some (ixOf 4)), (.p (.mov (.c (.str [])))), none⟩]
abbrev c_octet_Xor_1 : XC := XC.region [⟨(some (ixOf 7)), (.p (.mov (.t (ixOf 0)))), none⟩,
  ⟨(some (ixOf 8)), (.r (.len .str (.t (ixOf 7)))), none⟩,
  ⟨(some (ixOf 9)), (.p (.mov (.t (ixOf 1)))), none⟩,
  ⟨(some (ixOf 10)), (.r (.len .str (.t (ixOf 9)))), none⟩,
  ⟨(some (ixOf 11)), (.p (.min [(.t (ixOf 8)), (.t (ixOf 10))])), none⟩,
  ⟨(some (ixOf 12)), (.a (.makeSlice 1 [(.int .u8 (.ofNat 0))] 1 (.t (ixOf 11)) (.t (ixOf 11)))), none⟩,
  ⟨(some (ixOf 5)), (.p (.mov (.t (ixOf 12)))), none⟩]
abbrev c_octet_Xor_2 : XC := XC.region [⟨(some (ixOf 13)), (.p (.mov (.t (ixOf 5)))), none⟩,
  ⟨(some (ixOf 14)), (.r (.len (.slice 5) (.t (ixOf 13)))), none⟩,
  ⟨(some (ixOf 15)), (.p (.mov (.c (.int .i64 (.ofNat 0))))), none⟩]
abbrev c_octet_Xor_3 : XC := XC.region [⟨(some (ixOf 16)), (.p (.bin (.int .i64) .lss (.t (ixOf 15)) (.t (ixOf 14)))), none⟩]
abbrev c_octet_Xor_4 : XC := XC.cond (.t (ixOf 16)) .skip (.exit 0)
abbrev c_octet_Xor_5 : XC := XC.region [⟨(some (ixOf 17)), (.p (.mov (.t (ixOf 15)))), none⟩,
  ⟨(some (ixOf 6)), (.p (.mov (.t (ixOf 17)))), none⟩]
abbrev c_octet_Xor_6 : XC := XC.drawn [⟨0, ⟨(some (ixOf 18)), (.p (.mov (.t (ixOf 5)))), none⟩, 0, 0, []⟩,
  ⟨1, ⟨(some (ixOf 19)), (.p (.mov (.t (ixOf 6)))), none⟩, 0, 0, []⟩,
  ⟨2, ⟨(some (ixOf 20)), (.p (.mov (.t (ixOf 0)))), none⟩, 0, 0, []⟩,
  ⟨3, ⟨(some (ixOf 21)), (.p (.mov (.t (ixOf 6)))), none⟩, 0, 0, []⟩,
  ⟨4, ⟨(some (ixOf 22)), (.p (.ixStr (.t (ixOf 20)) (.t (ixOf 21)))), none⟩, 0, 0, []⟩,
  ⟨5, ⟨(some (ixOf 23)), (.p (.mov (.t (ixOf 1)))), none⟩, 0, 0, []⟩,
  ⟨6, ⟨(some (ixOf 24)), (.p (.mov (.t (ixOf 6)))), none⟩, 0, 0, []⟩,
  ⟨7, ⟨(some (ixOf 25)), (.p (.ixStr (.t (ixOf 23)) (.t (ixOf 24)))), none⟩, 0, 0, []⟩,
  ⟨8, ⟨(some (ixOf 26)), (.p (.bin (.int .u8) .xor (.t (ixOf 22)) (.t (ixOf 25)))), none⟩, 0, 0, []⟩,
  ⟨9, ⟨(some (ixOf 27)), (.p (.idxL 1 (.t (ixOf 18)) (.t (ixOf 19)))), none⟩, 0, 0, []⟩,
  ⟨10, ⟨none, (.e (.store 1 (.t (ixOf 27)) (.t (ixOf 26)))), none⟩, 0, 1, []⟩]
abbrev c_octet_Xor_7 : XC := XC.seq c_octet_Xor_5 c_octet_Xor_6
abbrev c_octet_Xor_8 : XC := XC.block 1 c_octet_Xor_7
abbrev c_octet_Xor_9 : XC := XC.region [⟨(some (ixOf 28)), (.p (.bin (.int .i64) .add (.t (ixOf 15)) (.c (.int .i64 (.ofNat 1))))), none⟩,
  ⟨(some (ixOf 15)), (.p (.mov (.t (ixOf 28)))), none⟩]
abbrev c_octet_Xor_10 : XC := XC.seq c_octet_Xor_8 c_octet_Xor_9
abbrev c_octet_Xor_11 : XC := XC.seq c_octet_Xor_4 c_octet_Xor_10
abbrev c_octet_Xor_12 : XC := XC.seq c_octet_Xor_3 c_octet_Xor_11
abbrev c_octet_Xor_13 : XC := XC.loop c_octet_Xor_12
abbrev c_octet_Xor_14 : XC := XC.block 0 c_octet_Xor_13
abbrev c_octet_Xor_15 : XC := XC.seq c_octet_Xor_2 c_octet_Xor_14
abbrev c_octet_Xor_16 : XC := XC.region [⟨(some (ixOf 29)), (.p (.mov (.t (ixOf 5)))), none⟩,
  ⟨(some (ixOf 30)), (.r (.convBS (.t (ixOf 29)))), none⟩,
  ⟨(some (ixOf 4)), (.p (.mov (.t (ixOf 30)))), none⟩]
abbrev c_octet_Xor_17 : XC := XC.seq c_octet_Xor_16 .ret
abbrev c_octet_Xor_18 : XC := XC.seq c_octet_Xor_15 c_octet_Xor_17
abbrev c_octet_Xor_19 : XC := XC.seq c_octet_Xor_1 c_octet_Xor_18
abbrev c_octet_Xor_20 : XC := XC.seq c_octet_Xor_0 c_octet_Xor_19
abbrev x_octet_Xor : XFn := ⟨[.tmp (ixOf 4)], c_octet_Xor_20⟩
theorem mk_octet_Xor : mkFn tyT.get Tryz.f107 = some x_octet_Xor := by kernel_rfl
theorem fn_octet_Xor : E0.fn n_octet_Xor = some (.fn x_octet_Xor) := fn_of (by kernel_rfl) mk_octet_Xor
-- escutcheon/octet.PutLittle
abbrev n_octet_PutLittle : Nat := 165
abbrev c_octet_PutLittle_0 : XC := XC.region [⟨(some (ixOf 4)), (.p (.mov (.c (.str [])))), none⟩]
abbrev c_octet_PutLittle_1 : XC := XC.region [⟨(some (ixOf 7)), (.p (.mov (.t (ixOf 1)))), none⟩,
  ⟨(some (ixOf 8)), (.p (.bin (.int .i64) .lss (.t (ixOf 7)) (.c (.int .i64 (.ofNat 1))))), none⟩,
  ⟨(some (ixOf 9)), (.p (.mov (.t (ixOf 8)))), none⟩,
  ⟨(some (ixOf 10)), (.p (.mov (.t (ixOf 1)))), (some ((ixOf 9), false))⟩,
  ⟨(some (ixOf 11)), (.p (.bin (.int .i64) .gtr (.t (ixOf 10)) (.c (.int .i64 (.ofNat 8))))), (some ((ixOf 9), false))⟩,
  ⟨(some (ixOf 12)), (.p (.pick (.t (ixOf 9)) (.c (.bool true)) (.t (ixOf 11)))), none⟩]
abbrev c_octet_PutLittle_2 : XC := XC.region [⟨(some (ixOf 4)), (.p (.mov (.c (.str [])))), none⟩]
abbrev c_octet_PutLittle_3 : XC := XC.seq c_octet_PutLittle_2 .ret
abbrev c_octet_PutLittle_4 : XC := XC.cond (.t (ixOf 12)) c_octet_PutLittle_3 .skip
abbrev c_octet_PutLittle_5 : XC := XC.seq c_octet_PutLittle_1 c_octet_PutLittle_4
abbrev c_octet_PutLittle_6 : XC := XC.region [⟨(some (ixOf 13)), (.p (.mov (.t (ixOf 1)))), none⟩,
  ⟨(some (ixOf 14)), (.a (.makeSlice 1 [(.int .u8 (.ofNat 0))] 1 (.t (ixOf 13)) (.t (ixOf 13)))), none⟩,
  ⟨(some (ixOf 5)), (.p (.mov (.t (ixOf 14)))), none⟩]
abbrev c_octet_PutLittle_7 : XC := XC.region [⟨(some (ixOf 15)), (.p (.mov (.t (ixOf 5)))), none⟩,
  ⟨(some (ixOf 16)), (.r (.len (.slice 5) (.t (ixOf 15)))), none⟩,
  ⟨(some (ixOf 17)), (.p (.mov (.c (.int .i64 (.ofNat 0))))), none⟩]
abbrev c_octet_PutLittle_8 : XC := XC.region [⟨(some (ixOf 18)), (.p (.bin (.int .i64) .lss (.t (ixOf 17)) (.t (ixOf 16)))), none⟩]
abbrev c_octet_PutLittle_9 : XC := XC.cond (.t (ixOf 18)) .skip (.exit 0)
abbrev c_octet_PutLittle_10 : XC := XC.region [⟨(some (ixOf 19)), (.p (.mov (.t (ixOf 17)))), none⟩,
  ⟨(some (ixOf 6)), (.p (.mov (.t (ixOf 19)))), none⟩]
abbrev c_octet_PutLittle_11 : XC := XC.region [⟨(some (ixOf 20)), (.p (.mov (.t (ixOf 5)))), none⟩,
  ⟨(some (ixOf 21)), (.p (.mov (.t (ixOf 6)))), none⟩,
  ⟨(some (ixOf 22)), (.p (.mov (.t (ixOf 0)))), none⟩,
  ⟨(some (ixOf 23)), (.p (.mov (.t (ixOf 6)))), none⟩,
  ⟨(some (ixOf 24)), (.p (.bin (.int .i64) .mul (.c (.int .i64 (.ofNat 8))) (.t (ixOf 23)))), none⟩,
  ⟨(some (ixOf 25)), (.p (.bin (.int .u64) .shr (.t (ixOf 22)) (.t (ixOf 24)))), none⟩,
  ⟨(some (ixOf 26)), (.p (.convI .u8 (.t (ixOf 25)))), none⟩,
  ⟨(some (ixOf 27)), (.p (.idxL 1 (.t (ixOf 20)) (.t (ixOf 21)))), none⟩,
  ⟨none, (.e (.store 1 (.t (ixOf 27)) (.t (ixOf 26)))), none⟩]
abbrev c_octet_PutLittle_12 : XC := XC.seq c_octet_PutLittle_10 c_octet_PutLittle_11
abbrev c_octet_PutLittle_13 : XC := XC.block 1 c_octet_PutLittle_12
abbrev c_octet_PutLittle_14 : XC := XC.region [⟨(some (ixOf 28)), (.p (.bin (.int .i64) .add (.t (ixOf 17)) (.c (.int .i64 (.ofNat 1))))), none⟩,
  ⟨(some (ixOf 17)), (.p (.mov (.t (ixOf 28)))), none⟩]
abbrev c_octet_PutLittle_15 : XC := XC.seq c_octet_PutLittle_13 c_octet_PutLittle_14
abbrev c_octet_PutLittle_16 : XC := XC.seq c_octet_PutLittle_9 c_octet_PutLittle_15
abbrev c_octet_PutLittle_17 : XC := XC.seq c_octet_PutLittle_8 c_octet_PutLittle_16
abbrev c_octet_PutLittle_18 : XC := XC.loop c_octet_PutLittle_17
abbrev c_octet_PutLittle_19 : XC := XC.block 0 c_octet_PutLittle_18
abbrev c_octet_PutLittle_20 : XC := XC.seq c_octet_PutLittle_7 c_octet_PutLittle_19
abbrev c_octet_PutLittle_21 : XC := XC.region [⟨(some (ixOf 29)), (.p (.mov (.t (ixOf 5)))), none⟩,
  ⟨(some (ixOf 30)), (.r (.convBS (.t (ixOf 29)))), none⟩,
  ⟨(some (ixOf 4)), (.p (.mov (.t (ixOf 30)))), none⟩]
abbrev c_octet_PutLittle_22 : XC := XC.seq c_octet_PutLittle_21 .ret
abbrev c_octet_PutLittle_23 : XC := XC.seq c_octet_PutLittle_20 c_octet_PutLittle_22
abbrev c_octet_PutLittle_24 : XC := XC.seq c_octet_PutLittle_6 c_octet_PutLittle_23
abbrev c_octet_PutLittle_25 : XC := XC.seq c_octet_PutLittle_5 c_octet_PutLittle_24
abbrev c_octet_PutLittle_26 : XC := XC.seq c_octet_PutLittle_0 c_octet_PutLittle_25
abbrev x_octet_PutLittle : XFn := ⟨[.tmp (ixOf 4)], c_octet_PutLittle_26⟩
theorem mk_octet_PutLittle : mkFn tyT.get Tryz.f165 = some x_octet_PutLittle := by kernel_rfl
theorem fn_octet_PutLittle : E0.fn n_octet_PutLittle = some (.fn x_octet_PutLittle) := fn_of (by kernel_rfl) mk_octet_PutLittle
-- escutcheon/octet.Little
abbrev n_octet_Little : Nat := 216
abbrev c_octet_Little_0 : XC := XC.region [⟨(some (ixOf 2)), (.p (.mov (.c (.int .u64 (.ofNat 0))))), none⟩]
abbrev c_octet_Little_1 : XC := XC.region [⟨(some (ixOf 3)), (.p (.mov (.c (.int .u64 (.ofNat 0))))), none⟩]
abbrev c_octet_Little_2 : XC := XC.region [⟨(some (ixOf 5)), (.p (.mov (.t (ixOf 0)))), none⟩,
  ⟨(some (ixOf 6)), (.r (.len .str (.t (ixOf 5)))), none⟩,
  ⟨(some (ixOf 7)), (.p (.min [(.t (ixOf 6)), (.c (.int .i64 (.ofNat 8)))])), none⟩,
  ⟨(some (ixOf 8)), (.p (.bin (.int .i64) .sub (.t (ixOf 7)) (.c (.int .i64 (.ofNat 1))))), none⟩,
  ⟨(some (ixOf 4)), (.p (.mov (.t (ixOf 8)))), none⟩]
abbrev c_octet_Little_3 : XC := XC.region [⟨(some (ixOf 9)), (.p (.mov (.t (ixOf 4)))), none⟩,
  ⟨(some (ixOf 10)), (.p (.bin (.int .i64) .geq (.t (ixOf 9)) (.c (.int .i64 (.ofNat 0))))), none⟩]
abbrev c_octet_Little_4 : XC := XC.cond (.t (ixOf 10)) .skip (.exit 0)
abbrev c_octet_Little_5 : XC := XC.seq c_octet_Little_3 c_octet_Little_4
abbrev c_octet_Little_6 : XC := XC.region [⟨(some (ixOf 13)), (.p (.mov (.t (ixOf 3)))), none⟩,
  ⟨(some (ixOf 14)), (.p (.bin (.int .u64) .shl (.t (ixOf 13)) (.c (.int .u64 (.ofNat 8))))), none⟩,
  ⟨(some (ixOf 15)), (.p (.mov (.t (ixOf 0)))), none⟩,
  ⟨(some (ixOf 16)), (.p (.mov (.t (ixOf 4)))), none⟩,
  ⟨(some (ixOf 17)), (.p (.ixStr (.t (ixOf 15)) (.t (ixOf 16)))), none⟩,
  ⟨(some (ixOf 18)), (.p (.convI .u64 (.t (ixOf 17)))), none⟩,
  ⟨(some (ixOf 19)), (.p (.bin (.int .u64) .or (.t (ixOf 14)) (.t (ixOf 18)))), none⟩,
  ⟨(some (ixOf 3)), (.p (.mov (.t (ixOf 19)))), none⟩]
abbrev c_octet_Little_7 : XC := XC.block 1 c_octet_Little_6
abbrev c_octet_Little_8 : XC := XC.region [⟨(some (ixOf 11)), (.p (.mov (.t (ixOf 4)))), none⟩,
  ⟨(some (ixOf 12)), (.p (.bin (.int .i64) .sub (.t (ixOf 11)) (.c (.int .i64 (.ofNat 1))))), none⟩,
  ⟨(some (ixOf 4)), (.p (.mov (.t (ixOf 12)))), none⟩]
abbrev c_octet_Little_9 : XC := XC.seq c_octet_Little_7 c_octet_Little_8
abbrev c_octet_Little_10 : XC := XC.seq c_octet_Little_5 c_octet_Little_9
abbrev c_octet_Little_11 : XC := XC.loop c_octet_Little_10
abbrev c_octet_Little_12 : XC := XC.block 0 c_octet_Little_11
abbrev c_octet_Little_13 : XC := XC.seq c_octet_Little_2 c_octet_Little_12
abbrev c_octet_Little_14 : XC := XC.region [⟨(some (ixOf 20)), (.p (.mov (.t (ixOf 3)))), none⟩,
  ⟨(some (ixOf 2)), (.p (.mov (.t (ixOf 20)))), none⟩]
abbrev c_octet_Little_15 : XC := XC.seq c_octet_Little_14 .ret
abbrev c_octet_Little_16 : XC := XC.seq c_octet_Little_13 c_octet_Little_15
abbrev c_octet_Little_17 : XC := XC.seq c_octet_Little_1 c_octet_Little_16
abbrev c_octet_Little_18 : XC := XC.seq c_octet_Little_0 c_octet_Little_17
abbrev x_octet_Little : XFn := ⟨[.tmp (ixOf 2)], c_octet_Little_18⟩
theorem mk_octet_Little : mkFn tyT.get Tryz.f216 = some x_octet_Little := by kernel_rfl
theorem fn_octet_Little : E0.fn n_octet_Little = some (.fn x_octet_Little) := fn_of (by kernel_rfl) mk_octet_Little
-- escutcheon/stream.Quarter
abbrev n_stream_Quarter : Nat := 218
abbrev c_stream_Quarter_0 : XC := XC.region [⟨(some (ixOf 8)), (.p (.mov (.c (.int .u32 (.ofNat 0))))), none⟩,
  ⟨(some (ixOf 9)), (.p (.mov (.c (.int .u32 (.ofNat 0))))), none⟩,
  ⟨(some (ixOf 10)), (.p (.mov (.c (.int .u32 (.ofNat 0))))), none⟩,
  ⟨(some (ixOf 11)), (.p (.mov (.c (.int .u32 (.ofNat 0))))), none⟩]
abbrev c_stream_Quarter_1 : XC := XC.region [⟨(some (ixOf 12)), (.p (.mov (.t (ixOf 0)))), none⟩,
  ⟨(some (ixOf 13)), (.p (.mov (.t (ixOf 1)))), none⟩,
  ⟨(some (ixOf 14)), (.p (.bin (.int .u32) .add (.t (ixOf 12)) (.t (ixOf 13)))), none⟩,
  ⟨(some (ixOf 0)), (.p (.mov (.t (ixOf 14)))), none⟩]
abbrev c_stream_Quarter_2 : XC := XC.region [⟨(some (ixOf 15)), (.p (.mov (.t (ixOf 3)))), none⟩,
  ⟨(some (ixOf 16)), (.p (.mov (.t (ixOf 0)))), none⟩,
  ⟨(some (ixOf 17)), (.p (.bin (.int .u32) .xor (.t (ixOf 15)) (.t (ixOf 16)))), none⟩,
  ⟨(some (ixOf 18)), (.e (.call 258 [(.t (ixOf 17)), (.c (.int .i64 (.ofNat 16)))])), none⟩,
  ⟨(some (ixOf 3)), (.p (.mov (.t (ixOf 18)))), none⟩]
abbrev c_stream_Quarter_3 : XC := XC.region [⟨(some (ixOf 19)), (.p (.mov (.t (ixOf 2)))), none⟩,
  ⟨(some (ixOf 20)), (.p (.mov (.t (ixOf 3)))), none⟩,
  ⟨(some (ixOf 21)), (.p (.bin (.int .u32) .add (.t (ixOf 19)) (.t (ixOf 20)))), none⟩,
  ⟨(some (ixOf 2)), (.p (.mov (.t (ixOf 21)))), none⟩]
abbrev c_stream_Quarter_4 : XC := XC.region [⟨(some (ixOf 22)), (.p (.mov (.t (ixOf 1)))), none⟩,
  ⟨(some (ixOf 23)), (.p (.mov (.t (ixOf 2)))), none⟩,
  ⟨(some (ixOf 24)), (.p (.bin (.int .u32) .xor (.t (ixOf 22)) (.t (ixOf 23)))), none⟩,
  ⟨(some (ixOf 25)), (.e (.call 258 [(.t (ixOf 24)), (.c (.int .i64 (.ofNat 12)))])), none⟩,
  ⟨(some (ixOf 1)), (.p (.mov (.t (ixOf 25)))), none⟩]
abbrev c_stream_Quarter_5 : XC := XC.region [⟨(some (ixOf 26)), (.p (.mov (.t (ixOf 0)))), none⟩,
  ⟨(some (ixOf 27)), (.p (.mov (.t (ixOf 1)))), none⟩,
  ⟨(some (ixOf 28)), (.p (.bin (.int .u32) .add (.t (ixOf 26)) (.t (ixOf 27)))), none⟩,
  ⟨(some (ixOf 0)), (.p (.mov (.t (ixOf 28)))), none⟩]
abbrev c_stream_Quarter_6 : XC := XC.region [⟨(some (ixOf 29)), (.p (.mov (.t (ixOf 3)))), none⟩,
  ⟨(some (ixOf 30)), (.p (.mov (.t (ixOf 0)))), none⟩,
  ⟨(some (ixOf 31)), (.p (.bin (.int .u32) .xor (.t (ixOf 29)) (.t (ixOf 30)))), none⟩,
  ⟨(some (ixOf 32)), (.e (.call 258 [(.t (ixOf 31)), (.c (.int .i64 (.ofNat 8)))])), none⟩,
  ⟨(some (ixOf 3)), (.p (.mov (.t (ixOf 32)))), none⟩]
abbrev c_stream_Quarter_7 : XC := XC.region [⟨(some (ixOf 33)), (.p (.mov (.t (ixOf 2)))), none⟩,
  ⟨(some (ixOf 34)), (.p (.mov (.t (ixOf 3)))), none⟩,
  ⟨(some (ixOf 35)), (.p (.bin (.int .u32) .add (.t (ixOf 33)) (.t (ixOf 34)))), none⟩,
  ⟨(some (ixOf 2)), (.p (.mov (.t (ixOf 35)))), none⟩]
abbrev c_stream_Quarter_8 : XC := XC.region [⟨(some (ixOf 36)), (.p (.mov (.t (ixOf 1)))), none⟩,
  ⟨(some (ixOf 37)), (.p (.mov (.t (ixOf 2)))), none⟩,
  ⟨(some (ixOf 38)), (.p (.bin (.int .u32) .xor (.t (ixOf 36)) (.t (ixOf 37)))), none⟩,
  ⟨(some (ixOf 39)), (.e (.call 258 [(.t (ixOf 38)), (.c (.int .i64 (.ofNat 7)))])), none⟩,
  ⟨(some (ixOf 1)), (.p (.mov (.t (ixOf 39)))), none⟩]
abbrev c_stream_Quarter_9 : XC := XC.region [⟨(some (ixOf 40)), (.p (.mov (.t (ixOf 0)))), none⟩,
  ⟨(some (ixOf 41)), (.p (.mov (.t (ixOf 1)))), none⟩,
  ⟨(some (ixOf 42)), (.p (.mov (.t (ixOf 2)))), none⟩,
  ⟨(some (ixOf 43)), (.p (.mov (.t (ixOf 3)))), none⟩,
  ⟨(some (ixOf 8)), (.p (.mov (.t (ixOf 40)))), none⟩,
  ⟨(some (ixOf 9)), (.p (.mov (.t (ixOf 41)))), none⟩,
  ⟨(some (ixOf 10)), (.p (.mov (.t (ixOf 42)))), none⟩,
  ⟨(some (ixOf 11)), (.p (.mov (.t (ixOf 43)))), none⟩]
abbrev c_stream_Quarter_10 : XC := XC.seq c_stream_Quarter_9 .ret
abbrev c_stream_Quarter_11 : XC := XC.seq c_stream_Quarter_8 c_stream_Quarter_10
abbrev c_stream_Quarter_12 : XC := XC.seq c_stream_Quarter_7 c_stream_Quarter_11
abbrev c_stream_Quarter_13 : XC := XC.seq c_stream_Quarter_6 c_stream_Quarter_12
abbrev c_stream_Quarter_14 : XC := XC.seq c_stream_Quarter_5 c_stream_Quarter_13
abbrev c_stream_Quarter_15 : XC := XC.seq c_stream_Quarter_4 c_stream_Quarter_14
abbrev c_stream_Quarter_16 : XC := XC.seq c_stream_Quarter_3 c_stream_Quarter_15
abbrev c_stream_Quarter_17 : XC := XC.seq c_stream_Quarter_2 c_stream_Quarter_16
abbrev c_stream_Quarter_18 : XC := XC.seq c_stream_Quarter_1 c_stream_Quarter_17
abbrev c_stream_Quarter_19 : XC := XC.seq c_stream_Quarter_0 c_stream_Quarter_18
abbrev x_stream_Quarter : XFn := ⟨[.tmp (ixOf 8), .tmp (ixOf 9), .tmp (ixOf 10), .tmp (ixOf 11)], c_stream_Quarter_19⟩
theorem mk_stream_Quarter : mkFn tyT.get Tryz.f218 = some x_stream_Quarter := by kernel_rfl
theorem fn_stream_Quarter : E0.fn n_stream_Quarter = some (.fn x_stream_Quarter) := fn_of (by kernel_rfl) mk_stream_Quarter
-- escutcheon/stream.places
abbrev n_stream_places : Nat := 217
abbrev c_stream_places_0 : XC := XC.region [⟨(some (ixOf 0)), (.a (.alloc 329 (List.replicate 32 (.int .i64 (.ofNat 0))))), none⟩]
abbrev c_stream_places_1 : XC := XC.region [⟨(some (ixOf 1)), (.p (.build (List.replicate 4 (.int .i64 (.ofNat 0))) [(0, 1, (.c (.int .i64 (.ofNat 0)))), (1, 1, (.c (.int .i64 (.ofNat 4)))), (2, 1, (.c (.int .i64 (.ofNat 8)))), (3, 1, (.c (.int .i64 (.ofNat 12))))])), none⟩,
  ⟨(some (ixOf 2)), (.p (.build (List.replicate 4 (.int .i64 (.ofNat 0))) [(0, 1, (.c (.int .i64 (.ofNat 1)))), (1, 1, (.c (.int .i64 (.ofNat 5)))), (2, 1, (.c (.int .i64 (.ofNat 9)))), (3, 1, (.c (.int .i64 (.ofNat 13))))])), none⟩,
  ⟨(some (ixOf 3)), (.p (.build (List.replicate 4 (.int .i64 (.ofNat 0))) [(0, 1, (.c (.int .i64 (.ofNat 2)))), (1, 1, (.c (.int .i64 (.ofNat 6)))), (2, 1, (.c (.int .i64 (.ofNat 10)))), (3, 1, (.c (.int .i64 (.ofNat 14))))])), none⟩,
  ⟨(some (ixOf 4)), (.p (.build (List.replicate 4 (.int .i64 (.ofNat 0))) [(0, 1, (.c (.int .i64 (.ofNat 3)))), (1, 1, (.c (.int .i64 (.ofNat 7)))), (2, 1, (.c (.int .i64 (.ofNat 11)))), (3, 1, (.c (.int .i64 (.ofNat 15))))])), none⟩,
  ⟨(some (ixOf 5)), (.p (.build (List.replicate 4 (.int .i64 (.ofNat 0))) [(0, 1, (.c (.int .i64 (.ofNat 0)))), (1, 1, (.c (.int .i64 (.ofNat 5)))), (2, 1, (.c (.int .i64 (.ofNat 10)))), (3, 1, (.c (.int .i64 (.ofNat 15))))])), none⟩,
  ⟨(some (ixOf 6)), (.p (.build (List.replicate 4 (.int .i64 (.ofNat 0))) [(0, 1, (.c (.int .i64 (.ofNat 1)))), (1, 1, (.c (.int .i64 (.ofNat 6)))), (2, 1, (.c (.int .i64 (.ofNat 11)))), (3, 1, (.c (.int .i64 (.ofNat 12))))])), none⟩,
  ⟨(some (ixOf 7)), (.p (.build (List.replicate 4 (.int .i64 (.ofNat 0))) [(0, 1, (.c (.int .i64 (.ofNat 2)))), (1, 1, (.c (.int .i64 (.ofNat 7)))), (2, 1, (.c (.int .i64 (.ofNat 8)))), (3, 1, (.c (.int .i64 (.ofNat 13))))])), none⟩,
  ⟨(some (ixOf 8)), (.p (.build (List.replicate 4 (.int .i64 (.ofNat 0))) [(0, 1, (.c (.int .i64 (.ofNat 3)))), (1, 1, (.c (.int .i64 (.ofNat 4)))), (2, 1, (.c (.int .i64 (.ofNat 9)))), (3, 1, (.c (.int .i64 (.ofNat 14))))])), none⟩,
  ⟨(some (ixOf 9)), (.p (.build (List.replicate 32 (.int .i64 (.ofNat 0))) [(0, 4, (.t (ixOf 1))), (4, 4, (.t (ixOf 2))), (8, 4, (.t (ixOf 3))), (12, 4, (.t (ixOf 4))), (16, 4, (.t (ixOf 5))), (20, 4, (.t (ixOf 6))), (24, 4, (.t (ixOf 7))), (28, 4, (.t (ixOf 8)))])), none⟩,
  ⟨none, (.e (.store 32 (.t (ixOf 0)) (.t (ixOf 9)))), none⟩]
abbrev c_stream_places_2 : XC := XC.seq c_stream_places_1 .ret
abbrev c_stream_places_3 : XC := XC.seq c_stream_places_0 c_stream_places_2
abbrev x_stream_places : XFn := ⟨[.cell (ixOf 0) (.many 32)], c_stream_places_3⟩
theorem mk_stream_places : mkFn tyT.get Tryz.f217 = some x_stream_places := by kernel_rfl
theorem fn_stream_places : E0.fn n_stream_places = some (.fn x_stream_places) := fn_of (by kernel_rfl) mk_stream_places
-- escutcheon/stream.block
abbrev n_stream_block : Nat := 162
abbrev c_stream_block_0 : XC := XC.region [⟨(some (ixOf 6)), (.p (.mov (.c (.str [])))), none⟩]
abbrev c_stream_block_1 : XC := XC.region [⟨(some (ixOf 16)), (.p (.mov (.t (ixOf 0)))), none⟩,
  ⟨(some (ixOf 17)), (.p (.bin .str .add (.c (.str [101, 120, 112, 97, 110, 100, 32, 51, 50, 45, 98, 121, 116, 101, 32, 107])) (.t (ixOf 16)))), none⟩,
  ⟨(some (ixOf 18)), (.p (.mov (.t (ixOf 1)))), none⟩,
  ⟨(some (ixOf 19)), (.p (.convI .u64 (.t (ixOf 18)))), none⟩,
  ⟨(some (ixOf 20)), (.e (.call 165 [(.t (ixOf 19)), (.c (.int .i64 (.ofNat 4)))])), none⟩,
  ⟨(some (ixOf 21)), (.p (.bin .str .add (.t (ixOf 17)) (.t (ixOf 20)))), none⟩,
  ⟨(some (ixOf 22)), (.p (.mov (.t (ixOf 2)))), none⟩,
  ⟨(some (ixOf 23)), (.p (.bin .str .add (.t (ixOf 21)) (.t (ixOf 22)))), none⟩,
  ⟨(some (ixOf 7)), (.p (.mov (.t (ixOf 23)))), none⟩]
abbrev c_stream_block_2 : XC := XC.region [⟨(some (ixOf 8)), (.a (.alloc 327 (List.replicate 16 (.int .u32 (.ofNat 0))))), none⟩,
  ⟨(some (ixOf 9)), (.a (.alloc 327 (List.replicate 16 (.int .u32 (.ofNat 0))))), none⟩]
abbrev c_stream_block_3 : XC := XC.region [⟨(some (ixOf 24)), (.p (.mov (.c (.int .i64 (.ofNat 0))))), none⟩]
abbrev c_stream_block_4 : XC := XC.region [⟨(some (ixOf 25)), (.p (.bin (.int .i64) .lss (.t (ixOf 24)) (.c (.int .i64 (.ofNat 16))))), none⟩]
abbrev c_stream_block_5 : XC := XC.cond (.t (ixOf 25)) .skip (.exit 0)
abbrev c_stream_block_6 : XC := XC.region [⟨(some (ixOf 26)), (.p (.mov (.t (ixOf 24)))), none⟩,
  ⟨(some (ixOf 10)), (.p (.mov (.t (ixOf 26)))), none⟩]
abbrev c_stream_block_7 : XC := XC.region [⟨(some (ixOf 27)), (.p (.mov (.t (ixOf 10)))), none⟩,
  ⟨(some (ixOf 28)), (.p (.mov (.t (ixOf 7)))), none⟩,
  ⟨(some (ixOf 29)), (.p (.mov (.t (ixOf 10)))), none⟩,
  ⟨(some (ixOf 30)), (.p (.bin (.int .i64) .mul (.c (.int .i64 (.ofNat 4))) (.t (ixOf 29)))), none⟩,
  ⟨(some (ixOf 31)), (.p (.mov (.t (ixOf 10)))), none⟩,
  ⟨(some (ixOf 32)), (.p (.bin (.int .i64) .mul (.c (.int .i64 (.ofNat 4))) (.t (ixOf 31)))), none⟩,
  ⟨(some (ixOf 33)), (.p (.bin (.int .i64) .add (.t (ixOf 32)) (.c (.int .i64 (.ofNat 4))))), none⟩,
  ⟨(some (ixOf 34)), (.p (.sliceS (.t (ixOf 28)) (some (.t (ixOf 30))) (some (.t (ixOf 33))))), none⟩,
  ⟨(some (ixOf 35)), (.e (.call 216 [(.t (ixOf 34))])), none⟩,
  ⟨(some (ixOf 36)), (.p (.convI .u32 (.t (ixOf 35)))), none⟩,
  ⟨(some (ixOf 37)), (.p (.idxA 16 1 (.t (ixOf 8)) (.t (ixOf 27)))), none⟩,
  ⟨none, (.e (.store 1 (.t (ixOf 37)) (.t (ixOf 36)))), none⟩]
abbrev c_stream_block_8 : XC := XC.seq c_stream_block_6 c_stream_block_7
abbrev c_stream_block_9 : XC := XC.block 1 c_stream_block_8
abbrev c_stream_block_10 : XC := XC.region [⟨(some (ixOf 38)), (.p (.bin (.int .i64) .add (.t (ixOf 24)) (.c (.int .i64 (.ofNat 1))))), none⟩,
  ⟨(some (ixOf 24)), (.p (.mov (.t (ixOf 38)))), none⟩]
abbrev c_stream_block_11 : XC := XC.seq c_stream_block_9 c_stream_block_10
abbrev c_stream_block_12 : XC := XC.seq c_stream_block_5 c_stream_block_11
abbrev c_stream_block_13 : XC := XC.seq c_stream_block_4 c_stream_block_12
abbrev c_stream_block_14 : XC := XC.loop c_stream_block_13
abbrev c_stream_block_15 : XC := XC.block 0 c_stream_block_14
abbrev c_stream_block_16 : XC := XC.seq c_stream_block_3 c_stream_block_15
abbrev c_stream_block_17 : XC := XC.region [⟨(some (ixOf 39)), (.r (.load (.many 16) (.t (ixOf 8)))), none⟩,
  ⟨none, (.e (.store 16 (.t (ixOf 9)) (.t (ixOf 39)))), none⟩]
abbrev c_stream_block_18 : XC := XC.region [⟨(some (ixOf 40)), (.p (.mov (.c (.int .i64 (.ofNat 0))))), none⟩]
abbrev c_stream_block_19 : XC := XC.region [⟨(some (ixOf 41)), (.p (.bin (.int .i64) .lss (.t (ixOf 40)) (.c (.int .i64 (.ofNat 10))))), none⟩]
abbrev c_stream_block_20 : XC := XC.cond (.t (ixOf 41)) .skip (.exit 2)
abbrev c_stream_block_21 : XC := XC.region [⟨(some (ixOf 42)), (.e (.call 217 [])), none⟩,
  ⟨(some (ixOf 43)), (.p (.mov (.c (.int .i64 (.ofNat 0))))), none⟩]
abbrev c_stream_block_22 : XC := XC.region [⟨(some (ixOf 44)), (.p (.bin (.int .i64) .lss (.t (ixOf 43)) (.c (.int .i64 (.ofNat 8))))), none⟩]
abbrev c_stream_block_23 : XC := XC.cond (.t (ixOf 44)) .skip (.exit 4)
abbrev c_stream_block_24 : XC := XC.region [⟨(some (ixOf 45)), (.p (.ixAgg (.many 4) 8 4 (.t (ixOf 42)) (.t (ixOf 43)))), none⟩,
  ⟨(some (ixOf 12)), (.a (.alloc 328 (List.replicate 4 (.int .i64 (.ofNat 0))))), none⟩,
  ⟨none, (.e (.store 4 (.t (ixOf 12)) (.t (ixOf 45)))), none⟩]
abbrev c_stream_block_25 : XC := XC.drawn [⟨8, ⟨(some (ixOf 55)), (.p (.idxA 4 1 (.t (ixOf 12)) (.c (.int .i64 (.ofNat 0))))), none⟩, 0, 0, []⟩,
  ⟨9, ⟨(some (ixOf 56)), (.r (.load .one (.t (ixOf 55)))), none⟩, 0, 0, []⟩,
  ⟨10, ⟨(some (ixOf 57)), (.p (.idxA 16 1 (.t (ixOf 9)) (.t (ixOf 56)))), none⟩, 0, 0, []⟩,
  ⟨11, ⟨(some (ixOf 58)), (.r (.load .one (.t (ixOf 57)))), none⟩, 0, 0, []⟩,
  ⟨12, ⟨(some (ixOf 59)), (.p (.idxA 4 1 (.t (ixOf 12)) (.c (.int .i64 (.ofNat 1))))), none⟩, 0, 0, []⟩,
  ⟨13, ⟨(some (ixOf 60)), (.r (.load .one (.t (ixOf 59)))), none⟩, 0, 0, []⟩,
  ⟨14, ⟨(some (ixOf 61)), (.p (.idxA 16 1 (.t (ixOf 9)) (.t (ixOf 60)))), none⟩, 0, 0, []⟩,
  ⟨15, ⟨(some (ixOf 62)), (.r (.load .one (.t (ixOf 61)))), none⟩, 0, 0, []⟩,
  ⟨16, ⟨(some (ixOf 63)), (.p (.idxA 4 1 (.t (ixOf 12)) (.c (.int .i64 (.ofNat 2))))), none⟩, 0, 0, []⟩,
  ⟨17, ⟨(some (ixOf 64)), (.r (.load .one (.t (ixOf 63)))), none⟩, 0, 0, []⟩,
  ⟨18, ⟨(some (ixOf 65)), (.p (.idxA 16 1 (.t (ixOf 9)) (.t (ixOf 64)))), none⟩, 0, 0, []⟩,
  ⟨19, ⟨(some (ixOf 66)), (.r (.load .one (.t (ixOf 65)))), none⟩, 0, 0, []⟩,
  ⟨20, ⟨(some (ixOf 67)), (.p (.idxA 4 1 (.t (ixOf 12)) (.c (.int .i64 (.ofNat 3))))), none⟩, 0, 0, []⟩,
  ⟨21, ⟨(some (ixOf 68)), (.r (.load .one (.t (ixOf 67)))), none⟩, 0, 0, []⟩,
  ⟨22, ⟨(some (ixOf 69)), (.p (.idxA 16 1 (.t (ixOf 9)) (.t (ixOf 68)))), none⟩, 0, 0, []⟩,
  ⟨23, ⟨(some (ixOf 70)), (.r (.load .one (.t (ixOf 69)))), none⟩, 0, 0, []⟩,
  ⟨24, ⟨(some (ixOf 71)), (.e (.call 218 [(.t (ixOf 58)), (.t (ixOf 62)), (.t (ixOf 66)), (.t (ixOf 70))])), none⟩, 0, 1, []⟩,
  ⟨0, ⟨(some (ixOf 47)), (.p (.idxA 4 1 (.t (ixOf 12)) (.c (.int .i64 (.ofNat 0))))), none⟩, 0, 1, []⟩,
  ⟨1, ⟨(some (ixOf 48)), (.r (.load .one (.t (ixOf 47)))), none⟩, 0, 1, []⟩,
  ⟨25, ⟨(some (ixOf 46)), (.p (.mov (.t (ixOf 71)))), none⟩, 1, 1, []⟩,
  ⟨26, ⟨(some (ixOf 72)), (.p (.extract (.t (ixOf 46)) 0)), none⟩, 1, 1, []⟩,
  ⟨30, ⟨(some (ixOf 76)), (.p (.idxA 16 1 (.t (ixOf 9)) (.t (ixOf 48)))), none⟩, 1, 1, []⟩,
  ⟨31, ⟨none, (.e (.store 1 (.t (ixOf 76)) (.t (ixOf 72)))), none⟩, 1, 2, []⟩,
  ⟨2, ⟨(some (ixOf 49)), (.p (.idxA 4 1 (.t (ixOf 12)) (.c (.int .i64 (.ofNat 1))))), none⟩, 0, 2, []⟩,
  ⟨3, ⟨(some (ixOf 50)), (.r (.load .one (.t (ixOf 49)))), none⟩, 0, 2, []⟩,
  ⟨27, ⟨(some (ixOf 73)), (.p (.extract (.t (ixOf 46)) 1)), none⟩, 1, 2, []⟩,
  ⟨32, ⟨(some (ixOf 77)), (.p (.idxA 16 1 (.t (ixOf 9)) (.t (ixOf 50)))), none⟩, 2, 2, []⟩,
  ⟨33, ⟨none, (.e (.store 1 (.t (ixOf 77)) (.t (ixOf 73)))), none⟩, 2, 3, []⟩,
  ⟨4, ⟨(some (ixOf 51)), (.p (.idxA 4 1 (.t (ixOf 12)) (.c (.int .i64 (.ofNat 2))))), none⟩, 0, 3, []⟩,
  ⟨5, ⟨(some (ixOf 52)), (.r (.load .one (.t (ixOf 51)))), none⟩, 0, 3, []⟩,
  ⟨28, ⟨(some (ixOf 74)), (.p (.extract (.t (ixOf 46)) 2)), none⟩, 1, 3, []⟩,
  ⟨34, ⟨(some (ixOf 78)), (.p (.idxA 16 1 (.t (ixOf 9)) (.t (ixOf 52)))), none⟩, 3, 3, []⟩,
  ⟨35, ⟨none, (.e (.store 1 (.t (ixOf 78)) (.t (ixOf 74)))), none⟩, 3, 4, []⟩,
  ⟨6, ⟨(some (ixOf 53)), (.p (.idxA 4 1 (.t (ixOf 12)) (.c (.int .i64 (.ofNat 3))))), none⟩, 0, 4, []⟩,
  ⟨7, ⟨(some (ixOf 54)), (.r (.load .one (.t (ixOf 53)))), none⟩, 0, 4, []⟩,
  ⟨29, ⟨(some (ixOf 75)), (.p (.extract (.t (ixOf 46)) 3)), none⟩, 1, 4, []⟩,
  ⟨36, ⟨(some (ixOf 79)), (.p (.idxA 16 1 (.t (ixOf 9)) (.t (ixOf 54)))), none⟩, 4, 4, []⟩,
  ⟨37, ⟨none, (.e (.store 1 (.t (ixOf 79)) (.t (ixOf 75)))), none⟩, 4, 5, []⟩]
abbrev c_stream_block_26 : XC := XC.seq c_stream_block_24 c_stream_block_25
abbrev c_stream_block_27 : XC := XC.block 5 c_stream_block_26
abbrev c_stream_block_28 : XC := XC.region [⟨(some (ixOf 80)), (.p (.bin (.int .i64) .add (.t (ixOf 43)) (.c (.int .i64 (.ofNat 1))))), none⟩,
  ⟨(some (ixOf 43)), (.p (.mov (.t (ixOf 80)))), none⟩]
abbrev c_stream_block_29 : XC := XC.seq c_stream_block_27 c_stream_block_28
abbrev c_stream_block_30 : XC := XC.seq c_stream_block_23 c_stream_block_29
abbrev c_stream_block_31 : XC := XC.seq c_stream_block_22 c_stream_block_30
abbrev c_stream_block_32 : XC := XC.loop c_stream_block_31
abbrev c_stream_block_33 : XC := XC.block 4 c_stream_block_32
abbrev c_stream_block_34 : XC := XC.seq c_stream_block_21 c_stream_block_33
abbrev c_stream_block_35 : XC := XC.block 3 c_stream_block_34
abbrev c_stream_block_36 : XC := XC.region [⟨(some (ixOf 81)), (.p (.bin (.int .i64) .add (.t (ixOf 40)) (.c (.int .i64 (.ofNat 1))))), none⟩,
  ⟨(some (ixOf 40)), (.p (.mov (.t (ixOf 81)))), none⟩]
abbrev c_stream_block_37 : XC := XC.seq c_stream_block_35 c_stream_block_36
abbrev c_stream_block_38 : XC := XC.seq c_stream_block_20 c_stream_block_37
abbrev c_stream_block_39 : XC := XC.seq c_stream_block_19 c_stream_block_38
abbrev c_stream_block_40 : XC := XC.loop c_stream_block_39
abbrev c_stream_block_41 : XC := XC.block 2 c_stream_block_40
abbrev c_stream_block_42 : XC := XC.seq c_stream_block_18 c_stream_block_41
abbrev c_stream_block_43 : XC := XC.region [⟨(some (ixOf 13)), (.a (.alloc 93 [.nilp, .nils])), none⟩]
abbrev c_stream_block_44 : XC := XC.region [⟨(some (ixOf 82)), (.r (.load (.many 16) (.t (ixOf 9)))), none⟩,
  ⟨(some (ixOf 83)), (.p (.mov (.c (.int .i64 (.ofNat 0))))), none⟩]
abbrev c_stream_block_45 : XC := XC.region [⟨(some (ixOf 84)), (.p (.bin (.int .i64) .lss (.t (ixOf 83)) (.c (.int .i64 (.ofNat 16))))), none⟩]
abbrev c_stream_block_46 : XC := XC.cond (.t (ixOf 84)) .skip (.exit 6)
abbrev c_stream_block_47 : XC := XC.region [⟨(some (ixOf 85)), (.p (.mov (.t (ixOf 83)))), none⟩,
  ⟨(some (ixOf 86)), (.p (.ixAgg .one 16 1 (.t (ixOf 82)) (.t (ixOf 83)))), none⟩,
  ⟨(some (ixOf 14)), (.p (.mov (.t (ixOf 85)))), none⟩,
  ⟨(some (ixOf 15)), (.p (.mov (.t (ixOf 86)))), none⟩]
abbrev c_stream_block_48 : XC := XC.region [⟨(some (ixOf 87)), (.p (.mov (.t (ixOf 15)))), none⟩,
  ⟨(some (ixOf 88)), (.p (.mov (.t (ixOf 14)))), none⟩,
  ⟨(some (ixOf 89)), (.p (.idxA 16 1 (.t (ixOf 8)) (.t (ixOf 88)))), none⟩,
  ⟨(some (ixOf 90)), (.r (.load .one (.t (ixOf 89)))), none⟩,
  ⟨(some (ixOf 91)), (.p (.bin (.int .u32) .add (.t (ixOf 87)) (.t (ixOf 90)))), none⟩,
  ⟨(some (ixOf 92)), (.p (.convI .u64 (.t (ixOf 91)))), none⟩,
  ⟨(some (ixOf 93)), (.e (.call 165 [(.t (ixOf 92)), (.c (.int .i64 (.ofNat 4)))])), none⟩,
  ⟨(some (ixOf 94)), (.e (.call 36 [(.t (ixOf 13)), (.t (ixOf 93))])), none⟩]
abbrev c_stream_block_49 : XC := XC.seq c_stream_block_47 c_stream_block_48
abbrev c_stream_block_50 : XC := XC.block 7 c_stream_block_49
abbrev c_stream_block_51 : XC := XC.region [⟨(some (ixOf 95)), (.p (.bin (.int .i64) .add (.t (ixOf 83)) (.c (.int .i64 (.ofNat 1))))), none⟩,
  ⟨(some (ixOf 83)), (.p (.mov (.t (ixOf 95)))), none⟩]
abbrev c_stream_block_52 : XC := XC.seq c_stream_block_50 c_stream_block_51
abbrev c_stream_block_53 : XC := XC.seq c_stream_block_46 c_stream_block_52
abbrev c_stream_block_54 : XC := XC.seq c_stream_block_45 c_stream_block_53
abbrev c_stream_block_55 : XC := XC.loop c_stream_block_54
abbrev c_stream_block_56 : XC := XC.block 6 c_stream_block_55
abbrev c_stream_block_57 : XC := XC.seq c_stream_block_44 c_stream_block_56
abbrev c_stream_block_58 : XC := XC.region [⟨(some (ixOf 96)), (.e (.call 38 [(.t (ixOf 13))])), none⟩,
  ⟨(some (ixOf 6)), (.p (.mov (.t (ixOf 96)))), none⟩]
abbrev c_stream_block_59 : XC := XC.seq c_stream_block_58 .ret
abbrev c_stream_block_60 : XC := XC.seq c_stream_block_57 c_stream_block_59
abbrev c_stream_block_61 : XC := XC.seq c_stream_block_43 c_stream_block_60
abbrev c_stream_block_62 : XC := XC.seq c_stream_block_42 c_stream_block_61
abbrev c_stream_block_63 : XC := XC.seq c_stream_block_17 c_stream_block_62
abbrev c_stream_block_64 : XC := XC.seq c_stream_block_16 c_stream_block_63
abbrev c_stream_block_65 : XC := XC.seq c_stream_block_2 c_stream_block_64
abbrev c_stream_block_66 : XC := XC.seq c_stream_block_1 c_stream_block_65
abbrev c_stream_block_67 : XC := XC.seq c_stream_block_0 c_stream_block_66
abbrev x_stream_block : XFn := ⟨[.tmp (ixOf 6)], c_stream_block_67⟩
theorem mk_stream_block : mkFn tyT.get Tryz.f162 = some x_stream_block := by kernel_rfl
theorem fn_stream_block : E0.fn n_stream_block = some (.fn x_stream_block) := fn_of (by kernel_rfl) mk_stream_block
-- escutcheon/stream.Block
abbrev n_stream_Block : Nat := 164
abbrev c_stream_Block_0 : XC := XC.region [⟨(some (ixOf 6)), (.p (.mov (.c (.str [])))), none⟩,
  ⟨(some (ixOf 7)), (.p (.mov (.c (.bool false)))), none⟩]
abbrev c_stream_Block_1 : XC := XC.region [⟨(some (ixOf 8)), (.p (.mov (.t (ixOf 0)))), none⟩,
  ⟨(some (ixOf 9)), (.p (.mov (.t (ixOf 2)))), none⟩,
  ⟨(some (ixOf 10)), (.e (.call 160 [(.t (ixOf 8)), (.t (ixOf 9))])), none⟩,
  ⟨(some (ixOf 11)), (.p (.un .not (.t (ixOf 10)))), none⟩]
abbrev c_stream_Block_2 : XC := XC.region [⟨(some (ixOf 6)), (.p (.mov (.c (.str [])))), none⟩,
  ⟨(some (ixOf 7)), (.p (.mov (.c (.bool false)))), none⟩]
abbrev c_stream_Block_3 : XC := XC.seq c_stream_Block_2 .ret
abbrev c_stream_Block_4 : XC := XC.cond (.t (ixOf 11)) c_stream_Block_3 .skip
abbrev c_stream_Block_5 : XC := XC.seq c_stream_Block_1 c_stream_Block_4
abbrev c_stream_Block_6 : XC := XC.region [⟨(some (ixOf 12)), (.p (.mov (.t (ixOf 0)))), none⟩,
  ⟨(some (ixOf 13)), (.p (.mov (.t (ixOf 1)))), none⟩,
  ⟨(some (ixOf 14)), (.p (.mov (.t (ixOf 2)))), none⟩,
  ⟨(some (ixOf 15)), (.e (.call 162 [(.t (ixOf 12)), (.t (ixOf 13)), (.t (ixOf 14))])), none⟩,
  ⟨(some (ixOf 6)), (.p (.mov (.t (ixOf 15)))), none⟩,
  ⟨(some (ixOf 7)), (.p (.mov (.c (.bool true)))), none⟩]
abbrev c_stream_Block_7 : XC := XC.seq c_stream_Block_6 .ret
abbrev c_stream_Block_8 : XC := XC.seq c_stream_Block_5 c_stream_Block_7
abbrev c_stream_Block_9 : XC := XC.seq c_stream_Block_0 c_stream_Block_8
abbrev x_stream_Block : XFn := ⟨[.tmp (ixOf 6), .tmp (ixOf 7)], c_stream_Block_9⟩
theorem mk_stream_Block : mkFn tyT.get Tryz.f164 = some x_stream_Block := by kernel_rfl
theorem fn_stream_Block : E0.fn n_stream_Block = some (.fn x_stream_Block) := fn_of (by kernel_rfl) mk_stream_Block
-- escutcheon/stream.right
abbrev n_stream_right : Nat := 160
abbrev c_stream_right_0 : XC := XC.region [⟨(some (ixOf 4)), (.p (.mov (.c (.bool false)))), none⟩]
abbrev c_stream_right_1 : XC := XC.region [⟨(some (ixOf 5)), (.p (.mov (.t (ixOf 0)))), none⟩,
  ⟨(some (ixOf 6)), (.r (.len .str (.t (ixOf 5)))), none⟩,
  ⟨(some (ixOf 7)), (.p (.bin (.int .i64) .eql (.t (ixOf 6)) (.c (.int .i64 (.ofNat 32))))), none⟩,
  ⟨(some (ixOf 8)), (.p (.mov (.t (ixOf 7)))), none⟩,
  ⟨(some (ixOf 9)), (.p (.mov (.t (ixOf 1)))), (some ((ixOf 8), true))⟩,
  ⟨(some (ixOf 10)), (.r (.len .str (.t (ixOf 9)))), (some ((ixOf 8), true))⟩,
  ⟨(some (ixOf 11)), (.p (.bin (.int .i64) .eql (.t (ixOf 10)) (.c (.int .i64 (.ofNat 12))))), (some ((ixOf 8), true))⟩,
  ⟨(some (ixOf 12)), (.p (.pick (.t (ixOf 8)) (.t (ixOf 11)) (.c (.bool false)))), none⟩,
  ⟨(some (ixOf 4)), (.p (.mov (.t (ixOf 12)))), none⟩]
abbrev c_stream_right_2 : XC := XC.seq c_stream_right_1 .ret
abbrev c_stream_right_3 : XC := XC.seq c_stream_right_0 c_stream_right_2
abbrev x_stream_right : XFn := ⟨[.tmp (ixOf 4)], c_stream_right_3⟩
theorem mk_stream_right : mkFn tyT.get Tryz.f160 = some x_stream_right := by kernel_rfl
theorem fn_stream_right : E0.fn n_stream_right = some (.fn x_stream_right) := fn_of (by kernel_rfl) mk_stream_right
-- escutcheon/stream.Xor
abbrev n_stream_Xor : Nat := 125
abbrev c_stream_Xor_0 : XC := XC.region [⟨(some (ixOf 8)), (.p (.mov (.c (.str [])))), none⟩,
  ⟨(some (ixOf 9)), (.p (.mov (.c (.bool false)))), none⟩]
abbrev c_stream_Xor_1 : XC := XC.region [⟨(some (ixOf 13)), (.p (.mov (.t (ixOf 0)))), none⟩,
  ⟨(some (ixOf 14)), (.p (.mov (.t (ixOf 2)))), none⟩,
  ⟨(some (ixOf 15)), (.e (.call 160 [(.t (ixOf 13)), (.t (ixOf 14))])), none⟩,
  ⟨(some (ixOf 16)), (.p (.un .not (.t (ixOf 15)))), none⟩]
abbrev c_stream_Xor_2 : XC := XC.region [⟨(some (ixOf 8)), (.p (.mov (.c (.str [])))), none⟩,
  ⟨(some (ixOf 9)), (.p (.mov (.c (.bool false)))), none⟩]
abbrev c_stream_Xor_3 : XC := XC.seq c_stream_Xor_2 .ret
abbrev c_stream_Xor_4 : XC := XC.cond (.t (ixOf 16)) c_stream_Xor_3 .skip
abbrev c_stream_Xor_5 : XC := XC.seq c_stream_Xor_1 c_stream_Xor_4
abbrev c_stream_Xor_6 : XC := XC.region [⟨(some (ixOf 10)), (.a (.alloc 278 [(.int .u32 (.ofNat 0))])), none⟩]
abbrev c_stream_Xor_7 : XC := XC.region [⟨(some (ixOf 17)), (.p (.mov (.t (ixOf 1)))), none⟩,
  ⟨(some (ixOf 18)), (.e (.call 161 [(.t (ixOf 10)), (.t (ixOf 17))])), none⟩]
abbrev c_stream_Xor_8 : XC := XC.region [⟨(some (ixOf 11)), (.a (.alloc 93 [.nilp, .nils])), none⟩]
abbrev c_stream_Xor_9 : XC := XC.region [⟨(some (ixOf 19)), (.p (.mov (.t (ixOf 3)))), none⟩,
  ⟨(some (ixOf 20)), (.r (.len .str (.t (ixOf 19)))), none⟩,
  ⟨(some (ixOf 21)), (.p (.bin (.int .i64) .gtr (.t (ixOf 20)) (.c (.int .i64 (.ofNat 0))))), none⟩]
abbrev c_stream_Xor_10 : XC := XC.cond (.t (ixOf 21)) .skip (.exit 0)
abbrev c_stream_Xor_11 : XC := XC.seq c_stream_Xor_9 c_stream_Xor_10
abbrev c_stream_Xor_12 : XC := XC.region [⟨(some (ixOf 22)), (.p (.mov (.t (ixOf 3)))), none⟩,
  ⟨(some (ixOf 23)), (.r (.len .str (.t (ixOf 22)))), none⟩,
  ⟨(some (ixOf 24)), (.p (.min [(.t (ixOf 23)), (.c (.int .i64 (.ofNat 64)))])), none⟩,
  ⟨(some (ixOf 12)), (.p (.mov (.t (ixOf 24)))), none⟩]
abbrev c_stream_Xor_13 : XC := XC.drawn [⟨4, ⟨(some (ixOf 29)), (.e (.call 163 [(.t (ixOf 10)), (.c (.int .u32 (.ofNat 1)))])), none⟩, 0, 1, []⟩,
  ⟨3, ⟨(some (ixOf 28)), (.p (.mov (.t (ixOf 0)))), none⟩, 0, 1, []⟩,
  ⟨5, ⟨(some (ixOf 30)), (.p (.bin (.int .u32) .sub (.t (ixOf 29)) (.c (.int .u32 (.ofNat 1))))), none⟩, 1, 1, []⟩,
  ⟨6, ⟨(some (ixOf 31)), (.p (.mov (.t (ixOf 2)))), none⟩, 0, 1, []⟩,
  ⟨7, ⟨(some (ixOf 32)), (.e (.call 162 [(.t (ixOf 28)), (.t (ixOf 30)), (.t (ixOf 31))])), none⟩, 1, 2, []⟩,
  ⟨0, ⟨(some (ixOf 25)), (.p (.mov (.t (ixOf 3)))), none⟩, 0, 2, []⟩,
  ⟨1, ⟨(some (ixOf 26)), (.p (.mov (.t (ixOf 12)))), none⟩, 0, 2, []⟩,
  ⟨2, ⟨(some (ixOf 27)), (.p (.sliceS (.t (ixOf 25)) none (some (.t (ixOf 26))))), none⟩, 0, 2, []⟩,
  ⟨8, ⟨(some (ixOf 33)), (.e (.call 107 [(.t (ixOf 27)), (.t (ixOf 32))])), none⟩, 2, 3, []⟩,
  ⟨9, ⟨(some (ixOf 34)), (.e (.call 36 [(.t (ixOf 11)), (.t (ixOf 33))])), none⟩, 3, 4, []⟩]
abbrev c_stream_Xor_14 : XC := XC.region [⟨(some (ixOf 35)), (.p (.mov (.t (ixOf 3)))), none⟩,
  ⟨(some (ixOf 36)), (.p (.mov (.t (ixOf 12)))), none⟩,
  ⟨(some (ixOf 37)), (.p (.sliceS (.t (ixOf 35)) (some (.t (ixOf 36))) none)), none⟩,
  ⟨(some (ixOf 3)), (.p (.mov (.t (ixOf 37)))), none⟩]
abbrev c_stream_Xor_15 : XC := XC.seq c_stream_Xor_13 c_stream_Xor_14
abbrev c_stream_Xor_16 : XC := XC.seq c_stream_Xor_12 c_stream_Xor_15
abbrev c_stream_Xor_17 : XC := XC.block 1 c_stream_Xor_16
abbrev c_stream_Xor_18 : XC := XC.seq c_stream_Xor_11 c_stream_Xor_17
abbrev c_stream_Xor_19 : XC := XC.loop c_stream_Xor_18
abbrev c_stream_Xor_20 : XC := XC.block 0 c_stream_Xor_19
abbrev c_stream_Xor_21 : XC := XC.region [⟨(some (ixOf 38)), (.e (.call 38 [(.t (ixOf 11))])), none⟩,
  ⟨(some (ixOf 8)), (.p (.mov (.t (ixOf 38)))), none⟩,
  ⟨(some (ixOf 9)), (.p (.mov (.c (.bool true)))), none⟩]
abbrev c_stream_Xor_22 : XC := XC.seq c_stream_Xor_21 .ret
abbrev c_stream_Xor_23 : XC := XC.seq c_stream_Xor_20 c_stream_Xor_22
abbrev c_stream_Xor_24 : XC := XC.seq c_stream_Xor_8 c_stream_Xor_23
abbrev c_stream_Xor_25 : XC := XC.seq c_stream_Xor_7 c_stream_Xor_24
abbrev c_stream_Xor_26 : XC := XC.seq c_stream_Xor_6 c_stream_Xor_25
abbrev c_stream_Xor_27 : XC := XC.seq c_stream_Xor_5 c_stream_Xor_26
abbrev c_stream_Xor_28 : XC := XC.seq c_stream_Xor_0 c_stream_Xor_27
abbrev x_stream_Xor : XFn := ⟨[.tmp (ixOf 8), .tmp (ixOf 9)], c_stream_Xor_28⟩
theorem mk_stream_Xor : mkFn tyT.get Tryz.f125 = some x_stream_Xor := by kernel_rfl
theorem fn_stream_Xor : E0.fn n_stream_Xor = some (.fn x_stream_Xor) := fn_of (by kernel_rfl) mk_stream_Xor
-- escutcheon/onetime.Clamp
abbrev n_onetime_Clamp : Nat := 220
abbrev c_onetime_Clamp_0 : XC := XC.region [⟨(some (ixOf 2)), (.p (.mov (.c (.str [])))), none⟩,
  ⟨(some (ixOf 3)), (.p (.mov (.c (.bool false)))), none⟩]
abbrev c_onetime_Clamp_1 : XC := XC.region [⟨(some (ixOf 6)), (.p (.mov (.t (ixOf 0)))), none⟩,
  ⟨(some (ixOf 7)), (.r (.len .str (.t (ixOf 6)))), none⟩,
  ⟨(some (ixOf 8)), (.p (.bin (.int .i64) .neq (.t (ixOf 7)) (.c (.int .i64 (.ofNat 32))))), none⟩]
abbrev c_onetime_Clamp_2 : XC := XC.region [⟨(some (ixOf 2)), (.p (.mov (.c (.str [])))), none⟩,
  ⟨(some (ixOf 3)), (.p (.mov (.c (.bool false)))), none⟩]
abbrev c_onetime_Clamp_3 : XC := XC.seq c_onetime_Clamp_2 .ret
abbrev c_onetime_Clamp_4 : XC := XC.cond (.t (ixOf 8)) c_onetime_Clamp_3 .skip
abbrev c_onetime_Clamp_5 : XC := XC.seq c_onetime_Clamp_1 c_onetime_Clamp_4
abbrev c_onetime_Clamp_6 : XC := XC.region [⟨(some (ixOf 9)), (.p (.mov (.t (ixOf 0)))), none⟩,
  ⟨(some (ixOf 10)), (.p (.sliceS (.t (ixOf 9)) none (some (.c (.int .i64 (.ofNat 16)))))), none⟩,
  ⟨(some (ixOf 11)), (.a (.convSB (.t (ixOf 10)))), none⟩,
  ⟨(some (ixOf 4)), (.p (.mov (.t (ixOf 11)))), none⟩]
abbrev c_onetime_Clamp_7 : XC := XC.region [⟨(some (ixOf 12)), (.p (.mov (.t (ixOf 4)))), none⟩,
  ⟨(some (ixOf 13)), (.r (.len (.slice 5) (.t (ixOf 12)))), none⟩,
  ⟨(some (ixOf 14)), (.p (.mov (.c (.int .i64 (.ofNat 0))))), none⟩]
abbrev c_onetime_Clamp_8 : XC := XC.region [⟨(some (ixOf 15)), (.p (.bin (.int .i64) .lss (.t (ixOf 14)) (.t (ixOf 13)))), none⟩]
abbrev c_onetime_Clamp_9 : XC := XC.cond (.t (ixOf 15)) .skip (.exit 0)
abbrev c_onetime_Clamp_10 : XC := XC.region [⟨(some (ixOf 16)), (.p (.mov (.t (ixOf 14)))), none⟩,
  ⟨(some (ixOf 5)), (.p (.mov (.t (ixOf 16)))), none⟩]
abbrev c_onetime_Clamp_11 : XC := XC.region [⟨(some (ixOf 17)), (.p (.mov (.t (ixOf 5)))), none⟩]
abbrev c_onetime_Clamp_12 : XC := XC.region [⟨(some (ixOf 19)), (.p (.bin (.int .i64) .eql (.t (ixOf 17)) (.c (.int .i64 (.ofNat 3))))), none⟩,
  ⟨(some (ixOf 18)), (.p (.mov (.t (ixOf 19)))), none⟩]
abbrev c_onetime_Clamp_13 : XC := XC.region [⟨(some (ixOf 20)), (.p (.bin (.int .i64) .eql (.t (ixOf 17)) (.c (.int .i64 (.ofNat 7))))), none⟩,
  ⟨(some (ixOf 18)), (.p (.mov (.t (ixOf 20)))), none⟩]
abbrev c_onetime_Clamp_14 : XC := XC.region [⟨(some (ixOf 21)), (.p (.bin (.int .i64) .eql (.t (ixOf 17)) (.c (.int .i64 (.ofNat 11))))), none⟩,
  ⟨(some (ixOf 18)), (.p (.mov (.t (ixOf 21)))), none⟩]
abbrev c_onetime_Clamp_15 : XC := XC.region [⟨(some (ixOf 22)), (.p (.bin (.int .i64) .eql (.t (ixOf 17)) (.c (.int .i64 (.ofNat 15))))), none⟩,
  ⟨(some (ixOf 18)), (.p (.mov (.t (ixOf 22)))), none⟩]
abbrev c_onetime_Clamp_16 : XC := XC.cond (.t (ixOf 18)) .skip c_onetime_Clamp_15
abbrev c_onetime_Clamp_17 : XC := XC.seq c_onetime_Clamp_14 c_onetime_Clamp_16
abbrev c_onetime_Clamp_18 : XC := XC.cond (.t (ixOf 18)) .skip c_onetime_Clamp_17
abbrev c_onetime_Clamp_19 : XC := XC.seq c_onetime_Clamp_13 c_onetime_Clamp_18
abbrev c_onetime_Clamp_20 : XC := XC.cond (.t (ixOf 18)) .skip c_onetime_Clamp_19
abbrev c_onetime_Clamp_21 : XC := XC.seq c_onetime_Clamp_12 c_onetime_Clamp_20
abbrev c_onetime_Clamp_22 : XC := XC.region [⟨(some (ixOf 23)), (.p (.mov (.t (ixOf 4)))), none⟩,
  ⟨(some (ixOf 24)), (.p (.mov (.t (ixOf 5)))), none⟩,
  ⟨(some (ixOf 25)), (.p (.idxL 1 (.t (ixOf 23)) (.t (ixOf 24)))), none⟩,
  ⟨(some (ixOf 26)), (.r (.load .one (.t (ixOf 25)))), none⟩,
  ⟨(some (ixOf 27)), (.p (.bin (.int .u8) .and (.t (ixOf 26)) (.c (.int .u8 (.ofNat 15))))), none⟩,
  ⟨(some (ixOf 28)), (.p (.idxL 1 (.t (ixOf 23)) (.t (ixOf 24)))), none⟩,
  ⟨none, (.e (.store 1 (.t (ixOf 28)) (.t (ixOf 27)))), none⟩]
abbrev c_onetime_Clamp_23 : XC := XC.region [⟨(some (ixOf 30)), (.p (.bin (.int .i64) .eql (.t (ixOf 17)) (.c (.int .i64 (.ofNat 4))))), none⟩,
  ⟨(some (ixOf 29)), (.p (.mov (.t (ixOf 30)))), none⟩]
abbrev c_onetime_Clamp_24 : XC := XC.region [⟨(some (ixOf 31)), (.p (.bin (.int .i64) .eql (.t (ixOf 17)) (.c (.int .i64 (.ofNat 8))))), none⟩,
  ⟨(some (ixOf 29)), (.p (.mov (.t (ixOf 31)))), none⟩]
abbrev c_onetime_Clamp_25 : XC := XC.region [⟨(some (ixOf 32)), (.p (.bin (.int .i64) .eql (.t (ixOf 17)) (.c (.int .i64 (.ofNat 12))))), none⟩,
  ⟨(some (ixOf 29)), (.p (.mov (.t (ixOf 32)))), none⟩]
abbrev c_onetime_Clamp_26 : XC := XC.cond (.t (ixOf 29)) .skip c_onetime_Clamp_25
abbrev c_onetime_Clamp_27 : XC := XC.seq c_onetime_Clamp_24 c_onetime_Clamp_26
abbrev c_onetime_Clamp_28 : XC := XC.cond (.t (ixOf 29)) .skip c_onetime_Clamp_27
abbrev c_onetime_Clamp_29 : XC := XC.seq c_onetime_Clamp_23 c_onetime_Clamp_28
abbrev c_onetime_Clamp_30 : XC := XC.region [⟨(some (ixOf 33)), (.p (.mov (.t (ixOf 4)))), none⟩,
  ⟨(some (ixOf 34)), (.p (.mov (.t (ixOf 5)))), none⟩,
  ⟨(some (ixOf 35)), (.p (.idxL 1 (.t (ixOf 33)) (.t (ixOf 34)))), none⟩,
  ⟨(some (ixOf 36)), (.r (.load .one (.t (ixOf 35)))), none⟩,
  ⟨(some (ixOf 37)), (.p (.bin (.int .u8) .and (.t (ixOf 36)) (.c (.int .u8 (.ofNat 252))))), none⟩,
  ⟨(some (ixOf 38)), (.p (.idxL 1 (.t (ixOf 33)) (.t (ixOf 34)))), none⟩,
  ⟨none, (.e (.store 1 (.t (ixOf 38)) (.t (ixOf 37)))), none⟩]
abbrev c_onetime_Clamp_31 : XC := XC.cond (.t (ixOf 29)) c_onetime_Clamp_30 .skip
abbrev c_onetime_Clamp_32 : XC := XC.seq c_onetime_Clamp_29 c_onetime_Clamp_31
abbrev c_onetime_Clamp_33 : XC := XC.cond (.t (ixOf 18)) c_onetime_Clamp_22 c_onetime_Clamp_32
abbrev c_onetime_Clamp_34 : XC := XC.seq c_onetime_Clamp_21 c_onetime_Clamp_33
abbrev c_onetime_Clamp_35 : XC := XC.block 2 c_onetime_Clamp_34
abbrev c_onetime_Clamp_36 : XC := XC.seq c_onetime_Clamp_11 c_onetime_Clamp_35
abbrev c_onetime_Clamp_37 : XC := XC.seq c_onetime_Clamp_10 c_onetime_Clamp_36
abbrev c_onetime_Clamp_38 : XC := XC.block 1 c_onetime_Clamp_37
abbrev c_onetime_Clamp_39 : XC := XC.region [⟨(some (ixOf 39)), (.p (.bin (.int .i64) .add (.t (ixOf 14)) (.c (.int .i64 (.ofNat 1))))), none⟩,
  ⟨(some (ixOf 14)), (.p (.mov (.t (ixOf 39)))), none⟩]
abbrev c_onetime_Clamp_40 : XC := XC.seq c_onetime_Clamp_38 c_onetime_Clamp_39
abbrev c_onetime_Clamp_41 : XC := XC.seq c_onetime_Clamp_9 c_onetime_Clamp_40
abbrev c_onetime_Clamp_42 : XC := XC.seq c_onetime_Clamp_8 c_onetime_Clamp_41
abbrev c_onetime_Clamp_43 : XC := XC.loop c_onetime_Clamp_42
abbrev c_onetime_Clamp_44 : XC := XC.block 0 c_onetime_Clamp_43
abbrev c_onetime_Clamp_45 : XC := XC.seq c_onetime_Clamp_7 c_onetime_Clamp_44
abbrev c_onetime_Clamp_46 : XC := XC.region [⟨(some (ixOf 40)), (.p (.mov (.t (ixOf 4)))), none⟩,
  ⟨(some (ixOf 41)), (.r (.convBS (.t (ixOf 40)))), none⟩,
  ⟨(some (ixOf 2)), (.p (.mov (.t (ixOf 41)))), none⟩,
  ⟨(some (ixOf 3)), (.p (.mov (.c (.bool true)))), none⟩]
abbrev c_onetime_Clamp_47 : XC := XC.seq c_onetime_Clamp_46 .ret
abbrev c_onetime_Clamp_48 : XC := XC.seq c_onetime_Clamp_45 c_onetime_Clamp_47
abbrev c_onetime_Clamp_49 : XC := XC.seq c_onetime_Clamp_6 c_onetime_Clamp_48
abbrev c_onetime_Clamp_50 : XC := XC.seq c_onetime_Clamp_5 c_onetime_Clamp_49
abbrev c_onetime_Clamp_51 : XC := XC.seq c_onetime_Clamp_0 c_onetime_Clamp_50
abbrev x_onetime_Clamp : XFn := ⟨[.tmp (ixOf 2), .tmp (ixOf 3)], c_onetime_Clamp_51⟩
theorem mk_onetime_Clamp : mkFn tyT.get Tryz.f220 = some x_onetime_Clamp := by kernel_rfl
theorem fn_onetime_Clamp : E0.fn n_onetime_Clamp = some (.fn x_onetime_Clamp) := fn_of (by kernel_rfl) mk_onetime_Clamp
-- escutcheon/onetime.split
abbrev n_onetime_split : Nat := 221
abbrev c_onetime_split_0 : XC := XC.region [⟨(some (ixOf 6)), (.a (.alloc 335 (List.replicate 5 (.int .u64 (.ofNat 0))))), none⟩]
abbrev c_onetime_split_1 : XC := XC.region [⟨(some (ixOf 7)), (.p (.mov (.t (ixOf 0)))), none⟩,
  ⟨(some (ixOf 8)), (.p (.bin (.int .u64) .and (.t (ixOf 7)) (.c (.int .u64 (.ofNat 67108863))))), none⟩,
  ⟨(some (ixOf 9)), (.p (.mov (.t (ixOf 0)))), none⟩,
  ⟨(some (ixOf 10)), (.p (.bin (.int .u64) .shr (.t (ixOf 9)) (.c (.int .u64 (.ofNat 26))))), none⟩,
  ⟨(some (ixOf 11)), (.p (.bin (.int .u64) .and (.t (ixOf 10)) (.c (.int .u64 (.ofNat 67108863))))), none⟩,
  ⟨(some (ixOf 12)), (.p (.mov (.t (ixOf 0)))), none⟩,
  ⟨(some (ixOf 13)), (.p (.bin (.int .u64) .shr (.t (ixOf 12)) (.c (.int .u64 (.ofNat 52))))), none⟩,
  ⟨(some (ixOf 14)), (.p (.mov (.t (ixOf 1)))), none⟩,
  ⟨(some (ixOf 15)), (.p (.bin (.int .u64) .shl (.t (ixOf 14)) (.c (.int .u64 (.ofNat 12))))), none⟩,
  ⟨(some (ixOf 16)), (.p (.bin (.int .u64) .or (.t (ixOf 13)) (.t (ixOf 15)))), none⟩,
  ⟨(some (ixOf 17)), (.p (.bin (.int .u64) .and (.t (ixOf 16)) (.c (.int .u64 (.ofNat 67108863))))), none⟩,
  ⟨(some (ixOf 18)), (.p (.mov (.t (ixOf 1)))), none⟩,
  ⟨(some (ixOf 19)), (.p (.bin (.int .u64) .shr (.t (ixOf 18)) (.c (.int .u64 (.ofNat 14))))), none⟩,
  ⟨(some (ixOf 20)), (.p (.bin (.int .u64) .and (.t (ixOf 19)) (.c (.int .u64 (.ofNat 67108863))))), none⟩,
  ⟨(some (ixOf 21)), (.p (.mov (.t (ixOf 1)))), none⟩,
  ⟨(some (ixOf 22)), (.p (.bin (.int .u64) .shr (.t (ixOf 21)) (.c (.int .u64 (.ofNat 40))))), none⟩,
  ⟨(some (ixOf 23)), (.p (.mov (.t (ixOf 2)))), none⟩,
  ⟨(some (ixOf 24)), (.p (.bin (.int .u64) .shl (.t (ixOf 23)) (.c (.int .u64 (.ofNat 24))))), none⟩,
  ⟨(some (ixOf 25)), (.p (.bin (.int .u64) .or (.t (ixOf 22)) (.t (ixOf 24)))), none⟩,
  ⟨(some (ixOf 26)), (.p (.build (List.replicate 5 (.int .u64 (.ofNat 0))) [(0, 1, (.t (ixOf 8))), (1, 1, (.t (ixOf 11))), (2, 1, (.t (ixOf 17))), (3, 1, (.t (ixOf 20))), (4, 1, (.t (ixOf 25)))])), none⟩,
  ⟨none, (.e (.store 5 (.t (ixOf 6)) (.t (ixOf 26)))), none⟩]
abbrev c_onetime_split_2 : XC := XC.seq c_onetime_split_1 .ret
abbrev c_onetime_split_3 : XC := XC.seq c_onetime_split_0 c_onetime_split_2
abbrev x_onetime_split : XFn := ⟨[.cell (ixOf 6) (.many 5)], c_onetime_split_3⟩
theorem mk_onetime_split : mkFn tyT.get Tryz.f221 = some x_onetime_split := by kernel_rfl
theorem fn_onetime_split : E0.fn n_onetime_split = some (.fn x_onetime_split) := fn_of (by kernel_rfl) mk_onetime_split
-- (escutcheon/onetime.number).plus
abbrev n_onetime_number_plus : Nat := 222
abbrev c_onetime_number_plus_0 : XC := XC.region [⟨(some (ixOf 2)), (.a (.box (.t (ixOf 0)))), none⟩,
  ⟨(some (ixOf 3)), (.a (.box (.t (ixOf 1)))), none⟩,
  ⟨(some (ixOf 4)), (.a (.alloc 335 (List.replicate 5 (.int .u64 (.ofNat 0))))), none⟩]
abbrev c_onetime_number_plus_1 : XC := XC.region [⟨(some (ixOf 6)), (.p (.mov (.c (.int .i64 (.ofNat 0))))), none⟩]
abbrev c_onetime_number_plus_2 : XC := XC.region [⟨(some (ixOf 7)), (.p (.bin (.int .i64) .lss (.t (ixOf 6)) (.c (.int .i64 (.ofNat 5))))), none⟩]
abbrev c_onetime_number_plus_3 : XC := XC.cond (.t (ixOf 7)) .skip (.exit 0)
abbrev c_onetime_number_plus_4 : XC := XC.region [⟨(some (ixOf 8)), (.p (.mov (.t (ixOf 6)))), none⟩,
  ⟨(some (ixOf 5)), (.p (.mov (.t (ixOf 8)))), none⟩]
abbrev c_onetime_number_plus_5 : XC := XC.drawn [⟨0, ⟨(some (ixOf 9)), (.p (.mov (.t (ixOf 5)))), none⟩, 0, 0, []⟩,
  ⟨1, ⟨(some (ixOf 10)), (.p (.idxA 5 1 (.t (ixOf 2)) (.t (ixOf 9)))), none⟩, 0, 0, []⟩,
  ⟨2, ⟨(some (ixOf 11)), (.r (.load .one (.t (ixOf 10)))), none⟩, 0, 0, []⟩,
  ⟨3, ⟨(some (ixOf 12)), (.p (.mov (.t (ixOf 5)))), none⟩, 0, 0, []⟩,
  ⟨4, ⟨(some (ixOf 13)), (.p (.idxA 5 1 (.t (ixOf 3)) (.t (ixOf 12)))), none⟩, 0, 0, []⟩,
  ⟨5, ⟨(some (ixOf 14)), (.r (.load .one (.t (ixOf 13)))), none⟩, 0, 0, []⟩,
  ⟨6, ⟨(some (ixOf 15)), (.p (.bin (.int .u64) .add (.t (ixOf 11)) (.t (ixOf 14)))), none⟩, 0, 0, []⟩,
  ⟨7, ⟨(some (ixOf 16)), (.p (.idxA 5 1 (.t (ixOf 2)) (.t (ixOf 9)))), none⟩, 0, 0, []⟩,
  ⟨8, ⟨none, (.e (.store 1 (.t (ixOf 16)) (.t (ixOf 15)))), none⟩, 0, 1, []⟩]
abbrev c_onetime_number_plus_6 : XC := XC.seq c_onetime_number_plus_4 c_onetime_number_plus_5
abbrev c_onetime_number_plus_7 : XC := XC.block 1 c_onetime_number_plus_6
abbrev c_onetime_number_plus_8 : XC := XC.region [⟨(some (ixOf 17)), (.p (.bin (.int .i64) .add (.t (ixOf 6)) (.c (.int .i64 (.ofNat 1))))), none⟩,
  ⟨(some (ixOf 6)), (.p (.mov (.t (ixOf 17)))), none⟩]
abbrev c_onetime_number_plus_9 : XC := XC.seq c_onetime_number_plus_7 c_onetime_number_plus_8
abbrev c_onetime_number_plus_10 : XC := XC.seq c_onetime_number_plus_3 c_onetime_number_plus_9
abbrev c_onetime_number_plus_11 : XC := XC.seq c_onetime_number_plus_2 c_onetime_number_plus_10
abbrev c_onetime_number_plus_12 : XC := XC.loop c_onetime_number_plus_11
abbrev c_onetime_number_plus_13 : XC := XC.block 0 c_onetime_number_plus_12
abbrev c_onetime_number_plus_14 : XC := XC.seq c_onetime_number_plus_1 c_onetime_number_plus_13
abbrev c_onetime_number_plus_15 : XC := XC.region [⟨(some (ixOf 18)), (.r (.load (.many 5) (.t (ixOf 2)))), none⟩,
  ⟨none, (.e (.store 5 (.t (ixOf 4)) (.t (ixOf 18)))), none⟩]
abbrev c_onetime_number_plus_16 : XC := XC.seq c_onetime_number_plus_15 .ret
abbrev c_onetime_number_plus_17 : XC := XC.seq c_onetime_number_plus_14 c_onetime_number_plus_16
abbrev c_onetime_number_plus_18 : XC := XC.seq c_onetime_number_plus_0 c_onetime_number_plus_17
abbrev x_onetime_number_plus : XFn := ⟨[.cell (ixOf 4) (.many 5)], c_onetime_number_plus_18⟩
theorem mk_onetime_number_plus : mkFn tyT.get Tryz.f222 = some x_onetime_number_plus := by kernel_rfl
theorem fn_onetime_number_plus : E0.fn n_onetime_number_plus = some (.fn x_onetime_number_plus) := fn_of (by kernel_rfl) mk_onetime_number_plus
-- (escutcheon/onetime.number).carry
abbrev n_onetime_number_carry : Nat := 259
abbrev c_onetime_number_carry_0 : XC := XC.region [⟨(some (ixOf 1)), (.a (.box (.t (ixOf 0)))), none⟩,
  ⟨(some (ixOf 2)), (.a (.alloc 335 (List.replicate 5 (.int .u64 (.ofNat 0))))), none⟩]
abbrev c_onetime_number_carry_1 : XC := XC.region [⟨(some (ixOf 5)), (.p (.mov (.c (.int .i64 (.ofNat 0))))), none⟩]
abbrev c_onetime_number_carry_2 : XC := XC.region [⟨(some (ixOf 6)), (.p (.bin (.int .i64) .lss (.t (ixOf 5)) (.c (.int .i64 (.ofNat 3))))), none⟩]
abbrev c_onetime_number_carry_3 : XC := XC.cond (.t (ixOf 6)) .skip (.exit 0)
abbrev c_onetime_number_carry_4 : XC := XC.region [⟨(some (ixOf 3)), (.p (.mov (.c (.int .u64 (.ofNat 0))))), none⟩]
abbrev c_onetime_number_carry_5 : XC := XC.region [⟨(some (ixOf 7)), (.p (.mov (.c (.int .i64 (.ofNat 0))))), none⟩]
abbrev c_onetime_number_carry_6 : XC := XC.region [⟨(some (ixOf 8)), (.p (.bin (.int .i64) .lss (.t (ixOf 7)) (.c (.int .i64 (.ofNat 5))))), none⟩]
abbrev c_onetime_number_carry_7 : XC := XC.cond (.t (ixOf 8)) .skip (.exit 2)
abbrev c_onetime_number_carry_8 : XC := XC.region [⟨(some (ixOf 9)), (.p (.mov (.t (ixOf 7)))), none⟩,
  ⟨(some (ixOf 4)), (.p (.mov (.t (ixOf 9)))), none⟩]
abbrev c_onetime_number_carry_9 : XC := XC.region [⟨(some (ixOf 10)), (.p (.mov (.t (ixOf 4)))), none⟩,
  ⟨(some (ixOf 11)), (.p (.idxA 5 1 (.t (ixOf 1)) (.t (ixOf 10)))), none⟩,
  ⟨(some (ixOf 12)), (.r (.load .one (.t (ixOf 11)))), none⟩,
  ⟨(some (ixOf 13)), (.p (.mov (.t (ixOf 3)))), none⟩,
  ⟨(some (ixOf 14)), (.p (.bin (.int .u64) .add (.t (ixOf 12)) (.t (ixOf 13)))), none⟩,
  ⟨(some (ixOf 15)), (.p (.idxA 5 1 (.t (ixOf 1)) (.t (ixOf 10)))), none⟩,
  ⟨none, (.e (.store 1 (.t (ixOf 15)) (.t (ixOf 14)))), none⟩]
abbrev c_onetime_number_carry_10 : XC := XC.region [⟨(some (ixOf 16)), (.p (.mov (.t (ixOf 4)))), none⟩,
  ⟨(some (ixOf 17)), (.p (.idxA 5 1 (.t (ixOf 1)) (.t (ixOf 16)))), none⟩,
  ⟨(some (ixOf 18)), (.r (.load .one (.t (ixOf 17)))), none⟩,
  ⟨(some (ixOf 19)), (.p (.bin (.int .u64) .shr (.t (ixOf 18)) (.c (.int .u64 (.ofNat 26))))), none⟩,
  ⟨(some (ixOf 3)), (.p (.mov (.t (ixOf 19)))), none⟩]
abbrev c_onetime_number_carry_11 : XC := XC.region [⟨(some (ixOf 20)), (.p (.mov (.t (ixOf 4)))), none⟩,
  ⟨(some (ixOf 21)), (.p (.idxA 5 1 (.t (ixOf 1)) (.t (ixOf 20)))), none⟩,
  ⟨(some (ixOf 22)), (.r (.load .one (.t (ixOf 21)))), none⟩,
  ⟨(some (ixOf 23)), (.p (.bin (.int .u64) .and (.t (ixOf 22)) (.c (.int .u64 (.ofNat 67108863))))), none⟩,
  ⟨(some (ixOf 24)), (.p (.idxA 5 1 (.t (ixOf 1)) (.t (ixOf 20)))), none⟩,
  ⟨none, (.e (.store 1 (.t (ixOf 24)) (.t (ixOf 23)))), none⟩]
abbrev c_onetime_number_carry_12 : XC := XC.seq c_onetime_number_carry_10 c_onetime_number_carry_11
abbrev c_onetime_number_carry_13 : XC := XC.seq c_onetime_number_carry_9 c_onetime_number_carry_12
abbrev c_onetime_number_carry_14 : XC := XC.seq c_onetime_number_carry_8 c_onetime_number_carry_13
abbrev c_onetime_number_carry_15 : XC := XC.block 3 c_onetime_number_carry_14
abbrev c_onetime_number_carry_16 : XC := XC.region [⟨(some (ixOf 25)), (.p (.bin (.int .i64) .add (.t (ixOf 7)) (.c (.int .i64 (.ofNat 1))))), none⟩,
  ⟨(some (ixOf 7)), (.p (.mov (.t (ixOf 25)))), none⟩]
abbrev c_onetime_number_carry_17 : XC := XC.seq c_onetime_number_carry_15 c_onetime_number_carry_16
abbrev c_onetime_number_carry_18 : XC := XC.seq c_onetime_number_carry_7 c_onetime_number_carry_17
abbrev c_onetime_number_carry_19 : XC := XC.seq c_onetime_number_carry_6 c_onetime_number_carry_18
abbrev c_onetime_number_carry_20 : XC := XC.loop c_onetime_number_carry_19
abbrev c_onetime_number_carry_21 : XC := XC.block 2 c_onetime_number_carry_20
abbrev c_onetime_number_carry_22 : XC := XC.seq c_onetime_number_carry_5 c_onetime_number_carry_21
abbrev c_onetime_number_carry_23 : XC := XC.region [⟨(some (ixOf 26)), (.p (.idxA 5 1 (.t (ixOf 1)) (.c (.int .i64 (.ofNat 0))))), none⟩,
  ⟨(some (ixOf 27)), (.r (.load .one (.t (ixOf 26)))), none⟩,
  ⟨(some (ixOf 28)), (.p (.mov (.t (ixOf 3)))), none⟩,
  ⟨(some (ixOf 29)), (.p (.bin (.int .u64) .mul (.t (ixOf 28)) (.c (.int .u64 (.ofNat 5))))), none⟩,
  ⟨(some (ixOf 30)), (.p (.bin (.int .u64) .add (.t (ixOf 27)) (.t (ixOf 29)))), none⟩,
  ⟨(some (ixOf 31)), (.p (.idxA 5 1 (.t (ixOf 1)) (.c (.int .i64 (.ofNat 0))))), none⟩,
  ⟨none, (.e (.store 1 (.t (ixOf 31)) (.t (ixOf 30)))), none⟩]
abbrev c_onetime_number_carry_24 : XC := XC.seq c_onetime_number_carry_22 c_onetime_number_carry_23
abbrev c_onetime_number_carry_25 : XC := XC.seq c_onetime_number_carry_4 c_onetime_number_carry_24
abbrev c_onetime_number_carry_26 : XC := XC.block 1 c_onetime_number_carry_25
abbrev c_onetime_number_carry_27 : XC := XC.region [⟨(some (ixOf 32)), (.p (.bin (.int .i64) .add (.t (ixOf 5)) (.c (.int .i64 (.ofNat 1))))), none⟩,
  ⟨(some (ixOf 5)), (.p (.mov (.t (ixOf 32)))), none⟩]
abbrev c_onetime_number_carry_28 : XC := XC.seq c_onetime_number_carry_26 c_onetime_number_carry_27
abbrev c_onetime_number_carry_29 : XC := XC.seq c_onetime_number_carry_3 c_onetime_number_carry_28
abbrev c_onetime_number_carry_30 : XC := XC.seq c_onetime_number_carry_2 c_onetime_number_carry_29
abbrev c_onetime_number_carry_31 : XC := XC.loop c_onetime_number_carry_30
abbrev c_onetime_number_carry_32 : XC := XC.block 0 c_onetime_number_carry_31
abbrev c_onetime_number_carry_33 : XC := XC.seq c_onetime_number_carry_1 c_onetime_number_carry_32
abbrev c_onetime_number_carry_34 : XC := XC.region [⟨(some (ixOf 33)), (.r (.load (.many 5) (.t (ixOf 1)))), none⟩,
  ⟨none, (.e (.store 5 (.t (ixOf 2)) (.t (ixOf 33)))), none⟩]
abbrev c_onetime_number_carry_35 : XC := XC.seq c_onetime_number_carry_34 .ret
abbrev c_onetime_number_carry_36 : XC := XC.seq c_onetime_number_carry_33 c_onetime_number_carry_35
abbrev c_onetime_number_carry_37 : XC := XC.seq c_onetime_number_carry_0 c_onetime_number_carry_36
abbrev x_onetime_number_carry : XFn := ⟨[.cell (ixOf 2) (.many 5)], c_onetime_number_carry_37⟩
theorem mk_onetime_number_carry : mkFn tyT.get Tryz.f259 = some x_onetime_number_carry := by kernel_rfl
theorem fn_onetime_number_carry : E0.fn n_onetime_number_carry = some (.fn x_onetime_number_carry) := fn_of (by kernel_rfl) mk_onetime_number_carry
-- (escutcheon/onetime.number).times
abbrev n_onetime_number_times : Nat := 223
abbrev c_onetime_number_times_0 : XC := XC.region [⟨(some (ixOf 2)), (.a (.box (.t (ixOf 0)))), none⟩,
  ⟨(some (ixOf 3)), (.a (.box (.t (ixOf 1)))), none⟩,
  ⟨(some (ixOf 4)), (.a (.alloc 335 (List.replicate 5 (.int .u64 (.ofNat 0))))), none⟩]
abbrev c_onetime_number_times_1 : XC := XC.region [⟨(some (ixOf 5)), (.a (.alloc 335 (List.replicate 5 (.int .u64 (.ofNat 0))))), none⟩]
abbrev c_onetime_number_times_2 : XC := XC.region [⟨(some (ixOf 8)), (.p (.mov (.c (.int .i64 (.ofNat 0))))), none⟩]
abbrev c_onetime_number_times_3 : XC := XC.region [⟨(some (ixOf 9)), (.p (.bin (.int .i64) .lss (.t (ixOf 8)) (.c (.int .i64 (.ofNat 5))))), none⟩]
abbrev c_onetime_number_times_4 : XC := XC.cond (.t (ixOf 9)) .skip (.exit 0)
abbrev c_onetime_number_times_5 : XC := XC.region [⟨(some (ixOf 10)), (.p (.mov (.t (ixOf 8)))), none⟩,
  ⟨(some (ixOf 6)), (.p (.mov (.t (ixOf 10)))), none⟩]
abbrev c_onetime_number_times_6 : XC := XC.region [⟨(some (ixOf 11)), (.p (.mov (.c (.int .i64 (.ofNat 0))))), none⟩]
abbrev c_onetime_number_times_7 : XC := XC.region [⟨(some (ixOf 12)), (.p (.bin (.int .i64) .lss (.t (ixOf 11)) (.c (.int .i64 (.ofNat 5))))), none⟩]
abbrev c_onetime_number_times_8 : XC := XC.cond (.t (ixOf 12)) .skip (.exit 2)
abbrev c_onetime_number_times_9 : XC := XC.region [⟨(some (ixOf 13)), (.p (.mov (.t (ixOf 11)))), none⟩,
  ⟨(some (ixOf 7)), (.p (.mov (.t (ixOf 13)))), none⟩]
abbrev c_onetime_number_times_10 : XC := XC.region [⟨(some (ixOf 14)), (.p (.mov (.t (ixOf 7)))), none⟩,
  ⟨(some (ixOf 15)), (.p (.mov (.t (ixOf 6)))), none⟩,
  ⟨(some (ixOf 16)), (.p (.bin (.int .i64) .leq (.t (ixOf 14)) (.t (ixOf 15)))), none⟩]
abbrev c_onetime_number_times_11 : XC := XC.drawn [⟨0, ⟨(some (ixOf 17)), (.p (.mov (.t (ixOf 6)))), none⟩, 0, 0, []⟩,
  ⟨1, ⟨(some (ixOf 18)), (.p (.idxA 5 1 (.t (ixOf 5)) (.t (ixOf 17)))), none⟩, 0, 0, []⟩,
  ⟨2, ⟨(some (ixOf 19)), (.r (.load .one (.t (ixOf 18)))), none⟩, 0, 0, []⟩,
  ⟨3, ⟨(some (ixOf 20)), (.p (.mov (.t (ixOf 7)))), none⟩, 0, 0, []⟩,
  ⟨4, ⟨(some (ixOf 21)), (.p (.idxA 5 1 (.t (ixOf 2)) (.t (ixOf 20)))), none⟩, 0, 0, []⟩,
  ⟨5, ⟨(some (ixOf 22)), (.r (.load .one (.t (ixOf 21)))), none⟩, 0, 0, []⟩,
  ⟨6, ⟨(some (ixOf 23)), (.p (.mov (.t (ixOf 6)))), none⟩, 0, 0, []⟩,
  ⟨7, ⟨(some (ixOf 24)), (.p (.mov (.t (ixOf 7)))), none⟩, 0, 0, []⟩,
  ⟨8, ⟨(some (ixOf 25)), (.p (.bin (.int .i64) .sub (.t (ixOf 23)) (.t (ixOf 24)))), none⟩, 0, 0, []⟩,
  ⟨9, ⟨(some (ixOf 26)), (.p (.idxA 5 1 (.t (ixOf 3)) (.t (ixOf 25)))), none⟩, 0, 0, []⟩,
  ⟨10, ⟨(some (ixOf 27)), (.r (.load .one (.t (ixOf 26)))), none⟩, 0, 0, []⟩,
  ⟨11, ⟨(some (ixOf 28)), (.p (.bin (.int .u64) .mul (.t (ixOf 22)) (.t (ixOf 27)))), none⟩, 0, 0, []⟩,
  ⟨12, ⟨(some (ixOf 29)), (.p (.bin (.int .u64) .add (.t (ixOf 19)) (.t (ixOf 28)))), none⟩, 0, 0, []⟩,
  ⟨13, ⟨(some (ixOf 30)), (.p (.idxA 5 1 (.t (ixOf 5)) (.t (ixOf 17)))), none⟩, 0, 0, []⟩,
  ⟨14, ⟨none, (.e (.store 1 (.t (ixOf 30)) (.t (ixOf 29)))), none⟩, 0, 1, []⟩]
abbrev c_onetime_number_times_12 : XC := XC.drawn [⟨0, ⟨(some (ixOf 31)), (.p (.mov (.t (ixOf 6)))), none⟩, 0, 0, []⟩,
  ⟨1, ⟨(some (ixOf 32)), (.p (.idxA 5 1 (.t (ixOf 5)) (.t (ixOf 31)))), none⟩, 0, 0, []⟩,
  ⟨2, ⟨(some (ixOf 33)), (.r (.load .one (.t (ixOf 32)))), none⟩, 0, 0, []⟩,
  ⟨3, ⟨(some (ixOf 34)), (.p (.mov (.t (ixOf 7)))), none⟩, 0, 0, []⟩,
  ⟨4, ⟨(some (ixOf 35)), (.p (.idxA 5 1 (.t (ixOf 2)) (.t (ixOf 34)))), none⟩, 0, 0, []⟩,
  ⟨5, ⟨(some (ixOf 36)), (.r (.load .one (.t (ixOf 35)))), none⟩, 0, 0, []⟩,
  ⟨6, ⟨(some (ixOf 37)), (.p (.mov (.t (ixOf 6)))), none⟩, 0, 0, []⟩,
  ⟨7, ⟨(some (ixOf 38)), (.p (.bin (.int .i64) .add (.c (.int .i64 (.ofNat 5))) (.t (ixOf 37)))), none⟩, 0, 0, []⟩,
  ⟨8, ⟨(some (ixOf 39)), (.p (.mov (.t (ixOf 7)))), none⟩, 0, 0, []⟩,
  ⟨9, ⟨(some (ixOf 40)), (.p (.bin (.int .i64) .sub (.t (ixOf 38)) (.t (ixOf 39)))), none⟩, 0, 0, []⟩,
  ⟨10, ⟨(some (ixOf 41)), (.p (.idxA 5 1 (.t (ixOf 3)) (.t (ixOf 40)))), none⟩, 0, 0, []⟩,
  ⟨11, ⟨(some (ixOf 42)), (.r (.load .one (.t (ixOf 41)))), none⟩, 0, 0, []⟩,
  ⟨12, ⟨(some (ixOf 43)), (.p (.bin (.int .u64) .mul (.t (ixOf 36)) (.t (ixOf 42)))), none⟩, 0, 0, []⟩,
  ⟨13, ⟨(some (ixOf 44)), (.p (.bin (.int .u64) .mul (.t (ixOf 43)) (.c (.int .u64 (.ofNat 5))))), none⟩, 0, 0, []⟩,
  ⟨14, ⟨(some (ixOf 45)), (.p (.bin (.int .u64) .add (.t (ixOf 33)) (.t (ixOf 44)))), none⟩, 0, 0, []⟩,
  ⟨15, ⟨(some (ixOf 46)), (.p (.idxA 5 1 (.t (ixOf 5)) (.t (ixOf 31)))), none⟩, 0, 0, []⟩,
  ⟨16, ⟨none, (.e (.store 1 (.t (ixOf 46)) (.t (ixOf 45)))), none⟩, 0, 1, []⟩]
abbrev c_onetime_number_times_13 : XC := XC.cond (.t (ixOf 16)) c_onetime_number_times_11 c_onetime_number_times_12
abbrev c_onetime_number_times_14 : XC := XC.seq c_onetime_number_times_10 c_onetime_number_times_13
abbrev c_onetime_number_times_15 : XC := XC.seq c_onetime_number_times_9 c_onetime_number_times_14
abbrev c_onetime_number_times_16 : XC := XC.block 3 c_onetime_number_times_15
abbrev c_onetime_number_times_17 : XC := XC.region [⟨(some (ixOf 47)), (.p (.bin (.int .i64) .add (.t (ixOf 11)) (.c (.int .i64 (.ofNat 1))))), none⟩,
  ⟨(some (ixOf 11)), (.p (.mov (.t (ixOf 47)))), none⟩]
abbrev c_onetime_number_times_18 : XC := XC.seq c_onetime_number_times_16 c_onetime_number_times_17
abbrev c_onetime_number_times_19 : XC := XC.seq c_onetime_number_times_8 c_onetime_number_times_18
abbrev c_onetime_number_times_20 : XC := XC.seq c_onetime_number_times_7 c_onetime_number_times_19
abbrev c_onetime_number_times_21 : XC := XC.loop c_onetime_number_times_20
abbrev c_onetime_number_times_22 : XC := XC.block 2 c_onetime_number_times_21
abbrev c_onetime_number_times_23 : XC := XC.seq c_onetime_number_times_6 c_onetime_number_times_22
abbrev c_onetime_number_times_24 : XC := XC.seq c_onetime_number_times_5 c_onetime_number_times_23
abbrev c_onetime_number_times_25 : XC := XC.block 1 c_onetime_number_times_24
abbrev c_onetime_number_times_26 : XC := XC.region [⟨(some (ixOf 48)), (.p (.bin (.int .i64) .add (.t (ixOf 8)) (.c (.int .i64 (.ofNat 1))))), none⟩,
  ⟨(some (ixOf 8)), (.p (.mov (.t (ixOf 48)))), none⟩]
abbrev c_onetime_number_times_27 : XC := XC.seq c_onetime_number_times_25 c_onetime_number_times_26
abbrev c_onetime_number_times_28 : XC := XC.seq c_onetime_number_times_4 c_onetime_number_times_27
abbrev c_onetime_number_times_29 : XC := XC.seq c_onetime_number_times_3 c_onetime_number_times_28
abbrev c_onetime_number_times_30 : XC := XC.loop c_onetime_number_times_29
abbrev c_onetime_number_times_31 : XC := XC.block 0 c_onetime_number_times_30
abbrev c_onetime_number_times_32 : XC := XC.seq c_onetime_number_times_2 c_onetime_number_times_31
abbrev c_onetime_number_times_33 : XC := XC.region [⟨(some (ixOf 49)), (.r (.load (.many 5) (.t (ixOf 5)))), none⟩,
  ⟨(some (ixOf 50)), (.e (.call 259 [(.t (ixOf 49))])), none⟩,
  ⟨none, (.e (.store 5 (.t (ixOf 4)) (.t (ixOf 50)))), none⟩]
abbrev c_onetime_number_times_34 : XC := XC.seq c_onetime_number_times_33 .ret
abbrev c_onetime_number_times_35 : XC := XC.seq c_onetime_number_times_32 c_onetime_number_times_34
abbrev c_onetime_number_times_36 : XC := XC.seq c_onetime_number_times_1 c_onetime_number_times_35
abbrev c_onetime_number_times_37 : XC := XC.seq c_onetime_number_times_0 c_onetime_number_times_36
abbrev x_onetime_number_times : XFn := ⟨[.cell (ixOf 4) (.many 5)], c_onetime_number_times_37⟩
theorem mk_onetime_number_times : mkFn tyT.get Tryz.f223 = some x_onetime_number_times := by kernel_rfl
theorem fn_onetime_number_times : E0.fn n_onetime_number_times = some (.fn x_onetime_number_times) := fn_of (by kernel_rfl) mk_onetime_number_times
-- (escutcheon/onetime.number).whole
abbrev n_onetime_number_whole : Nat := 224
abbrev c_onetime_number_whole_0 : XC := XC.region [⟨(some (ixOf 1)), (.a (.box (.t (ixOf 0)))), none⟩,
  ⟨(some (ixOf 2)), (.a (.alloc 335 (List.replicate 5 (.int .u64 (.ofNat 0))))), none⟩]
abbrev c_onetime_number_whole_1 : XC := XC.region [⟨(some (ixOf 6)), (.r (.load (.many 5) (.t (ixOf 1)))), none⟩,
  ⟨(some (ixOf 7)), (.e (.call 259 [(.t (ixOf 6))])), none⟩,
  ⟨none, (.e (.store 5 (.t (ixOf 1)) (.t (ixOf 7)))), none⟩]
abbrev c_onetime_number_whole_2 : XC := XC.region [⟨(some (ixOf 8)), (.r (.load (.many 5) (.t (ixOf 1)))), none⟩,
  ⟨(some (ixOf 3)), (.a (.alloc 335 (List.replicate 5 (.int .u64 (.ofNat 0))))), none⟩,
  ⟨none, (.e (.store 5 (.t (ixOf 3)) (.t (ixOf 8)))), none⟩,
  ⟨(some (ixOf 4)), (.p (.mov (.c (.int .u64 (.ofNat 5))))), none⟩]
abbrev c_onetime_number_whole_3 : XC := XC.region [⟨(some (ixOf 9)), (.p (.mov (.c (.int .i64 (.ofNat 0))))), none⟩]
abbrev c_onetime_number_whole_4 : XC := XC.region [⟨(some (ixOf 10)), (.p (.bin (.int .i64) .lss (.t (ixOf 9)) (.c (.int .i64 (.ofNat 5))))), none⟩]
abbrev c_onetime_number_whole_5 : XC := XC.cond (.t (ixOf 10)) .skip (.exit 0)
abbrev c_onetime_number_whole_6 : XC := XC.region [⟨(some (ixOf 11)), (.p (.mov (.t (ixOf 9)))), none⟩,
  ⟨(some (ixOf 5)), (.p (.mov (.t (ixOf 11)))), none⟩]
abbrev c_onetime_number_whole_7 : XC := XC.region [⟨(some (ixOf 12)), (.p (.mov (.t (ixOf 5)))), none⟩,
  ⟨(some (ixOf 13)), (.p (.idxA 5 1 (.t (ixOf 3)) (.t (ixOf 12)))), none⟩,
  ⟨(some (ixOf 14)), (.r (.load .one (.t (ixOf 13)))), none⟩,
  ⟨(some (ixOf 15)), (.p (.mov (.t (ixOf 4)))), none⟩,
  ⟨(some (ixOf 16)), (.p (.bin (.int .u64) .add (.t (ixOf 14)) (.t (ixOf 15)))), none⟩,
  ⟨(some (ixOf 17)), (.p (.idxA 5 1 (.t (ixOf 3)) (.t (ixOf 12)))), none⟩,
  ⟨none, (.e (.store 1 (.t (ixOf 17)) (.t (ixOf 16)))), none⟩]
abbrev c_onetime_number_whole_8 : XC := XC.region [⟨(some (ixOf 18)), (.p (.mov (.t (ixOf 5)))), none⟩,
  ⟨(some (ixOf 19)), (.p (.idxA 5 1 (.t (ixOf 3)) (.t (ixOf 18)))), none⟩,
  ⟨(some (ixOf 20)), (.r (.load .one (.t (ixOf 19)))), none⟩,
  ⟨(some (ixOf 21)), (.p (.bin (.int .u64) .shr (.t (ixOf 20)) (.c (.int .u64 (.ofNat 26))))), none⟩,
  ⟨(some (ixOf 4)), (.p (.mov (.t (ixOf 21)))), none⟩]
abbrev c_onetime_number_whole_9 : XC := XC.region [⟨(some (ixOf 22)), (.p (.mov (.t (ixOf 5)))), none⟩,
  ⟨(some (ixOf 23)), (.p (.idxA 5 1 (.t (ixOf 3)) (.t (ixOf 22)))), none⟩,
  ⟨(some (ixOf 24)), (.r (.load .one (.t (ixOf 23)))), none⟩,
  ⟨(some (ixOf 25)), (.p (.bin (.int .u64) .and (.t (ixOf 24)) (.c (.int .u64 (.ofNat 67108863))))), none⟩,
  ⟨(some (ixOf 26)), (.p (.idxA 5 1 (.t (ixOf 3)) (.t (ixOf 22)))), none⟩,
  ⟨none, (.e (.store 1 (.t (ixOf 26)) (.t (ixOf 25)))), none⟩]
abbrev c_onetime_number_whole_10 : XC := XC.seq c_onetime_number_whole_8 c_onetime_number_whole_9
abbrev c_onetime_number_whole_11 : XC := XC.seq c_onetime_number_whole_7 c_onetime_number_whole_10
abbrev c_onetime_number_whole_12 : XC := XC.seq c_onetime_number_whole_6 c_onetime_number_whole_11
abbrev c_onetime_number_whole_13 : XC := XC.block 1 c_onetime_number_whole_12
abbrev c_onetime_number_whole_14 : XC := XC.region [⟨(some (ixOf 27)), (.p (.bin (.int .i64) .add (.t (ixOf 9)) (.c (.int .i64 (.ofNat 1))))), none⟩,
  ⟨(some (ixOf 9)), (.p (.mov (.t (ixOf 27)))), none⟩]
abbrev c_onetime_number_whole_15 : XC := XC.seq c_onetime_number_whole_13 c_onetime_number_whole_14
abbrev c_onetime_number_whole_16 : XC := XC.seq c_onetime_number_whole_5 c_onetime_number_whole_15
abbrev c_onetime_number_whole_17 : XC := XC.seq c_onetime_number_whole_4 c_onetime_number_whole_16
abbrev c_onetime_number_whole_18 : XC := XC.loop c_onetime_number_whole_17
abbrev c_onetime_number_whole_19 : XC := XC.block 0 c_onetime_number_whole_18
abbrev c_onetime_number_whole_20 : XC := XC.seq c_onetime_number_whole_3 c_onetime_number_whole_19
abbrev c_onetime_number_whole_21 : XC := XC.region [⟨(some (ixOf 28)), (.p (.mov (.t (ixOf 4)))), none⟩,
  ⟨(some (ixOf 29)), (.p (.bin (.int .u64) .gtr (.t (ixOf 28)) (.c (.int .u64 (.ofNat 0))))), none⟩]
abbrev c_onetime_number_whole_22 : XC := XC.region [⟨(some (ixOf 30)), (.r (.load (.many 5) (.t (ixOf 3)))), none⟩,
  ⟨none, (.e (.store 5 (.t (ixOf 2)) (.t (ixOf 30)))), none⟩]
abbrev c_onetime_number_whole_23 : XC := XC.seq c_onetime_number_whole_22 .ret
abbrev c_onetime_number_whole_24 : XC := XC.cond (.t (ixOf 29)) c_onetime_number_whole_23 .skip
abbrev c_onetime_number_whole_25 : XC := XC.seq c_onetime_number_whole_21 c_onetime_number_whole_24
abbrev c_onetime_number_whole_26 : XC := XC.region [⟨(some (ixOf 31)), (.r (.load (.many 5) (.t (ixOf 1)))), none⟩,
  ⟨none, (.e (.store 5 (.t (ixOf 2)) (.t (ixOf 31)))), none⟩]
abbrev c_onetime_number_whole_27 : XC := XC.seq c_onetime_number_whole_26 .ret
abbrev c_onetime_number_whole_28 : XC := XC.seq c_onetime_number_whole_25 c_onetime_number_whole_27
abbrev c_onetime_number_whole_29 : XC := XC.seq c_onetime_number_whole_20 c_onetime_number_whole_28
abbrev c_onetime_number_whole_30 : XC := XC.seq c_onetime_number_whole_2 c_onetime_number_whole_29
abbrev c_onetime_number_whole_31 : XC := XC.seq c_onetime_number_whole_1 c_onetime_number_whole_30
abbrev c_onetime_number_whole_32 : XC := XC.seq c_onetime_number_whole_0 c_onetime_number_whole_31
abbrev x_onetime_number_whole : XFn := ⟨[.cell (ixOf 2) (.many 5)], c_onetime_number_whole_32⟩
theorem mk_onetime_number_whole : mkFn tyT.get Tryz.f224 = some x_onetime_number_whole := by kernel_rfl
theorem fn_onetime_number_whole : E0.fn n_onetime_number_whole = some (.fn x_onetime_number_whole) := fn_of (by kernel_rfl) mk_onetime_number_whole
-- escutcheon/onetime.Tag
abbrev n_onetime_Tag : Nat := 166
abbrev c_onetime_Tag_0 : XC := XC.region [⟨(some (ixOf 4)), (.p (.mov (.c (.str [])))), none⟩,
  ⟨(some (ixOf 5)), (.p (.mov (.c (.bool false)))), none⟩]
abbrev c_onetime_Tag_1 : XC := XC.region [⟨(some (ixOf 18)), (.p (.mov (.t (ixOf 0)))), none⟩,
  ⟨(some (ixOf 19)), (.e (.call 220 [(.t (ixOf 18))])), none⟩,
  ⟨(some (ixOf 17)), (.p (.mov (.t (ixOf 19)))), none⟩,
  ⟨(some (ixOf 20)), (.p (.extract (.t (ixOf 17)) 0)), none⟩,
  ⟨(some (ixOf 21)), (.p (.extract (.t (ixOf 17)) 1)), none⟩,
  ⟨(some (ixOf 6)), (.p (.mov (.t (ixOf 20)))), none⟩,
  ⟨(some (ixOf 7)), (.p (.mov (.t (ixOf 21)))), none⟩]
abbrev c_onetime_Tag_2 : XC := XC.region [⟨(some (ixOf 22)), (.p (.mov (.t (ixOf 7)))), none⟩,
  ⟨(some (ixOf 23)), (.p (.un .not (.t (ixOf 22)))), none⟩]
abbrev c_onetime_Tag_3 : XC := XC.region [⟨(some (ixOf 4)), (.p (.mov (.c (.str [])))), none⟩,
  ⟨(some (ixOf 5)), (.p (.mov (.c (.bool false)))), none⟩]
abbrev c_onetime_Tag_4 : XC := XC.seq c_onetime_Tag_3 .ret
abbrev c_onetime_Tag_5 : XC := XC.cond (.t (ixOf 23)) c_onetime_Tag_4 .skip
abbrev c_onetime_Tag_6 : XC := XC.seq c_onetime_Tag_2 c_onetime_Tag_5
abbrev c_onetime_Tag_7 : XC := XC.drawn [⟨0, ⟨(some (ixOf 24)), (.p (.mov (.t (ixOf 6)))), none⟩, 0, 0, []⟩,
  ⟨1, ⟨(some (ixOf 25)), (.p (.sliceS (.t (ixOf 24)) none (some (.c (.int .i64 (.ofNat 8)))))), none⟩, 0, 0, []⟩,
  ⟨2, ⟨(some (ixOf 26)), (.e (.call 216 [(.t (ixOf 25))])), none⟩, 0, 1, []⟩,
  ⟨3, ⟨(some (ixOf 27)), (.p (.mov (.t (ixOf 6)))), none⟩, 0, 1, []⟩,
  ⟨4, ⟨(some (ixOf 28)), (.p (.sliceS (.t (ixOf 27)) (some (.c (.int .i64 (.ofNat 8)))) none)), none⟩, 0, 1, []⟩,
  ⟨5, ⟨(some (ixOf 29)), (.e (.call 216 [(.t (ixOf 28))])), none⟩, 1, 2, []⟩,
  ⟨6, ⟨(some (ixOf 30)), (.e (.call 221 [(.t (ixOf 26)), (.t (ixOf 29)), (.c (.int .u64 (.ofNat 0)))])), none⟩, 2, 3, []⟩,
  ⟨7, ⟨(some (ixOf 8)), (.a (.alloc 335 (List.replicate 5 (.int .u64 (.ofNat 0))))), none⟩, 0, 3, []⟩,
  ⟨8, ⟨none, (.e (.store 5 (.t (ixOf 8)) (.t (ixOf 30)))), none⟩, 3, 4, [7]⟩]
abbrev c_onetime_Tag_8 : XC := XC.region [⟨(some (ixOf 9)), (.a (.alloc 335 (List.replicate 5 (.int .u64 (.ofNat 0))))), none⟩]
abbrev c_onetime_Tag_9 : XC := XC.region [⟨(some (ixOf 31)), (.p (.mov (.t (ixOf 1)))), none⟩,
  ⟨(some (ixOf 32)), (.r (.len .str (.t (ixOf 31)))), none⟩,
  ⟨(some (ixOf 33)), (.p (.bin (.int .i64) .gtr (.t (ixOf 32)) (.c (.int .i64 (.ofNat 0))))), none⟩]
abbrev c_onetime_Tag_10 : XC := XC.cond (.t (ixOf 33)) .skip (.exit 0)
abbrev c_onetime_Tag_11 : XC := XC.seq c_onetime_Tag_9 c_onetime_Tag_10
abbrev c_onetime_Tag_12 : XC := XC.region [⟨(some (ixOf 34)), (.p (.mov (.t (ixOf 1)))), none⟩,
  ⟨(some (ixOf 35)), (.r (.len .str (.t (ixOf 34)))), none⟩,
  ⟨(some (ixOf 36)), (.p (.min [(.t (ixOf 35)), (.c (.int .i64 (.ofNat 16)))])), none⟩,
  ⟨(some (ixOf 10)), (.p (.mov (.t (ixOf 36)))), none⟩]
abbrev c_onetime_Tag_13 : XC := XC.region [⟨(some (ixOf 37)), (.a (.makeSlice 1 [(.int .u8 (.ofNat 0))] 1 (.c (.int .i64 (.ofNat 17))) (.c (.int .i64 (.ofNat 17))))), none⟩,
  ⟨(some (ixOf 11)), (.p (.mov (.t (ixOf 37)))), none⟩]
abbrev c_onetime_Tag_14 : XC := XC.region [⟨(some (ixOf 38)), (.p (.mov (.t (ixOf 11)))), none⟩,
  ⟨(some (ixOf 39)), (.p (.mov (.t (ixOf 1)))), none⟩,
  ⟨(some (ixOf 40)), (.p (.mov (.t (ixOf 10)))), none⟩,
  ⟨(some (ixOf 41)), (.p (.sliceS (.t (ixOf 39)) none (some (.t (ixOf 40))))), none⟩,
  ⟨(some (ixOf 42)), (.e (.copy 1 (.t (ixOf 38)) (.t (ixOf 41)))), none⟩]
abbrev c_onetime_Tag_15 : XC := XC.region [⟨(some (ixOf 43)), (.p (.mov (.t (ixOf 11)))), none⟩,
  ⟨(some (ixOf 44)), (.p (.mov (.t (ixOf 10)))), none⟩,
  ⟨(some (ixOf 45)), (.p (.idxL 1 (.t (ixOf 43)) (.t (ixOf 44)))), none⟩,
  ⟨none, (.e (.store 1 (.t (ixOf 45)) (.c (.int .u8 (.ofNat 1))))), none⟩]
abbrev c_onetime_Tag_16 : XC := XC.region [⟨(some (ixOf 46)), (.p (.mov (.t (ixOf 11)))), none⟩,
  ⟨(some (ixOf 47)), (.r (.convBS (.t (ixOf 46)))), none⟩,
  ⟨(some (ixOf 12)), (.p (.mov (.t (ixOf 47)))), none⟩]
abbrev c_onetime_Tag_17 : XC := XC.drawn [⟨1, ⟨(some (ixOf 49)), (.p (.mov (.t (ixOf 12)))), none⟩, 0, 0, []⟩,
  ⟨2, ⟨(some (ixOf 50)), (.p (.sliceS (.t (ixOf 49)) none (some (.c (.int .i64 (.ofNat 8)))))), none⟩, 0, 0, []⟩,
  ⟨3, ⟨(some (ixOf 51)), (.e (.call 216 [(.t (ixOf 50))])), none⟩, 0, 1, []⟩,
  ⟨4, ⟨(some (ixOf 52)), (.p (.mov (.t (ixOf 12)))), none⟩, 0, 1, []⟩,
  ⟨5, ⟨(some (ixOf 53)), (.p (.sliceS (.t (ixOf 52)) (some (.c (.int .i64 (.ofNat 8)))) (some (.c (.int .i64 (.ofNat 16)))))), none⟩, 0, 1, []⟩,
  ⟨6, ⟨(some (ixOf 54)), (.e (.call 216 [(.t (ixOf 53))])), none⟩, 1, 2, []⟩,
  ⟨7, ⟨(some (ixOf 55)), (.p (.mov (.t (ixOf 12)))), none⟩, 0, 2, []⟩,
  ⟨8, ⟨(some (ixOf 56)), (.p (.ixStr (.t (ixOf 55)) (.c (.int .i64 (.ofNat 16))))), none⟩, 0, 2, []⟩,
  ⟨9, ⟨(some (ixOf 57)), (.p (.convI .u64 (.t (ixOf 56)))), none⟩, 0, 2, []⟩,
  ⟨10, ⟨(some (ixOf 58)), (.e (.call 221 [(.t (ixOf 51)), (.t (ixOf 54)), (.t (ixOf 57))])), none⟩, 2, 3, []⟩,
  ⟨0, ⟨(some (ixOf 48)), (.r (.load (.many 5) (.t (ixOf 9)))), none⟩, 0, 3, []⟩,
  ⟨11, ⟨(some (ixOf 59)), (.e (.call 222 [(.t (ixOf 48)), (.t (ixOf 58))])), none⟩, 3, 4, []⟩,
  ⟨12, ⟨(some (ixOf 60)), (.r (.load (.many 5) (.t (ixOf 8)))), none⟩, 0, 4, []⟩,
  ⟨13, ⟨(some (ixOf 61)), (.e (.call 223 [(.t (ixOf 59)), (.t (ixOf 60))])), none⟩, 4, 5, []⟩,
  ⟨14, ⟨none, (.e (.store 5 (.t (ixOf 9)) (.t (ixOf 61)))), none⟩, 5, 6, []⟩]
abbrev c_onetime_Tag_18 : XC := XC.region [⟨(some (ixOf 62)), (.p (.mov (.t (ixOf 1)))), none⟩,
  ⟨(some (ixOf 63)), (.p (.mov (.t (ixOf 10)))), none⟩,
  ⟨(some (ixOf 64)), (.p (.sliceS (.t (ixOf 62)) (some (.t (ixOf 63))) none)), none⟩,
  ⟨(some (ixOf 1)), (.p (.mov (.t (ixOf 64)))), none⟩]
abbrev c_onetime_Tag_19 : XC := XC.seq c_onetime_Tag_17 c_onetime_Tag_18
abbrev c_onetime_Tag_20 : XC := XC.seq c_onetime_Tag_16 c_onetime_Tag_19
abbrev c_onetime_Tag_21 : XC := XC.seq c_onetime_Tag_15 c_onetime_Tag_20
abbrev c_onetime_Tag_22 : XC := XC.seq c_onetime_Tag_14 c_onetime_Tag_21
abbrev c_onetime_Tag_23 : XC := XC.seq c_onetime_Tag_13 c_onetime_Tag_22
abbrev c_onetime_Tag_24 : XC := XC.seq c_onetime_Tag_12 c_onetime_Tag_23
abbrev c_onetime_Tag_25 : XC := XC.block 1 c_onetime_Tag_24
abbrev c_onetime_Tag_26 : XC := XC.seq c_onetime_Tag_11 c_onetime_Tag_25
abbrev c_onetime_Tag_27 : XC := XC.loop c_onetime_Tag_26
abbrev c_onetime_Tag_28 : XC := XC.block 0 c_onetime_Tag_27
abbrev c_onetime_Tag_29 : XC := XC.region [⟨(some (ixOf 65)), (.r (.load (.many 5) (.t (ixOf 9)))), none⟩,
  ⟨(some (ixOf 66)), (.e (.call 224 [(.t (ixOf 65))])), none⟩,
  ⟨none, (.e (.store 5 (.t (ixOf 9)) (.t (ixOf 66)))), none⟩]
abbrev c_onetime_Tag_30 : XC := XC.drawn [⟨10, ⟨(some (ixOf 78)), (.p (.mov (.t (ixOf 0)))), none⟩, 0, 0, []⟩,
  ⟨11, ⟨(some (ixOf 79)), (.p (.sliceS (.t (ixOf 78)) (some (.c (.int .i64 (.ofNat 16)))) (some (.c (.int .i64 (.ofNat 24)))))), none⟩, 0, 0, []⟩,
  ⟨12, ⟨(some (ixOf 80)), (.e (.call 216 [(.t (ixOf 79))])), none⟩, 0, 1, []⟩,
  ⟨0, ⟨(some (ixOf 68)), (.p (.idxA 5 1 (.t (ixOf 9)) (.c (.int .i64 (.ofNat 0))))), none⟩, 0, 1, []⟩,
  ⟨1, ⟨(some (ixOf 69)), (.r (.load .one (.t (ixOf 68)))), none⟩, 0, 1, []⟩,
  ⟨2, ⟨(some (ixOf 70)), (.p (.idxA 5 1 (.t (ixOf 9)) (.c (.int .i64 (.ofNat 1))))), none⟩, 0, 1, []⟩,
  ⟨3, ⟨(some (ixOf 71)), (.r (.load .one (.t (ixOf 70)))), none⟩, 0, 1, []⟩,
  ⟨4, ⟨(some (ixOf 72)), (.p (.bin (.int .u64) .shl (.t (ixOf 71)) (.c (.int .u64 (.ofNat 26))))), none⟩, 0, 1, []⟩,
  ⟨5, ⟨(some (ixOf 73)), (.p (.bin (.int .u64) .or (.t (ixOf 69)) (.t (ixOf 72)))), none⟩, 0, 1, []⟩,
  ⟨6, ⟨(some (ixOf 74)), (.p (.idxA 5 1 (.t (ixOf 9)) (.c (.int .i64 (.ofNat 2))))), none⟩, 0, 1, []⟩,
  ⟨7, ⟨(some (ixOf 75)), (.r (.load .one (.t (ixOf 74)))), none⟩, 0, 1, []⟩,
  ⟨8, ⟨(some (ixOf 76)), (.p (.bin (.int .u64) .shl (.t (ixOf 75)) (.c (.int .u64 (.ofNat 52))))), none⟩, 0, 1, []⟩,
  ⟨9, ⟨(some (ixOf 77)), (.p (.bin (.int .u64) .or (.t (ixOf 73)) (.t (ixOf 76)))), none⟩, 0, 1, []⟩,
  ⟨13, ⟨(some (ixOf 81)), (.e (.call 225 [(.t (ixOf 77)), (.t (ixOf 80)), (.c (.int .u64 (.ofNat 0)))])), none⟩, 1, 2, []⟩,
  ⟨14, ⟨(some (ixOf 67)), (.p (.mov (.t (ixOf 81)))), none⟩, 2, 2, []⟩,
  ⟨15, ⟨(some (ixOf 82)), (.p (.extract (.t (ixOf 67)) 0)), none⟩, 2, 2, []⟩,
  ⟨16, ⟨(some (ixOf 83)), (.p (.extract (.t (ixOf 67)) 1)), none⟩, 2, 2, []⟩,
  ⟨17, ⟨(some (ixOf 13)), (.p (.mov (.t (ixOf 82)))), none⟩, 2, 2, []⟩,
  ⟨18, ⟨(some (ixOf 14)), (.p (.mov (.t (ixOf 83)))), none⟩, 2, 2, []⟩]
abbrev c_onetime_Tag_31 : XC := XC.drawn [⟨11, ⟨(some (ixOf 96)), (.p (.mov (.t (ixOf 0)))), none⟩, 0, 0, []⟩,
  ⟨12, ⟨(some (ixOf 97)), (.p (.sliceS (.t (ixOf 96)) (some (.c (.int .i64 (.ofNat 24)))) none)), none⟩, 0, 0, []⟩,
  ⟨13, ⟨(some (ixOf 98)), (.e (.call 216 [(.t (ixOf 97))])), none⟩, 0, 1, []⟩,
  ⟨0, ⟨(some (ixOf 85)), (.p (.idxA 5 1 (.t (ixOf 9)) (.c (.int .i64 (.ofNat 2))))), none⟩, 0, 1, []⟩,
  ⟨1, ⟨(some (ixOf 86)), (.r (.load .one (.t (ixOf 85)))), none⟩, 0, 1, []⟩,
  ⟨2, ⟨(some (ixOf 87)), (.p (.bin (.int .u64) .shr (.t (ixOf 86)) (.c (.int .u64 (.ofNat 12))))), none⟩, 0, 1, []⟩,
  ⟨3, ⟨(some (ixOf 88)), (.p (.idxA 5 1 (.t (ixOf 9)) (.c (.int .i64 (.ofNat 3))))), none⟩, 0, 1, []⟩,
  ⟨4, ⟨(some (ixOf 89)), (.r (.load .one (.t (ixOf 88)))), none⟩, 0, 1, []⟩,
  ⟨5, ⟨(some (ixOf 90)), (.p (.bin (.int .u64) .shl (.t (ixOf 89)) (.c (.int .u64 (.ofNat 14))))), none⟩, 0, 1, []⟩,
  ⟨6, ⟨(some (ixOf 91)), (.p (.bin (.int .u64) .or (.t (ixOf 87)) (.t (ixOf 90)))), none⟩, 0, 1, []⟩,
  ⟨7, ⟨(some (ixOf 92)), (.p (.idxA 5 1 (.t (ixOf 9)) (.c (.int .i64 (.ofNat 4))))), none⟩, 0, 1, []⟩,
  ⟨8, ⟨(some (ixOf 93)), (.r (.load .one (.t (ixOf 92)))), none⟩, 0, 1, []⟩,
  ⟨9, ⟨(some (ixOf 94)), (.p (.bin (.int .u64) .shl (.t (ixOf 93)) (.c (.int .u64 (.ofNat 40))))), none⟩, 0, 1, []⟩,
  ⟨10, ⟨(some (ixOf 95)), (.p (.bin (.int .u64) .or (.t (ixOf 91)) (.t (ixOf 94)))), none⟩, 0, 1, []⟩,
  ⟨14, ⟨(some (ixOf 99)), (.p (.mov (.t (ixOf 14)))), none⟩, 0, 1, []⟩,
  ⟨15, ⟨(some (ixOf 100)), (.e (.call 225 [(.t (ixOf 95)), (.t (ixOf 98)), (.t (ixOf 99))])), none⟩, 1, 2, []⟩,
  ⟨16, ⟨(some (ixOf 84)), (.p (.mov (.t (ixOf 100)))), none⟩, 2, 2, []⟩,
  ⟨17, ⟨(some (ixOf 101)), (.p (.extract (.t (ixOf 84)) 0)), none⟩, 2, 2, []⟩,
  ⟨18, ⟨(some (ixOf 102)), (.p (.extract (.t (ixOf 84)) 1)), none⟩, 2, 2, []⟩,
  ⟨19, ⟨(some (ixOf 15)), (.p (.mov (.t (ixOf 101)))), none⟩, 2, 2, []⟩,
  ⟨20, ⟨(some (ixOf 16)), (.p (.mov (.t (ixOf 102)))), none⟩, 2, 2, []⟩]
abbrev c_onetime_Tag_32 : XC := XC.region [⟨(some (ixOf 103)), (.p (.mov (.t (ixOf 13)))), none⟩,
  ⟨(some (ixOf 104)), (.e (.call 165 [(.t (ixOf 103)), (.c (.int .i64 (.ofNat 8)))])), none⟩,
  ⟨(some (ixOf 105)), (.p (.mov (.t (ixOf 15)))), none⟩,
  ⟨(some (ixOf 106)), (.e (.call 165 [(.t (ixOf 105)), (.c (.int .i64 (.ofNat 8)))])), none⟩,
  ⟨(some (ixOf 107)), (.p (.bin .str .add (.t (ixOf 104)) (.t (ixOf 106)))), none⟩,
  ⟨(some (ixOf 4)), (.p (.mov (.t (ixOf 107)))), none⟩,
  ⟨(some (ixOf 5)), (.p (.mov (.c (.bool true)))), none⟩]
abbrev c_onetime_Tag_33 : XC := XC.seq c_onetime_Tag_32 .ret
abbrev c_onetime_Tag_34 : XC := XC.seq c_onetime_Tag_31 c_onetime_Tag_33
abbrev c_onetime_Tag_35 : XC := XC.seq c_onetime_Tag_30 c_onetime_Tag_34
abbrev c_onetime_Tag_36 : XC := XC.seq c_onetime_Tag_29 c_onetime_Tag_35
abbrev c_onetime_Tag_37 : XC := XC.seq c_onetime_Tag_28 c_onetime_Tag_36
abbrev c_onetime_Tag_38 : XC := XC.seq c_onetime_Tag_8 c_onetime_Tag_37
abbrev c_onetime_Tag_39 : XC := XC.seq c_onetime_Tag_7 c_onetime_Tag_38
abbrev c_onetime_Tag_40 : XC := XC.seq c_onetime_Tag_6 c_onetime_Tag_39
abbrev c_onetime_Tag_41 : XC := XC.seq c_onetime_Tag_1 c_onetime_Tag_40
abbrev c_onetime_Tag_42 : XC := XC.seq c_onetime_Tag_0 c_onetime_Tag_41
abbrev x_onetime_Tag : XFn := ⟨[.tmp (ixOf 4), .tmp (ixOf 5)], c_onetime_Tag_42⟩
theorem mk_onetime_Tag : mkFn tyT.get Tryz.f166 = some x_onetime_Tag := by kernel_rfl
theorem fn_onetime_Tag : E0.fn n_onetime_Tag = some (.fn x_onetime_Tag) := fn_of (by kernel_rfl) mk_onetime_Tag
end Go.Proofs.XCode
end
