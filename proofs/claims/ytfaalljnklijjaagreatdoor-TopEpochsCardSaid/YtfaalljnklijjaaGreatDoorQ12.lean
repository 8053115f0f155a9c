/- What this text proves serves the claim of its last text: a part of a verified executor, its walks and its runs (S24, O3, O4). -/
import Derived.Test.YtfaalljnklijjaaGreatDoorQ02
import Derived.Test.YtfaalljnklijjaaGreatDoorQ00
import Derived.Below
import Derived.Test.YtfaalljnklijjaaGreatDoorQ11
set_option linter.all false
section
namespace Go.X
open Go.RowKit
set_option linter.unusedSimpArgs false
set_option linter.unusedSectionVars false
section
variable {P : Program} {ρ : Rho} {H : XH} {w w' : World} {f : FuncId}
theorem Step.below (hR : Rep ρ H w) (h : Below w.heap.size w w') : Step ρ H w ρ H w' where
  rep := ⟨fun n o ho => by
    obtain ⟨b, off, lim, h1, h2⟩ := hR.obj n o ho
    exact ⟨b, off, lim, h1, h2.of_block (Ext.refl _) h.size (h.block b h2.lt)⟩, hR.inj⟩
  le := Nat.le_refl _
  out _ _ := rfl
  ext := Ext.refl _
  os := h.os
  tape := h.tape
  output := h.output
  size := h.size
  keep b hb _ := h.block b hb
  foot _ h := .inl h
  all _ h := .inl h
theorem str_size {l : List Nat} {u : ByteArray} (hu : u.data.toList.map UInt8.toNat = l) : u.size = l.length := by
  rw [← hu, List.length_map]
  rfl
theorem clone_intr (henter : ∀ args w, (callFunc f args).run P w = .ok (.enter f args) w) (hC : ∀ (s : ByteArray) (w : World), s.size ≤ 1000000 → Calls P f #[.string s] w fun e w' => e = .returned (.string s) ∧ Below w.heap.size w w') : IntrOK P f (fun _ => iClone) := by
  intro call _ _ args H r H' h
  simp only [iClone] at h
  split at h
  · rename_i s
    obtain ⟨hb, h⟩ := bif_some h
    have hb := Nat.le_of_ble_eq_true hb
    rw [lenX_eq] at hb
    have := Option.some.inj h
    injection this with h3 h4
    subst h3; subst h4
    refine ⟨Nat.le_refl _, fun ρ w vs hR hg hv hF => .inr ⟨henter _ _, ?_⟩⟩
    cases hv with
    | cons _ v _ m hp ht =>
      cases ht
      cases hp with
      | str _ u hu =>
        refine (hC u w (by rw [str_size hu]; exact hb)).mono (fun e w' h => ?_)
        obtain ⟨rfl, h⟩ := h
        exact ⟨_, rfl, ρ, .str _ u hu, Step.below hR h⟩
  · cases h
theorem repX_eq (s : List Nat) : ∀ n, repX s n = (List.replicate n s).flatten
  | 0 => rfl
  | n + 1 => by
    show appX s (repX s n) = _
    rw [appX_eq, repX_eq s n, List.replicate_succ, List.flatten_cons]
theorem repeat_intr (henter : ∀ args w, (callFunc f args).run P w = .ok (.enter f args) w) (hC : ∀ (s : ByteArray) (n : Nat) (w : World), s.size * n ≤ 1000000 → n ≤ 1000000 → Calls P f #[.string s, .int .i64 n] w fun e w' => ∃ r : ByteArray, e = .returned (.string r) ∧ r.data.toList = (List.replicate n s.data.toList).flatten ∧ Below w.heap.size w w') : IntrOK P f (fun _ => iRepeat) := by
  intro call _ _ args H r H' h
  simp only [iRepeat] at h
  split at h
  · rename_i s n
    obtain ⟨hb, k⟩ := bif_some h
    clear h
    have hb0 : (Nat.ble (Nat.mul (lenX s) n) 1000000 && Nat.ble n 1000000) = true := hb
    simp only [Bool.and_eq_true] at hb0
    have hb := Nat.le_of_ble_eq_true hb0.1
    have hbn := Nat.le_of_ble_eq_true hb0.2
    rw [lenX_eq] at hb
    have := Option.some.inj k
    injection this with h3 h4
    subst h3; subst h4
    refine ⟨Nat.le_refl _, fun ρ w vs hR hg hv hF => .inr ⟨henter _ _, ?_⟩⟩
    cases hv with
    | cons _ v _ m hp ht =>
      cases ht with
      | cons _ v2 _ m2 hp2 ht2 =>
        cases ht2
        cases hp2
        cases hp with
        | str _ u hu =>
          refine (hC u n w (by rw [str_size hu]; exact hb) hbn).mono (fun e w' h => ?_)
          obtain ⟨r, rfl, h1, h2⟩ := h
          refine ⟨_, rfl, ρ, .str _ r ?_, Step.below hR h2⟩
          rw [h1, repX_eq, ← hu, List.map_flatten, List.map_replicate]
  · cases h
end
end Go.X
end
section
namespace Go.Proofs
open Go.RowKit Go.Maps Go.Sort Go.Shelf Go.X Go.WideElems
theorem Tryz.sortsA (m : Nat) : AnyZI.SortsIn Tryz.prog Tryz.sortedA_ren Fence.wide m :=
  ⟨fun blk off cap ss W hH hblk hsz => callsIn_wide.2 (AnyM.slices_Sort_int Tryz.sortA blk off cap ss W hH hblk hsz),
   fun p cap W => callsIn_wide.2 (AnyM.slices_Sort_int_none Tryz.sortA p cap W)⟩
abbrev fSorted : Nat := 197
abbrev fKeys : Nat := 198
abbrev fIter : Nat := 242
abbrev fSort : Nat := 241
abbrev tMap : Nat := 195
theorem keys_call (mb : Option Nat) (w : World) : Calls Tryz.prog fKeys #[.map mb] w fun e w' => e = .returned (.func (.func fIter) #[] #[.pointer (some ⟨w.heap.size, 0, none⟩)]) ∧ w' = w.alloc (.cells #[.map mb] tMap) :=
  (callsIn_wide (n := 5)).1 (AnyZI.keys_in Tryz.keysA Fence.wide 5 trivial rfl mb w)
def rAny (_ : Value) : Option (DataW Unit × List MemPlace) := some (.lit (.bool true), [])
theorem ks_mem {l : List MapEntry} {ks : List Nat} (h : l.map (·.key) = ks.map fun n : Nat => Value.int .i64 (Int.ofNat n)) {x : MapEntry} (hx : x ∈ l) : ∃ n ∈ ks, x.key = .int .i64 (Int.ofNat n) := by
  have : x.key ∈ l.map (·.key) := List.mem_map_of_mem hx
  rw [h] at this
  obtain ⟨n, h1, h2⟩ := List.mem_map.1 this
  exact ⟨n, h1, h2.symm⟩
theorem wf_nat {n : Nat} (h : n ≤ 1000000000000000) : (Lit.int .i64 (Int.ofNat n)).wf = true := by
  have h1 : IntKind.i64.min = -9223372036854775808 := rfl
  have h2 : IntKind.i64.max = 9223372036854775807 := rfl
  simp only [Lit.wf, h1, h2, Bool.and_eq_true, decide_eq_true_eq, Int.ofNat_eq_natCast]
  omega
theorem insN_perm (x : Nat) : ∀ l, (insN x l).Perm (x :: l)
  | [] => .refl _
  | y :: l => by
    unfold insN
    cases Nat.ble x y with
    | true => exact .refl _
    | false => exact ((insN_perm x l).cons y).trans (.swap x y l)
theorem sortN_perm : ∀ l, (sortN l).Perm l
  | [] => .refl _
  | x :: l => (insN_perm x _).trans ((sortN_perm l).cons x)
theorem insN_sorted (x : Nat) : ∀ l, l.Pairwise (· ≤ ·) → (insN x l).Pairwise (· ≤ ·)
  | [], _ => by simp [insN]
  | y :: l, h => by
    have hy := List.pairwise_cons.1 h
    unfold insN
    cases e : Nat.ble x y with
    | true =>
      have hxy := Nat.le_of_ble_eq_true e
      refine List.pairwise_cons.2 ⟨fun z hz => ?_, h⟩
      rcases List.mem_cons.1 hz with rfl | hz
      · exact hxy
      · exact Nat.le_trans hxy (hy.1 z hz)
    | false =>
      have hxy : y ≤ x := Nat.le_of_lt (Nat.lt_of_not_le (fun h => by rw [Nat.ble_eq_true_of_le h] at e; cases e))
      refine List.pairwise_cons.2 ⟨fun z hz => ?_, insN_sorted x l hy.2⟩
      rcases List.mem_cons.1 ((insN_perm x l).mem_iff.1 hz) with rfl | hz
      · exact hxy
      · exact hy.1 z hz
theorem sortN_sorted : ∀ l, (sortN l).Pairwise (· ≤ ·)
  | [] => .nil
  | x :: l => insN_sorted x _ (sortN_sorted l)
theorem merge_sortN {ss : List Int} {ks : List Nat} (h : ss.Perm (ks.map Int.ofNat)) : ss.mergeSort (fun x y => decide (x ≤ y)) = (sortN ks).map Int.ofNat := by
  have tr : ∀ a b c : Int, leI a b = true → leI b c = true → leI a c = true := fun a b c h1 h2 => by simp only [leI, decide_eq_true_eq] at *; exact Int.le_trans h1 h2
  have to : ∀ a b : Int, (leI a b || leI b a) = true := fun a b => by simp only [leI, Bool.or_eq_true, decide_eq_true_eq]; exact Int.le_total a b
  refine List.Perm.eq_of_pairwise (le := fun a b => leI a b = true) (fun a b _ _ h1 h2 => ?_) (List.pairwise_mergeSort tr to ss) (List.pairwise_map.2 ((sortN_sorted ks).imp (fun {a b} h => ?_))) (((List.mergeSort_perm ss leI).trans h).trans ((sortN_perm ks).map Int.ofNat).symm)
  · simp only [leI, decide_eq_true_eq] at h1 h2
    exact Int.le_antisymm h1 h2
  · simp only [leI, decide_eq_true_eq, Int.ofNat_eq_natCast]
    omega
def valInt : Value → Int
  | .int _ a => a
  | _ => 0
theorem sorted_call (Bm b : Nat) (es : Array MapEntry) (clk : Nat) (w : World) (hc : w.cell? ⟨Bm, 0, none⟩ = some (.map (some b))) (hb : w.heap[b]? = some (.map es clk)) (hst : MapKept.Stamped es clk) (ks : List Nat)
    (hk : es.toList.map (·.key) = ks.map fun n : Nat => Value.int .i64 (Int.ofNat n)) (hr : ∀ n ∈ ks, n ≤ 1000000000000000) (hl : ks.length ≤ 1000) :
    Calls Tryz.prog fSorted #[.func (.func fIter) #[] #[.pointer (some ⟨Bm, 0, none⟩)]] w fun e w' => ∃ v, e = .returned v ∧
      w'.ownsRow w.heap.size 3 1 v ks.length ((sortN ks).map fun n : Nat => Value.int .i64 (Int.ofNat n)) ∧ (v = .slice none 0 0 ↔ ks = []) ∧ Below w.heap.size w w' := by
  have hsz : es.size = ks.length := by
    have := congrArg List.length hk
    simpa using this
  have hrd : ∀ x ∈ es.toList, WideElems.rd Tryz.prog 3 rAny x = some (.int .i64 (valInt x.key), .lit (.bool true)) := fun x hx => by
    obtain ⟨n, h1, h2⟩ := ks_mem hk hx
    unfold WideElems.rd
    rw [h2, keyOf_int_mk Tryz.underlying3 (wf_nat (hr n h1))]
    rfl
  have hF : Fit Tryz.prog 3 rAny es clk := ⟨by rw [hsz]; unfold maxLen; omega, hst, fun x hx => ⟨_, hrd x hx⟩⟩
  have hown : w.ownsMap Tryz.prog 3 rAny b es.size (.map ((es.toList.map (rg Tryz.prog 3 rAny)).foldr DataW.insert [])) := ⟨es, clk, hb, hF, Nat.le_refl _, rfl⟩
  have hlt : Bm < w.heap.size := by
    unfold World.cell? at hc
    split at hc
    · rename_i h1
      exact (Array.getElem?_eq_some_iff.1 h1).1
    · cases hc
  have hms : Maps.size (H := Unit) (.map ((es.toList.map (rg Tryz.prog 3 rAny)).foldr DataW.insert [])) = ks.length := by
    show ((es.toList.map (rg Tryz.prog 3 rAny)).foldr DataW.insert []).length = _
    rw [length_read, hsz]
  have hseq : SeqGives Fence.wide 2 Tryz.prog fIter #[.pointer (some ⟨Bm, 0, none⟩)] encZ (fun ss => ss.Perm (_root_.Go.intKeys (H := Unit) (.map ((es.toList.map (rg Tryz.prog 3 rAny)).foldr DataW.insert [])))) (Maps.size (H := Unit) (.map ((es.toList.map (rg Tryz.prog 3 rAny)).foldr DataW.insert []))) w :=
    AnyZI.keys_gives (ρ := Tryz.keysA_ren) { Tryz.keysA with } Fence.wide _ trivial rfl (by omega) Bm b es.size _ w hlt hc hown
  have hp : (_root_.Go.intKeys (H := Unit) (.map ((es.toList.map (rg Tryz.prog 3 rAny)).foldr DataW.insert []))).Perm (ks.map Int.ofNat) := by
    show (((es.toList.map (rg Tryz.prog 3 rAny)).foldr DataW.insert []).map fun p => _root_.Go.intOf p.1).Perm _
    refine ((WideShapes.sorted_perm _).map _).trans ?_
    have h1 : (es.toList.map (rg Tryz.prog 3 rAny)).map (fun p => _root_.Go.intOf p.1) = (es.toList.map (·.key)).map valInt := by
      rw [List.map_map, List.map_map]
      refine List.map_congr_left (fun x hx => ?_)
      have hrg : rg Tryz.prog 3 rAny x = (.int .i64 (valInt x.key), .lit (.bool true)) := by
        unfold rg
        rw [hrd x hx, Option.getD_some]
      simp only [Function.comp_apply, hrg, _root_.Go.intOf]
    rw [h1, hk, List.map_map]
    exact .refl _
  have cS := AnyZI.sorted_in Tryz.sortedA Fence.wide 5 trivial trivial trivial trivial rfl (by omega) (Tryz.sortsA _) (enters_of Tryz.func241 (by kernel_rfl) rfl) fIter #[.pointer (some ⟨Bm, 0, none⟩)] trivial (enters_of Tryz.func242 (by kernel_rfl) rfl) _ _ (by rw [hms]; unfold maxLen; omega) (by rw [hms]; omega) _ hseq
  refine ((callsIn_wide (n := 5)).1 cS).mono ?_
  rintro e w' ⟨v, ss, rfl, hS, hrow, hnil, hbel⟩
  have hS' := hS.trans hp
  have hl' : ss.length = ks.length := by rw [hS'.length_eq, List.length_map]
  refine ⟨v, rfl, ?_, ?_, hbel⟩
  · rw [merge_sortN hS', List.map_map] at hrow
    rw [← hl']
    exact hrow
  · rw [hnil]
    constructor
    · rintro rfl
      exact List.eq_nil_of_length_eq_zero hl'.symm
    · rintro rfl
      exact List.eq_nil_of_length_eq_zero hl'
end Go.Proofs
end
section
namespace Go.Proofs
open Go.RowKit Go.Maps Go.Sort Go.Shelf Go.X Go.WideElems
set_option maxRecDepth 100000
theorem keys_enter (args : Array Value) (w : World) : (callFunc fKeys args).run Tryz.prog w = .ok (.enter fKeys args) w := enters_of Tryz.func198 (by kernel_rfl) rfl args w
theorem sorted_enter (args : Array Value) (w : World) : (callFunc fSorted args).run Tryz.prog w = .ok (.enter fSorted args) w := enters_of Tryz.func197 (by kernel_rfl) rfl args w
theorem keys_ok : IntrOK Tryz.prog fKeys (fun _ => iKeys fIter tMap) := by
  intro call _ _ args H r H' h
  simp only [iKeys] at h
  split at h
  · rename_i m
    have := Option.some.inj h
    injection this with h3 h4
    subst h3; subst h4
    refine ⟨Nat.le_succ _, fun ρ w vs hR hg hv hF => .inr ⟨keys_enter _ _, ?_⟩⟩
    cases hv with
    | cons _ v _ l hp ht =>
      cases ht
      cases hp with
      | map _ b off lim hρ =>
        refine (keys_call (some b) w).mono ?_
        rintro e w' ⟨rfl, rfl⟩
        have hn := hF H.next (Nat.le_refl _) (Nat.lt_succ_self _)
        refine ⟨_, rfl, upd ρ H.next (w.heap.size, 0, 1), VR.func fIter _ _ (.cons _ _ _ _ (VR.ptr H.next 0 w.heap.size 0 1 (if_pos rfl)) .nil), ?_⟩
        refine Step.new hR hn (fun m p x y hm hx => ?_) (Nat.le_refl _) ?_ rfl rfl rfl (by simp) (fun k hk => alloc_old w _ k hk)
        · obtain ⟨c, x', y', hc, k⟩ := hR.obj m p hm
          rw [hx] at hc
          simp only [Option.some.injEq, Prod.mk.injEq] at hc
          obtain ⟨rfl, rfl, rfl⟩ := hc
          exact absurd k.lt (Nat.lt_irrefl _)
        · exact row_new (cells := #[.map (some b)]) (.cons _ _ _ _ ((VR.map m b off lim hρ).mono (Ext.upd hn)) .nil) (Nat.le_refl _) _ (fun t ht => by
            obtain rfl := Option.some.inj ht
            exact ⟨Nat.mul_div_cancel_left _ (by decide), fun _ => rfl⟩)
  · cases h
theorem natKeys_spec {ρ : Rho} : ∀ {es : List (XV × XV)} {ents : List MapEntry}, MRs ρ es ents → ∀ {ks : List Nat}, natKeys es = some ks → (ents.map (·.key) = ks.map fun n : Nat => Value.int .i64 (Int.ofNat n)) ∧ ∀ n ∈ ks, n ≤ 1000000000000000
  | _, _, .nil, ks, h => by
    obtain rfl := Option.some.inj h
    exact ⟨rfl, fun n hn => by cases hn⟩
  | _, _, .cons k v e l m hk hv t, ks, h => by
    unfold natKeys at h
    split at h
    · rename_i e1; cases e1
    · rename_i n v' r e1
      injection e1 with e1 e2
      injection e1 with e1 e3
      subst e1; subst e2
      obtain ⟨hb, h⟩ := bif_some h
      split at h
      · rename_i l' hl
        obtain rfl := Option.some.inj h
        obtain ⟨h1, h2⟩ := natKeys_spec t hl
        refine ⟨?_, fun x hx => ?_⟩
        · rw [List.map_cons, List.map_cons, h1, hk.inv_int]
        · rcases List.mem_cons.1 hx with rfl | hx
          · exact Nat.le_of_ble_eq_true hb
          · exact h2 x hx
      · cases h
    · cases h
theorem intsX_eq : ∀ l : List Nat, intsX l = l.map fun n : Nat => XV.int .i64 (.ofNat n)
  | [] => rfl
  | x :: l => by rw [intsX, intsX_eq l]; rfl
theorem VRs_ints {ρ : Rho} : ∀ l : List Nat, VRs ρ (l.map fun n : Nat => XV.int .i64 (.ofNat n)) (l.map fun n : Nat => Value.int .i64 (Int.ofNat n))
  | [] => .nil
  | x :: l => .cons _ _ _ _ (.int .i64 _) (VRs_ints l)
theorem sorted_ok : IntrOK Tryz.prog fSorted (fun _ => iSorted fIter) := by
  intro call _ _ args H r H' h
  simp only [iSorted] at h
  split at h
  rotate_left
  · cases h
  rename_i f b o
  obtain ⟨hb, h0⟩ := bif_some h
  clear h
  have hb : (Nat.beq f fIter && Nat.beq o 0) = true := hb
  simp only [Bool.and_eq_true] at hb
  obtain rfl := Nat.eq_of_beq_eq_true hb.1
  obtain rfl := Nat.eq_of_beq_eq_true hb.2
  split at h0
  rotate_left
  · cases h0
  rename_i m ro t hg1
  split at h0
  rotate_left
  · cases h0
  rename_i es hg2
  obtain ⟨hl, h1⟩ := bif_some h0
  clear h0
  have hl := Nat.le_of_ble_eq_true hl
  rw [lenX_eq] at hl
  split at h1
  rotate_left
  · cases h1
  rename_i ks hks
  have key : ∀ ρ w vs, Rep ρ H w → VRs ρ [.func fIter [.ptr b 0]] vs → Calls Tryz.prog fSorted vs.toArray w fun e w' => ∃ v, e = .returned v ∧
      w'.ownsRow w.heap.size 3 1 v ks.length ((sortN ks).map fun n : Nat => Value.int .i64 (Int.ofNat n)) ∧ (v = .slice none 0 0 ↔ ks = []) ∧ Below w.heap.size w w' := by
    intro ρ w vs hR hv
    cases hv with
    | cons _ v _ l hp ht =>
      cases ht
      cases hp with
      | func _ _ us hus =>
        cases hus with
        | cons _ u _ l hq hn =>
          cases hn
          cases hq with
          | ptr _ _ blk off lim hρ =>
            obtain ⟨b', off', lim', hρ', hO⟩ := hR.obj _ _ hg1
            rw [hρ] at hρ'
            simp only [Option.some.injEq, Prod.mk.injEq] at hρ'
            obtain ⟨rfl, rfl, rfl⟩ := hρ'
            obtain ⟨rfl, _⟩ := CR.tag hO t rfl
            obtain ⟨vs, hvs, hc⟩ := CR.vals hO
            cases hvs with
            | cons _ mv _ _ hm hn2 =>
              cases hn2
              cases hm with
              | map _ c off2 lim2 hρ2 =>
                obtain ⟨c', off3, lim3, hρ3, hO2⟩ := hR.obj _ _ hg2
                rw [hρ2] at hρ3
                simp only [Option.some.injEq, Prod.mk.injEq] at hρ3
                obtain ⟨rfl, rfl, rfl⟩ := hρ3
                obtain ⟨ents, clk, g1, g2, g3⟩ := hO2
                obtain ⟨k1, k2⟩ := natKeys_spec g2 hks
                have hlen : ks.length ≤ 1000 := by
                  have := congrArg List.length k1
                  have h3 := g2.len
                  simp only [List.length_map] at this
                  omega
                exact sorted_call blk c ents clk w (hc 0 _ rfl) g1 g3 ks k1 k2 hlen
  have hpl := (sortN_perm ks).length_eq
  split at h1
  · rename_i hs
    have := Option.some.inj h1
    injection this with h3 h4
    subst h3; subst h4
    have hz : ks = [] := List.eq_nil_of_length_eq_zero (by rw [← hpl, hs]; rfl)
    refine ⟨Nat.le_refl _, fun ρ w vs hR hg hv hF => .inr ⟨sorted_enter _ _, (key ρ w vs hR hv).mono ?_⟩⟩
    rintro e w' ⟨v, rfl, _, hnil, hbel⟩
    obtain rfl := hnil.2 hz
    exact ⟨_, rfl, ρ, .nils, Step.below hR hbel⟩
  · rename_i a l hs
    have := Option.some.inj h1
    injection this with h3 h4
    subst h3; subst h4
    have hne : ks ≠ [] := fun e => by rw [e] at hs; cases hs
    refine ⟨Nat.le_succ _, fun ρ w vs hR hg hv hF => .inr ⟨sorted_enter _ _, (key ρ w vs hR hv).mono ?_⟩⟩
    rintro e w' ⟨v, rfl, hrow, hnil, hbel⟩
    rcases hrow.2 with ⟨rfl, hz⟩ | ⟨g, cap, cur, rfl, hbase, hgb, r1, r2, r3, r4⟩
    · exact absurd (hnil.1 rfl) hne
    · have hn := hF H.next (Nat.le_refl _) (Nat.lt_succ_self _)
      rw [hs] at r4
      have hlen : (a :: l).length = ks.length := by rw [← hs]; exact hpl
      have hcell : ∀ j, (w'.cell? ⟨g, 0 + j, none⟩) = cur[j]? := fun j => by simp [World.cell?, hgb]
      refine ⟨_, rfl, upd ρ H.next (g, 0, cap), ?_, ?_⟩
      · rw [lenX_eq, hlen]
        exact VR.slice H.next 0 ks.length ks.length 1 false g 0 cap _ cap (if_pos rfl) (Nat.le_refl _) r1 (fun e => by cases e) (fun _ => ⟨fun _ => rfl, by omega⟩)
      · refine Step.new hR hn (fun m p x y hm hx => ?_) hbase ?_ hbel.os hbel.tape hbel.output hbel.size (fun k hk => hbel.block k hk)
        · obtain ⟨c, x', y', hc, k⟩ := hR.obj m p hm
          rw [hx] at hc
          simp only [Option.some.injEq, Prod.mk.injEq] at hc
          obtain ⟨rfl, rfl, rfl⟩ := hc
          exact absurd k.lt (by omega)
        · rw [intsX_eq]
          refine ⟨by rw [List.length_map, hlen]; exact r1, fun j hj => ?_, fun _ j hj => ?_, ⟨_, VRs_ints _, fun j v hj => ?_⟩, (Array.getElem?_eq_some_iff.1 hgb).1, fun t ht => by cases ht⟩
          · rw [hcell j, Array.getElem?_eq_getElem (by omega)]; rfl
          · simp [World.frozen?, hgb]
          · rw [hcell j, ← Array.getElem?_toList]
            rw [← r4, List.getElem?_take] at hj
            split at hj
            · exact hj
            · cases hj
end Go.Proofs
end
