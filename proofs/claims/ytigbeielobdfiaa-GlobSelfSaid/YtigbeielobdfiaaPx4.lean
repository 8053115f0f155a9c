-- Written by wip/inj.py (the kit's print, with contracts typed by hand beside it).
import Derived.Test.YtigbeielobdfiaaPx0
import Derived.Test.YtigbeielobdfiaaPx1
import Derived.Test.YtigbeielobdfiaaPx2
import Derived.Test.YtigbeielobdfiaaPx3
namespace Go.Proofs.Ytigbeielobdfiaa.P
open Go.RowKit Go.Proofs.YtigbeielobdfiaaW.PrintWords Go.Proofs.YtigbeielobdfiaaW.PrintLast Go.Proofs.YtigbeielobdfiaaW.PrintMore
attribute [local go_sem] max2_int min2_int max_two min_two max_three min_three max_four min_four   -- for this text's walks alone
set_option linter.unusedVariables false
set_option linter.unusedSimpArgs false

/-! ### glob_Plain: function 16 (by hand) -/

theorem glob_Plain.cut {B B' : Nat} {W W' : World} (h : Below B' W W') (hb : B ≤ B') : Below B W W' := ⟨h.os, h.tape, h.output, h.size, fun k hk => h.block k (Nat.lt_of_lt_of_le hk hb)⟩
theorem glob_Plain.kept {B b : Nat} {bs : List Value} {W W' : World} (h : Lib.IsBuilder 43 5 B b bs W) (hb : Below W.heap.size W W') : Lib.IsBuilder 43 5 B b bs W' := by
  have : ∀ p, Lib.BuilderAt 43 5 B b p bs W → Lib.BuilderAt 43 5 B b p bs W' := by
    intro p h
    have hlt := h.lt
    obtain ⟨hB, v, hbk, hown, hne⟩ := h
    exact ⟨hB, v, (hb.block b hlt).trans hbk, hown.kept (row := none) ⟨hb.os, hb.tape, hb.output, hb.size, fun k hk _ => hb.block k hk⟩ (Classical.em _), hne⟩
  exact h.imp (this _) (this _)
def glob_Plain.go : List (S40) → List UInt8 → Option (ByteArray × Bool)
  | [], acc => some (⟨acc.toArray⟩, true)
  | x :: l, acc => if x.f0 = 92 then (if x.f1 = ((x.f1.toNat.toUInt8).toNat : Int) then glob_Plain.go l (acc ++ [x.f1.toNat.toUInt8]) else none) else some (⟨#[]⟩, false)
def glob_Plain.f (k : Nat) (a0 : ByteArray) : Option (ByteArray × Bool) := (glob_pieces.f k a0).bind fun p => if p.2 = true then (if p.1.length ≤ 1000000 then glob_Plain.go p.1 [] else none) else some (⟨#[]⟩, false)
theorem glob_Plain.mono : ∀ a0 k, LeO (glob_Plain.f k a0) (glob_Plain.f (k + 1) a0) := fun a0 k => LeO.bind (glob_pieces.mono a0 k) (fun _ => LeO.refl _)
theorem glob_Plain.ret_ {a b : ByteArray} (h : a = b) (x : Bool) : Ending.returned (.tuple #[.string a, .bool x]) = .returned (.tuple #[.string b, .bool x]) := by rw [h]
set_option maxHeartbeats 4000000 in
set_option maxRecDepth 100000 in
theorem glob_Plain.calls (k : Nat) (a0 : ByteArray) (r1 : ByteArray) (r2 : Bool) (w : World) (h : glob_Plain.f k a0 = some (r1, r2)) :
    Calls Try.prog 16 #[.string a0] w fun e w' => e = .returned (.tuple #[.string r1, .bool r2]) ∧ Below w.heap.size w w' := by
  unfold glob_Plain.f at h
  obtain ⟨⟨l, ok⟩, hp, h⟩ := Option.bind_eq_some_iff.mp h
  replace h : (if ok = true then (if l.length ≤ 1000000 then glob_Plain.go l [] else none) else some (⟨#[]⟩, false)) = some (r1, r2) := h
  have HP := Lib.hid hp
  clear hp
  cases ok with
  | false =>
    rw [if_neg (by decide)] at h
    simp only [Option.some.injEq, Prod.mk.injEq] at h
    obtain ⟨rfl, rfl⟩ := h
    go_enter Try.func16, Try.ntmps16
    go_wp2_with (go_at_call 17; refine (glob_pieces.calls k a0 l false _ HP.out).mono ?_; rintro e_ w1 ⟨v0, rfl, hR, hb⟩)
    go_ret2
    exact ⟨rfl, hb⟩
  | true =>
    rw [if_pos rfl] at h
    by_cases hl : l.length ≤ 1000000
    case neg => rw [if_neg hl] at h; cases h
    rw [if_pos hl] at h
    have H := Aside0.mk h
    clear h
    go_enter Try.func16, Try.ntmps16
    go_wp2_with fail
    refine (glob_pieces.calls k a0 l true _ HP.out).mono ?_
    rintro e_ w1 ⟨v0, rfl, hR, hb⟩
    obtain ⟨A0, c0, rfl⟩ := Kd.R_slice hR
    have HR := Aside0.mk hR
    have HBA := Aside0.mk hb
    clear hR hb
    go_wp2_with fail
    have HI := Aside0.mk (Lib.fresh_isBuilder 43 5 w1)
    have HB := Aside0.mk ((Below.refl w1.heap.size w1).alloc (Nat.le_refl _) (.cells #[.pointer none, .slice none 0 0] 43))
    generalize w1.alloc _ = w0 at *
    go_loopw [18] (fun v18 wr => ∃ (k : Nat) (acc : List UInt8), k ≤ l.length ∧ v18 = .int .i64 k ∧ acc.length ≤ k ∧ Aside0 (glob_Plain.go (l.drop k) acc = some (r1, r2)) ∧ Aside0 (Lib.IsBuilder 43 5 w1.heap.size w1.heap.size (Lib.byteCells acc) wr) ∧ Aside0 (Below w1.heap.size w1 wr)) (fun v18 _ => l.length - (intOf v18).toNat)
    case atStart => exact ⟨0, [], Nat.zero_le _, rfl, Nat.le_refl _, H, HI, HB⟩
    case round =>
      clear HI HB H
      obtain ⟨k, acc, hk, rfl, hacc, H, HI, HB⟩ := hrel
      by_cases hlt : k < l.length
      · have hk0 : (0 : Int) ≤ (k : Int) := by omega
        have hk1 : (k : Int) < (l.length : Int) := by omega
        obtain ⟨ad, e0, hx0, hx1⟩ := at_T40 (Kd.R_reads' (Kd.R_below HR.out HB.out)).2.2 k hk0 hk1
        cases e0
        obtain ⟨x, hx⟩ : ∃ x, rd_T40 l (k : Int) = x := ⟨_, rfl⟩
        rw [hx] at hx0 hx1
        simp only [Int.toNat_natCast] at hx0 hx1
        have HX := Lib.hid (show l.drop k = x :: l.drop (k + 1) by rw [List.drop_eq_getElem_cons hlt, ← hx]; unfold rd_T40; simp [List.getD, hlt])
        have h := H.out
        rw [HX.out] at h
        simp only [glob_Plain.go] at h
        by_cases h92 : x.f0 = 92
        · rw [if_pos h92] at h
          by_cases hby : x.f1 = ((x.f1.toNat.toUInt8).toNat : Int)
          case neg => rw [if_neg hby] at h; cases h
          rw [if_pos hby] at h
          have HH := Aside0.mk h
          have HY := Aside0.mk hby
          have d92 : (x.f0 != 92) = false := by rw [h92]; rfl
          clear h H hx h92 hby
          go_wp2_with (((with_reducible refine gate_dst (N := 8) rfl ?_); refine box_event ?hg (N := 8) ?hd (cs := #[.int .u8 0, .int .u8 0]) (t := 40) ?hr ?_; (case hd => rfl); (case hg => rfl); (case hr => first | (go_simp; done) | (go_simp; rfl)); intro gb hgb w22 hbox hbx; have BK := Aside0.mk hbox; have HBX := Aside0.mk hbx; have HG := Aside0.mk hgb; clear hbox hbx hgb; have hcz0 : w22.cell? ⟨gb, 0, none⟩ = some (.int .u8 0) := (blk_cell BK.out 0).trans rfl; have hcz1 : w22.cell? ⟨gb, 1, none⟩ = some (.int .u8 0) := (blk_cell BK.out 1).trans rfl; have hfz0 := blk_frozen BK.out 0; have hfz1 := blk_frozen BK.out 1))
          have HB3 := Aside0.mk ((HBX.out.setCell (p := ⟨gb, 0, none⟩) (Nat.le_of_eq HG.out.symm) (.int .u8 x.f0)).setCell (p := ⟨gb, 1, none⟩) (Nat.le_of_eq HG.out.symm) (.int .u8 x.f1))
          have HI3 := Aside0.mk (glob_Plain.kept HI.out HB3.out)
          have HB4 := Aside0.mk (below_step HB.out HB3.out)
          clear BK HBX HG hcz0 hcz1 hfz0 hfz1 HI HB HB3 d92 hx0 hx1
          generalize World.setCell _ _ _ = w3 at *
          have e1 : acc.length + 1 ≤ 140737488355328 := by omega
          have W1 := glob_Quote.bld.writeN w1.heap.size w1.heap.size acc x.f1.toNat.toUInt8 x.f1 HY.out _ HI3.out e1 HB4.out.size
          clear e1
          refine W1.mono ?_
          clear W1
          rintro e_ w4 ⟨rfl, h4, hb4⟩
          have HI5 := Aside0.mk h4
          have HB5 := Aside0.mk (HB4.out.trans hb4)
          clear h4 hb4
          go_wp2_with fail
          go_round
          case rel => exact ⟨k + 1, _, hlt, by go_num, by rw [List.length_append]; simp only [List.length_cons, List.length_nil]; omega, HH, HI5, HB5⟩
          case measure => simp [intOf]; omega
        · rw [if_neg h92] at h
          simp only [Option.some.injEq, Prod.mk.injEq] at h
          obtain ⟨rfl, rfl⟩ := h
          have d92 : (x.f0 != 92) = true := by simp [h92]
          clear H hx h92
          go_wp2_with (((with_reducible refine gate_dst (N := 8) rfl ?_); refine box_event ?hg (N := 8) ?hd (cs := #[.int .u8 0, .int .u8 0]) (t := 40) ?hr ?_; (case hd => rfl); (case hg => rfl); (case hr => first | (go_simp; done) | (go_simp; rfl)); intro gb hgb w22 hbox hbx; have BK := Aside0.mk hbox; have HBX := Aside0.mk hbx; have HG := Aside0.mk hgb; clear hbox hbx hgb; have hcz0 : w22.cell? ⟨gb, 0, none⟩ = some (.int .u8 0) := (blk_cell BK.out 0).trans rfl; have hcz1 : w22.cell? ⟨gb, 1, none⟩ = some (.int .u8 0) := (blk_cell BK.out 1).trans rfl; have hfz0 := blk_frozen BK.out 0; have hfz1 := blk_frozen BK.out 1))
          go_ret2
          exact ⟨rfl, below_step (HBA.out.trans (glob_Plain.cut HB.out HBA.out.size)) (((HBX.out.setCell (p := ⟨gb, 0, none⟩) (Nat.le_of_eq HG.out.symm) (.int .u8 x.f0)).setCell (p := ⟨gb, 1, none⟩) (Nat.le_of_eq HG.out.symm) (.int .u8 x.f1)))⟩
      · have hk2 : k = l.length := by omega
        subst hk2
        have h := H.out
        rw [List.drop_length] at h
        simp only [glob_Plain.go, Option.some.injEq, Prod.mk.injEq] at h
        obtain ⟨rfl, rfl⟩ := h
        clear H
        go_wp2_with fail
        have W1 := glob_Quote.bld.string_any w1.heap.size w1.heap.size acc _ HI.out HB.out.size
        refine W1.mono ?_
        clear W1
        rintro e_ w4 ⟨rfl, hb4⟩
        go_wp2_with fail
        go_ret2
        exact ⟨rfl, HBA.out.trans (glob_Plain.cut (HB.out.trans hb4) HBA.out.size)⟩


/-! ### escutcheonlaw17_alive: function 10 -/
def escutcheonlaw17_alive.f (k : Nat)  : Option (Bool) := (glob_Plain.f k (⟨#[97, 92, 42, 98]⟩ : ByteArray)).bind fun bt140 => ((glob_Match.f k (⟨#[117, 115, 101, 114, 58, 42]⟩ : ByteArray) (⟨#[117, 115, 101, 114, 58, 55]⟩ : ByteArray)).bind fun t142 => (if t142 = true then ((glob_Match.f k (⟨#[117, 115, 101, 114, 58, 63]⟩ : ByteArray) (⟨#[117, 115, 101, 114, 58, 55, 55]⟩ : ByteArray)).bind fun t143 => (if t143 = true then (none) else ((glob_Match.f k (⟨#[92, 42]⟩ : ByteArray) (⟨#[42]⟩ : ByteArray)).bind fun t144 => (if t144 = true then (if bt140.2 = true then (if bt140.1.toList = ([97, 42, 98] : List UInt8) then ((glob_Quote.f (⟨#[97, 42]⟩ : ByteArray)).bind fun t145 => (if t145.toList = ([97, 92, 42] : List UInt8) then ((glob_Right.f k (⟨#[92]⟩ : ByteArray)).bind fun t146 => (some (!t146))) else (none))) else (none)) else (none)) else (none))))) else (none)))
theorem escutcheonlaw17_alive.mono : ∀ k, LeO (escutcheonlaw17_alive.f k ) (escutcheonlaw17_alive.f (k + 1) ) := by
  intro  k
  unfold escutcheonlaw17_alive.f
  repeat' first
      | (with_reducible exact glob_Match.mono _ _ _)
      | (with_reducible exact glob_Plain.mono _ _)
      | (with_reducible exact glob_Right.mono _ _)
      | (with_reducible exact LeO.refl _)
      | (with_reducible exact LeO.none _)
      | (with_reducible refine LeO.ite ?_ ?_)
      | (with_reducible refine LeO.bind ?_ (fun _ => ?_))
      | exact glob_Match.mono _ _ _
      | exact glob_Plain.mono _ _
      | exact glob_Right.mono _ _
      | exact LeO.none _
      | refine LeO.ite ?_ ?_
      | refine LeO.bind ?_ (fun _ => ?_)
set_option maxHeartbeats 8000000 in
set_option maxRecDepth 100000 in
theorem escutcheonlaw17_alive.calls (k : Nat)  (r : Bool) (w : World) (h : escutcheonlaw17_alive.f k  = some r) :
    Calls Try.prog 10 #[] w fun e w' => e = .returned (.bool r) ∧ Below w.heap.size w w' := by
  have HB := Aside0.mk (Below.refl w.heap.size w)
  have H : ((glob_Plain.f k (⟨#[97, 92, 42, 98]⟩ : ByteArray)).bind fun bt140 => ((glob_Match.f k (⟨#[117, 115, 101, 114, 58, 42]⟩ : ByteArray) (⟨#[117, 115, 101, 114, 58, 55]⟩ : ByteArray)).bind fun t142 => (if t142 = true then ((glob_Match.f k (⟨#[117, 115, 101, 114, 58, 63]⟩ : ByteArray) (⟨#[117, 115, 101, 114, 58, 55, 55]⟩ : ByteArray)).bind fun t143 => (if t143 = true then (none) else ((glob_Match.f k (⟨#[92, 42]⟩ : ByteArray) (⟨#[42]⟩ : ByteArray)).bind fun t144 => (if t144 = true then (if bt140.2 = true then (if bt140.1.toList = ([97, 42, 98] : List UInt8) then ((glob_Quote.f (⟨#[97, 42]⟩ : ByteArray)).bind fun t145 => (if t145.toList = ([97, 92, 42] : List UInt8) then ((glob_Right.f k (⟨#[92]⟩ : ByteArray)).bind fun t146 => (some (!t146))) else (none))) else (none)) else (none)) else (none))))) else (none)))) = some r := h
  clear h
  replace H := Option.bind_eq_some_iff.mp H
  obtain ⟨⟨t140, t141⟩, A10, H⟩ := H
  replace H : ((glob_Match.f k (⟨#[117, 115, 101, 114, 58, 42]⟩ : ByteArray) (⟨#[117, 115, 101, 114, 58, 55]⟩ : ByteArray)).bind fun t142 => (if t142 = true then ((glob_Match.f k (⟨#[117, 115, 101, 114, 58, 63]⟩ : ByteArray) (⟨#[117, 115, 101, 114, 58, 55, 55]⟩ : ByteArray)).bind fun t143 => (if t143 = true then (none) else ((glob_Match.f k (⟨#[92, 42]⟩ : ByteArray) (⟨#[42]⟩ : ByteArray)).bind fun t144 => (if t144 = true then (if t141 = true then (if t140.toList = ([97, 42, 98] : List UInt8) then ((glob_Quote.f (⟨#[97, 42]⟩ : ByteArray)).bind fun t145 => (if t145.toList = ([97, 92, 42] : List UInt8) then ((glob_Right.f k (⟨#[92]⟩ : ByteArray)).bind fun t146 => (some (!t146))) else (none))) else (none)) else (none)) else (none))))) else (none))) = some r := H
  have A1 := Aside0.mk A10
  clear A10
  replace H := Option.bind_eq_some_iff.mp H
  obtain ⟨t142, A20, H⟩ := H
  replace H : (if t142 = true then ((glob_Match.f k (⟨#[117, 115, 101, 114, 58, 63]⟩ : ByteArray) (⟨#[117, 115, 101, 114, 58, 55, 55]⟩ : ByteArray)).bind fun t143 => (if t143 = true then (none) else ((glob_Match.f k (⟨#[92, 42]⟩ : ByteArray) (⟨#[42]⟩ : ByteArray)).bind fun t144 => (if t144 = true then (if t141 = true then (if t140.toList = ([97, 42, 98] : List UInt8) then ((glob_Quote.f (⟨#[97, 42]⟩ : ByteArray)).bind fun t145 => (if t145.toList = ([97, 92, 42] : List UInt8) then ((glob_Right.f k (⟨#[92]⟩ : ByteArray)).bind fun t146 => (some (!t146))) else (none))) else (none)) else (none)) else (none))))) else (none)) = some r := H
  have A2 := Aside0.mk A20
  clear A20
  by_cases c3 : t142 = true
  · subst c3
    have H1 : ((glob_Match.f k (⟨#[117, 115, 101, 114, 58, 63]⟩ : ByteArray) (⟨#[117, 115, 101, 114, 58, 55, 55]⟩ : ByteArray)).bind fun t143 => (if t143 = true then (none) else ((glob_Match.f k (⟨#[92, 42]⟩ : ByteArray) (⟨#[42]⟩ : ByteArray)).bind fun t144 => (if t144 = true then (if t141 = true then (if t140.toList = ([97, 42, 98] : List UInt8) then ((glob_Quote.f (⟨#[97, 42]⟩ : ByteArray)).bind fun t145 => (if t145.toList = ([97, 92, 42] : List UInt8) then ((glob_Right.f k (⟨#[92]⟩ : ByteArray)).bind fun t146 => (some (!t146))) else (none))) else (none)) else (none)) else (none))))) = some r := by rw [if_pos rfl] at H; exact H
    clear H
    have H := H1
    clear H1
    replace H := Option.bind_eq_some_iff.mp H
    obtain ⟨t143, A40, H⟩ := H
    replace H : (if t143 = true then (none) else ((glob_Match.f k (⟨#[92, 42]⟩ : ByteArray) (⟨#[42]⟩ : ByteArray)).bind fun t144 => (if t144 = true then (if t141 = true then (if t140.toList = ([97, 42, 98] : List UInt8) then ((glob_Quote.f (⟨#[97, 42]⟩ : ByteArray)).bind fun t145 => (if t145.toList = ([97, 92, 42] : List UInt8) then ((glob_Right.f k (⟨#[92]⟩ : ByteArray)).bind fun t146 => (some (!t146))) else (none))) else (none)) else (none)) else (none)))) = some r := H
    have A4 := Aside0.mk A40
    clear A40
    by_cases c5 : t143 = true
    · subst c5
      have H1 : (none) = some r := by rw [if_pos rfl] at H; exact H
      clear H
      have H := H1
      clear H1
      exact absurd H (by simp)
    · replace c5 := Bool.eq_false_iff.mpr c5
      subst c5
      have H1 : ((glob_Match.f k (⟨#[92, 42]⟩ : ByteArray) (⟨#[42]⟩ : ByteArray)).bind fun t144 => (if t144 = true then (if t141 = true then (if t140.toList = ([97, 42, 98] : List UInt8) then ((glob_Quote.f (⟨#[97, 42]⟩ : ByteArray)).bind fun t145 => (if t145.toList = ([97, 92, 42] : List UInt8) then ((glob_Right.f k (⟨#[92]⟩ : ByteArray)).bind fun t146 => (some (!t146))) else (none))) else (none)) else (none)) else (none))) = some r := by rw [if_neg (show ¬ (false = true) by decide)] at H; exact H
      clear H
      have H := H1
      clear H1
      replace H := Option.bind_eq_some_iff.mp H
      obtain ⟨t144, A60, H⟩ := H
      replace H : (if t144 = true then (if t141 = true then (if t140.toList = ([97, 42, 98] : List UInt8) then ((glob_Quote.f (⟨#[97, 42]⟩ : ByteArray)).bind fun t145 => (if t145.toList = ([97, 92, 42] : List UInt8) then ((glob_Right.f k (⟨#[92]⟩ : ByteArray)).bind fun t146 => (some (!t146))) else (none))) else (none)) else (none)) else (none)) = some r := H
      have A6 := Aside0.mk A60
      clear A60
      by_cases c7 : t144 = true
      · subst c7
        have H1 : (if t141 = true then (if t140.toList = ([97, 42, 98] : List UInt8) then ((glob_Quote.f (⟨#[97, 42]⟩ : ByteArray)).bind fun t145 => (if t145.toList = ([97, 92, 42] : List UInt8) then ((glob_Right.f k (⟨#[92]⟩ : ByteArray)).bind fun t146 => (some (!t146))) else (none))) else (none)) else (none)) = some r := by rw [if_pos rfl] at H; exact H
        clear H
        have H := H1
        clear H1
        by_cases c8 : t141 = true
        · subst c8
          have H1 : (if t140.toList = ([97, 42, 98] : List UInt8) then ((glob_Quote.f (⟨#[97, 42]⟩ : ByteArray)).bind fun t145 => (if t145.toList = ([97, 92, 42] : List UInt8) then ((glob_Right.f k (⟨#[92]⟩ : ByteArray)).bind fun t146 => (some (!t146))) else (none))) else (none)) = some r := by rw [if_pos rfl] at H; exact H
          clear H
          have H := H1
          clear H1
          by_cases c9 : t140.toList = ([97, 42, 98] : List UInt8)
          · rw [if_pos c9] at H
            have c9b0 : (t140.toList == ([97, 42, 98] : List UInt8)) = true := beq_iff_eq.mpr c9
            have c9b1 : (t140.toList != ([97, 42, 98] : List UInt8)) = false := bne_eq_false_iff_eq.mpr c9
            clear c9
            replace H := Option.bind_eq_some_iff.mp H
            obtain ⟨t145, A100, H⟩ := H
            replace H : (if t145.toList = ([97, 92, 42] : List UInt8) then ((glob_Right.f k (⟨#[92]⟩ : ByteArray)).bind fun t146 => (some (!t146))) else (none)) = some r := H
            have A10 := Aside0.mk A100
            clear A100
            by_cases c11 : t145.toList = ([97, 92, 42] : List UInt8)
            · rw [if_pos c11] at H
              have c11b0 : (t145.toList == ([97, 92, 42] : List UInt8)) = true := beq_iff_eq.mpr c11
              have c11b1 : (t145.toList != ([97, 92, 42] : List UInt8)) = false := bne_eq_false_iff_eq.mpr c11
              clear c11
              replace H := Option.bind_eq_some_iff.mp H
              obtain ⟨t146, A120, H⟩ := H
              replace H : (some (!t146)) = some r := H
              have A12 := Aside0.mk A120
              clear A120
              obtain rfl := Option.some.inj H
              go_enter Try.func10, Try.ntmps10
              go_wp2_with (first | ((with_reducible refine gate_callee (f := 16) rfl ?_); refine goesL_ (some 4) rfl rfl Try.func16 (by kernel_rfl) rfl #[.string (⟨#[97, 92, 42, 98]⟩ : ByteArray)] rfl (by (try simp only [List.map_toArray, List.map_cons, List.map_nil]); first | done | rfl | (simp only [List.length_drop, List.length_take]; rfl)) ?_; (with_reducible refine (glob_Plain.calls k (⟨#[97, 92, 42, 98]⟩ : ByteArray) t140 true _ A1.out).mono ?_); rintro e w13 ⟨rfl, hb⟩; refine ⟨_, rfl, ?_⟩; have n0_ := Aside0.mk (below_step (by repeat (first | (with_reducible first | exact HB.out | apply below_alloc | apply pw_below_drewN | apply below_drew1) | exact HB.out)) hb); clear HB; have HB := n0_; clear n0_; (try clear hb); (try clear hb2); (try clear hk); (try clear hi)) | ((with_reducible refine gate_callee (f := 13) rfl ?_); refine goesL_ (some 7) rfl rfl Try.func13 (by kernel_rfl) rfl #[.string (⟨#[117, 115, 101, 114, 58, 42]⟩ : ByteArray), .string (⟨#[117, 115, 101, 114, 58, 55]⟩ : ByteArray)] rfl (by (try simp only [List.map_toArray, List.map_cons, List.map_nil]); first | done | rfl | (simp only [List.length_drop, List.length_take]; rfl)) ?_; (with_reducible refine (glob_Match.calls k (⟨#[117, 115, 101, 114, 58, 42]⟩ : ByteArray) (⟨#[117, 115, 101, 114, 58, 55]⟩ : ByteArray) true _ A2.out).mono ?_); rintro e w14 ⟨rfl, hb⟩; refine ⟨_, rfl, ?_⟩; have n0_ := Aside0.mk (below_step (by repeat (first | (with_reducible first | exact HB.out | apply below_alloc | apply pw_below_drewN | apply below_drew1) | exact HB.out)) hb); clear HB; have HB := n0_; clear n0_; (try clear hb); (try clear hb2); (try clear hk); (try clear hi)) | (go_at_call 13; (with_reducible refine (glob_Match.calls k (⟨#[117, 115, 101, 114, 58, 63]⟩ : ByteArray) (⟨#[117, 115, 101, 114, 58, 55, 55]⟩ : ByteArray) false _ A4.out).mono ?_); rintro e w15 ⟨rfl, hb⟩; have n0_ := Aside0.mk (below_step (by repeat (first | (with_reducible first | exact HB.out | apply below_alloc | apply pw_below_drewN | apply below_drew1) | exact HB.out)) hb); clear HB; have HB := n0_; clear n0_; (try clear hb); (try clear hb2); (try clear hk); (try clear hi)) | (go_at_call 13; (with_reducible refine (glob_Match.calls k (⟨#[92, 42]⟩ : ByteArray) (⟨#[42]⟩ : ByteArray) true _ A6.out).mono ?_); rintro e w16 ⟨rfl, hb⟩; have n0_ := Aside0.mk (below_step (by repeat (first | (with_reducible first | exact HB.out | apply below_alloc | apply pw_below_drewN | apply below_drew1) | exact HB.out)) hb); clear HB; have HB := n0_; clear n0_; (try clear hb); (try clear hb2); (try clear hk); (try clear hi)) | (go_at_call 15; (with_reducible refine (glob_Quote.calls (⟨#[97, 42]⟩ : ByteArray) t145 _ A10.out).mono ?_); rintro e w17 ⟨rfl, hb⟩; have n0_ := Aside0.mk (below_step (by repeat (first | (with_reducible first | exact HB.out | apply below_alloc | apply pw_below_drewN | apply below_drew1) | exact HB.out)) hb); clear HB; have HB := n0_; clear n0_; (try clear hb); (try clear hb2); (try clear hk); (try clear hi)) | (go_at_call 12; (with_reducible refine (glob_Right.calls k (⟨#[92]⟩ : ByteArray) t146 _ A12.out).mono ?_); rintro e w18 ⟨rfl, hb⟩; have n0_ := Aside0.mk (below_step (by repeat (first | (with_reducible first | exact HB.out | apply below_alloc | apply pw_below_drewN | apply below_drew1) | exact HB.out)) hb); clear HB; have HB := n0_; clear n0_; (try clear hb); (try clear hb2); (try clear hk); (try clear hi)) | (go_at_call 16; (with_reducible refine (glob_Plain.calls k (⟨#[97, 92, 42, 98]⟩ : ByteArray) t140 true _ A1.out).mono ?_); rintro e w13 ⟨rfl, hb⟩; have n0_ := Aside0.mk (below_step (by repeat (first | (with_reducible first | exact HB.out | apply below_alloc | apply pw_below_drewN | apply below_drew1) | exact HB.out)) hb); clear HB; have HB := n0_; clear n0_; (try clear hb); (try clear hb2); (try clear hk); (try clear hi)) | (go_at_call 13; (with_reducible refine (glob_Match.calls k (⟨#[117, 115, 101, 114, 58, 42]⟩ : ByteArray) (⟨#[117, 115, 101, 114, 58, 55]⟩ : ByteArray) true _ A2.out).mono ?_); rintro e w14 ⟨rfl, hb⟩; have n0_ := Aside0.mk (below_step (by repeat (first | (with_reducible first | exact HB.out | apply below_alloc | apply pw_below_drewN | apply below_drew1) | exact HB.out)) hb); clear HB; have HB := n0_; clear n0_; (try clear hb); (try clear hb2); (try clear hk); (try clear hi)))
              go_ret
              exact ⟨by first | rfl | (simp [errW_none, errW_some] <;> rfl) | (simp [*, errW_none, errW_some] <;> rfl), by repeat (first | (with_reducible first | exact HB.out | apply below_alloc | apply pw_below_drewN | apply below_drew1) | exact HB.out)⟩
            · rw [if_neg c11] at H
              exact absurd H (by simp)
          · rw [if_neg c9] at H
            exact absurd H (by simp)
        · replace c8 := Bool.eq_false_iff.mpr c8
          subst c8
          have H1 : (none) = some r := by rw [if_neg (show ¬ (false = true) by decide)] at H; exact H
          clear H
          have H := H1
          clear H1
          exact absurd H (by simp)
      · replace c7 := Bool.eq_false_iff.mpr c7
        subst c7
        have H1 : (none) = some r := by rw [if_neg (show ¬ (false = true) by decide)] at H; exact H
        clear H
        have H := H1
        clear H1
        exact absurd H (by simp)
  · replace c3 := Bool.eq_false_iff.mpr c3
    subst c3
    have H1 : (none) = some r := by rw [if_neg (show ¬ (false = true) by decide)] at H; exact H
    clear H
    have H := H1
    clear H1
    exact absurd H (by simp)

/-! ### escutcheonref14_Glob: function 11 -/
def escutcheonref14_Glob.l0 : Nat → ByteArray → Int → Option (Bool)
  | 0, _, _ => none
  | k + 1, x0, x3 => if x3 < (x0.size : Int) then (if 0 ≤ x3 then (if (bt x0 x3) = 92 then (if (wrap64 (x3 + 1)) ≥ (x0.size : Int) then (some false) else (escutcheonref14_Glob.l0 k x0 (wrap64 ((wrap64 (x3 + 1)) + 1)))) else (escutcheonref14_Glob.l0 k x0 (wrap64 (x3 + 1)))) else (none)) else (some (decide ((x0.size : Int) ≤ 40)))
def escutcheonref14_Glob.f (k : Nat) (a0 : ByteArray) : Option (Bool) := escutcheonref14_Glob.l0 k a0 0
theorem escutcheonref14_Glob.mono_l : ∀ k, (∀ y0 y1, LeO (escutcheonref14_Glob.l0 k y0 y1) (escutcheonref14_Glob.l0 (k + 1) y0 y1))
  | 0 => fun _ _ r h => by simp [escutcheonref14_Glob.l0] at h
  | k + 1 => by
    have ih0 := escutcheonref14_Glob.mono_l k
    · intro y0 y1
      unfold escutcheonref14_Glob.l0
      repeat' first
      | (with_reducible exact ih0 _ _)
      | (with_reducible exact LeO.refl _)
      | (with_reducible exact LeO.none _)
      | (with_reducible refine LeO.ite ?_ ?_)
      | (with_reducible refine LeO.bind ?_ (fun _ => ?_))
      | exact ih0 _ _
      | exact LeO.none _
      | refine LeO.ite ?_ ?_
      | refine LeO.bind ?_ (fun _ => ?_)
theorem escutcheonref14_Glob.mono : ∀ a0 k, LeO (escutcheonref14_Glob.f k a0) (escutcheonref14_Glob.f (k + 1) a0) := by
  intro a0 k
  have ih0 := escutcheonref14_Glob.mono_l k
  unfold escutcheonref14_Glob.f
  repeat' first
      | (with_reducible exact ih0 _ _)
      | (with_reducible exact LeO.refl _)
      | (with_reducible exact LeO.none _)
      | (with_reducible refine LeO.ite ?_ ?_)
      | (with_reducible refine LeO.bind ?_ (fun _ => ?_))
      | exact ih0 _ _
      | exact LeO.none _
      | refine LeO.ite ?_ ?_
      | refine LeO.bind ?_ (fun _ => ?_)
set_option maxHeartbeats 8000000 in
set_option maxRecDepth 100000 in
theorem escutcheonref14_Glob.calls (k : Nat) (a0 : ByteArray) (r : Bool) (w : World) (h : escutcheonref14_Glob.f k a0 = some r) :
    Calls Try.prog 11 #[.string a0] w fun e w' => e = .returned (.bool r) ∧ Drawn0 w w' := by
  have H : (escutcheonref14_Glob.l0 k a0 0) = some r := h
  clear h
  have H' := Aside0.mk H
  clear H
  go_enter Try.func11, Try.ntmps11
  go_wp2
  go_loopg [3] k (fun kq v3 w' => ∃ (x3_1 : Int), v3 = .int .i64 x3_1 ∧ Aside0 (escutcheonref14_Glob.l0 kq a0 x3_1 = some r) ∧ Aside0 (kq ≤ k) ∧ Drawn0 w w')
  case atStart => exact ⟨(0), (by first | rfl | (simp; done) | (simp [*]; done)), H', ⟨Nat.le_refl _⟩, by repeat (first | exact Drawn0.refl _ | apply Drawn0.step)⟩
  case round =>
    clear H'
    try clear c1
    obtain ⟨x3_1, rfl, HA, HK1, ⟨m1, rfl⟩⟩ := hrel
    cases gk with
    | zero => exact absurd HA.out (by simp [escutcheonref14_Glob.l0])
    | succ k1 =>
      have H := HA.out
      clear HA
      simp only [escutcheonref14_Glob.l0] at H
      by_cases c2 : x3_1 < (a0.size : Int)
      · rw [if_pos c2] at H
        have c2b0 : decide (x3_1 < (a0.size : Int)) = true := decide_eq_true c2
        clear c2
        by_cases c3 : 0 ≤ x3_1
        · rw [if_pos c3] at H
          have c3b0 : decide (0 ≤ x3_1) = true := decide_eq_true c3
          clear c3
          by_cases c5 : (bt a0 x3_1) = 92
          · rw [if_pos c5] at H
            have c5b0 : ((bt a0 x3_1) == 92) = true := beq_iff_eq.mpr c5
            have c5b1 : ((bt a0 x3_1) != 92) = false := bne_eq_false_iff_eq.mpr c5
            clear c5
            by_cases c6 : (wrap64 (x3_1 + 1)) ≥ (a0.size : Int)
            · rw [if_pos c6] at H
              have c6b0 : decide ((a0.size : Int) ≤ (wrap64 (x3_1 + 1))) = true := decide_eq_true c6
              clear c6
              obtain rfl := Option.some.inj H
              have p4 : 0 ≤ (x3_1 : Int) := of_decide_eq_true (by first | (with_reducible assumption) | assumption)
              have q4 : x3_1 < (a0.size : Int) := of_decide_eq_true (by first | (with_reducible assumption) | assumption)
              have hx4 := bt_at a0 x3_1
              replace p4 := eq_true p4
              replace q4 := eq_true q4
              go_wp2
              go_ret
              exact ⟨by first | rfl | (simp; done) | (simp [*]; done), by repeat (first | exact Drawn0.refl _ | apply Drawn0.step)⟩
            · rw [if_neg c6] at H
              have c6b0 : decide ((a0.size : Int) ≤ (wrap64 (x3_1 + 1))) = false := decide_eq_false c6
              clear c6
              have H' := Aside0.mk H
              clear H
              have p4 : 0 ≤ (x3_1 : Int) := of_decide_eq_true (by first | (with_reducible assumption) | assumption)
              have q4 : x3_1 < (a0.size : Int) := of_decide_eq_true (by first | (with_reducible assumption) | assumption)
              have hx4 := bt_at a0 x3_1
              replace p4 := eq_true p4
              replace q4 := eq_true q4
              go_wp2
              go_roundg k1
              case measure => have := HK1.out; omega
              case rel => exact ⟨(wrap64 ((wrap64 (x3_1 + 1)) + 1)), (by first | rfl | (simp; done) | (simp [*]; done)), H', ⟨by have := HK1.out; omega⟩, by repeat (first | exact Drawn0.refl _ | apply Drawn0.step)⟩
          · rw [if_neg c5] at H
            have c5b0 : ((bt a0 x3_1) == 92) = false := beq_eq_false_iff_ne.mpr c5
            have c5b1 : ((bt a0 x3_1) != 92) = true := bne_iff_ne.mpr c5
            have H' := Aside0.mk H
            clear H
            have p4 : 0 ≤ (x3_1 : Int) := of_decide_eq_true (by first | (with_reducible assumption) | assumption)
            have q4 : x3_1 < (a0.size : Int) := of_decide_eq_true (by first | (with_reducible assumption) | assumption)
            have hx4 := bt_at a0 x3_1
            replace p4 := eq_true p4
            replace q4 := eq_true q4
            go_wp2
            go_roundg k1
            case measure => have := HK1.out; omega
            case rel => exact ⟨(wrap64 (x3_1 + 1)), (by first | rfl | (simp; done) | (simp [*]; done)), H', ⟨by have := HK1.out; omega⟩, by repeat (first | exact Drawn0.refl _ | apply Drawn0.step)⟩
        · rw [if_neg c3] at H
          exact absurd H (by simp)
      · rw [if_neg c2] at H
        have c2b0 : decide (x3_1 < (a0.size : Int)) = false := decide_eq_false c2
        clear c2
        obtain rfl := Option.some.inj H
        go_wp2
        go_ret
        exact ⟨by first | rfl | (simp; done) | (simp [*]; done), by repeat (first | exact Drawn0.refl _ | apply Drawn0.step)⟩

end Go.Proofs.Ytigbeielobdfiaa.P
