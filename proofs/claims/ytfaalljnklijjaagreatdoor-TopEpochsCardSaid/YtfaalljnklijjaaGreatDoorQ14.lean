/- What this text proves serves the claim of its last text: a part of a verified executor, its walks and its runs (S26, S33, S34, S23, S25, S27, S19). -/
import Derived.Test.YtfaalljnklijjaaGreatDoorQ02
import Derived.Lib.UnsafeStr
import Derived.Shelf.Strings.Builder1
import Derived.Test.YtfaalljnklijjaaGreatDoorQ12
import Derived.Lib.Join
import Derived.Lib.Repeat
import Derived.Lib.Bytealg
import Derived.Test.YtfaalljnklijjaaGreatDoorQ01
set_option linter.all false
section
namespace Go.X
open Go.RowKit
set_option linter.unusedSimpArgs false
set_option linter.unusedSectionVars false
section
variable {P : Program} {w : World}
theorem add_add' (a : Addr) (i j : Nat) : (a.add i).add j = a.add (i + j) := by
  unfold Addr.add
  by_cases hi : i = 0
  · subst hi; simp
  · by_cases hj : j = 0
    · subst hj; simp
    · simp [hi, hj]; omega
theorem bytes_inv {ρ : Rho} : ∀ {l : List XV} {us : List Value} {s : List Nat}, bytesOf l = some s → VRs ρ l us → ∃ ns : List Int, us = ns.map (Value.int .u8) ∧ (ns.map fun m => (UInt8.ofNat m.toNat).toNat) = s
  | [], _, s, h, .nil => by obtain rfl := Option.some.inj h; exact ⟨[], rfl, rfl⟩
  | y :: l, _, s, h, .cons _ v _ us hv ht => by
    have hy : ∃ m : Nat, y = .int .u8 (.ofNat m) := by
      unfold bytesOf at h
      split at h
      · rename_i e; cases e
      · rename_i e; injection e with e1 e2; exact ⟨_, e1⟩
      · cases h
    obtain ⟨m, rfl⟩ := hy
    simp only [bytesOf] at h
    cases e : bytesOf l with
    | none => rw [e] at h; cases h
    | some r =>
      rw [e] at h
      obtain rfl := Option.some.inj h
      obtain ⟨ns, rfl, hs⟩ := bytes_inv e ht
      cases hv
      refine ⟨(m : Int) :: ns, rfl, ?_⟩
      rw [List.map_cons, hs]
      congr 1
theorem loadB : ∀ (ns : List Int) (a : Addr) (acc : ByteArray), (∀ j m, ns[j]? = some m → w.cell? (a.add j) = some (.int .u8 m)) →
    (loadBytes a acc ns.length).run P w = .ok ⟨acc.data ++ (ns.map fun m => UInt8.ofNat m.toNat).toArray⟩ w
  | [], a, acc, _ => by simp [loadBytes]
  | x :: l, a, acc, h => by
    have h0 : w.cell? a = some (.int .u8 x) := by simpa [Addr.add] using h 0 x rfl
    have ih := loadB l (a.add 1) (acc.push (UInt8.ofNat x.toNat)) (fun j y hy => by
      rw [add_add', Nat.add_comm 1 j]
      exact h (j + 1) y (by simpa using hy))
    have hp : (acc.push (UInt8.ofNat x.toNat)).data = acc.data.push (UInt8.ofNat x.toNat) := rfl
    simp only [List.length_cons, loadBytes, Sem.run_bind, run_load, h0, Result.andThen]
    refine ih.trans ?_
    rw [hp]
    simp
theorem unsafeS (pt it ty e : TypeId) (hp : P.underlying pt = some (.pointer e)) (hc : P.cellsOf e = 1) (g cells : Nat) (hsh : w.shape? g = some (e, cells)) (ns : List Int) (h0 : ns ≠ []) (hn : ns.length ≤ cells) (h63 : ns.length ≤ 9223372036854775807)
    (hcell : ∀ j m, ns[j]? = some m → w.cell? ((⟨g, 0, none⟩ : Addr).add j) = some (.int .u8 m)) :
    (Builtin.unsafeString_ #[pt, it] ty #[.pointer (some ⟨g, 0, none⟩), .int .i64 ns.length]).run P w = .ok (.string ⟨(ns.map fun m => UInt8.ofNat m.toNat).toArray⟩) (w.freeze ⟨g, 0, none⟩ ns.length) := by
  have hl : ns.length ≠ 0 := by simpa using h0
  have hlb := loadB (P := P) ns ⟨g, 0, none⟩ .empty hcell
  have hlies := Lib.liesAt_bytes (P := P) hc (cells / P.cellsOf e) ns.length (by rw [hc]; simpa using hn)
  have h1 : ¬ (9223372036854775807 : Int) < (ns.length : Int) := by omega
  have h2 : ¬ (ns.length : Int) < 0 := by omega
  have hmax : IntKind.i64.max = 9223372036854775807 := rfl
  have e0 : ∀ (x y : Value) h h', (#[x, y] : Array Value).getLit (n := 2) 0 h h' = x := fun _ _ _ _ => rfl
  have e1 : ∀ (x y : Value) h h', (#[x, y] : Array Value).getLit (n := 2) 1 h h' = y := fun _ _ _ _ => rfl
  delta Builtin.unsafeString_ Builtin.unsafeString_.match_3 Builtin.unsafeString_._sparseCasesOn_3
  dsimp only [Array.getLit, List.getElem_toArray, List.getElem_cons_zero, List.getElem_cons_succ]
  simp [e0, e1, asInt, asIntOf, hmax, h1, h2, hl, variablesAt, hsh, elemOf, run_underlying hp, hlies, hlb]
end
theorem freeze_other (w : World) (g n b : Nat) (h : b ≠ g) : (w.freeze ⟨g, 0, none⟩ n).heap[b]? = w.heap[b]? := by
  unfold World.freeze
  split
  · rfl
  · simp [Array.getElem?_modify, h, Ne.symm h]
theorem freeze_size (w : World) (g n : Nat) : (w.freeze ⟨g, 0, none⟩ n).heap.size = w.heap.size := by
  unfold World.freeze
  split <;> simp
theorem freeze_rest (w : World) (g n : Nat) : (w.freeze ⟨g, 0, none⟩ n).os = w.os ∧ (w.freeze ⟨g, 0, none⟩ n).tape = w.tape ∧ (w.freeze ⟨g, 0, none⟩ n).output = w.output := by
  unfold World.freeze
  split <;> exact ⟨rfl, rfl, rfl⟩
section
variable {P : Program} {ρ : Rho} {H : XH} {w : World} {f : FuncId}
theorem Step.frozen (hR : Rep ρ H w) {n g off lim : Nat} {o : XO} (hg : H.get n = some o) (hro : o.ro = false) (hρ : ρ n = some (g, off, lim)) (m : Nat) {w' : World} (hw : w' = w.freeze ⟨g, 0, none⟩ m) : Step ρ H w ρ (H.del n) w' := by
  subst hw
  have f : ∀ q r, (H.del n).get q = some r → q ≠ n ∧ H.get q = some r := by
    intro q r hq
    rw [XH.get_del] at hq
    by_cases e : q = n
    · rw [if_pos e] at hq; cases hq
    · rw [if_neg e] at hq; exact ⟨e, hq⟩
  obtain ⟨r1, r2, r3⟩ := freeze_rest w g m
  have hs := freeze_size w g m
  refine ⟨⟨fun q p hq => ?_, fun q k p p' c x y x' y' hm hk hx hy => hR.inj _ _ _ _ _ _ _ _ _ (f _ _ hm).2 (f _ _ hk).2 hx hy⟩, Nat.le_refl _, fun _ _ => rfl, Ext.refl _, r1, r2, r3, by omega, fun k hk hf => ?_, fun k ⟨q, p, x, y, hm, hp, hx⟩ => .inl ⟨q, p, x, y, (f _ _ hm).2, hp, hx⟩, fun k ⟨q, p, x, y, hm, hx⟩ => .inl ⟨q, p, x, y, (f _ _ hm).2, hx⟩⟩
  · obtain ⟨h1, h2⟩ := f _ _ hq
    obtain ⟨b, off', lim', h3, h4⟩ := hR.obj _ _ h2
    refine ⟨b, off', lim', h3, h4.of_block (Ext.refl _) (by omega) (freeze_other w g m b (fun e => ?_))⟩
    subst e
    exact h1 (hR.inj _ _ _ _ _ _ _ _ _ h2 hg h3 hρ)
  · refine freeze_other w g m k (fun e => hf ?_)
    subst e
    exact ⟨n, o, off, lim, hg, hro, hρ⟩
theorem string_intr {T : TypeId} (henter : ∀ args w, (callFunc f args).run P w = .ok (.enter f args) w)
    (hnil : ∀ (b k : Nat) (w : World), w.cell? ⟨b, k + 1, none⟩ = some (.slice none 0 0) → Calls P f #[.pointer (some ⟨b, k, none⟩)] w fun e w' => e = .returned (.string ⟨#[]⟩) ∧ w' = w.drew)
    (hrow : ∀ (b k g cap cells : Nat) (ns : List Int) (w : World), w.cell? ⟨b, k + 1, none⟩ = some (.slice (some ⟨g, 0, none⟩) ns.length cap) → ns ≠ [] → ns.length ≤ cap → w.shape? g = some (T, cells) → ns.length ≤ cells → ns.length ≤ 1000000 →
      (∀ j m, ns[j]? = some m → w.cell? ⟨g, j, none⟩ = some (.int .u8 m)) →
      Calls P f #[.pointer (some ⟨b, k, none⟩)] w fun e w' => e = .returned (.string ⟨(ns.map fun m => UInt8.ofNat m.toNat).toArray⟩) ∧ w' = w.drew.freeze ⟨g, 0, none⟩ ns.length) : IntrOK P f (fun _ => iString T) := by
  intro call _ _ args H r H' h
  simp only [iString] at h
  split at h
  · rename_i b o
    split at h
    · rename_i hc
      have := Option.some.inj h
      injection this with h3 h4
      subst h3; subst h4
      refine ⟨Nat.le_refl _, fun ρ w vs hR hg hv hF => .inr ⟨henter _ _, ?_⟩⟩
      cases hv with
      | cons _ v _ m hp ht =>
        cases ht
        cases hp with
        | ptr _ _ blk off lim hρ =>
          obtain ⟨a, u, ha, h4, h5⟩ := cell_run (p := .nilp) (o := o + 1) hR (VR.ptr b (o + 1) blk off lim hρ) hc
          injection ha with ha
          injection ha with ha
          subst ha
          cases h5
          refine (hnil blk (off + o) w h4).mono (fun e w' h => ?_)
          obtain ⟨rfl, rfl⟩ := h
          exact ⟨_, rfl, ρ, .str _ _ rfl, Step.drawn hR rfl rfl rfl rfl⟩
    · rename_i n ff l c es ex hc
      split at h
      · rename_i cs t hn
        obtain ⟨hb, k⟩ := bif_some h
        clear h
        simp only [Bool.and_eq_true] at hb
        obtain ⟨⟨b1, b2⟩, b3, b4, b5⟩ := hb
        obtain rfl := Nat.eq_of_beq_eq_true b1
        obtain rfl := Nat.eq_of_beq_eq_true b2
        obtain rfl := Nat.eq_of_beq_eq_true b3
        have b4 := Nat.le_of_ble_eq_true b4
        have b5 := Nat.le_of_ble_eq_true b5
        split at k
        · rename_i xs hxs
          split at k
          · rename_i s hs
            have := Option.some.inj k
            injection this with h3 h4
            subst h3; subst h4
            refine ⟨Nat.le_refl _, fun ρ w vs hR hg hv hF => .inr ⟨henter _ _, ?_⟩⟩
            cases hv with
            | cons _ v _ m hp ht =>
              cases ht
              cases hp with
              | ptr _ _ blk off lim hρ =>
                obtain ⟨a, u, ha, h4, h5⟩ := cell_run (p := .nilp) (o := o + 1) hR (VR.ptr b (o + 1) blk off lim hρ) hc
                injection ha with ha
                injection ha with ha
                subst ha
                obtain ⟨bl, off2, lim2, ad, c2, rfl, hρ2, k1, k2, k3, k4⟩ := h5.inv_slice
                obtain ⟨b', off', lim', hρ', hO⟩ := hR.obj _ _ hn
                rw [hρ2] at hρ'
                simp only [Option.some.injEq, Prod.mk.injEq] at hρ'
                obtain ⟨rfl, rfl, rfl⟩ := hρ'
                obtain ⟨rfl, mm, hsh, hle, _⟩ := CR.tag hO _ rfl
                rw [show (Nat.succ (Nat.mul 2 T)) / 2 = T by simp only [Nat.mul_eq]; omega] at hsh
                have had : ad = ⟨bl, 0, none⟩ := by
                  cases ex with
                  | true => exact (k3 rfl).2
                  | false => exact (k4 rfl).1 (by omega)
                subst had
                obtain ⟨us, hus, hcell⟩ := CR.vals hO
                obtain ⟨e1, e2⟩ := takeN_eq _ _ _ hxs
                have hV : VRs ρ xs (us.take l) := by rw [e1]; exact hus.take l
                obtain ⟨ns, e3, e4⟩ := bytes_inv hs hV
                have hnl : ns.length = l := by
                  have := hV.len
                  rw [e3, List.length_map] at this
                  omega
                subst hnl
                have hcl : ns.length ≤ cs.length := by
                  have := congrArg List.length e1
                  rw [List.length_take] at this
                  omega
                refine (hrow blk (off + o) bl c2 mm ns w h4 (fun e => by subst e; simp at b4) (by omega) hsh (by omega) b5 (fun j m hj => ?_)).mono (fun e w' h => ?_)
                · have h6 : (us.take ns.length)[j]? = some (.int .u8 m) := by rw [e3, List.getElem?_map, hj]; rfl
                  have hj1 := (List.getElem?_eq_some_iff.1 hj).1
                  rw [List.getElem?_take, if_pos hj1] at h6
                  have := hcell _ _ h6
                  rwa [Nat.zero_add] at this
                · obtain ⟨rfl, rfl⟩ := h
                  refine ⟨_, rfl, ρ, .str _ _ ?_, (Step.drawn (w' := w.drew) hR rfl rfl rfl rfl).trans (Step.frozen (w := w.drew) (hR.drawn rfl) hn rfl hρ2 _ rfl)⟩
                  rw [← e4]
                  simp
          · cases k
        · cases k
      · cases h
    · cases h
  · cases h
end
end Go.X
end
section
namespace Go.X
open Go.RowKit Go.Shelf Go.Lib Go.Proofs
section
variable {P : Program} {w : World}
theorem run_loadI : ∀ (l : List Int) (a : Addr) (acc : ByteArray), (∀ j x, l[j]? = some x → w.cell? (a.add j) = some (.int .u8 x)) →
    (loadBytes a acc l.length).run P w = .ok ⟨acc.data ++ (l.map fun m => UInt8.ofNat m.toNat).toArray⟩ w
  | [], a, acc, _ => by simp [loadBytes]
  | x :: l, a, acc, h => by
    have h0 : w.cell? a = some (.int .u8 x) := by
      have := h 0 x rfl
      simpa [Addr.add] using this
    have ih := run_loadI l (a.add 1) (acc.push (UInt8.ofNat x.toNat)) (fun j y hy => by
      have := h (j + 1) y (by simpa using hy)
      have e : (a.add 1).add j = a.add (j + 1) := by
        unfold Addr.add
        by_cases hj : j = 0
        · subst hj; simp
        · simp [hj]; omega
      rw [e]; exact this)
    have hx : (x.toNat).toUInt8 = UInt8.ofNat x.toNat := rfl
    simp only [List.length_cons, loadBytes, Sem.run_bind, run_load, h0, Result.andThen, hx]
    rw [ih]
    congr 1
    apply ByteArray.ext
    simp [ByteArray.push]
theorem run_unsafeString_I (pt it ty e : TypeId) (hp : P.underlying pt = some (.pointer e)) (hc : P.cellsOf e = 1) (g cells : Nat) (hsh : w.shape? g = some (e, cells)) (l : List Int) (h0 : l ≠ []) (hn : l.length ≤ cells) (h63 : l.length ≤ 9223372036854775807)
    (hcell : ∀ j x, l[j]? = some x → w.cell? ((⟨g, 0, none⟩ : Addr).add j) = some (.int .u8 x)) :
    (Builtin.unsafeString_ #[pt, it] ty #[.pointer (some ⟨g, 0, none⟩), .int .i64 l.length]).run P w = .ok (.string ⟨(l.map fun m => UInt8.ofNat m.toNat).toArray⟩) (w.freeze ⟨g, 0, none⟩ l.length) := by
  have hl : l.length ≠ 0 := by simpa using h0
  have hlb := run_loadI (P := P) (w := w) l ⟨g, 0, none⟩ .empty hcell
  have hlies := liesAt_bytes (P := P) hc (cells / P.cellsOf e) l.length (by rw [hc]; simpa using hn)
  have h63' : ¬ (9223372036854775807 : Int) < (l.length : Int) := by omega
  have hdef : Builtin.unsafeString_ #[pt, it] ty #[.pointer (some ⟨g, 0, none⟩), .int .i64 l.length] =
      (do
        let n ← asInt (.int .i64 l.length)
        if n < 0 then runtimePanic (.error "unsafe.String: len out of range")
        if n > IntKind.i64.max then unsupported (.unsafePointer "String: a length above the largest int")
        if n = 0 then pure (.string .empty)
        else if ← variablesAt ⟨g, 0, none⟩ (← elemOf pt) n.toNat then do
          let s ← loadBytes ⟨g, 0, none⟩ .empty n.toNat
          freeze ⟨g, 0, none⟩ n.toNat
          pure (.string s)
        else unsupported (.unsafePointer "String: not so many bytes at ptr")) := rfl
  rw [hdef]
  have hmax : IntKind.i64.max = 9223372036854775807 := rfl
  have hneg : ¬ (l.length : Int) < 0 := by omega
  simp [asInt, asIntOf, hmax, h63', hneg, hl, variablesAt, hsh, elemOf, run_underlying hp, hlies, hlb]
end
variable {P : Program} {ρ : Ren}
set_option maxHeartbeats 2000000 in
set_option maxRecDepth 100000 in
theorem string_row (L : Lays.n169 P ρ) (X : Builder.Extra P ρ) (b k g cap cells : Nat) (ns : List Int) (w : World) (hc : w.cell? ⟨b, k + 1, none⟩ = some (.slice (some ⟨g, 0, none⟩) ns.length cap)) (h0 : ns ≠ []) (hcap : ns.length ≤ cap) (hsh : w.shape? g = some (ρ.t 5, cells)) (hn : ns.length ≤ cells) (hm : ns.length ≤ 1000000)
    (hb : ∀ j m, ns[j]? = some m → w.cell? ⟨g, j, none⟩ = some (.int .u8 m)) :
    Calls P (ρ.f 169) #[.pointer (some ⟨b, k, none⟩)] w fun e w' => e = .returned (.string ⟨(ns.map fun m => UInt8.ofNat m.toNat).toArray⟩) ∧ w' = w.drew.freeze ⟨g, 0, none⟩ ns.length := by
  have hlz : 0 < ns.length := List.length_pos_iff.2 h0
  have c1 : w.drew.cell? ⟨b, k + 1, none⟩ = some (.slice (some ⟨g, 0, none⟩) ns.length cap) := hc
  have hSD : (Builtin.unsafeSliceData_ #[(ρ.t 37)] (ρ.t 127) #[.slice (some ⟨g, 0, none⟩) ns.length cap]).run P w.drew = .ok (.pointer (some ⟨g, 0, none⟩)) w.drew :=
    Lib.run_unsafeSliceData_row _ _ _ _ _ _ (by omega)
  have hUS : (Builtin.unsafeString_ #[(ρ.t 127), (ρ.t 3)] (ρ.t 9) #[.pointer (some ⟨g, 0, none⟩), .int .i64 ns.length]).run P w.drew = .ok (.string ⟨(ns.map fun m => UInt8.ofNat m.toNat).toArray⟩) (w.drew.freeze ⟨g, 0, none⟩ ns.length) := by
    refine run_unsafeString_I (w := w.drew) (ρ.t 127) (ρ.t 3) (ρ.t 9) (ρ.t 5) L.t127 X.cellsByte g cells hsh ns h0 hn (by omega) ?_
    intro j x hx
    have e : (⟨g, 0, none⟩ : Addr).add j = ⟨g, j, none⟩ := by
      unfold Addr.add
      by_cases hj : j = 0
      · subst hj; simp
      · simp [hj]
    rw [e]
    exact hb j x hx
  have mixed := L.mixed
  have t72 := L.t72; have a72 := L.a72; have z72 := L.z72; have v72 := L.v72; have u72 := run_underlying L.t72
  have t70 := L.t70; have a70 := L.a70; have z70 := L.z70; have v70 := L.v70; have u70 := run_underlying L.t70
  have t37 := L.t37; have a37 := L.a37; have z37 := L.z37; have v37 := L.v37; have u37 := run_underlying L.t37
  have t127 := L.t127; have a127 := L.a127; have z127 := L.z127; have v127 := L.v127; have u127 := run_underlying L.t127
  have t3 := L.t3; have a3 := L.a3; have z3 := L.z3; have v3 := L.v3; have u3 := run_underlying L.t3
  have t9 := L.t9; have a9 := L.a9; have z9 := L.z9; have v9 := L.v9; have u9 := run_underlying L.t9
  have t5 := X.t5; have a5 := X.a5; have z5 := X.z5; have v5 := X.v5; have u5 := run_underlying X.t5
  go_enter L.f169, Body.n169_ntmps ρ
  go_wp2
  go_region_o
  all_goals (go_wp2; go_ret; exact ⟨rfl, rfl⟩)
set_option maxHeartbeats 2000000 in
set_option maxRecDepth 100000 in
theorem string_nil (L : Lays.n169 P ρ) (X : Builder.Extra P ρ) (b k : Nat) (w : World) (hc : w.cell? ⟨b, k + 1, none⟩ = some (.slice none 0 0)) :
    Calls P (ρ.f 169) #[.pointer (some ⟨b, k, none⟩)] w fun e w' => e = .returned (.string ⟨#[]⟩) ∧ w' = w.drew := by
  have hUS := Any.unsafeString_none L X
  have c1 : w.drew.cell? ⟨b, k + 1, none⟩ = some (.slice none 0 0) := hc
  have hSD : (Builtin.unsafeSliceData_ #[(ρ.t 37)] (ρ.t 127) #[.slice none 0 0]).run P w.drew = .ok (.pointer none) w.drew := rfl
  have mixed := L.mixed
  have t72 := L.t72; have a72 := L.a72; have z72 := L.z72; have v72 := L.v72; have u72 := run_underlying L.t72
  have t70 := L.t70; have a70 := L.a70; have z70 := L.z70; have v70 := L.v70; have u70 := run_underlying L.t70
  have t37 := L.t37; have a37 := L.a37; have z37 := L.z37; have v37 := L.v37; have u37 := run_underlying L.t37
  have t127 := L.t127; have a127 := L.a127; have z127 := L.z127; have v127 := L.v127; have u127 := run_underlying L.t127
  have t3 := L.t3; have a3 := L.a3; have z3 := L.z3; have v3 := L.v3; have u3 := run_underlying L.t3
  have t9 := L.t9; have a9 := L.a9; have z9 := L.z9; have v9 := L.v9; have u9 := run_underlying L.t9
  have t5 := X.t5; have a5 := X.a5; have z5 := X.z5; have v5 := X.v5; have u5 := run_underlying X.t5
  go_enter L.f169, Body.n169_ntmps ρ
  go_wp2
  go_region_o
  all_goals (go_wp2; go_ret; exact ⟨rfl, rfl⟩)
end Go.X
end
section
namespace Go.X
open Go.RowKit
set_option linter.unusedSimpArgs false
set_option linter.unusedSectionVars false
theorem strsOf_spec {ρ : Rho} : ∀ {cs : List XV} {us : List Value} {l : List (List Nat)}, strsOf cs = some l → VRs ρ cs us → ∃ xs : List ByteArray, us = xs.map Value.string ∧ l = xs.map fun x => x.data.toList.map UInt8.toNat
  | [], _, l, h, hv => by
    cases hv
    obtain rfl := Option.some.inj h
    exact ⟨[], rfl, rfl⟩
  | c :: cs, _, l, h, hv => by
    cases hv with
    | cons _ v _ us hp ht =>
      cases hp <;> (unfold strsOf at h) <;> try (cases h; done)
      rename_i s u hu
      cases e : strsOf cs with
      | none => rw [e] at h; cases h
      | some l' =>
        rw [e] at h
        obtain rfl := Option.some.inj h
        obtain ⟨xs, h1, h2⟩ := strsOf_spec e ht
        exact ⟨u :: xs, by rw [h1]; rfl, by rw [h2, ← hu]; rfl⟩
theorem joinX_cons2 (sep a b : List Nat) (l : List (List Nat)) : joinX sep (a :: b :: l) = a ++ (sep ++ joinX sep (b :: l)) := by
  show appX a (appX sep (joinX sep (b :: l))) = _
  rw [appX_eq, appX_eq]
theorem joinX_eq (sep : List UInt8) : ∀ xs : List (List UInt8), joinX (sep.map UInt8.toNat) (xs.map (·.map UInt8.toNat)) = (Lib.join xs sep).map UInt8.toNat
  | [] => rfl
  | [a] => by simp [joinX, Lib.join, List.intercalate, List.intersperse]
  | a :: b :: l => by
    have ih := joinX_eq sep (b :: l)
    simp only [List.map_cons] at ih ⊢
    have e : Lib.join (a :: b :: l) sep = a ++ (sep ++ Lib.join (b :: l) sep) := by
      simp [Lib.join, List.intercalate, List.intersperse, List.append_assoc]
    rw [e, List.map_append, List.map_append, ← ih, joinX_cons2]
theorem join_intr {P : Program} {f : FuncId} (henter : ∀ args w, (callFunc f args).run P w = .ok (.enter f args) w)
    (hnone : ∀ (a : Option Addr) (c : Nat) (sep : ByteArray) (w : World), Calls P f #[.slice a 0 c, .string sep] w fun e w' => e = .returned (.string ⟨#[]⟩) ∧ w' = w)
    (hjoin : ∀ (bk o c : Nat) (xs : List ByteArray) (sep : ByteArray) (w : World), (∀ (j : Nat) x, xs[j]? = some x → w.cell? ⟨bk, o + j, none⟩ = some (.string x)) → bk < w.heap.size → xs.length ≤ 140737488355328 → xs.length ≤ c → (Lib.join (xs.map (·.data.toList)) sep.data.toList).length ≤ 140737488355328 →
      Calls P f #[.slice (some ⟨bk, o, none⟩) xs.length c, .string sep] w fun e w' => e = .returned (.string ⟨(Lib.join (xs.map (·.data.toList)) sep.data.toList).toArray⟩) ∧ Below w.heap.size w w') : IntrOK P f (fun _ => iJoin) := by
  intro call _ _ args H r H' h
  simp only [iJoin] at h
  split at h
  rotate_left
  · cases h
  rename_i b o n c es ex sep
  obtain ⟨hb, h0⟩ := bif_some h
  clear h
  have hb : (Nat.beq es 1 && Nat.ble n 1000000) = true := hb
  simp only [Bool.and_eq_true] at hb
  obtain rfl := Nat.eq_of_beq_eq_true hb.1
  have hbn := Nat.le_of_ble_eq_true hb.2
  split at h0
  rotate_left
  · cases h0
  rename_i cs hcs
  split at h0
  rotate_left
  · cases h0
  rename_i l hl
  obtain ⟨hle, h1⟩ := bif_some h0
  clear h0
  have hle := Nat.le_of_ble_eq_true hle
  rw [lenX_eq] at hle
  have := Option.some.inj h1
  injection this with h3 h4
  subst h3; subst h4
  refine ⟨Nat.le_refl _, fun ρ w vs hR hg hv hF => .inr ⟨henter _ _, ?_⟩⟩
  cases hv with
  | cons _ v _ m hp ht =>
    cases ht with
    | cons _ v2 _ m2 hp2 ht2 =>
      cases ht2
      cases hp2 with
      | str _ us hus =>
        cases hp with
        | slice _ _ _ _ _ _ blk off lim a c' hρ k1 k2 k3 k4 =>
          unfold cellsB at hcs
          split at hcs
          rotate_left
          · cases hcs
          rename_i cs0 ro tg hgb
          rw [dropX_eq] at hcs
          obtain ⟨rfl, hlen⟩ := takeN_eq _ _ _ hcs
          obtain ⟨b', off', lim', hρ', hO⟩ := hR.obj _ _ hgb
          rw [hρ] at hρ'
          simp only [Option.some.injEq, Prod.mk.injEq] at hρ'
          obtain ⟨rfl, rfl, rfl⟩ := hρ'
          obtain ⟨vs, hvs, hcell⟩ := CR.vals hO
          obtain ⟨xs, e1, e2⟩ := strsOf_spec hl ((hvs.drop o).take n)
          have hxl : xs.length = n := by
            have q := ((hvs.drop o).take n).len
            rw [e1, List.length_map] at q
            omega
          rw [e2] at hle ⊢
          have he : joinX sep (xs.map fun x => x.data.toList.map UInt8.toNat) = (Lib.join (xs.map (·.data.toList)) us.data.toList).map UInt8.toNat := by
            rw [← hus, ← joinX_eq, List.map_map]
            rfl
          rw [he] at hle ⊢
          rw [List.length_map] at hle
          by_cases hn : n = 0
          · subst hn
            obtain rfl := List.eq_nil_of_length_eq_zero hxl
            refine (hnone (some a) c' us w).mono ?_
            rintro e w' ⟨rfl, rfl⟩
            exact ⟨_, rfl, ρ, .str _ _ rfl, Step.refl hR⟩
          · have ha : a = ⟨blk, off + o, none⟩ := by
              cases ex with
              | true => exact (k3 rfl).2
              | false => exact (k4 rfl).1 (by omega)
            subst ha
            have hxs : ∀ (j : Nat) x, xs[j]? = some x → w.cell? ⟨blk, off + o + j, none⟩ = some (.string x) := by
              intro j x hj
              have h5 : (xs.map Value.string)[j]? = some (.string x) := by rw [List.getElem?_map, hj]; rfl
              rw [← e1, List.getElem?_take] at h5
              split at h5
              · rw [List.getElem?_drop] at h5
                have := hcell _ _ h5
                rw [Nat.add_assoc]
                exact this
              · cases h5
            have := hjoin blk (off + o) c' xs us w hxs hO.lt (by omega) (by omega) (by omega)
            rw [hxl] at this
            refine this.mono ?_
            rintro e w' ⟨rfl, hbel⟩
            exact ⟨_, rfl, ρ, .str _ _ rfl, Step.below hR hbel⟩
end Go.X
end
section
namespace Go.X
open Go.RowKit
set_option linter.unusedSimpArgs false
set_option linter.unusedSectionVars false
theorem u8_beq (b : UInt8) (c : Nat) : (b == c.toUInt8) = Nat.beq b.toNat (Nat.mod c 256) := by
  have e : (c.toUInt8).toNat = Nat.mod c 256 := by
    show (UInt8.ofNat c).toNat = _
    rw [UInt8.toNat_ofNat']
    rfl
  rw [← e]
  cases h : Nat.beq b.toNat c.toUInt8.toNat with
  | true => rw [UInt8.toNat_inj.1 (Nat.eq_of_beq_eq_true h)]; simp
  | false =>
    rw [beq_eq_false_iff_ne]
    intro e'
    rw [e', Nat.beq_refl] at h
    cases h
theorem countN_eq (c : Nat) : ∀ l : List UInt8, countN (Nat.mod c 256) (l.map UInt8.toNat) = Lib.countByte l c.toUInt8
  | [] => rfl
  | b :: l => by
    show (bif Nat.beq b.toNat (Nat.mod c 256) then Nat.succ (countN (Nat.mod c 256) (l.map UInt8.toNat)) else countN (Nat.mod c 256) (l.map UInt8.toNat)) = _
    rw [countN_eq c l, ← u8_beq]
    unfold Lib.countByte
    rw [List.count_cons]
    cases b == c.toUInt8 <;> simp
theorem indexN_eq (c : Nat) : ∀ l : List UInt8, indexN (Nat.mod c 256) (l.map UInt8.toNat) = Lib.indexByte l c.toUInt8
  | [] => rfl
  | b :: l => by
    show (bif Nat.beq b.toNat (Nat.mod c 256) then .ofNat 0 else upI (indexN (Nat.mod c 256) (l.map UInt8.toNat))) = _
    rw [indexN_eq c l, ← u8_beq]
    have e : Lib.indexByte (b :: l) c.toUInt8 = if b == c.toUInt8 then 0 else if Lib.indexByte l c.toUInt8 == -1 then -1 else Lib.indexByte l c.toUInt8 + 1 := rfl
    rw [e]
    have := Lib.indexByte_ge l c.toUInt8
    generalize Lib.indexByte l c.toUInt8 = k at this
    cases b == c.toUInt8 with
    | true => rfl
    | false =>
      simp only [cond_false, Bool.false_eq_true, if_false]
      cases k with
      | ofNat n =>
        rw [if_neg (by simp)]
        rfl
      | negSucc n =>
        have : n = 0 := by omega
        subst this
        rfl
section
variable {P : Program} {f : FuncId} {fn : Func}
theorem count_intr (hf : P.funcs[f]? = some fn) (hname : (fn.name == "runtime.NumGoroutine") = false) (hb : fn.body.isNone = true) (hn : Extern.findNext fn = none)
    (he : Extern.find fn = some Extern.BytealgCount.count) : IntrOK P f (fun _ => iCount) := by
  intro call _ _ args H r H' h
  simp only [iCount] at h
  split at h
  · rename_i s c
    have := Option.some.inj h
    injection this with h3 h4
    subst h3; subst h4
    refine ⟨Nat.le_refl _, fun ρ w vs hR hg hv hF => .inl ?_⟩
    cases hv with
    | cons _ v _ m hp ht =>
      cases ht with
      | cons _ v2 _ m2 hp2 ht2 =>
        cases ht2
        cases hp2
        cases hp with
        | str _ u hu =>
          refine ⟨.int .i64 (countN (Nat.mod c 256) s : Nat), w, ?_, ρ, .int _ _, Step.refl hR⟩
          rw [run_callFunc_extern hf hname hb hn he]
          have := Lib.run_countString (P := P) u (Int.ofNat c) w
          show Result.andThen ((Extern.BytealgCount.count #[.string u, .int .u8 (Int.ofNat c)]).run P w) _ = _
          rw [this, ← hu, countN_eq]
          rfl
  · cases h
theorem index_intr (hf : P.funcs[f]? = some fn) (hname : (fn.name == "runtime.NumGoroutine") = false) (hb : fn.body.isNone = true) (hn : Extern.findNext fn = none)
    (he : Extern.find fn = some Extern.BytealgIndexByte.indexByte) : IntrOK P f (fun _ => iIndex) := by
  intro call _ _ args H r H' h
  simp only [iIndex] at h
  split at h
  · rename_i s c
    have := Option.some.inj h
    injection this with h3 h4
    subst h3; subst h4
    refine ⟨Nat.le_refl _, fun ρ w vs hR hg hv hF => .inl ?_⟩
    cases hv with
    | cons _ v _ m hp ht =>
      cases ht with
      | cons _ v2 _ m2 hp2 ht2 =>
        cases ht2
        cases hp2
        cases hp with
        | str _ u hu =>
          refine ⟨.int .i64 (indexN (Nat.mod c 256) s), w, ?_, ρ, .int _ _, Step.refl hR⟩
          rw [run_callFunc_extern hf hname hb hn he]
          have := Lib.run_indexByteString (P := P) u (Int.ofNat c) w
          show Result.andThen ((Extern.BytealgIndexByte.indexByte #[.string u, .int .u8 (Int.ofNat c)]).run P w) _ = _
          rw [this, ← hu, indexN_eq]
          rfl
  · cases h
end
end Go.X
end
section
namespace Go.X
open Go.RowKit
set_option linter.unusedSimpArgs false
set_option linter.unusedSectionVars false
theorem check_intr {P : Program} {f : FuncId} {T : TypeId} (henter : ∀ args w, (callFunc f args).run P w = .ok (.enter f args) w)
    (hfresh : ∀ (b : Nat) (w : World), w.cell? ⟨b, 0, none⟩ = some (.pointer none) → w.shape? b = some (T, 2) → w.frozen? ⟨b, 0, none⟩ = false → Calls P f #[.pointer (some ⟨b, 0, none⟩)] w fun e w' => e = .returned (.tuple #[]) ∧ w' = w.setCell ⟨b, 0, none⟩ (.pointer (some ⟨b, 0, none⟩)))
    (hused : ∀ (b : Nat) (w : World), w.cell? ⟨b, 0, none⟩ = some (.pointer (some ⟨b, 0, none⟩)) → Calls P f #[.pointer (some ⟨b, 0, none⟩)] w fun e w' => e = .returned (.tuple #[]) ∧ w' = w) : IntrOK P f (fun _ => iCheck (Nat.mul 2 T)) := by
  intro call _ _ args H r H' h
  simp only [iCheck] at h
  split at h
  · rename_i b o
    split at h
    · rename_i c t hg
      obtain ⟨hb, k⟩ := bif_some h
      clear h
      simp only [Bool.and_eq_true] at hb
      obtain ⟨h1, h2, h3⟩ := hb
      obtain rfl := Nat.eq_of_beq_eq_true h1
      obtain rfl := Nat.eq_of_beq_eq_true h3
      have h2 := Nat.eq_of_beq_eq_true h2
      rw [lenX_eq] at h2
      have place : ∀ {ρ : Rho} {w : World} {v : Value}, Rep ρ H w → VR ρ (.ptr b 0) v → ∃ blk lim, ρ b = some (blk, 0, lim) ∧ v = .pointer (some ⟨blk, 0, none⟩) ∧ w.shape? blk = some (T, 2) := by
        intro ρ w v hR hv
        cases hv with
        | ptr _ _ blk off lim hρ =>
          obtain ⟨b', off', lim', hρ', hO⟩ := hR.obj _ _ hg
          rw [hρ] at hρ'
          simp only [Option.some.injEq, Prod.mk.injEq] at hρ'
          obtain ⟨rfl, rfl, rfl⟩ := hρ'
          obtain ⟨rfl, mm, hs, _, hs2⟩ := CR.tag hO _ rfl
          have h5 : mm = 2 := by rw [hs2 (Nat.mul_mod_right 2 T), h2]
          exact ⟨blk, lim, hρ, rfl, by rw [hs, h5, show Nat.mul 2 T / 2 = T from Nat.mul_div_cancel_left _ (by decide)]⟩
      have hcell : cellAt H b 0 = nth c 0 := by simp only [cellAt, hg]
      cases hn : nth c 0 with
      | none => rw [hn] at k; cases k
      | some x =>
        rw [hn] at k hcell
        cases x <;> try (cases k; done)
        case nilp =>
          simp only at k
          unfold unitR at k
          obtain ⟨H1, h4, h5⟩ := optR k
          have := Option.some.inj h5
          injection this with h6 h7
          subst h6; subst h7
          refine ⟨wr_mono h4, fun ρ w vs hR hg' hv hF => .inr ⟨henter _ _, ?_⟩⟩
          cases hv with
          | cons _ v _ m hp ht =>
            cases ht
            obtain ⟨blk, lim, g1, rfl, g3⟩ := place hR hp
            obtain ⟨a, u, ha, g4, g5⟩ := cell_run (p := .nilp) hR hp hcell
            injection ha with ha
            injection ha with ha
            subst ha
            cases g5
            obtain ⟨a, c', ha, g6, g7, g8⟩ := wr_one P hR hp hp h4
            injection ha with ha
            injection ha with ha
            subst ha
            refine (hfresh blk w g4 g3 g7).mono (fun e w' h => ?_)
            obtain ⟨rfl, rfl⟩ := h
            exact ⟨_, rfl, ρ, VR.undef, g8⟩
        case ptr b' o' =>
          simp only at k
          obtain ⟨h4, h5⟩ := bif_some k
          rw [Bool.and_eq_true] at h4
          obtain rfl := Nat.eq_of_beq_eq_true h4.1
          obtain rfl := Nat.eq_of_beq_eq_true h4.2
          have := Option.some.inj h5
          injection this with h6 h7
          subst h6; subst h7
          refine ⟨Nat.le_refl _, fun ρ w vs hR hg' hv hF => .inr ⟨henter _ _, ?_⟩⟩
          cases hv with
          | cons _ v _ m hp ht =>
            cases ht
            obtain ⟨blk, lim, g1, rfl, g3⟩ := place hR hp
            obtain ⟨a, u, ha, g4, g5⟩ := cell_run (p := .nilp) hR hp hcell
            injection ha with ha
            injection ha with ha
            subst ha
            cases g5 with
            | ptr _ _ blk' off' lim' hρ =>
              rw [g1] at hρ
              simp only [Option.some.injEq, Prod.mk.injEq] at hρ
              obtain ⟨rfl, rfl, rfl⟩ := hρ
              refine (hused blk w g4).mono (fun e w' h => ?_)
              obtain ⟨rfl, rfl⟩ := h
              exact ⟨_, rfl, ρ, VR.undef, Step.refl hR⟩
    · cases h
  · cases h
end Go.X
end
section
namespace Go.X
open Go.RowKit
set_option linter.unusedSimpArgs false
set_option linter.unusedSectionVars false
section
variable {P : Program} {f : FuncId}
theorem wr_next {H H' : XH} {b o : Nat} {vs : List XV} (h : wr H b o vs = some H') : H'.next = H.next := by
  unfold wr at h
  split at h
  · obtain ⟨_, h⟩ := bif_some h
    obtain rfl := Option.some.inj h
    rfl
  · cases h
theorem wr_frozen {ρ : Rho} {H H' : XH} {w : World} (hR : Rep ρ H w) {n o : Nat} {x : XV} {a : Addr} (hp : VR ρ (.ptr n o) (.pointer (some a))) (h : wr H n o [x] = some H') : w.frozen? a = false := by
  unfold wr at h
  split at h
  · rename_i cs tg e
    obtain ⟨hb, h⟩ := bif_some h
    rw [Bool.and_eq_true] at hb
    have hle := Nat.le_of_ble_eq_true hb.1
    rw [lenX_eq, lenX_eq] at hle
    have hle : o + 1 ≤ cs.length := hle
    cases hp with
    | ptr _ _ blk off lim hρ =>
      obtain ⟨b', off', lim', hρ', hO⟩ := hR.obj _ _ e
      rw [hρ] at hρ'
      simp only [Option.some.injEq, Prod.mk.injEq] at hρ'
      obtain ⟨rfl, rfl, rfl⟩ := hρ'
      have := CR.len hO
      exact CR.free hO rfl o (by omega)
  · cases h
theorem once_intr (henter : ∀ args w, (callFunc f args).run P w = .ok (.enter f args) w)
    (hdone : ∀ (b off n : Nat) (fv : Value) (w : World), w.cell? ⟨b, off, none⟩ = some (.int .u32 (n + 1 : Nat)) → Calls P f #[.pointer (some ⟨b, off, none⟩), fv] w fun e w' => e = .returned (.tuple #[]) ∧ w' = w)
    (hslow : ∀ (b off : Nat) (g : FuncId) (vs : Array Value) (w : World) (K : World → Prop), w.cell? ⟨b, off, none⟩ = some (.int .u32 0) → w.cell? ⟨b, off + 1, none⟩ = some (.int .i32 0) →
      w.frozen? ⟨b, off, none⟩ = false → w.frozen? ⟨b, off + 1, none⟩ = false →
      Invoked P g vs (w.setCell ⟨b, off + 1, none⟩ (.int .i32 1)) (fun _ w2 => (∃ x, w2.cell? ⟨b, off, none⟩ = some x) ∧ w2.frozen? ⟨b, off, none⟩ = false ∧ w2.cell? ⟨b, off + 1, none⟩ = some (.int .i32 1) ∧ w2.frozen? ⟨b, off + 1, none⟩ = false ∧ K ((w2.drew.setCell ⟨b, off, none⟩ (.int .u32 1)).setCell ⟨b, off + 1, none⟩ (.int .i32 0))) →
      Calls P f #[.pointer (some ⟨b, off, none⟩), .func (.func g) #[] vs] w fun e w' => e = .returned (.tuple #[]) ∧ K w') : IntrOK P f iOnce := by
  intro call hS hM args H r H' h
  simp only [iOnce] at h
  split at h
  · rename_i b o g cs
    split at h
    · rename_i hc0
      split at h
      · rename_i hc1
        obtain ⟨H1, e1, h2⟩ := optR h
        obtain ⟨⟨y, H2⟩, e2, h3⟩ := optR h2
        simp only at h3
        split at h3
        · rename_i hc2
          obtain ⟨H3, e3, h4⟩ := optR h3
          unfold unitR at h4
          obtain ⟨H4, e4, h5⟩ := optR h4
          have := Option.some.inj h5
          injection this with h6 h7
          subst h6; subst h7
          clear h h2 h3 h4 h5
          have n1 := wr_next e1
          have n2 := hM _ _ _ _ _ e2
          have n3 := wr_next e3
          have n4 := wr_next e4
          refine ⟨by omega, fun ρ w vs hR hg hv hF => .inr ⟨henter _ _, ?_⟩⟩
          cases hv with
          | cons _ v _ m hp ht =>
            cases ht with
            | cons _ v2 _ m2 hp2 ht2 =>
              cases ht2
              cases hp2 with
              | func _ _ us hus =>
                cases hp with
                | ptr _ _ blk off lim hρ =>
                  have p0 : ∀ ρ' : Rho, Ext ρ ρ' → VR ρ' (.ptr b o) (.pointer (some ⟨blk, off + o, none⟩)) := fun ρ' hE => VR.ptr b o blk off lim (hE _ _ hρ)
                  have p1 : ∀ ρ' : Rho, Ext ρ ρ' → VR ρ' (.ptr b (Nat.succ o)) (.pointer (some ⟨blk, off + o + 1, none⟩)) := fun ρ' hE => VR.ptr b (o + 1) blk off lim (hE _ _ hρ)
                  obtain ⟨a, u, ha, g1, g2⟩ := cell_run (p := .nilp) hR (p0 _ (Ext.refl _)) hc0
                  injection ha with ha; injection ha with ha; subst ha; cases g2
                  obtain ⟨a, u, ha, g3, g4⟩ := cell_run (p := .nilp) hR (p1 _ (Ext.refl _)) hc1
                  injection ha with ha; injection ha with ha; subst ha; cases g4
                  obtain ⟨a, c', ha, g5, g6, s1⟩ := wr_one P hR (p1 _ (Ext.refl _)) (VR.int .i32 1) e1
                  injection ha with ha; injection ha with ha; subst ha
                  have f0 : w.frozen? ⟨blk, off + o, none⟩ = false := by
                    obtain ⟨b', off', lim', hρ', hO⟩ : ∃ b' off' lim', ρ b = some (b', off', lim') ∧ ∃ cs' tg, H.get b = some (.cells cs' false tg) ∧ o < cs'.length ∧ CR ρ w cs' false tg b' off' lim' := by
                      unfold cellAt at hc0
                      unfold wr at e1
                      split at e1
                      · rename_i cs' tg eg
                        rw [eg] at hc0
                        simp only [nth_eq] at hc0
                        obtain ⟨b', off', lim', q1, q2⟩ := hR.obj _ _ eg
                        exact ⟨b', off', lim', q1, cs', tg, eg, (List.getElem?_eq_some_iff.1 hc0).1, q2⟩
                      · cases e1
                    obtain ⟨cs', tg, eg, hlt, hC⟩ := hO
                    rw [hρ] at hρ'
                    simp only [Option.some.injEq, Prod.mk.injEq] at hρ'
                    obtain ⟨rfl, rfl, rfl⟩ := hρ'
                    have := CR.len hC
                    exact CR.free hC rfl o (by omega)
                  have hI := hS g cs H1 y H2 e2 ρ _ us s1.rep hg hus (fun k k1 k2 => hF k (by omega) (by omega))
                  refine (hslow blk (off + o) g us.toArray w (fun w' => ∃ ρ', VR ρ' unit (.tuple #[]) ∧ Step ρ H w ρ' H4 w') g1 g3 f0 g6 ?_).mono (fun e w' hk => ?_)
                  · refine Invoked.mono hI (fun v w2 hk => ?_)
                    obtain ⟨ρ', _, s2⟩ := hk
                    have hR2 := s2.rep
                    have q0 := p0 ρ' s2.ext
                    have q1 := p1 ρ' s2.ext
                    obtain ⟨a, u, ha, k3, k4⟩ := cell_run (p := .nilp) hR2 q1 hc2
                    injection ha with ha; injection ha with ha; subst ha; cases k4
                    obtain ⟨a, c0, ha, k5, k6, s3⟩ := wr_one P (w := w2.drew) (hR2.drawn rfl) q0 (VR.int .u32 1) e3
                    injection ha with ha; injection ha with ha; subst ha
                    have hR3 := s3.rep
                    obtain ⟨a, c1, ha, k7, k8, s4⟩ := wr_one P hR3 q1 (VR.int .i32 0) e4
                    injection ha with ha; injection ha with ha; subst ha
                    refine ⟨⟨c0, k5⟩, k6, k3, ?_, ρ', VR.undef, ((s1.trans s2).trans (Step.drawn (w' := w2.drew) hR2 rfl rfl rfl rfl)).trans (s3.trans s4)⟩
                    have := k8
                    simpa using this
                  · obtain ⟨rfl, ρ', h1, h2⟩ := hk
                    exact ⟨_, rfl, ρ', h1, h2⟩
        · cases h3
      · cases h
    · rename_i hc0
      have := Option.some.inj h
      injection this with h6 h7
      subst h6; subst h7
      refine ⟨Nat.le_refl _, fun ρ w vs hR hg hv hF => .inr ⟨henter _ _, ?_⟩⟩
      cases hv with
      | cons _ v _ m hp ht =>
        cases ht with
        | cons _ v2 _ m2 hp2 ht2 =>
          cases ht2
          cases hp with
          | ptr _ _ blk off lim hρ =>
            obtain ⟨a, u, ha, g1, g2⟩ := cell_run (p := .nilp) hR (VR.ptr b o blk off lim hρ) hc0
            injection ha with ha; injection ha with ha; subst ha; cases g2
            refine (hdone blk (off + o) _ v2 w g1).mono (fun e w' hk => ?_)
            obtain ⟨rfl, rfl⟩ := hk
            exact ⟨_, rfl, ρ, VR.undef, Step.refl hR⟩
    · cases h
  · cases h
end
end Go.X
end
section
namespace Go.X
noncomputable def chkT {α : Type} (t : T α) : (Nat → α → Bool) → Bool :=
  T.rec (fun _ => true) (fun v _ _ il ir p => Bool.rec false (Bool.rec false (ir fun j => p (Nat.succ (Nat.succ (Nat.mul 2 j)))) (il fun j => p (Nat.succ (Nat.mul 2 j)))) (Option.rec true (p 0) v)) t
theorem chkT_spec {α : Type} : ∀ {t : T α} {p : Nat → α → Bool}, chkT t p = true → ∀ {n : Nat} {x : α}, t.get n = some x → p n x = true
  | .nil, p, _, n, x, hg => by rw [T.g_nil] at hg; cases hg
  | .node v l r, p, h, n, x, hg => by
    have h : (Bool.rec false (Bool.rec false (chkT r fun j => p (Nat.succ (Nat.succ (Nat.mul 2 j)))) (chkT l fun j => p (Nat.succ (Nat.mul 2 j)))) (Option.rec true (p 0) v : Bool) : Bool) = true := h
    cases e1 : (Option.rec true (p 0) v : Bool) with
    | false => rw [e1] at h; cases h
    | true =>
      rw [e1] at h
      cases e2 : chkT l (fun j => p (Nat.succ (Nat.mul 2 j))) with
      | false => rw [e2] at h; cases h
      | true =>
        rw [e2] at h
        cases n with
        | zero =>
          rw [T.g_z] at hg
          subst hg
          exact e1
        | succ m =>
          rw [T.g_s] at hg
          split at hg
          · rename_i hm
            have := chkT_spec e2 hg
            have e : Nat.succ (Nat.mul 2 (m / 2)) = m + 1 := by
              show 2 * (m / 2) + 1 = m + 1
              omega
            rwa [e] at this
          · rename_i hm
            have := chkT_spec (t := r) (p := fun j => p (Nat.succ (Nat.succ (Nat.mul 2 j)))) h hg
            have e : Nat.succ (Nat.succ (Nat.mul 2 (m / 2))) = m + 1 := by
              show 2 * (m / 2) + 1 + 1 = m + 1
              omega
            rwa [e] at this
noncomputable def tyRow (P : Program) (ty : T XTy) (t : Nat) : Option XTy := Option.rec none (fun _ => mkTy P t) (ty.get t)
theorem tyOK_of {P : Program} {ty : T XTy} {n : Nat} (hb : chkT ty (fun t _ => Nat.blt t n) = true) (h : (List.range n).map (tyRow P ty) = (List.range n).map ty.get) : TyOK P ty.get := by
  intro t y hy
  have hlt : t < n := Nat.le_of_ble_eq_true (chkT_spec hb hy)
  have := congrArg (fun l => l[t]?) h
  simp only [List.getElem?_map, List.getElem?_range hlt, Option.map_some, Option.some.injEq] at this
  unfold tyRow at this
  rw [hy] at this
  exact this
end Go.X
end
