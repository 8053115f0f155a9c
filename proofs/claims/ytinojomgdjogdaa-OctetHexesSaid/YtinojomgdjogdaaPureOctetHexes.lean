/- Digits are two a byte, small letters alone; with a sign put in that is none they are no bytes, nor without the first one. For every bytes. -/
import Derived.Test.YtinojomgdjogdaaOctetC
import Derived.Test.YtinojomgdjogdaaDigits
namespace Go.Proofs.Ytinojomgdjogdaa.Pure
open Go.RowKit Go.Proofs.Ytinojomgdjogdaa.P Go.Proofs.YtinojomgdjogdaaW.PrintWords Go.Proofs.YtinojomgdjogdaaW.PrintLast Go.Proofs.Ytinojomgdjogdaa.B
set_option linter.unusedVariables false
set_option linter.unusedSimpArgs false

theorem dig_ok (c : Nat) : 0 ≤ dig c ↔ (48 ≤ c ∧ c ≤ 57 ∨ 97 ≤ c ∧ c ≤ 102) := by
  unfold dig; split
  · constructor
    · intro _; left; assumption
    · intro _; omega
  · split
    · constructor
      · intro _; right; assumption
      · intro _; omega
    · constructor
      · intro h; omega
      · intro h; omega
theorem unhex_some (m : Nat) : ∀ l : List UInt8, l.length = 2 * m → ((unhexR (unhexL l) []).2 = true ↔ ∀ c ∈ l, 0 ≤ dig c.toNat) := by
  have gen : ∀ (o : Option (List Int)), (unhexR o []).2 = o.isSome := fun o => by cases o <;> rfl
  intro l hl
  rw [gen]
  clear gen
  induction m generalizing l with
  | zero =>
    have : l = [] := List.eq_nil_of_length_eq_zero (by omega)
    subst this; simp [unhexL]
  | succ m ih =>
    match l, hl with
    | a :: b :: r, hl =>
      simp only [List.length_cons] at hl
      have := ih r (by omega)
      rw [unhexL]
      by_cases h : dig a.toNat < 0 ∨ dig b.toNat < 0
      · rw [if_pos h]
        simp only [Option.isSome_none, List.mem_cons, forall_eq_or_imp]
        constructor
        · intro h2; cases h2
        · intro h2; omega
      · rw [if_neg h, Option.isSome_map, this]
        simp only [List.mem_cons, forall_eq_or_imp]
        constructor
        · intro h2; exact ⟨by omega, by omega, h2⟩
        · intro h2; exact h2.2.2
theorem hexU_ok (l : List UInt8) : ∀ c ∈ l.flatMap hexU, 0 ≤ dig c.toNat := by
  intro c hc
  rw [List.mem_flatMap] at hc
  obtain ⟨x, _, hx⟩ := hc
  obtain ⟨a, b, e, h1, h2, _⟩ := hexU_two x
  rw [e] at hx
  simp at hx
  rcases hx with rfl | rfl
  · exact h1
  · exact h2
theorem hexes_l0 (b : ByteArray) (p c : Int) (h : ByteArray) (hh : ∀ x ∈ L h, 0 ≤ dig x.toNat) (hs : h.size ≤ 1000) (K : Nat) (d : Nat) : ∀ (k i : Nat), i ≤ h.size → h.size - i = d → k = K + d + 1 →
    escutcheonlaw1_OctetHexes.l0 k b p c h (i : Int) = if (h.size : Int) = wrap64 (2 * (b.size : Int)) then escutcheonlaw1_OctetHexes.j2 K b p c h ((h.size : Int) == 0) else escutcheonlaw1_OctetHexes.j2 K b p c h true := by
  induction d with
  | zero =>
    intro k i h1 h2 h3
    subst h3
    simp only [escutcheonlaw1_OctetHexes.l0]
    rw [if_neg (by omega)]
  | succ d ih =>
    intro k i h1 h2 h3
    subst h3
    have e : K + (d + 1) + 1 = (K + d + 1) + 1 := by omega
    rw [e]
    simp only [escutcheonlaw1_OctetHexes.l0]
    have hi : i < (L h).length := by rw [L_len]; omega
    have hb : bt h (i : Int) = ((L h)[i].toNat : Int) := by rw [bt_L, Int.toNat_natCast, List.getElem?_eq_getElem hi]; rfl
    have hd := (dig_ok _).1 (hh _ (List.getElem_mem hi))
    rw [if_pos (by omega), if_pos (by omega), hb, wrap64_succ (n := h.size) (by omega) (by omega)]
    have hn := ih (K + d + 1) (i + 1) (by omega) (by omega) rfl
    rcases hd with hd | hd
    · rw [if_pos (by omega), if_pos (by omega)]; exact hn
    · rw [if_pos (by omega), if_neg (by omega), if_pos (by omega), if_pos (by omega)]; exact hn
theorem OctetHexes : escutcheonlaw1_OctetHexes.Pure := by
  intro b p c hb hp hc
  have hp := wf_i64 hp
  have hc := wf_u8 hc
  refine ⟨2000, ?_⟩
  have out : escutcheonlaw1_OctetHexes.j0 2000 b p c true = some true := by
    simp only [escutcheonlaw1_OctetHexes.j0]
    rw [if_pos trivial, alive_k _ (by omega)]; rfl
  unfold escutcheonlaw1_OctetHexes.f
  split
  · exact out
  rename_i hbs
  rw [alive_k _ (by omega)]
  simp only [Option.bind_some, escutcheonlaw1_OctetHexes.j0]
  rw [if_neg (by simp), hex_f b (by omega), Option.bind_some]
  have hsz := size_hex b
  have hL := L_hex b
  generalize strOfNums ((L b).flatMap octet_Hex.hx) = h at hsz hL ⊢
  have hh : ∀ x ∈ L h, 0 ≤ dig x.toNat := by rw [hL]; exact hexU_ok _
  obtain ⟨K, hK⟩ : ∃ K, 1999 = K + h.size + 1 := ⟨1998 - h.size, by omega⟩
  have := hexes_l0 b p c h hh (by omega) K h.size 1999 0 (by omega) (by omega) hK
  refine Eq.trans this ?_
  rw [w64 (by omega) (by omega), if_pos (by omega)]
  obtain ⟨K, rfl⟩ : ∃ m, K = m + 1 := ⟨K - 1, by omega⟩
  simp only [escutcheonlaw1_OctetHexes.j2]
  by_cases h0 : h.size = 0
  · rw [if_pos (by simp [h0]), w64 (by omega) (by omega)]
    have : ((h.size : Int) == 2 * (b.size : Int)) = true := beq_iff_eq.2 (by omega)
    rw [this]
  · rw [if_neg (by simp [h0]), if_neg (by omega)]
    have hpl := place (a := p) (n := (h.size : Int)) (by omega) (by omega)
    generalize (wrap64 (p.tmod (h.size : Int) + (h.size : Int))).tmod (h.size : Int) = q at hpl ⊢
    obtain ⟨q, rfl⟩ := Int.eq_ofNat_of_zero_le hpl.1
    have h1 : (strOfNums [c]).size = 1 := size_nums _
    rw [if_pos (by omega), if_pos (by omega), Option.bind_some, w64 (n := (q : Int) + 1) (by omega) (by omega)]
    rw [if_pos (by rw [size_ext, h1]; omega), if_pos (by omega), if_pos (by omega), if_pos (by rw [size_app, size_ext, size_ext, h1]; omega)]
    have e1 : ((q : Int) + 1).toNat = q + 1 := by omega
    rw [Int.toNat_natCast, e1]
    have hs2 : ((h.extract 0 q ++ strOfNums [c]) ++ h.extract (q + 1) h.size).size = h.size := by
      rw [size_app, size_app, size_ext, size_ext, h1]; omega
    have hL2 : L ((h.extract 0 q ++ strOfNums [c]) ++ h.extract (q + 1) h.size) = (L h).take q ++ UInt8.ofNat c.toNat :: (L h).drop (q + 1) := by
      rw [L_app, L_app, L_ext_, L_ext_, L_nums, List.drop_zero, ← L_len, List.take_length]; simp
    rw [unhex_f _ (by rw [hs2]; omega) _ (by rw [hs2]; omega), Option.bind_some, if_pos (by omega)]
    have hs3 : (h.extract 1 h.size).size = h.size - 1 := by rw [size_ext]; omega
    rw [unhex_f _ (by rw [hs3]; omega) _ (by rw [hs3]; omega), Option.bind_some, hs2, hs3, if_pos (c := h.size % 2 = 0) (by omega), if_neg (c := (h.size - 1) % 2 = 0) (by omega), hL2]
    have key := unhex_some b.size ((L h).take q ++ UInt8.ofNat c.toNat :: (L h).drop (q + 1)) (by rw [← hL2, L_len, hs2]; omega)
    have hcn : (UInt8.ofNat c.toNat).toNat = c.toNat := by simp; omega
    have key2 : (unhexR (unhexL ((L h).take q ++ UInt8.ofNat c.toNat :: (L h).drop (q + 1))) []).2 = decide (0 ≤ dig c.toNat) := by
      rw [Bool.eq_iff_iff, key, decide_eq_true_eq]
      constructor
      · intro hx
        have := hx (UInt8.ofNat c.toNat) (by simp)
        rwa [hcn] at this
      · intro hx y hy
        rw [List.mem_append, List.mem_cons] at hy
        rcases hy with hy | rfl | hy
        · exact hh y (List.mem_of_mem_take hy)
        · rw [hcn]; exact hx
        · exact hh y (List.mem_of_mem_drop hy)
    rw [key2]
    have hd := dig_ok c.toNat
    have goal_ : ∀ X : Bool, X = decide (0 ≤ dig c.toNat) → (decide (0 ≤ dig c.toNat) == X) = true := fun X hX => by rw [hX]; simp
    by_cases c1 : c ≥ 48
    · rw [if_pos c1]
      by_cases c2 : c ≤ 57
      · rw [if_pos c2, if_pos (goal_ true (by symm; rw [decide_eq_true_eq, hd]; omega))]; rfl
      · rw [if_neg c2]
        by_cases c3 : c ≥ 97
        · rw [if_pos c3, if_pos (goal_ _ (by rw [Bool.eq_iff_iff, decide_eq_true_eq, decide_eq_true_eq, hd]; omega))]; rfl
        · rw [if_neg c3, if_pos (goal_ false (by symm; rw [decide_eq_false_iff_not, hd]; omega))]; rfl
    · rw [if_neg c1]
      by_cases c3 : c ≥ 97
      · omega
      · rw [if_neg c3, if_pos (goal_ false (by symm; rw [decide_eq_false_iff_not, hd]; omega))]; rfl
end Go.Proofs.Ytinojomgdjogdaa.Pure
