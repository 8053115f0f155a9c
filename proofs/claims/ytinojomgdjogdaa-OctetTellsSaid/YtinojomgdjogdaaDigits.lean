/- Digits of bytes, and bytes of digits. -/
import Derived.Test.YtinojomgdjogdaaBits
import Derived.Test.YtinojomgdjogdaaPx
namespace Go.Proofs.Ytinojomgdjogdaa.B
open Go.RowKit Go.Proofs.Ytinojomgdjogdaa.P Go.Proofs.YtinojomgdjogdaaW.PrintWords Go.Proofs.YtinojomgdjogdaaW.PrintLast Go.Proofs.YtinojomgdjogdaaW.PrintMore
set_option linter.unusedVariables false
set_option linter.unusedSimpArgs false

/-- A digit's number; -1: none. -/
def dig (c : Nat) : Int := if 48 ≤ c ∧ c ≤ 57 then (c : Int) - 48 else if 97 ≤ c ∧ c ≤ 102 then (c : Int) - 87 else -1
theorem dig_all : ∀ c : Fin 256, octet_digit.f 20 (c.val : Int) = some (dig c.val) := by decide +kernel
theorem digit_f (c : UInt8) (k : Nat) (hk : 20 ≤ k) : octet_digit.f k (c.toNat : Int) = some (dig c.toNat) :=
  at_rounds (octet_digit.mono _) hk (dig_all ⟨c.toNat, c.toNat_lt⟩)
theorem dig_range (c : Nat) : -1 ≤ dig c ∧ dig c ≤ 15 := by
  unfold dig; split
  · omega
  · split <;> omega
def val2 (a b : UInt8) : Int := dig a.toNat * 16 + dig b.toNat
theorem wraps_i64 (n : Int) (h₀ : 0 ≤ n) (h₁ : n < 2 ^ 63) : IntKind.i64.wrap n = n := by rw [IntKind.wrap_i64]; omega
theorem or4 (x y : Int) (hx : 0 ≤ x ∧ x ≤ 15) (hy : 0 ≤ y ∧ y ≤ 15) : Go.bits .or .i64 (wrap64 (x * 16)) y % 256 = x * 16 + y := by
  rw [w64 (by omega) (by omega), bits_join .i64 63 (by decide) wraps_i64 4 (x * 16) y (by omega) (by omega) (by omega) (by omega) (by omega) (by omega)]
  omega
/-- The numbers of pairs of digits; none: there is another sign. -/
def unhexL : List UInt8 → Option (List Int)
  | a :: b :: r => if dig a.toNat < 0 ∨ dig b.toNat < 0 then none else (unhexL r).map fun l => val2 a b :: l
  | _ => some []
def unhexR (l : Option (List Int)) (acc : List Int) : ByteArray × Bool := match l with
  | some r => (strOfNums (acc ++ r), true)
  | none => ((⟨#[]⟩ : ByteArray), false)
theorem unhex_l0 (s : ByteArray) (hs : s.size ≤ 1000000) (m : Nat) : ∀ (k i : Nat) (acc : List Int), i + 2 * m = s.size → m + 21 < k → acc.length + m ≤ 1000000 →
    octet_Unhex.l0 k s acc (i : Int) = some (unhexR (unhexL ((L s).drop i)) acc) := by
  induction m with
  | zero =>
    intro k i acc h1 h2 h3
    obtain ⟨k, rfl⟩ : ∃ m, k = m + 1 := ⟨k - 1, by omega⟩
    simp only [octet_Unhex.l0]
    rw [if_neg (by omega), List.drop_of_length_le (by rw [L_len]; omega)]
    simp [unhexL, unhexR]
  | succ m ih =>
    intro k i acc h1 h2 h3
    obtain ⟨k, rfl⟩ : ∃ m, k = m + 1 := ⟨k - 1, by omega⟩
    have hi : i < (L s).length := by rw [L_len]; omega
    have hi1 : i + 1 < (L s).length := by rw [L_len]; omega
    have hd : (L s).drop i = (L s)[i] :: (L s)[i + 1] :: (L s).drop (i + 2) := by
      rw [List.drop_eq_getElem_cons hi, List.drop_eq_getElem_cons hi1]
    have b0 : bt s (i : Int) = ((L s)[i].toNat : Int) := by rw [bt_L, Int.toNat_natCast, List.getElem?_eq_getElem hi]; rfl
    have b1 : bt s (wrap64 ((i : Int) + 1)) = ((L s)[i + 1].toNat : Int) := by
      rw [w64 (by omega) (by omega), bt_L, show ((i : Int) + 1).toNat = i + 1 by omega, List.getElem?_eq_getElem hi1]; rfl
    simp only [octet_Unhex.l0]
    rw [if_pos (by omega), if_pos (by omega), b0, digit_f _ _ (by omega), Option.bind_some, b1, w64 (n := (i : Int) + 1) (by omega) (by omega), if_pos (by omega), if_pos (by omega), digit_f _ _ (by omega), Option.bind_some, hd, unhexL]
    have r0 := dig_range (L s)[i].toNat
    have r1 := dig_range (L s)[i + 1].toNat
    by_cases h0 : dig (L s)[i].toNat < 0
    · rw [if_pos h0, if_pos (.inl h0)]; rfl
    · rw [if_neg h0]
      by_cases h5 : dig (L s)[i + 1].toNat < 0
      · rw [if_pos h5, if_pos (.inr h5)]; rfl
      · rw [if_neg h5, if_pos (by omega), if_neg (fun h => h.elim h0 h5), or4 _ _ (by omega) (by omega), w64 (by omega) (by omega)]
        have hv : dig (L s)[i].toNat * 16 + dig (L s)[i + 1].toNat = val2 (L s)[i] (L s)[i + 1] := rfl
        rw [hv]
        have := ih k (i + 2) (acc ++ [val2 (L s)[i] (L s)[i + 1]]) (by omega) (by omega) (by rw [List.length_append, List.length_singleton]; omega)
        have e : ((i : Int) + 2) = ((i + 2 : Nat) : Int) := by omega
        rw [e, this]
        cases unhexL ((L s).drop (i + 2)) with
        | none => rfl
        | some r => simp [unhexR]
theorem unhex_f (s : ByteArray) (hs : s.size ≤ 1000000) (k : Nat) (hk : s.size + 30 < k) : octet_Unhex.f k s = some (if s.size % 2 = 0 then unhexR (unhexL (L s)) [] else ((⟨#[]⟩ : ByteArray), false)) := by
  unfold octet_Unhex.f
  rw [w64 (by omega) (by omega)]
  by_cases h : s.size % 2 = 0
  · rw [if_pos (by omega), if_pos (by omega), if_pos (by omega), if_pos h]
    have := unhex_l0 s hs (s.size / 2) k 0 [] (by omega) (by omega) (by rw [List.length_nil]; omega)
    exact this
  · rw [if_neg (by omega), if_neg h]
/-- Digits of a byte. -/
def hexU (c : UInt8) : List UInt8 := (octet_Hex.hx c).map fun n => UInt8.ofNat n.toNat
theorem hex_all : ∀ c : Fin 256, (match hexU (UInt8.ofNat c.val) with
    | [a, b] => decide (0 ≤ dig a.toNat ∧ 0 ≤ dig b.toNat ∧ val2 a b = (c.val : Int))
    | _ => false) = true := by decide +kernel
theorem hexU_two (c : UInt8) : ∃ a b, hexU c = [a, b] ∧ 0 ≤ dig a.toNat ∧ 0 ≤ dig b.toNat ∧ val2 a b = (c.toNat : Int) := by
  have h := hex_all ⟨c.toNat, c.toNat_lt⟩
  simp only [UInt8.ofNat_toNat] at h
  split at h
  · rename_i a b e
    simp only [decide_eq_true_eq] at h
    exact ⟨a, b, e, h⟩
  · cases h
theorem hex_f (s : ByteArray) (hs : s.size ≤ 1000000) : octet_Hex.f s = some (strOfNums ((L s).flatMap octet_Hex.hx)) := by
  unfold octet_Hex.f; rw [if_pos hs]; rfl
theorem L_hex (s : ByteArray) : L (strOfNums ((L s).flatMap octet_Hex.hx)) = (L s).flatMap hexU := by
  rw [L_nums, List.map_flatMap]; rfl
theorem size_hex (s : ByteArray) : (strOfNums ((L s).flatMap octet_Hex.hx)).size = 2 * s.size := by
  rw [size_nums, octet_Hex.hx_len, L_len]
theorem unhex_hex (l : List UInt8) : unhexL (l.flatMap hexU) = some (l.map fun c => (c.toNat : Int)) := by
  induction l with
  | nil => rfl
  | cons c l ih =>
    obtain ⟨a, b, e, h1, h2, h3⟩ := hexU_two c
    rw [List.flatMap_cons, e, List.cons_append, List.cons_append, List.nil_append, unhexL, if_neg (by omega), ih, h3]; rfl
theorem nums_bytes (s : ByteArray) : strOfNums ((L s).map fun c => (c.toNat : Int)) = s := by
  apply L_ext
  rw [L_nums, List.map_map]
  have : ((fun n : Int => UInt8.ofNat n.toNat) ∘ fun c : UInt8 => (c.toNat : Int)) = id := by
    funext c; simp
  rw [this, List.map_id]
end Go.Proofs.Ytinojomgdjogdaa.B
