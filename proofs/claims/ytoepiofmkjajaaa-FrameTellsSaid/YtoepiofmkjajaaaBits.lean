/- Bits of words and bytes as plain numbers; lists that are filled place by place. No condition. -/
import Derived.Laws.BitsLemmas
import Derived.IntWalk
import Derived.Test.YtoepiofmkjajaaaBase
import Derived.Test.YtoepiofmkjajaaaWMore
namespace Go.Proofs.Ytoepiofmkjajaaa.B
open Go.RowKit Go.Proofs.YtoepiofmkjajaaaW.PrintWords Go.Proofs.YtoepiofmkjajaaaW.PrintLast Go.Proofs.YtoepiofmkjajaaaW.PrintMore
set_option linter.unusedVariables false
set_option linter.unusedSimpArgs false

theorem wrap_u64 (n : Int) : IntKind.u64.wrap n = n % 18446744073709551616 := by simp [IntKind.wrap, IntKind.bits, IntKind.signed]
theorem wu64 {n : Int} (h : 0 ≤ n) (h2 : n < 18446744073709551616) : IntKind.u64.wrap n = n := by rw [wrap_u64]; omega
theorem wu32 {n : Int} (h : 0 ≤ n) (h2 : n < 4294967296) : IntKind.u32.wrap n = n := by rw [IntKind.wrap_u32]; omega
theorem wraps_u64 (n : Int) (h₀ : 0 ≤ n) (h₁ : n < 2 ^ 64) : IntKind.u64.wrap n = n := by rw [wrap_u64]; omega
theorem wraps_u32 (n : Int) (h₀ : 0 ≤ n) (h₁ : n < 2 ^ 32) : IntKind.u32.wrap n = n := by rw [IntKind.wrap_u32]; omega
/-- v<<8 | c -/
theorem or_byte (v c : Int) (hv : 0 ≤ v) (hv2 : v < 2 ^ 56) (hc : 0 ≤ c ∧ c ≤ 255) : Go.bits .or .u64 (IntKind.u64.wrap (v * 256)) (IntKind.u64.wrap c) = v * 256 + c := by
  rw [wu64 (by omega) (by omega), wu64 (by omega) (by omega)]
  exact bits_join .u64 64 (by decide) wraps_u64 8 _ _ (by omega) (by omega) (by omega) (by omega) (by omega) (by omega)
theorem and255 (x : Int) (h : 0 ≤ x) (h2 : x < 18446744073709551616) : Go.bits .and .u64 x 255 = x % 256 := bits_mask .u64 64 (by decide) wraps_u64 8 (by decide) x h (by omega)
theorem and31 (x : Int) (h : 0 ≤ x) (h2 : x < 18446744073709551616) : Go.bits .and .u64 x 31 = x % 32 := bits_mask .u64 64 (by decide) wraps_u64 5 (by decide) x h (by omega)
/-- Bytes xored. -/
theorem xor8 (a b : UInt8) : Go.bits .xor .u8 (a.toNat : Int) (b.toNat : Int) = ((a ^^^ b).toNat : Int) := by
  have ha := a.toNat_lt
  have hb := b.toNat_lt
  have h : (a ^^^ b).toNat = a.toNat ^^^ b.toNat := by simp
  have hl : a.toNat ^^^ b.toNat < 256 := Nat.xor_lt_two_pow (n := 8) ha hb
  simp only [Go.bits, BitVec.ofInt_natCast, BitVec.toNat_xor, BitVec.toNat_ofNat]
  have e1 : a.toNat % 2 ^ IntKind.u8.bits = a.toNat := Nat.mod_eq_of_lt ha
  have e2 : b.toNat % 2 ^ IntKind.u8.bits = b.toNat := Nat.mod_eq_of_lt hb
  rw [e1, e2, h]
  exact wraps_u8 _ (by omega) (by omega)
theorem xor8_bt (a b : ByteArray) (i : Int) : Go.bits .xor .u8 (bt a i) (bt b i) = ((((L a)[i.toNat]?.getD 0) ^^^ ((L b)[i.toNat]?.getD 0) : UInt8).toNat : Int) := by
  rw [bt_L, bt_L, xor8]
theorem shr64 (x : Int) (i : Nat) (hi : i ≤ 7) : shr .u64 x (8 * (i : Int)) = x / 256 ^ i := by
  unfold shr
  have : min (8 * (i : Int)).toNat IntKind.u64.bits = 8 * i := by
    have : IntKind.u64.bits = 64 := rfl
    omega
  rw [this]
  have h : (2 : Int) ^ (8 * i) = 256 ^ i := by rw [Int.pow_mul]; rfl
  rw [h]
/-- A list filled place by place, from the front. -/
theorem fill_front (g : Nat → Int) (xs : List Int) (i : Nat) (h : i < xs.length) : ((List.range i).map g ++ xs.drop i).set i (g i) = (List.range (i + 1)).map g ++ xs.drop (i + 1) := by
  have hl : ((List.range i).map g).length = i := by simp
  rw [List.set_append_right _ _ (by omega), hl, Nat.sub_self, List.range_succ, List.map_append, List.append_assoc]
  congr 1
  rw [List.drop_eq_getElem_cons h]
  rfl
theorem fill_len (g : Nat → Int) (xs : List Int) (i : Nat) (h : i ≤ xs.length) : ((List.range i).map g ++ xs.drop i).length = xs.length := by
  rw [List.length_append, List.length_map, List.length_range, List.length_drop]; omega
/-- .. and from the back: the last i places are G's. -/
theorem fill_back (G xs : List Int) (i : Nat) (hl : G.length = xs.length) (h : i < xs.length) : (xs.take (i + 1) ++ G.drop (i + 1)).set i (G.getD i 0) = xs.take i ++ G.drop i := by
  rw [List.set_append_left _ _ (by rw [List.length_take]; omega)]
  have h1 : (xs.take (i + 1)).set i (G.getD i 0) = xs.take i ++ [G.getD i 0] := by
    rw [List.take_succ_eq_append_getElem h, List.set_append_right _ _ (by rw [List.length_take]; omega)]
    simp [List.length_take, Nat.min_eq_left (Nat.le_of_lt h)]
  rw [h1, List.append_assoc]
  congr 1
  have hG : i < G.length := by omega
  rw [List.drop_eq_getElem_cons hG, List.getD_eq_getElem?_getD, List.getElem?_eq_getElem hG]
  rfl
theorem fill_back_len (G xs : List Int) (i : Nat) (hl : G.length = xs.length) (h : i ≤ xs.length) : (xs.take i ++ G.drop i).length = xs.length := by
  rw [List.length_append, List.length_take, List.length_drop]; omega
theorem wrap64_succ {i : Nat} {n : Nat} (h : i < n) (hn : n ≤ 140737488355328) : wrap64 ((i : Int) + 1) = ((i + 1 : Nat) : Int) := by
  rw [w64 (by omega) (by omega)]; omega
end Go.Proofs.Ytoepiofmkjajaaa.B
