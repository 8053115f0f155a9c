/- Lemmas on bytes, lists and rounds that the pure laws of this seat use. No condition. -/
import Derived.RowKit
import Derived.Laws.BytesArg
import Derived.Laws.Strings
import Derived.Test.YtoepiofmkjajaaaWWords
namespace Go.Proofs.Ytoepiofmkjajaaa.B
open Go.RowKit Go.Proofs.YtoepiofmkjajaaaW.PrintWords
set_option linter.unusedVariables false
set_option linter.unusedSimpArgs false

/-- The bytes of a text as a list. -/
def L (s : ByteArray) : List UInt8 := s.data.toList
theorem L_len (s : ByteArray) : (L s).length = s.size := rfl
theorem L_ext {a b : ByteArray} (h : L a = L b) : a = b := ByteArray.ext (Array.toList_inj.1 h)
theorem L_app (a b : ByteArray) : L (a ++ b) = L a ++ L b := by simp [L]
theorem L_mk (l : List UInt8) : L ⟨l.toArray⟩ = l := rfl
theorem L_nil : L (⟨#[]⟩ : ByteArray) = [] := rfl
theorem L_ext_ (s : ByteArray) (i j : Nat) : L (s.extract i j) = ((L s).take j).drop i := by
  simp [L, ByteArray.data_extract, Array.toList_extract, List.extract_eq_take_drop, List.drop_take]
theorem toList_L (s : ByteArray) : s.toList = L s := ByteArray.toList_eq s
theorem L_nums (l : List Int) : L (strOfNums l) = l.map fun n => UInt8.ofNat n.toNat := rfl
theorem size_nums (l : List Int) : (strOfNums l).size = l.length := by simp [strOfNums, ByteArray.size]
theorem size_app (a b : ByteArray) : (a ++ b).size = a.size + b.size := ByteArray.size_append
theorem size_ext (s : ByteArray) (i j : Nat) : (s.extract i j).size = min j s.size - i := ByteArray.size_extract
theorem bt_L (s : ByteArray) (i : Int) : bt s i = (((L s)[i.toNat]?.getD 0).toNat : Int) := by
  unfold bt L
  split
  · rename_i h
    have h' : i.toNat < s.data.toList.length := h
    rw [List.getElem?_eq_getElem h']; rfl
  · rename_i h
    have h' : s.data.toList.length ≤ i.toNat := Nat.le_of_not_lt h
    rw [List.getElem?_eq_none h']; rfl
theorem btL_range (s : ByteArray) (i : Int) : 0 ≤ bt s i ∧ bt s i ≤ 255 := bt_range s i
theorem bt_app_l (a b : ByteArray) (i : Int) (h : i.toNat < a.size) : bt (a ++ b) i = bt a i := by
  rw [bt_L, bt_L, L_app, List.getElem?_append_left (by rw [L_len]; exact h)]
theorem bt_app_r (a b : ByteArray) (i : Int) (h : a.size ≤ i.toNat) : bt (a ++ b) i = bt b ((i.toNat - a.size : Nat) : Int) := by
  rw [bt_L, bt_L, L_app, List.getElem?_append_right (by rw [L_len]; exact h), L_len]; rfl
theorem bt_ext (s : ByteArray) (i j : Nat) (k : Int) (h : i + k.toNat < j) : bt (s.extract i j) k = bt s ((i + k.toNat : Nat) : Int) := by
  rw [bt_L, bt_L, L_ext_, List.getElem?_drop, List.getElem?_take_of_lt h]; rfl
theorem bt_nums (l : List Int) (i : Int) (h : ∀ x ∈ l, 0 ≤ x ∧ x ≤ 255) : bt (strOfNums l) i = l.getD i.toNat 0 := by
  rw [bt_L, L_nums, List.getElem?_map, List.getD_eq_getElem?_getD]
  cases e : l[i.toNat]? with
  | none => rfl
  | some x =>
    have := h x (List.mem_of_getElem? e)
    simp only [Option.map_some, Option.getD_some, UInt8.toNat_ofNat']
    omega
theorem bt_one (x : Int) (h : 0 ≤ x ∧ x ≤ 255) : bt (strOfNums [x]) 0 = x := by
  rw [bt_nums]
  · rfl
  · intro y hy; simp at hy; omega
theorem eq_of_bt {a b : ByteArray} (hs : a.size = b.size) (h : ∀ i : Nat, i < a.size → bt a i = bt b i) : a = b := by
  apply L_ext
  apply List.ext_getElem (by rw [L_len, L_len, hs])
  intro i h1 h2
  have := h i h1
  rw [bt_L, bt_L] at this
  simp only [Int.toNat_natCast, List.getElem?_eq_getElem h1, List.getElem?_eq_getElem h2, Option.getD_some] at this
  exact UInt8.toNat_inj.1 (by omega)
theorem ext_all (s : ByteArray) : s.extract 0 s.size = s := by
  apply L_ext; rw [L_ext_, List.drop_zero, ← L_len, List.take_length]
theorem ext_app_l (a b : ByteArray) : (a ++ b).extract 0 a.size = a := by
  apply L_ext; rw [L_ext_, L_app, List.drop_zero, ← L_len, List.take_left]
theorem ext_app_r (a b : ByteArray) (j : Nat) (h : a.size + b.size ≤ j) : (a ++ b).extract a.size j = b := by
  apply L_ext; rw [L_ext_, L_app, List.take_of_length_le (by rw [List.length_append, L_len, L_len]; exact h), ← L_len, List.drop_left]
theorem app_empty (a : ByteArray) : a ++ (⟨#[]⟩ : ByteArray) = a := by apply L_ext; rw [L_app, L_nil, List.append_nil]
theorem empty_app (a : ByteArray) : (⟨#[]⟩ : ByteArray) ++ a = a := by apply L_ext; rw [L_app, L_nil, List.nil_append]
theorem size_zero {s : ByteArray} (h : s.size = 0) : s = ⟨#[]⟩ := by
  apply L_ext; rw [L_nil]; exact List.eq_nil_of_length_eq_zero h
theorem toList_nil (s : ByteArray) : s.toList = [] ↔ s.size = 0 := by
  rw [toList_L]
  constructor
  · intro h; rw [← L_len, h]; rfl
  · intro h; exact List.eq_nil_of_length_eq_zero h
theorem toList_inj {a b : ByteArray} : a.toList = b.toList ↔ a = b := by
  rw [toList_L, toList_L]; exact ⟨L_ext, fun h => by rw [h]⟩
theorem w64 {n : Int} (h : -9223372036854775808 ≤ n) (h2 : n ≤ 9223372036854775807) : wrap64 n = n := by unfold wrap64; omega
theorem wf_u8 {n : Int} (h : (Lit.int .u8 n).wf = true) : 0 ≤ n ∧ n ≤ 255 := by
  simp [Lit.wf, IntKind.min, IntKind.max, IntKind.signed, IntKind.bits] at h; omega
theorem wf_u32 {n : Int} (h : (Lit.int .u32 n).wf = true) : 0 ≤ n ∧ n ≤ 4294967295 := by
  simp [Lit.wf, IntKind.min, IntKind.max, IntKind.signed, IntKind.bits] at h; omega
theorem wf_u64 {n : Int} (h : (Lit.int .u64 n).wf = true) : 0 ≤ n ∧ n ≤ 18446744073709551615 := by
  simp [Lit.wf, IntKind.min, IntKind.max, IntKind.signed, IntKind.bits] at h; omega
theorem wf_i64 {n : Int} (h : (Lit.int .i64 n).wf = true) : -9223372036854775808 ≤ n ∧ n ≤ 9223372036854775807 := by
  simp [Lit.wf, IntKind.min, IntKind.max, IntKind.signed, IntKind.bits] at h; omega
theorem tmod_pos {a b : Int} (hb : 0 < b) : -b < Int.tmod a b ∧ Int.tmod a b < b := by
  exact ⟨Int.lt_tmod_of_pos a hb, Int.tmod_lt_of_pos a hb⟩
/-- Go's (a%n + n) % n. -/
theorem place {a n : Int} (hn : 0 < n) (hm : n ≤ 4611686018427387904) : 0 ≤ Int.tmod (wrap64 (Int.tmod a n + n)) n ∧ Int.tmod (wrap64 (Int.tmod a n + n)) n < n := by
  have := tmod_pos (a := a) hn
  rw [w64 (by omega) (by omega)]
  rw [Int.tmod_eq_emod_of_nonneg (by omega)]
  exact ⟨Int.emod_nonneg _ (by omega), Int.emod_lt_of_pos _ hn⟩
end Go.Proofs.Ytoepiofmkjajaaa.B
