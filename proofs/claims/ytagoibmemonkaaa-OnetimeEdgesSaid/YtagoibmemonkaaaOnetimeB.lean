/- onetime.Tag as a plain function, and that it always tells. -/
import Derived.Test.YtagoibmemonkaaaOnetimeA
namespace Go.Proofs.Ytagoibmemonkaaa.B
open Go.RowKit Go.Proofs.Ytagoibmemonkaaa.P Go.Proofs.YtagoibmemonkaaaW.PrintWords Go.Proofs.YtagoibmemonkaaaW.PrintLast Go.Proofs.YtagoibmemonkaaaW.PrintMore
set_option linter.unusedVariables false
set_option linter.unusedSimpArgs false

def le (s : ByteArray) : Int := num ((L s).take 8).reverse
theorem le_bd (s : ByteArray) : 0 ≤ le s ∧ le s < 18446744073709551616 := by
  have h := num_bd ((L s).take 8).reverse
  have h2 : ((L s).take 8).reverse.length ≤ 8 := by rw [List.length_reverse, List.length_take]; omega
  have h3 := pow256_le h2
  have h4 : (256 : Int) ^ 8 = 18446744073709551616 := by decide
  rw [h4] at h3
  exact ⟨h.1, Int.lt_of_lt_of_le h.2 h3⟩
theorem or64 (x y : Int) : onetime_Tag.word (Go.bits .or .u64 x y) := by
  unfold onetime_Tag.word
  simp only [Go.bits, IntKind.wrap_u64]
  omega
def blockP (b : ByteArray) : List Int := onetime_split.f (le ((onetime_Tag.chunk b).extract 0 8)) (le ((onetime_Tag.chunk b).extract 8 16)) (IntKind.u64.wrap (bt (onetime_Tag.chunk b) 16))
def goP (y : List Int) : Nat → ByteArray → List Int → List Int
  | 0, _, s => s
  | n + 1, b, s => if b.size = 0 then s else goP y n (b.extract (min b.size 16) b.size) (onetime_number_times.f (onetime_number_plus.f s (blockP b)) y)
theorem go_f (y : List Int) (k : Nat) (hk : 8 < k) : ∀ (n m : Nat) (b : ByteArray) (s : List Int), b.size ≤ 16 * n → n < m → onetime_Tag.go k y m b s = some (goP y n b s)
  | 0, m, b, s, hb, hm => by
    obtain ⟨m, rfl⟩ : ∃ m', m = m' + 1 := ⟨m - 1, by omega⟩
    rw [onetime_Tag.go, if_pos (by omega), goP]
  | n + 1, m, b, s, hb, hm => by
    obtain ⟨m, rfl⟩ : ∃ m', m = m' + 1 := ⟨m - 1, by omega⟩
    rw [onetime_Tag.go, goP]
    by_cases h : b.size = 0
    · rw [if_pos h, if_pos h]
    · rw [if_neg h, if_neg h, little_f _ _ hk, Option.bind_some, little_f _ _ hk, Option.bind_some]
      exact go_f y k hk n m _ _ (by rw [size_ext]; omega) (by omega)
def rOf (key : ByteArray) : ByteArray := strOfNums (onetime_Clamp.out key)
theorem rOf_size (key : ByteArray) : (rOf key).size = 16 := by unfold rOf onetime_Clamp.out; rw [size_nums]; simp
def yOf (r : ByteArray) : List Int := onetime_split.f (le (r.extract 0 8)) (le (r.extract 8 16)) 0
def sumP (r b : ByteArray) : List Int := onetime_number_whole.f (goP (yOf r) 100 b (List.replicate 5 0))
def finP (s : List Int) (m0 m1 : Int) : ByteArray :=
  strOfNums (littleL ((onetime_Tag.low s + m0) % 18446744073709551616) 8) ++ strOfNums (littleL ((onetime_Tag.high s + m1 + (onetime_Tag.low s + m0) / 18446744073709551616) % 18446744073709551616) 8)
theorem finP_size (s : List Int) (m0 m1 : Int) : (finP s m0 m1).size = 16 := by unfold finP; rw [size_app, size_little, size_little]
theorem fin_f (key : ByteArray) (hk : key.size = 32) (s : List Int) (k : Nat) (h : 20 ≤ k) : onetime_Tag.fin k key s = some (finP s (le (key.extract 16 24)) (le (key.extract 24 32)), true) := by
  unfold onetime_Tag.fin
  rw [little_f _ _ (by omega), Option.bind_some, little_f _ _ (by omega), Option.bind_some, hk]
  rw [if_pos (show _ from ⟨or64 _ _, le_bd _, or64 _ _, le_bd _⟩)]
  have h8 : ∀ v : Int, onetime_Tag.word v → octet_PutLittle.f k v 8 = some (strOfNums (littleL v 8)) := fun v _ => putLittle_f v 8 (by decide) (by decide) k (by omega)
  have hm : ∀ v : Int, onetime_Tag.word (v % 18446744073709551616) := fun v => ⟨by omega, by omega⟩
  rw [h8 _ (hm _), Option.bind_some, h8 _ (hm _), Option.bind_some, if_pos ⟨size_little _ _, size_little _ _⟩]
  rfl
def tagP (key b : ByteArray) : ByteArray := finP (sumP (rOf key) b) (le (key.extract 16 24)) (le (key.extract 24 32))
theorem tagP_size (key b : ByteArray) : (tagP key b).size = 16 := finP_size _ _ _
theorem clamp_f (key : ByteArray) (h : key.size = 32) : onetime_Clamp.f key = some (rOf key, true) := by unfold onetime_Clamp.f; rw [if_pos h]; rfl
theorem tag_f (key b : ByteArray) (hk : key.size = 32) (hb : b.size ≤ 1600) (k : Nat) (h : 110 ≤ k) : onetime_Tag.f k key b = some (tagP key b, true) := by
  unfold onetime_Tag.f
  rw [clamp_f key hk, Option.bind_some, if_pos rfl]
  simp only [rOf_size]
  rw [if_pos ⟨trivial, hk, by omega⟩, little_f _ _ (by omega), Option.bind_some, little_f _ _ (by omega), Option.bind_some]
  rw [show onetime_split.f (num ((L ((rOf key).extract 0 8)).take 8).reverse) (num ((L ((rOf key).extract 8 16)).take 8).reverse) 0 = yOf (rOf key) from rfl]
  rw [go_f _ k (by omega) 100 k b _ (by omega) (by omega), Option.bind_some, fin_f key hk _ k (by omega)]
  rfl
theorem tag_no (key b : ByteArray) (hk : key.size ≠ 32) (hs : key.size ≤ 140737488351232) (k : Nat) : onetime_Tag.f k key b = some ((⟨#[]⟩ : ByteArray), false) := by
  unfold onetime_Tag.f onetime_Clamp.f
  rw [if_neg hk, if_pos hs, Option.bind_some, if_neg (by decide)]
end Go.Proofs.Ytagoibmemonkaaa.B
