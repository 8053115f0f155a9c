/- A quarter round goes back. -/
import Derived.Test.YtdnlenhkagfiaaaStreamC
import Derived.Test.YtdnlenhkagfiaaaPx14
namespace Go.Proofs.Ytdnlenhkagfiaaa.Pure
open Go.RowKit Go.Proofs.Ytdnlenhkagfiaaa.P Go.Proofs.YtdnlenhkagfiaaaW.PrintWords Go.Proofs.YtdnlenhkagfiaaaW.PrintLast Go.Proofs.YtdnlenhkagfiaaaW.PrintMore Go.Proofs.Ytdnlenhkagfiaaa.B
set_option linter.unusedVariables false
set_option linter.unusedSimpArgs false

theorem xor_bv (x y : Int) : Go.bits .xor .u32 x y = (((BitVec.ofInt 32 x ^^^ BitVec.ofInt 32 y).toNat : Nat) : Int) := by
  simp only [Go.bits, IntKind.wrap_u32]
  show (((BitVec.ofInt 32 x ^^^ BitVec.ofInt 32 y).toNat : Nat) : Int) % 4294967296 = _
  have h : (BitVec.ofInt 32 x ^^^ BitVec.ofInt 32 y).toNat < 2 ^ 32 := BitVec.isLt _
  have h2 : (2 : Nat) ^ 32 = 4294967296 := by decide
  exact Int.emod_eq_of_lt (by omega) (by omega)
theorem bv_nat (v : BitVec 32) : BitVec.ofInt 32 ((v.toNat : Nat) : Int) = v := by simp
theorem bv_int (x : Int) (h : R32 x) : ((BitVec.ofInt 32 x).toNat : Int) = x := by
  have h1 := h.1
  have h2 := h.2
  rw [BitVec.toNat_ofInt]
  omega
theorem xor_back (x y : Int) (hx : R32 x) : Go.bits .xor .u32 (Go.bits .xor .u32 x y) y = x := by
  rw [xor_bv, xor_bv, bv_nat, BitVec.xor_assoc, BitVec.xor_self, BitVec.xor_zero, bv_int x hx]
theorem rotl_32 (x : Int) (hx : R32 x) (s t : Nat) (h : s + t = 32) : rotl (rotl x s) t = x := by
  rw [rotl_add, h, ← rotl_mod, rotl_zero x hx]
theorem StreamQuarters : escutcheonlaw5_StreamQuarters.Pure := by
  intro a b c d ha hb hc hd
  have ha : R32 a := wf_u32 ha
  have hb : R32 b := wf_u32 hb
  have hc : R32 c := wf_u32 hc
  have hd : R32 d := wf_u32 hd
  refine ⟨100, ?_⟩
  unfold escutcheonlaw5_StreamQuarters.f
  rw [alive_k _ (by omega), Option.bind_some, if_pos rfl, quarter_f, Option.bind_some]
  obtain ⟨a1, e1⟩ : ∃ a1, (a + b) % 4294967296 = a1 := ⟨_, rfl⟩
  obtain ⟨d1, e2⟩ : ∃ d1, rotl (Go.bits .xor .u32 d a1) 16 = d1 := ⟨_, rfl⟩
  obtain ⟨c1, e3⟩ : ∃ c1, (c + d1) % 4294967296 = c1 := ⟨_, rfl⟩
  obtain ⟨b1, e4⟩ : ∃ b1, rotl (Go.bits .xor .u32 b c1) 12 = b1 := ⟨_, rfl⟩
  obtain ⟨a2, e5⟩ : ∃ a2, (a1 + b1) % 4294967296 = a2 := ⟨_, rfl⟩
  obtain ⟨d2, e6⟩ : ∃ d2, rotl (Go.bits .xor .u32 d1 a2) 8 = d2 := ⟨_, rfl⟩
  obtain ⟨c2, e7⟩ : ∃ c2, (c1 + d2) % 4294967296 = c2 := ⟨_, rfl⟩
  obtain ⟨b2, e8⟩ : ∃ b2, rotl (Go.bits .xor .u32 b1 c2) 7 = b2 := ⟨_, rfl⟩
  have hq : qF a b c d = (a2, b2, c2, d2) := by
    unfold qF
    simp only [e1, e2, e3, e4, e5, e6, e7, e8]
  have ra1 : R32 a1 := e1 ▸ r32_mod _
  have rc1 : R32 c1 := e3 ▸ r32_mod _
  have rd1 : R32 d1 := e2 ▸ rotl_range _ _
  have rb1 : R32 b1 := e4 ▸ rotl_range _ _
  have rd2 : R32 d2 := e6 ▸ rotl_range _ _
  have rb2 : R32 b2 := e8 ▸ rotl_range _ _
  have l1 : escutcheonref1_Left.f b2 (-7) = some (Go.bits .xor .u32 b1 c2) := by
    rw [refLeft_f _ _ rb2 (by omega), show ((-7 : Int) % 32).toNat = 25 by decide, ← e8, rotl_32 _ (xor32 _ _) 7 25 rfl]
  have l2 : escutcheonref1_Left.f d2 (-8) = some (Go.bits .xor .u32 d1 a2) := by
    rw [refLeft_f _ _ rd2 (by omega), show ((-8 : Int) % 32).toNat = 24 by decide, ← e6, rotl_32 _ (xor32 _ _) 8 24 rfl]
  have l3 : escutcheonref1_Left.f b1 (-12) = some (Go.bits .xor .u32 b c1) := by
    rw [refLeft_f _ _ rb1 (by omega), show ((-12 : Int) % 32).toNat = 20 by decide, ← e4, rotl_32 _ (xor32 _ _) 12 20 rfl]
  have l4 : escutcheonref1_Left.f d1 (-16) = some (Go.bits .xor .u32 d a1) := by
    rw [refLeft_f _ _ rd1 (by omega), show ((-16 : Int) % 32).toNat = 16 by decide, ← e2, rotl_32 _ (xor32 _ _) 16 16 rfl]
  have x1 := xor_back b1 c2 rb1
  have x2 := xor_back d1 a2 rd1
  have x3 := xor_back b c1 hb
  have x4 := xor_back d a1 hd
  have s1 : (c2 - d2) % 4294967296 = c1 := by have := rc1.1; have := rc1.2; omega
  have s2 : (a2 - b1) % 4294967296 = a1 := by have := ra1.1; have := ra1.2; omega
  have s3 : (c1 - d1) % 4294967296 = c := by have := hc.1; have := hc.2; omega
  have s4 : (a1 - b) % 4294967296 = a := by have := ha.1; have := ha.2; omega
  rw [hq]
  simp only []
  rw [l1, Option.bind_some, l2, Option.bind_some, x1, x2, l3, Option.bind_some, l4, Option.bind_some, s1, s2, x3, x4, s3, s4]
  simp
end Go.Proofs.Ytdnlenhkagfiaaa.Pure
