/- A byte behind a backslash is that byte. -/
import Derived.Test.YtigbeielobdfiaaGlobL
import Derived.Test.YtigbeielobdfiaaPx11
namespace Go.Proofs.Ytigbeielobdfiaa.Pure
open Go.RowKit Go.Proofs.Ytigbeielobdfiaa.P Go.Proofs.YtigbeielobdfiaaW.PrintWords Go.Proofs.YtigbeielobdfiaaW.PrintLast Go.Proofs.Ytigbeielobdfiaa.B
set_option linter.unusedVariables false
set_option linter.unusedSimpArgs false

theorem GlobEscapes : escutcheonlaw17_GlobEscapes.Pure := by
  intro a b ha hb
  have ha := wf_u8 ha
  have hb := wf_u8 hb
  obtain ⟨K, hK⟩ : ∃ K : Nat, 60000 ≤ K := ⟨60000, Nat.le_refl _⟩
  refine ⟨K, ?_⟩
  unfold escutcheonlaw17_GlobEscapes.f
  have hbs : (⟨#[92]⟩ : ByteArray).size = 1 := rfl
  have n1 : ∀ x : Int, (strOfNums [x]).size = 1 := fun x => size_nums [x]
  have hL : L ((⟨#[92]⟩ : ByteArray) ++ strOfNums [a]) = [92, a.toNat.toUInt8] := by rw [L_app, L_nums]; rfl
  have hp : pat ((⟨#[92]⟩ : ByteArray) ++ strOfNums [a]) = some [⟨92, (a.toNat.toUInt8).toNat⟩] := by
    unfold pat
    rw [if_pos (by rw [size_app, hbs, n1]; omega), hL, parse_quote]; rfl
  have hp0 : pat (⟨#[92]⟩ : ByteArray) = none := by decide +kernel
  have hau : (((a.toNat.toUInt8).toNat : Nat) : Int) = a := by
    simp [Nat.toUInt8]; omega
  have htx : txt ((⟨#[92]⟩ : ByteArray) ++ strOfNums [a]) = some [a.toNat.toUInt8] := by
    unfold txt
    rw [hp]
    simp only [Option.bind_some, lits]
    rw [if_pos trivial, hau]; rfl
  have hG : ∀ s : ByteArray, G ((⟨#[92]⟩ : ByteArray) ++ strOfNums [a]) s ↔ L s = [a.toNat.toUInt8] := by
    intro s
    unfold G
    rw [hp]
    constructor
    · rintro ⟨l, h, h2⟩
      injection h with h; subst h
      obtain ⟨c, h3, h4⟩ := (Mt_one _ _).mp h2
      rw [h3]
      have h4 : (c.toNat : Int) = ((a.toNat.toUInt8).toNat : Int) := h4
      have : c = a.toNat.toUInt8 := UInt8.toNat_inj.mp (by omega)
      rw [this]
    · intro h
      exact ⟨_, rfl, (Mt_one _ _).mpr ⟨_, h, rfl⟩⟩
  have hr : glob_Right.f K ((⟨#[92]⟩ : ByteArray) ++ strOfNums [a]) = some true := by rw [right_f _ _ (by omega), hp]; rfl
  have hr0 : glob_Right.f K (⟨#[92]⟩ : ByteArray) = some false := by rw [right_f _ _ (by omega), hp0]; rfl
  have hpl : glob_Plain.f K ((⟨#[92]⟩ : ByteArray) ++ strOfNums [a]) = some (⟨[a.toNat.toUInt8].toArray⟩, true) := by rw [plain_f _ _ (by omega), htx]
  rw [alive_k _ (by omega), Option.bind_some, if_pos rfl, Option.bind_some, if_pos (by rw [n1]; omega), hpl, Option.bind_some, hr, Option.bind_some, if_pos rfl]
  obtain ⟨b1, e1, g1⟩ := match_f ((⟨#[92]⟩ : ByteArray) ++ strOfNums [a]) (strOfNums [b]) (by rw [n1]; omega) K (by omega)
  obtain ⟨b2, e2, g2⟩ := match_f ((⟨#[92]⟩ : ByteArray) ++ strOfNums [a]) (⟨#[]⟩ : ByteArray) (by decide) K (by omega)
  obtain ⟨b3, e3, g3⟩ := match_f (⟨#[92]⟩ : ByteArray) (⟨#[92]⟩ : ByteArray) (by decide) K (by omega)
  rw [hG] at g1 g2
  have r1 : (b1 == (a == b)) = true := by
    refine beq_iff g1 (beq_iff_eq) ?_
    rw [L_nums]
    constructor
    · intro h
      simp only [List.map_cons, List.map_nil, List.cons.injEq, and_true] at h
      have h2 := congrArg UInt8.toNat h
      simp [Nat.toUInt8] at h2; omega
    · rintro rfl; rfl
  have r2 : b2 = false := by
    cases b2 with
    | false => rfl
    | true => have := g2.mp rfl; cases this
  have r3 : b3 = false := by
    cases b3 with
    | false => rfl
    | true => obtain ⟨l, h, _⟩ := g3.mp rfl; rw [hp0] at h; cases h
  subst r2; subst r3
  rw [e1, Option.bind_some, if_pos r1, e2, Option.bind_some, if_neg (by decide), if_pos rfl, if_pos (by rw [toList_L, toList_L, L_nums]; rfl), hr0, Option.bind_some, if_neg (by decide), e3, Option.bind_some]; rfl
end Go.Proofs.Ytigbeielobdfiaa.Pure
