/- Multiplied by 1, a block is told as it is, with the key's second half. -/
import Derived.Test.YtagoibmemonkaaaOnetimeH
import Derived.Test.YtagoibmemonkaaaPureOnetimeShifts
import Derived.Test.YtagoibmemonkaaaPx15
namespace Go.Proofs.Ytagoibmemonkaaa.Pure
open Go.RowKit Go.Proofs.Ytagoibmemonkaaa.P Go.Proofs.YtagoibmemonkaaaW.PrintWords Go.Proofs.YtagoibmemonkaaaW.PrintLast Go.Proofs.YtagoibmemonkaaaW.PrintMore Go.Proofs.Ytagoibmemonkaaa.B
set_option linter.unusedVariables false
set_option linter.unusedSimpArgs false

theorem fin_nums (s : List Int) (t : ByteArray) (ht : t.size = 16) : finP s (le (t.extract 0 8)) (le (t.extract 8 16)) = strOfNums (littleL (W s + N16 t) 16) := by
  have h0 := le_bd (t.extract 0 8)
  have h1 := le_bd (t.extract 8 16)
  have hl : onetime_Tag.word (onetime_Tag.low s) := or64 _ _
  have hh : onetime_Tag.word (onetime_Tag.high s) := or64 _ _
  unfold onetime_Tag.word at hl hh
  rw [finP_little]
  congr 1
  apply littleL_mod
  rw [N16_split t ht]
  unfold W
  omega
def R1 : ByteArray := (⟨#[1]⟩ : ByteArray) ++ strOfNums (List.replicate 15 0)
theorem R1_size : R1.size = 16 := by unfold R1; rw [size_app, size_nums]; rfl
theorem y_one : yOf (rOf R1) = [1, 0, 0, 0, 0] := by decide +kernel
theorem tag_one (h b : ByteArray) (hh : h.size = 16) (hb : b.size = 16) : tagP (R1 ++ h) b = strOfNums (littleL (N16 b + N16 h) 16) := by
  have hs := sum_one [1, 0, 0, 0, 0] (norm5 1 0 0 0 0 (by decide) (by decide) (by decide) (by decide) (by decide)).small b hb
  have h0 := le_bd (b.extract 0 8)
  have h1 := le_bd (b.extract 8 16)
  have hW : W (sumP (rOf R1) b) = N16 b := by
    unfold W sumP
    rw [y_one, low_high _ hs.1, hs.2, show val [1, 0, 0, 0, 0] = 1 from rfl, Int.mul_one, N16_split b hb]
    clear hs
    rw [Int.emod_eq_of_lt (a := le (b.extract 0 8) + 18446744073709551616 * le (b.extract 8 16) + 340282366920938463463374607431768211456) (b := 1361129467683753853853498429727072845819) (by omega) (by omega)]
    omega
  unfold tagP
  rw [rOf_app R1 h R1_size, show (16 : Nat) = 16 + 0 from rfl, show (24 : Nat) = 16 + 8 from rfl, show (32 : Nat) = 16 + 16 from rfl, ext_snd R1 h R1_size hh 0 8 (by decide), ext_snd R1 h R1_size hh 8 16 (by decide)]
  have := fin_nums (sumP (rOf R1) b) h hh
  rw [hW] at this
  exact this
theorem OnetimeOne : escutcheonlaw6_OnetimeOne.Pure := by
  intro half b hs1 hs2
  refine ⟨200, ?_⟩
  unfold escutcheonlaw6_OnetimeOne.f
  rw [alive_k _ (by omega), Option.bind_some, if_pos rfl]
  rw [show (16 : Int) = ((16 : Nat) : Int) from rfl, fill_f half 16 (by decide) hs1 _ (by omega), Option.bind_some, fill_f b 16 (by decide) hs2 _ (by omega), Option.bind_some, if_pos (by decide), Option.bind_some]
  generalize hH : fillS half 16 = H
  generalize hB : fillS b 16 = B
  have hhs : H.size = 16 := by rw [← hH, fillS_size]
  have hbs : B.size = 16 := by rw [← hB, fillS_size]
  rw [if_pos (by rw [size_nums, List.length_replicate]; decide)]
  have h2 : (R1 ++ H).size = 32 := by rw [size_app, R1_size, hhs]
  have e : (((⟨#[1]⟩ : ByteArray) ++ strOfNums (List.replicate 15 0)) ++ H) = R1 ++ H := rfl
  rw [if_pos (by show R1.size + H.size ≤ _; rw [R1_size, hhs]; decide), e, tag_f (R1 ++ H) B h2 (by omega) _ (by omega), Option.bind_some, if_pos rfl, sum_f B H hbs hhs _ (by omega), Option.bind_some]
  simp only [tag_one H B hhs hbs]
  simp
end Go.Proofs.Ytagoibmemonkaaa.Pure
