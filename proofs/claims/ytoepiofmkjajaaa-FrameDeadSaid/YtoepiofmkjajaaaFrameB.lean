/- Frames as a plain function: what next and Feed tell, what Put lays. -/
import Derived.Test.YtoepiofmkjajaaaFrameA
import Derived.Test.YtoepiofmkjajaaaPx7
import Derived.Test.YtoepiofmkjajaaaPx8
namespace Go.Proofs.Ytoepiofmkjajaaa.B
open Go.RowKit Go.Proofs.Ytoepiofmkjajaaa.P Go.Proofs.YtoepiofmkjajaaaW.PrintWords Go.Proofs.YtoepiofmkjajaaaW.PrintLast Go.Proofs.YtoepiofmkjajaaaW.PrintMore
set_option linter.unusedVariables false
set_option linter.unusedSimpArgs false

/-- The length at the beginning of bytes. -/
def hd (s : ByteArray) : Int := bt s 0 * 256 + bt s 1
theorem hd_bd (s : ByteArray) : 0 ≤ hd s ∧ hd s ≤ 65535 := by
  have h0 := bt_range s 0
  have h1 := bt_range s 1
  unfold hd; omega
theorem L_two (s : ByteArray) (h : 2 ≤ s.size) : (L s).take 2 = [(L s)[0]'(by rw [L_len]; omega), (L s)[1]'(by rw [L_len]; omega)] := by
  have h1 : 1 < (L s).length := by rw [L_len]; omega
  rw [show (2 : Nat) = 0 + 1 + 1 from rfl, List.take_succ_eq_append_getElem (by omega), List.take_succ_eq_append_getElem (by omega), List.take_zero]
  rfl
theorem num_two (s : ByteArray) (h : 2 ≤ s.size) : num (L (s.extract 0 2)) = hd s := by
  have h0 : 0 < (L s).length := by rw [L_len]; omega
  have h1 : 1 < (L s).length := by rw [L_len]; omega
  rw [L_ext_, List.drop_zero, L_two s h]
  unfold num hd
  rw [bt_L, bt_L, show (0 : Int).toNat = 0 from rfl, show (1 : Int).toNat = 1 from rfl, List.getElem?_eq_getElem h0, List.getElem?_eq_getElem h1]
  simp
theorem big_two (s : ByteArray) (h : 2 ≤ s.size) (hs : s.size ≤ 140737488351232) : octet_Big.f (s.extract 0 2) = some (hd s) := by
  have hz : (s.extract 0 2).size = 2 := by rw [size_ext]; omega
  rw [big_f _ (by omega), hz, show 2 - 8 = 0 from rfl, List.drop_zero, num_two s h]
theorem refBig_two (s : ByteArray) (h : 2 ≤ s.size) (hs : s.size ≤ 140737488351232) (k : Nat) (hk : 9 ≤ k) : escutcheonref1_Big.f k (s.extract 0 2) = some (hd s) := by
  have hz : (s.extract 0 2).size = 2 := by rw [size_ext]; omega
  rw [refBig_f _ (by omega) k hk, hz, show 2 - 8 = 0 from rfl, List.drop_zero, num_two s h]
def Fits (s : ByteArray) : Prop := 1 ≤ hd s ∧ hd s ≤ 2200
instance (s : ByteArray) : Decidable (Fits s) := inferInstanceAs (Decidable (_ ∧ _))
/-- A frame's end. -/
def fe (s : ByteArray) : Nat := 2 + (hd s).toNat
theorem right_f (n : Int) : frame_right.f n = some (decide (1 ≤ n ∧ n ≤ 2200)) := by
  unfold frame_right.f
  by_cases h : n ≥ 1
  · rw [if_pos h]; simp [h]
  · rw [if_neg h]
    have : ¬ (1 ≤ n) := by omega
    simp [this]
theorem next_f (s : ByteArray) (hs : s.size ≤ 1000000) (c : Int) (k : Nat) : frame_Reader_next.f (k + 1) s false c = some (
    if s.size < 2 then ((⟨#[]⟩ : ByteArray), false, s, false, c)
    else if Fits s then (if s.size < fe s then ((⟨#[]⟩ : ByteArray), false, s, false, c) else (s.extract 2 (fe s), true, s.extract (fe s) s.size, false, wrap64 (c + 1)))
    else ((⟨#[]⟩ : ByteArray), false, (⟨#[]⟩ : ByteArray), true, c)) := by
  have hb := hd_bd s
  unfold frame_Reader_next.f
  rw [if_neg (by decide), frame_Reader_next.j0]
  by_cases h2 : s.size < 2
  · rw [if_pos h2, decide_eq_true (by omega), if_pos rfl]
  · rw [if_neg h2, decide_eq_false (by omega), if_neg (by decide), if_pos (by decide), if_pos (by omega), big_two s (by omega) (by omega), Option.bind_some, w64 (n := hd s) (by omega) (by omega), right_f, Option.bind_some]
    by_cases hf : Fits s
    · have hf' : 1 ≤ hd s ∧ hd s ≤ 2200 := hf
      rw [if_pos hf, decide_eq_true hf', if_pos rfl, w64 (n := (s.size : Int) - 2) (by omega) (by omega), w64 (n := 2 + hd s) (by omega) (by omega)]
      have hfe : 2 + hd s = ((fe s : Nat) : Int) := by unfold fe; omega
      by_cases hw : s.size < fe s
      · rw [if_pos hw, if_pos (by omega)]
      · rw [if_neg hw, if_neg (by omega), if_pos (by omega), if_pos (by omega), if_pos (by omega), hfe, Int.toNat_natCast]
        unfold atomic_Int64_Add.f
        rw [Option.bind_some, clone_f _ (by rw [size_ext]; omega), Option.bind_some]
    · have hf' : ¬ (1 ≤ hd s ∧ hd s ≤ 2200) := hf
      rw [if_neg hf, decide_eq_false hf', if_neg (by decide)]
/-- The frames at the beginning of bytes, what is left, whether a length may not be. -/
def parse : Nat → ByteArray → List ByteArray × ByteArray × Bool
  | 0, s => ([], s, false)
  | n + 1, s => if s.size < 2 then ([], s, false) else if Fits s then (if s.size < fe s then ([], s, false) else (s.extract 2 (fe s) :: (parse n (s.extract (fe s) s.size)).1, (parse n (s.extract (fe s) s.size)).2)) else ([], (⟨#[]⟩ : ByteArray), true)
theorem fe_ge (s : ByteArray) (h : Fits s) : 3 ≤ fe s ∧ fe s ≤ 2202 := by
  have h' : 1 ≤ hd s ∧ hd s ≤ 2200 := h
  unfold fe; omega
theorem rest_lt (s : ByteArray) (h : Fits s) (h2 : ¬ s.size < 2) : (s.extract (fe s) s.size).size < s.size := by
  have := fe_ge s h
  rw [size_ext]; omega
theorem parse_fuel : ∀ (n m : Nat) (s : ByteArray), s.size ≤ n → s.size ≤ m → parse n s = parse m s
  | 0, 0, s, _, _ => rfl
  | 0, m + 1, s, h, _ => by rw [parse, parse, if_pos (by omega)]
  | n + 1, 0, s, _, h => by rw [parse, parse, if_pos (by omega)]
  | n + 1, m + 1, s, h1, h2 => by
    rw [parse, parse]
    by_cases hs : s.size < 2
    · rw [if_pos hs, if_pos hs]
    · rw [if_neg hs, if_neg hs]
      by_cases hf : Fits s
      · have hl := rest_lt s hf hs
        rw [if_pos hf, if_pos hf, parse_fuel n m (s.extract (fe s) s.size) (by omega) (by omega)]
      · rw [if_neg hf, if_neg hf]
def fr (s : ByteArray) : List ByteArray × ByteArray × Bool := parse s.size s
theorem fr_short (s : ByteArray) (h : s.size < 2) : fr s = ([], s, false) := by
  unfold fr
  cases hn : s.size with
  | zero => rfl
  | succ n => rw [parse, if_pos h]
theorem fr_of (s : ByteArray) (h : ¬ s.size < 2) : fr s = if Fits s then (if s.size < fe s then ([], s, false) else (s.extract 2 (fe s) :: (fr (s.extract (fe s) s.size)).1, (fr (s.extract (fe s) s.size)).2)) else ([], (⟨#[]⟩ : ByteArray), true) := by
  unfold fr
  obtain ⟨n, hn⟩ : ∃ n, s.size = n + 1 := ⟨s.size - 1, by omega⟩
  rw [hn, parse, if_neg h, hn]
  by_cases hf : Fits s
  · have hl := rest_lt s hf h
    rw [hn] at hl
    rw [if_pos hf, if_pos hf, parse_fuel n _ _ (by omega) (Nat.le_refl _)]
  · rw [if_neg hf, if_neg hf]
theorem fr_nil : fr (⟨#[]⟩ : ByteArray) = ([], (⟨#[]⟩ : ByteArray), false) := fr_short _ (by decide)
theorem feed_l0 (n : Nat) : ∀ (s : ByteArray) (out : List ByteArray) (c : Int) (k : Nat), s.size ≤ n → s.size ≤ 1000000 → out.length + s.size < 8000000000000 → n + 2 ≤ k →
    ∃ c', frame_Reader_Feed.l0 k out s false c = some (out ++ (fr s).1, !(fr s).2.2, (fr s).2.1, (fr s).2.2, c') := by
  induction n with
  | zero =>
    intro s out c k hn hs ho hk
    obtain ⟨k, rfl⟩ : ∃ j, k = j + 1 + 1 := ⟨k - 2, by omega⟩
    rw [frame_Reader_Feed.l0, next_f s hs c k, Option.bind_some, if_pos (show s.size < 2 by omega), fr_short s (by omega)]
    simp only [Bool.false_eq_true, if_false]
    exact ⟨c, by rw [List.append_nil]⟩
  | succ n ih =>
    intro s out c k hn hs ho hk
    obtain ⟨k, rfl⟩ : ∃ j, k = j + 1 + 1 := ⟨k - 2, by omega⟩
    rw [frame_Reader_Feed.l0, next_f s hs c k, Option.bind_some]
    by_cases h2 : s.size < 2
    · rw [if_pos h2, fr_short s h2]
      simp only [Bool.false_eq_true, if_false]
      exact ⟨c, by rw [List.append_nil]⟩
    · rw [if_neg h2, fr_of s h2]
      by_cases hf : Fits s
      · rw [if_pos hf, if_pos hf]
        by_cases hw : s.size < fe s
        · rw [if_pos hw, if_pos hw]
          simp only [Bool.false_eq_true, if_false]
          exact ⟨c, by rw [List.append_nil]⟩
        · have hl := rest_lt s hf h2
          rw [if_neg hw, if_neg hw]
          simp only [if_true]
          rw [if_pos (by omega)]
          obtain ⟨c', hc⟩ := ih (s.extract (fe s) s.size) (out ++ [s.extract 2 (fe s)]) (wrap64 (c + 1)) (k + 1) (by omega) (by omega) (by rw [List.length_append, List.length_singleton]; omega) (by omega)
          exact ⟨c', by rw [hc, List.append_assoc]; rfl⟩
      · rw [if_neg hf, if_neg hf]
        simp only [Bool.false_eq_true, if_false]
        exact ⟨c, by rw [List.append_nil]⟩
theorem feed_f (s b : ByteArray) (c : Int) (k : Nat) (h : s.size + b.size ≤ 1000000) (hk : s.size + b.size + 2 ≤ k) :
    ∃ c', frame_Reader_Feed.f k s false c b = some ((fr (s ++ b)).1, !(fr (s ++ b)).2.2, (fr (s ++ b)).2.1, (fr (s ++ b)).2.2, c') := by
  unfold frame_Reader_Feed.f
  rw [if_neg (by decide), if_pos (by omega)]
  have hz := size_app s b
  obtain ⟨c', hc⟩ := feed_l0 (s ++ b).size (s ++ b) [] c k (Nat.le_refl _) (by omega) (by rw [List.length_nil]; omega) (by omega)
  exact ⟨c', by rw [hc, List.nil_append]⟩
theorem feed_dead (s b : ByteArray) (c : Int) (k : Nat) : frame_Reader_Feed.f k s true c b = some ([], false, s, true, c) := by
  unfold frame_Reader_Feed.f
  rw [if_pos rfl]
/-- A frame. -/
def put (b : ByteArray) : ByteArray := strOfNums (bigL (b.size : Int) 2) ++ b
theorem put_size (b : ByteArray) : (put b).size = 2 + b.size := by unfold put; rw [size_app, size_big]
theorem put_f (b : ByteArray) (hb : b.size ≤ 1000000) (k : Nat) (hk : 3 < k) : frame_Put.f k b = some (if 1 ≤ b.size ∧ b.size ≤ 2200 then (put b, true) else ((⟨#[]⟩ : ByteArray), false)) := by
  unfold frame_Put.f
  rw [right_f, Option.bind_some]
  by_cases h : 1 ≤ b.size ∧ b.size ≤ 2200
  · rw [decide_eq_true (by omega), if_pos rfl, if_pos h, wu64 (by omega) (by omega), show (2 : Int) = ((2 : Nat) : Int) from rfl, putBig_f _ 2 (by decide) (by decide) k hk, Option.bind_some, if_pos (by rw [size_big]; omega)]
    rfl
  · rw [decide_eq_false (by omega), if_neg (by decide), if_neg h]
theorem refFrame_f (b : ByteArray) (hb : b.size ≤ 1000000) (k : Nat) (hk : 3 < k) : escutcheonref1_Frame.f k b = some (if 1 ≤ b.size ∧ b.size ≤ 2200 then (put b, true) else ((⟨#[]⟩ : ByteArray), false)) := by
  unfold escutcheonref1_Frame.f
  by_cases h1 : (b.size : Int) < 1
  · rw [if_pos h1, if_neg (by omega)]
  · rw [if_neg h1]
    by_cases h2 : (b.size : Int) > 2200
    · rw [if_pos h2, if_neg (by omega)]
    · rw [if_neg h2, if_pos (by omega), wu64 (by omega) (by omega), show (2 : Int) = ((2 : Nat) : Int) from rfl, refPutBig_f _ ⟨by omega, by omega⟩ 2 (by decide) (by decide) k hk, Option.bind_some, if_pos (by rw [size_big]; omega)]
      rfl
theorem bt_put (b : ByteArray) (t : ByteArray) : bt (put b ++ t) 0 = (b.size : Int) / 256 % 256 ∧ bt (put b ++ t) 1 = (b.size : Int) % 256 := by
  have hz := put_size b
  have hr : ∀ x ∈ bigL (b.size : Int) 2, 0 ≤ x ∧ x ≤ 255 := by
    intro x hx
    simp only [bigL, List.mem_map, List.mem_range] at hx
    obtain ⟨j, _, rfl⟩ := hx
    omega
  have h2 := size_big (b.size : Int) 2
  refine ⟨?_, ?_⟩
  · rw [bt_app_l _ _ _ (by rw [hz]; show 0 < _; omega)]
    unfold put
    rw [bt_app_l _ _ _ (by rw [h2]; decide), bt_nums _ _ hr]
    rfl
  · rw [bt_app_l _ _ _ (by rw [hz]; show 1 < _; omega)]
    unfold put
    rw [bt_app_l _ _ _ (by rw [h2]; decide), bt_nums _ _ hr]
    show (b.size : Int) / 256 ^ 0 % 256 = _
    rw [Int.pow_zero, Int.ediv_one]
theorem hd_put (b t : ByteArray) (hb : b.size ≤ 2200) : hd (put b ++ t) = (b.size : Int) := by
  have h := bt_put b t
  unfold hd
  rw [h.1, h.2]; omega
theorem fits_put (b t : ByteArray) (h1 : 1 ≤ b.size) (hb : b.size ≤ 2200) : Fits (put b ++ t) ∧ fe (put b ++ t) = 2 + b.size := by
  have h := hd_put b t hb
  refine ⟨?_, ?_⟩
  · show 1 ≤ hd _ ∧ hd _ ≤ 2200
    omega
  · unfold fe; omega
theorem fr_put (b t : ByteArray) (h1 : 1 ≤ b.size) (hb : b.size ≤ 2200) : fr (put b ++ t) = (b :: (fr t).1, (fr t).2) := by
  have hz := put_size b
  have hz2 := size_app (put b) t
  obtain ⟨hf, he⟩ := fits_put b t h1 hb
  have ha : (put b ++ t).extract 2 (2 + b.size) = b := by
    apply L_ext
    have hl : (L (put b)).length = 2 + b.size := by rw [L_len, hz]
    rw [L_ext_, L_app, List.take_append_of_le_length (by omega), List.take_of_length_le (by omega)]
    unfold put
    rw [L_app, List.drop_append_of_le_length (by rw [L_len, size_big]; exact Nat.le_refl _), List.drop_of_length_le (by rw [L_len, size_big]; exact Nat.le_refl _), List.nil_append]
  have hr : (put b ++ t).extract (2 + b.size) (put b ++ t).size = t := by
    rw [← hz]
    exact ext_app_r (put b) t _ (by omega)
  rw [fr_of _ (by omega), if_pos hf, he, if_neg (by omega), ha, hr]
theorem hd_app (s t : ByteArray) (h : ¬ s.size < 2) : hd (s ++ t) = hd s := by
  unfold hd
  rw [bt_app_l _ _ _ (by show 0 < _; omega), bt_app_l _ _ _ (by show 1 < _; omega)]
/-- What comes behind. -/
theorem fr_app (n : Nat) : ∀ (s t : ByteArray), s.size ≤ n → (fr s).2.2 = false → fr (s ++ t) = ((fr s).1 ++ (fr ((fr s).2.1 ++ t)).1, (fr ((fr s).2.1 ++ t)).2) := by
  induction n with
  | zero =>
    intro s t hn _
    rw [fr_short s (by omega), List.nil_append]
  | succ n ih =>
    intro s t hn hd0
    by_cases h2 : s.size < 2
    · rw [fr_short s h2, List.nil_append]
    · rw [fr_of s h2] at hd0 ⊢
      have he : fe (s ++ t) = fe s := by unfold fe; rw [hd_app s t h2]
      by_cases hf : Fits s
      · rw [if_pos hf] at hd0 ⊢
        have hf2 : Fits (s ++ t) := by
          have h0 : 1 ≤ hd s ∧ hd s ≤ 2200 := hf
          have h3 := hd_app s t h2
          show 1 ≤ hd (s ++ t) ∧ hd (s ++ t) ≤ 2200
          omega
        by_cases hw : s.size < fe s
        · rw [if_pos hw]
          simp only [List.nil_append]
        · rw [if_neg hw] at hd0 ⊢
          have hl := rest_lt s hf h2
          have ih := ih (s.extract (fe s) s.size) t (by omega) hd0
          have hz := size_app s t
          have h1 : (s ++ t).extract 2 (fe s) = s.extract 2 (fe s) := by
            apply L_ext
            rw [L_ext_, L_ext_, L_app, List.take_append_of_le_length (by rw [L_len]; omega)]
          have h3 : (s ++ t).extract (fe s) (s ++ t).size = s.extract (fe s) s.size ++ t := by
            apply L_ext
            rw [L_ext_, L_app, L_app, L_ext_, List.take_of_length_le (by rw [List.length_append, L_len, L_len]; omega), List.take_of_length_le (l := L s) (by rw [L_len]; exact Nat.le_refl _), List.drop_append_of_le_length (by rw [L_len]; omega)]
          rw [fr_of (s ++ t) (by omega), if_pos hf2, he, if_neg (by omega), h1, h3, ih]
          simp only [List.cons_append]
      · rw [if_neg hf] at hd0
        cases hd0
/-- A frame that is not whole yet. -/
theorem fr_part (b : ByteArray) (h1 : 1 ≤ b.size) (hb : b.size ≤ 2200) (k : Nat) (hk : k < 2 + b.size) : fr ((put b).extract 0 k) = ([], (put b).extract 0 k, false) := by
  have hz := put_size b
  have hzk : ((put b).extract 0 k).size = k := by rw [size_ext]; omega
  by_cases h2 : k < 2
  · exact fr_short _ (by omega)
  · have e : put b = put b ++ (⟨#[]⟩ : ByteArray) := (app_empty _).symm
    have hhd : hd ((put b).extract 0 k) = (b.size : Int) := by
      have h0 := hd_put b (⟨#[]⟩ : ByteArray) hb
      rw [← e] at h0
      unfold hd at h0 ⊢
      rw [bt_ext _ _ _ _ (by show 0 + 0 < k; omega), bt_ext _ _ _ _ (by show 0 + 1 < k; omega)]
      exact h0
    have hf : Fits ((put b).extract 0 k) := by
      show 1 ≤ hd _ ∧ hd _ ≤ 2200
      omega
    have he : fe ((put b).extract 0 k) = 2 + b.size := by unfold fe; omega
    rw [fr_of _ (by omega), if_pos hf, he, if_pos (by omega)]
theorem alive_k (k : Nat) (h : 40 ≤ k) : escutcheonlaw9_alive.f k = some true := at_rounds escutcheonlaw9_alive.mono h (by decide +kernel)
end Go.Proofs.Ytoepiofmkjajaaa.B
