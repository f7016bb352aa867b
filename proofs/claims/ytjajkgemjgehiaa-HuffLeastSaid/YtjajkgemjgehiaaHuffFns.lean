import Derived.Test.YtjajkgemjgehiaaWords
import Derived.Test.YtjajkgemjgehiaaHp
import Derived.Test.YtjajkgemjgehiaaPHo
/- What the printed functions of the lengths and codes answer. -/
namespace Go.Proofs.Ytjajkgemjgehiaa.Hw
open Go.RowKit Go.Proofs.YtjajkgemjgehiaaW.PrintWords Go.Proofs.YtjajkgemjgehiaaW.PrintLast Go.Proofs.YtjajkgemjgehiaaW.PrintMore Go.Proofs.Ytjajkgemjgehiaa.PH
set_option linter.unusedVariables false
set_option linter.unusedSimpArgs false
/-! what the printed functions answer -/
theorem shl_one {n : Int} (h0 : 1 ≤ n) (h1 : n ≤ 15) : shl .i64 1 (15 - n) = ((2 ^ (15 - n.toNat) : Nat) : Int) := by
  have : n = 1 ∨ n = 2 ∨ n = 3 ∨ n = 4 ∨ n = 5 ∨ n = 6 ∨ n = 7 ∨ n = 8 ∨ n = 9 ∨ n = 10 ∨ n = 11 ∨ n = 12 ∨ n = 13 ∨ n = 14 ∨ n = 15 := by omega
  rcases this with rfl | rfl | rfl | rfl | rfl | rfl | rfl | rfl | rfl | rfl | rfl | rfl | rfl | rfl | rfl <;> decide
theorem drop_at {l : List Int} {i : Nat} (h : i < l.length) : l.drop i = rd l (i : Int) :: l.drop (i + 1) := by
  rw [List.drop_eq_getElem_cons h]; simp [rd, List.getD_eq_getElem?_getD, h]
theorem rd_fits {l : List Int} {i : Nat} (h : i < l.length) (hf : HP.fits l) : 0 ≤ rd l (i : Int) ∧ rd l (i : Int) ≤ 15 := by
  have : rd l (i : Int) = l[i] := by simp [rd, List.getD_eq_getElem?_getD, h]
  rw [this]; exact hf _ (List.getElem_mem h)
def chkEnd (a b c : Int) : Int := if a > 32768 then 20 else if a < 32768 then (if b = 0 then 0 else if b = 1 then (if c = 1 then 0 else 21) else 21) else 0
theorem chkEnd_congr {a b c a' b' c' : Int} (h1 : a = a') (h2 : b = b') (h3 : c = c') : chkEnd a b c = chkEnd a' b' c' := by rw [h1, h2, h3]
theorem some_pair {α β : Type} {a a' : α} {b b' : β} (h1 : a = a') (h2 : b = b') : some (a, b) = some (a', b') := by rw [h1, h2]
theorem chk_l0 (l : List Int) (hl : l.length ≤ 512) : ∀ (d i k : Nat) (a b c : Int), i + d = l.length → 2 * d < k → 0 ≤ a → a ≤ 16384 * i → 0 ≤ b → b ≤ i → 0 ≤ c → c ≤ i →
    huff_Check.l0 k a b c l (l.length : Int) i = some (if HP.fits (l.drop i) then chkEnd (a + HP.room (l.drop i)) (b + HP.many (l.drop i)) (c + HP.ones (l.drop i)) else 1) := by
  intro d
  induction d with
  | zero =>
    intro i k a b c hi hk ha0 ha1 hb0 hb1 hc0 hc1
    obtain ⟨k, rfl⟩ : ∃ m, k = m + 1 := ⟨k - 1, by omega⟩
    have hd : l.drop i = [] := List.drop_eq_nil_of_le (by omega)
    rw [huff_Check.l0, if_neg (by omega), hd]
    have hfn : HP.fits [] := by intro n hn; cases hn
    rw [if_pos hfn]
    simp only [HP.room, HP.many, HP.ones, Int.natCast_zero, Int.add_zero, chkEnd]
    repeat' split
    all_goals rfl
  | succ d ih =>
    intro i k a b c hi hk ha0 ha1 hb0 hb1 hc0 hc1
    obtain ⟨k, rfl⟩ : ∃ m, k = m + 1 + 1 := ⟨k - 2, by omega⟩
    have hlt : i < l.length := by omega
    have hd := drop_at hlt
    rw [huff_Check.l0, if_pos (by omega), if_pos (by omega), if_pos (by omega), hd]
    have hff := @HP.fits_cons (rd l i) (l.drop (i + 1))
    have w1 : wrap64 ((i : Int) + 1) = ((i + 1 : Nat) : Int) := by rw [w64 (by omega) (by omega)]; omega
    generalize hx : rd l i = x at *
    by_cases h0 : x < 0
    · rw [if_pos h0, huff_Check.j1, if_pos rfl, if_neg (by rw [hff]; omega)]
    · rw [if_neg h0]
      by_cases h15 : x > 15
      · rw [decide_eq_true h15, huff_Check.j1, if_pos rfl, if_neg (by rw [hff]; omega)]
      · rw [decide_eq_false h15, huff_Check.j1, if_neg (by decide)]
        by_cases hp : x > 0
        · have w2 : wrap64 (15 - x) = 15 - x := w64 (by omega) (by omega)
          have hs := shl_one (n := x) (by omega) (by omega)
          have hpc := HP.pow_cases (n := x) (by omega) (by omega)
          rw [if_pos hp, w2, if_pos (by omega), hs, w1]
          simp only [HP.room, HP.many, HP.ones, if_pos hp]
          generalize 2 ^ (15 - x.toNat) = p at *
          have w3 : wrap64 (a + (p : Int)) = a + p := w64 (by omega) (by omega)
          have w4 : wrap64 (b + 1) = b + 1 := w64 (by omega) (by omega)
          have w5 : wrap64 (c + 1) = c + 1 := w64 (by omega) (by omega)
          rw [w3, w4, w5]
          by_cases h1 : x = 1
          · rw [if_pos h1, ih (i + 1) k _ _ _ (by omega) (by omega) (by omega) (by omega) (by omega) (by omega) (by omega) (by omega)]
            refine congrArg some ?_
            by_cases hfd : HP.fits (l.drop (i + 1))
            · rw [if_pos hfd, if_pos (hff.2 ⟨by omega, hfd⟩)]; refine chkEnd_congr ?_ ?_ ?_ <;> simp [h1] <;> omega
            · rw [if_neg hfd, if_neg (fun h => hfd (hff.1 h).2)]
          · rw [if_neg h1, ih (i + 1) k _ _ _ (by omega) (by omega) (by omega) (by omega) (by omega) (by omega) (by omega) (by omega)]
            refine congrArg some ?_
            by_cases hfd : HP.fits (l.drop (i + 1))
            · rw [if_pos hfd, if_pos (hff.2 ⟨by omega, hfd⟩)]; refine chkEnd_congr ?_ ?_ ?_ <;> simp [h1] <;> omega
            · rw [if_neg hfd, if_neg (fun h => hfd (hff.1 h).2)]
        · have h1 : ¬ x = 1 := by omega
          rw [if_neg hp, if_neg h1, w1, ih (i + 1) k _ _ _ (by omega) (by omega) (by omega) (by omega) (by omega) (by omega) (by omega) (by omega)]
          simp only [HP.room, HP.many, HP.ones, if_neg hp, if_neg h1, Nat.zero_add]
          refine congrArg some ?_
          by_cases hfd : HP.fits (l.drop (i + 1))
          · rw [if_pos hfd, if_pos (hff.2 ⟨by omega, hfd⟩)]
          · rw [if_neg hfd, if_neg (fun h => hfd (hff.1 h).2)]
theorem chkEnd_is (l : List Int) (hf : HP.fits l) : chkEnd (HP.room l) (HP.many l) (HP.ones l) = if HP.room l > 32768 then 20 else if HP.many l = 0 ∨ HP.room l = 32768 ∨ (HP.many l = 1 ∧ HP.room l = 16384) then 0 else 21 := by
  unfold chkEnd
  by_cases h1 : HP.room l > 32768
  · rw [if_pos h1, if_pos (by omega)]
  · rw [if_neg h1, if_neg (by omega)]
    by_cases h2 : HP.many l = 0
    · rw [if_pos (show _ ∨ _ from .inl h2)]; split
      · rw [if_pos (by omega)]
      · rfl
    · by_cases h3 : HP.room l = 32768
      · rw [if_neg (by omega), if_pos (by omega)]
      · rw [if_pos (by omega), if_neg (by omega)]
        by_cases h4 : HP.many l = 1
        · have := HP.many_one hf h4
          rw [if_pos (by omega)]
          by_cases h5 : HP.room l = 16384
          · rw [if_pos (by omega), if_pos (by omega)]
          · rw [if_neg (by omega), if_neg (by omega)]
        · rw [if_neg (by omega), if_neg (by omega)]
/-- The program's Check. -/
theorem huff_check_is (l : List Int) (k : Nat) (hk : 2 * l.length < k) : huff_Check.f k l = some (HP.check l) := by
  unfold huff_Check.f HP.check
  by_cases h : l.length > 512
  · rw [if_pos (by omega), if_pos h]
  · rw [if_neg (by omega), if_neg h]
    have := chk_l0 l (by omega) l.length 0 k 0 0 0 (by omega) hk (by omega) (by omega) (by omega) (by omega) (by omega) (by omega)
    rw [Int.natCast_zero] at this
    rw [this, List.drop_zero]
    refine congrArg some ?_
    by_cases hf : HP.fits l
    · rw [if_pos hf, if_neg (show ¬ ¬ HP.fits l from fun h => h hf), Int.zero_add, Int.zero_add, Int.zero_add]; exact chkEnd_is l hf
    · rw [if_neg hf, if_pos hf]
/-! Codes -/
theorem rd_nat (l : List Int) (i : Nat) : rd l (i : Int) = l.getD i 0 := by simp [rd]
/-! sameCodes -/
end Go.Proofs.Ytjajkgemjgehiaa.Hw
