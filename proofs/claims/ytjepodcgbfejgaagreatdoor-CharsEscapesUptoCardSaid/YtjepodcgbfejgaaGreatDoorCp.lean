import Derived.Test.YtjepodcgbfejgaaGreatDoorPHo
import Derived.Lib.RuneCount
import Derived.Lib.DecodeN
import Derived.Lib.RuneBytes
import Derived.Shelf.Unicode.DecodeSlow
/- Characters in plain Lean: what is a character of XML, and what the printed functions of it answer. -/
namespace Go.Proofs.YtjepodcgbfejgaaGreatDoor.CP
open Go.RowKit Go.Proofs.YtjepodcgbfejgaaGreatDoorW.PrintWords Go.Proofs.YtjepodcgbfejgaaGreatDoorW.PrintLast Go.Proofs.YtjepodcgbfejgaaGreatDoorW.PrintMore Go.Proofs.YtjepodcgbfejgaaGreatDoor.PH
set_option linter.unusedVariables false
set_option linter.unusedSimpArgs false
def xc (r : Int) : Bool := decide (r = 9 ∨ r = 10 ∨ r = 13 ∨ (32 ≤ r ∧ r ≤ 55295) ∨ (57344 ≤ r ∧ r ≤ 65533) ∨ (65536 ≤ r ∧ r ≤ 1114111))
/-! ### the printed -/
theorem char_is (r : Int) : chars_Char.f r = some (xc r) := by
  unfold chars_Char.f xc
  repeat' split
  all_goals (congr 1; first | (symm; rw [decide_eq_true_iff]; omega) | (symm; rw [decide_eq_false_iff_not]; omega) | (rw [decide_eq_decide]; omega))
theorem bad_is (r n : Int) : chars_bad.f r n = some ((decide (r = 65533 ∧ n = 1)) || !xc r) := by
  unfold chars_bad.f
  rw [char_is]
  by_cases h : r = 65533
  · by_cases h1 : n = 1
    · simp [h, h1]
    · simp [h, h1]
  · simp [h]
def inL (r : Int) : List Int → Bool
  | a :: b :: t => (decide (a ≤ r) && decide (r ≤ b)) || inL r t
  | _ => false
theorem rd_at {l : List Int} {i : Nat} (h : i < l.length) : rd l (i : Int) = l[i] := by simp [rd, List.getD_eq_getElem?_getD, h]
theorem in_l0 (r : Int) (l : List Int) (hl : l.length ≤ 1000) : ∀ (d i k : Nat), l.length ≤ i + 2 * d → d < k → i ≤ l.length + 1 →
    gridironref05_in.l0 k r l (i : Int) = some (inL r (l.drop i)) := by
  intro d
  induction d with
  | zero =>
    intro i k hi hk hi2
    obtain ⟨k, rfl⟩ : ∃ m, k = m + 1 := ⟨k - 1, by omega⟩
    have w1 : wrap64 ((i : Int) + 1) = (i : Int) + 1 := by unfold wrap64; omega
    rw [gridironref05_in.l0, w1, if_neg (by omega), List.drop_eq_nil_of_le (by omega)]
    rfl
  | succ d ih =>
    intro i k hi hk hi2
    obtain ⟨k, rfl⟩ : ∃ m, k = m + 1 := ⟨k - 1, by omega⟩
    have w1 : wrap64 ((i : Int) + 1) = ((i + 1 : Nat) : Int) := by unfold wrap64; omega
    have w2 : wrap64 ((i : Int) + 2) = ((i + 2 : Nat) : Int) := by unfold wrap64; omega
    rw [gridironref05_in.l0, w1, w2]
    by_cases h1 : i + 1 < l.length
    · have e : l.drop i = l[i] :: l[i + 1] :: l.drop (i + 2) := by
        rw [List.drop_eq_getElem_cons (by omega), List.drop_eq_getElem_cons h1]
      rw [if_pos (by omega), if_pos (by omega), if_pos (by omega), rd_at (show i < l.length by omega), rd_at h1, e, inL, ih (i + 2) k (by omega) (by omega) (by omega)]
      by_cases h2 : l[i] ≤ r
      · by_cases h3 : r ≤ l[i + 1]
        · rw [if_pos (by omega), if_pos (by omega), if_pos h3]; simp [h2, h3]
        · rw [if_pos (by omega), if_pos (by omega), if_neg h3]; simp [h2, h3]
      · rw [if_neg (by omega)]; simp [h2]
    · rw [if_neg (by omega)]
      congr 1
      symm
      by_cases h2 : i < l.length
      · rw [List.drop_eq_getElem_cons h2, List.drop_eq_nil_of_le (by omega)]; rfl
      · rw [List.drop_eq_nil_of_le (by omega)]; rfl
theorem in_is (r : Int) (l : List Int) (hl : l.length ≤ 1000) : gridironref05_in.f 1001 r l = some (inL r l) := by
  have := in_l0 r l hl 1000 0 1001 (by omega) (by omega) (by omega)
  rw [List.drop_zero] at this
  exact this
theorem rchar_is (r : Int) : gridironref05_Char.f 1001 r = some (xc r) := by
  unfold gridironref05_Char.f
  rw [in_is _ _ (by decide)]
  simp only [Option.bind_some]
  congr 1
  rw [Bool.eq_iff_iff]
  simp only [inL, xc, Bool.or_eq_true, Bool.and_eq_true, decide_eq_true_eq, Bool.false_eq_true, or_false]
  omega
end Go.Proofs.YtjepodcgbfejgaaGreatDoor.CP
