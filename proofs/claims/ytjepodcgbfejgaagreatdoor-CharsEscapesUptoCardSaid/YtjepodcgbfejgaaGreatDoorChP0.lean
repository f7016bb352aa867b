import Derived.Test.YtjepodcgbfejgaaGreatDoorCp
/- Characters in plain Lean: which runes are which, and what the printed functions of them answer. -/
namespace Go.Proofs.YtjepodcgbfejgaaGreatDoor.CP
open Go.RowKit Go.Proofs.YtjepodcgbfejgaaGreatDoorW.PrintWords Go.Proofs.YtjepodcgbfejgaaGreatDoorW.PrintLast Go.Proofs.YtjepodcgbfejgaaGreatDoorW.PrintMore Go.Proofs.YtjepodcgbfejgaaGreatDoor.PH
set_option linter.unusedVariables false
set_option linter.unusedSimpArgs false
def sp (r : Int) : Bool := decide (r = 32 ∨ r = 9 ∨ r = 13 ∨ r = 10)
def nst (r : Int) : Bool := decide ((65 ≤ r ∧ r ≤ 90) ∨ r = 95 ∨ (97 ≤ r ∧ r ≤ 122) ∨ (192 ≤ r ∧ r ≤ 214) ∨ (216 ≤ r ∧ r ≤ 246) ∨ (248 ≤ r ∧ r ≤ 767) ∨ (880 ≤ r ∧ r ≤ 893) ∨ (895 ≤ r ∧ r ≤ 8191) ∨ r = 8204 ∨ r = 8205 ∨
  (8304 ≤ r ∧ r ≤ 8591) ∨ (11264 ≤ r ∧ r ≤ 12271) ∨ (12289 ≤ r ∧ r ≤ 55295) ∨ (63744 ≤ r ∧ r ≤ 64975) ∨ (65008 ≤ r ∧ r ≤ 65533) ∨ (65536 ≤ r ∧ r ≤ 983039))
def nch2 (r : Int) : Bool := decide (r = 45 ∨ r = 46 ∨ (48 ≤ r ∧ r ≤ 57) ∨ r = 183 ∨ (768 ≤ r ∧ r ≤ 879) ∨ r = 8255 ∨ r = 8256)
def nch (r : Int) : Bool := nst r || nch2 r
theorem go_dec {α : Type} (J : Bool → α) (r a z : Int) : (if r ≥ a then J (decide (r ≤ z)) else J false) = J (decide (a ≤ r ∧ r ≤ z)) := by
  by_cases h : a ≤ r
  · rw [if_pos h]; congr 1; rw [decide_eq_decide]; omega
  · rw [if_neg h, decide_eq_false (by omega)]
def nsT11 (r : Int) : Bool := decide (65536 ≤ r ∧ r ≤ 983039)
theorem ns_j11 (k : Nat) (r : Int) (b : Bool) : chars_NameStart.j11 (k + 1) r b = some (b || nsT11 r) := by
  rw [chars_NameStart.j11]
  cases b
  · rw [if_neg (by decide), nsT11, Bool.false_or]
    repeat' split
    all_goals (congr 1; first | (symm; rw [decide_eq_true_iff]; omega) | (symm; rw [decide_eq_false_iff_not]; omega))
  · rfl
def nsT10 (r : Int) : Bool := (decide (65008 ≤ r ∧ r ≤ 65533) || nsT11 r)
theorem ns_j10 (k : Nat) (r : Int) (b : Bool) : chars_NameStart.j10 (k + 2) r b = some (b || nsT10 r) := by
  rw [chars_NameStart.j10]
  cases b
  · rw [if_neg (by decide), go_dec, ns_j11 k, nsT10, Bool.false_or]
  · rfl
def nsT9 (r : Int) : Bool := (decide (63744 ≤ r ∧ r ≤ 64975) || nsT10 r)
theorem ns_j9 (k : Nat) (r : Int) (b : Bool) : chars_NameStart.j9 (k + 3) r b = some (b || nsT9 r) := by
  rw [chars_NameStart.j9]
  cases b
  · rw [if_neg (by decide), go_dec, ns_j10 k, nsT9, Bool.false_or]
  · rfl
def nsT8 (r : Int) : Bool := (decide (12289 ≤ r ∧ r ≤ 55295) || nsT9 r)
theorem ns_j8 (k : Nat) (r : Int) (b : Bool) : chars_NameStart.j8 (k + 4) r b = some (b || nsT8 r) := by
  rw [chars_NameStart.j8]
  cases b
  · rw [if_neg (by decide), go_dec, ns_j9 k, nsT8, Bool.false_or]
  · rfl
def nsT7 (r : Int) : Bool := (decide (11264 ≤ r ∧ r ≤ 12271) || nsT8 r)
theorem ns_j7 (k : Nat) (r : Int) (b : Bool) : chars_NameStart.j7 (k + 5) r b = some (b || nsT7 r) := by
  rw [chars_NameStart.j7]
  cases b
  · rw [if_neg (by decide), go_dec, ns_j8 k, nsT7, Bool.false_or]
  · rfl
def nsT6 (r : Int) : Bool := (decide (r = 8204) || (decide (r = 8205) || (decide (8304 ≤ r ∧ r ≤ 8591) || nsT7 r)))
theorem ns_j6 (k : Nat) (r : Int) (b : Bool) : chars_NameStart.j6 (k + 6) r b = some (b || nsT6 r) := by
  rw [chars_NameStart.j6]
  cases b
  · rw [if_neg (by decide), go_dec, ns_j7 k, nsT6, Bool.false_or]
    by_cases h8204 : r = 8204
    · rw [if_pos h8204]; simp [h8204]
    rw [if_neg h8204, decide_eq_false h8204, Bool.false_or]
    by_cases h8205 : r = 8205
    · rw [if_pos h8205]; simp [h8205]
    rw [if_neg h8205, decide_eq_false h8205, Bool.false_or]
  · rfl
def nsT5 (r : Int) : Bool := (decide (895 ≤ r ∧ r ≤ 8191) || nsT6 r)
theorem ns_j5 (k : Nat) (r : Int) (b : Bool) : chars_NameStart.j5 (k + 7) r b = some (b || nsT5 r) := by
  rw [chars_NameStart.j5]
  cases b
  · rw [if_neg (by decide), go_dec, ns_j6 k, nsT5, Bool.false_or]
  · rfl
def nsT4 (r : Int) : Bool := (decide (880 ≤ r ∧ r ≤ 893) || nsT5 r)
theorem ns_j4 (k : Nat) (r : Int) (b : Bool) : chars_NameStart.j4 (k + 8) r b = some (b || nsT4 r) := by
  rw [chars_NameStart.j4]
  cases b
  · rw [if_neg (by decide), go_dec, ns_j5 k, nsT4, Bool.false_or]
  · rfl
def nsT3 (r : Int) : Bool := (decide (248 ≤ r ∧ r ≤ 767) || nsT4 r)
theorem ns_j3 (k : Nat) (r : Int) (b : Bool) : chars_NameStart.j3 (k + 9) r b = some (b || nsT3 r) := by
  rw [chars_NameStart.j3]
  cases b
  · rw [if_neg (by decide), go_dec, ns_j4 k, nsT3, Bool.false_or]
  · rfl
def nsT2 (r : Int) : Bool := (decide (216 ≤ r ∧ r ≤ 246) || nsT3 r)
theorem ns_j2 (k : Nat) (r : Int) (b : Bool) : chars_NameStart.j2 (k + 10) r b = some (b || nsT2 r) := by
  rw [chars_NameStart.j2]
  cases b
  · rw [if_neg (by decide), go_dec, ns_j3 k, nsT2, Bool.false_or]
  · rfl
def nsT1 (r : Int) : Bool := (decide (192 ≤ r ∧ r ≤ 214) || nsT2 r)
theorem ns_j1 (k : Nat) (r : Int) (b : Bool) : chars_NameStart.j1 (k + 11) r b = some (b || nsT1 r) := by
  rw [chars_NameStart.j1]
  cases b
  · rw [if_neg (by decide), go_dec, ns_j2 k, nsT1, Bool.false_or]
  · rfl
def nsT0 (r : Int) : Bool := (decide (r = 95) || (decide (97 ≤ r ∧ r ≤ 122) || nsT1 r))
theorem ns_j0 (k : Nat) (r : Int) (b : Bool) : chars_NameStart.j0 (k + 12) r b = some (b || nsT0 r) := by
  rw [chars_NameStart.j0]
  cases b
  · rw [if_neg (by decide), go_dec, ns_j1 k, nsT0, Bool.false_or]
    by_cases h95 : r = 95
    · rw [if_pos h95]; simp [h95]
    rw [if_neg h95, decide_eq_false h95, Bool.false_or]
  · rfl
theorem start_is (r : Int) : chars_NameStart.f 12 r = some (nst r) := by
  unfold chars_NameStart.f
  rw [go_dec, ns_j0 0]
  congr 1
  rw [Bool.eq_iff_iff]
  simp only [nst, nsT0, nsT1, nsT2, nsT3, nsT4, nsT5, nsT6, nsT7, nsT8, nsT9, nsT10, nsT11, Bool.or_eq_true, decide_eq_true_eq]
theorem nchar_is (r : Int) : chars_NameChar.f 12 r = some (nch r) := by
  unfold chars_NameChar.f
  rw [start_is]
  simp only [Option.bind_some]
  by_cases h : nst r = true
  · rw [if_pos h, nch, h]; rfl
  · rw [if_neg h, nch, Bool.eq_false_iff.2 h, Bool.false_or]
    unfold nch2
    repeat' split
    all_goals (congr 1; first | (symm; rw [decide_eq_true_iff]; omega) | (rw [Bool.eq_iff_iff]; simp only [beq_iff_eq, decide_eq_true_eq]; omega))
end Go.Proofs.YtjepodcgbfejgaaGreatDoor.CP
