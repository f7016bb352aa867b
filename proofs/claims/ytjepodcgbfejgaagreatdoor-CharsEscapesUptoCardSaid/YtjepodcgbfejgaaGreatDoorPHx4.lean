-- YtjepodcgbfejgaaGreatDoor: printed for this claim (all functions at once)
import Derived.Test.YtjepodcgbfejgaaGreatDoorPHx0
namespace Go.Proofs.YtjepodcgbfejgaaGreatDoor.PH
open Go.RowKit Go.Proofs.YtjepodcgbfejgaaGreatDoorW.PrintWords Go.Proofs.YtjepodcgbfejgaaGreatDoorW.PrintLast Go.Proofs.YtjepodcgbfejgaaGreatDoorW.PrintMore
attribute [local go_sem] max2_int min2_int max_two min_two max_three min_three max_four min_four   -- for this text's walks alone
set_option linter.unusedVariables false
set_option linter.unusedSimpArgs false

/-! ### chars_NameStart: function 34 -/
mutual
def chars_NameStart.j0 : Nat → Int → Bool → Option (Bool)
  | 0, _, _ => none
  | k + 1, x0, x3 => if x3 = true then (some true) else (if x0 = 95 then (some true) else (if x0 ≥ 97 then (chars_NameStart.j1 k x0 (decide (x0 ≤ 122))) else (chars_NameStart.j1 k x0 false)))
def chars_NameStart.j1 : Nat → Int → Bool → Option (Bool)
  | 0, _, _ => none
  | k + 1, x0, x3 => if x3 = true then (some true) else (if x0 ≥ 192 then (chars_NameStart.j2 k x0 (decide (x0 ≤ 214))) else (chars_NameStart.j2 k x0 false))
def chars_NameStart.j2 : Nat → Int → Bool → Option (Bool)
  | 0, _, _ => none
  | k + 1, x0, x3 => if x3 = true then (some true) else (if x0 ≥ 216 then (chars_NameStart.j3 k x0 (decide (x0 ≤ 246))) else (chars_NameStart.j3 k x0 false))
def chars_NameStart.j3 : Nat → Int → Bool → Option (Bool)
  | 0, _, _ => none
  | k + 1, x0, x3 => if x3 = true then (some true) else (if x0 ≥ 248 then (chars_NameStart.j4 k x0 (decide (x0 ≤ 767))) else (chars_NameStart.j4 k x0 false))
def chars_NameStart.j4 : Nat → Int → Bool → Option (Bool)
  | 0, _, _ => none
  | k + 1, x0, x3 => if x3 = true then (some true) else (if x0 ≥ 880 then (chars_NameStart.j5 k x0 (decide (x0 ≤ 893))) else (chars_NameStart.j5 k x0 false))
def chars_NameStart.j5 : Nat → Int → Bool → Option (Bool)
  | 0, _, _ => none
  | k + 1, x0, x3 => if x3 = true then (some true) else (if x0 ≥ 895 then (chars_NameStart.j6 k x0 (decide (x0 ≤ 8191))) else (chars_NameStart.j6 k x0 false))
def chars_NameStart.j6 : Nat → Int → Bool → Option (Bool)
  | 0, _, _ => none
  | k + 1, x0, x3 => if x3 = true then (some true) else (if x0 = 8204 then (some true) else (if x0 = 8205 then (some true) else (if x0 ≥ 8304 then (chars_NameStart.j7 k x0 (decide (x0 ≤ 8591))) else (chars_NameStart.j7 k x0 false))))
def chars_NameStart.j7 : Nat → Int → Bool → Option (Bool)
  | 0, _, _ => none
  | k + 1, x0, x3 => if x3 = true then (some true) else (if x0 ≥ 11264 then (chars_NameStart.j8 k x0 (decide (x0 ≤ 12271))) else (chars_NameStart.j8 k x0 false))
def chars_NameStart.j8 : Nat → Int → Bool → Option (Bool)
  | 0, _, _ => none
  | k + 1, x0, x3 => if x3 = true then (some true) else (if x0 ≥ 12289 then (chars_NameStart.j9 k x0 (decide (x0 ≤ 55295))) else (chars_NameStart.j9 k x0 false))
def chars_NameStart.j9 : Nat → Int → Bool → Option (Bool)
  | 0, _, _ => none
  | k + 1, x0, x3 => if x3 = true then (some true) else (if x0 ≥ 63744 then (chars_NameStart.j10 k x0 (decide (x0 ≤ 64975))) else (chars_NameStart.j10 k x0 false))
def chars_NameStart.j10 : Nat → Int → Bool → Option (Bool)
  | 0, _, _ => none
  | k + 1, x0, x3 => if x3 = true then (some true) else (if x0 ≥ 65008 then (chars_NameStart.j11 k x0 (decide (x0 ≤ 65533))) else (chars_NameStart.j11 k x0 false))
def chars_NameStart.j11 : Nat → Int → Bool → Option (Bool)
  | 0, _, _ => none
  | k + 1, x0, x3 => if x3 = true then (some true) else (if x0 ≥ 65536 then (if x0 ≤ 983039 then (some true) else (some false)) else (some false))
end
def chars_NameStart.f (k : Nat) (a0 : Int) : Option (Bool) := if a0 ≥ 65 then (chars_NameStart.j0 k a0 (decide (a0 ≤ 90))) else (chars_NameStart.j0 k a0 false)
theorem chars_NameStart.mono_l : ∀ k, (∀ y0 y1, LeO (chars_NameStart.j0 k y0 y1) (chars_NameStart.j0 (k + 1) y0 y1)) ∧ (∀ y0 y1, LeO (chars_NameStart.j1 k y0 y1) (chars_NameStart.j1 (k + 1) y0 y1)) ∧ (∀ y0 y1, LeO (chars_NameStart.j2 k y0 y1) (chars_NameStart.j2 (k + 1) y0 y1)) ∧ (∀ y0 y1, LeO (chars_NameStart.j3 k y0 y1) (chars_NameStart.j3 (k + 1) y0 y1)) ∧ (∀ y0 y1, LeO (chars_NameStart.j4 k y0 y1) (chars_NameStart.j4 (k + 1) y0 y1)) ∧ (∀ y0 y1, LeO (chars_NameStart.j5 k y0 y1) (chars_NameStart.j5 (k + 1) y0 y1)) ∧ (∀ y0 y1, LeO (chars_NameStart.j6 k y0 y1) (chars_NameStart.j6 (k + 1) y0 y1)) ∧ (∀ y0 y1, LeO (chars_NameStart.j7 k y0 y1) (chars_NameStart.j7 (k + 1) y0 y1)) ∧ (∀ y0 y1, LeO (chars_NameStart.j8 k y0 y1) (chars_NameStart.j8 (k + 1) y0 y1)) ∧ (∀ y0 y1, LeO (chars_NameStart.j9 k y0 y1) (chars_NameStart.j9 (k + 1) y0 y1)) ∧ (∀ y0 y1, LeO (chars_NameStart.j10 k y0 y1) (chars_NameStart.j10 (k + 1) y0 y1)) ∧ (∀ y0 y1, LeO (chars_NameStart.j11 k y0 y1) (chars_NameStart.j11 (k + 1) y0 y1))
  | 0 => ⟨fun _ _ r h => by simp [chars_NameStart.j0] at h, fun _ _ r h => by simp [chars_NameStart.j1] at h, fun _ _ r h => by simp [chars_NameStart.j2] at h, fun _ _ r h => by simp [chars_NameStart.j3] at h, fun _ _ r h => by simp [chars_NameStart.j4] at h, fun _ _ r h => by simp [chars_NameStart.j5] at h, fun _ _ r h => by simp [chars_NameStart.j6] at h, fun _ _ r h => by simp [chars_NameStart.j7] at h, fun _ _ r h => by simp [chars_NameStart.j8] at h, fun _ _ r h => by simp [chars_NameStart.j9] at h, fun _ _ r h => by simp [chars_NameStart.j10] at h, fun _ _ r h => by simp [chars_NameStart.j11] at h⟩
  | k + 1 => by
    obtain ⟨ih0, ih1, ih2, ih3, ih4, ih5, ih6, ih7, ih8, ih9, ih10, ih11⟩ := chars_NameStart.mono_l k
    refine ⟨?_, ?_, ?_, ?_, ?_, ?_, ?_, ?_, ?_, ?_, ?_, ?_⟩
    · intro y0 y1
      unfold chars_NameStart.j0
      repeat' first
      | (with_reducible exact ih0 _ _)
      | (with_reducible exact ih1 _ _)
      | (with_reducible exact ih2 _ _)
      | (with_reducible exact ih3 _ _)
      | (with_reducible exact ih4 _ _)
      | (with_reducible exact ih5 _ _)
      | (with_reducible exact ih6 _ _)
      | (with_reducible exact ih7 _ _)
      | (with_reducible exact ih8 _ _)
      | (with_reducible exact ih9 _ _)
      | (with_reducible exact ih10 _ _)
      | (with_reducible exact ih11 _ _)
      | (with_reducible exact LeO.refl _)
      | (with_reducible exact LeO.none _)
      | (with_reducible refine LeO.ite ?_ ?_)
      | (with_reducible refine LeO.bind ?_ (fun _ => ?_))
      | exact ih0 _ _
      | exact ih1 _ _
      | exact ih2 _ _
      | exact ih3 _ _
      | exact ih4 _ _
      | exact ih5 _ _
      | exact ih6 _ _
      | exact ih7 _ _
      | exact ih8 _ _
      | exact ih9 _ _
      | exact ih10 _ _
      | exact ih11 _ _
      | exact LeO.none _
      | refine LeO.ite ?_ ?_
      | refine LeO.bind ?_ (fun _ => ?_)
    · intro y0 y1
      unfold chars_NameStart.j1
      repeat' first
      | (with_reducible exact ih0 _ _)
      | (with_reducible exact ih1 _ _)
      | (with_reducible exact ih2 _ _)
      | (with_reducible exact ih3 _ _)
      | (with_reducible exact ih4 _ _)
      | (with_reducible exact ih5 _ _)
      | (with_reducible exact ih6 _ _)
      | (with_reducible exact ih7 _ _)
      | (with_reducible exact ih8 _ _)
      | (with_reducible exact ih9 _ _)
      | (with_reducible exact ih10 _ _)
      | (with_reducible exact ih11 _ _)
      | (with_reducible exact LeO.refl _)
      | (with_reducible exact LeO.none _)
      | (with_reducible refine LeO.ite ?_ ?_)
      | (with_reducible refine LeO.bind ?_ (fun _ => ?_))
      | exact ih0 _ _
      | exact ih1 _ _
      | exact ih2 _ _
      | exact ih3 _ _
      | exact ih4 _ _
      | exact ih5 _ _
      | exact ih6 _ _
      | exact ih7 _ _
      | exact ih8 _ _
      | exact ih9 _ _
      | exact ih10 _ _
      | exact ih11 _ _
      | exact LeO.none _
      | refine LeO.ite ?_ ?_
      | refine LeO.bind ?_ (fun _ => ?_)
    · intro y0 y1
      unfold chars_NameStart.j2
      repeat' first
      | (with_reducible exact ih0 _ _)
      | (with_reducible exact ih1 _ _)
      | (with_reducible exact ih2 _ _)
      | (with_reducible exact ih3 _ _)
      | (with_reducible exact ih4 _ _)
      | (with_reducible exact ih5 _ _)
      | (with_reducible exact ih6 _ _)
      | (with_reducible exact ih7 _ _)
      | (with_reducible exact ih8 _ _)
      | (with_reducible exact ih9 _ _)
      | (with_reducible exact ih10 _ _)
      | (with_reducible exact ih11 _ _)
      | (with_reducible exact LeO.refl _)
      | (with_reducible exact LeO.none _)
      | (with_reducible refine LeO.ite ?_ ?_)
      | (with_reducible refine LeO.bind ?_ (fun _ => ?_))
      | exact ih0 _ _
      | exact ih1 _ _
      | exact ih2 _ _
      | exact ih3 _ _
      | exact ih4 _ _
      | exact ih5 _ _
      | exact ih6 _ _
      | exact ih7 _ _
      | exact ih8 _ _
      | exact ih9 _ _
      | exact ih10 _ _
      | exact ih11 _ _
      | exact LeO.none _
      | refine LeO.ite ?_ ?_
      | refine LeO.bind ?_ (fun _ => ?_)
    · intro y0 y1
      unfold chars_NameStart.j3
      repeat' first
      | (with_reducible exact ih0 _ _)
      | (with_reducible exact ih1 _ _)
      | (with_reducible exact ih2 _ _)
      | (with_reducible exact ih3 _ _)
      | (with_reducible exact ih4 _ _)
      | (with_reducible exact ih5 _ _)
      | (with_reducible exact ih6 _ _)
      | (with_reducible exact ih7 _ _)
      | (with_reducible exact ih8 _ _)
      | (with_reducible exact ih9 _ _)
      | (with_reducible exact ih10 _ _)
      | (with_reducible exact ih11 _ _)
      | (with_reducible exact LeO.refl _)
      | (with_reducible exact LeO.none _)
      | (with_reducible refine LeO.ite ?_ ?_)
      | (with_reducible refine LeO.bind ?_ (fun _ => ?_))
      | exact ih0 _ _
      | exact ih1 _ _
      | exact ih2 _ _
      | exact ih3 _ _
      | exact ih4 _ _
      | exact ih5 _ _
      | exact ih6 _ _
      | exact ih7 _ _
      | exact ih8 _ _
      | exact ih9 _ _
      | exact ih10 _ _
      | exact ih11 _ _
      | exact LeO.none _
      | refine LeO.ite ?_ ?_
      | refine LeO.bind ?_ (fun _ => ?_)
    · intro y0 y1
      unfold chars_NameStart.j4
      repeat' first
      | (with_reducible exact ih0 _ _)
      | (with_reducible exact ih1 _ _)
      | (with_reducible exact ih2 _ _)
      | (with_reducible exact ih3 _ _)
      | (with_reducible exact ih4 _ _)
      | (with_reducible exact ih5 _ _)
      | (with_reducible exact ih6 _ _)
      | (with_reducible exact ih7 _ _)
      | (with_reducible exact ih8 _ _)
      | (with_reducible exact ih9 _ _)
      | (with_reducible exact ih10 _ _)
      | (with_reducible exact ih11 _ _)
      | (with_reducible exact LeO.refl _)
      | (with_reducible exact LeO.none _)
      | (with_reducible refine LeO.ite ?_ ?_)
      | (with_reducible refine LeO.bind ?_ (fun _ => ?_))
      | exact ih0 _ _
      | exact ih1 _ _
      | exact ih2 _ _
      | exact ih3 _ _
      | exact ih4 _ _
      | exact ih5 _ _
      | exact ih6 _ _
      | exact ih7 _ _
      | exact ih8 _ _
      | exact ih9 _ _
      | exact ih10 _ _
      | exact ih11 _ _
      | exact LeO.none _
      | refine LeO.ite ?_ ?_
      | refine LeO.bind ?_ (fun _ => ?_)
    · intro y0 y1
      unfold chars_NameStart.j5
      repeat' first
      | (with_reducible exact ih0 _ _)
      | (with_reducible exact ih1 _ _)
      | (with_reducible exact ih2 _ _)
      | (with_reducible exact ih3 _ _)
      | (with_reducible exact ih4 _ _)
      | (with_reducible exact ih5 _ _)
      | (with_reducible exact ih6 _ _)
      | (with_reducible exact ih7 _ _)
      | (with_reducible exact ih8 _ _)
      | (with_reducible exact ih9 _ _)
      | (with_reducible exact ih10 _ _)
      | (with_reducible exact ih11 _ _)
      | (with_reducible exact LeO.refl _)
      | (with_reducible exact LeO.none _)
      | (with_reducible refine LeO.ite ?_ ?_)
      | (with_reducible refine LeO.bind ?_ (fun _ => ?_))
      | exact ih0 _ _
      | exact ih1 _ _
      | exact ih2 _ _
      | exact ih3 _ _
      | exact ih4 _ _
      | exact ih5 _ _
      | exact ih6 _ _
      | exact ih7 _ _
      | exact ih8 _ _
      | exact ih9 _ _
      | exact ih10 _ _
      | exact ih11 _ _
      | exact LeO.none _
      | refine LeO.ite ?_ ?_
      | refine LeO.bind ?_ (fun _ => ?_)
    · intro y0 y1
      unfold chars_NameStart.j6
      repeat' first
      | (with_reducible exact ih0 _ _)
      | (with_reducible exact ih1 _ _)
      | (with_reducible exact ih2 _ _)
      | (with_reducible exact ih3 _ _)
      | (with_reducible exact ih4 _ _)
      | (with_reducible exact ih5 _ _)
      | (with_reducible exact ih6 _ _)
      | (with_reducible exact ih7 _ _)
      | (with_reducible exact ih8 _ _)
      | (with_reducible exact ih9 _ _)
      | (with_reducible exact ih10 _ _)
      | (with_reducible exact ih11 _ _)
      | (with_reducible exact LeO.refl _)
      | (with_reducible exact LeO.none _)
      | (with_reducible refine LeO.ite ?_ ?_)
      | (with_reducible refine LeO.bind ?_ (fun _ => ?_))
      | exact ih0 _ _
      | exact ih1 _ _
      | exact ih2 _ _
      | exact ih3 _ _
      | exact ih4 _ _
      | exact ih5 _ _
      | exact ih6 _ _
      | exact ih7 _ _
      | exact ih8 _ _
      | exact ih9 _ _
      | exact ih10 _ _
      | exact ih11 _ _
      | exact LeO.none _
      | refine LeO.ite ?_ ?_
      | refine LeO.bind ?_ (fun _ => ?_)
    · intro y0 y1
      unfold chars_NameStart.j7
      repeat' first
      | (with_reducible exact ih0 _ _)
      | (with_reducible exact ih1 _ _)
      | (with_reducible exact ih2 _ _)
      | (with_reducible exact ih3 _ _)
      | (with_reducible exact ih4 _ _)
      | (with_reducible exact ih5 _ _)
      | (with_reducible exact ih6 _ _)
      | (with_reducible exact ih7 _ _)
      | (with_reducible exact ih8 _ _)
      | (with_reducible exact ih9 _ _)
      | (with_reducible exact ih10 _ _)
      | (with_reducible exact ih11 _ _)
      | (with_reducible exact LeO.refl _)
      | (with_reducible exact LeO.none _)
      | (with_reducible refine LeO.ite ?_ ?_)
      | (with_reducible refine LeO.bind ?_ (fun _ => ?_))
      | exact ih0 _ _
      | exact ih1 _ _
      | exact ih2 _ _
      | exact ih3 _ _
      | exact ih4 _ _
      | exact ih5 _ _
      | exact ih6 _ _
      | exact ih7 _ _
      | exact ih8 _ _
      | exact ih9 _ _
      | exact ih10 _ _
      | exact ih11 _ _
      | exact LeO.none _
      | refine LeO.ite ?_ ?_
      | refine LeO.bind ?_ (fun _ => ?_)
    · intro y0 y1
      unfold chars_NameStart.j8
      repeat' first
      | (with_reducible exact ih0 _ _)
      | (with_reducible exact ih1 _ _)
      | (with_reducible exact ih2 _ _)
      | (with_reducible exact ih3 _ _)
      | (with_reducible exact ih4 _ _)
      | (with_reducible exact ih5 _ _)
      | (with_reducible exact ih6 _ _)
      | (with_reducible exact ih7 _ _)
      | (with_reducible exact ih8 _ _)
      | (with_reducible exact ih9 _ _)
      | (with_reducible exact ih10 _ _)
      | (with_reducible exact ih11 _ _)
      | (with_reducible exact LeO.refl _)
      | (with_reducible exact LeO.none _)
      | (with_reducible refine LeO.ite ?_ ?_)
      | (with_reducible refine LeO.bind ?_ (fun _ => ?_))
      | exact ih0 _ _
      | exact ih1 _ _
      | exact ih2 _ _
      | exact ih3 _ _
      | exact ih4 _ _
      | exact ih5 _ _
      | exact ih6 _ _
      | exact ih7 _ _
      | exact ih8 _ _
      | exact ih9 _ _
      | exact ih10 _ _
      | exact ih11 _ _
      | exact LeO.none _
      | refine LeO.ite ?_ ?_
      | refine LeO.bind ?_ (fun _ => ?_)
    · intro y0 y1
      unfold chars_NameStart.j9
      repeat' first
      | (with_reducible exact ih0 _ _)
      | (with_reducible exact ih1 _ _)
      | (with_reducible exact ih2 _ _)
      | (with_reducible exact ih3 _ _)
      | (with_reducible exact ih4 _ _)
      | (with_reducible exact ih5 _ _)
      | (with_reducible exact ih6 _ _)
      | (with_reducible exact ih7 _ _)
      | (with_reducible exact ih8 _ _)
      | (with_reducible exact ih9 _ _)
      | (with_reducible exact ih10 _ _)
      | (with_reducible exact ih11 _ _)
      | (with_reducible exact LeO.refl _)
      | (with_reducible exact LeO.none _)
      | (with_reducible refine LeO.ite ?_ ?_)
      | (with_reducible refine LeO.bind ?_ (fun _ => ?_))
      | exact ih0 _ _
      | exact ih1 _ _
      | exact ih2 _ _
      | exact ih3 _ _
      | exact ih4 _ _
      | exact ih5 _ _
      | exact ih6 _ _
      | exact ih7 _ _
      | exact ih8 _ _
      | exact ih9 _ _
      | exact ih10 _ _
      | exact ih11 _ _
      | exact LeO.none _
      | refine LeO.ite ?_ ?_
      | refine LeO.bind ?_ (fun _ => ?_)
    · intro y0 y1
      unfold chars_NameStart.j10
      repeat' first
      | (with_reducible exact ih0 _ _)
      | (with_reducible exact ih1 _ _)
      | (with_reducible exact ih2 _ _)
      | (with_reducible exact ih3 _ _)
      | (with_reducible exact ih4 _ _)
      | (with_reducible exact ih5 _ _)
      | (with_reducible exact ih6 _ _)
      | (with_reducible exact ih7 _ _)
      | (with_reducible exact ih8 _ _)
      | (with_reducible exact ih9 _ _)
      | (with_reducible exact ih10 _ _)
      | (with_reducible exact ih11 _ _)
      | (with_reducible exact LeO.refl _)
      | (with_reducible exact LeO.none _)
      | (with_reducible refine LeO.ite ?_ ?_)
      | (with_reducible refine LeO.bind ?_ (fun _ => ?_))
      | exact ih0 _ _
      | exact ih1 _ _
      | exact ih2 _ _
      | exact ih3 _ _
      | exact ih4 _ _
      | exact ih5 _ _
      | exact ih6 _ _
      | exact ih7 _ _
      | exact ih8 _ _
      | exact ih9 _ _
      | exact ih10 _ _
      | exact ih11 _ _
      | exact LeO.none _
      | refine LeO.ite ?_ ?_
      | refine LeO.bind ?_ (fun _ => ?_)
    · intro y0 y1
      unfold chars_NameStart.j11
      repeat' first
      | (with_reducible exact ih0 _ _)
      | (with_reducible exact ih1 _ _)
      | (with_reducible exact ih2 _ _)
      | (with_reducible exact ih3 _ _)
      | (with_reducible exact ih4 _ _)
      | (with_reducible exact ih5 _ _)
      | (with_reducible exact ih6 _ _)
      | (with_reducible exact ih7 _ _)
      | (with_reducible exact ih8 _ _)
      | (with_reducible exact ih9 _ _)
      | (with_reducible exact ih10 _ _)
      | (with_reducible exact ih11 _ _)
      | (with_reducible exact LeO.refl _)
      | (with_reducible exact LeO.none _)
      | (with_reducible refine LeO.ite ?_ ?_)
      | (with_reducible refine LeO.bind ?_ (fun _ => ?_))
      | exact ih0 _ _
      | exact ih1 _ _
      | exact ih2 _ _
      | exact ih3 _ _
      | exact ih4 _ _
      | exact ih5 _ _
      | exact ih6 _ _
      | exact ih7 _ _
      | exact ih8 _ _
      | exact ih9 _ _
      | exact ih10 _ _
      | exact ih11 _ _
      | exact LeO.none _
      | refine LeO.ite ?_ ?_
      | refine LeO.bind ?_ (fun _ => ?_)
theorem chars_NameStart.mono : ∀ a0 k, LeO (chars_NameStart.f k a0) (chars_NameStart.f (k + 1) a0) := by
  intro a0 k
  obtain ⟨ih0, ih1, ih2, ih3, ih4, ih5, ih6, ih7, ih8, ih9, ih10, ih11⟩ := chars_NameStart.mono_l k
  unfold chars_NameStart.f
  repeat' first
      | (with_reducible exact ih0 _ _)
      | (with_reducible exact ih1 _ _)
      | (with_reducible exact ih2 _ _)
      | (with_reducible exact ih3 _ _)
      | (with_reducible exact ih4 _ _)
      | (with_reducible exact ih5 _ _)
      | (with_reducible exact ih6 _ _)
      | (with_reducible exact ih7 _ _)
      | (with_reducible exact ih8 _ _)
      | (with_reducible exact ih9 _ _)
      | (with_reducible exact ih10 _ _)
      | (with_reducible exact ih11 _ _)
      | (with_reducible exact LeO.refl _)
      | (with_reducible exact LeO.none _)
      | (with_reducible refine LeO.ite ?_ ?_)
      | (with_reducible refine LeO.bind ?_ (fun _ => ?_))
      | exact ih0 _ _
      | exact ih1 _ _
      | exact ih2 _ _
      | exact ih3 _ _
      | exact ih4 _ _
      | exact ih5 _ _
      | exact ih6 _ _
      | exact ih7 _ _
      | exact ih8 _ _
      | exact ih9 _ _
      | exact ih10 _ _
      | exact ih11 _ _
      | exact LeO.none _
      | refine LeO.ite ?_ ?_
      | refine LeO.bind ?_ (fun _ => ?_)
set_option maxHeartbeats 8000000 in
set_option maxRecDepth 100000 in
theorem chars_NameStart.calls (k : Nat) (a0 : Int) (r : Bool) (w : World) (h : chars_NameStart.f k a0 = some r) :
    Calls Tryz.prog 34 #[.int .i32 a0] w fun e w' => e = .returned (.bool r) ∧ Drawn0 w w' := by
  have H : (if a0 ≥ 65 then (chars_NameStart.j0 k a0 (decide (a0 ≤ 90))) else (chars_NameStart.j0 k a0 false)) = some r := h
  clear h
  have HC2 := Aside0.mk H
  clear H
  go_enter Tryz.func34, Tryz.ntmps34
  go_upto_region 1 with (fail)
  go_cut [3] (fun v3 wc => ∃ (kq : Nat) (x3_1 : Bool), v3 = .bool x3_1 ∧ Aside0 (chars_NameStart.j0 kq a0 x3_1 = some r) ∧ Aside0 (kq ≤ k) ∧ Drawn0 w wc)
  case first =>
    have H := HC2.out
    clear HC2
    by_cases c3 : a0 ≥ 65
    · rw [if_pos c3] at H
      have c3b0 : decide (65 ≤ a0) = true := decide_eq_true c3
      clear c3
      (first | rw [c3b0] | (simp only [i64_w, i32_w]; rw [c3b0]) | skip)
      have H' := Aside0.mk H
      clear H
      go_wp2
      go_meet
      case rel => exact ⟨_, (decide (a0 ≤ 90)), (by first | rfl | (simp; done) | (simp [*]; done)), H', ⟨by first | omega | exact Nat.le_refl _⟩, by repeat (first | exact Drawn0.refl _ | apply Drawn0.step)⟩
    · rw [if_neg c3] at H
      have c3b0 : decide (65 ≤ a0) = false := decide_eq_false c3
      clear c3
      (first | rw [c3b0] | (simp only [i64_w, i32_w]; rw [c3b0]) | skip)
      have H' := Aside0.mk H
      clear H
      go_wp2
      go_meet
      case rel => exact ⟨_, (false), (by first | rfl | (simp; done) | (simp [*]; done)), H', ⟨by first | omega | exact Nat.le_refl _⟩, by repeat (first | exact Drawn0.refl _ | apply Drawn0.step)⟩
  case rest =>
    clear HC2
    try clear p2
    try clear c3
    try clear c3b0
    obtain ⟨kq, x3_1, rfl, HA, HJ1, ⟨mc1, rfl⟩⟩ := hcut
    cases kq with
    | zero => exact absurd HA.out (by simp [chars_NameStart.j0])
    | succ kj1 =>
      have H := HA.out
      clear HA
      simp only [chars_NameStart.j0] at H
      by_cases c4 : x3_1 = true
      · subst c4
        have H1 : (some true) = some r := by rw [if_pos rfl] at H; exact H
        clear H
        have H := H1
        clear H1
        obtain rfl := Option.some.inj H
        go_wp2
        go_ret
        exact ⟨by first | rfl | (simp; done) | (simp [*]; done), by repeat (first | exact Drawn0.refl _ | apply Drawn0.step)⟩
      · replace c4 := Bool.eq_false_iff.mpr c4
        subst c4
        have H1 : (if a0 = 95 then (some true) else (if a0 ≥ 97 then (chars_NameStart.j1 kj1 a0 (decide (a0 ≤ 122))) else (chars_NameStart.j1 kj1 a0 false))) = some r := by rw [if_neg (show ¬ (false = true) by decide)] at H; exact H
        clear H
        have H := H1
        clear H1
        by_cases c5 : a0 = 95
        · rw [if_pos c5] at H
          have c5b0 : (a0 == 95) = true := beq_iff_eq.mpr c5
          have c5b1 : (a0 != 95) = false := bne_eq_false_iff_eq.mpr c5
          clear c5
          obtain rfl := Option.some.inj H
          go_wp2
          go_ret
          exact ⟨by first | rfl | (simp; done) | (simp [*]; done), by repeat (first | exact Drawn0.refl _ | apply Drawn0.step)⟩
        · rw [if_neg c5] at H
          have c5b0 : (a0 == 95) = false := beq_eq_false_iff_ne.mpr c5
          have c5b1 : (a0 != 95) = true := bne_iff_ne.mpr c5
          have HC6 := Aside0.mk H
          clear H
          go_upto_region 3 with (fail)
          go_cut [3] (fun v3 wc => ∃ (kq : Nat) (x3_5 : Bool), v3 = .bool x3_5 ∧ Aside0 (chars_NameStart.j1 kq a0 x3_5 = some r) ∧ Aside0 (kq ≤ kj1) ∧ Drawn0 w wc)
          case first =>
            have H := HC6.out
            clear HC6
            by_cases c7 : a0 ≥ 97
            · rw [if_pos c7] at H
              have c7b0 : decide (97 ≤ a0) = true := decide_eq_true c7
              clear c7
              (first | rw [c7b0] | (simp only [i64_w, i32_w]; rw [c7b0]) | skip)
              have H' := Aside0.mk H
              clear H
              go_wp2
              go_meet
              case rel => exact ⟨_, (decide (a0 ≤ 122)), (by first | rfl | (simp; done) | (simp [*]; done)), H', ⟨by have := HJ1.out; first | omega | exact Nat.le_refl _⟩, by repeat (first | exact Drawn0.refl _ | apply Drawn0.step)⟩
            · rw [if_neg c7] at H
              have c7b0 : decide (97 ≤ a0) = false := decide_eq_false c7
              clear c7
              (first | rw [c7b0] | (simp only [i64_w, i32_w]; rw [c7b0]) | skip)
              have H' := Aside0.mk H
              clear H
              go_wp2
              go_meet
              case rel => exact ⟨_, (false), (by first | rfl | (simp; done) | (simp [*]; done)), H', ⟨by have := HJ1.out; first | omega | exact Nat.le_refl _⟩, by repeat (first | exact Drawn0.refl _ | apply Drawn0.step)⟩
          case rest =>
            clear HC6
            try clear c1
            try clear p2
            try clear c3
            try clear c3b0
            try clear c4
            try clear c5
            try clear c5b0
            try clear c5b1
            try clear c7
            try clear c7b0
            try clear p2
            obtain ⟨kq, x3_5, rfl, HA, HJ5, ⟨mc5, rfl⟩⟩ := hcut
            cases kq with
            | zero => exact absurd HA.out (by simp [chars_NameStart.j1])
            | succ kj5 =>
              have H := HA.out
              clear HA
              simp only [chars_NameStart.j1] at H
              by_cases c8 : x3_5 = true
              · subst c8
                have H1 : (some true) = some r := by rw [if_pos rfl] at H; exact H
                clear H
                have H := H1
                clear H1
                obtain rfl := Option.some.inj H
                go_wp2
                go_ret
                exact ⟨by first | rfl | (simp; done) | (simp [*]; done), by repeat (first | exact Drawn0.refl _ | apply Drawn0.step)⟩
              · replace c8 := Bool.eq_false_iff.mpr c8
                subst c8
                have H1 : (if a0 ≥ 192 then (chars_NameStart.j2 kj5 a0 (decide (a0 ≤ 214))) else (chars_NameStart.j2 kj5 a0 false)) = some r := by rw [if_neg (show ¬ (false = true) by decide)] at H; exact H
                clear H
                have H := H1
                clear H1
                have HC9 := Aside0.mk H
                clear H
                go_upto_region 4 with (fail)
                go_cut [3] (fun v3 wc => ∃ (kq : Nat) (x3_8 : Bool), v3 = .bool x3_8 ∧ Aside0 (chars_NameStart.j2 kq a0 x3_8 = some r) ∧ Aside0 (kq ≤ kj5) ∧ Drawn0 w wc)
                case first =>
                  have H := HC9.out
                  clear HC9
                  by_cases c10 : a0 ≥ 192
                  · rw [if_pos c10] at H
                    have c10b0 : decide (192 ≤ a0) = true := decide_eq_true c10
                    clear c10
                    (first | rw [c10b0] | (simp only [i64_w, i32_w]; rw [c10b0]) | skip)
                    have H' := Aside0.mk H
                    clear H
                    go_wp2
                    go_meet
                    case rel => exact ⟨_, (decide (a0 ≤ 214)), (by first | rfl | (simp; done) | (simp [*]; done)), H', ⟨by have := HJ1.out; have := HJ5.out; first | omega | exact Nat.le_refl _⟩, by repeat (first | exact Drawn0.refl _ | apply Drawn0.step)⟩
                  · rw [if_neg c10] at H
                    have c10b0 : decide (192 ≤ a0) = false := decide_eq_false c10
                    clear c10
                    (first | rw [c10b0] | (simp only [i64_w, i32_w]; rw [c10b0]) | skip)
                    have H' := Aside0.mk H
                    clear H
                    go_wp2
                    go_meet
                    case rel => exact ⟨_, (false), (by first | rfl | (simp; done) | (simp [*]; done)), H', ⟨by have := HJ1.out; have := HJ5.out; first | omega | exact Nat.le_refl _⟩, by repeat (first | exact Drawn0.refl _ | apply Drawn0.step)⟩
                case rest =>
                  clear HC9
                  try clear c1
                  try clear p2
                  try clear c3
                  try clear c3b0
                  try clear c4
                  try clear c5
                  try clear c5b0
                  try clear c5b1
                  try clear c7
                  try clear c7b0
                  try clear c8
                  try clear c10
                  try clear c10b0
                  try clear p2
                  obtain ⟨kq, x3_8, rfl, HA, HJ8, ⟨mc8, rfl⟩⟩ := hcut
                  cases kq with
                  | zero => exact absurd HA.out (by simp [chars_NameStart.j2])
                  | succ kj8 =>
                    have H := HA.out
                    clear HA
                    simp only [chars_NameStart.j2] at H
                    by_cases c11 : x3_8 = true
                    · subst c11
                      have H1 : (some true) = some r := by rw [if_pos rfl] at H; exact H
                      clear H
                      have H := H1
                      clear H1
                      obtain rfl := Option.some.inj H
                      go_wp2
                      go_ret
                      exact ⟨by first | rfl | (simp; done) | (simp [*]; done), by repeat (first | exact Drawn0.refl _ | apply Drawn0.step)⟩
                    · replace c11 := Bool.eq_false_iff.mpr c11
                      subst c11
                      have H1 : (if a0 ≥ 216 then (chars_NameStart.j3 kj8 a0 (decide (a0 ≤ 246))) else (chars_NameStart.j3 kj8 a0 false)) = some r := by rw [if_neg (show ¬ (false = true) by decide)] at H; exact H
                      clear H
                      have H := H1
                      clear H1
                      have HC12 := Aside0.mk H
                      clear H
                      go_upto_region 5 with (fail)
                      go_cut [3] (fun v3 wc => ∃ (kq : Nat) (x3_11 : Bool), v3 = .bool x3_11 ∧ Aside0 (chars_NameStart.j3 kq a0 x3_11 = some r) ∧ Aside0 (kq ≤ kj8) ∧ Drawn0 w wc)
                      case first =>
                        have H := HC12.out
                        clear HC12
                        by_cases c13 : a0 ≥ 216
                        · rw [if_pos c13] at H
                          have c13b0 : decide (216 ≤ a0) = true := decide_eq_true c13
                          clear c13
                          (first | rw [c13b0] | (simp only [i64_w, i32_w]; rw [c13b0]) | skip)
                          have H' := Aside0.mk H
                          clear H
                          go_wp2
                          go_meet
                          case rel => exact ⟨_, (decide (a0 ≤ 246)), (by first | rfl | (simp; done) | (simp [*]; done)), H', ⟨by have := HJ1.out; have := HJ5.out; have := HJ8.out; first | omega | exact Nat.le_refl _⟩, by repeat (first | exact Drawn0.refl _ | apply Drawn0.step)⟩
                        · rw [if_neg c13] at H
                          have c13b0 : decide (216 ≤ a0) = false := decide_eq_false c13
                          clear c13
                          (first | rw [c13b0] | (simp only [i64_w, i32_w]; rw [c13b0]) | skip)
                          have H' := Aside0.mk H
                          clear H
                          go_wp2
                          go_meet
                          case rel => exact ⟨_, (false), (by first | rfl | (simp; done) | (simp [*]; done)), H', ⟨by have := HJ1.out; have := HJ5.out; have := HJ8.out; first | omega | exact Nat.le_refl _⟩, by repeat (first | exact Drawn0.refl _ | apply Drawn0.step)⟩
                      case rest =>
                        clear HC12
                        try clear c1
                        try clear p2
                        try clear c3
                        try clear c3b0
                        try clear c4
                        try clear c5
                        try clear c5b0
                        try clear c5b1
                        try clear c7
                        try clear c7b0
                        try clear c8
                        try clear c10
                        try clear c10b0
                        try clear c11
                        try clear c13
                        try clear c13b0
                        try clear p2
                        obtain ⟨kq, x3_11, rfl, HA, HJ11, ⟨mc11, rfl⟩⟩ := hcut
                        cases kq with
                        | zero => exact absurd HA.out (by simp [chars_NameStart.j3])
                        | succ kj11 =>
                          have H := HA.out
                          clear HA
                          simp only [chars_NameStart.j3] at H
                          by_cases c14 : x3_11 = true
                          · subst c14
                            have H1 : (some true) = some r := by rw [if_pos rfl] at H; exact H
                            clear H
                            have H := H1
                            clear H1
                            obtain rfl := Option.some.inj H
                            go_wp2
                            go_ret
                            exact ⟨by first | rfl | (simp; done) | (simp [*]; done), by repeat (first | exact Drawn0.refl _ | apply Drawn0.step)⟩
                          · replace c14 := Bool.eq_false_iff.mpr c14
                            subst c14
                            have H1 : (if a0 ≥ 248 then (chars_NameStart.j4 kj11 a0 (decide (a0 ≤ 767))) else (chars_NameStart.j4 kj11 a0 false)) = some r := by rw [if_neg (show ¬ (false = true) by decide)] at H; exact H
                            clear H
                            have H := H1
                            clear H1
                            have HC15 := Aside0.mk H
                            clear H
                            go_upto_region 6 with (fail)
                            go_cut [3] (fun v3 wc => ∃ (kq : Nat) (x3_14 : Bool), v3 = .bool x3_14 ∧ Aside0 (chars_NameStart.j4 kq a0 x3_14 = some r) ∧ Aside0 (kq ≤ kj11) ∧ Drawn0 w wc)
                            case first =>
                              have H := HC15.out
                              clear HC15
                              by_cases c16 : a0 ≥ 248
                              · rw [if_pos c16] at H
                                have c16b0 : decide (248 ≤ a0) = true := decide_eq_true c16
                                clear c16
                                (first | rw [c16b0] | (simp only [i64_w, i32_w]; rw [c16b0]) | skip)
                                have H' := Aside0.mk H
                                clear H
                                go_wp2
                                go_meet
                                case rel => exact ⟨_, (decide (a0 ≤ 767)), (by first | rfl | (simp; done) | (simp [*]; done)), H', ⟨by have := HJ1.out; have := HJ5.out; have := HJ8.out; have := HJ11.out; first | omega | exact Nat.le_refl _⟩, by repeat (first | exact Drawn0.refl _ | apply Drawn0.step)⟩
                              · rw [if_neg c16] at H
                                have c16b0 : decide (248 ≤ a0) = false := decide_eq_false c16
                                clear c16
                                (first | rw [c16b0] | (simp only [i64_w, i32_w]; rw [c16b0]) | skip)
                                have H' := Aside0.mk H
                                clear H
                                go_wp2
                                go_meet
                                case rel => exact ⟨_, (false), (by first | rfl | (simp; done) | (simp [*]; done)), H', ⟨by have := HJ1.out; have := HJ5.out; have := HJ8.out; have := HJ11.out; first | omega | exact Nat.le_refl _⟩, by repeat (first | exact Drawn0.refl _ | apply Drawn0.step)⟩
                            case rest =>
                              clear HC15
                              try clear c1
                              try clear p2
                              try clear c3
                              try clear c3b0
                              try clear c4
                              try clear c5
                              try clear c5b0
                              try clear c5b1
                              try clear c7
                              try clear c7b0
                              try clear c8
                              try clear c10
                              try clear c10b0
                              try clear c11
                              try clear c13
                              try clear c13b0
                              try clear c14
                              try clear c16
                              try clear c16b0
                              try clear p2
                              obtain ⟨kq, x3_14, rfl, HA, HJ14, ⟨mc14, rfl⟩⟩ := hcut
                              cases kq with
                              | zero => exact absurd HA.out (by simp [chars_NameStart.j4])
                              | succ kj14 =>
                                have H := HA.out
                                clear HA
                                simp only [chars_NameStart.j4] at H
                                by_cases c17 : x3_14 = true
                                · subst c17
                                  have H1 : (some true) = some r := by rw [if_pos rfl] at H; exact H
                                  clear H
                                  have H := H1
                                  clear H1
                                  obtain rfl := Option.some.inj H
                                  go_wp2
                                  go_ret
                                  exact ⟨by first | rfl | (simp; done) | (simp [*]; done), by repeat (first | exact Drawn0.refl _ | apply Drawn0.step)⟩
                                · replace c17 := Bool.eq_false_iff.mpr c17
                                  subst c17
                                  have H1 : (if a0 ≥ 880 then (chars_NameStart.j5 kj14 a0 (decide (a0 ≤ 893))) else (chars_NameStart.j5 kj14 a0 false)) = some r := by rw [if_neg (show ¬ (false = true) by decide)] at H; exact H
                                  clear H
                                  have H := H1
                                  clear H1
                                  have HC18 := Aside0.mk H
                                  clear H
                                  go_upto_region 7 with (fail)
                                  go_cut [3] (fun v3 wc => ∃ (kq : Nat) (x3_17 : Bool), v3 = .bool x3_17 ∧ Aside0 (chars_NameStart.j5 kq a0 x3_17 = some r) ∧ Aside0 (kq ≤ kj14) ∧ Drawn0 w wc)
                                  case first =>
                                    have H := HC18.out
                                    clear HC18
                                    by_cases c19 : a0 ≥ 880
                                    · rw [if_pos c19] at H
                                      have c19b0 : decide (880 ≤ a0) = true := decide_eq_true c19
                                      clear c19
                                      (first | rw [c19b0] | (simp only [i64_w, i32_w]; rw [c19b0]) | skip)
                                      have H' := Aside0.mk H
                                      clear H
                                      go_wp2
                                      go_meet
                                      case rel => exact ⟨_, (decide (a0 ≤ 893)), (by first | rfl | (simp; done) | (simp [*]; done)), H', ⟨by have := HJ1.out; have := HJ5.out; have := HJ8.out; have := HJ11.out; have := HJ14.out; first | omega | exact Nat.le_refl _⟩, by repeat (first | exact Drawn0.refl _ | apply Drawn0.step)⟩
                                    · rw [if_neg c19] at H
                                      have c19b0 : decide (880 ≤ a0) = false := decide_eq_false c19
                                      clear c19
                                      (first | rw [c19b0] | (simp only [i64_w, i32_w]; rw [c19b0]) | skip)
                                      have H' := Aside0.mk H
                                      clear H
                                      go_wp2
                                      go_meet
                                      case rel => exact ⟨_, (false), (by first | rfl | (simp; done) | (simp [*]; done)), H', ⟨by have := HJ1.out; have := HJ5.out; have := HJ8.out; have := HJ11.out; have := HJ14.out; first | omega | exact Nat.le_refl _⟩, by repeat (first | exact Drawn0.refl _ | apply Drawn0.step)⟩
                                  case rest =>
                                    clear HC18
                                    try clear c1
                                    try clear p2
                                    try clear c3
                                    try clear c3b0
                                    try clear c4
                                    try clear c5
                                    try clear c5b0
                                    try clear c5b1
                                    try clear c7
                                    try clear c7b0
                                    try clear c8
                                    try clear c10
                                    try clear c10b0
                                    try clear c11
                                    try clear c13
                                    try clear c13b0
                                    try clear c14
                                    try clear c16
                                    try clear c16b0
                                    try clear c17
                                    try clear c19
                                    try clear c19b0
                                    try clear p2
                                    obtain ⟨kq, x3_17, rfl, HA, HJ17, ⟨mc17, rfl⟩⟩ := hcut
                                    cases kq with
                                    | zero => exact absurd HA.out (by simp [chars_NameStart.j5])
                                    | succ kj17 =>
                                      have H := HA.out
                                      clear HA
                                      simp only [chars_NameStart.j5] at H
                                      by_cases c20 : x3_17 = true
                                      · subst c20
                                        have H1 : (some true) = some r := by rw [if_pos rfl] at H; exact H
                                        clear H
                                        have H := H1
                                        clear H1
                                        obtain rfl := Option.some.inj H
                                        go_wp2
                                        go_ret
                                        exact ⟨by first | rfl | (simp; done) | (simp [*]; done), by repeat (first | exact Drawn0.refl _ | apply Drawn0.step)⟩
                                      · replace c20 := Bool.eq_false_iff.mpr c20
                                        subst c20
                                        have H1 : (if a0 ≥ 895 then (chars_NameStart.j6 kj17 a0 (decide (a0 ≤ 8191))) else (chars_NameStart.j6 kj17 a0 false)) = some r := by rw [if_neg (show ¬ (false = true) by decide)] at H; exact H
                                        clear H
                                        have H := H1
                                        clear H1
                                        have HC21 := Aside0.mk H
                                        clear H
                                        go_upto_region 8 with (fail)
                                        go_cut [3] (fun v3 wc => ∃ (kq : Nat) (x3_20 : Bool), v3 = .bool x3_20 ∧ Aside0 (chars_NameStart.j6 kq a0 x3_20 = some r) ∧ Aside0 (kq ≤ kj17) ∧ Drawn0 w wc)
                                        case first =>
                                          have H := HC21.out
                                          clear HC21
                                          by_cases c22 : a0 ≥ 895
                                          · rw [if_pos c22] at H
                                            have c22b0 : decide (895 ≤ a0) = true := decide_eq_true c22
                                            clear c22
                                            (first | rw [c22b0] | (simp only [i64_w, i32_w]; rw [c22b0]) | skip)
                                            have H' := Aside0.mk H
                                            clear H
                                            go_wp2
                                            go_meet
                                            case rel => exact ⟨_, (decide (a0 ≤ 8191)), (by first | rfl | (simp; done) | (simp [*]; done)), H', ⟨by have := HJ1.out; have := HJ5.out; have := HJ8.out; have := HJ11.out; have := HJ14.out; have := HJ17.out; first | omega | exact Nat.le_refl _⟩, by repeat (first | exact Drawn0.refl _ | apply Drawn0.step)⟩
                                          · rw [if_neg c22] at H
                                            have c22b0 : decide (895 ≤ a0) = false := decide_eq_false c22
                                            clear c22
                                            (first | rw [c22b0] | (simp only [i64_w, i32_w]; rw [c22b0]) | skip)
                                            have H' := Aside0.mk H
                                            clear H
                                            go_wp2
                                            go_meet
                                            case rel => exact ⟨_, (false), (by first | rfl | (simp; done) | (simp [*]; done)), H', ⟨by have := HJ1.out; have := HJ5.out; have := HJ8.out; have := HJ11.out; have := HJ14.out; have := HJ17.out; first | omega | exact Nat.le_refl _⟩, by repeat (first | exact Drawn0.refl _ | apply Drawn0.step)⟩
                                        case rest =>
                                          clear HC21
                                          try clear c1
                                          try clear c2
                                          try clear p2
                                          try clear c3
                                          try clear c3b0
                                          try clear c4
                                          try clear c5
                                          try clear c5b0
                                          try clear c5b1
                                          try clear c7
                                          try clear c7b0
                                          try clear c8
                                          try clear c10
                                          try clear c10b0
                                          try clear c11
                                          try clear c13
                                          try clear c13b0
                                          try clear c14
                                          try clear c16
                                          try clear c16b0
                                          try clear c17
                                          try clear c19
                                          try clear c19b0
                                          try clear c20
                                          try clear c22
                                          try clear c22b0
                                          try clear p2
                                          obtain ⟨kq, x3_20, rfl, HA, HJ20, ⟨mc20, rfl⟩⟩ := hcut
                                          cases kq with
                                          | zero => exact absurd HA.out (by simp [chars_NameStart.j6])
                                          | succ kj20 =>
                                            have H := HA.out
                                            clear HA
                                            simp only [chars_NameStart.j6] at H
                                            by_cases c23 : x3_20 = true
                                            · subst c23
                                              have H1 : (some true) = some r := by rw [if_pos rfl] at H; exact H
                                              clear H
                                              have H := H1
                                              clear H1
                                              obtain rfl := Option.some.inj H
                                              go_wp2
                                              go_ret
                                              exact ⟨by first | rfl | (simp; done) | (simp [*]; done), by repeat (first | exact Drawn0.refl _ | apply Drawn0.step)⟩
                                            · replace c23 := Bool.eq_false_iff.mpr c23
                                              subst c23
                                              have H1 : (if a0 = 8204 then (some true) else (if a0 = 8205 then (some true) else (if a0 ≥ 8304 then (chars_NameStart.j7 kj20 a0 (decide (a0 ≤ 8591))) else (chars_NameStart.j7 kj20 a0 false)))) = some r := by rw [if_neg (show ¬ (false = true) by decide)] at H; exact H
                                              clear H
                                              have H := H1
                                              clear H1
                                              by_cases c24 : a0 = 8204
                                              · rw [if_pos c24] at H
                                                have c24b0 : (a0 == 8204) = true := beq_iff_eq.mpr c24
                                                have c24b1 : (a0 != 8204) = false := bne_eq_false_iff_eq.mpr c24
                                                clear c24
                                                obtain rfl := Option.some.inj H
                                                go_wp2
                                                go_ret
                                                exact ⟨by first | rfl | (simp; done) | (simp [*]; done), by repeat (first | exact Drawn0.refl _ | apply Drawn0.step)⟩
                                              · rw [if_neg c24] at H
                                                have c24b0 : (a0 == 8204) = false := beq_eq_false_iff_ne.mpr c24
                                                have c24b1 : (a0 != 8204) = true := bne_iff_ne.mpr c24
                                                by_cases c25 : a0 = 8205
                                                · rw [if_pos c25] at H
                                                  have c25b0 : (a0 == 8205) = true := beq_iff_eq.mpr c25
                                                  have c25b1 : (a0 != 8205) = false := bne_eq_false_iff_eq.mpr c25
                                                  clear c25
                                                  obtain rfl := Option.some.inj H
                                                  go_wp2
                                                  go_ret
                                                  exact ⟨by first | rfl | (simp; done) | (simp [*]; done), by repeat (first | exact Drawn0.refl _ | apply Drawn0.step)⟩
                                                · rw [if_neg c25] at H
                                                  have c25b0 : (a0 == 8205) = false := beq_eq_false_iff_ne.mpr c25
                                                  have c25b1 : (a0 != 8205) = true := bne_iff_ne.mpr c25
                                                  have HC26 := Aside0.mk H
                                                  clear H
                                                  go_upto_region 11 with (fail)
                                                  go_cut [3] (fun v3 wc => ∃ (kq : Nat) (x3_25 : Bool), v3 = .bool x3_25 ∧ Aside0 (chars_NameStart.j7 kq a0 x3_25 = some r) ∧ Aside0 (kq ≤ kj20) ∧ Drawn0 w wc)
                                                  case first =>
                                                    have H := HC26.out
                                                    clear HC26
                                                    by_cases c27 : a0 ≥ 8304
                                                    · rw [if_pos c27] at H
                                                      have c27b0 : decide (8304 ≤ a0) = true := decide_eq_true c27
                                                      clear c27
                                                      (first | rw [c27b0] | (simp only [i64_w, i32_w]; rw [c27b0]) | skip)
                                                      have H' := Aside0.mk H
                                                      clear H
                                                      go_wp2
                                                      go_meet
                                                      case rel => exact ⟨_, (decide (a0 ≤ 8591)), (by first | rfl | (simp; done) | (simp [*]; done)), H', ⟨by have := HJ1.out; have := HJ5.out; have := HJ8.out; have := HJ11.out; have := HJ14.out; have := HJ17.out; have := HJ20.out; first | omega | exact Nat.le_refl _⟩, by repeat (first | exact Drawn0.refl _ | apply Drawn0.step)⟩
                                                    · rw [if_neg c27] at H
                                                      have c27b0 : decide (8304 ≤ a0) = false := decide_eq_false c27
                                                      clear c27
                                                      (first | rw [c27b0] | (simp only [i64_w, i32_w]; rw [c27b0]) | skip)
                                                      have H' := Aside0.mk H
                                                      clear H
                                                      go_wp2
                                                      go_meet
                                                      case rel => exact ⟨_, (false), (by first | rfl | (simp; done) | (simp [*]; done)), H', ⟨by have := HJ1.out; have := HJ5.out; have := HJ8.out; have := HJ11.out; have := HJ14.out; have := HJ17.out; have := HJ20.out; first | omega | exact Nat.le_refl _⟩, by repeat (first | exact Drawn0.refl _ | apply Drawn0.step)⟩
                                                  case rest =>
                                                    clear HC26
                                                    try clear c1
                                                    try clear c2
                                                    try clear p2
                                                    try clear c3
                                                    try clear c3b0
                                                    try clear c4
                                                    try clear c5
                                                    try clear c5b0
                                                    try clear c5b1
                                                    try clear c7
                                                    try clear c7b0
                                                    try clear c8
                                                    try clear c10
                                                    try clear c10b0
                                                    try clear c11
                                                    try clear c13
                                                    try clear c13b0
                                                    try clear c14
                                                    try clear c16
                                                    try clear c16b0
                                                    try clear c17
                                                    try clear c19
                                                    try clear c19b0
                                                    try clear c20
                                                    try clear c22
                                                    try clear c22b0
                                                    try clear c23
                                                    try clear c24
                                                    try clear c24b0
                                                    try clear c24b1
                                                    try clear c25
                                                    try clear c25b0
                                                    try clear c25b1
                                                    try clear c27
                                                    try clear c27b0
                                                    try clear p2
                                                    obtain ⟨kq, x3_25, rfl, HA, HJ25, ⟨mc25, rfl⟩⟩ := hcut
                                                    cases kq with
                                                    | zero => exact absurd HA.out (by simp [chars_NameStart.j7])
                                                    | succ kj25 =>
                                                      have H := HA.out
                                                      clear HA
                                                      simp only [chars_NameStart.j7] at H
                                                      by_cases c28 : x3_25 = true
                                                      · subst c28
                                                        have H1 : (some true) = some r := by rw [if_pos rfl] at H; exact H
                                                        clear H
                                                        have H := H1
                                                        clear H1
                                                        obtain rfl := Option.some.inj H
                                                        go_wp2
                                                        go_ret
                                                        exact ⟨by first | rfl | (simp; done) | (simp [*]; done), by repeat (first | exact Drawn0.refl _ | apply Drawn0.step)⟩
                                                      · replace c28 := Bool.eq_false_iff.mpr c28
                                                        subst c28
                                                        have H1 : (if a0 ≥ 11264 then (chars_NameStart.j8 kj25 a0 (decide (a0 ≤ 12271))) else (chars_NameStart.j8 kj25 a0 false)) = some r := by rw [if_neg (show ¬ (false = true) by decide)] at H; exact H
                                                        clear H
                                                        have H := H1
                                                        clear H1
                                                        have HC29 := Aside0.mk H
                                                        clear H
                                                        go_upto_region 12 with (fail)
                                                        go_cut [3] (fun v3 wc => ∃ (kq : Nat) (x3_28 : Bool), v3 = .bool x3_28 ∧ Aside0 (chars_NameStart.j8 kq a0 x3_28 = some r) ∧ Aside0 (kq ≤ kj25) ∧ Drawn0 w wc)
                                                        case first =>
                                                          have H := HC29.out
                                                          clear HC29
                                                          by_cases c30 : a0 ≥ 11264
                                                          · rw [if_pos c30] at H
                                                            have c30b0 : decide (11264 ≤ a0) = true := decide_eq_true c30
                                                            clear c30
                                                            (first | rw [c30b0] | (simp only [i64_w, i32_w]; rw [c30b0]) | skip)
                                                            have H' := Aside0.mk H
                                                            clear H
                                                            go_wp2
                                                            go_meet
                                                            case rel => exact ⟨_, (decide (a0 ≤ 12271)), (by first | rfl | (simp; done) | (simp [*]; done)), H', ⟨by have := HJ1.out; have := HJ5.out; have := HJ8.out; have := HJ11.out; have := HJ14.out; have := HJ17.out; have := HJ20.out; have := HJ25.out; first | omega | exact Nat.le_refl _⟩, by repeat (first | exact Drawn0.refl _ | apply Drawn0.step)⟩
                                                          · rw [if_neg c30] at H
                                                            have c30b0 : decide (11264 ≤ a0) = false := decide_eq_false c30
                                                            clear c30
                                                            (first | rw [c30b0] | (simp only [i64_w, i32_w]; rw [c30b0]) | skip)
                                                            have H' := Aside0.mk H
                                                            clear H
                                                            go_wp2
                                                            go_meet
                                                            case rel => exact ⟨_, (false), (by first | rfl | (simp; done) | (simp [*]; done)), H', ⟨by have := HJ1.out; have := HJ5.out; have := HJ8.out; have := HJ11.out; have := HJ14.out; have := HJ17.out; have := HJ20.out; have := HJ25.out; first | omega | exact Nat.le_refl _⟩, by repeat (first | exact Drawn0.refl _ | apply Drawn0.step)⟩
                                                        case rest =>
                                                          clear HC29
                                                          try clear c1
                                                          try clear c2
                                                          try clear p2
                                                          try clear c3
                                                          try clear c3b0
                                                          try clear c4
                                                          try clear c5
                                                          try clear c5b0
                                                          try clear c5b1
                                                          try clear c7
                                                          try clear c7b0
                                                          try clear c8
                                                          try clear c10
                                                          try clear c10b0
                                                          try clear c11
                                                          try clear c13
                                                          try clear c13b0
                                                          try clear c14
                                                          try clear c16
                                                          try clear c16b0
                                                          try clear c17
                                                          try clear c19
                                                          try clear c19b0
                                                          try clear c20
                                                          try clear c22
                                                          try clear c22b0
                                                          try clear c23
                                                          try clear c24
                                                          try clear c24b0
                                                          try clear c24b1
                                                          try clear c25
                                                          try clear c25b0
                                                          try clear c25b1
                                                          try clear c27
                                                          try clear c27b0
                                                          try clear c28
                                                          try clear c30
                                                          try clear c30b0
                                                          try clear p2
                                                          obtain ⟨kq, x3_28, rfl, HA, HJ28, ⟨mc28, rfl⟩⟩ := hcut
                                                          cases kq with
                                                          | zero => exact absurd HA.out (by simp [chars_NameStart.j8])
                                                          | succ kj28 =>
                                                            have H := HA.out
                                                            clear HA
                                                            simp only [chars_NameStart.j8] at H
                                                            by_cases c31 : x3_28 = true
                                                            · subst c31
                                                              have H1 : (some true) = some r := by rw [if_pos rfl] at H; exact H
                                                              clear H
                                                              have H := H1
                                                              clear H1
                                                              obtain rfl := Option.some.inj H
                                                              go_wp2
                                                              go_ret
                                                              exact ⟨by first | rfl | (simp; done) | (simp [*]; done), by repeat (first | exact Drawn0.refl _ | apply Drawn0.step)⟩
                                                            · replace c31 := Bool.eq_false_iff.mpr c31
                                                              subst c31
                                                              have H1 : (if a0 ≥ 12289 then (chars_NameStart.j9 kj28 a0 (decide (a0 ≤ 55295))) else (chars_NameStart.j9 kj28 a0 false)) = some r := by rw [if_neg (show ¬ (false = true) by decide)] at H; exact H
                                                              clear H
                                                              have H := H1
                                                              clear H1
                                                              have HC32 := Aside0.mk H
                                                              clear H
                                                              go_upto_region 13 with (fail)
                                                              go_cut [3] (fun v3 wc => ∃ (kq : Nat) (x3_31 : Bool), v3 = .bool x3_31 ∧ Aside0 (chars_NameStart.j9 kq a0 x3_31 = some r) ∧ Aside0 (kq ≤ kj28) ∧ Drawn0 w wc)
                                                              case first =>
                                                                have H := HC32.out
                                                                clear HC32
                                                                by_cases c33 : a0 ≥ 12289
                                                                · rw [if_pos c33] at H
                                                                  have c33b0 : decide (12289 ≤ a0) = true := decide_eq_true c33
                                                                  clear c33
                                                                  (first | rw [c33b0] | (simp only [i64_w, i32_w]; rw [c33b0]) | skip)
                                                                  have H' := Aside0.mk H
                                                                  clear H
                                                                  go_wp2
                                                                  go_meet
                                                                  case rel => exact ⟨_, (decide (a0 ≤ 55295)), (by first | rfl | (simp; done) | (simp [*]; done)), H', ⟨by have := HJ1.out; have := HJ5.out; have := HJ8.out; have := HJ11.out; have := HJ14.out; have := HJ17.out; have := HJ20.out; have := HJ25.out; have := HJ28.out; first | omega | exact Nat.le_refl _⟩, by repeat (first | exact Drawn0.refl _ | apply Drawn0.step)⟩
                                                                · rw [if_neg c33] at H
                                                                  have c33b0 : decide (12289 ≤ a0) = false := decide_eq_false c33
                                                                  clear c33
                                                                  (first | rw [c33b0] | (simp only [i64_w, i32_w]; rw [c33b0]) | skip)
                                                                  have H' := Aside0.mk H
                                                                  clear H
                                                                  go_wp2
                                                                  go_meet
                                                                  case rel => exact ⟨_, (false), (by first | rfl | (simp; done) | (simp [*]; done)), H', ⟨by have := HJ1.out; have := HJ5.out; have := HJ8.out; have := HJ11.out; have := HJ14.out; have := HJ17.out; have := HJ20.out; have := HJ25.out; have := HJ28.out; first | omega | exact Nat.le_refl _⟩, by repeat (first | exact Drawn0.refl _ | apply Drawn0.step)⟩
                                                              case rest =>
                                                                clear HC32
                                                                try clear c1
                                                                try clear c2
                                                                try clear p2
                                                                try clear c3
                                                                try clear c3b0
                                                                try clear c4
                                                                try clear c5
                                                                try clear c5b0
                                                                try clear c5b1
                                                                try clear c7
                                                                try clear c7b0
                                                                try clear c8
                                                                try clear c10
                                                                try clear c10b0
                                                                try clear c11
                                                                try clear c13
                                                                try clear c13b0
                                                                try clear c14
                                                                try clear c16
                                                                try clear c16b0
                                                                try clear c17
                                                                try clear c19
                                                                try clear c19b0
                                                                try clear c20
                                                                try clear c22
                                                                try clear c22b0
                                                                try clear c23
                                                                try clear c24
                                                                try clear c24b0
                                                                try clear c24b1
                                                                try clear c25
                                                                try clear c25b0
                                                                try clear c25b1
                                                                try clear c27
                                                                try clear c27b0
                                                                try clear c28
                                                                try clear c30
                                                                try clear c30b0
                                                                try clear c31
                                                                try clear c33
                                                                try clear c33b0
                                                                try clear p2
                                                                obtain ⟨kq, x3_31, rfl, HA, HJ31, ⟨mc31, rfl⟩⟩ := hcut
                                                                cases kq with
                                                                | zero => exact absurd HA.out (by simp [chars_NameStart.j9])
                                                                | succ kj31 =>
                                                                  have H := HA.out
                                                                  clear HA
                                                                  simp only [chars_NameStart.j9] at H
                                                                  by_cases c34 : x3_31 = true
                                                                  · subst c34
                                                                    have H1 : (some true) = some r := by rw [if_pos rfl] at H; exact H
                                                                    clear H
                                                                    have H := H1
                                                                    clear H1
                                                                    obtain rfl := Option.some.inj H
                                                                    go_wp2
                                                                    go_ret
                                                                    exact ⟨by first | rfl | (simp; done) | (simp [*]; done), by repeat (first | exact Drawn0.refl _ | apply Drawn0.step)⟩
                                                                  · replace c34 := Bool.eq_false_iff.mpr c34
                                                                    subst c34
                                                                    have H1 : (if a0 ≥ 63744 then (chars_NameStart.j10 kj31 a0 (decide (a0 ≤ 64975))) else (chars_NameStart.j10 kj31 a0 false)) = some r := by rw [if_neg (show ¬ (false = true) by decide)] at H; exact H
                                                                    clear H
                                                                    have H := H1
                                                                    clear H1
                                                                    have HC35 := Aside0.mk H
                                                                    clear H
                                                                    go_upto_region 14 with (fail)
                                                                    go_cut [3] (fun v3 wc => ∃ (kq : Nat) (x3_34 : Bool), v3 = .bool x3_34 ∧ Aside0 (chars_NameStart.j10 kq a0 x3_34 = some r) ∧ Aside0 (kq ≤ kj31) ∧ Drawn0 w wc)
                                                                    case first =>
                                                                      have H := HC35.out
                                                                      clear HC35
                                                                      by_cases c36 : a0 ≥ 63744
                                                                      · rw [if_pos c36] at H
                                                                        have c36b0 : decide (63744 ≤ a0) = true := decide_eq_true c36
                                                                        clear c36
                                                                        (first | rw [c36b0] | (simp only [i64_w, i32_w]; rw [c36b0]) | skip)
                                                                        have H' := Aside0.mk H
                                                                        clear H
                                                                        go_wp2
                                                                        go_meet
                                                                        case rel => exact ⟨_, (decide (a0 ≤ 64975)), (by first | rfl | (simp; done) | (simp [*]; done)), H', ⟨by have := HJ1.out; have := HJ5.out; have := HJ8.out; have := HJ11.out; have := HJ14.out; have := HJ17.out; have := HJ20.out; have := HJ25.out; have := HJ28.out; have := HJ31.out; first | omega | exact Nat.le_refl _⟩, by repeat (first | exact Drawn0.refl _ | apply Drawn0.step)⟩
                                                                      · rw [if_neg c36] at H
                                                                        have c36b0 : decide (63744 ≤ a0) = false := decide_eq_false c36
                                                                        clear c36
                                                                        (first | rw [c36b0] | (simp only [i64_w, i32_w]; rw [c36b0]) | skip)
                                                                        have H' := Aside0.mk H
                                                                        clear H
                                                                        go_wp2
                                                                        go_meet
                                                                        case rel => exact ⟨_, (false), (by first | rfl | (simp; done) | (simp [*]; done)), H', ⟨by have := HJ1.out; have := HJ5.out; have := HJ8.out; have := HJ11.out; have := HJ14.out; have := HJ17.out; have := HJ20.out; have := HJ25.out; have := HJ28.out; have := HJ31.out; first | omega | exact Nat.le_refl _⟩, by repeat (first | exact Drawn0.refl _ | apply Drawn0.step)⟩
                                                                    case rest =>
                                                                      clear HC35
                                                                      try clear c1
                                                                      try clear c2
                                                                      try clear p2
                                                                      try clear c3
                                                                      try clear c3b0
                                                                      try clear c4
                                                                      try clear c5
                                                                      try clear c5b0
                                                                      try clear c5b1
                                                                      try clear c7
                                                                      try clear c7b0
                                                                      try clear c8
                                                                      try clear c10
                                                                      try clear c10b0
                                                                      try clear c11
                                                                      try clear c13
                                                                      try clear c13b0
                                                                      try clear c14
                                                                      try clear c16
                                                                      try clear c16b0
                                                                      try clear c17
                                                                      try clear c19
                                                                      try clear c19b0
                                                                      try clear c20
                                                                      try clear c22
                                                                      try clear c22b0
                                                                      try clear c23
                                                                      try clear c24
                                                                      try clear c24b0
                                                                      try clear c24b1
                                                                      try clear c25
                                                                      try clear c25b0
                                                                      try clear c25b1
                                                                      try clear c27
                                                                      try clear c27b0
                                                                      try clear c28
                                                                      try clear c30
                                                                      try clear c30b0
                                                                      try clear c31
                                                                      try clear c33
                                                                      try clear c33b0
                                                                      try clear c34
                                                                      try clear c36
                                                                      try clear c36b0
                                                                      try clear p2
                                                                      obtain ⟨kq, x3_34, rfl, HA, HJ34, ⟨mc34, rfl⟩⟩ := hcut
                                                                      cases kq with
                                                                      | zero => exact absurd HA.out (by simp [chars_NameStart.j10])
                                                                      | succ kj34 =>
                                                                        have H := HA.out
                                                                        clear HA
                                                                        simp only [chars_NameStart.j10] at H
                                                                        by_cases c37 : x3_34 = true
                                                                        · subst c37
                                                                          have H1 : (some true) = some r := by rw [if_pos rfl] at H; exact H
                                                                          clear H
                                                                          have H := H1
                                                                          clear H1
                                                                          obtain rfl := Option.some.inj H
                                                                          go_wp2
                                                                          go_ret
                                                                          exact ⟨by first | rfl | (simp; done) | (simp [*]; done), by repeat (first | exact Drawn0.refl _ | apply Drawn0.step)⟩
                                                                        · replace c37 := Bool.eq_false_iff.mpr c37
                                                                          subst c37
                                                                          have H1 : (if a0 ≥ 65008 then (chars_NameStart.j11 kj34 a0 (decide (a0 ≤ 65533))) else (chars_NameStart.j11 kj34 a0 false)) = some r := by rw [if_neg (show ¬ (false = true) by decide)] at H; exact H
                                                                          clear H
                                                                          have H := H1
                                                                          clear H1
                                                                          have HC38 := Aside0.mk H
                                                                          clear H
                                                                          go_upto_region 15 with (fail)
                                                                          go_cut [3] (fun v3 wc => ∃ (kq : Nat) (x3_37 : Bool), v3 = .bool x3_37 ∧ Aside0 (chars_NameStart.j11 kq a0 x3_37 = some r) ∧ Aside0 (kq ≤ kj34) ∧ Drawn0 w wc)
                                                                          case first =>
                                                                            have H := HC38.out
                                                                            clear HC38
                                                                            by_cases c39 : a0 ≥ 65008
                                                                            · rw [if_pos c39] at H
                                                                              have c39b0 : decide (65008 ≤ a0) = true := decide_eq_true c39
                                                                              clear c39
                                                                              (first | rw [c39b0] | (simp only [i64_w, i32_w]; rw [c39b0]) | skip)
                                                                              have H' := Aside0.mk H
                                                                              clear H
                                                                              go_wp2
                                                                              go_meet
                                                                              case rel => exact ⟨_, (decide (a0 ≤ 65533)), (by first | rfl | (simp; done) | (simp [*]; done)), H', ⟨by have := HJ1.out; have := HJ5.out; have := HJ8.out; have := HJ11.out; have := HJ14.out; have := HJ17.out; have := HJ20.out; have := HJ25.out; have := HJ28.out; have := HJ31.out; have := HJ34.out; first | omega | exact Nat.le_refl _⟩, by repeat (first | exact Drawn0.refl _ | apply Drawn0.step)⟩
                                                                            · rw [if_neg c39] at H
                                                                              have c39b0 : decide (65008 ≤ a0) = false := decide_eq_false c39
                                                                              clear c39
                                                                              (first | rw [c39b0] | (simp only [i64_w, i32_w]; rw [c39b0]) | skip)
                                                                              have H' := Aside0.mk H
                                                                              clear H
                                                                              go_wp2
                                                                              go_meet
                                                                              case rel => exact ⟨_, (false), (by first | rfl | (simp; done) | (simp [*]; done)), H', ⟨by have := HJ1.out; have := HJ5.out; have := HJ8.out; have := HJ11.out; have := HJ14.out; have := HJ17.out; have := HJ20.out; have := HJ25.out; have := HJ28.out; have := HJ31.out; have := HJ34.out; first | omega | exact Nat.le_refl _⟩, by repeat (first | exact Drawn0.refl _ | apply Drawn0.step)⟩
                                                                          case rest =>
                                                                            clear HC38
                                                                            try clear c1
                                                                            try clear c2
                                                                            try clear p2
                                                                            try clear c3
                                                                            try clear c3b0
                                                                            try clear c4
                                                                            try clear c5
                                                                            try clear c5b0
                                                                            try clear c5b1
                                                                            try clear c7
                                                                            try clear c7b0
                                                                            try clear c8
                                                                            try clear c10
                                                                            try clear c10b0
                                                                            try clear c11
                                                                            try clear c13
                                                                            try clear c13b0
                                                                            try clear c14
                                                                            try clear c16
                                                                            try clear c16b0
                                                                            try clear c17
                                                                            try clear c19
                                                                            try clear c19b0
                                                                            try clear c20
                                                                            try clear c22
                                                                            try clear c22b0
                                                                            try clear c23
                                                                            try clear c24
                                                                            try clear c24b0
                                                                            try clear c24b1
                                                                            try clear c25
                                                                            try clear c25b0
                                                                            try clear c25b1
                                                                            try clear c27
                                                                            try clear c27b0
                                                                            try clear c28
                                                                            try clear c30
                                                                            try clear c30b0
                                                                            try clear c31
                                                                            try clear c33
                                                                            try clear c33b0
                                                                            try clear c34
                                                                            try clear c36
                                                                            try clear c36b0
                                                                            try clear c37
                                                                            try clear c39
                                                                            try clear c39b0
                                                                            try clear p2
                                                                            obtain ⟨kq, x3_37, rfl, HA, HJ37, ⟨mc37, rfl⟩⟩ := hcut
                                                                            cases kq with
                                                                            | zero => exact absurd HA.out (by simp [chars_NameStart.j11])
                                                                            | succ kj37 =>
                                                                              have H := HA.out
                                                                              clear HA
                                                                              simp only [chars_NameStart.j11] at H
                                                                              by_cases c40 : x3_37 = true
                                                                              · subst c40
                                                                                have H1 : (some true) = some r := by rw [if_pos rfl] at H; exact H
                                                                                clear H
                                                                                have H := H1
                                                                                clear H1
                                                                                obtain rfl := Option.some.inj H
                                                                                go_wp2
                                                                                go_ret
                                                                                exact ⟨by first | rfl | (simp; done) | (simp [*]; done), by repeat (first | exact Drawn0.refl _ | apply Drawn0.step)⟩
                                                                              · replace c40 := Bool.eq_false_iff.mpr c40
                                                                                subst c40
                                                                                have H1 : (if a0 ≥ 65536 then (if a0 ≤ 983039 then (some true) else (some false)) else (some false)) = some r := by rw [if_neg (show ¬ (false = true) by decide)] at H; exact H
                                                                                clear H
                                                                                have H := H1
                                                                                clear H1
                                                                                by_cases c41 : a0 ≥ 65536
                                                                                · rw [if_pos c41] at H
                                                                                  have c41b0 : decide (65536 ≤ a0) = true := decide_eq_true c41
                                                                                  clear c41
                                                                                  by_cases c42 : a0 ≤ 983039
                                                                                  · rw [if_pos c42] at H
                                                                                    have c42b0 : decide (a0 ≤ 983039) = true := decide_eq_true c42
                                                                                    clear c42
                                                                                    obtain rfl := Option.some.inj H
                                                                                    go_wp2
                                                                                    go_ret
                                                                                    exact ⟨by first | rfl | (simp; done) | (simp [*]; done), by repeat (first | exact Drawn0.refl _ | apply Drawn0.step)⟩
                                                                                  · rw [if_neg c42] at H
                                                                                    have c42b0 : decide (a0 ≤ 983039) = false := decide_eq_false c42
                                                                                    clear c42
                                                                                    obtain rfl := Option.some.inj H
                                                                                    go_wp2
                                                                                    go_ret
                                                                                    exact ⟨by first | rfl | (simp; done) | (simp [*]; done), by repeat (first | exact Drawn0.refl _ | apply Drawn0.step)⟩
                                                                                · rw [if_neg c41] at H
                                                                                  have c41b0 : decide (65536 ≤ a0) = false := decide_eq_false c41
                                                                                  clear c41
                                                                                  obtain rfl := Option.some.inj H
                                                                                  go_wp2
                                                                                  go_ret
                                                                                  exact ⟨by first | rfl | (simp; done) | (simp [*]; done), by repeat (first | exact Drawn0.refl _ | apply Drawn0.step)⟩

end Go.Proofs.YtjepodcgbfejgaaGreatDoor.PH
