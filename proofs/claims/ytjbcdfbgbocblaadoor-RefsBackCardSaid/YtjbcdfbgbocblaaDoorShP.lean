import Derived.Test.YtjbcdfbgbocblaaDoorChV
/- A sheet's name, in plain Lean: its bytes and its characters say the same. -/
namespace Go.Proofs.YtjbcdfbgbocblaaDoor.CP
open Go.RowKit
set_option linter.unusedVariables false
def qs : List UInt8 := [91, 93, 42, 63, 58, 47, 92, 39]
/-- All characters from a place on are so. -/
def allR (P : Int → Bool) (s : ByteArray) : Nat → Nat → Bool
  | 0, _ => true
  | f + 1, p => if p < s.size then P ((Utf8.decode s p).1 : Int) && allR P s f (p + (Utf8.decode s p).2) else true
theorem allR_end (P : Int → Bool) (s : ByteArray) (f p : Nat) (h : ¬ p < s.size) : allR P s f p = true := by cases f <;> simp [allR, h]
theorem allR_step (P : Int → Bool) (s : ByteArray) (f p : Nat) (h : p < s.size) (hf : s.size ≤ p + f) : ∃ g, f = g + 1 ∧ allR P s f p = (P ((Utf8.decode s p).1 : Int) && allR P s g (p + (Utf8.decode s p).2)) ∧ s.size ≤ p + (Utf8.decode s p).2 + g := by
  have := Lib.decode_width_pos s p h
  obtain ⟨g, rfl⟩ : ∃ g, f = g + 1 := ⟨f - 1, by omega⟩
  exact ⟨g, rfl, by rw [allR, if_pos h], by omega⟩
theorem get_byte (s : ByteArray) (p : Nat) (h : p < s.size) : s.get! p = s[p] := by
  have := get_at s p h
  simpa using this
set_option maxHeartbeats 1000000 in
/-- A character of more than one byte has none of ASCII's; one of one byte, if it is one of XML, is that byte. -/
theorem decodeN_bytes (n b0 b1 b2 b3 : Nat) (j : Nat) (hj : j < (Lib.decodeN n b0 b1 b2 b3).2) : (1 < (Lib.decodeN n b0 b1 b2 b3).2 → 128 ≤ (if j = 0 then b0 else if j = 1 then b1 else if j = 2 then b2 else b3)) ∧
    ((Lib.decodeN n b0 b1 b2 b3).2 = 1 → ((Lib.decodeN n b0 b1 b2 b3).1 = b0 ∧ b0 < 128) ∨ (Lib.decodeN n b0 b1 b2 b3).1 = 65533) := by
  unfold Lib.decodeN at hj ⊢
  by_cases a1 : b0 < 128
  · simp only [a1, if_true] at hj ⊢
    exact ⟨fun h => by omega, fun _ => .inl ⟨trivial, trivial⟩⟩
  · simp only [a1, if_false] at hj ⊢
    repeat' split at hj
    all_goals (constructor <;> intro hh)
    all_goals first
      | (simp only [] at hh; omega)
      | (right; simp_all; done)
      | (simp_all; done)
      | (simp_all; (repeat' split) <;> omega)
theorem high_bytes (s : ByteArray) (p : Nat) (h : p < s.size) (hw : 1 < (Utf8.decode s p).2) (j : Nat) (hj : j < (Utf8.decode s p).2) (hp : p + j < s.size) : 128 ≤ (s[p + j]).toNat := by
  rw [Lib.decode_at] at hw hj
  have h1 := (decodeN_bytes _ _ _ _ _ j hj).1 hw
  have h4 : (Lib.decodeN (s.size - p) (s.get! p).toNat (s.get! (p + 1)).toNat (s.get! (p + 2)).toNat (s.get! (p + 3)).toNat).2 ≤ 4 := by
    unfold Lib.decodeN
    repeat' split
    all_goals (simp only []; omega)
  have hj4 : j = 0 ∨ j = 1 ∨ j = 2 ∨ j = 3 := by omega
  rcases hj4 with rfl | rfl | rfl | rfl
  · rw [if_pos rfl, get_byte s p h] at h1; exact h1
  · rw [if_neg (by decide), if_pos rfl, get_byte s (p + 1) hp] at h1; exact h1
  · rw [if_neg (by decide), if_neg (by decide), if_pos rfl, get_byte s (p + 2) hp] at h1; exact h1
  · rw [if_neg (by decide), if_neg (by decide), if_neg (by decide), get_byte s (p + 3) hp] at h1; exact h1
theorem one_byte (s : ByteArray) (p : Nat) (h : p < s.size) (hw : (Utf8.decode s p).2 = 1) (hb : badB s p = false) : (Utf8.decode s p).1 = (s[p]).toNat ∧ (s[p]).toNat < 128 := by
  have hd := Lib.decode_at s p
  rw [hd] at hw
  rcases (decodeN_bytes _ _ _ _ _ 0 (by omega)).2 hw with ⟨h1, h2⟩ | h1
  · rw [← hd, get_byte s p h] at h1
    rw [get_byte s p h] at h2
    exact ⟨h1, h2⟩
  · rw [← hd] at h1 hw
    unfold badB at hb
    rw [decide_eq_true ⟨by rw [h1]; rfl, by rw [hw]; rfl⟩, Bool.true_or] at hb
    cases hb
theorem drop_byte (s : ByteArray) (k : Nat) (h : k < s.size) : s.data.toList.drop k = s[k] :: s.data.toList.drop (k + 1) := by
  have hz := Lib.size_eq s
  rw [List.drop_eq_getElem_cons (by omega)]
  rfl
theorem all_high (s : ByteArray) (Q : UInt8 → Bool) (hQ : ∀ b : UInt8, 128 ≤ b.toNat → Q b = true) : ∀ (w p : Nat), p + w ≤ s.size → (∀ j, (hj : j < w) → 128 ≤ (s[p + j]!).toNat) → (s.data.toList.drop p).all Q = (s.data.toList.drop (p + w)).all Q
  | 0, p, _, _ => rfl
  | w + 1, p, hp, hh => by
    have h0 := hh 0 (by omega)
    rw [Nat.add_zero, getElem!_pos s p (by omega)] at h0
    rw [drop_byte s p (by omega), List.all_cons, hQ _ h0, Bool.true_and, all_high s Q hQ w (p + 1) (by omega) (fun j hj => by have := hh (j + 1) (by omega); rw [show p + 1 + j = p + (j + 1) from by omega]; exact this)]
    rw [show p + 1 + w = p + (w + 1) from by omega]
/-- OF A VALID TEXT: what is said of its characters is said of its bytes, if all beyond ASCII is let by. -/
theorem allR_bytes (P : Int → Bool) (hP : ∀ r : Int, 128 ≤ r → P r = true) (s : ByteArray) : ∀ (f p : Nat), p ≤ s.size → s.size ≤ p + f → vldF s f p = none →
    allR P s f p = (s.data.toList.drop p).all (fun b => decide (128 ≤ b.toNat) || P (b.toNat : Int))
  | 0, p, hp, hf, hv => by
    have hz := Lib.size_eq s
    rw [List.drop_eq_nil_of_le (by omega)]; rfl
  | f + 1, p, hp, hf, hv => by
    by_cases h : p < s.size
    · rw [vldF, if_pos h] at hv
      rw [allR, if_pos h]
      cases hb : badB s p with
      | true => rw [hb, if_pos rfl] at hv; cases hv
      | false =>
        rw [hb, if_neg (by decide)] at hv
        have h1 := Lib.decode_width_pos s p h
        have h2 := decode_in s p h
        rw [allR_bytes P hP s f _ h2 (by omega) hv]
        by_cases hw : (Utf8.decode s p).2 = 1
        · obtain ⟨e1, e2⟩ := one_byte s p h hw hb
          rw [hw, e1, drop_byte s p h, List.all_cons, decide_eq_false (by omega), Bool.false_or]
        · have hr : 128 ≤ (Utf8.decode s p).1 := by
            have h0 := high_bytes s p h (by omega) 0 (by omega) (by omega)
            exact (decode_high s p h (by simpa using h0)).1
          rw [hP _ (by omega), Bool.true_and]
          symm
          refine all_high s _ (fun b hb => by rw [decide_eq_true hb, Bool.true_or]) _ p h2 (fun j hj => ?_)
          rw [getElem!_pos s (p + j) (by omega)]
          exact high_bytes s p h (by omega) j hj (by omega)
    · have hz := Lib.size_eq s
      rw [allR_end P s _ p h, List.drop_eq_nil_of_le (by omega)]; rfl
/-- A sheet's name. -/
def nmOK (s : ByteArray) : Bool := (vld s).isNone && (decide (0 < s.size) && (decide (s.size ≤ 64) && s.data.toList.all (fun b => !qs.contains b && decide (32 ≤ b.toNat))))
end Go.Proofs.YtjbcdfbgbocblaaDoor.CP
