/- Plain facts on bits (no program). -/
set_option linter.unusedVariables false
set_option linter.unusedSimpArgs false
namespace Go.Proofs.Ytjbckpfhenogiaa
namespace BP
/-! Plain facts on bits. -/
/-- The number whose bits are those of f below n. -/
def numb (f : Nat → Bool) : Nat → Nat
  | 0 => 0
  | n + 1 => numb f n + (if f n then 2 ^ n else 0)
theorem numb_lt (f : Nat → Bool) (n : Nat) : numb f n < 2 ^ n := by
  induction n with
  | zero => simp [numb]
  | succ n ih => rw [numb, Nat.pow_succ]; split <;> omega
theorem testBit_numb (f : Nat → Bool) (n k : Nat) : (numb f n).testBit k = (decide (k < n) && f k) := by
  induction n with
  | zero => simp [numb]
  | succ n ih =>
    have hlt := numb_lt f n
    rw [numb]
    by_cases hf : f n = true
    · rw [if_pos hf, Nat.add_comm]
      rcases Nat.lt_trichotomy k n with h | h | h
      · rw [Nat.testBit_two_pow_add_gt h, ih]; simp [h]; omega
      · subst h; rw [Nat.testBit_two_pow_add_eq, ih]; simp [hf]
      · have : (2 ^ n + numb f n) < 2 ^ k := by
          have : 2 ^ (n + 1) ≤ 2 ^ k := Nat.pow_le_pow_right (by omega) (by omega)
          rw [Nat.pow_succ] at this; omega
        rw [Nat.testBit_lt_two_pow this]; simp; omega
    · rw [if_neg hf, Nat.add_zero, ih]
      rcases Nat.lt_trichotomy k n with h | h | h
      · simp [h]; omega
      · subst h; simp [Bool.eq_false_iff.mpr hf]
      · have : ¬ k < n := by omega
        have h2 : ¬ k < n + 1 := by omega
        simp [this, h2]
theorem numb_congr {f g : Nat → Bool} {n : Nat} (h : ∀ k, k < n → f k = g k) : numb f n = numb g n := by
  induction n with
  | zero => rfl
  | succ n ih => rw [numb, numb, ih (fun k hk => h k (by omega)), h n (by omega)]
theorem numb_of_bits {x n : Nat} (h : x < 2 ^ n) : numb x.testBit n = x := by
  apply Nat.eq_of_testBit_eq
  intro i
  rw [testBit_numb]
  by_cases hi : i < n
  · simp [hi]
  · rw [Nat.testBit_lt_two_pow (Nat.lt_of_lt_of_le h (Nat.pow_le_pow_right (by omega) (by omega)))]; simp [hi]
theorem numb_mod (x n : Nat) : numb x.testBit n = x % 2 ^ n := by
  apply Nat.eq_of_testBit_eq
  intro i
  rw [testBit_numb, Nat.testBit_mod_two_pow]
/-! Reverse32: stages -/
def st (m s x : Nat) : Nat := ((x / 2 ^ s) &&& m) ||| (((x &&& m) * 2 ^ s) % 2 ^ 32)
theorem st_bit (m s x i : Nat) (hi : i < 32) : (st m s x).testBit i = ((x.testBit (i + s) && m.testBit i) || (decide (s ≤ i) && (x.testBit (i - s) && m.testBit (i - s)))) := by
  unfold st
  rw [Nat.testBit_or, Nat.testBit_and, Nat.testBit_div_two_pow, Nat.testBit_mod_two_pow, Nat.testBit_mul_two_pow, Nat.testBit_and]
  simp [hi, Nat.add_comm]
theorem st_lt (m s x : Nat) (hm : m < 2 ^ 32) : st m s x < 2 ^ 32 := by
  unfold st
  exact Nat.or_lt_two_pow (Nat.and_lt_two_pow _ hm) (Nat.mod_lt _ (by decide))
def Swaps (m s : Nat) : Prop := ∀ i, i < 32 → (m.testBit i = true ∧ i ^^^ s = i + s ∧ (decide (s ≤ i) && m.testBit (i - s)) = false) ∨ (m.testBit i = false ∧ s ≤ i ∧ m.testBit (i - s) = true ∧ i ^^^ s = i - s)
theorem st_swaps {m s : Nat} (h : Swaps m s) (x i : Nat) (hi : i < 32) : (st m s x).testBit i = x.testBit (i ^^^ s) := by
  rw [st_bit m s x i hi]
  rcases h i hi with ⟨h1, h2, h3⟩ | ⟨h1, h2, h3, h4⟩
  · rw [h1, h2]
    have : (decide (s ≤ i) && (x.testBit (i - s) && m.testBit (i - s))) = false := by
      cases hd : decide (s ≤ i) <;> simp_all
    rw [this]; simp
  · rw [h1, h3, h4]; simp [h2]
theorem sw1 : Swaps 1431655765 1 := by unfold Swaps; decide
theorem sw2 : Swaps 858993459 2 := by unfold Swaps; decide
theorem sw4 : Swaps 252645135 4 := by unfold Swaps; decide
theorem sw8 : Swaps 16711935 8 := by unfold Swaps; decide
def half (x : Nat) : Nat := (x / 2 ^ 16) ||| ((x * 2 ^ 16) % 2 ^ 32)
theorem half_bit (x i : Nat) (hx : x < 2 ^ 32) (hi : i < 32) : (half x).testBit i = x.testBit (i ^^^ 16) := by
  unfold half
  rw [Nat.testBit_or, Nat.testBit_div_two_pow, Nat.testBit_mod_two_pow, Nat.testBit_mul_two_pow]
  have : (i < 16 ∧ i ^^^ 16 = i + 16) ∨ (16 ≤ i ∧ i ^^^ 16 = i - 16) := by
    have : ∀ i, i < 32 → (i < 16 ∧ i ^^^ 16 = i + 16) ∨ (16 ≤ i ∧ i ^^^ 16 = i - 16) := by decide
    exact this i hi
  rcases this with ⟨h1, h2⟩ | ⟨h1, h2⟩
  · rw [h2]; simp [Nat.not_le.mpr h1]
  · rw [h2]
    have : x.testBit (16 + i) = false := Nat.testBit_lt_two_pow (Nat.lt_of_lt_of_le hx (Nat.pow_le_pow_right (by omega) (by omega)))
    rw [Nat.add_comm i 16, this]; simp [hi, h1]
def rev32 (x : Nat) : Nat := half (st 16711935 8 (st 252645135 4 (st 858993459 2 (st 1431655765 1 x))))
theorem xor_lt {i s : Nat} (hi : i < 32) (hs : s < 32) : i ^^^ s < 32 := Nat.xor_lt_two_pow (n := 5) hi hs
theorem rev32_bit (x i : Nat) (hi : i < 32) : (rev32 x).testBit i = x.testBit (31 - i) := by
  unfold rev32
  rw [half_bit _ _ (st_lt _ _ _ (by decide)) hi]
  have h16 := xor_lt hi (show 16 < 32 by decide)
  rw [st_swaps sw8 _ _ h16]
  have h8 := xor_lt h16 (show 8 < 32 by decide)
  rw [st_swaps sw4 _ _ h8]
  have h4 := xor_lt h8 (show 4 < 32 by decide)
  rw [st_swaps sw2 _ _ h4]
  have h2 := xor_lt h4 (show 2 < 32 by decide)
  rw [st_swaps sw1 _ _ h2]
  have : ∀ i, i < 32 → i ^^^ 16 ^^^ 8 ^^^ 4 ^^^ 2 ^^^ 1 = 31 - i := by decide
  rw [this i hi]
theorem half_lt (x : Nat) (hx : x < 2 ^ 32) : half x < 2 ^ 32 := by
  unfold half
  exact Nat.or_lt_two_pow (Nat.lt_of_le_of_lt (Nat.div_le_self _ _) hx) (Nat.mod_lt _ (by decide))
theorem rev32_lt (x : Nat) : rev32 x < 2 ^ 32 := half_lt _ (st_lt _ _ _ (by decide))
/-- n bits turned about. -/
def rev (x n : Nat) : Nat := numb (fun k => x.testBit (n - 1 - k)) n
theorem rev_of (x n : Nat) (hn : n ≤ 32) : rev32 x / 2 ^ (32 - n) = rev x n := by
  apply Nat.eq_of_testBit_eq
  intro i
  rw [Nat.testBit_div_two_pow, rev, testBit_numb]
  by_cases hi : i < n
  · rw [rev32_bit _ _ (by omega)]
    have : 31 - (i + (32 - n)) = n - 1 - i := by omega
    rw [this]; simp [hi]
  · rw [Nat.testBit_lt_two_pow (Nat.lt_of_lt_of_le (rev32_lt x) (Nat.pow_le_pow_right (by omega) (by omega)))]; simp [hi]
theorem rev_rev (x n : Nat) : rev (rev x n) n = x % 2 ^ n := by
  rw [← numb_mod, rev]
  apply numb_congr
  intro k hk
  rw [rev, testBit_numb]
  have : n - 1 - (n - 1 - k) = k := by omega
  rw [this]; simp; omega
end BP

end Go.Proofs.Ytjbckpfhenogiaa
