import Derived.Test.YtjbckpfhenogiaaNumber
import Derived.Test.YtjbckpfhenogiaaPHo
/- What the two Reverses answer. -/
namespace Go.Proofs.Ytjbckpfhenogiaa.Hw
open Go.RowKit Go.Proofs.YtjbckpfhenogiaaW.PrintWords Go.Proofs.YtjbckpfhenogiaaW.PrintLast Go.Proofs.YtjbckpfhenogiaaW.PrintMore Go.Proofs.Ytjbckpfhenogiaa.PH
set_option linter.unusedVariables false
set_option linter.unusedSimpArgs false
theorem u32_self (n : Int) (h0 : 0 ≤ n) (h1 : n < 4294967296) : IntKind.u32.wrap n = n := by simp [IntKind.wrap, IntKind.bits, IntKind.signed]; omega
theorem u32_self' (n : Int) (h0 : 0 ≤ n) (h1 : n < 2 ^ 32) : IntKind.u32.wrap n = n := u32_self n h0 (by simpa using h1)
theorem and_u32 (a b : Nat) (ha : a < 4294967296) (hb : b < 4294967296) : bits .and .u32 a b = ((a &&& b : Nat) : Int) := (bits_nat .u32 32 (by decide) u32_self' a b (by simpa using ha) (by simpa using hb)).1
theorem or_u32 (a b : Nat) (ha : a < 4294967296) (hb : b < 4294967296) : bits .or .u32 a b = ((a ||| b : Nat) : Int) := (bits_nat .u32 32 (by decide) u32_self' a b (by simpa using ha) (by simpa using hb)).2
theorem st_int (m s x : Nat) (hm : m < 4294967296) (hs : s ≤ 32) (hx : x < 4294967296) (d : Int) (hd : d = ((2 ^ s : Nat) : Int)) :
    bits .or .u32 (bits .and .u32 ((x : Int) / d) (m : Int)) (((bits .and .u32 (x : Int) (m : Int)) * d) % 4294967296) = ((BP.st m s x : Nat) : Int) := by
  subst hd
  have h1 : ((x : Int) / ((2 ^ s : Nat) : Int)) = ((x / 2 ^ s : Nat) : Int) := by rw [Int.natCast_ediv]
  have hxs : x / 2 ^ s ≤ x := Nat.div_le_self _ _
  rw [h1, and_u32 _ _ (by omega) hm, and_u32 _ _ hx hm]
  have hl1 : x / 2 ^ s &&& m ≤ m := Nat.and_le_right
  have hl2 : x &&& m ≤ m := Nat.and_le_right
  have h2 : (((x &&& m : Nat) : Int) * ((2 ^ s : Nat) : Int)) % 4294967296 = (((x &&& m) * 2 ^ s % 4294967296 : Nat) : Int) := by rw [← Int.natCast_mul]; rfl
  have hl3 : (x &&& m) * 2 ^ s % 4294967296 < 4294967296 := Nat.mod_lt _ (by decide)
  rw [h2, or_u32 _ _ (by omega) hl3]
  rfl
theorem st_lt' (m s x : Nat) (hm : m < 4294967296) : BP.st m s x < 4294967296 := BP.st_lt m s x hm
theorem reverseBytes_is (x : Nat) (hx : x < 4294967296) : bits_ReverseBytes32.f (x : Int) = some ((BP.half (BP.st 16711935 8 x) : Nat) : Int) := by
  unfold bits_ReverseBytes32.f
  have h1 := st_int 16711935 8 x (by decide) (by decide) hx 256 (by decide)
  rw [show ((16711935 : Nat) : Int) = 16711935 from rfl] at h1
  rw [h1]
  have hl := st_lt' 16711935 8 x (by decide)
  generalize BP.st 16711935 8 x = y at *
  have e1 : (y : Int) / 65536 = ((y / 65536 : Nat) : Int) := by omega
  have e2 : (y : Int) * 65536 % 4294967296 = ((y * 65536 % 4294967296 : Nat) : Int) := by omega
  have h3 : y * 65536 % 4294967296 < 4294967296 := Nat.mod_lt _ (by decide)
  rw [e1, e2, or_u32 _ _ (by omega) h3]
  rfl
theorem reverse32_is (x : Nat) (hx : x < 4294967296) : bits_Reverse32.f (x : Int) = some ((BP.rev32 x : Nat) : Int) := by
  unfold bits_Reverse32.f
  have h1 := st_int 1431655765 1 x (by decide) (by decide) hx 2 (by decide)
  rw [show ((1431655765 : Nat) : Int) = 1431655765 from rfl] at h1
  rw [h1]
  have hl := st_lt' 1431655765 1 x (by decide)
  have h2 := st_int 858993459 2 _ (by decide) (by decide) hl 4 (by decide)
  rw [show ((858993459 : Nat) : Int) = 858993459 from rfl] at h2
  rw [h2]
  have hl2 := st_lt' 858993459 2 (BP.st 1431655765 1 x) (by decide)
  have h3 := st_int 252645135 4 _ (by decide) (by decide) hl2 16 (by decide)
  rw [show ((252645135 : Nat) : Int) = 252645135 from rfl] at h3
  rw [h3]
  have hl3 := st_lt' 252645135 4 (BP.st 858993459 2 (BP.st 1431655765 1 x)) (by decide)
  rw [reverseBytes_is _ hl3]
  rfl
theorem reverse_is (x : Nat) (hx : x < 4294967296) (n : Int) : bitio_Reverse.f (x : Int) n = some (if 0 ≤ n ∧ n ≤ 32 then ((BP.rev x n.toNat : Nat) : Int) else 0) := by
  unfold bitio_Reverse.f
  by_cases h0 : n < 0
  · rw [if_pos h0, if_neg (by omega)]
  · rw [if_neg h0]
    by_cases h1 : n > 32
    · rw [if_pos h1, if_neg (by omega)]
    · obtain ⟨k, rfl⟩ := Int.eq_ofNat_of_zero_le (show 0 ≤ n by omega)
      rw [if_neg h1, if_pos (by omega), reverse32_is x hx]
      simp only [Option.bind_some]
      have e : wrap64 (32 - (k : Int)) = ((32 - k : Nat) : Int) := w64n (by omega) (by omega)
      have hr := BP.rev32_lt x
      have hr' : BP.rev32 x < 4294967296 := hr
      rw [e, if_pos (by omega), u64_self _ (by omega) (by omega), shr_nat _ _ (by omega), BP.rev_of x k (by omega), Int.toNat_natCast]
      have hlt : BP.rev x k < 4294967296 := by
        have h1 := BP.numb_lt (fun j => x.testBit (k - 1 - j)) k
        have h2 := pow_le_32 k (by omega)
        unfold BP.rev; omega
      refine congrArg some ?_
      omega
theorem numb_zero (f : Nat → Bool) (n : Nat) (h : ∀ i, i < n → f i = false) : BP.numb f n = 0 := by
  induction n with
  | zero => rfl
  | succ n ih => rw [BP.numb, ih (fun i hi => h i (by omega)), h n (by omega)]; rfl
theorem numb_update (f g : Nat → Bool) (p n : Nat) (hp : p < n) (hf : f p = false) (hg : ∀ i, i ≠ p → g i = f i) : BP.numb g n = BP.numb f n + (if g p then 2 ^ p else 0) := by
  induction n with
  | zero => omega
  | succ n ih =>
    rw [BP.numb, BP.numb]
    by_cases h : p = n
    · subst h
      have : BP.numb g p = BP.numb f p := BP.numb_congr (fun i hi => hg i (by omega))
      rw [this, hf]; simp
    · rw [ih (by omega), hg n (fun e => h e.symm), Nat.add_right_comm]
theorem bit_int (x k : Nat) (hk : k ≤ 32) : Int.tmod (shr .u32 (x : Int) (k : Int)) 2 = ((if x.testBit k then 1 else 0 : Nat) : Int) := by
  have e : shr .u32 (x : Int) (k : Int) = ((x / 2 ^ k : Nat) : Int) := by
    unfold shr
    rw [Int.toNat_natCast, Nat.min_eq_left (show k ≤ IntKind.u32.bits from hk), two_pow_cast]; rfl
  rw [e, Int.tmod_eq_emod_of_nonneg (Int.natCast_nonneg _), Nat.testBit_eq_decide_div_mod_eq]
  generalize x / 2 ^ k = y
  by_cases h : y % 2 = 1
  · simp [h]; omega
  · simp [h]; omega
theorem ref_rev_l0 (x n : Nat) (hn : n ≤ 32) : ∀ (d k r : Nat), k + d = n → d < r →
    gridironref01_Reverse.l0 r (x : Int) (n : Int) (BP.numb (fun i => decide (n ≤ i + k) && x.testBit (n - 1 - i)) n : Nat) (k : Int) = some ((BP.rev x n : Nat) : Int) := by
  intro d
  induction d with
  | zero =>
    intro k r hk hr
    obtain ⟨r, rfl⟩ : ∃ m, r = m + 1 := ⟨r - 1, by omega⟩
    obtain rfl : k = n := by omega
    rw [gridironref01_Reverse.l0, if_neg (by omega)]
    refine congrArg some ?_
    have : BP.numb (fun i => decide (k ≤ i + k) && x.testBit (k - 1 - i)) k = BP.rev x k := BP.numb_congr (fun i hi => by simp)
    rw [this]
  | succ d ih =>
    intro k r hk hr
    obtain ⟨r, rfl⟩ : ∃ m, r = m + 1 := ⟨r - 1, by omega⟩
    have w1 : wrap64 ((k : Int) + 1) = ((k + 1 : Nat) : Int) := w64n (by omega) (by omega)
    have w2 : wrap64 ((n : Int) - 1) = ((n - 1 : Nat) : Int) := w64n (by omega) (by omega)
    have w3 : wrap64 (((n - 1 : Nat) : Int) - (k : Int)) = ((n - 1 - k : Nat) : Int) := w64n (by omega) (by omega)
    rw [gridironref01_Reverse.l0, if_pos (by omega), if_pos (by omega), w1, w2, w3, if_pos (by omega), bit_int x k (by omega)]
    have hu := numb_update (fun i => decide (n ≤ i + k) && x.testBit (n - 1 - i)) (fun i => decide (n ≤ i + (k + 1)) && x.testBit (n - 1 - i)) (n - 1 - k) n (by omega) (by simp; omega) (fun i hi => by
      by_cases h : n ≤ i + k
      · simp [h]; omega
      · have : ¬ n ≤ i + (k + 1) := by omega
        simp [h, this])
    have e1 : n - 1 - (n - 1 - k) = k := by omega
    have e2 : decide (n ≤ n - 1 - k + (k + 1)) = true := by simp; omega
    simp only [e1, e2, Bool.true_and] at hu
    have hb := BP.numb_lt (fun i => decide (n ≤ i + (k + 1)) && x.testBit (n - 1 - i)) n
    have h32 := pow_le_32 n hn
    have h31 : 2 ^ (n - 1 - k) ≤ 2147483648 := Nat.le_trans (Nat.pow_le_pow_right (by omega) (show n - 1 - k ≤ 31 by omega)) (by decide)
    have hih := ih (k + 1) r (by omega) (by omega)
    generalize BP.numb (fun i => decide (n ≤ i + (k + 1)) && x.testBit (n - 1 - i)) n = q at *
    generalize BP.numb (fun i => decide (n ≤ i + k) && x.testBit (n - 1 - i)) n = q0 at *
    have e3 : shl .u32 ((if x.testBit k then 1 else 0 : Nat) : Int) ((n - 1 - k : Nat) : Int) = ((if x.testBit k then 2 ^ (n - 1 - k) else 0 : Nat) : Int) := by
      unfold shl
      rw [Int.toNat_natCast, Nat.min_eq_left (show n - 1 - k ≤ IntKind.u32.bits from (by show n - 1 - k ≤ 32; omega)), two_pow_cast, ← Int.natCast_mul]
      cases hb : x.testBit k
      · simp; rfl
      · rw [hb] at hu
        simp only [if_true] at hu
        simp only [if_true, Nat.one_mul]
        generalize 2 ^ (n - 1 - k) = p at *
        rw [u32_self _ (by omega) (by omega)]
    rw [e3, ← Int.natCast_add, ← hu]
    have e4 : ((q : Nat) : Int) % 4294967296 = (q : Int) := by omega
    rw [e4]
    exact hih
theorem ref_reverse_is (x : Nat) (n : Int) (r : Nat) (hr : 34 < r) : gridironref01_Reverse.f r (x : Int) n = some (if 0 ≤ n ∧ n ≤ 32 then ((BP.rev x n.toNat : Nat) : Int) else 0) := by
  obtain ⟨r, rfl⟩ : ∃ m, r = m + 1 := ⟨r - 1, by omega⟩
  unfold gridironref01_Reverse.f
  by_cases h0 : n < 0
  · rw [if_pos h0, gridironref01_Reverse.j0, if_pos rfl, if_neg (by omega)]
  · rw [if_neg h0]
    by_cases h1 : n > 32
    · rw [decide_eq_true h1, gridironref01_Reverse.j0, if_pos rfl, if_neg (by omega)]
    · rw [decide_eq_false h1, gridironref01_Reverse.j0, if_neg (by decide), if_pos (by omega)]
      obtain ⟨k, rfl⟩ := Int.eq_ofNat_of_zero_le (show 0 ≤ n by omega)
      have h := ref_rev_l0 x k (by omega) k 0 r (by omega) (by omega)
      have hz := numb_zero (fun i => decide (k ≤ i + 0) && x.testBit (k - 1 - i)) k (fun i hi => by simp; omega)
      rw [hz] at h
      rw [Int.toNat_natCast]
      exact h
end Go.Proofs.Ytjbckpfhenogiaa.Hw
