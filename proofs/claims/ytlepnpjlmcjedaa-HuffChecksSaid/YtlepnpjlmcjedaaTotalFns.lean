import Derived.Test.YtlepnpjlmcjedaaHuffFns
import Derived.Test.YtlepnpjlmcjedaaPHx3
import Derived.Test.YtlepnpjlmcjedaaPHx4
/- What the two Totals answer. -/
namespace Go.Proofs.Ytlepnpjlmcjedaa.Hw
open Go.RowKit Go.Proofs.YtlepnpjlmcjedaaW.PrintWords Go.Proofs.YtlepnpjlmcjedaaW.PrintLast Go.Proofs.YtlepnpjlmcjedaaW.PrintMore Go.Proofs.Ytlepnpjlmcjedaa.PH
set_option linter.unusedVariables false
set_option linter.unusedSimpArgs false
def totRun : List Int → List Int → Int → Int × Int
  | c :: cs, m :: ms, s => if s + c * m > 9007199254740992 then (0, 3) else totRun cs ms (s + c * m)
  | _, _, s => (s, 0)
def inR (x : Int) : Prop := 0 ≤ x ∧ x ≤ 2147483648
instance (x : Int) : Decidable (inR x) := by unfold inR; infer_instance
def allR (l : List Int) : Prop := ∀ x ∈ l, inR x
instance (l : List Int) : Decidable (allR l) := by unfold allR; infer_instance
theorem allR_cons {x : Int} {l : List Int} : allR (x :: l) ↔ inR x ∧ allR l := by simp [allR]
theorem prod_bd {c m : Int} (hc : inR c) (hm : inR m) : 0 ≤ c * m ∧ c * m ≤ 4611686018427387904 := by
  refine ⟨Int.mul_nonneg hc.1 hm.1, ?_⟩
  have h1 : c * m ≤ 2147483648 * m := Int.mul_le_mul_of_nonneg_right hc.2 hm.1
  have := hm.2
  omega
theorem rd_allR {l : List Int} {i : Nat} (h : i < l.length) (hf : allR (l.drop i)) : inR (rd l (i : Int)) := by
  rw [drop_at h, allR_cons] at hf; exact hf.1
theorem tot_l1 (a b : List Int) (hl : a.length = b.length) (hmax : a.length ≤ 140737488351232) : ∀ (d i k : Nat) (s : Int), i + d = a.length → d < k → allR (a.drop i) → allR (b.drop i) → 0 ≤ s → s ≤ 9007199254740992 →
    huff_Total.l1 k b s false a (a.length : Int) i = some (totRun (a.drop i) (b.drop i) s) := by
  intro d
  induction d with
  | zero =>
    intro i k s hi hk ha hb h0 h1
    obtain ⟨k, rfl⟩ : ∃ m, k = m + 1 := ⟨k - 1, by omega⟩
    rw [huff_Total.l1, if_neg (by omega), if_neg (by decide), List.drop_eq_nil_of_le (by omega)]
    rfl
  | succ d ih =>
    intro i k s hi hk ha hb h0 h1
    obtain ⟨k, rfl⟩ : ∃ m, k = m + 1 := ⟨k - 1, by omega⟩
    have w1 : wrap64 ((i : Int) + 1) = ((i + 1 : Nat) : Int) := w64n (by omega) (by omega)
    have hc := rd_allR (by omega) ha
    have hm := rd_allR (by omega) hb
    rw [huff_Total.l1, if_pos (by omega), if_pos (by omega), if_pos (by omega), if_pos (by omega), w1]
    rw [drop_at (l := a) (i := i) (by omega), drop_at (l := b) (i := i) (by omega)] at *
    rw [allR_cons] at ha hb
    have ih' := fun s' h0 h1 => ih (i + 1) k s' (by omega) (by omega) ha.2 hb.2 h0 h1
    have hp := prod_bd hc hm
    generalize rd a i = c at *
    generalize rd b i = m at *
    have w2 : wrap64 (c * m) = c * m := w64 (by omega) (by omega)
    have w3 : wrap64 (s + c * m) = s + c * m := w64 (by omega) (by omega)
    rw [w2, w3, totRun]
    by_cases h : c = 0
    · rw [if_pos h]
      subst h
      rw [Int.zero_mul, Int.add_zero, if_neg (by omega)]
      exact ih' s h0 h1
    · rw [if_neg h]
      have hc0 : 0 < c := by have := hc.1; omega
      have w4 : wrap64 (9007199254740992 - s) = 9007199254740992 - s := w64 (by omega) (by omega)
      rw [w4, Int.tdiv_eq_ediv_of_nonneg (by omega)]
      have hq : (9007199254740992 - s) / c ≤ 9007199254740992 - s := Int.ediv_le_self _ (by omega)
      have hq0 : 0 ≤ (9007199254740992 - s) / c := Int.ediv_nonneg (by omega) (by omega)
      rw [w64 (by omega) (by omega)]
      have hiff : m > (9007199254740992 - s) / c ↔ s + c * m > 9007199254740992 := by
        have := Int.ediv_lt_iff_lt_mul (a := 9007199254740992 - s) (b := m) hc0
        rw [gt_iff_lt, this, Int.mul_comm m c]; omega
      by_cases hg : s + c * m > 9007199254740992
      · rw [if_pos (hiff.2 hg), if_pos hg]
      · rw [if_neg (fun h => hg (hiff.1 h)), if_neg hg]
        exact ih' _ (by omega) (by omega)
theorem rtot_l1 (a b : List Int) (hl : a.length = b.length) (hmax : a.length ≤ 140737488351232) : ∀ (d i k : Nat) (s : Int), i + d = a.length → d < k → allR (a.drop i) → allR (b.drop i) → 0 ≤ s → s ≤ 9007199254740992 →
    gridironref02_Total.l1 k a b s i = some (totRun (a.drop i) (b.drop i) s) := by
  intro d
  induction d with
  | zero =>
    intro i k s hi hk ha hb h0 h1
    obtain ⟨k, rfl⟩ : ∃ m, k = m + 1 := ⟨k - 1, by omega⟩
    rw [gridironref02_Total.l1, if_neg (by omega), List.drop_eq_nil_of_le (by omega)]
    rfl
  | succ d ih =>
    intro i k s hi hk ha hb h0 h1
    obtain ⟨k, rfl⟩ : ∃ m, k = m + 1 := ⟨k - 1, by omega⟩
    have w1 : wrap64 ((i : Int) + 1) = ((i + 1 : Nat) : Int) := w64n (by omega) (by omega)
    have hc := rd_allR (by omega) ha
    have hm := rd_allR (by omega) hb
    rw [gridironref02_Total.l1, if_pos (by omega), if_pos (by omega), if_pos (by omega), w1]
    rw [drop_at (l := a) (i := i) (by omega), drop_at (l := b) (i := i) (by omega)] at *
    rw [allR_cons] at ha hb
    have ih' := fun s' h0 h1 => ih (i + 1) k s' (by omega) (by omega) ha.2 hb.2 h0 h1
    have hp := prod_bd hc hm
    generalize rd a i = c at *
    generalize rd b i = m at *
    have w2 : wrap64 (c * m) = c * m := w64 (by omega) (by omega)
    have w3 : wrap64 (s + c * m) = s + c * m := w64 (by omega) (by omega)
    rw [w2, w3, totRun]
    by_cases hg : s + c * m > 9007199254740992
    · rw [if_pos hg, if_pos hg]
    · rw [if_neg hg, if_neg hg]
      exact ih' _ (by omega) (by omega)
def tot (a b : List Int) : Int × Int := if a.length = b.length then (if allR a ∧ allR b then totRun a b 0 else (0, 1)) else (0, 1)
theorem tot_l0 (a b : List Int) (hl : a.length = b.length) (hmax : a.length ≤ 140737488351232) : ∀ (d i k : Nat), i + d = a.length → d + a.length + 1 < k → (allR (a.take i) ∧ allR (b.take i)) →
    huff_Total.l0 k a b (a.length : Int) i = some (if allR a ∧ allR b then totRun a b 0 else (0, 1)) ∧ gridironref02_Total.l0 k a b i = some (if allR a ∧ allR b then totRun a b 0 else (0, 1)) := by
  intro d
  induction d with
  | zero =>
    intro i k hi hk ht
    obtain ⟨k, rfl⟩ : ∃ m, k = m + 1 := ⟨k - 1, by omega⟩
    rw [List.take_of_length_le (by omega), List.take_of_length_le (by omega)] at ht
    have h1 := tot_l1 a b hl hmax a.length 0 k 0 (by omega) (by omega) ht.1 ht.2 (by omega) (by omega)
    have h2 := rtot_l1 a b hl hmax a.length 0 k 0 (by omega) (by omega) ht.1 ht.2 (by omega) (by omega)
    rw [Int.natCast_zero, List.drop_zero, List.drop_zero] at h1 h2
    refine ⟨?_, ?_⟩
    · rw [huff_Total.l0, if_neg (by omega), if_pos ht]; exact h1
    · rw [gridironref02_Total.l0, if_neg (by omega), if_pos ht]; exact h2
  | succ d ih =>
    intro i k hi hk ht
    obtain ⟨k, rfl⟩ : ∃ m, k = m + 1 := ⟨k - 1, by omega⟩
    have hlt : i < a.length := by omega
    have hltb : i < b.length := by omega
    have w1 : wrap64 ((i : Int) + 1) = ((i + 1 : Nat) : Int) := w64n (by omega) (by omega)
    have ea : rd a (i : Int) = a[i] := by simp [rd, List.getD_eq_getElem?_getD, hlt]
    have eb : rd b (i : Int) = b[i] := by simp [rd, List.getD_eq_getElem?_getD, hltb]
    have hbad : ¬ (inR (rd a i) ∧ inR (rd b i)) → ¬ (allR a ∧ allR b) := by
      intro h h2
      exact h ⟨by rw [ea]; exact h2.1 _ (List.getElem_mem hlt), by rw [eb]; exact h2.2 _ (List.getElem_mem hltb)⟩
    have hgood : inR (rd a i) ∧ inR (rd b i) → allR (a.take (i + 1)) ∧ allR (b.take (i + 1)) := by
      intro h
      rw [List.take_succ_eq_append_getElem hlt, List.take_succ_eq_append_getElem hltb]
      constructor
      · intro x hx
        rcases List.mem_append.1 hx with hx | hx
        · exact ht.1 x hx
        · simp at hx; subst hx; rw [← ea]; exact h.1
      · intro x hx
        rcases List.mem_append.1 hx with hx | hx
        · exact ht.2 x hx
        · simp at hx; subst hx; rw [← eb]; exact h.2
    generalize hx : rd a i = x at *
    generalize hy : rd b i = y at *
    have hmn : mn x y < 0 ↔ (x < 0 ∨ y < 0) := by unfold mn; split <;> omega
    have hmx : mx x y > 2147483648 ↔ (x > 2147483648 ∨ y > 2147483648) := by unfold mx; split <;> omega
    by_cases hr : inR x ∧ inR y
    · have hr' := hr
      unfold inR at hr'
      have h1 : ¬ mn x y < 0 := by rw [hmn]; omega
      have h2 : ¬ mx x y > 2147483648 := by rw [hmx]; omega
      have ih' := ih (i + 1) k (by omega) (by omega) (hgood hr)
      refine ⟨?_, ?_⟩
      · rw [huff_Total.l0, if_pos (by omega), if_pos (by omega), if_pos (by omega), if_pos (by omega), w1, hx, hy, if_neg h1, if_neg h2]; exact ih'.1
      · rw [gridironref02_Total.l0, if_pos (by omega), if_pos (by omega), w1, hx, hy, if_neg (by omega), if_neg (by omega), if_pos (by omega), if_neg (by omega), if_neg (by omega)]; exact ih'.2
    · have hr' := hr
      unfold inR at hr'
      rw [if_neg (hbad hr)]
      constructor
      · rw [huff_Total.l0, if_pos (by omega), if_pos (by omega), if_pos (by omega), if_pos (by omega), w1, hx, hy]
        by_cases h1 : mn x y < 0
        · rw [if_pos h1]
        · have h2 : mx x y > 2147483648 := by rw [hmx]; rw [hmn] at h1; omega
          rw [if_neg h1, if_pos h2]
      · rw [gridironref02_Total.l0, if_pos (by omega), if_pos (by omega), w1, hx, hy]
        by_cases c1 : x < 0
        · rw [if_pos c1]
        · rw [if_neg c1]
          by_cases c2 : x > 2147483648
          · rw [if_pos c2]
          · rw [if_neg c2, if_pos (by omega)]
            by_cases c3 : y < 0
            · rw [if_pos c3]
            · rw [if_neg c3, if_pos (by omega)]
theorem tot_is (a b : List Int) (hmax : a.length ≤ 140737488351232) (k : Nat) (hk : 2 * a.length + 1 < k) : huff_Total.f k a b = some (tot a b) ∧ gridironref02_Total.f k a b = some (tot a b) := by
  unfold huff_Total.f gridironref02_Total.f tot
  by_cases h : a.length = b.length
  · have := tot_l0 a b h hmax a.length 0 k (by omega) (by omega) ⟨(by intro x hx; simp at hx), (by intro x hx; simp at hx)⟩
    rw [Int.natCast_zero] at this
    refine ⟨?_, ?_⟩
    · rw [if_pos (by omega), if_pos h]; exact this.1
    · rw [if_pos (by omega), if_pos h]; exact this.2
  · refine ⟨?_, ?_⟩ <;> rw [if_neg (by omega), if_neg h]
end Go.Proofs.Ytlepnpjlmcjedaa.Hw
