import Derived.Test.YtlepnpjlmcjedaaWords
import Derived.Test.YtlepnpjlmcjedaaHp
import Derived.Test.YtlepnpjlmcjedaaPHx1
import Derived.Test.YtlepnpjlmcjedaaPHx2
/- What the printed functions of the lengths and codes answer. -/
namespace Go.Proofs.Ytlepnpjlmcjedaa.Hw
open Go.RowKit Go.Proofs.YtlepnpjlmcjedaaW.PrintWords Go.Proofs.YtlepnpjlmcjedaaW.PrintLast Go.Proofs.YtlepnpjlmcjedaaW.PrintMore Go.Proofs.Ytlepnpjlmcjedaa.PH
set_option linter.unusedVariables false
set_option linter.unusedSimpArgs false
/-! what the printed functions answer -/
theorem shl_one {n : Int} (h0 : 1 ≤ n) (h1 : n ≤ 15) : shl .i64 1 (15 - n) = ((2 ^ (15 - n.toNat) : Nat) : Int) := by
  have : n = 1 ∨ n = 2 ∨ n = 3 ∨ n = 4 ∨ n = 5 ∨ n = 6 ∨ n = 7 ∨ n = 8 ∨ n = 9 ∨ n = 10 ∨ n = 11 ∨ n = 12 ∨ n = 13 ∨ n = 14 ∨ n = 15 := by omega
  rcases this with rfl | rfl | rfl | rfl | rfl | rfl | rfl | rfl | rfl | rfl | rfl | rfl | rfl | rfl | rfl <;> decide
theorem drop_at {l : List Int} {i : Nat} (h : i < l.length) : l.drop i = rd l (i : Int) :: l.drop (i + 1) := by
  rw [List.drop_eq_getElem_cons h]; simp [rd, List.getD_eq_getElem?_getD, h]
theorem rd_fits {l : List Int} {i : Nat} (h : i < l.length) (hf : HP.fits l) : 0 ≤ rd l (i : Int) ∧ rd l (i : Int) ≤ 15 := by
  have : rd l (i : Int) = l[i] := by simp [rd, List.getD_eq_getElem?_getD, h]
  rw [this]; exact hf _ (List.getElem_mem h)
def chkEnd (a b c : Int) : Int := if a > 32768 then 20 else if a < 32768 then (if b = 0 then 0 else if b = 1 then (if c = 1 then 0 else 21) else 21) else 0
theorem chkEnd_congr {a b c a' b' c' : Int} (h1 : a = a') (h2 : b = b') (h3 : c = c') : chkEnd a b c = chkEnd a' b' c' := by rw [h1, h2, h3]
theorem some_pair {α β : Type} {a a' : α} {b b' : β} (h1 : a = a') (h2 : b = b') : some (a, b) = some (a', b') := by rw [h1, h2]
theorem chk_l0 (l : List Int) (hl : l.length ≤ 512) : ∀ (d i k : Nat) (a b c : Int), i + d = l.length → 2 * d < k → 0 ≤ a → a ≤ 16384 * i → 0 ≤ b → b ≤ i → 0 ≤ c → c ≤ i →
    huff_Check.l0 k a b c l (l.length : Int) i = some (if HP.fits (l.drop i) then chkEnd (a + HP.room (l.drop i)) (b + HP.many (l.drop i)) (c + HP.ones (l.drop i)) else 1) := by
  intro d
  induction d with
  | zero =>
    intro i k a b c hi hk ha0 ha1 hb0 hb1 hc0 hc1
    obtain ⟨k, rfl⟩ : ∃ m, k = m + 1 := ⟨k - 1, by omega⟩
    have hd : l.drop i = [] := List.drop_eq_nil_of_le (by omega)
    rw [huff_Check.l0, if_neg (by omega), hd]
    have hfn : HP.fits [] := by intro n hn; cases hn
    rw [if_pos hfn]
    simp only [HP.room, HP.many, HP.ones, Int.natCast_zero, Int.add_zero, chkEnd]
    repeat' split
    all_goals rfl
  | succ d ih =>
    intro i k a b c hi hk ha0 ha1 hb0 hb1 hc0 hc1
    obtain ⟨k, rfl⟩ : ∃ m, k = m + 1 + 1 := ⟨k - 2, by omega⟩
    have hlt : i < l.length := by omega
    have hd := drop_at hlt
    rw [huff_Check.l0, if_pos (by omega), if_pos (by omega), if_pos (by omega), hd]
    have hff := @HP.fits_cons (rd l i) (l.drop (i + 1))
    have w1 : wrap64 ((i : Int) + 1) = ((i + 1 : Nat) : Int) := by rw [w64 (by omega) (by omega)]; omega
    generalize hx : rd l i = x at *
    by_cases h0 : x < 0
    · rw [if_pos h0, huff_Check.j1, if_pos rfl, if_neg (by rw [hff]; omega)]
    · rw [if_neg h0]
      by_cases h15 : x > 15
      · rw [decide_eq_true h15, huff_Check.j1, if_pos rfl, if_neg (by rw [hff]; omega)]
      · rw [decide_eq_false h15, huff_Check.j1, if_neg (by decide)]
        by_cases hp : x > 0
        · have w2 : wrap64 (15 - x) = 15 - x := w64 (by omega) (by omega)
          have hs := shl_one (n := x) (by omega) (by omega)
          have hpc := HP.pow_cases (n := x) (by omega) (by omega)
          rw [if_pos hp, w2, if_pos (by omega), hs, w1]
          simp only [HP.room, HP.many, HP.ones, if_pos hp]
          generalize 2 ^ (15 - x.toNat) = p at *
          have w3 : wrap64 (a + (p : Int)) = a + p := w64 (by omega) (by omega)
          have w4 : wrap64 (b + 1) = b + 1 := w64 (by omega) (by omega)
          have w5 : wrap64 (c + 1) = c + 1 := w64 (by omega) (by omega)
          rw [w3, w4, w5]
          by_cases h1 : x = 1
          · rw [if_pos h1, ih (i + 1) k _ _ _ (by omega) (by omega) (by omega) (by omega) (by omega) (by omega) (by omega) (by omega)]
            refine congrArg some ?_
            by_cases hfd : HP.fits (l.drop (i + 1))
            · rw [if_pos hfd, if_pos (hff.2 ⟨by omega, hfd⟩)]; refine chkEnd_congr ?_ ?_ ?_ <;> simp [h1] <;> omega
            · rw [if_neg hfd, if_neg (fun h => hfd (hff.1 h).2)]
          · rw [if_neg h1, ih (i + 1) k _ _ _ (by omega) (by omega) (by omega) (by omega) (by omega) (by omega) (by omega) (by omega)]
            refine congrArg some ?_
            by_cases hfd : HP.fits (l.drop (i + 1))
            · rw [if_pos hfd, if_pos (hff.2 ⟨by omega, hfd⟩)]; refine chkEnd_congr ?_ ?_ ?_ <;> simp [h1] <;> omega
            · rw [if_neg hfd, if_neg (fun h => hfd (hff.1 h).2)]
        · have h1 : ¬ x = 1 := by omega
          rw [if_neg hp, if_neg h1, w1, ih (i + 1) k _ _ _ (by omega) (by omega) (by omega) (by omega) (by omega) (by omega) (by omega) (by omega)]
          simp only [HP.room, HP.many, HP.ones, if_neg hp, if_neg h1, Nat.zero_add]
          refine congrArg some ?_
          by_cases hfd : HP.fits (l.drop (i + 1))
          · rw [if_pos hfd, if_pos (hff.2 ⟨by omega, hfd⟩)]
          · rw [if_neg hfd, if_neg (fun h => hfd (hff.1 h).2)]
theorem chkEnd_is (l : List Int) (hf : HP.fits l) : chkEnd (HP.room l) (HP.many l) (HP.ones l) = if HP.room l > 32768 then 20 else if HP.many l = 0 ∨ HP.room l = 32768 ∨ (HP.many l = 1 ∧ HP.room l = 16384) then 0 else 21 := by
  unfold chkEnd
  by_cases h1 : HP.room l > 32768
  · rw [if_pos h1, if_pos (by omega)]
  · rw [if_neg h1, if_neg (by omega)]
    by_cases h2 : HP.many l = 0
    · rw [if_pos (show _ ∨ _ from .inl h2)]; split
      · rw [if_pos (by omega)]
      · rfl
    · by_cases h3 : HP.room l = 32768
      · rw [if_neg (by omega), if_pos (by omega)]
      · rw [if_pos (by omega), if_neg (by omega)]
        by_cases h4 : HP.many l = 1
        · have := HP.many_one hf h4
          rw [if_pos (by omega)]
          by_cases h5 : HP.room l = 16384
          · rw [if_pos (by omega), if_pos (by omega)]
          · rw [if_neg (by omega), if_neg (by omega)]
        · rw [if_neg (by omega), if_neg (by omega)]
/-- The program's Check. -/
theorem huff_check_is (l : List Int) (k : Nat) (hk : 2 * l.length < k) : huff_Check.f k l = some (HP.check l) := by
  unfold huff_Check.f HP.check
  by_cases h : l.length > 512
  · rw [if_pos (by omega), if_pos h]
  · rw [if_neg (by omega), if_neg h]
    have := chk_l0 l (by omega) l.length 0 k 0 0 0 (by omega) hk (by omega) (by omega) (by omega) (by omega) (by omega) (by omega)
    rw [Int.natCast_zero] at this
    rw [this, List.drop_zero]
    refine congrArg some ?_
    by_cases hf : HP.fits l
    · rw [if_pos hf, if_neg (show ¬ ¬ HP.fits l from fun h => h hf), Int.zero_add, Int.zero_add, Int.zero_add]; exact chkEnd_is l hf
    · rw [if_neg hf, if_pos hf]
theorem ref_room_l0 (l : List Int) (hl : l.length ≤ 512) (hf : HP.fits l) : ∀ (d i k : Nat) (a b : Int), i + d = l.length → d < k → 0 ≤ a → a ≤ 16384 * i → 0 ≤ b → b ≤ i →
    gridironref02_room.l0 k l a b i = some (a + HP.room (l.drop i), b + HP.many (l.drop i)) := by
  intro d
  induction d with
  | zero =>
    intro i k a b hi hk ha0 ha1 hb0 hb1
    obtain ⟨k, rfl⟩ : ∃ m, k = m + 1 := ⟨k - 1, by omega⟩
    have hd : l.drop i = [] := List.drop_eq_nil_of_le (by omega)
    rw [gridironref02_room.l0, if_neg (by omega), hd]
    simp [HP.room, HP.many]
  | succ d ih =>
    intro i k a b hi hk ha0 ha1 hb0 hb1
    obtain ⟨k, rfl⟩ : ∃ m, k = m + 1 := ⟨k - 1, by omega⟩
    have hlt : i < l.length := by omega
    have hd := drop_at hlt
    have hx := rd_fits hlt hf
    rw [gridironref02_room.l0, if_pos (by omega), if_pos (by omega), hd]
    have w1 : wrap64 ((i : Int) + 1) = ((i + 1 : Nat) : Int) := by rw [w64 (by omega) (by omega)]; omega
    generalize rd l i = x at *
    rw [w1]
    by_cases hp : x > 0
    · have w2 : wrap64 (15 - x) = 15 - x := w64 (by omega) (by omega)
      have hs := shl_one (n := x) (by omega) (by omega)
      have hpc := HP.pow_cases (n := x) (by omega) (by omega)
      rw [if_pos hp, w2, if_pos (by omega), hs]
      simp only [HP.room, HP.many, if_pos hp]
      generalize 2 ^ (15 - x.toNat) = p at *
      have w3 : wrap64 (a + (p : Int)) = a + p := w64 (by omega) (by omega)
      have w4 : wrap64 (b + 1) = b + 1 := w64 (by omega) (by omega)
      rw [w3, w4, ih (i + 1) k _ _ (by omega) (by omega) (by omega) (by omega) (by omega) (by omega)]
      refine some_pair ?_ ?_ <;> omega
    · rw [if_neg hp, ih (i + 1) k _ _ (by omega) (by omega) (by omega) (by omega) (by omega) (by omega)]
      simp only [HP.room, HP.many, if_neg hp, Nat.zero_add]
theorem ref_check_l0 (l : List Int) (hl : l.length ≤ 512) (K : Nat) (hK : l.length < K) : ∀ (d i k : Nat), i + d = l.length → d + K < k → (HP.fits (l.take i)) →
    gridironref02_Check.l0 k l i = some (if HP.fits l then (if HP.room l > 32768 then 20 else if HP.many l = 0 ∨ HP.room l = 32768 ∨ (HP.many l = 1 ∧ HP.room l = 16384) then 0 else 21) else 1) := by
  intro d
  induction d with
  | zero =>
    intro i k hi hk hft
    obtain ⟨k, rfl⟩ : ∃ m, k = m + 1 := ⟨k - 1, by omega⟩
    have hf : HP.fits l := by rwa [List.take_of_length_le (by omega)] at hft
    have := ref_room_l0 l hl hf l.length 0 k 0 0 (by omega) (by omega) (by omega) (by omega) (by omega) (by omega)
    rw [Int.natCast_zero, List.drop_zero, Int.zero_add, Int.zero_add] at this
    rw [gridironref02_Check.l0, if_neg (by omega), gridironref02_room.f, this, if_pos hf]
    simp only [Option.bind_some]
    by_cases h1 : HP.room l > 32768
    · rw [if_pos (by omega), if_pos h1]
    · rw [if_neg (by omega), if_neg h1]
      by_cases h2 : HP.many l = 0
      · rw [if_pos (by omega), if_pos (by omega)]
      · rw [if_neg (by omega)]
        by_cases h3 : HP.room l = 32768
        · rw [if_pos (by omega), if_pos (by omega)]
        · rw [if_neg (by omega)]
          by_cases h4 : HP.many l = 1
          · rw [if_pos (by omega)]
            by_cases h5 : HP.room l = 16384
            · rw [if_pos (by omega), if_pos (by omega)]
            · rw [if_neg (by omega), if_neg (by omega)]
          · rw [if_neg (by omega), if_neg (by omega)]
  | succ d ih =>
    intro i k hi hk hft
    obtain ⟨k, rfl⟩ : ∃ m, k = m + 1 := ⟨k - 1, by omega⟩
    have hlt : i < l.length := by omega
    rw [gridironref02_Check.l0, if_pos (by omega), if_pos (by omega)]
    have w1 : wrap64 ((i : Int) + 1) = ((i + 1 : Nat) : Int) := by rw [w64 (by omega) (by omega)]; omega
    have hm : rd l i ∈ l := by
      have : rd l (i : Int) = l[i] := by simp [rd, List.getD_eq_getElem?_getD, hlt]
      rw [this]; exact List.getElem_mem hlt
    by_cases h0 : rd l i < 0
    · rw [if_pos h0, if_neg (fun hf => by have := hf _ hm; omega)]
    · rw [if_neg h0]
      by_cases h1 : rd l i > 15
      · rw [if_pos h1, if_neg (fun hf => by have := hf _ hm; omega)]
      · rw [if_neg h1, w1]
        refine ih (i + 1) k (by omega) (by omega) ?_
        rw [List.take_succ_eq_append_getElem hlt]
        intro n hn
        rcases List.mem_append.1 hn with hn | hn
        · exact hft n hn
        · have : rd l (i : Int) = l[i] := by simp [rd, List.getD_eq_getElem?_getD, hlt]
          simp at hn; subst hn; rw [← this]; omega
/-- The document's Check. -/
theorem ref_check_is (l : List Int) (k : Nat) (hk : 2 * l.length + 2 < k) : gridironref02_Check.f k l = some (HP.check l) := by
  unfold gridironref02_Check.f HP.check
  by_cases h : l.length > 512
  · rw [if_pos (by omega), if_pos h]
  · rw [if_neg (by omega), if_neg h]
    have := ref_check_l0 l (by omega) (l.length + 1) (by omega) l.length 0 k (by omega) (by omega) (by intro n hn; simp at hn)
    rw [Int.natCast_zero] at this
    rw [this]
    by_cases hf : HP.fits l
    · rw [if_pos hf, if_neg (show ¬ ¬ HP.fits l from fun h => h hf)]
    · rw [if_neg hf, if_pos hf]
/-! Codes -/
def pcs (l : List Int) (m i : Nat) : List Int := (List.range l.length).map fun j => if 0 < l.getD j 0 ∧ l.getD j 0 ≤ (if j < i then (m : Int) + 1 else m) then (HP.codeAt l j : Int) else 0
theorem pcs_length (l : List Int) (m i : Nat) : (pcs l m i).length = l.length := by simp [pcs]
theorem pcs_zero (l : List Int) : pcs l 0 0 = List.replicate l.length 0 := by
  apply List.ext_getElem (by simp [pcs])
  intro j h1 h2
  simp only [pcs, List.getElem_map, List.getElem_range, List.getElem_replicate]
  rw [if_neg (by simp only [Nat.not_lt_zero, if_false]; omega)]
theorem pcs_full (l : List Int) (m : Nat) : pcs l m l.length = pcs l (m + 1) 0 := by
  unfold pcs
  apply List.map_congr_left
  intro j hj
  rw [List.mem_range] at hj
  simp only [Nat.not_lt_zero, if_false, if_pos hj]
  rfl
theorem pcs_set (l : List Int) (m i : Nat) (hi : i < l.length) (h : l.getD i 0 = (m : Int) + 1) : (pcs l m i).set i (HP.codeAt l i : Int) = pcs l m (i + 1) := by
  apply List.ext_getElem (by simp [pcs])
  intro j h1 h2
  rw [List.getElem_set]
  simp only [pcs, List.getElem_map, List.getElem_range]
  by_cases hij : i = j
  · subst hij
    rw [if_pos rfl, if_pos]
    rw [if_pos (by omega)]; omega
  · rw [if_neg hij]
    by_cases hlt : j < i
    · rw [if_pos (show j < i from hlt), if_pos (show j < i + 1 by omega)]
    · rw [if_neg (show ¬ j < i from hlt), if_neg (show ¬ j < i + 1 by omega)]
theorem pcs_same (l : List Int) (m i : Nat) (h : ¬ l.getD i 0 = (m : Int) + 1) : pcs l m i = pcs l m (i + 1) := by
  apply List.ext_getElem (by simp [pcs])
  intro j h1 h2
  simp only [pcs, List.getElem_map, List.getElem_range]
  by_cases hij : i = j
  · subst hij
    rw [if_neg (show ¬ i < i by omega), if_pos (show i < i + 1 by omega)]
    by_cases hc : 0 < l.getD i 0 ∧ l.getD i 0 ≤ (m : Int)
    · rw [if_pos hc, if_pos (by omega)]
    · rw [if_neg hc, if_neg (by omega)]
  · by_cases hlt : j < i
    · rw [if_pos (show j < i from hlt), if_pos (show j < i + 1 by omega)]
    · rw [if_neg (show ¬ j < i from hlt), if_neg (show ¬ j < i + 1 by omega)]
theorem pcs_codes (l : List Int) (hf : HP.fits l) : pcs l 15 0 = HP.codes l := by
  unfold pcs HP.codes
  apply List.map_congr_left
  intro j hj
  rw [List.mem_range] at hj
  have := rd_fits hj hf
  simp only [rd, Int.toNat_natCast] at this
  simp only [Nat.not_lt_zero, if_false]
  by_cases h : 0 < l.getD j 0
  · rw [if_pos (by omega)]
  · rw [if_neg (by omega)]; unfold HP.codeAt; rw [if_neg (by omega)]; rfl
theorem rd_nat (l : List Int) (i : Nat) : rd l (i : Int) = l.getD i 0 := by simp [rd]
theorem ref_codes_l1 (l : List Int) (hl : l.length ≤ 512) (hf : HP.fits l) (hr : HP.room l ≤ 32768) (m : Nat) (hm : m ≤ 14) (R : Option (List Int × Int)) (K : Nat)
    (hnext : ∀ k, K ≤ k → gridironref02_Codes.l0 k l (pcs l (m + 1) 0) (HP.part l (m + 1) : Nat) ((m + 2 : Nat) : Int) = R) :
    ∀ (d i k : Nat), i + d = l.length → d + K < k → gridironref02_Codes.l1 k l (pcs l m i) ((HP.fst l (m + 1) + HP.cnt (l.take i) ((m + 1 : Nat) : Int) : Nat) : Int) ((m + 1 : Nat) : Int) i = R := by
  have hpl := HP.part_le hf hr m hm
  have hpw : (2 : Nat) ^ (m + 1) ≤ 2 ^ 15 := Nat.pow_le_pow_right (by omega) (by omega)
  have e15 : (2 : Nat) ^ 15 = 32768 := by decide
  intro d
  induction d with
  | zero =>
    intro i k hi hk
    obtain ⟨k, rfl⟩ : ∃ m, k = m + 1 := ⟨k - 1, by omega⟩
    obtain rfl : i = l.length := by omega
    have w1 : wrap64 (((m + 1 : Nat) : Int) + 1) = ((m + 2 : Nat) : Int) := by rw [w64 (by omega) (by omega)]; omega
    rw [gridironref02_Codes.l1, if_neg (by omega), w1, pcs_full, List.take_length]
    exact hnext k (by omega)
  | succ d ih =>
    intro i k hi hk
    obtain ⟨k, rfl⟩ : ∃ m, k = m + 1 := ⟨k - 1, by omega⟩
    have hlt : i < l.length := by omega
    have w1 : wrap64 ((i : Int) + 1) = ((i + 1 : Nat) : Int) := by rw [w64 (by omega) (by omega)]; omega
    have hc := HP.cnt_take_succ l i hlt ((m + 1 : Nat) : Int)
    have hle := HP.cnt_take_le l i ((m + 1 : Nat) : Int)
    rw [gridironref02_Codes.l1, if_pos (by omega), if_pos (by omega), w1, rd_nat]
    unfold HP.part at hpl
    by_cases hx : l.getD i 0 = ((m + 1 : Nat) : Int)
    · have hx' : l.getD i 0 = (m : Int) + 1 := by omega
      have hv : ((HP.fst l (m + 1) + HP.cnt (l.take i) ((m + 1 : Nat) : Int) : Nat) : Int) = (HP.codeAt l i : Int) := by
        unfold HP.codeAt
        rw [if_pos (by omega), hx]; rfl
      have ec : (((HP.fst l (m + 1) + HP.cnt (l.take i) ((m + 1 : Nat) : Int) : Nat) : Int) + 1) % 4294967296 = ((HP.fst l (m + 1) + HP.cnt (l.take (i + 1)) ((m + 1 : Nat) : Int) : Nat) : Int) := by
        rw [hc, if_pos hx]; omega
      rw [if_pos hx, if_pos (by rw [pcs_length]; omega), ec, hv, Int.toNat_natCast, pcs_set l m i hlt hx']
      exact ih (i + 1) k (by omega) (by omega)
    · rw [if_neg hx, pcs_same l m i (by omega)]
      have ec : HP.cnt (l.take i) ((m + 1 : Nat) : Int) = HP.cnt (l.take (i + 1)) ((m + 1 : Nat) : Int) := by rw [hc, if_neg hx]; omega
      rw [ec]
      exact ih (i + 1) k (by omega) (by omega)
def nx (l : List Int) : Nat → Nat
  | 0 => 0
  | m + 1 => HP.part l (m + 1)
theorem fst_nx (l : List Int) (m : Nat) : HP.fst l (m + 1) = nx l m * 2 := by
  cases m with
  | zero => rfl
  | succ m => show HP.fst l (m + 2) = _; rw [HP.fst, nx, HP.part]; omega
theorem ref_codes_l0 (l : List Int) (hl : l.length ≤ 512) (hf : HP.fits l) (hr : HP.room l ≤ 32768) : ∀ (d m k : Nat), m + d = 15 → (d + 1) * (l.length + 3) ≤ k →
    gridironref02_Codes.l0 k l (pcs l m 0) (nx l m : Nat) ((m + 1 : Nat) : Int) = some (HP.codes l, 0) := by
  intro d
  induction d with
  | zero =>
    intro m k hm hk
    obtain ⟨k, rfl⟩ : ∃ m, k = m + 1 := ⟨k - 1, by omega⟩
    obtain rfl : m = 15 := by omega
    rw [gridironref02_Codes.l0, if_neg (by decide), pcs_codes l hf]
  | succ d ih =>
    intro m k hm hk
    have hk' : (d + 1 + 1) * (l.length + 3) = (d + 1) * (l.length + 3) + (l.length + 3) := Nat.succ_mul _ _
    obtain ⟨k, rfl⟩ : ∃ m, k = m + 1 := ⟨k - 1, by omega⟩
    have hb : nx l m ≤ 32768 := by
      cases m with
      | zero => simp [nx]
      | succ m =>
        have h1 := HP.part_le hf hr m (by omega)
        have h2 : (2 : Nat) ^ (m + 1) ≤ 2 ^ 15 := Nat.pow_le_pow_right (by omega) (by omega)
        have e15 : (2 : Nat) ^ 15 = 32768 := by decide
        rw [nx]; omega
    have e : ((nx l m : Nat) : Int) * 2 % 4294967296 = ((HP.fst l (m + 1) + HP.cnt (l.take 0) ((m + 1 : Nat) : Int) : Nat) : Int) := by
      rw [fst_nx, List.take_zero, HP.cnt_nil]; omega
    rw [gridironref02_Codes.l0, if_pos (by omega), e]
    have := ref_codes_l1 l hl hf hr m (by omega) (some (HP.codes l, 0)) ((d + 1) * (l.length + 3)) (fun k hk => ih (m + 1) k (by omega) hk) l.length 0 k (by omega) (by omega)
    exact this
/-- The document's Codes. -/
theorem ref_codes_is (l : List Int) (k : Nat) (hk : 16 * (l.length + 3) ≤ k) : gridironref02_Codes.f k l = some (if HP.check l = 0 then (HP.codes l, 0) else ([], HP.check l)) := by
  unfold gridironref02_Codes.f
  rw [ref_check_is l k (by omega)]
  simp only [Option.bind_some]
  by_cases h : HP.check l = 0
  · obtain ⟨h1, h2, h3, _⟩ := HP.check_ok h
    rw [if_pos h, if_pos (by omega), if_pos (by omega), if_pos h]
    have := ref_codes_l0 l h1 h2 h3 15 0 k (by omega) (by omega)
    rw [pcs_zero] at this
    rw [Int.toNat_natCast]
    exact this
  · rw [if_neg h, if_neg h]
/-! sameCodes -/
theorem same_l0 (a b : List Int) (hl : a.length = b.length) (hmax : a.length ≤ 140737488351232) : ∀ (d i k : Nat), i + d = a.length → d < k →
    gridironlaw02_sameCodes.l0 k a b (a.length : Int) i = some (decide (a.drop i = b.drop i)) := by
  intro d
  induction d with
  | zero =>
    intro i k hi hk
    obtain ⟨k, rfl⟩ : ∃ m, k = m + 1 := ⟨k - 1, by omega⟩
    rw [gridironlaw02_sameCodes.l0, if_neg (by omega), List.drop_eq_nil_of_le (by omega), List.drop_eq_nil_of_le (by omega)]; rfl
  | succ d ih =>
    intro i k hi hk
    obtain ⟨k, rfl⟩ : ∃ m, k = m + 1 := ⟨k - 1, by omega⟩
    have w1 : wrap64 ((i : Int) + 1) = ((i + 1 : Nat) : Int) := by rw [w64 (by omega) (by omega)]; omega
    rw [gridironlaw02_sameCodes.l0, if_pos (by omega), if_pos (by omega), if_pos (by omega), if_pos (by omega), w1]
    rw [drop_at (l := a) (i := i) (by omega), drop_at (l := b) (i := i) (by omega)]
    by_cases he : rd a i = rd b i
    · rw [if_pos he, ih (i + 1) k (by omega) (by omega), he]
      refine congrArg some ?_
      rw [decide_eq_decide]
      constructor
      · intro h; rw [h]
      · intro h; exact (List.cons.inj h).2
    · rw [if_neg he, decide_eq_false]
      intro h; exact he (List.cons.inj h).1
theorem same_is (a b : List Int) (hmax : a.length ≤ 140737488351232) (k : Nat) (hk : a.length < k) : gridironlaw02_sameCodes.f k a b = some (decide (a = b)) := by
  unfold gridironlaw02_sameCodes.f
  by_cases h : a.length = b.length
  · rw [if_pos (by omega)]
    have := same_l0 a b h hmax a.length 0 k (by omega) hk
    rwa [Int.natCast_zero, List.drop_zero, List.drop_zero] at this
  · rw [if_neg (by omega), decide_eq_false (fun e => h (by rw [e]))]
end Go.Proofs.Ytlepnpjlmcjedaa.Hw
