import Derived.Test.YtjajkgemjgehiaaHuffFns
/- Out of XHuffFns. -/
namespace Go.Proofs.Ytjajkgemjgehiaa.Hw
open Go.RowKit Go.Proofs.YtjajkgemjgehiaaW.PrintWords Go.Proofs.YtjajkgemjgehiaaW.PrintLast Go.Proofs.YtjajkgemjgehiaaW.PrintMore Go.Proofs.Ytjajkgemjgehiaa.PH
set_option linter.unusedVariables false
set_option linter.unusedSimpArgs false
theorem ref_room_l0 (l : List Int) (hl : l.length ≤ 512) (hf : HP.fits l) : ∀ (d i k : Nat) (a b : Int), i + d = l.length → d < k → 0 ≤ a → a ≤ 16384 * i → 0 ≤ b → b ≤ i →
    gridironref02_room.l0 k l a b i = some (a + HP.room (l.drop i), b + HP.many (l.drop i)) := by
  intro d
  induction d with
  | zero =>
    intro i k a b hi hk ha0 ha1 hb0 hb1
    obtain ⟨k, rfl⟩ : ∃ m, k = m + 1 := ⟨k - 1, by omega⟩
    have hd : l.drop i = [] := List.drop_eq_nil_of_le (by omega)
    rw [gridironref02_room.l0, if_neg (by omega), hd]
    simp [HP.room, HP.many]
  | succ d ih =>
    intro i k a b hi hk ha0 ha1 hb0 hb1
    obtain ⟨k, rfl⟩ : ∃ m, k = m + 1 := ⟨k - 1, by omega⟩
    have hlt : i < l.length := by omega
    have hd := drop_at hlt
    have hx := rd_fits hlt hf
    rw [gridironref02_room.l0, if_pos (by omega), if_pos (by omega), hd]
    have w1 : wrap64 ((i : Int) + 1) = ((i + 1 : Nat) : Int) := by rw [w64 (by omega) (by omega)]; omega
    generalize rd l i = x at *
    rw [w1]
    by_cases hp : x > 0
    · have w2 : wrap64 (15 - x) = 15 - x := w64 (by omega) (by omega)
      have hs := shl_one (n := x) (by omega) (by omega)
      have hpc := HP.pow_cases (n := x) (by omega) (by omega)
      rw [if_pos hp, w2, if_pos (by omega), hs]
      simp only [HP.room, HP.many, if_pos hp]
      generalize 2 ^ (15 - x.toNat) = p at *
      have w3 : wrap64 (a + (p : Int)) = a + p := w64 (by omega) (by omega)
      have w4 : wrap64 (b + 1) = b + 1 := w64 (by omega) (by omega)
      rw [w3, w4, ih (i + 1) k _ _ (by omega) (by omega) (by omega) (by omega) (by omega) (by omega)]
      refine some_pair ?_ ?_ <;> omega
    · rw [if_neg hp, ih (i + 1) k _ _ (by omega) (by omega) (by omega) (by omega) (by omega) (by omega)]
      simp only [HP.room, HP.many, if_neg hp, Nat.zero_add]
theorem ref_check_l0 (l : List Int) (hl : l.length ≤ 512) (K : Nat) (hK : l.length < K) : ∀ (d i k : Nat), i + d = l.length → d + K < k → (HP.fits (l.take i)) →
    gridironref02_Check.l0 k l i = some (if HP.fits l then (if HP.room l > 32768 then 20 else if HP.many l = 0 ∨ HP.room l = 32768 ∨ (HP.many l = 1 ∧ HP.room l = 16384) then 0 else 21) else 1) := by
  intro d
  induction d with
  | zero =>
    intro i k hi hk hft
    obtain ⟨k, rfl⟩ : ∃ m, k = m + 1 := ⟨k - 1, by omega⟩
    have hf : HP.fits l := by rwa [List.take_of_length_le (by omega)] at hft
    have := ref_room_l0 l hl hf l.length 0 k 0 0 (by omega) (by omega) (by omega) (by omega) (by omega) (by omega)
    rw [Int.natCast_zero, List.drop_zero, Int.zero_add, Int.zero_add] at this
    rw [gridironref02_Check.l0, if_neg (by omega), gridironref02_room.f, this, if_pos hf]
    simp only [Option.bind_some]
    by_cases h1 : HP.room l > 32768
    · rw [if_pos (by omega), if_pos h1]
    · rw [if_neg (by omega), if_neg h1]
      by_cases h2 : HP.many l = 0
      · rw [if_pos (by omega), if_pos (by omega)]
      · rw [if_neg (by omega)]
        by_cases h3 : HP.room l = 32768
        · rw [if_pos (by omega), if_pos (by omega)]
        · rw [if_neg (by omega)]
          by_cases h4 : HP.many l = 1
          · rw [if_pos (by omega)]
            by_cases h5 : HP.room l = 16384
            · rw [if_pos (by omega), if_pos (by omega)]
            · rw [if_neg (by omega), if_neg (by omega)]
          · rw [if_neg (by omega), if_neg (by omega)]
  | succ d ih =>
    intro i k hi hk hft
    obtain ⟨k, rfl⟩ : ∃ m, k = m + 1 := ⟨k - 1, by omega⟩
    have hlt : i < l.length := by omega
    rw [gridironref02_Check.l0, if_pos (by omega), if_pos (by omega)]
    have w1 : wrap64 ((i : Int) + 1) = ((i + 1 : Nat) : Int) := by rw [w64 (by omega) (by omega)]; omega
    have hm : rd l i ∈ l := by
      have : rd l (i : Int) = l[i] := by simp [rd, List.getD_eq_getElem?_getD, hlt]
      rw [this]; exact List.getElem_mem hlt
    by_cases h0 : rd l i < 0
    · rw [if_pos h0, if_neg (fun hf => by have := hf _ hm; omega)]
    · rw [if_neg h0]
      by_cases h1 : rd l i > 15
      · rw [if_pos h1, if_neg (fun hf => by have := hf _ hm; omega)]
      · rw [if_neg h1, w1]
        refine ih (i + 1) k (by omega) (by omega) ?_
        rw [List.take_succ_eq_append_getElem hlt]
        intro n hn
        rcases List.mem_append.1 hn with hn | hn
        · exact hft n hn
        · have : rd l (i : Int) = l[i] := by simp [rd, List.getD_eq_getElem?_getD, hlt]
          simp at hn; subst hn; rw [← this]; omega
/-- The document's Check. -/
theorem ref_check_is (l : List Int) (k : Nat) (hk : 2 * l.length + 2 < k) : gridironref02_Check.f k l = some (HP.check l) := by
  unfold gridironref02_Check.f HP.check
  by_cases h : l.length > 512
  · rw [if_pos (by omega), if_pos h]
  · rw [if_neg (by omega), if_neg h]
    have := ref_check_l0 l (by omega) (l.length + 1) (by omega) l.length 0 k (by omega) (by omega) (by intro n hn; simp at hn)
    rw [Int.natCast_zero] at this
    rw [this]
    by_cases hf : HP.fits l
    · rw [if_pos hf, if_neg (show ¬ ¬ HP.fits l from fun h => h hf)]
    · rw [if_neg hf, if_pos hf]
theorem same_l0 (a b : List Int) (hl : a.length = b.length) (hmax : a.length ≤ 140737488351232) : ∀ (d i k : Nat), i + d = a.length → d < k →
    gridironlaw02_sameCodes.l0 k a b (a.length : Int) i = some (decide (a.drop i = b.drop i)) := by
  intro d
  induction d with
  | zero =>
    intro i k hi hk
    obtain ⟨k, rfl⟩ : ∃ m, k = m + 1 := ⟨k - 1, by omega⟩
    rw [gridironlaw02_sameCodes.l0, if_neg (by omega), List.drop_eq_nil_of_le (by omega), List.drop_eq_nil_of_le (by omega)]; rfl
  | succ d ih =>
    intro i k hi hk
    obtain ⟨k, rfl⟩ : ∃ m, k = m + 1 := ⟨k - 1, by omega⟩
    have w1 : wrap64 ((i : Int) + 1) = ((i + 1 : Nat) : Int) := by rw [w64 (by omega) (by omega)]; omega
    rw [gridironlaw02_sameCodes.l0, if_pos (by omega), if_pos (by omega), if_pos (by omega), if_pos (by omega), w1]
    rw [drop_at (l := a) (i := i) (by omega), drop_at (l := b) (i := i) (by omega)]
    by_cases he : rd a i = rd b i
    · rw [if_pos he, ih (i + 1) k (by omega) (by omega), he]
      refine congrArg some ?_
      rw [decide_eq_decide]
      constructor
      · intro h; rw [h]
      · intro h; exact (List.cons.inj h).2
    · rw [if_neg he, decide_eq_false]
      intro h; exact he (List.cons.inj h).1
theorem same_is (a b : List Int) (hmax : a.length ≤ 140737488351232) (k : Nat) (hk : a.length < k) : gridironlaw02_sameCodes.f k a b = some (decide (a = b)) := by
  unfold gridironlaw02_sameCodes.f
  by_cases h : a.length = b.length
  · rw [if_pos (by omega)]
    have := same_l0 a b h hmax a.length 0 k (by omega) hk
    rwa [Int.natCast_zero, List.drop_zero, List.drop_zero] at this
  · rw [if_neg (by omega), decide_eq_false (fun e => h (by rw [e]))]
end Go.Proofs.Ytjajkgemjgehiaa.Hw
