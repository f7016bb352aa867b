import Derived.Test.YtlepnpjlmcjedaaDread
import Derived.Test.YtlepnpjlmcjedaaBit2
/- The document's Read answers as the decoder does (plain). -/
namespace Go.Proofs.Ytlepnpjlmcjedaa.HP
theorem occ (l : List Int) (x : Int) (r : Nat) : ∀ k, k ≤ l.length → r < cnt (l.take k) x → ∃ j, j < k ∧ l.getD j 0 = x ∧ cnt (l.take j) x = r
  | 0, _, h => by simp [cnt] at h
  | k + 1, hk, h => by
    rw [cnt_take_succ l k (by omega) x] at h
    by_cases hr : r < cnt (l.take k) x
    · obtain ⟨j, h1, h2, h3⟩ := occ l x r k (by omega) hr
      exact ⟨j, by omega, h2, h3⟩
    · by_cases hx : l.getD k 0 = x
      · rw [if_pos hx] at h
        exact ⟨k, by omega, hx, by omega⟩
      · rw [if_neg hx] at h
        omega
/-- Each value below 'part' begins with a code. -/
theorem cover (l : List Int) : ∀ (n v : Nat), v < part l (n + 1) → ∃ j, j < l.length ∧ 0 < l.getD j 0 ∧ l.getD j 0 ≤ ((n + 1 : Nat) : Int) ∧ codeAt l j = v / 2 ^ (n + 1 - (l.getD j 0).toNat)
  | 0, v, h => by
    have h2 : v < cnt l 1 := by simpa [part, fst] using h
    obtain ⟨j, h3, h4, h5⟩ := occ l 1 v l.length (Nat.le_refl _) (by rw [List.take_length]; exact h2)
    refine ⟨j, h3, by omega, by omega, ?_⟩
    rw [h4]
    unfold codeAt
    rw [if_pos (by omega), h4, h5]
    simp [fst]
  | n + 1, v, h => by
    rw [part_succ] at h
    by_cases hv : v < 2 * part l (n + 1)
    · obtain ⟨j, h1, h2, h3, h4⟩ := cover l n (v / 2) (by omega)
      refine ⟨j, h1, h2, by omega, ?_⟩
      rw [h4, Nat.div_div_eq_div_mul, ← Nat.pow_succ']
      congr 2
      omega
    · obtain ⟨j, h3, h4, h5⟩ := occ l ((n + 2 : Nat) : Int) (v - 2 * part l (n + 1)) l.length (Nat.le_refl _) (by rw [List.take_length]; omega)
      refine ⟨j, h3, by omega, by omega, ?_⟩
      unfold codeAt
      rw [if_pos (by omega), h4, h5, Int.toNat_natCast, Nat.sub_self, Nat.pow_zero, Nat.div_one]
      have : fst l (n + 2) = 2 * part l (n + 1) := rfl
      omega
end HP
namespace Hw
open Go.RowKit Go.Proofs.YtlepnpjlmcjedaaW.PrintWords Go.Proofs.YtlepnpjlmcjedaaW.PrintLast Go.Proofs.YtlepnpjlmcjedaaW.PrintMore Go.Proofs.Ytlepnpjlmcjedaa.PH
set_option linter.unusedVariables false
set_option linter.unusedSimpArgs false
/-- A code matches. -/
def Hit (l : List Int) (j : Nat) (c n : Nat) : Prop := 0 < l.getD j 0 ∧ HP.codeAt l j = c ∧ l.getD j 0 = (n : Int)
theorem sym_cond {l : List Int} {j : Nat} (hj : j < l.length) (c n : Nat) : (0 < l.getD j 0 ∧ (HP.codes l).getD j 0 = ((c : Nat) : Int) ∧ l.getD j 0 = ((n : Nat) : Int)) ↔ Hit l j c n := by
  unfold Hit
  have h := codes_rd l j hj
  rw [rd_nat] at h
  rw [h]
  constructor
  · rintro ⟨a, b, c⟩; exact ⟨a, by omega, c⟩
  · rintro ⟨a, b, c⟩; exact ⟨a, by omega, c⟩
theorem sym_none {l : List Int} (c n : Nat) : ∀ k, k ≤ l.length → (sym l (HP.codes l) k (c : Int) (n : Int) = none ↔ ∀ j, j < k → ¬ Hit l j c n)
  | 0, _ => by simp [sym]
  | k + 1, hk => by
    unfold sym
    by_cases h : Hit l k c n
    · rw [if_pos ((sym_cond (by omega) c n).2 h)]
      constructor
      · intro e; cases e
      · intro e; exact absurd h (e k (by omega))
    · rw [if_neg (fun e => h ((sym_cond (by omega) c n).1 e)), sym_none c n k (by omega)]
      constructor
      · intro e j hj
        by_cases hjk : j = k
        · subst hjk; exact h
        · exact e j (by omega)
      · intro e j hj; exact e j (by omega)
theorem sym_some {l : List Int} (c n s : Nat) : ∀ k, k ≤ l.length → sym l (HP.codes l) k (c : Int) (n : Int) = some s → s < k ∧ Hit l s c n
  | 0, _, h => by simp [sym] at h
  | k + 1, hk, h => by
    unfold sym at h
    by_cases hh : Hit l k c n
    · rw [if_pos ((sym_cond (by omega) c n).2 hh)] at h
      obtain rfl := Option.some.inj h
      exact ⟨by omega, hh⟩
    · rw [if_neg (fun e => hh ((sym_cond (by omega) c n).1 e))] at h
      obtain ⟨h1, h2⟩ := sym_some c n s k (by omega) h
      exact ⟨by omega, h2⟩
theorem hit_one {l : List Int} {i j : Nat} (hi : i < l.length) (hj : j < l.length) {c n : Nat} (h : Hit l i c n) (k : Hit l j c n) : i = j := by
  apply Decidable.byContradiction
  intro hne
  have := (HP.alone l i j hi hj (fun e => hne e.symm) h.1 (by rw [h.2.2, k.2.2]; exact Int.le_refl _)).1
  rw [h.2.2, k.2.2, Nat.sub_self, Nat.pow_zero, Nat.div_one, h.2.1, k.2.1] at this
  exact this rfl
theorem sym_is {l : List Int} {j : Nat} (hj : j < l.length) {c n : Nat} (h : Hit l j c n) : sym l (HP.codes l) l.length (c : Int) (n : Int) = some j := by
  cases e : sym l (HP.codes l) l.length (c : Int) (n : Int) with
  | none => exact absurd h ((sym_none c n l.length (Nat.le_refl _)).1 e j hj)
  | some s =>
    obtain ⟨h1, h2⟩ := sym_some c n s l.length (Nat.le_refl _) e
    rw [hit_one h1 hj h2 h]
/-- A longer code begins with c. -/
def Long (l : List Int) (j : Nat) (c n : Nat) : Prop := (n : Int) < l.getD j 0 ∧ HP.codeAt l j / 2 ^ ((l.getD j 0).toNat - n) = c
instance (l : List Int) (j c n : Nat) : Decidable (Hit l j c n) := by unfold Hit; exact inferInstance
instance (l : List Int) (j c n : Nat) : Decidable (Long l j c n) := by unfold Long; exact inferInstance
/-- What stands behind the search of one level. -/
def lvl (K : Nat) (l bs : List Int) (at_ c n : Nat) (b : Bool) : Option (Int × Int × Int) :=
  if b = true then ((gridironref02_Bit.f bs (at_ : Int)).bind fun bt189 => (if bt189.2 = true then (gridironref02_Read.l0 K l (HP.codes l) bs (wrap64 ((at_ : Int) + 1)) (((((c : Int) * 2) % 4294967296) + bt189.1) % 4294967296) (wrap64 ((n : Int) + 1))) else (some (0, (at_ : Int), 11)))) else (some (0, (at_ : Int), 22))
/-- The first match from i on. -/
def scan (l : List Int) (c n : Nat) : Nat → Nat → Option Nat
  | _, 0 => none
  | i, d + 1 => if Hit l i c n then some i else scan l c n (i + 1) d
/-- Does a longer code begin so, from i on. -/
def anyL (l : List Int) (c n : Nat) : Nat → Nat → Bool
  | _, 0 => false
  | i, d + 1 => decide (Long l i c n) || anyL l c n (i + 1) d
theorem shr_u32 (a s : Nat) (hs : s ≤ 32) : shr .u32 (a : Int) (s : Int) = ((a / 2 ^ s : Nat) : Int) := by
  unfold shr
  rw [Int.toNat_natCast, Nat.min_eq_left (show s ≤ IntKind.u32.bits from hs), two_pow_cast]; rfl
theorem codes_len (l : List Int) : (HP.codes l).length = l.length := by simp [HP.codes]
theorem ref_l1 (l bs : List Int) (hl : l.length ≤ 512) (hf : HP.fits l) (at_ c n K : Nat) (hn : n ≤ 15) : ∀ (d i : Nat) (b : Bool), i + d = l.length →
    gridironref02_Read.l1 (K + d + 1) l (HP.codes l) bs (at_ : Int) (c : Int) (n : Int) b (i : Int) = (match scan l c n i d with | some j => some ((j : Int), (at_ : Int), 0) | none => lvl K l bs at_ c n (b || anyL l c n i d)) := by
  intro d
  induction d with
  | zero =>
    intro i b h
    simp only [gridironref02_Read.l1, scan, anyL, Bool.or_false]
    rw [if_neg (by omega)]
    rfl
  | succ d ih =>
    intro i b h
    have hlt : i < l.length := by omega
    have hfi := rd_fits hlt hf
    have hw : wrap64 ((i : Int) + 1) = ((i + 1 : Nat) : Int) := w64n (by omega) (by omega)
    have hcd := codes_rd l i hlt
    have hcl := codes_len l
    have hrl : rd l (i : Int) = l.getD i 0 := rd_nat l i
    simp only [show K + (d + 1) + 1 = (K + d + 1) + 1 from rfl, gridironref02_Read.l1]
    rw [if_pos (by omega), if_pos (by omega)]
    have hrec : ∀ b', gridironref02_Read.l1 (K + d + 1) l (HP.codes l) bs (at_ : Int) (c : Int) (n : Int) b' (wrap64 ((i : Int) + 1)) = (match scan l c n (i + 1) d with | some j => some ((j : Int), (at_ : Int), 0) | none => lvl K l bs at_ c n (b' || anyL l c n (i + 1) d)) := fun b' => by rw [hw]; exact ih (i + 1) b' (by omega)
    have hlong : (if rd l (i : Int) > (n : Int) then (if 0 ≤ wrap64 (rd l (i : Int) - (n : Int)) then (gridironref02_Read.l1 (K + d + 1) l (HP.codes l) bs (at_ : Int) (c : Int) (n : Int) (shr .u32 (rd (HP.codes l) (i : Int)) (wrap64 (rd l (i : Int) - (n : Int))) == (c : Int)) (wrap64 ((i : Int) + 1))) else none) else (gridironref02_Read.l1 (K + d + 1) l (HP.codes l) bs (at_ : Int) (c : Int) (n : Int) false (wrap64 ((i : Int) + 1)))) = (match scan l c n (i + 1) d with | some j => some ((j : Int), (at_ : Int), 0) | none => lvl K l bs at_ c n (decide (Long l i c n) || anyL l c n (i + 1) d)) := by
      by_cases hg : (n : Int) < l.getD i 0
      · have hs : wrap64 (rd l (i : Int) - (n : Int)) = (((l.getD i 0).toNat - n : Nat) : Int) := by rw [hrl]; exact w64n (by omega) (by omega)
        rw [if_pos (by omega), hs, if_pos (by omega), hrec, hcd, shr_u32 _ _ (by omega)]
        have e : (((HP.codeAt l i / 2 ^ ((l.getD i 0).toNat - n) : Nat) : Int) == (c : Int)) = decide (Long l i c n) := by
          by_cases hq : HP.codeAt l i / 2 ^ ((l.getD i 0).toNat - n) = c
          · rw [hq, decide_eq_true (show Long l i c n from ⟨hg, hq⟩)]; exact beq_self_eq_true _
          · rw [decide_eq_false (show ¬ Long l i c n from fun h => hq h.2)]; exact beq_eq_false_iff_ne.2 (fun h => hq (Int.ofNat.inj h))
        rw [e]
      · rw [if_neg (by omega), hrec]
        have e : decide (Long l i c n) = false := decide_eq_false (fun h => hg h.1)
        rw [e]
    have hmiss : (if b = true then (gridironref02_Read.l1 (K + d + 1) l (HP.codes l) bs (at_ : Int) (c : Int) (n : Int) true (wrap64 ((i : Int) + 1))) else (if rd l (i : Int) > (n : Int) then (if 0 ≤ wrap64 (rd l (i : Int) - (n : Int)) then (gridironref02_Read.l1 (K + d + 1) l (HP.codes l) bs (at_ : Int) (c : Int) (n : Int) (shr .u32 (rd (HP.codes l) (i : Int)) (wrap64 (rd l (i : Int) - (n : Int))) == (c : Int)) (wrap64 ((i : Int) + 1))) else none) else (gridironref02_Read.l1 (K + d + 1) l (HP.codes l) bs (at_ : Int) (c : Int) (n : Int) false (wrap64 ((i : Int) + 1))))) = (match scan l c n (i + 1) d with | some j => some ((j : Int), (at_ : Int), 0) | none => lvl K l bs at_ c n (b || (decide (Long l i c n) || anyL l c n (i + 1) d))) := by
      cases b with
      | true => rw [if_pos rfl, hrec]; rfl
      | false => rw [if_neg (by decide), hlong]; rfl
    have hin : ∀ {α : Type} (x y : α), (if (i : Int) < ((HP.codes l).length : Int) then x else y) = x := fun x y => if_pos (by rw [hcl]; omega)
    by_cases hh : Hit l i c n
    · have e : scan l c n i (d + 1) = some i := by unfold scan; exact if_pos hh
      rw [e]
      obtain ⟨h1, h2, h3⟩ := hh
      rw [if_pos (by omega), if_pos (by omega), hin, if_pos (by rw [hcd, h2])]
    · have e : scan l c n i (d + 1) = scan l c n (i + 1) d := by
        show (if Hit l i c n then some i else scan l c n (i + 1) d) = _
        exact if_neg hh
      rw [e]
      show _ = (match scan l c n (i + 1) d with | some j => some ((j : Int), (at_ : Int), 0) | none => lvl K l bs at_ c n (b || (decide (Long l i c n) || anyL l c n (i + 1) d)))
      simp only [hin]
      by_cases ha : rd l (i : Int) = (n : Int)
      · rw [if_pos ha]
        by_cases hp : (n : Int) > 0
        · rw [if_pos hp, if_neg (fun hx => hh ⟨by omega, by omega, by omega⟩)]
          exact hmiss
        · rw [if_neg hp]
          exact hmiss
      · rw [if_neg ha]
        exact hmiss
theorem scan_none {l : List Int} {c n : Nat} : ∀ (d i : Nat), (∀ j, i ≤ j → j < i + d → ¬ Hit l j c n) → scan l c n i d = none
  | 0, _, _ => rfl
  | d + 1, i, h => by
    unfold scan
    rw [if_neg (h i (Nat.le_refl _) (by omega))]
    exact scan_none d (i + 1) (fun j h1 h2 => h j (by omega) (by omega))
theorem scan_some {l : List Int} {c n : Nat} : ∀ (d i j : Nat), i ≤ j → j < i + d → Hit l j c n → ∃ s, scan l c n i d = some s ∧ s < i + d ∧ Hit l s c n
  | 0, i, j, h1, h2, _ => by omega
  | d + 1, i, j, h1, h2, h => by
    unfold scan
    by_cases hh : Hit l i c n
    · exact ⟨i, if_pos hh, by omega, hh⟩
    · rw [if_neg hh]
      obtain ⟨s, a, b, e⟩ := scan_some d (i + 1) j (by
        rcases Nat.eq_or_lt_of_le h1 with e | e
        · subst e; exact absurd h hh
        · exact e) (by omega) h
      exact ⟨s, a, by omega, e⟩
theorem anyL_true {l : List Int} {c n : Nat} : ∀ (d i j : Nat), i ≤ j → j < i + d → Long l j c n → anyL l c n i d = true
  | 0, i, j, h1, h2, _ => by omega
  | d + 1, i, j, h1, h2, h => by
    unfold anyL
    by_cases e : j = i
    · subst e; rw [decide_eq_true h]; rfl
    · rw [anyL_true d (i + 1) j (by omega) (by omega) h, Bool.or_true]
theorem anyL_false {l : List Int} {c n : Nat} : ∀ (d i : Nat), (∀ j, i ≤ j → j < i + d → ¬ Long l j c n) → anyL l c n i d = false
  | 0, _, _ => rfl
  | d + 1, i, h => by
    unfold anyL
    rw [decide_eq_false (h i (Nat.le_refl _) (by omega)), anyL_false d (i + 1) (fun j h1 h2 => h j (by omega) (by omega))]
    rfl
theorem ref_bit_end (bs : List Int) (hl : bs.length ≤ 140737488355328) (k : Nat) (hk : 8 * bs.length ≤ k) : gridironref02_Bit.f bs (k : Int) = some (0, false) := by
  unfold gridironref02_Bit.f
  have w1 : wrap64 (8 * (bs.length : Int)) = ((8 * bs.length : Nat) : Int) := w64n (by omega) (by omega)
  rw [if_neg (by omega), w1, if_pos (by omega)]
theorem lng_ge (l : List Int) : ∀ k j, j < k → l.getD j 0 ≤ lng l k
  | 0, j, h => by omega
  | k + 1, j, h => by
    unfold lng
    by_cases e : j = k
    · subst e
      split <;> rename_i hp
      · omega
      · have : ∀ k, 0 ≤ lng l k := fun k => by
          induction k with
          | zero => exact Int.le_refl _
          | succ k ih => unfold lng; split <;> omega
        have := this j
        omega
    · have := lng_ge l k j (by omega)
      split <;> omega
theorem lng_att (l : List Int) : ∀ k, 0 < lng l k → ∃ j, j < k ∧ 0 < l.getD j 0
  | 0, h => by simp [lng] at h
  | k + 1, h => by
    by_cases hp : 0 < l.getD k 0
    · exact ⟨k, by omega, hp⟩
    · unfold lng at h
      rw [if_neg hp] at h
      obtain ⟨j, h1, h2⟩ := lng_att l k h
      exact ⟨j, by omega, h2⟩
theorem lng_le (l : List Int) (m : Int) (hm : 0 ≤ m) (h : ∀ j, j < l.length → l.getD j 0 ≤ m) : ∀ k, k ≤ l.length → lng l k ≤ m
  | 0, _ => hm
  | k + 1, hk => by
    have := h k (by omega)
    have := lng_le l m hm h k (by omega)
    unfold lng
    split <;> omega
theorem many_ones : ∀ {l : List Int}, HP.many l = HP.ones l → ∀ x ∈ l, x ≤ 1
  | [], _, x, hx => by cases hx
  | y :: l, h, x, hx => by
    have hle : ∀ l : List Int, HP.ones l ≤ HP.many l := fun l => by
      induction l with
      | nil => exact Nat.le_refl _
      | cons z l ih => unfold HP.ones HP.many; split <;> split <;> omega
    have := hle l
    unfold HP.many HP.ones at h
    have h2 : HP.many l = HP.ones l ∧ y ≤ 1 := by
      split at h <;> split at h <;> constructor <;> omega
    cases hx with
    | head => exact h2.2
    | tail _ hx => exact many_ones h2.1 x hx
theorem many_none : ∀ {l : List Int}, HP.many l = 0 → ∀ x ∈ l, x ≤ 0
  | [], _, x, hx => by cases hx
  | y :: l, h, x, hx => by
    unfold HP.many at h
    have h2 : HP.many l = 0 ∧ y ≤ 0 := by split at h <;> constructor <;> omega
    cases hx with
    | head => exact h2.2
    | tail _ hx => exact many_none h2.1 x hx
theorem getD_le {l : List Int} {m : Int} (h : ∀ x ∈ l, x ≤ m) (j : Nat) (hj : j < l.length) : l.getD j 0 ≤ m := by
  rw [List.getD_eq_getElem?_getD, List.getElem?_eq_getElem hj]
  exact h _ (List.getElem_mem hj)
/-- Where a code is whole, each value of the longest length begins with a code. -/
theorem whole {l : List Int} (h : HP.check l = 0) {L : Nat} (hL : lng l l.length = (L : Int)) (hL1 : 1 < L) (hL15 : L ≤ 15) : HP.part l L = 2 ^ L := by
  obtain ⟨_, hf, _, hc⟩ := HP.check_ok h
  have hroom : HP.room l = 32768 := by
    rcases hc with h0 | h1 | ⟨h1, h2⟩
    · have := lng_le l 0 (Int.le_refl _) (getD_le (many_none h0)) l.length (Nat.le_refl _)
      omega
    · exact h1
    · have ho := (HP.many_one hf h1).2 h2
      have := lng_le l 1 (by omega) (getD_le (many_ones (h1.trans ho.symm))) l.length (Nat.le_refl _)
      omega
  have hno : ∀ m : Nat, L < m → HP.cnt l (m : Int) = 0 := fun m hm => by
    unfold HP.cnt
    rw [List.countP_eq_zero]
    intro x hx
    simp only [decide_eq_true_eq]
    intro e
    obtain ⟨j, hj, rfl⟩ := List.getElem_of_mem hx
    have := lng_ge l l.length j hj
    rw [List.getD_eq_getElem?_getD, List.getElem?_eq_getElem hj] at this
    simp only [Option.getD_some] at this
    omega
  have hru : ∀ d, L + d ≤ 15 → HP.ru l (L + d) = HP.ru l L := by
    intro d
    induction d with
    | zero => intro _; rfl
    | succ d ih =>
      intro hd
      have := ih (by omega)
      show HP.ru l (L + d) + HP.cnt l ((L + d + 1 : Nat) : Int) * 2 ^ (14 - (L + d)) = _
      rw [hno _ (by omega), this]; omega
  have h15 := hru (15 - L) (by omega)
  rw [show L + (15 - L) = 15 from by omega, HP.ru_room hf, hroom] at h15
  obtain ⟨m, rfl⟩ : ∃ m, L = m + 1 := ⟨L - 1, by omega⟩
  have h1 := HP.part_ru l m (by omega)
  rw [← h15] at h1
  have e : 2 ^ (m + 1) * 2 ^ (14 - m) = 32768 := by rw [← Nat.pow_add, show m + 1 + (14 - m) = 15 from by omega]
  exact Nat.eq_of_mul_eq_mul_right (Nat.two_pow_pos (14 - m)) (h1.trans e.symm)
/-- No code of a length up to n begins c. -/
def NoPre (l : List Int) (n c : Nat) : Prop := ∀ j, j < l.length → 0 < l.getD j 0 → l.getD j 0 ≤ (n : Int) → HP.codeAt l j ≠ c / 2 ^ (n - (l.getD j 0).toNat)
theorem NoPre.hit {l : List Int} {n c : Nat} (h : NoPre l n c) (j : Nat) (hj : j < l.length) : ¬ Hit l j c n := fun hh => by
  refine h j hj hh.1 (by rw [hh.2.2]; exact Int.le_refl _) ?_
  rw [hh.2.2, hh.2.1, Int.toNat_natCast, Nat.sub_self, Nat.pow_zero, Nat.div_one]
theorem NoPre.next {l : List Int} {n c x : Nat} (h : NoPre l n c) (hx : x ≤ 1) (h2 : ∀ j, j < l.length → ¬ Hit l j (2 * c + x) (n + 1)) : NoPre l (n + 1) (2 * c + x) := by
  intro j hj hp hle e
  by_cases hn : l.getD j 0 = ((n + 1 : Nat) : Int)
  · refine h2 j hj ⟨hp, ?_, hn⟩
    rw [e, hn, Int.toNat_natCast, Nat.sub_self, Nat.pow_zero, Nat.div_one]
  · refine h j hj hp (by omega) ?_
    rw [e, show n + 1 - (l.getD j 0).toNat = (n - (l.getD j 0).toNat) + 1 from by omega, Nat.pow_succ', ← Nat.div_div_eq_div_mul, show (2 * c + x) / 2 = c from by omega]
theorem goes_on {l : List Int} (h : HP.check l = 0) {L : Nat} (hL : lng l l.length = (L : Int)) (hL15 : L ≤ 15) {n c : Nat} (hn : n < L) (hc : c < 2 ^ n) (hno : NoPre l n c) : ∃ j, j < l.length ∧ Long l j c n := by
  obtain ⟨_, hf, hroom, _⟩ := HP.check_ok h
  by_cases h0 : n = 0
  · subst h0
    obtain ⟨j, hj, hp⟩ := lng_att l l.length (by omega)
    refine ⟨j, hj, by omega, ?_⟩
    have := HP.code_lt_pow hf hroom j hj hp
    rw [Nat.sub_zero, Nat.div_eq_of_lt this]
    have : 2 ^ 0 = 1 := rfl
    omega
  · have hw := whole h hL (by omega) hL15
    have hv : c * 2 ^ (L - n) < HP.part l L := by
      rw [hw]
      have e : 2 ^ L = 2 ^ n * 2 ^ (L - n) := by rw [← Nat.pow_add]; congr 1; omega
      rw [e]
      exact Nat.mul_lt_mul_of_pos_right hc (Nat.two_pow_pos _)
    obtain ⟨m, rfl⟩ : ∃ m, L = m + 1 := ⟨L - 1, by omega⟩
    obtain ⟨j, h1, h2, h3, h4⟩ := HP.cover l m _ hv
    by_cases hln : l.getD j 0 ≤ (n : Int)
    · refine absurd ?_ (hno j h1 h2 hln)
      rw [h4, show m + 1 - (l.getD j 0).toNat = (m + 1 - n) + (n - (l.getD j 0).toNat) from by omega, Nat.pow_add, ← Nat.div_div_eq_div_mul, Nat.mul_div_cancel _ (Nat.two_pow_pos _)]
    · refine ⟨j, h1, by omega, ?_⟩
      rw [h4, Nat.div_div_eq_div_mul, ← Nat.pow_add, show m + 1 - (l.getD j 0).toNat + ((l.getD j 0).toNat - n) = m + 1 - n from by omega, Nat.mul_div_cancel _ (Nat.two_pow_pos _)]
theorem next_code {c : Nat} (x : Bool) (hc : c < 16384) : (((c : Int) * 2) % 4294967296 + ((x.toNat : Nat) : Int)) % 4294967296 = ((2 * c + x.toNat : Nat) : Int) := by
  have hx : x.toNat ≤ 1 := by cases x <;> decide
  omega
theorem next_lt {c n : Nat} (x : Bool) (hc : c < 2 ^ n) : 2 * c + x.toNat < 2 ^ (n + 1) := by
  have hx : x.toNat ≤ 1 := by cases x <;> decide
  rw [Nat.pow_succ]; omega
theorem l0_hit (l bs : List Int) (hl : l.length ≤ 512) (hf : HP.fits l) (a c n K k s : Nat) (hn : n ≤ 15) (hk : k = (K + l.length + 1) + 1) (hsc : scan l c n 0 l.length = some s) :
    gridironref02_Read.l0 k l (HP.codes l) bs (a : Int) (c : Int) (n : Int) = some ((s : Int), (a : Int), 0) := by
  subst hk
  simp only [gridironref02_Read.l0]
  rw [if_pos (by omega), show (0 : Int) = ((0 : Nat) : Int) from rfl, ref_l1 l bs hl hf a c n _ hn l.length 0 false (by omega), hsc]
  rfl
theorem ref_go (l bs : List Int) (h : HP.check l = 0) (hb : IsBytes bs) (hbl : bs.length ≤ 140737488351232) {L : Nat} (hL : lng l l.length = (L : Int)) (hL15 : L ≤ 15) (E : Nat) : ∀ (d n c a : Nat), n + d = L → c < 2 ^ n → NoPre l n c → a ≤ 8 * bs.length →
    ∃ a' : Nat, gridironref02_Read.l0 ((d + 1) * (l.length + 2) + E) l (HP.codes l) bs (a : Int) (c : Int) (n : Int) = some ((dgo (sym l (HP.codes l) l.length) bs d (n + 1) c a).1, (a' : Int), (dgo (sym l (HP.codes l) l.length) bs d (n + 1) c a).2.2) ∧ ((dgo (sym l (HP.codes l) l.length) bs d (n + 1) c a).2.2 = 0 → a' = (dgo (sym l (HP.codes l) l.length) bs d (n + 1) c a).2.1) := by
  obtain ⟨hl, hf, hroom, _⟩ := HP.check_ok h
  intro d
  induction d with
  | zero =>
    intro n c a hn hc hno ha
    have e0 : (0 + 1) * (l.length + 2) + E = (E + l.length + 1) + 1 := by omega
    refine ⟨a, ?_, fun e => by simp [dgo] at e⟩
    rw [e0]
    simp only [gridironref02_Read.l0]
    rw [if_pos (by omega), show (0 : Int) = ((0 : Nat) : Int) from rfl, ref_l1 l bs hl hf a c n E (by omega) l.length 0 false (by omega)]
    rw [scan_none l.length 0 (fun j _ hj => hno.hit j (by omega)), anyL_false l.length 0 (fun j _ hj hh => by have := lng_ge l l.length j (by omega); have := hh.1; omega)]
    rfl
  | succ d ih =>
    intro n c a hn hc hno ha
    have e0 : (d + 1 + 1) * (l.length + 2) + E = (((d + 1) * (l.length + 2) + E) + l.length + 1) + 1 := by
      rw [Nat.succ_mul (d + 1)]; omega
    obtain ⟨j0, hj0, hlg⟩ := goes_on h hL hL15 (by omega) hc hno
    have hlv : gridironref02_Read.l0 ((d + 1 + 1) * (l.length + 2) + E) l (HP.codes l) bs (a : Int) (c : Int) (n : Int) = lvl ((d + 1) * (l.length + 2) + E) l bs a c n true := by
      rw [e0]
      simp only [gridironref02_Read.l0]
      rw [if_pos (by omega), show (0 : Int) = ((0 : Nat) : Int) from rfl, ref_l1 l bs hl hf a c n _ (by omega) l.length 0 false (by omega)]
      rw [scan_none l.length 0 (fun j _ hj => hno.hit j (by omega)), anyL_true l.length 0 j0 (by omega) (by omega) hlg]
      rfl
    rw [hlv]
    clear hlv hlg hj0 e0
    unfold lvl
    rw [if_pos rfl]
    by_cases hend : a < 8 * bs.length
    · rw [ref_bit_is bs hb (by omega) a hend]
      simp only [Option.bind_some, if_true]
      have hp : 2 ^ n ≤ 16384 := Nat.le_trans (Nat.pow_le_pow_right (by omega) (show n ≤ 14 by omega)) (by decide)
      have ew1 : wrap64 ((a : Int) + 1) = ((a + 1 : Nat) : Int) := w64n (by omega) (by omega)
      have ew2 : wrap64 ((n : Int) + 1) = ((n + 1 : Nat) : Int) := w64n (by omega) (by omega)
      have ew3 := next_code (bitAt bs a) (Nat.lt_of_lt_of_le hc hp)
      have hc2 : 2 * c + (bitAt bs a).toNat < 2 ^ (n + 1) := next_lt (bitAt bs a) hc
      have hxb : (bitAt bs a).toNat ≤ 1 := by cases bitAt bs a <;> decide
      rw [ew1, ew2, ew3]
      clear ew1 ew2 ew3 hp
      cases hs : sym l (HP.codes l) l.length ((2 * c + (bitAt bs a).toNat : Nat) : Int) ((n + 1 : Nat) : Int) with
      | none =>
        rw [dgo_none hend hs]
        exact ih (n + 1) (2 * c + (bitAt bs a).toNat) (a + 1) (by omega) hc2 (hno.next hxb (fun j hj => (sym_none _ _ l.length (Nat.le_refl _)).1 hs j hj)) (by omega)
      | some s =>
        rw [dgo_some hend hs]
        obtain ⟨hs1, hs2⟩ := sym_some _ _ s l.length (Nat.le_refl _) hs
        obtain ⟨s', hsc, hs3, hs4⟩ := scan_some l.length 0 s (Nat.zero_le _) (by omega) hs2
        obtain rfl := hit_one (by omega) hs1 hs4 hs2
        have e1 : (d + 1) * (l.length + 2) + E = ((d * (l.length + 2) + E) + l.length + 1) + 1 := by rw [Nat.succ_mul]; omega
        exact ⟨a + 1, l0_hit l bs hl hf (a + 1) _ (n + 1) _ _ s' (by omega) e1 hsc, fun _ => rfl⟩
    · rw [ref_bit_end bs (by omega) a (by omega), dgo_end hend]
      exact ⟨a, rfl, fun e => by simp at e⟩
theorem ref_read_is (l bs : List Int) (h : HP.check l = 0) (hb : IsBytes bs) (hbl : bs.length ≤ 140737488351232) {L : Nat} (hL : lng l l.length = (L : Int)) (hL15 : L ≤ 15) (a k : Nat) (ha : a ≤ 8 * bs.length) (hk : (L + 1) * (l.length + 2) ≤ k) :
    ∃ a' : Nat, gridironref02_Read.f k l (HP.codes l) bs (a : Int) = some ((dgo (sym l (HP.codes l) l.length) bs L 1 0 a).1, (a' : Int), (dgo (sym l (HP.codes l) l.length) bs L 1 0 a).2.2) ∧ ((dgo (sym l (HP.codes l) l.length) bs L 1 0 a).2.2 = 0 → a' = (dgo (sym l (HP.codes l) l.length) bs L 1 0 a).2.1) := by
  obtain ⟨E, rfl⟩ : ∃ E, k = (L + 1) * (l.length + 2) + E := ⟨k - (L + 1) * (l.length + 2), by omega⟩
  exact ref_go l bs h hb hbl hL hL15 E L 0 0 a (by omega) (by decide) (fun j _ h1 h2 => by omega) ha
end Hw
end Go.Proofs.Ytlepnpjlmcjedaa
