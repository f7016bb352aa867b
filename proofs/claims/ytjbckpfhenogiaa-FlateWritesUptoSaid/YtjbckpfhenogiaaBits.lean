import Derived.Test.YtjbckpfhenogiaaWords
import Derived.Test.YtjbckpfhenogiaaBp
/- Plain facts on bytes and their bits; a writer's bytes. -/
namespace Go.Proofs.Ytjbckpfhenogiaa.Hw
open Go.RowKit Go.Proofs.YtjbckpfhenogiaaW.PrintWords Go.Proofs.YtjbckpfhenogiaaW.PrintLast Go.Proofs.YtjbckpfhenogiaaW.PrintMore
set_option linter.unusedVariables false
set_option linter.unusedSimpArgs false
/-! A reader's number. -/
def bitAt (bs : List Int) (i : Nat) : Bool := ((bs.getD (i / 8) 0).toNat).testBit (i % 8)
def IsBytes (bs : List Int) : Prop := ∀ b ∈ bs, 0 ≤ b ∧ b ≤ 255
theorem byte_range {bs : List Int} (h : IsBytes bs) (i : Nat) : 0 ≤ bs.getD i 0 ∧ bs.getD i 0 ≤ 255 := by
  by_cases hi : i < bs.length
  · have : bs.getD i 0 = bs[i] := by simp [List.getD_eq_getElem?_getD, hi]
    rw [this]; exact h _ (List.getElem_mem hi)
  · have : bs.getD i 0 = 0 := by simp [List.getD_eq_getElem?_getD, Nat.not_lt.mp hi]
    rw [this]; decide
theorem bitAt_end {bs : List Int} {i : Nat} (h : 8 * bs.length ≤ i) : bitAt bs i = false := by
  unfold bitAt
  have : bs.getD (i / 8) 0 = 0 := by
    have : bs.length ≤ i / 8 := by omega
    simp [List.getD_eq_getElem?_getD, this]
  rw [this]; simp
theorem bitAt_byte (bs : List Int) (i k : Nat) (hk : k < 8) : bitAt bs (8 * i + k) = ((bs.getD i 0).toNat).testBit k := by
  unfold bitAt
  have h1 : (8 * i + k) / 8 = i := by omega
  have h2 : (8 * i + k) % 8 = k := by omega
  rw [h1, h2]
/-- The next byte joins. -/
theorem numb_byte (bs : List Int) (hb : IsBytes bs) (first i : Nat) : BP.numb (fun k => bitAt bs (8 * first + k)) (8 * i) ||| (bs.getD (first + i) 0).toNat * 2 ^ (8 * i) = BP.numb (fun k => bitAt bs (8 * first + k)) (8 * (i + 1)) := by
  have hr := byte_range hb (first + i)
  apply Nat.eq_of_testBit_eq
  intro j
  rw [Nat.testBit_or, BP.testBit_numb, BP.testBit_numb, Nat.testBit_mul_two_pow]
  by_cases h1 : j < 8 * i
  · have h2 : j < 8 * (i + 1) := by omega
    have h3 : ¬ 8 * i ≤ j := by omega
    simp [h1, h2, h3]
  · have h3 : 8 * i ≤ j := by omega
    by_cases h2 : j < 8 * (i + 1)
    · have e : 8 * first + j = 8 * (first + i) + (j - 8 * i) := by omega
      rw [e, bitAt_byte _ _ _ (by omega)]
      simp [h1, h2, h3]
    · have h4 : ((bs.getD (first + i) 0).toNat).testBit (j - 8 * i) = false := by
        apply Nat.testBit_lt_two_pow
        have : (2 : Nat) ^ 8 ≤ 2 ^ (j - 8 * i) := Nat.pow_le_pow_right (by omega) (by omega)
        omega
      rw [h4]; simp [h1, h2]
theorem numb_none (bs : List Int) (first i : Nat) (h : bs.length ≤ first + i) : BP.numb (fun k => bitAt bs (8 * first + k)) (8 * i) = BP.numb (fun k => bitAt bs (8 * first + k)) (8 * (i + 1)) := by
  apply Nat.eq_of_testBit_eq
  intro j
  rw [BP.testBit_numb, BP.testBit_numb]
  by_cases h1 : j < 8 * i
  · have h2 : j < 8 * (i + 1) := by omega
    simp [h1, h2]
  · rw [bitAt_end (by omega)]; simp
/-- n bits from a place on. -/
def nbits (bs : List Int) (at_ n : Nat) : Nat := BP.numb (fun k => bitAt bs (at_ + k)) n
theorem nbits_lt (bs : List Int) (at_ n : Nat) : nbits bs at_ n < 2 ^ n := BP.numb_lt _ _
theorem numb_cut (bs : List Int) (first m s n : Nat) (h : s + n ≤ m) : BP.numb (fun k => bitAt bs (8 * first + k)) m / 2 ^ s % 2 ^ n = nbits bs (8 * first + s) n := by
  apply Nat.eq_of_testBit_eq
  intro j
  rw [nbits, Nat.testBit_mod_two_pow, Nat.testBit_div_two_pow, BP.testBit_numb, BP.testBit_numb]
  by_cases h1 : j < n
  · have h2 : j + s < m := by omega
    have e : 8 * first + s + j = 8 * first + (j + s) := by omega
    simp [h1, h2, e]
  · simp [h1]

/-! A writer's bytes. -/
def pack (L : List Bool) : List Int := (List.range ((L.length + 7) / 8)).map fun i => ((BP.numb (fun k => L.getD (8 * i + k) false) 8 : Nat) : Int)
theorem pack_length (L : List Bool) : (pack L).length = (L.length + 7) / 8 := by simp [pack]
theorem pack_nil : pack [] = [] := rfl
theorem pack_bytes (L : List Bool) : IsBytes (pack L) := by
  intro b hb
  simp only [pack, List.mem_map] at hb
  obtain ⟨i, _, rfl⟩ := hb
  have := BP.numb_lt (fun k => L.getD (8 * i + k) false) 8
  omega
theorem pack_getD (L : List Bool) (i : Nat) (h : 8 * i < L.length) : (pack L).getD i 0 = ((BP.numb (fun k => L.getD (8 * i + k) false) 8 : Nat) : Int) := by
  have : i < (L.length + 7) / 8 := by omega
  simp [pack, List.getD_eq_getElem?_getD, this]
theorem bitAt_pack (L : List Bool) (i : Nat) : bitAt (pack L) i = L.getD i false := by
  by_cases h : 8 * (i / 8) < L.length
  · unfold bitAt
    rw [pack_getD L _ h, Int.toNat_natCast, BP.testBit_numb]
    have h1 : i % 8 < 8 := by omega
    have h2 : 8 * (i / 8) + i % 8 = i := by omega
    rw [h2]; simp [h1]
  · rw [bitAt_end (by rw [pack_length]; omega)]
    simp [List.getD_eq_getElem?_getD, List.getElem?_eq_none (show L.length ≤ i by omega)]
/-- Bytes are what their bits say. -/
theorem bytes_ext {a b : List Int} (ha : IsBytes a) (hb : IsBytes b) (hl : a.length = b.length) (h : ∀ i, i < 8 * a.length → bitAt a i = bitAt b i) : a = b := by
  apply List.ext_getElem hl
  intro i h1 h2
  have ra := byte_range ha i
  have rb := byte_range hb i
  have ea : a.getD i 0 = a[i] := by simp [List.getD_eq_getElem?_getD, h1]
  have eb : b.getD i 0 = b[i] := by simp [List.getD_eq_getElem?_getD, h2]
  rw [ea] at ra
  rw [eb] at rb
  have : a[i].toNat = b[i].toNat := by
    apply Nat.eq_of_testBit_eq
    intro k
    by_cases hk : k < 8
    · have := h (8 * i + k) (by omega)
      rw [bitAt_byte _ _ _ hk, bitAt_byte _ _ _ hk, ea, eb] at this
      exact this
    · have h8 : (2 : Nat) ^ 8 ≤ 2 ^ k := Nat.pow_le_pow_right (by omega) (by omega)
      have e8 : (2 : Nat) ^ 8 = 256 := rfl
      rw [Nat.testBit_lt_two_pow (by omega), Nat.testBit_lt_two_pow (by omega)]
  omega
theorem getD_snoc (L : List Bool) (x : Bool) (i : Nat) : (L ++ [x]).getD i false = if i = L.length then x else L.getD i false := by
  rw [List.getD_eq_getElem?_getD, List.getD_eq_getElem?_getD]
  by_cases h : i < L.length
  · rw [List.getElem?_append_left h, if_neg (by omega)]
  · by_cases h2 : i = L.length
    · subst h2; simp
    · rw [if_neg h2, List.getElem?_eq_none (by simp; omega), List.getElem?_eq_none (by omega)]
/-- One bit more: the bytes ahead of it (a byte of 0 added if it begins one), and the byte into which it goes. -/
def room1 (L : List Bool) : List Int := if L.length % 8 = 0 then pack L ++ [0] else pack L
theorem room1_length (L : List Bool) : (room1 L).length = L.length / 8 + 1 := by
  unfold room1; split
  · rw [List.length_append, pack_length]; simp; omega
  · rw [pack_length]; omega
theorem room1_bytes (L : List Bool) : IsBytes (room1 L) := by
  unfold room1; split
  · intro b hb
    rcases List.mem_append.1 hb with hb | hb
    · exact pack_bytes L b hb
    · simp at hb; omega
  · exact pack_bytes L
theorem bitAt_room1 (L : List Bool) (i : Nat) : bitAt (room1 L) i = L.getD i false := by
  unfold room1; split
  · rw [← bitAt_pack]
    unfold bitAt
    congr 2
    rw [List.getD_eq_getElem?_getD, List.getD_eq_getElem?_getD]
    by_cases h : i / 8 < (pack L).length
    · rw [List.getElem?_append_left h]
    · rw [List.getElem?_append_right (by omega), List.getElem?_eq_none (l := pack L) (by omega)]
      rcases hz : i / 8 - (pack L).length with _ | z
      · rfl
      · rfl
  · exact bitAt_pack L i
theorem bitAt_set (bs : List Int) (j : Nat) (v : Int) (i : Nat) (h : j < bs.length) : bitAt (bs.set j v) i = if i / 8 = j then v.toNat.testBit (i % 8) else bitAt bs i := by
  unfold bitAt
  rw [List.getD_eq_getElem?_getD, List.getElem?_set]
  by_cases hij : j = i / 8
  · rw [if_pos hij, if_pos h, if_pos hij.symm]; rfl
  · rw [if_neg hij, if_neg (fun e => hij e.symm), List.getD_eq_getElem?_getD]
theorem pack_snoc (L : List Bool) (x : Bool) : pack (L ++ [x]) = (room1 L).set (L.length / 8) ((((room1 L).getD (L.length / 8) 0).toNat ||| (x.toNat * 2 ^ (L.length % 8)) : Nat) : Int) := by
  have hx : x.toNat * 2 ^ (L.length % 8) < 2 ^ 8 := by
    have : x.toNat ≤ 1 := by cases x <;> decide
    have h7 : (2 : Nat) ^ (L.length % 8) ≤ 2 ^ 7 := Nat.pow_le_pow_right (by omega) (by omega)
    have e7 : (2 : Nat) ^ 7 = 128 := rfl
    have e8 : (2 : Nat) ^ 8 = 256 := rfl
    have := Nat.mul_le_mul this h7
    omega
  have hr := byte_range (room1_bytes L) (L.length / 8)
  have ho : ((room1 L).getD (L.length / 8) 0).toNat ||| (x.toNat * 2 ^ (L.length % 8)) < 2 ^ 8 := by
    have e8 : (2 : Nat) ^ 8 = 256 := rfl
    exact Nat.or_lt_two_pow (by omega) hx
  apply bytes_ext (pack_bytes _)
  · intro b hb
    rcases List.mem_or_eq_of_mem_set hb with h | h
    · exact room1_bytes L b h
    · have e8 : (2 : Nat) ^ 8 = 256 := rfl
      omega
  · rw [pack_length, List.length_set, room1_length]; simp; omega
  · intro i _
    rw [bitAt_pack, bitAt_set _ _ _ _ (by rw [room1_length]; omega), getD_snoc, Int.toNat_natCast, Nat.testBit_or]
    by_cases hi : i / 8 = L.length / 8
    · rw [if_pos hi]
      have h1 : ((room1 L).getD (L.length / 8) 0).toNat.testBit (i % 8) = L.getD i false := by
        rw [← bitAt_room1 L i]; unfold bitAt; rw [hi]
      rw [h1, Nat.testBit_mul_two_pow]
      by_cases hil : i = L.length
      · subst hil
        have : L.getD L.length false = false := by simp
        rw [if_pos rfl, this]; cases x <;> simp
      · rw [if_neg hil]
        have : (decide (L.length % 8 ≤ i % 8) && x.toNat.testBit (i % 8 - L.length % 8)) = false := by
          by_cases hle : L.length % 8 ≤ i % 8
          · have : 0 < i % 8 - L.length % 8 := by omega
            obtain ⟨z, hz⟩ : ∃ z, i % 8 - L.length % 8 = z + 1 := ⟨_, (Nat.succ_pred_eq_of_pos this).symm⟩
            rw [hz]; cases x <;> simp [Nat.testBit_succ]
          · simp [hle]
        rw [this]; simp
    · rw [if_neg hi, bitAt_room1, if_neg (fun h => hi (by rw [h]))]
/-- Whole bytes behind bits that end a byte. -/
def bitsOf (bs : List Int) : List Bool := (List.range (8 * bs.length)).map (bitAt bs)
theorem bitsOf_length (bs : List Int) : (bitsOf bs).length = 8 * bs.length := by simp [bitsOf]
theorem bitsOf_getD (bs : List Int) (i : Nat) : (bitsOf bs).getD i false = bitAt bs i := by
  by_cases h : i < 8 * bs.length
  · simp [bitsOf, List.getD_eq_getElem?_getD, h]
  · rw [bitAt_end (by omega)]; simp [bitsOf, List.getD_eq_getElem?_getD, Nat.not_lt.mp h]
theorem pack_bitsOf {bs : List Int} (hb : IsBytes bs) : pack (bitsOf bs) = bs := by
  apply bytes_ext (pack_bytes _) hb
  · rw [pack_length, bitsOf_length]; omega
  · intro i _; rw [bitAt_pack, bitsOf_getD]
def aligned (L : List Bool) : List Bool := L ++ List.replicate ((8 - L.length % 8) % 8) false
theorem aligned_length (L : List Bool) : (aligned L).length = 8 * ((L.length + 7) / 8) := by simp [aligned]; omega
theorem aligned_getD (L : List Bool) (i : Nat) : (aligned L).getD i false = L.getD i false := by
  unfold aligned
  rw [List.getD_eq_getElem?_getD, List.getD_eq_getElem?_getD]
  by_cases h : i < L.length
  · rw [List.getElem?_append_left h]
  · rw [List.getElem?_append_right (by omega), List.getElem?_eq_none (l := L) (by omega), List.getElem?_replicate]
    split <;> rfl
theorem pack_aligned (L : List Bool) : pack (aligned L) = pack L := by
  apply bytes_ext (pack_bytes _) (pack_bytes _)
  · rw [pack_length, pack_length, aligned_length]; omega
  · intro i _; rw [bitAt_pack, bitAt_pack, aligned_getD]
theorem pack_append (L : List Bool) (bs : List Int) (hb : IsBytes bs) : pack (aligned L ++ bitsOf bs) = pack L ++ bs := by
  apply bytes_ext (pack_bytes _)
  · intro b h
    rcases List.mem_append.1 h with h | h
    · exact pack_bytes L b h
    · exact hb b h
  · rw [pack_length, List.length_append, List.length_append, aligned_length, bitsOf_length, pack_length]; omega
  · intro i _
    rw [bitAt_pack, List.getD_eq_getElem?_getD]
    by_cases h : i < (aligned L).length
    · rw [List.getElem?_append_left h, ← List.getD_eq_getElem?_getD, aligned_getD, ← bitAt_pack]
      unfold bitAt
      rw [List.getD_eq_getElem?_getD, List.getD_eq_getElem?_getD, List.getElem?_append_left (by rw [pack_length]; rw [aligned_length] at h; omega)]
    · have hl := aligned_length L
      rw [List.getElem?_append_right (by omega), ← List.getD_eq_getElem?_getD, bitsOf_getD]
      unfold bitAt
      rw [List.getD_eq_getElem?_getD, List.getD_eq_getElem?_getD, List.getElem?_append_right (by rw [pack_length]; omega)]
      have h1 : (i - (aligned L).length) / 8 = i / 8 - (pack L).length := by rw [pack_length]; omega
      have h2 : (i - (aligned L).length) % 8 = i % 8 := by omega
      rw [h1, h2]
end Go.Proofs.Ytjbckpfhenogiaa.Hw
