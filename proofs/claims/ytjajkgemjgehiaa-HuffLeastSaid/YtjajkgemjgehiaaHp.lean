/- Plain facts on the lengths and codes of Huffman codes (no program). -/
set_option linter.unusedVariables false
set_option linter.unusedSimpArgs false
namespace Go.Proofs.Ytjajkgemjgehiaa
namespace HP
/-! Plain facts on lengths and codes (huff). -/
def room : List Int → Nat
  | [] => 0
  | n :: l => (if n > 0 then 2 ^ (15 - n.toNat) else 0) + room l
def many : List Int → Nat
  | [] => 0
  | n :: l => (if n > 0 then 1 else 0) + many l
def ones : List Int → Nat
  | [] => 0
  | n :: l => (if n = 1 then 1 else 0) + ones l
def fits (l : List Int) : Prop := ∀ n ∈ l, 0 ≤ n ∧ n ≤ 15
instance (l : List Int) : Decidable (fits l) := by unfold fits; infer_instance
theorem fits_cons {n : Int} {l : List Int} : fits (n :: l) ↔ (0 ≤ n ∧ n ≤ 15) ∧ fits l := by simp [fits]
theorem many_zero {l : List Int} : many l = 0 → room l = 0 ∧ ones l = 0 := by
  induction l with
  | nil => simp [room, ones]
  | cons n l ih =>
    intro h
    by_cases hn : n > 0
    · simp [many, hn] at h
    · simp [many, hn] at h
      obtain ⟨h1, h2⟩ := ih h
      have : ¬ n = 1 := by omega
      simp [room, ones, hn, this, h1, h2]
theorem pow_cases {n : Int} (h0 : 1 ≤ n) (h1 : n ≤ 15) : (n = 1 ∧ 2 ^ (15 - n.toNat) = 16384) ∨ (n ≠ 1 ∧ 2 ^ (15 - n.toNat) ≤ 8192) := by
  have : n = 1 ∨ n = 2 ∨ n = 3 ∨ n = 4 ∨ n = 5 ∨ n = 6 ∨ n = 7 ∨ n = 8 ∨ n = 9 ∨ n = 10 ∨ n = 11 ∨ n = 12 ∨ n = 13 ∨ n = 14 ∨ n = 15 := by omega
  rcases this with rfl | rfl | rfl | rfl | rfl | rfl | rfl | rfl | rfl | rfl | rfl | rfl | rfl | rfl | rfl <;> simp
theorem many_one {l : List Int} (hf : fits l) (h : many l = 1) : ones l = 1 ↔ room l = 16384 := by
  induction l with
  | nil => simp [many] at h
  | cons n l ih =>
    rw [fits_cons] at hf
    by_cases hn : n > 0
    · simp [many, hn] at h
      obtain ⟨h1, h2⟩ := many_zero h
      rcases pow_cases (n := n) (by omega) (by omega) with ⟨rfl, hp⟩ | ⟨hne, hp⟩
      · simp [room, ones, h1, h2]
      · simp [room, ones, hn, h1, h2, hne]; omega
    · simp [many, hn] at h
      have : ¬ n = 1 := by omega
      simp [room, ones, hn, this]
      exact ih hf.2 h
/-- The errors by number. -/
def check (l : List Int) : Int :=
  if l.length > 512 then 3 else if ¬ fits l then 1 else if room l > 32768 then 20 else if many l = 0 ∨ room l = 32768 ∨ (many l = 1 ∧ room l = 16384) then 0 else 21
theorem room_le (l : List Int) (hf : fits l) : room l ≤ 16384 * l.length := by
  induction l with
  | nil => simp [room]
  | cons n l ih =>
    rw [fits_cons] at hf
    have := ih hf.2
    by_cases hn : n > 0
    · rcases pow_cases (n := n) (by omega) (by omega) with ⟨_, hp⟩ | ⟨_, hp⟩ <;> simp [room, hn] <;> omega
    · simp [room, hn]; omega
theorem many_le (l : List Int) : many l ≤ l.length := by
  induction l with
  | nil => simp [many]
  | cons n l ih => simp only [many, List.length_cons]; split <;> omega
theorem ones_le (l : List Int) : ones l ≤ l.length := by
  induction l with
  | nil => simp [ones]
  | cons n l ih => simp only [ones, List.length_cons]; split <;> omega

/-! Codes -/
def cnt (l : List Int) (n : Int) : Nat := l.countP (fun x => decide (x = n))
theorem cnt_nil (n : Int) : cnt [] n = 0 := rfl
theorem cnt_cons (x : Int) (l : List Int) (n : Int) : cnt (x :: l) n = (if x = n then 1 else 0) + cnt l n := by
  unfold cnt; rw [List.countP_cons]; by_cases h : x = n <;> simp [h]; omega
theorem cnt_append (l m : List Int) (n : Int) : cnt (l ++ m) n = cnt l n + cnt m n := by simp [cnt]
theorem cnt_le (l : List Int) (n : Int) : cnt l n ≤ l.length := List.countP_le_length
/-- The first code of a length. -/
def fst (l : List Int) : Nat → Nat
  | 0 => 0
  | 1 => 0
  | n + 2 => 2 * (fst l (n + 1) + cnt l ((n + 1 : Nat) : Int))
/-- The symbol's code. -/
def codeAt (l : List Int) (i : Nat) : Nat := if l.getD i 0 > 0 then fst l (l.getD i 0).toNat + cnt (l.take i) (l.getD i 0) else 0
def codes (l : List Int) : List Int := (List.range l.length).map fun i => ((codeAt l i : Nat) : Int)
/-- Partial rooms: of the lengths up to m, in units of 2^-m. -/
def part (l : List Int) (m : Nat) : Nat := fst l m + cnt l (m : Int)
theorem part_succ (l : List Int) (m : Nat) : part l (m + 2) = 2 * part l (m + 1) + cnt l ((m + 2 : Nat) : Int) := by
  unfold part; rw [fst]

def ru (l : List Int) : Nat → Nat
  | 0 => 0
  | m + 1 => ru l m + cnt l ((m + 1 : Nat) : Int) * 2 ^ (14 - m)
theorem ru_cons (x : Int) (l : List Int) (m : Nat) : ru (x :: l) m = (if 1 ≤ x ∧ x ≤ m then 2 ^ (15 - x.toNat) else 0) + ru l m := by
  induction m with
  | zero => simp only [ru]; rw [if_neg (by omega)]
  | succ m ih =>
    rw [ru, ih, ru, cnt_cons, Nat.add_mul]
    by_cases h : x = ((m + 1 : Nat) : Int)
    · rw [if_pos h, if_neg (by omega), if_pos (by omega)]
      have : 15 - x.toNat = 14 - m := by omega
      rw [this]; omega
    · rw [if_neg h]
      by_cases h2 : 1 ≤ x ∧ x ≤ (m : Int)
      · rw [if_pos h2, if_pos (by omega)]; omega
      · rw [if_neg h2, if_neg (by omega)]; omega
theorem ru_nil (m : Nat) : ru [] m = 0 := by
  induction m with
  | zero => rfl
  | succ m ih => rw [ru, ih, cnt_nil]; omega
theorem ru_room {l : List Int} (hf : fits l) : ru l 15 = room l := by
  induction l with
  | nil => exact ru_nil 15
  | cons x l ih =>
    rw [fits_cons] at hf
    rw [ru_cons, ih hf.2, room]
    by_cases h : x > 0
    · rw [if_pos h, if_pos (by omega)]
    · rw [if_neg h, if_neg (by omega)]
theorem ru_mono (l : List Int) (m d : Nat) : ru l m ≤ ru l (m + d) := by
  induction d with
  | zero => exact Nat.le_refl _
  | succ d ih => rw [Nat.add_succ, ru]; omega
theorem part_ru (l : List Int) (m : Nat) (hm : m ≤ 14) : part l (m + 1) * 2 ^ (14 - m) = ru l (m + 1) := by
  induction m with
  | zero => simp [part, fst, ru]
  | succ m ih =>
    rw [part_succ, ru, ← ih (by omega), Nat.add_mul]
    have h : 14 - m = (14 - (m + 1)) + 1 := by omega
    rw [h, Nat.pow_succ]
    have : 2 * part l (m + 1) * 2 ^ (14 - (m + 1)) = part l (m + 1) * (2 ^ (14 - (m + 1)) * 2) := by
      rw [Nat.mul_comm 2 (part l (m+1)), Nat.mul_assoc, Nat.mul_comm 2]
    rw [this]
theorem part_le {l : List Int} (hf : fits l) (hr : room l ≤ 32768) (m : Nat) (hm : m ≤ 14) : part l (m + 1) ≤ 2 ^ (m + 1) := by
  have h1 := part_ru l m hm
  have h2 := ru_mono l (m + 1) (14 - m)
  have h3 : m + 1 + (14 - m) = 15 := by omega
  rw [h3, ru_room hf] at h2
  have h4 : (2 : Nat) ^ (m + 1) * 2 ^ (14 - m) = 32768 := by rw [← Nat.pow_add, h3]
  have h5 : 0 < (2 : Nat) ^ (14 - m) := Nat.two_pow_pos _
  have h6 : part l (m + 1) * 2 ^ (14 - m) ≤ 2 ^ (m + 1) * 2 ^ (14 - m) := by omega
  exact Nat.le_of_mul_le_mul_right h6 h5
theorem check_ok {l : List Int} (h : check l = 0) : l.length ≤ 512 ∧ fits l ∧ room l ≤ 32768 ∧ (many l = 0 ∨ room l = 32768 ∨ (many l = 1 ∧ room l = 16384)) := by
  unfold check at h
  split at h
  · simp at h
  split at h
  · simp at h
  split at h
  · simp at h
  split at h
  · refine ⟨by omega, Decidable.of_not_not ‹_›, by omega, ‹_›⟩
  · simp at h
theorem fst_le {l : List Int} (hf : fits l) (hr : room l ≤ 32768) (n : Nat) (h1 : n ≤ 15) : fst l n + cnt l (n : Int) ≤ l.length + 2 ^ n := by
  match n with
  | 0 => have := cnt_le l ((0 : Nat) : Int); simp only [fst]; omega
  | m + 1 => have := part_le hf hr m (by omega); unfold part at this; omega
/-! a symbol's rank -/
theorem cnt_take_succ (l : List Int) (i : Nat) (h : i < l.length) (n : Int) : cnt (l.take (i + 1)) n = cnt (l.take i) n + (if l.getD i 0 = n then 1 else 0) := by
  rw [List.take_succ_eq_append_getElem h, cnt_append, cnt_cons, cnt_nil]
  simp [List.getD_eq_getElem?_getD, h]
theorem cnt_take_mono (l : List Int) (i j : Nat) (h : i ≤ j) (n : Int) : cnt (l.take i) n ≤ cnt (l.take j) n := by
  have : l.take i = (l.take j).take i := by rw [List.take_take]; congr 1; omega
  rw [this]
  unfold cnt
  exact List.Sublist.countP_le (List.take_sublist _ _)
theorem cnt_take_le (l : List Int) (i : Nat) (n : Int) : cnt (l.take i) n ≤ cnt l n := List.Sublist.countP_le (List.take_sublist _ _)
theorem rank_lt (l : List Int) (i : Nat) (h : i < l.length) : cnt (l.take i) (l.getD i 0) < cnt l (l.getD i 0) := by
  have h1 := cnt_take_succ l i h (l.getD i 0)
  have h2 := cnt_take_le l (i + 1) (l.getD i 0)
  rw [if_pos rfl] at h1
  omega
theorem fst_ge (l : List Int) (m d : Nat) (hm : 1 ≤ m) : 2 ^ (d + 1) * part l m ≤ fst l (m + d + 1) := by
  obtain ⟨m, rfl⟩ : ∃ k, m = k + 1 := ⟨m - 1, by omega⟩
  induction d with
  | zero => show _ ≤ fst l (m + 2); rw [fst]; unfold part; omega
  | succ d ih =>
    have e2 : m + 1 + (d + 1) + 1 = m + d + 1 + 2 := by omega
    rw [e2, fst, Nat.pow_succ]
    have e : m + 1 + d + 1 = m + d + 1 + 1 := by omega
    rw [e] at ih
    have : 2 ^ (d + 1) * 2 * part l (m + 1) = 2 * (2 ^ (d + 1) * part l (m + 1)) := by
      rw [Nat.mul_comm (2 ^ (d + 1)) 2, Nat.mul_assoc]
    omega
theorem code_lt (l : List Int) (i : Nat) (h : i < l.length) (hp : l.getD i 0 > 0) : codeAt l i < part l (l.getD i 0).toNat := by
  have h1 := rank_lt l i h
  unfold codeAt part
  rw [if_pos hp]
  have e : (((l.getD i 0).toNat : Nat) : Int) = l.getD i 0 := Int.toNat_of_nonneg (by omega)
  rw [e]; omega
theorem code_lt_pow {l : List Int} (hf : fits l) (hr : room l ≤ 32768) (i : Nat) (h : i < l.length) (hp : l.getD i 0 > 0) : codeAt l i < 2 ^ (l.getD i 0).toNat := by
  have h1 := code_lt l i h hp
  have h2 : 0 ≤ l.getD i 0 ∧ l.getD i 0 ≤ 15 := by
    have : l.getD i 0 = l[i] := by simp [List.getD_eq_getElem?_getD, h]
    rw [this]; exact hf _ (List.getElem_mem h)
  obtain ⟨m, hm⟩ : ∃ m, (l.getD i 0).toNat = m + 1 := ⟨(l.getD i 0).toNat - 1, by omega⟩
  have h3 := part_le hf hr m (by omega)
  rw [hm] at h1 ⊢
  omega
/-- No code begins another one; codes of one length rise. -/
theorem alone (l : List Int) (i k : Nat) (hi : i < l.length) (hk : k < l.length) (hne : k ≠ i) (hpi : l.getD i 0 > 0) (hle : l.getD i 0 ≤ l.getD k 0) :
    codeAt l k / 2 ^ ((l.getD k 0).toNat - (l.getD i 0).toNat) ≠ codeAt l i ∧ (l.getD k 0 = l.getD i 0 → (codeAt l i < codeAt l k ↔ i < k)) ∧ (l.getD k 0 > l.getD i 0 → ¬ codeAt l k / 2 ^ ((l.getD k 0).toNat - (l.getD i 0).toNat) < codeAt l i) := by
  by_cases he : l.getD k 0 = l.getD i 0
  · have hc : (codeAt l i < codeAt l k ↔ i < k) ∧ codeAt l k ≠ codeAt l i := by
      have hr : ∀ a b : Nat, a < l.length → b < l.length → a < b → l.getD a 0 = l.getD b 0 → l.getD a 0 > 0 → codeAt l a < codeAt l b := by
        intro a b ha hb hab heq hpos
        unfold codeAt
        rw [if_pos hpos, if_pos (heq ▸ hpos), heq]
        have h1 := cnt_take_succ l a ha (l.getD b 0)
        have h2 := cnt_take_mono l (a + 1) b (by omega) (l.getD b 0)
        rw [if_pos heq] at h1
        omega
      rcases Nat.lt_or_gt_of_ne hne with h | h
      · have := hr k i hk hi h he (by omega); omega
      · have := hr i k hi hk h he.symm hpi; omega
    rw [he, Nat.sub_self, Nat.pow_zero, Nat.div_one]
    exact ⟨hc.2, fun _ => hc.1, fun h => by omega⟩
  · have hlt : l.getD i 0 < l.getD k 0 := by omega
    obtain ⟨d, hd⟩ : ∃ d, (l.getD k 0).toNat = (l.getD i 0).toNat + d + 1 := ⟨(l.getD k 0).toNat - (l.getD i 0).toNat - 1, by omega⟩
    have h1 := fst_ge l (l.getD i 0).toNat d (by omega)
    have h2 := code_lt l i hi hpi
    have h3 : fst l (l.getD k 0).toNat ≤ codeAt l k := by unfold codeAt; rw [if_pos (by omega)]; omega
    rw [hd] at h3 ⊢
    have e : (l.getD i 0).toNat + d + 1 - (l.getD i 0).toNat = d + 1 := by omega
    rw [e]
    have h4 : part l (l.getD i 0).toNat ≤ codeAt l k / 2 ^ (d + 1) := by
      rw [Nat.le_div_iff_mul_le (Nat.two_pow_pos _), Nat.mul_comm]; omega
    exact ⟨by omega, fun h => by omega, fun _ => by omega⟩
end HP

end Go.Proofs.Ytjajkgemjgehiaa
