import Derived.Test.YtjepodcgbfejgaaGreatDoorRpV
import Derived.Test.YtjepodcgbfejgaaGreatDoorRpE
import Derived.Test.YtjepodcgbfejgaaGreatDoorChRv
import Derived.Test.YtjepodcgbfejgaaGreatDoorRpP
import Derived.Test.YtjepodcgbfejgaaGreatDoorPHx3
/- What a reference says, in plain Lean: the document's reading and the program's are one. -/
namespace Go.Proofs.YtjepodcgbfejgaaGreatDoor.Hw
open Go.RowKit Go.Proofs.YtjepodcgbfejgaaGreatDoorW.PrintWords Go.Proofs.YtjepodcgbfejgaaGreatDoorW.PrintLast Go.Proofs.YtjepodcgbfejgaaGreatDoorW.PrintMore Go.Proofs.YtjepodcgbfejgaaGreatDoor.PH Go.Proofs.YtjepodcgbfejgaaGreatDoor.CP
set_option linter.unusedVariables false
set_option linter.unusedSimpArgs false
def digR (x : Int) : Int := if 48 ≤ x ∧ x ≤ 57 then x - 48 else if 97 ≤ x ∧ x ≤ 102 then x - 97 + 10 else if 65 ≤ x ∧ x ≤ 70 then x - 65 + 10 else -1
def digI (base : Int) (x : UInt8) : Int := if base ≤ digR x.toNat then -1 else digR x.toNat
def numW (base : Int) : List UInt8 → Int → Int × Nat × List UInt8
  | [], n => (n, 0, [])
  | x :: l, n => if 0 ≤ digI base x then ((numW base l (min (n * base + digI base x) 1114112)).1, (numW base l (min (n * base + digI base x) 1114112)).2.1 + 1, (numW base l (min (n * base + digI base x) 1114112)).2.2) else (n, 0, x :: l)
def numN (base : Int) (l : List UInt8) : Option (Int × Nat) := if (numW base l 0).2.1 = 0 ∨ (numW base l 0).2.2.head? ≠ some 59 ∨ xc (numW base l 0).1 = false then none else some ((numW base l 0).1, (numW base l 0).2.1 + 1)
def refH : List UInt8 → Option (Int × Nat)
  | 35 :: 120 :: r => (numN 16 r).map fun x => (x.1, x.2 + 2)
  | 35 :: r => (numN 10 r).map fun x => (x.1, x.2 + 1)
  | _ => none
def refD (R : List UInt8) : Option (Int × Nat) :=
  if [97, 109, 112, 59].isPrefixOf R then some (38, 4) else if [108, 116, 59].isPrefixOf R then some (60, 3) else if [103, 116, 59].isPrefixOf R then some (62, 3)
  else if [113, 117, 111, 116, 59].isPrefixOf R then some (34, 5) else if [97, 112, 111, 115, 59].isPrefixOf R then some (39, 5) else refH R
def refP (R : List UInt8) : Option (Int × Nat) := if (Lib.cut R [59]).2.2 = true ∧ (saidV ⟨(Lib.cut R [59]).1.toArray⟩).2 = true then some ((saidV ⟨(Lib.cut R [59]).1.toArray⟩).1, (Lib.cut R [59]).1.length + 1) else none
/-! ### digits -/
def digLst (base : Int) : List UInt8 → Int → Option Int
  | [], n => some n
  | x :: l, n => if digI base x < 0 then none else digLst base l (min (n * base + digI base x) 1114112)
theorem digI_dig (base : Int) (h0 : 0 ≤ base) (hb : base ≤ 16) (x : UInt8) : (base ≤ dig (x.toNat : Int) ↔ digI base x < 0) ∧ (¬ digI base x < 0 → digI base x = dig (x.toNat : Int)) := by
  unfold digI digR dig
  have := x.toNat_lt
  repeat' split
  all_goals (constructor <;> first | (constructor <;> omega) | omega | (intro _; omega))
theorem decN_val (n b0 b1 b2 b3 : Nat) (h : ¬ b0 < 128) : 128 ≤ (Lib.decodeN n b0 b1 b2 b3).1 := by
  unfold Lib.decodeN
  simp only [h, if_false]
  repeat' split
  all_goals (simp only []; omega)
theorem dig_big {r : Int} (h : 128 ≤ r) : dig r = 16 := by unfold dig; rw [if_neg (by omega), if_neg (by omega), if_neg (by omega)]
theorem digI_high (base : Int) (x : UInt8) (h : 128 ≤ x.toNat) : digI base x < 0 := by
  have e : digR (x.toNat : Int) = -1 := by unfold digR; rw [if_neg (by omega), if_neg (by omega), if_neg (by omega)]
  unfold digI
  rw [e]
  split <;> omega
theorem digF_lst (d : ByteArray) (base : Int) (h0 : 0 ≤ base) (hb : base ≤ 16) : ∀ (f p : Nat) (n : Int), p ≤ d.size → d.size ≤ p + f → digF d base f p n = digLst base (d.data.toList.drop p) n
  | 0, p, n, hp, hf => by rw [List.drop_of_length_le (by rw [← Lib.size_eq]; omega)]; rfl
  | f + 1, p, n, hp, hf => by
    by_cases hlt : p < d.size
    · have hl : p < d.data.toList.length := by rw [← Lib.size_eq]; exact hlt
      rw [digF, if_pos hlt, decode_dl, List.drop_eq_getElem_cons hl]
      generalize hx : d.data.toList[p] = x
      generalize hr : d.data.toList.drop (p + 1) = r
      by_cases hc : x.toNat < 128
      · rw [dl_ascii x r hc, digLst]
        have hd := digI_dig base h0 hb x
        by_cases hn : digI base x < 0
        · rw [if_pos (hd.1.2 hn), if_pos hn]
        · rw [if_neg (fun h => hn (hd.1.1 h)), if_neg hn, ← hd.2 hn]
          show digF d base f (p + 1) _ = _
          rw [digF_lst d base h0 hb f (p + 1) _ hlt (by omega), hr]
      · have hv : 128 ≤ (dl (x :: r)).1 := decN_val _ _ _ _ _ (by simpa using hc)
        rw [dig_big (by omega), if_pos hb, digLst, if_pos (digI_high base x (by omega))]
    · rw [digF_end d base _ p n hlt, List.drop_of_length_le (by rw [← Lib.size_eq]; omega)]; rfl
theorem dig59 (base : Int) : ¬ 0 ≤ digI base 59 := by
  have e : digR ((59 : UInt8).toNat : Int) = -1 := by decide
  unfold digI
  rw [e]
  split <;> omega
theorem num_some (base : Int) (rest : List UInt8) : ∀ (nm : List UInt8) (n m : Int), digLst base nm n = some m → numW base (nm ++ 59 :: rest) n = (m, nm.length, 59 :: rest)
  | [], n, m, h => by
    obtain rfl : n = m := Option.some.inj h
    rw [List.nil_append, numW, if_neg (dig59 base)]
    rfl
  | x :: nm, n, m, h => by
    rw [digLst] at h
    split at h
    · cases h
    · rename_i hx
      rw [List.cons_append, numW, if_pos (by omega), num_some base rest nm _ m h]
      rfl
theorem num_none (base : Int) (rest : List UInt8) : ∀ (nm : List UInt8) (n : Int), 59 ∉ nm → digLst base nm n = none → (numW base (nm ++ rest) n).2.2.head? ≠ some 59
  | [], n, _, h => by cases h
  | x :: nm, n, hm, h => by
    rw [digLst] at h
    rw [List.cons_append, numW]
    split at h
    · rename_i hx
      rw [if_neg (by omega)]
      intro e
      have : x = 59 := by simpa using e
      exact hm (by rw [this]; simp)
    · rename_i hx
      rw [if_pos (by omega)]
      exact num_none base rest nm _ (fun e => hm (List.mem_cons_of_mem _ e)) h
theorem num_no (base : Int) : ∀ (R : List UInt8) (n : Int), 59 ∉ R → (numW base R n).2.2.head? ≠ some 59
  | [], n, _ => by simp [numW]
  | x :: R, n, hm => by
    rw [numW]
    split
    · exact num_no base R _ (fun e => hm (List.mem_cons_of_mem _ e))
    · intro e
      have : x = 59 := by simpa using e
      exact hm (by rw [this]; simp)
theorem digLst_zero (base : Int) {l : List UInt8} {m : Int} (h : digLst base l 0 = some m) (hl : l = []) : m = 0 := by subst hl; exact (Option.some.inj h).symm
theorem digV_list (nm : List UInt8) (base : Int) (h0 : 0 ≤ base) (hb : base ≤ 16) : digV ⟨nm.toArray⟩ base = if nm = [] then (0, false) else digE (digLst base nm 0) := by
  unfold digV
  have hz : ByteArray.size ⟨nm.toArray⟩ = nm.length := by simp [ByteArray.size]
  rw [hz, digF_lst _ base h0 hb _ 0 0 (Nat.zero_le _) (by rw [hz]; omega)]
  by_cases h : nm = []
  · rw [if_pos h, if_pos (by rw [h]; rfl)]
  · rw [if_neg h, if_neg (fun e => h (List.length_eq_zero_iff.1 e))]
    simp
/-- The number of a reference, by both. -/
theorem num_eq (base : Int) (h0 : 0 ≤ base) (hb : base ≤ 16) (nm rest : List UInt8) (hm : 59 ∉ nm) :
    numN base (nm ++ 59 :: rest) = if (digV ⟨nm.toArray⟩ base).2 = true then some ((digV ⟨nm.toArray⟩ base).1, nm.length + 1) else none := by
  rw [digV_list nm base h0 hb]
  unfold numN
  cases hd : digLst base nm 0 with
  | none =>
    have hne : nm ≠ [] := fun e => by rw [e] at hd; cases hd
    rw [if_pos (.inr (.inl (num_none base (59 :: rest) nm 0 hm hd))), if_neg hne]
    rfl
  | some m =>
    rw [num_some base rest nm 0 m hd]
    by_cases hne : nm = []
    · subst hne
      rw [if_pos (.inl rfl), if_pos rfl]
      rfl
    · rw [if_neg hne]
      unfold digE
      simp only [List.head?_cons]
      have hl : nm.length ≠ 0 := fun e => hne (List.length_eq_zero_iff.1 e)
      cases hx : xc m <;> simp [hl]
theorem pre_eq : ∀ (k nm rest : List UInt8), 59 ∉ k → 59 ∉ nm → (k ++ [59]).isPrefixOf (nm ++ 59 :: rest) = (nm == k)
  | [], [], rest, _, _ => by simp [List.isPrefixOf]
  | [], x :: nm, rest, _, h => by
    have hx : ¬ (59 : UInt8) = x := fun e => h (by rw [e]; simp)
    show ((59 : UInt8) == x && _) = _
    rw [beq_eq_false_iff_ne.2 hx]
    rfl
  | y :: k, [], rest, h, _ => by
    have hx : ¬ y = (59 : UInt8) := fun e => h (by rw [e]; simp)
    show (y == (59 : UInt8) && _) = _
    rw [beq_eq_false_iff_ne.2 hx]
    rfl
  | y :: k, x :: nm, rest, h, h2 => by
    have ih := pre_eq k nm rest (fun e => h (List.mem_cons_of_mem _ e)) (fun e => h2 (List.mem_cons_of_mem _ e))
    show (y == x && (k ++ [59]).isPrefixOf (nm ++ 59 :: rest)) = (x == y && nm == k)
    rw [ih, Bool.beq_comm]
theorem pre_no : ∀ (k R : List UInt8), 59 ∉ R → (k ++ [59]).isPrefixOf R = false
  | k, [], _ => by cases k <;> rfl
  | [], x :: R, h => by
    have hx : ¬ (59 : UInt8) = x := fun e => h (by rw [e]; simp)
    show ((59 : UInt8) == x && _) = _
    rw [beq_eq_false_iff_ne.2 hx]
    rfl
  | y :: k, x :: R, h => by
    show (y == x && (k ++ [59]).isPrefixOf R) = false
    rw [pre_no k R (fun e => h (List.mem_cons_of_mem _ e)), Bool.and_false]
theorem split59 (R : List UInt8) : 59 ∉ R ∨ ∃ nm rest, R = nm ++ 59 :: rest ∧ 59 ∉ nm := by
  induction R with
  | nil => exact .inl (by simp)
  | cons x R ih =>
    by_cases hx : x = 59
    · exact .inr ⟨[], R, by rw [hx]; rfl, by simp⟩
    · rcases ih with h | ⟨nm, rest, rfl, h⟩
      · exact .inl (fun e => by
          rcases List.mem_cons.1 e with e | e
          · exact hx e.symm
          · exact h e)
      · exact .inr ⟨x :: nm, rest, rfl, fun e => by
          rcases List.mem_cons.1 e with e | e
          · exact hx e.symm
          · exact h e⟩
theorem numN_no (base : Int) (R : List UInt8) (h : 59 ∉ R) : numN base R = none := by unfold numN; rw [if_pos (.inr (.inl (num_no base R 0 h)))]
theorem refH_no (R : List UInt8) (h : 59 ∉ R) : refH R = none := by
  unfold refH
  split
  · rename_i r; rw [numN_no 16 r (fun e => h (by simp [e]))]; rfl
  · rename_i r _; rw [numN_no 10 r (fun e => h (by simp [e]))]; rfl
  · rfl
theorem saidT_hex (nm : List UInt8) : saidT ⟨(35 :: 120 :: nm).toArray⟩ = digV ⟨nm.toArray⟩ 16 := by
  have h : Lib.hasPrefix (35 :: 120 :: nm) [35, 120] = true := by simp [Lib.hasPrefix, List.isPrefixOf]
  unfold saidT
  simp only [h, if_true]
  unfold Lib.trimPrefix
  rw [h]
  rfl
theorem saidT_dec (nm : List UInt8) (hx : ∀ r, nm ≠ 120 :: r) : saidT ⟨(35 :: nm).toArray⟩ = digV ⟨nm.toArray⟩ 10 := by
  have h : Lib.hasPrefix (35 :: nm) [35, 120] = false := by
    unfold Lib.hasPrefix
    cases nm with
    | nil => rfl
    | cons y r =>
      have hy : ¬ (120 : UInt8) = y := fun e => hx r (by rw [e])
      show ((35 : UInt8) == 35 && ((120 : UInt8) == y && _)) = false
      rw [beq_eq_false_iff_ne.2 hy]
      rfl
  have h2 : Lib.hasPrefix (35 :: nm) [35] = true := by simp [Lib.hasPrefix, List.isPrefixOf]
  unfold saidT
  simp only [h, h2, if_true]
  unfold Lib.trimPrefix
  rw [h2]
  rfl
theorem saidT_else (nm : List UInt8) (hx : ∀ r, nm ≠ 35 :: r) : saidT ⟨nm.toArray⟩ = (0, false) := by
  have h : ∀ k, Lib.hasPrefix nm (35 :: k) = false := fun k => by
    unfold Lib.hasPrefix
    cases nm with
    | nil => rfl
    | cons y r =>
      have hy : ¬ (35 : UInt8) = y := fun e => hx r (by rw [e])
      show ((35 : UInt8) == y && _) = false
      rw [beq_eq_false_iff_ne.2 hy]
      rfl
  unfold saidT
  simp only [h]
  simp
/-- What a reference by number says, by both. -/
theorem refH_eq (nm rest : List UInt8) (hm : 59 ∉ nm) : refH (nm ++ 59 :: rest) = if (saidT ⟨nm.toArray⟩).2 = true then some ((saidT ⟨nm.toArray⟩).1, nm.length + 1) else none := by
  by_cases h35 : ∃ r, nm = 35 :: r
  · obtain ⟨r, rfl⟩ := h35
    by_cases h120 : ∃ q, r = 120 :: q
    · obtain ⟨q, rfl⟩ := h120
      rw [saidT_hex]
      show (numN 16 (q ++ 59 :: rest)).map (fun x => (x.1, x.2 + 2)) = _
      rw [num_eq 16 (by decide) (by decide) q rest (fun e => hm (by simp [e]))]
      split <;> simp
    · rw [saidT_dec r (fun q e => h120 ⟨q, e⟩)]
      have e : refH (35 :: r ++ 59 :: rest) = (numN 10 (r ++ 59 :: rest)).map (fun x => (x.1, x.2 + 1)) := by
        cases r with
        | nil => rfl
        | cons y q =>
          have hy : ¬ y = 120 := fun e => h120 ⟨q, by rw [e]⟩
          show refH (35 :: y :: (q ++ 59 :: rest)) = _
          unfold refH
          split
          · rename_i hh; exact absurd (List.cons.inj (List.cons.inj hh).2).1 hy
          · rename_i hh; rw [← (List.cons.inj hh).2]; rfl
          · rename_i hh1 hh2; exact absurd rfl (hh2 _)
      rw [e, num_eq 10 (by decide) (by decide) r rest (fun e => hm (by simp [e]))]
      split <;> simp
  · rw [saidT_else nm (fun r e => h35 ⟨r, e⟩)]
    cases nm with
    | nil => rfl
    | cons y q =>
      have hy : ¬ y = 35 := fun e => h35 ⟨q, by rw [e]⟩
      show refH (y :: (q ++ 59 :: rest)) = _
      unfold refH
      split
      · rename_i hh; exact absurd (List.cons.inj hh).1 hy
      · rename_i hh; exact absurd (List.cons.inj hh).1 hy
      · simp
theorem ref_eq (R : List UInt8) : refD R = refP R := by
  unfold refD refP
  rcases split59 R with h | ⟨nm, rest, rfl, hm⟩
  · rw [show ([97, 109, 112, 59] : List UInt8) = [97, 109, 112] ++ [59] from rfl, show ([108, 116, 59] : List UInt8) = [108, 116] ++ [59] from rfl, show ([103, 116, 59] : List UInt8) = [103, 116] ++ [59] from rfl, show ([113, 117, 111, 116, 59] : List UInt8) = [113, 117, 111, 116] ++ [59] from rfl, show ([97, 112, 111, 115, 59] : List UInt8) = [97, 112, 111, 115] ++ [59] from rfl]
    rw [pre_no _ R h, pre_no _ R h, pre_no _ R h, pre_no _ R h, pre_no _ R h, refH_no R h, cut_no 59 R h]
    simp
  · rw [show ([97, 109, 112, 59] : List UInt8) = [97, 109, 112] ++ [59] from rfl, show ([108, 116, 59] : List UInt8) = [108, 116] ++ [59] from rfl, show ([103, 116, 59] : List UInt8) = [103, 116] ++ [59] from rfl, show ([113, 117, 111, 116, 59] : List UInt8) = [113, 117, 111, 116] ++ [59] from rfl, show ([97, 112, 111, 115, 59] : List UInt8) = [97, 112, 111, 115] ++ [59] from rfl]
    rw [pre_eq _ nm rest (by decide) hm, pre_eq _ nm rest (by decide) hm, pre_eq _ nm rest (by decide) hm, pre_eq _ nm rest (by decide) hm, pre_eq _ nm rest (by decide) hm, refH_eq nm rest hm, cut_at 59 nm rest hm]
    unfold saidV
    have ht : (⟨nm.toArray⟩ : ByteArray).toList = nm := by rw [Lib.toList_data]
    rw [ht]
    by_cases e1 : nm = [97, 109, 112]
    · subst e1; rfl
    · rw [beq_eq_false_iff_ne.2 e1]
      by_cases e2 : nm = [108, 116]
      · subst e2; rfl
      · rw [beq_eq_false_iff_ne.2 e2]
        by_cases e3 : nm = [103, 116]
        · subst e3; rfl
        · rw [beq_eq_false_iff_ne.2 e3]
          by_cases e4 : nm = [113, 117, 111, 116]
          · subst e4; rfl
          · rw [beq_eq_false_iff_ne.2 e4]
            by_cases e5 : nm = [97, 112, 111, 115]
            · subst e5; rfl
            · rw [beq_eq_false_iff_ne.2 e5]
              simp
/-! ### the document's Unescape, byte by byte -/
def unD (s : ByteArray) : Nat → Nat → List UInt8 → Option (List UInt8) × Int
  | 0, _, acc => (some acc, 0)
  | f + 1, p, acc => if p < s.size then (if s.data.toList.getD p 0 ≠ 38 then unD s f (p + 1) (acc ++ [s.data.toList.getD p 0]) else
      match refD (s.data.toList.drop (p + 1)) with
      | some x => unD s f (p + x.2 + 1) (acc ++ Lib.encodeRune x.1)
      | none => (none, (p : Int))) else (some acc, 0)
theorem unD_end (s : ByteArray) (f p : Nat) (acc : List UInt8) (h : ¬ p < s.size) : unD s f p acc = (some acc, 0) := by cases f <;> simp [unD, h]
theorem cut_cons (c b : UInt8) (l : List UInt8) (h : b ≠ c) : Lib.cut (b :: l) [c] = (b :: (Lib.cut l [c]).1, (Lib.cut l [c]).2.1, (Lib.cut l [c]).2.2) := by
  by_cases hm : c ∈ l
  · obtain ⟨a, r, rfl, ha⟩ : ∃ a r, l = a ++ c :: r ∧ c ∉ a := by
      clear h
      induction l with
      | nil => cases hm
      | cons x l ih =>
        by_cases hx : x = c
        · exact ⟨[], l, by rw [hx]; rfl, by simp⟩
        · obtain ⟨a, r, rfl, ha⟩ := ih (by rcases List.mem_cons.1 hm with e | e
                                           · exact absurd e.symm hx
                                           · exact e)
          exact ⟨x :: a, r, rfl, fun e => by
            rcases List.mem_cons.1 e with e | e
            · exact hx e.symm
            · exact ha e⟩
    have hb : c ∉ b :: a := fun e => by
      rcases List.mem_cons.1 e with e | e
      · exact h e.symm
      · exact ha e
    rw [cut_at c a r ha, ← List.cons_append, cut_at c (b :: a) r hb]
  · have hb : c ∉ b :: l := fun e => by
      rcases List.mem_cons.1 e with e | e
      · exact h e.symm
      · exact hm e
    rw [cut_no c l hm, cut_no c _ hb]
theorem unD_unF (s : ByteArray) : ∀ (n f f' p : Nat) (acc : List UInt8), s.size - p ≤ n → p ≤ s.size → s.size ≤ p + f → s.size ≤ p + f' → unD s f p acc = unF s f' p acc := by
  intro n
  have hlen : s.data.toList.length = s.size := (Lib.size_eq s).symm
  induction n with
  | zero =>
    intro f f' p acc h1 h2 h3 h4
    rw [unD_end s f p acc (by omega), unF_end s f' p acc (by omega)]
  | succ n ih =>
    intro f f' p acc h1 h2 h3 h4
    by_cases hlt : p < s.size
    · obtain ⟨f, rfl⟩ : ∃ g, f = g + 1 := ⟨f - 1, by omega⟩
      obtain ⟨f', rfl⟩ : ∃ g, f' = g + 1 := ⟨f' - 1, by omega⟩
      have hl : p < s.data.toList.length := by rw [hlen]; exact hlt
      have hg : s.data.toList.getD p 0 = s.data.toList[p] := by rw [List.getD_eq_getElem?_getD, List.getElem?_eq_getElem hl]; rfl
      rw [unD, if_pos hlt, hg]
      have hd := List.drop_eq_getElem_cons hl
      generalize hb : s.data.toList[p] = b at *
      by_cases h38 : b ≠ 38
      · rw [if_pos h38, ih f (f' + 1) (p + 1) _ (by omega) (by omega) (by omega) (by omega)]
        have hF : unF s (f' + 1) p acc = unS (unF s f') s p acc (cutU (s.extract p s.size) 38) := by rw [unF, if_pos hlt]
        rw [hF]
        unfold cutU
        rw [drop_tail s p h2, hd, cut_cons 38 b _ h38]
        by_cases hlt2 : p + 1 < s.size
        · rw [unF, if_pos hlt2]
          unfold cutU
          rw [drop_tail s (p + 1) (by omega)]
          unfold unS
          simp only [List.length_cons]
          rw [show p + ((Lib.cut (List.drop (p + 1) s.data.toList) [38]).1.length + 1) = p + 1 + (Lib.cut (List.drop (p + 1) s.data.toList) [38]).1.length by omega]
          simp
        · rw [unF_end s _ (p + 1) _ hlt2, List.drop_of_length_le (by omega)]
          rfl
      · have e38 : b = 38 := by simpa using h38
        subst e38
        rw [if_neg (by simp), unF, if_pos hlt]
        unfold cutU
        rw [drop_tail s p h2, hd, show (38 :: List.drop (p + 1) s.data.toList) = [] ++ 38 :: List.drop (p + 1) s.data.toList from rfl, cut_at 38 [] _ (by simp)]
        unfold unS
        simp only [if_true, List.length_nil, Nat.add_zero, List.append_nil]
        unfold unT cutU
        rw [drop_tail s (p + 1) (by omega), ref_eq]
        unfold refP
        by_cases hc : (Lib.cut (List.drop (p + 1) s.data.toList) [59]).2.2 = true ∧ (saidV ⟨(Lib.cut (List.drop (p + 1) s.data.toList) [59]).1.toArray⟩).2 = true
        · rw [if_pos hc, if_pos hc]
          have hroom : (Lib.cut (List.drop (p + 1) s.data.toList) [59]).1.length + 1 ≤ (List.drop (p + 1) s.data.toList).length := by
            rcases split59 (List.drop (p + 1) s.data.toList) with h | ⟨nm, rest, he, hm⟩
            · rw [cut_no 59 _ h] at hc; exact absurd hc.1 (by simp)
            · rw [he, cut_at 59 nm rest hm]; simp
          rw [List.length_drop, hlen] at hroom
          simp only []
          rw [show p + ((Lib.cut (List.drop (p + 1) s.data.toList) [59]).1.length + 1) + 1 = p + ((Lib.cut (List.drop (p + 1) s.data.toList) [59]).1.length + 2) by omega]
          exact ih f f' _ _ (by omega) (by omega) (by omega) (by omega)
        · rw [if_neg hc, if_neg hc]
    · rw [unD_end s f p acc hlt, unF_end s f' p acc hlt]
end Go.Proofs.YtjepodcgbfejgaaGreatDoor.Hw
/- The document's Escape, walked. -/
namespace Go.Proofs.YtjepodcgbfejgaaGreatDoor.Hw
open Go.RowKit Go.Proofs.YtjepodcgbfejgaaGreatDoorW.PrintWords Go.Proofs.YtjepodcgbfejgaaGreatDoorW.PrintLast Go.Proofs.YtjepodcgbfejgaaGreatDoorW.PrintMore Go.Proofs.YtjepodcgbfejgaaGreatDoor.PH Go.Proofs.YtjepodcgbfejgaaGreatDoor.CP
set_option linter.unusedVariables false
set_option linter.unusedSimpArgs false
theorem look_esc_none (attr : Bool) (x : UInt8) (h1 : x.toNat ≠ 38) (h2 : x.toNat ≠ 60) (h3 : x.toNat ≠ 62) (h4 : x.toNat ≠ 13) (h5 : attr = true → x.toNat ≠ 34 ∧ x.toNat ≠ 9 ∧ x.toNat ≠ 10) : look (escP attr).reverse x.toNat = none := by
  refine look_none (fun p hp he => ?_)
  cases attr with
  | false =>
    simp [escP] at hp
    rcases hp with rfl | rfl | rfl | rfl <;> simp at he <;> omega
  | true =>
    have := h5 rfl
    simp [escP] at hp
    rcases hp with rfl | rfl | rfl | rfl | rfl | rfl | rfl <;> simp at he <;> omega
set_option maxRecDepth 100000 in
set_option maxHeartbeats 2000000 in
theorem resc_else (x : UInt8) (attr : Bool) (w : World) (h1 : x.toNat ≠ 38) (h2 : x.toNat ≠ 60) (h3 : x.toNat ≠ 62) (h4 : x.toNat ≠ 13) (h5 : attr = true → x.toNat ≠ 34 ∧ x.toNat ≠ 9 ∧ x.toNat ≠ 10) :
    Calls Tryz.prog 13 #[.int .u8 x.toNat, .bool attr] w fun e w' => e = .returned (.string ⟨#[x]⟩) ∧ Below w.heap.size w w' := by
  have t1 : ((x.toNat : Int) == 38) = false := by simp; omega
  have t2 : ((x.toNat : Int) == 60) = false := by simp; omega
  have t3 : ((x.toNat : Int) == 62) = false := by simp; omega
  have t4 : ((x.toNat : Int) == 13) = false := by simp; omega
  have hconv : (convert 35 9 (.slice (some ⟨w.heap.size, 0, none⟩) 1 1)).run Tryz.prog (w.alloc (.cells #[.int .u8 x.toNat] 5)) = .ok (.string ⟨#[x]⟩) (w.alloc (.cells #[.int .u8 x.toNat] 5)) := by
    have := run_convert_bytes_back (P := Tryz.prog) (w.alloc (.cells #[.int .u8 x.toNat] 5)) 35 9 5 ⟨w.heap.size, 0, none⟩ 1 [x] Tryz.underlying35 Tryz.underlying5 Tryz.underlying9 (fun i hi => by
      obtain rfl : i = 0 := by simpa using hi
      exact cell_new0 _ _ _)
    exact this
  cases attr with
  | false =>
    clear h1 h2 h3 h4 h5
    go_enter Tryz.func13, Tryz.ntmps13
    go_wp2
    go_ret
    exact ⟨rfl, (Below.refl _ w).alloc (Nat.le_refl _) _⟩
  | true =>
    have h6 := h5 rfl
    have t5 : ((x.toNat : Int) == 34) = false := by simp; omega
    have t6 : ((x.toNat : Int) == 9) = false := by simp; omega
    have t7 : ((x.toNat : Int) == 10) = false := by simp; omega
    clear h1 h2 h3 h4 h5 h6
    go_enter Tryz.func13, Tryz.ntmps13
    go_wp2
    go_ret
    exact ⟨rfl, (Below.refl _ w).alloc (Nat.le_refl _) _⟩
set_option maxRecDepth 100000 in
set_option maxHeartbeats 2000000 in
theorem rescape1_calls (x : UInt8) (attr : Bool) (w : World) :
    Calls Tryz.prog 13 #[.int .u8 x.toNat, .bool attr] w fun e w' => e = .returned (.string ⟨((look (escP attr).reverse x.toNat).getD [x]).toArray⟩) ∧ Below w.heap.size w w' := by
  by_cases h1 : x.toNat = 38
  · rw [h1]; cases attr <;> (go_enter Tryz.func13, Tryz.ntmps13; go_wp2; go_ret; exact ⟨rfl, Below.refl _ _⟩)
  by_cases h2 : x.toNat = 60
  · rw [h2]; cases attr <;> (go_enter Tryz.func13, Tryz.ntmps13; go_wp2; go_ret; exact ⟨rfl, Below.refl _ _⟩)
  by_cases h3 : x.toNat = 62
  · rw [h3]; cases attr <;> (go_enter Tryz.func13, Tryz.ntmps13; go_wp2; go_ret; exact ⟨rfl, Below.refl _ _⟩)
  by_cases h4 : x.toNat = 13
  · rw [h4]; cases attr <;> (go_enter Tryz.func13, Tryz.ntmps13; go_wp2; go_ret; exact ⟨rfl, Below.refl _ _⟩)
  by_cases h5 : attr = true → x.toNat ≠ 34 ∧ x.toNat ≠ 9 ∧ x.toNat ≠ 10
  · rw [look_esc_none attr x h1 h2 h3 h4 h5]
    exact resc_else x attr w h1 h2 h3 h4 h5
  · have ha : attr = true := by cases attr with
      | true => rfl
      | false => exact absurd (fun h => by cases h) h5
    subst ha
    have h6 : x.toNat = 34 ∨ x.toNat = 9 ∨ x.toNat = 10 := by
      by_cases a : x.toNat = 34
      · exact .inl a
      · by_cases b : x.toNat = 9
        · exact .inr (.inl b)
        · by_cases c : x.toNat = 10
          · exact .inr (.inr c)
          · exact absurd (fun _ => ⟨a, b, c⟩) h5
    clear h1 h2 h3 h4 h5
    rcases h6 with h | h | h <;> (rw [h]; go_enter Tryz.func13, Tryz.ntmps13; go_wp2; go_ret; exact ⟨rfl, Below.refl _ _⟩)
theorem meas_step (n i : Nat) (h : i < n) : n - (intOf (.int .i64 ((i : Int) + 1))).toNat < n - (intOf (.int .i64 (i : Int))).toNat := by
  show n - ((i : Int) + 1).toNat < n - ((i : Int)).toNat
  omega
theorem outB_empty (T : Ps) : outB T [] = [] := rfl
theorem esc_bound (attr : Bool) (s : ByteArray) (hs : s.size ≤ 4000000000) (i : Nat) : (outB (escP attr).reverse (s.data.toList.take i)).length ≤ 404000000000 := by
  have h0 := outB_take_le (escP attr).reverse s.data.toList i
  have h1 := outB_len (escP attr).reverse (fun p hp => by have := esc_len attr p (by simpa using hp); omega) s.data.toList
  have h2 := add_le (escP attr).reverse (fun p hp => by have := esc_len attr p (by simpa using hp); omega) s.data.toList
  rw [← Lib.size_eq] at h1 h2
  omega
theorem esc_str (l : List UInt8) : strOfNums (bI l) = ⟨l.toArray⟩ := by
  unfold strOfNums bI
  congr 1
  simp [Function.comp_def]
set_option maxRecDepth 100000 in
set_option maxHeartbeats 2000000 in
theorem rescape_good (s : ByteArray) (attr : Bool) (w : World) (hs : s.size ≤ 4000000000)
    (hcv : Calls Tryz.prog 12 #[.string s] w fun e w' => e = .returned (vldV none) ∧ Below w.heap.size w w') :
    Calls Tryz.prog 5 #[.string s, .bool attr] w fun e w' => e = .returned (.tuple #[.string ⟨(outB (escP attr).reverse s.data.toList).toArray⟩, .int .i64 0]) ∧ Below w.heap.size w w' := by
  have HCV := Aside0.mk hcv
  have HSZ := Aside0.mk hs
  have HLB := Aside0.mk (esc_bound attr s hs)
  clear hs hcv
  have hrf : 0 = 0 := rfl
  clear hrf
  obtain ⟨T, hT⟩ : ∃ T, T = (escP attr).reverse := ⟨_, rfl⟩
  have HT := Aside0.mk (fun (x : UInt8) (W : World) => rescape1_calls x attr W)
  rw [← hT] at HLB HT ⊢
  clear hT
  go_enter Tryz.func5, Tryz.ntmps5
  go_wp2_with fail
  refine HCV.out.mono ?_
  rintro e w1 ⟨rfl, hb1⟩
  have HB1 := Aside0.mk hb1
  clear hb1
  unfold vldV
  go_wp2
  have hfull : s.data.toList.take s.size = s.data.toList := List.take_of_length_le (by rw [← Lib.size_eq]; exact Nat.le_refl _)
  have HFULL := Aside0.mk hfull
  clear hfull
  go_loopw [8, 9] (fun v iv wr => ∃ i : Nat, i ≤ s.size ∧ iv = .int .i64 (i : Int) ∧ Aside0 (wr.ownsRow w.heap.size 5 1 v (bI (outB T (s.data.toList.take i))).length (nums .u8 (bI (outB T (s.data.toList.take i))))) ∧ Aside0 (Below w.heap.size w wr)) (fun _ iv _ => s.size - (intOf iv).toNat)
  case atStart => exact ⟨0, Nat.zero_le _, rfl, ⟨by rw [List.take_zero, outB_empty]; exact World.ownsRow_nil _ _ _ _⟩, HB1⟩
  case round =>
    obtain ⟨i, hi, rfl, HO, HB⟩ := hrel
    by_cases hin : i < s.size
    · have hil : i < s.data.toList.length := by rw [← Lib.size_eq]; exact hin
      have ti : decide ((i : Int) < (s.size : Int)) = true := by simp; omega
      have wi : wrap64 ((i : Int) + 1) = (i : Int) + 1 := by have := HSZ.out; exact w64r2 (by omega) (by omega)
      have HO1 := Aside0.mk (outB_snoc T s.data.toList i hil)
      have HL0 := Aside0.mk (HLB.out i)
      have HL1 := Aside0.mk (HLB.out (i + 1))
      obtain ⟨x, hxx⟩ : ∃ x, s.data.toList[i]'hil = x := ⟨_, rfl⟩
      have hsi : ∀ h, (s[i]'h) = x := fun h => by rw [← hxx]; show s.data[i] = _; simp
      rw [hxx] at HO1
      have HE := Aside0.mk (fun W => HT.out x W)
      generalize ho1 : outB T (s.data.toList.take (i + 1)) = o1 at *
      generalize ho0 : outB T (s.data.toList.take i) = o0 at *
      generalize (look T x.toNat).getD [x] = ys at *
      have HEO := Aside0.mk ho1
      clear ho0 ho1 hxx hil
      go_wp2_with (first
        | (go_at_call 13; refine (HE.out _).mono ?_; rintro e w2 ⟨rfl, hb2⟩; have HB2 := Aside0.mk (HB.out.trans (hb2.mono HB.out.size)); have HO2 := Aside0.mk (own_move HO.out (fun k hk => hb2.block k (own_lt HO.out k hk))); clear hb2)
        | (at_builtin; refine print_append_str (w0 := w) w.heap.size rfl _ _ 35 9 5 rfl Tryz.underlying35 Tryz.underlying9 infoU8r u8 (bI o0) ⟨ys.toArray⟩ rfl rfl HO2.out HB2.out HB2.out.size (by have := HL1.out; rw [HO1.out, List.length_append] at this; simp [bI, ByteArray.size]; omega) ?_; intro v3 w3 hv3 hb3 hg3; have HV3 := Aside0.mk hv3; have HB3 := Aside0.mk hb3; clear hv3 hb3 hg3))
      have hbi : bI o0 ++ bytesOf ⟨ys.toArray⟩ = bI o1 := by rw [HO1.out]; simp [bI, bytesOf]
      refine ⟨⟨i + 1, by omega, by go_num, ⟨by rw [HEO.out, ← hbi]; exact HV3.out⟩, HB3⟩, ?_⟩
      rw [wi]
      exact meas_step s.size i hin
    · obtain rfl : i = s.size := by omega
      have ti : decide ((s.size : Int) < (s.size : Int)) = false := by simp
      rw [HFULL.out] at HO
      have hconv := own_string (P := Tryz.prog) (src := 35) (dst := 9) (e := 5) Tryz.underlying35 Tryz.underlying5 Tryz.underlying9 HO.out
      rw [esc_str] at hconv
      go_wp2
      go_ret2
      exact ⟨rfl, HB.out⟩
set_option maxRecDepth 100000 in
set_option maxHeartbeats 2000000 in
theorem rescape_calls (s : ByteArray) (attr : Bool) (w : World) (hC : ChW w) (hs : s.size ≤ 4000000000) :
    Calls Tryz.prog 5 #[.string s, .bool attr] w fun e w' => e = .returned (escE attr s (vld s)) ∧ Below w.heap.size w w' := by
  have HC := Aside0.mk hC
  have HCV := Aside0.mk (rvalid_calls s w hC (by unfold maxLen; omega))
  have HSZ := Aside0.mk hs
  clear hs hC
  cases hv : vld s with
  | some p =>
    rw [hv] at HCV
    clear hv
    go_enter Tryz.func5, Tryz.ntmps5
    go_wp2_with fail
    refine HCV.out.mono ?_
    rintro e w1 ⟨rfl, hb1⟩
    have HB1 := Aside0.mk hb1
    clear hb1
    unfold vldV
    go_wp2
    go_ret2
    exact ⟨rfl, HB1.out⟩
  | none =>
    rw [hv] at HCV
    clear hv
    exact rescape_good s attr w HSZ.out HCV.out
end Go.Proofs.YtjepodcgbfejgaaGreatDoor.Hw
/- The document's number of a reference, walked. -/
namespace Go.Proofs.YtjepodcgbfejgaaGreatDoor.Hw
open Go.RowKit Go.Proofs.YtjepodcgbfejgaaGreatDoorW.PrintWords Go.Proofs.YtjepodcgbfejgaaGreatDoorW.PrintLast Go.Proofs.YtjepodcgbfejgaaGreatDoorW.PrintMore Go.Proofs.YtjepodcgbfejgaaGreatDoor.PH Go.Proofs.YtjepodcgbfejgaaGreatDoor.CP
set_option linter.unusedVariables false
set_option linter.unusedSimpArgs false
theorem rdigit_is (x : UInt8) (base : Int) : gridironref05_digit.f 3 (x.toNat : Int) base = some (digI base x) := by
  have h0 := x.toNat_lt
  unfold digI digR gridironref05_digit.f gridironref05_digit.j0 gridironref05_digit.j1 gridironref05_digit.j2
  generalize (x.toNat : Int) = y at *
  simp only [decide_eq_true_eq, Bool.false_eq_true, if_false]
  repeat' split
  all_goals (refine congrArg some ?_; omega)
theorem digI_range (base : Int) (x : UInt8) : -1 ≤ digI base x ∧ digI base x ≤ 15 := by
  have h0 := x.toNat_lt
  unfold digI digR
  repeat' split
  all_goals omega
def numR (l : List UInt8) : Option (Int × Nat) := if l.head? = some 120 then (numN 16 l.tail).map (fun x => (x.1, x.2 + 1)) else numN 10 l
def numV : Option (Int × Nat) → Value
  | some x => .tuple #[.string (Utf8.encode x.1), .int .i64 (x.2 : Int), .bool true]
  | none => .tuple #[.string ⟨#[]⟩, .int .i64 0, .bool false]
theorem numW_go {base : Int} {x : UInt8} {l : List UInt8} {n : Int} (h : 0 ≤ digI base x) : numW base (x :: l) n = ((numW base l (min (n * base + digI base x) 1114112)).1, (numW base l (min (n * base + digI base x) 1114112)).2.1 + 1, (numW base l (min (n * base + digI base x) 1114112)).2.2) := by rw [numW, if_pos h]
theorem numW_stop {base : Int} {x : UInt8} {l : List UInt8} {n : Int} (h : ¬ 0 ≤ digI base x) : numW base (x :: l) n = (n, 0, x :: l) := by rw [numW, if_neg h]
theorem numN_eq {base : Int} {l : List UInt8} {n : Int} {k : Nat} {r : List UInt8} (h : numW base l 0 = (n, k, r)) : numN base l = if k = 0 ∨ r.head? ≠ some 59 ∨ xc n = false then none else some (n, k + 1) := by unfold numN; rw [h]
theorem below_step {w w1 w2 : World} (h : Aside0 (Below w.heap.size w w1)) (h2 : Below w1.heap.size w1 w2) : Aside0 (Below w.heap.size w w2) := ⟨h.out.trans (h2.mono h.out.size)⟩
set_option maxRecDepth 100000 in
set_option maxHeartbeats 2000000 in
theorem rnumber_calls (s : ByteArray) (w : World) (hs : s.size ≤ 4000000000) :
    Calls Tryz.prog 32 #[.string s] w fun e w' => e = .returned (numV (numR s.data.toList)) ∧ Below w.heap.size w w' := by
  have HSZ := Aside0.mk hs
  clear hs
  have hlen : s.data.toList.length = s.size := (Lib.size_eq s).symm
  have HLEN := Aside0.mk hlen
  clear hlen
  go_enter Tryz.func32, Tryz.ntmps32
  go_upto_region 2 with (fail)
  go_cut [15] (fun v15 wc => v15 = .bool (decide (s.data.toList.head? = some 120)) ∧ w = wc)
  case first =>
    by_cases h0 : s.size = 0
    · have hne := toList_none h0
      have hd : decide (s.data.toList.head? = some 120) = false := by
        have : s.data.toList = [] := List.eq_nil_of_length_eq_zero (by rw [HLEN.out]; exact h0)
        rw [this]; rfl
      have HD := Aside0.mk hd
      clear h0 hd
      go_wp2_with fail
      go_meet
      case rel => exact ⟨by rw [HD.out], rfl⟩
    · have h0' : 0 < s.size := by omega
      have hne := toList_some h0'
      obtain ⟨x, l, hxl⟩ : ∃ x l, s.data.toList = x :: l := List.exists_cons_of_ne_nil (fun e => h0 (by rw [← HLEN.out, e]; rfl))
      have hsx : ∀ h, s[0]'h = x := fun h => by
        show s.data[0] = x
        have : s.data.toList[0]'(by rw [hxl]; simp) = x := by simp [hxl]
        simpa using this
      have hd : decide (s.data.toList.head? = some 120) = decide (x = 120) := by rw [hxl]; simp
      have HD := Aside0.mk hd
      clear hd hxl h0
      by_cases hx : x = 120
      · subst hx
        go_wp2_with fail
        go_meet
        case rel => exact ⟨by rw [HD.out]; rfl, rfl⟩
      · have hx2 : ((x.toNat : Int) == 120) = false := by
          apply beq_eq_false_iff_ne.2
          intro e
          exact hx (UInt8.toNat_inj.1 (by show x.toNat = 120; omega))
        have HX := Aside0.mk hx
        clear hx
        go_wp2_with fail
        go_meet
        case rel => exact ⟨by rw [HD.out, decide_eq_false HX.out], rfl⟩
  case rest =>
    obtain ⟨rfl, rfl⟩ := hcut
    obtain ⟨b, hb⟩ : ∃ b, b = decide (s.data.toList.head? = some 120) := ⟨_, rfl⟩
    rw [← hb]
    have HBD := Aside0.mk hb
    clear hb
    go_upto_if 15 with (fail)
    go_cut [5, 6] (fun v5 v6 wc => v5 = .int .i64 (if b = true then 16 else 10) ∧ v6 = .int .i64 ((if b = true then 1 else 0 : Nat) : Int) ∧ w = wc)
    case first =>
      cases b <;> (go_wp2; go_meet; case rel => exact ⟨rfl, rfl, rfl⟩)
    case rest =>
      obtain ⟨rfl, rfl, rfl⟩ := hcut
      obtain ⟨base, hbase⟩ : ∃ base : Int, base = (if b = true then 16 else 10) := ⟨_, rfl⟩
      obtain ⟨p0, hp0⟩ : ∃ p0 : Nat, p0 = (if b = true then 1 else 0) := ⟨_, rfl⟩
      have HR : Aside0 (numR s.data.toList = (numN base (s.data.toList.drop p0)).map (fun x => (x.1, x.2 + p0))) := ⟨by
        rw [hbase, hp0, HBD.out]
        unfold numR
        by_cases h : s.data.toList.head? = some 120
        · rw [if_pos h, decide_eq_true h]
          simp
        · rw [if_neg h, decide_eq_false h]
          simp⟩
      have HP0 : Aside0 (p0 ≤ s.size) := ⟨by
        rw [hp0, HBD.out]
        by_cases h : s.data.toList.head? = some 120
        · rw [decide_eq_true h]
          have : s.data.toList ≠ [] := fun e => by rw [e] at h; cases h
          have := List.length_pos_iff.2 this
          rw [HLEN.out] at this
          exact this
        · rw [decide_eq_false h]; exact Nat.zero_le _⟩
      have HBB : Aside0 (base = 10 ∨ base = 16) := ⟨by rw [hbase]; split <;> simp⟩
      have HP1 : Aside0 (p0 ≤ 1) := ⟨by rw [hp0]; split <;> simp⟩
      rw [← hbase, ← hp0]
      clear hbase hp0 HBD
      generalize hL : s.data.toList = L at *
      have HL := Aside0.mk hL
      clear hL
      have HDG := Aside0.mk (fun (x : UInt8) (W : World) => (gridironref05_digit.calls 3 (x.toNat : Int) base (digI base x) W (rdigit_is x base)).mono (fun e w' h => (⟨h.1, h.2.below⟩ : e = .returned (.int .i64 (digI base x)) ∧ Below W.heap.size W w')))
      have HCH := Aside0.mk (fun (n : Int) (W : World) => gridironref05_Char.calls 1001 n (xc n) W (rchar_is n))
      go_wp2_with fail
      go_loopw [6, 7] (fun v6 v7 wr => ∃ (p : Nat) (n : Int), p0 ≤ p ∧ p ≤ s.size ∧ 0 ≤ n ∧ n ≤ 1114112 ∧ v6 = .int .i64 (p : Int) ∧ v7 = .int .i64 n ∧ Aside0 (numW base (L.drop p0) 0 = ((numW base (L.drop p) n).1, (numW base (L.drop p) n).2.1 + (p - p0), (numW base (L.drop p) n).2.2)) ∧ Aside0 (Below w.heap.size w wr)) (fun v6 _ _ => s.size - (intOf v6).toNat)
      case atStart => exact ⟨p0, 0, Nat.le_refl _, HP0.out, by decide, by decide, rfl, rfl, ⟨by rw [Nat.sub_self]; rfl⟩, ⟨Below.refl _ _⟩⟩
      case round =>
        obtain ⟨p, n, hpp, hps, hn0, hn1, rfl, rfl, HW, HB⟩ := hrel
        by_cases hin : p < s.size
        · have hil : p < L.length := by rw [HLEN.out]; exact hin
          have hdc := List.drop_eq_getElem_cons hil
          obtain ⟨x, hx⟩ : ∃ x, L[p]'hil = x := ⟨_, rfl⟩
          have hsx : ∀ h, s[p]'h = x := fun h => by
            rw [← hx]
            show s.data[p] = _
            simp [← HL.out]
          rw [hx] at hdc
          have HDC := Aside0.mk hdc
          clear hdc hx hil
          have hin2 : decide ((p : Int) < (s.size : Int)) = true := by simp; omega
          by_cases hd : 0 ≤ digI base x
          · have HDX := Aside0.mk (fun W => HDG.out x W)
            have HN := Aside0.mk (numW_go (l := L.drop (p + 1)) (n := n) hd)
            have hrg := digI_range base x
            generalize digI base x = d at *
            have hd2 : decide (0 ≤ d) = true := decide_eq_true hd
            have hm : 0 ≤ n * base ∧ n * base ≤ 17825792 := by rcases HBB.out with e | e <;> rw [e] <;> omega
            have wm : wrap64 (n * base) = n * base := w64r2 (by omega) (by omega)
            have wd : wrap64 (n * base + d) = n * base + d := w64r2 (by omega) (by omega)
            have wi : wrap64 ((p : Int) + 1) = (p : Int) + 1 := by have := HSZ.out; exact w64r2 (by omega) (by omega)
            have HMN : Aside0 (0 ≤ min (n * base + d) 1114112 ∧ min (n * base + d) 1114112 ≤ 1114112) := ⟨by omega⟩
            go_wp2_with (go_at_call 45; refine (HDX.out _).mono ?_; rintro e w2 ⟨rfl, hb2⟩; have HB2 := below_step (w := w) (by assumption) hb2; clear hb2)
            refine ⟨⟨p + 1, min (n * base + d) 1114112, by omega, by omega, HMN.out.1, HMN.out.2, by first | rfl | go_num, by first | rfl | go_num, ⟨?_⟩, by assumption⟩, ?_⟩
            · have h := HW.out
              rw [HDC.out, HN.out] at h
              rw [h]
              refine Prod.ext rfl (Prod.ext ?_ rfl)
              show _ + 1 + (p - p0) = _ + (p + 1 - p0)
              omega
            · first
                | exact meas_step s.size p hin
                | (rw [wi]; exact meas_step s.size p hin)
          · have HDX := Aside0.mk (fun W => HDG.out x W)
            have HN : Aside0 (numW base (L.drop p0) 0 = (n, p - p0, x :: L.drop (p + 1))) := ⟨by
              have h := HW.out
              rw [HDC.out, numW_stop hd] at h
              simpa using h⟩
            have hd2 : decide (0 ≤ digI base x) = false := decide_eq_false hd
            generalize digI base x = d at *
            clear hd
            have wi : wrap64 ((p : Int) + 1) = (p : Int) + 1 := by have := HSZ.out; exact w64r2 (by omega) (by omega)
            have hge : decide ((s.size : Int) ≤ (p : Int)) = false := by simp; omega
            have wn : wrap32 n = n := by unfold wrap32; omega
            have HNN := Aside0.mk (numN_eq HN.out)
            by_cases hpe : p = p0
            · have hpb : ((p : Int) == (p0 : Int)) = true := by rw [hpe]; simp
              have HV : Aside0 (numR L = none) := ⟨by rw [HR.out, HNN.out, if_pos (.inl (by omega))]; rfl⟩
              clear hpe
              go_wp2_with (go_at_call 45; refine (HDX.out _).mono ?_; rintro e w2 ⟨rfl, hb2⟩; have HB2 := below_step (w := w) (by assumption) hb2; clear hb2)
              go_ret3
              exact ⟨by rw [HL.out, HV.out]; rfl, Aside0.out (by assumption)⟩
            · have hpb : ((p : Int) == (p0 : Int)) = false := by simp; omega
              by_cases hx59 : x = 59
              · subst hx59
                have HCX := Aside0.mk (fun W => HCH.out n W)
                cases hxc : xc n with
                | true =>
                  rw [hxc] at HCX
                  have HV : Aside0 (numR L = some (n, p + 1)) := ⟨by
                    rw [HR.out, HNN.out, if_neg (by simp [hxc]; omega)]
                    simp
                    omega⟩
                  have HVV : Aside0 (numV (numR s.data.toList) = .tuple #[.string (Utf8.encode n), .int .i64 (wrap64 ((p : Int) + 1)), .bool true]) := ⟨by rw [HL.out, HV.out, wi]; rfl⟩
                  clear hpe hxc
                  go_wp2_with (first
                    | (go_at_call 45; refine (HDX.out _).mono ?_; rintro e w2 ⟨rfl, hb2⟩; have HB2 := below_step (w := w) (by assumption) hb2; clear hb2)
                    | (go_at_call 26; refine (HCX.out _).mono ?_; rintro e w3 ⟨rfl, hb3⟩; have HB3 := below_step (w := w) (by assumption) hb3; clear hb3))
                  go_ret3
                  exact ⟨by rw [HVV.out]; rfl, Aside0.out (by assumption)⟩
                | false =>
                  rw [hxc] at HCX
                  have HV : Aside0 (numR L = none) := ⟨by rw [HR.out, HNN.out, if_pos (.inr (.inr hxc))]; rfl⟩
                  clear hpe hxc
                  go_wp2_with (first
                    | (go_at_call 45; refine (HDX.out _).mono ?_; rintro e w2 ⟨rfl, hb2⟩; have HB2 := below_step (w := w) (by assumption) hb2; clear hb2)
                    | (go_at_call 26; refine (HCX.out _).mono ?_; rintro e w3 ⟨rfl, hb3⟩; have HB3 := below_step (w := w) (by assumption) hb3; clear hb3))
                  go_ret3
                  exact ⟨by rw [HL.out, HV.out]; rfl, Aside0.out (by assumption)⟩
              · have hx2 : ((x.toNat : Int) == 59) = false := by
                  apply beq_eq_false_iff_ne.2
                  intro e
                  exact hx59 (UInt8.toNat_inj.1 (by show x.toNat = 59; omega))
                have HV : Aside0 (numR L = none) := ⟨by rw [HR.out, HNN.out, if_pos (.inr (.inl (by simpa using hx59)))]; rfl⟩
                have hx5 : ¬ ((x.toNat : Int) = 59) := by simpa using hx2
                clear hpe hx59
                go_wp2_with (go_at_call 45; refine (HDX.out _).mono ?_; rintro e w2 ⟨rfl, hb2⟩; have HB2 := below_step (w := w) (by assumption) hb2; clear hb2)
                go_ret3
                exact ⟨by rw [HL.out, HV.out]; rfl, Aside0.out (by assumption)⟩
        · obtain rfl : p = s.size := by omega
          have hin2 : decide ((s.size : Int) < (s.size : Int)) = false := by simp
          have hge : decide ((s.size : Int) ≤ (s.size : Int)) = true := by simp
          have HN : Aside0 (numW base (L.drop p0) 0 = (n, s.size - p0, [])) := ⟨by
            have h := HW.out
            rw [List.drop_of_length_le (Nat.le_of_eq HLEN.out)] at h
            simpa [numW] using h⟩
          have HV : Aside0 (numR L = none) := ⟨by rw [HR.out, numN_eq HN.out, if_pos (.inr (.inl (by simp)))]; rfl⟩
          by_cases hpe : s.size = p0
          · have hpb : ((s.size : Int) == (p0 : Int)) = true := by rw [hpe]; simp
            clear hpe hin
            go_wp2_with fail
            go_ret3
            exact ⟨by rw [HL.out, HV.out]; rfl, HB.out⟩
          · have hpb : ((s.size : Int) == (p0 : Int)) = false := by simp; omega
            clear hpe hin
            go_wp2_with fail
            go_ret3
            exact ⟨by rw [HL.out, HV.out]; rfl, HB.out⟩
end Go.Proofs.YtjepodcgbfejgaaGreatDoor.Hw
/- The document's reference, walked. -/
namespace Go.Proofs.YtjepodcgbfejgaaGreatDoor.Hw
open Go.RowKit Go.Proofs.YtjepodcgbfejgaaGreatDoorW.PrintWords Go.Proofs.YtjepodcgbfejgaaGreatDoorW.PrintLast Go.Proofs.YtjepodcgbfejgaaGreatDoorW.PrintMore Go.Proofs.YtjepodcgbfejgaaGreatDoor.PH Go.Proofs.YtjepodcgbfejgaaGreatDoor.CP
set_option linter.unusedVariables false
set_option linter.unusedSimpArgs false
def rnm : Nat → List UInt8
  | 0 => [97, 109, 112, 59] | 1 => [108, 116, 59] | 2 => [103, 116, 59] | 3 => [113, 117, 111, 116, 59] | _ => [97, 112, 111, 115, 59]
def rsy : Nat → UInt8
  | 0 => 38 | 1 => 60 | 2 => 62 | 3 => 34 | _ => 39
theorem ext_take (s : ByteArray) (k : Nat) : (s.extract 0 k).toList = s.data.toList.take k := by
  rw [Lib.toList_data, ByteArray.data_extract, Array.toList_extract]
  simp [List.extract]
theorem pre_yes {k L : List UInt8} (h : (L.take k.length == k) = true) : k.isPrefixOf L = true := by
  rw [List.isPrefixOf_iff_prefix, List.prefix_iff_eq_take]
  exact (eq_of_beq h).symm
theorem pre_not {k L : List UInt8} (h : (L.take k.length == k) = false) : k.isPrefixOf L = false := by
  cases h2 : k.isPrefixOf L with
  | false => rfl
  | true =>
    rw [List.isPrefixOf_iff_prefix, List.prefix_iff_eq_take] at h2
    rw [← h2] at h
    simp at h
theorem pre_short {k L : List UInt8} (h : L.length < k.length) : k.isPrefixOf L = false := by
  cases h2 : k.isPrefixOf L with
  | false => rfl
  | true =>
    rw [List.isPrefixOf_iff_prefix] at h2
    have := h2.length_le
    omega
theorem refD_name (L : List UInt8) (k : Nat) (hk : k < 5) (h : ∀ j, j < k → (rnm j).isPrefixOf L = false) (hy : (rnm k).isPrefixOf L = true) : refD L = some (((rsy k).toNat : Int), (rnm k).length) := by
  unfold refD
  obtain rfl | rfl | rfl | rfl | rfl : k = 0 ∨ k = 1 ∨ k = 2 ∨ k = 3 ∨ k = 4 := by omega
  · have hy : [97, 109, 112, 59].isPrefixOf L = true := hy
    rw [if_pos hy]; rfl
  · have h0 : [97, 109, 112, 59].isPrefixOf L = false := h 0 (by decide)
    have hy : [108, 116, 59].isPrefixOf L = true := hy
    rw [h0, if_neg (by decide), if_pos hy]; rfl
  · have h0 : [97, 109, 112, 59].isPrefixOf L = false := h 0 (by decide)
    have h1 : [108, 116, 59].isPrefixOf L = false := h 1 (by decide)
    have hy : [103, 116, 59].isPrefixOf L = true := hy
    rw [h0, h1, if_neg (by decide), if_neg (by decide), if_pos hy]; rfl
  · have h0 : [97, 109, 112, 59].isPrefixOf L = false := h 0 (by decide)
    have h1 : [108, 116, 59].isPrefixOf L = false := h 1 (by decide)
    have h2 : [103, 116, 59].isPrefixOf L = false := h 2 (by decide)
    have hy : [113, 117, 111, 116, 59].isPrefixOf L = true := hy
    rw [h0, h1, h2, if_neg (by decide), if_neg (by decide), if_neg (by decide), if_pos hy]; rfl
  · have h0 : [97, 109, 112, 59].isPrefixOf L = false := h 0 (by decide)
    have h1 : [108, 116, 59].isPrefixOf L = false := h 1 (by decide)
    have h2 : [103, 116, 59].isPrefixOf L = false := h 2 (by decide)
    have h3 : [113, 117, 111, 116, 59].isPrefixOf L = false := h 3 (by decide)
    have hy : [97, 112, 111, 115, 59].isPrefixOf L = true := hy
    rw [h0, h1, h2, h3, if_neg (by decide), if_neg (by decide), if_neg (by decide), if_neg (by decide), if_pos hy]; rfl
theorem refD_other (L : List UInt8) (h : ∀ j, j < 5 → (rnm j).isPrefixOf L = false) : refD L = refH L := by
  have h0 : [97, 109, 112, 59].isPrefixOf L = false := h 0 (by decide)
  have h1 : [108, 116, 59].isPrefixOf L = false := h 1 (by decide)
  have h2 : [103, 116, 59].isPrefixOf L = false := h 2 (by decide)
  have h3 : [113, 117, 111, 116, 59].isPrefixOf L = false := h 3 (by decide)
  have h4 : [97, 112, 111, 115, 59].isPrefixOf L = false := h 4 (by decide)
  unfold refD
  rw [h0, h1, h2, h3, h4]
  simp
theorem refH_num (x : UInt8) (l : List UInt8) : refH (x :: l) = if x = 35 then (numR l).map (fun q => (q.1, q.2 + 1)) else none := by
  by_cases hx : x = 35
  · subst hx
    rw [if_pos rfl]
    unfold numR
    cases l with
    | nil => rfl
    | cons y r =>
      by_cases hy : y = 120
      · subst hy
        show (numN 16 r).map _ = ((numN 16 r).map _).map _
        cases numN 16 r <;> rfl
      · rw [if_neg (by simpa using hy)]
        unfold refH
        split
        · rename_i hh; exact absurd (List.cons.inj (List.cons.inj hh).2).1 hy
        · rename_i hh; rw [← (List.cons.inj hh).2]
        · rename_i hh1 hh2; exact absurd rfl (hh2 _)
  · rw [if_neg hx]
    unfold refH
    split
    · rename_i hh; exact absurd (List.cons.inj hh).1 hx
    · rename_i hh; exact absurd (List.cons.inj hh).1 hx
    · rfl
def numK (k : Int) : Option (Int × Nat) → Value
  | some x => .tuple #[.string (Utf8.encode x.1), .int .i64 (x.2 : Int), .bool true]
  | none => .tuple #[.string ⟨#[]⟩, .int .i64 k, .bool false]
theorem numN_le (base : Int) (L : List UInt8) {q : Int × Nat} (h : numN base L = some q) : q.2 ≤ L.length + 1 := by
  have hle : ∀ (l : List UInt8) (n : Int), (numW base l n).2.1 ≤ l.length := by
    intro l
    induction l with
    | nil => intro n; simp [numW]
    | cons x l ih =>
      intro n
      rw [numW]
      split
      · have := ih (min (n * base + digI base x) 1114112)
        simp only [List.length_cons]
        omega
      · simp
  unfold numN at h
  split at h
  · cases h
  · have := hle L 0
    cases h
    simpa using this
theorem numR_le {L : List UInt8} {q : Int × Nat} (h : numR L = some q) : q.2 ≤ L.length + 2 := by
  unfold numR at h
  split at h
  · cases hn : numN 16 L.tail with
    | none => rw [hn] at h; cases h
    | some r =>
      rw [hn] at h
      cases h
      have := numN_le 16 L.tail hn
      simp at this
      show r.2 + 1 ≤ _
      omega
  · have := numN_le 10 L h
    omega
theorem two_fst (h : Array Obj) (a b : Obj) : ((h.push a).push b)[h.size]? = some a := by
  rw [Array.getElem?_push, if_neg (by simp)]
  simp
theorem two_snd (h : Array Obj) (a b : Obj) : ((h.push a).push b)[h.size + 1]? = some b := by
  rw [Array.getElem?_push, if_pos (by simp)]
set_option maxRecDepth 100000 in
set_option maxHeartbeats 2000000 in
theorem rreference_calls (s : ByteArray) (w : World) (hs : s.size ≤ 4000000000) :
    Calls Tryz.prog 19 #[.string s] w fun e w' => (∃ k, e = .returned (numK k (refD s.data.toList))) ∧ Below w.heap.size w w' := by
  have HSZ := Aside0.mk hs
  have HNUM := Aside0.mk (fun (t : ByteArray) (W : World) (h : t.size ≤ 4000000000) => rnumber_calls t W h)
  clear hs
  have HLEN := Aside0.mk (Lib.size_eq s).symm
  go_enter Tryz.func19, Tryz.ntmps19
  go_wp2_with fail
  obtain ⟨A5, hA5⟩ : ∃ A : Array Value, A = #[.string ⟨#[97, 109, 112, 59]⟩, .string ⟨#[108, 116, 59]⟩, .string ⟨#[103, 116, 59]⟩, .string ⟨#[113, 117, 111, 116, 59]⟩, .string ⟨#[97, 112, 111, 115, 59]⟩] := ⟨_, rfl⟩
  obtain ⟨A6, hA6⟩ : ∃ A : Array Value, A = #[.string ⟨#[38]⟩, .string ⟨#[60]⟩, .string ⟨#[62]⟩, .string ⟨#[34]⟩, .string ⟨#[39]⟩] := ⟨_, rfl⟩
  go_loopw [7] (fun v7 wr => ∃ i : Nat, i ≤ 5 ∧ v7 = .int .i64 (i : Int) ∧ wr.heap[w.heap.size]? = some (.cells A5 79) ∧ wr.heap[w.heap.size + 1]? = some (.cells A6 79) ∧ Aside0 (∀ j, j < i → (rnm j).isPrefixOf s.data.toList = false) ∧ Aside0 (Below w.heap.size w wr)) (fun v7 _ => 5 - (intOf v7).toNat)
  case atStart =>
    refine ⟨0, by decide, rfl, ?_, ?_, ⟨fun j h => absurd h (Nat.not_lt_zero _)⟩, ⟨((Below.refl _ w).alloc (Nat.le_refl _) _).alloc (by simp [World.size_alloc]) _⟩⟩
    · rw [hA5]; exact two_fst _ _ _
    · rw [hA6]; exact two_snd _ _ _
  case round =>
    obtain ⟨i, hi, rfl, hc5, hc6, HP, HB⟩ := hrel
    by_cases h5 : i < 5
    · skip
      obtain rfl | rfl | rfl | rfl | rfl : i = 0 ∨ i = 1 ∨ i = 2 ∨ i = 3 ∨ i = 4 := by omega
      · -- 0
        have hk5 : wr.cell? ⟨w.heap.size, 0, none⟩ = some (.string ⟨#[97, 109, 112, 59]⟩) := by
          rw [hA5] at hc5
          unfold World.cell?
          rw [hc5]
          rfl
        have hk6 : wr.cell? ⟨w.heap.size + 1, 0, none⟩ = some (.string ⟨#[38]⟩) := by
          rw [hA6] at hc6
          unfold World.cell?
          rw [hc6]
          rfl
        by_cases hl : 4 ≤ s.size
        · have hl2 : decide (((4 : Nat) : Int) ≤ (s.size : Int)) = true := by simp; omega
          have hl3 : decide (((4 : Int)) ≤ (s.size : Int)) = true := by simp; omega
          cases he : ((s.extract 0 4).toList == [97, 109, 112, 59]) with
          | true =>
            have HVV : Aside0 (numK 0 (refD s.data.toList) = .tuple #[.string ⟨#[38]⟩, .int .i64 4, .bool true]) := ⟨by
              rw [refD_name s.data.toList 0 (by decide) HP.out (pre_yes (by rw [← ext_take]; exact he))]
              kernel_rfl⟩
            go_wp2_with fail
            go_quiet (fail)
            go_wp2_with fail
            go_quiet (fail)
            go_wp2_with fail
            go_ret3
            exact ⟨⟨_, by rw [HVV.out]; rfl⟩, by first | exact HB.out | exact pw_below_drewN HB.out _ | exact pw_below_drewN (pw_below_drewN HB.out _) _⟩
          | false =>
            have HPN : Aside0 (∀ j, j < 0 + 1 → (rnm j).isPrefixOf s.data.toList = false) := ⟨fun j hj => by
              by_cases h : j < 0
              · exact HP.out j h
              · obtain rfl : j = 0 := by omega
                exact pre_not (by rw [← ext_take]; exact he)⟩
            go_wp2_with fail
            go_quiet (fail)
            go_wp2_with fail
            exact ⟨⟨0 + 1, by decide, by go_num, by simpa using hc5, by simpa using hc6, HPN, ⟨pw_below_drewN HB.out _⟩⟩, by decide⟩
        · have hl2 : decide (((4 : Nat) : Int) ≤ (s.size : Int)) = false := by simp; omega
          have hl3 : decide (((4 : Int)) ≤ (s.size : Int)) = false := by simp; omega
          have HPN : Aside0 (∀ j, j < 0 + 1 → (rnm j).isPrefixOf s.data.toList = false) := ⟨fun j hj => by
              by_cases h : j < 0
              · exact HP.out j h
              · obtain rfl : j = 0 := by omega
                exact pre_short (by rw [HLEN.out]; show s.size < 4; omega)⟩
          go_wp2_with fail
          go_quiet (fail)
          go_wp2_with fail
          exact ⟨⟨0 + 1, by decide, by go_num, by simpa using hc5, by simpa using hc6, HPN, ⟨pw_below_drewN HB.out _⟩⟩, by decide⟩
      · -- 1
        have hk5 : wr.cell? ⟨w.heap.size, 1, none⟩ = some (.string ⟨#[108, 116, 59]⟩) := by
          rw [hA5] at hc5
          unfold World.cell?
          rw [hc5]
          rfl
        have hk6 : wr.cell? ⟨w.heap.size + 1, 1, none⟩ = some (.string ⟨#[60]⟩) := by
          rw [hA6] at hc6
          unfold World.cell?
          rw [hc6]
          rfl
        by_cases hl : 3 ≤ s.size
        · have hl2 : decide (((3 : Nat) : Int) ≤ (s.size : Int)) = true := by simp; omega
          have hl3 : decide (((3 : Int)) ≤ (s.size : Int)) = true := by simp; omega
          cases he : ((s.extract 0 3).toList == [108, 116, 59]) with
          | true =>
            have HVV : Aside0 (numK 0 (refD s.data.toList) = .tuple #[.string ⟨#[60]⟩, .int .i64 3, .bool true]) := ⟨by
              rw [refD_name s.data.toList 1 (by decide) HP.out (pre_yes (by rw [← ext_take]; exact he))]
              kernel_rfl⟩
            go_wp2_with fail
            go_quiet (fail)
            go_wp2_with fail
            go_quiet (fail)
            go_wp2_with fail
            go_ret3
            exact ⟨⟨_, by rw [HVV.out]; rfl⟩, by first | exact HB.out | exact pw_below_drewN HB.out _ | exact pw_below_drewN (pw_below_drewN HB.out _) _⟩
          | false =>
            have HPN : Aside0 (∀ j, j < 1 + 1 → (rnm j).isPrefixOf s.data.toList = false) := ⟨fun j hj => by
              by_cases h : j < 1
              · exact HP.out j h
              · obtain rfl : j = 1 := by omega
                exact pre_not (by rw [← ext_take]; exact he)⟩
            go_wp2_with fail
            go_quiet (fail)
            go_wp2_with fail
            exact ⟨⟨1 + 1, by decide, by go_num, by simpa using hc5, by simpa using hc6, HPN, ⟨pw_below_drewN HB.out _⟩⟩, by decide⟩
        · have hl2 : decide (((3 : Nat) : Int) ≤ (s.size : Int)) = false := by simp; omega
          have hl3 : decide (((3 : Int)) ≤ (s.size : Int)) = false := by simp; omega
          have HPN : Aside0 (∀ j, j < 1 + 1 → (rnm j).isPrefixOf s.data.toList = false) := ⟨fun j hj => by
              by_cases h : j < 1
              · exact HP.out j h
              · obtain rfl : j = 1 := by omega
                exact pre_short (by rw [HLEN.out]; show s.size < 3; omega)⟩
          go_wp2_with fail
          go_quiet (fail)
          go_wp2_with fail
          exact ⟨⟨1 + 1, by decide, by go_num, by simpa using hc5, by simpa using hc6, HPN, ⟨pw_below_drewN HB.out _⟩⟩, by decide⟩
      · -- 2
        have hk5 : wr.cell? ⟨w.heap.size, 2, none⟩ = some (.string ⟨#[103, 116, 59]⟩) := by
          rw [hA5] at hc5
          unfold World.cell?
          rw [hc5]
          rfl
        have hk6 : wr.cell? ⟨w.heap.size + 1, 2, none⟩ = some (.string ⟨#[62]⟩) := by
          rw [hA6] at hc6
          unfold World.cell?
          rw [hc6]
          rfl
        by_cases hl : 3 ≤ s.size
        · have hl2 : decide (((3 : Nat) : Int) ≤ (s.size : Int)) = true := by simp; omega
          have hl3 : decide (((3 : Int)) ≤ (s.size : Int)) = true := by simp; omega
          cases he : ((s.extract 0 3).toList == [103, 116, 59]) with
          | true =>
            have HVV : Aside0 (numK 0 (refD s.data.toList) = .tuple #[.string ⟨#[62]⟩, .int .i64 3, .bool true]) := ⟨by
              rw [refD_name s.data.toList 2 (by decide) HP.out (pre_yes (by rw [← ext_take]; exact he))]
              kernel_rfl⟩
            go_wp2_with fail
            go_quiet (fail)
            go_wp2_with fail
            go_quiet (fail)
            go_wp2_with fail
            go_ret3
            exact ⟨⟨_, by rw [HVV.out]; rfl⟩, by first | exact HB.out | exact pw_below_drewN HB.out _ | exact pw_below_drewN (pw_below_drewN HB.out _) _⟩
          | false =>
            have HPN : Aside0 (∀ j, j < 2 + 1 → (rnm j).isPrefixOf s.data.toList = false) := ⟨fun j hj => by
              by_cases h : j < 2
              · exact HP.out j h
              · obtain rfl : j = 2 := by omega
                exact pre_not (by rw [← ext_take]; exact he)⟩
            go_wp2_with fail
            go_quiet (fail)
            go_wp2_with fail
            exact ⟨⟨2 + 1, by decide, by go_num, by simpa using hc5, by simpa using hc6, HPN, ⟨pw_below_drewN HB.out _⟩⟩, by decide⟩
        · have hl2 : decide (((3 : Nat) : Int) ≤ (s.size : Int)) = false := by simp; omega
          have hl3 : decide (((3 : Int)) ≤ (s.size : Int)) = false := by simp; omega
          have HPN : Aside0 (∀ j, j < 2 + 1 → (rnm j).isPrefixOf s.data.toList = false) := ⟨fun j hj => by
              by_cases h : j < 2
              · exact HP.out j h
              · obtain rfl : j = 2 := by omega
                exact pre_short (by rw [HLEN.out]; show s.size < 3; omega)⟩
          go_wp2_with fail
          go_quiet (fail)
          go_wp2_with fail
          exact ⟨⟨2 + 1, by decide, by go_num, by simpa using hc5, by simpa using hc6, HPN, ⟨pw_below_drewN HB.out _⟩⟩, by decide⟩
      · -- 3
        have hk5 : wr.cell? ⟨w.heap.size, 3, none⟩ = some (.string ⟨#[113, 117, 111, 116, 59]⟩) := by
          rw [hA5] at hc5
          unfold World.cell?
          rw [hc5]
          rfl
        have hk6 : wr.cell? ⟨w.heap.size + 1, 3, none⟩ = some (.string ⟨#[34]⟩) := by
          rw [hA6] at hc6
          unfold World.cell?
          rw [hc6]
          rfl
        by_cases hl : 5 ≤ s.size
        · have hl2 : decide (((5 : Nat) : Int) ≤ (s.size : Int)) = true := by simp; omega
          have hl3 : decide (((5 : Int)) ≤ (s.size : Int)) = true := by simp; omega
          cases he : ((s.extract 0 5).toList == [113, 117, 111, 116, 59]) with
          | true =>
            have HVV : Aside0 (numK 0 (refD s.data.toList) = .tuple #[.string ⟨#[34]⟩, .int .i64 5, .bool true]) := ⟨by
              rw [refD_name s.data.toList 3 (by decide) HP.out (pre_yes (by rw [← ext_take]; exact he))]
              kernel_rfl⟩
            go_wp2_with fail
            go_quiet (fail)
            go_wp2_with fail
            go_quiet (fail)
            go_wp2_with fail
            go_ret3
            exact ⟨⟨_, by rw [HVV.out]; rfl⟩, by first | exact HB.out | exact pw_below_drewN HB.out _ | exact pw_below_drewN (pw_below_drewN HB.out _) _⟩
          | false =>
            have HPN : Aside0 (∀ j, j < 3 + 1 → (rnm j).isPrefixOf s.data.toList = false) := ⟨fun j hj => by
              by_cases h : j < 3
              · exact HP.out j h
              · obtain rfl : j = 3 := by omega
                exact pre_not (by rw [← ext_take]; exact he)⟩
            go_wp2_with fail
            go_quiet (fail)
            go_wp2_with fail
            exact ⟨⟨3 + 1, by decide, by go_num, by simpa using hc5, by simpa using hc6, HPN, ⟨pw_below_drewN HB.out _⟩⟩, by decide⟩
        · have hl2 : decide (((5 : Nat) : Int) ≤ (s.size : Int)) = false := by simp; omega
          have hl3 : decide (((5 : Int)) ≤ (s.size : Int)) = false := by simp; omega
          have HPN : Aside0 (∀ j, j < 3 + 1 → (rnm j).isPrefixOf s.data.toList = false) := ⟨fun j hj => by
              by_cases h : j < 3
              · exact HP.out j h
              · obtain rfl : j = 3 := by omega
                exact pre_short (by rw [HLEN.out]; show s.size < 5; omega)⟩
          go_wp2_with fail
          go_quiet (fail)
          go_wp2_with fail
          exact ⟨⟨3 + 1, by decide, by go_num, by simpa using hc5, by simpa using hc6, HPN, ⟨pw_below_drewN HB.out _⟩⟩, by decide⟩
      · -- 4
        have hk5 : wr.cell? ⟨w.heap.size, 4, none⟩ = some (.string ⟨#[97, 112, 111, 115, 59]⟩) := by
          rw [hA5] at hc5
          unfold World.cell?
          rw [hc5]
          rfl
        have hk6 : wr.cell? ⟨w.heap.size + 1, 4, none⟩ = some (.string ⟨#[39]⟩) := by
          rw [hA6] at hc6
          unfold World.cell?
          rw [hc6]
          rfl
        by_cases hl : 5 ≤ s.size
        · have hl2 : decide (((5 : Nat) : Int) ≤ (s.size : Int)) = true := by simp; omega
          have hl3 : decide (((5 : Int)) ≤ (s.size : Int)) = true := by simp; omega
          cases he : ((s.extract 0 5).toList == [97, 112, 111, 115, 59]) with
          | true =>
            have HVV : Aside0 (numK 0 (refD s.data.toList) = .tuple #[.string ⟨#[39]⟩, .int .i64 5, .bool true]) := ⟨by
              rw [refD_name s.data.toList 4 (by decide) HP.out (pre_yes (by rw [← ext_take]; exact he))]
              kernel_rfl⟩
            go_wp2_with fail
            go_quiet (fail)
            go_wp2_with fail
            go_quiet (fail)
            go_wp2_with fail
            go_ret3
            exact ⟨⟨_, by rw [HVV.out]; rfl⟩, by first | exact HB.out | exact pw_below_drewN HB.out _ | exact pw_below_drewN (pw_below_drewN HB.out _) _⟩
          | false =>
            have HPN : Aside0 (∀ j, j < 4 + 1 → (rnm j).isPrefixOf s.data.toList = false) := ⟨fun j hj => by
              by_cases h : j < 4
              · exact HP.out j h
              · obtain rfl : j = 4 := by omega
                exact pre_not (by rw [← ext_take]; exact he)⟩
            go_wp2_with fail
            go_quiet (fail)
            go_wp2_with fail
            exact ⟨⟨4 + 1, by decide, by go_num, by simpa using hc5, by simpa using hc6, HPN, ⟨pw_below_drewN HB.out _⟩⟩, by decide⟩
        · have hl2 : decide (((5 : Nat) : Int) ≤ (s.size : Int)) = false := by simp; omega
          have hl3 : decide (((5 : Int)) ≤ (s.size : Int)) = false := by simp; omega
          have HPN : Aside0 (∀ j, j < 4 + 1 → (rnm j).isPrefixOf s.data.toList = false) := ⟨fun j hj => by
              by_cases h : j < 4
              · exact HP.out j h
              · obtain rfl : j = 4 := by omega
                exact pre_short (by rw [HLEN.out]; show s.size < 5; omega)⟩
          go_wp2_with fail
          go_quiet (fail)
          go_wp2_with fail
          exact ⟨⟨4 + 1, by decide, by go_num, by simpa using hc5, by simpa using hc6, HPN, ⟨pw_below_drewN HB.out _⟩⟩, by decide⟩
    · obtain rfl : i = 5 := by omega
      have HRD := Aside0.mk (refD_other s.data.toList HP.out)
      clear hc5 hc6 h5 hi HP
      by_cases h0 : s.size = 0
      · have hne := toList_none h0
        have HVV : Aside0 (numK 0 (refD s.data.toList) = .tuple #[.string ⟨#[]⟩, .int .i64 0, .bool false]) := ⟨by
          rw [HRD.out]
          have : s.data.toList = [] := List.eq_nil_of_length_eq_zero (by rw [HLEN.out]; exact h0)
          rw [this]; rfl⟩
        clear h0
        go_wp2_with fail
        go_ret3
        exact ⟨⟨_, by rw [HVV.out]; rfl⟩, HB.out⟩
      · have h0' : 0 < s.size := by omega
        have hne := toList_some h0'
        obtain ⟨x, l, hxl⟩ : ∃ x l, s.data.toList = x :: l := List.exists_cons_of_ne_nil (fun e => h0 (by rw [← HLEN.out, e]; rfl))
        have hsx : ∀ h, s[0]'h = x := fun h => by
          show s.data[0] = x
          have : s.data.toList[0]'(by rw [hxl]; simp) = x := by simp [hxl]
          simpa using this
        have hl : (s.extract 1 s.size).data.toList = l := by rw [drop_tail s 1 h0', hxl]; rfl
        have hsz : (s.extract 1 s.size).size ≤ 4000000000 := by have := HSZ.out; rw [ByteArray.size_extract]; omega
        have HREF : Aside0 (refD s.data.toList = if x = 35 then (numR l).map (fun q => (q.1, q.2 + 1)) else none) := ⟨by rw [HRD.out, hxl, refH_num]⟩
        have hle1 : (1 : Int) ≤ (s.size : Int) := by omega
        by_cases hx : x = 35
        · subst hx
          have HN := Aside0.mk (fun W => HNUM.out (s.extract 1 s.size) W hsz)
          rw [hl] at HN
          cases hq : numR l with
          | none =>
            rw [hq] at HN
            have HVV : Aside0 (numK 1 (refD s.data.toList) = .tuple #[.string ⟨#[]⟩, .int .i64 1, .bool false]) := ⟨by rw [HREF.out, if_pos rfl, hq]; rfl⟩
            clear hl hsz hxl h0 HREF hq
            go_wp2_with (go_at_call 32; refine (HN.out _).mono ?_; rintro e w2 ⟨rfl, hb2⟩; have HB2 := below_step (w := w) (by assumption) hb2; clear hb2; unfold numV)
            go_ret3
            exact ⟨⟨_, by rw [HVV.out]; rfl⟩, Aside0.out (by assumption)⟩
          | some q =>
            obtain ⟨r, n⟩ := q
            rw [hq] at HN
            have hn := numR_le hq
            have hll : l.length ≤ 4000000000 := by have := HLEN.out; have := HSZ.out; rw [hxl] at *; simp only [List.length_cons] at *; omega
            have wn : wrap64 ((n : Int) + 1) = ((n + 1 : Nat) : Int) := by rw [w64r2 (by omega) (by simp only [] at hn; omega)]; omega
            have HVV : Aside0 (numK 0 (refD s.data.toList) = .tuple #[.string (Utf8.encode r), .int .i64 (wrap64 ((n : Int) + 1)), .bool true]) := ⟨by rw [HREF.out, if_pos rfl, hq, wn]; rfl⟩
            clear hl hsz hxl h0 HREF hq hn hll wn
            go_wp2_with (go_at_call 32; refine (HN.out _).mono ?_; rintro e w2 ⟨rfl, hb2⟩; have HB2 := below_step (w := w) (by assumption) hb2; clear hb2; unfold numV)
            go_ret3
            exact ⟨⟨_, by rw [HVV.out]; rfl⟩, Aside0.out (by assumption)⟩
        · have hx2 : ((x.toNat : Int) == 35) = false := by
            apply beq_eq_false_iff_ne.2
            intro e
            exact hx (UInt8.toNat_inj.1 (by show x.toNat = 35; omega))
          have HVV : Aside0 (numK 0 (refD s.data.toList) = .tuple #[.string ⟨#[]⟩, .int .i64 0, .bool false]) := ⟨by rw [HREF.out, if_neg hx]; rfl⟩
          clear hx hl hsz hxl h0 HREF
          go_wp2_with fail
          go_ret3
          exact ⟨⟨_, by rw [HVV.out]; rfl⟩, HB.out⟩
end Go.Proofs.YtjepodcgbfejgaaGreatDoor.Hw
/- The document's Unescape, walked. -/
namespace Go.Proofs.YtjepodcgbfejgaaGreatDoor.Hw
open Go.RowKit Go.Proofs.YtjepodcgbfejgaaGreatDoorW.PrintWords Go.Proofs.YtjepodcgbfejgaaGreatDoorW.PrintLast Go.Proofs.YtjepodcgbfejgaaGreatDoorW.PrintMore Go.Proofs.YtjepodcgbfejgaaGreatDoor.PH Go.Proofs.YtjepodcgbfejgaaGreatDoor.CP
set_option linter.unusedVariables false
set_option linter.unusedSimpArgs false
theorem enc_b (x : Int) (n : Nat) (h : x.toNat = n) : x.toNat.toUInt8 = UInt8.ofNat n := by rw [h]
theorem enc_eq (r : Int) : (Utf8.encode r).data.toList = Lib.encodeRune r := by
  unfold Utf8.encode Lib.encodeRune
  by_cases hv : Utf8.valid r = true
  · have hr : 0 ≤ r ∧ r ≤ 1114111 ∧ ¬ (55296 ≤ r ∧ r ≤ 57343) := by
      unfold Utf8.valid at hv
      simp at hv
      omega
    simp only [hv, if_true]
    by_cases h1 : r.toNat < 128
    · rw [Lib.encodeRuneZ_one (by omega) (by omega)]
      simp only [h1, if_true]
      rfl
    · by_cases h2 : r.toNat < 2048
      · rw [Lib.encodeRuneZ_two (by omega) (by omega)]
        simp only [h1, h2, if_true, if_false]
        simp only [List.map_cons, List.map_nil]
        rw [enc_b (192 + r / 64) (192 + r.toNat / 64) (by omega), enc_b (128 + r % 64) (128 + r.toNat % 64) (by omega)]
      · by_cases h3 : r.toNat < 65536
        · rw [Lib.encodeRuneZ_three (by omega)]
          simp only [h1, h2, h3, if_true, if_false]
          simp only [List.map_cons, List.map_nil]
          rw [enc_b (224 + r / 4096) (224 + r.toNat / 4096) (by omega), enc_b (128 + r / 64 % 64) (128 + r.toNat / 64 % 64) (by omega), enc_b (128 + r % 64) (128 + r.toNat % 64) (by omega)]
        · rw [Lib.encodeRuneZ_four (by omega) (by omega)]
          simp only [h1, h2, h3, if_false]
          simp only [List.map_cons, List.map_nil]
          rw [enc_b (240 + r / 262144) (240 + r.toNat / 262144) (by omega), enc_b (128 + r / 4096 % 64) (128 + r.toNat / 4096 % 64) (by omega), enc_b (128 + r / 64 % 64) (128 + r.toNat / 64 % 64) (by omega), enc_b (128 + r % 64) (128 + r.toNat % 64) (by omega)]
  · have hr : r < 0 ∨ (55296 ≤ r ∧ r ≤ 57343) ∨ 1114111 < r := by
      unfold Utf8.valid at hv
      simp at hv
      omega
    rw [Lib.encodeRuneZ_bad hr]
    simp only [hv, if_neg Bool.false_ne_true]
    rfl
theorem refD_le (R : List UInt8) {q : Int × Nat} (h : refD R = some q) : q.2 ≤ R.length := by
  rw [ref_eq] at h
  unfold refP at h
  split at h
  · rename_i hc
    cases h
    show (Lib.cut R [59]).1.length + 1 ≤ R.length
    rcases split59 R with h | ⟨nm, rest, rfl, hm⟩
    · rw [cut_no 59 _ h] at hc; exact absurd hc.1 (by simp)
    · rw [cut_at 59 nm rest hm]; simp
  · cases h
theorem unD_byte {s : ByteArray} {g p : Nat} {acc : List UInt8} {x : UInt8} (h : p < s.size) (hx : s.data.toList.getD p 0 = x) (h38 : x ≠ 38) : unD s (g + 1) p acc = unD s g (p + 1) (acc ++ [x]) := by
  rw [unD, if_pos h, hx, if_pos h38]
theorem unD_some {s : ByteArray} {g p : Nat} {acc : List UInt8} {q : Int × Nat} (h : p < s.size) (hx : s.data.toList.getD p 0 = 38) (hq : refD (s.data.toList.drop (p + 1)) = some q) : unD s (g + 1) p acc = unD s g (p + q.2 + 1) (acc ++ Lib.encodeRune q.1) := by
  rw [unD, if_pos h, hx, if_neg (by decide), hq]
theorem unD_none {s : ByteArray} {g p : Nat} {acc : List UInt8} (h : p < s.size) (hx : s.data.toList.getD p 0 = 38) (hq : refD (s.data.toList.drop (p + 1)) = none) : unD s (g + 1) p acc = (none, (p : Int)) := by
  rw [unD, if_pos h, hx, if_neg (by decide), hq]
theorem meas_far (n i j : Nat) (h : i < n) (hj : i < j) : n - (intOf (.int .i64 (j : Int))).toNat < n - (intOf (.int .i64 (i : Int))).toNat := by
  show n - ((j : Int)).toNat < n - ((i : Int)).toNat
  omega
set_option maxRecDepth 100000 in
set_option maxHeartbeats 2000000 in
theorem runescape_good (s : ByteArray) (w : World) (hs : s.size ≤ 4000000000)
    (hcv : Calls Tryz.prog 12 #[.string s] w fun e w' => e = .returned (vldV none) ∧ Below w.heap.size w w') :
    Calls Tryz.prog 7 #[.string s] w fun e w' => e = .returned (unW (unD s s.size 0 [])) ∧ Below w.heap.size w w' := by
  have HCV := Aside0.mk hcv
  have HSZ := Aside0.mk hs
  have HLEN := Aside0.mk (Lib.size_eq s).symm
  have HRF := Aside0.mk (fun (t : ByteArray) (W : World) (h : t.size ≤ 4000000000) => rreference_calls t W h)
  clear hs hcv
  go_enter Tryz.func7, Tryz.ntmps7
  go_wp2_with fail
  refine HCV.out.mono ?_
  rintro e w1 ⟨rfl, hb1⟩
  have HB1 := Aside0.mk hb1
  clear hb1
  unfold vldV
  go_wp2
  go_loopw [7, 8] (fun v iv wr => ∃ (p f : Nat) (acc : List UInt8), p ≤ s.size ∧ iv = .int .i64 (p : Int) ∧ Aside0 (wr.ownsRow w.heap.size 5 1 v (bI acc).length (nums .u8 (bI acc))) ∧ Aside0 (Below w.heap.size w wr) ∧ Aside0 (unD s f p acc = unD s s.size 0 []) ∧ Aside0 (s.size ≤ p + f) ∧ Aside0 (acc.length ≤ 4 * p)) (fun _ iv _ => s.size - (intOf iv).toNat)
  case atStart => exact ⟨0, s.size, [], Nat.zero_le _, rfl, ⟨World.ownsRow_nil _ _ _ _⟩, HB1, ⟨rfl⟩, ⟨by omega⟩, ⟨by simp⟩⟩
  case round =>
    obtain ⟨p, f, acc, hp, rfl, HO, HB, HU, HF, HA⟩ := hrel
    by_cases hin : p < s.size
    · have hil : p < s.data.toList.length := by rw [HLEN.out]; exact hin
      have ti : decide ((p : Int) < (s.size : Int)) = true := by simp; omega
      have wi : wrap64 ((p : Int) + 1) = ((p + 1 : Nat) : Int) := by have := HSZ.out; rw [w64r2 (by omega) (by omega)]; omega
      obtain ⟨g, rfl⟩ : ∃ g, f = g + 1 := ⟨f - 1, by have := HF.out; omega⟩
      obtain ⟨x, hxx⟩ : ∃ x, s.data.toList[p]'hil = x := ⟨_, rfl⟩
      have hsi : ∀ h, (s[p]'h) = x := fun h => by rw [← hxx]; show s.data[p] = _; simp
      have hgd : s.data.toList.getD p 0 = x := by rw [List.getD_eq_getElem?_getD, List.getElem?_eq_getElem hil, hxx]; rfl
      have HGD := Aside0.mk hgd
      clear hgd hxx hil
      by_cases hx : x = 38
      · subst hx
        have hp1 : p + 1 ≤ s.size := hin
        have hl : (s.extract (p + 1) s.size).data.toList = s.data.toList.drop (p + 1) := drop_tail s (p + 1) hp1
        have hsz : (s.extract (p + 1) s.size).size ≤ 4000000000 := by have := HSZ.out; rw [ByteArray.size_extract]; omega
        have HN := Aside0.mk (fun W => HRF.out (s.extract (p + 1) s.size) W hsz)
        rw [hl] at HN
        cases hq : refD (s.data.toList.drop (p + 1)) with
        | none =>
          rw [hq] at HN
          have HST := Aside0.mk (unD_none (g := g) (acc := acc) hin HGD.out hq)
          clear hl hsz hq
          go_wp2_with (go_at_call 19; refine (HN.out _).mono ?_; rintro e w2 ⟨⟨k, rfl⟩, hb2⟩; have HB2 := below_step (w := w) (by assumption) hb2; clear hb2; unfold numK)
          go_ret3
          exact ⟨by rw [← HU.out, HST.out]; rfl, Aside0.out (by assumption)⟩
        | some q =>
          obtain ⟨r, n⟩ := q
          rw [hq] at HN
          have hn := refD_le _ hq
          rw [List.length_drop, HLEN.out] at hn
          have hn2 : p + n + 1 ≤ s.size := by simp only [] at hn; omega
          have HST := Aside0.mk (unD_some (g := g) (acc := acc) hin HGD.out hq)
          have HEL := Aside0.mk (enc_len r)
          have HEE := Aside0.mk (enc_eq r)
          have hES : (Utf8.encode r).size ≤ 4 := by rw [Lib.size_eq, HEE.out]; exact HEL.out
          have wn : wrap64 ((n : Int) + 1) = (n : Int) + 1 := by have := HSZ.out; rw [w64r2 (by omega) (by omega)]
          have wpn : wrap64 ((p : Int) + ((n : Int) + 1)) = ((p + n + 1 : Nat) : Int) := by have := HSZ.out; rw [w64r2 (by omega) (by omega)]; omega
          have HWN := Aside0.mk wn
          have HWPN := Aside0.mk wpn
          clear hl hsz hq hn wn wpn
          go_wp2_with (first
            | (go_at_call 19; refine (HN.out _).mono ?_; rintro e w2 ⟨⟨k, rfl⟩, hb2⟩; have HB2 := below_step (w := w) (by assumption) hb2; have HO2 := Aside0.mk (own_move HO.out (fun k hk => hb2.block k (own_lt HO.out k hk))); clear hb2; unfold numK)
            | (at_builtin; refine mark_ ?_))
          constructor
          refine print_append_str (w0 := w) w.heap.size rfl _ _ 35 9 5 rfl Tryz.underlying35 Tryz.underlying9 infoU8r u7 (bI acc) (Utf8.encode r) rfl rfl HO2.out HB2.out HB2.out.size (by have := HA.out; have := HSZ.out; simp only [bI, List.length_map]; omega) ?_
          intro v3 w3 hv3 hb3 hg3
          have HV3 := Aside0.mk hv3
          have HB3 := Aside0.mk hb3
          clear hv3 hb3 hg3
          have hbi : bI acc ++ bytesOf (Utf8.encode r) = bI (acc ++ Lib.encodeRune r) := by
            have h := HEE.out
            simp [bI, bytesOf, ← h]
          have wn := HWN.out
          go_wp2
          refine ⟨⟨p + n + 1, g, acc ++ Lib.encodeRune r, hn2, by first | rfl | rw [HWPN.out] | go_num, ⟨by rw [← hbi]; exact HV3.out⟩, HB3, ⟨by rw [← HST.out]; exact HU.out⟩, ⟨by have := HF.out; omega⟩, ⟨by have := HA.out; have := HEL.out; rw [List.length_append]; omega⟩⟩, ?_⟩
          first
            | exact meas_far s.size p (p + n + 1) hin (by omega)
            | (rw [HWPN.out]; exact meas_far s.size p (p + n + 1) hin (by omega))
      · have hx2 : ((x.toNat : Int) == 38) = false := by
          apply beq_eq_false_iff_ne.2
          intro e
          exact hx (UInt8.toNat_inj.1 (by show x.toNat = 38; omega))
        have hx5 : ¬ ((x.toNat : Int) = 38) := by simpa using hx2
        have HST := Aside0.mk (unD_byte (g := g) (acc := acc) hin HGD.out hx)
        clear hx
        go_wp2_with (at_builtin; refine mark_ ?_)
        constructor
        refine print_append_num (w0 := w) w.heap.size rfl _ _ 35 5 .u8 1 rfl Tryz.underlying35 infoU8r (by decide) u7 (bI acc) (x.toNat : Int) rfl rfl HO.out HB.out HB.out.size (by have := HA.out; have := HSZ.out; simp only [bI, List.length_map]; omega) ?_
        intro v3 w3 hv3 hb3 hg3 hat3
        have HV3 := Aside0.mk hv3
        have HB3 := Aside0.mk hb3
        clear hv3 hb3 hg3 hat3
        go_wp2
        have hbi : bI acc ++ [(x.toNat : Int)] = bI (acc ++ [x]) := by simp [bI]
        refine ⟨⟨p + 1, g, acc ++ [x], by omega, by first | rfl | go_num, ⟨by rw [← hbi]; exact HV3.out⟩, HB3, ⟨by rw [← HST.out]; exact HU.out⟩, ⟨by have := HF.out; omega⟩, ⟨by have := HA.out; rw [List.length_append]; simp; omega⟩⟩, ?_⟩
        rw [wi]
        exact meas_far s.size p (p + 1) hin (by omega)
    · obtain rfl : p = s.size := by omega
      have ti : decide ((s.size : Int) < (s.size : Int)) = false := by simp
      have hconv := own_string (P := Tryz.prog) (src := 35) (dst := 9) (e := 5) Tryz.underlying35 Tryz.underlying5 Tryz.underlying9 HO.out
      rw [esc_str] at hconv
      have HE := Aside0.mk (unD_end s f s.size acc (by omega))
      go_wp2
      go_ret3
      exact ⟨by rw [← HU.out, HE.out]; rfl, HB.out⟩
set_option maxRecDepth 100000 in
set_option maxHeartbeats 2000000 in
theorem runescape_calls (s : ByteArray) (w : World) (hC : ChW w) (hs : s.size ≤ 4000000000) :
    Calls Tryz.prog 7 #[.string s] w fun e w' => e = .returned (unV s) ∧ Below w.heap.size w w' := by
  have HC := Aside0.mk hC
  have HCV := Aside0.mk (rvalid_calls s w hC (by unfold maxLen; omega))
  have HSZ := Aside0.mk hs
  clear hs hC
  unfold unV
  cases hv : vld s with
  | some p =>
    rw [hv] at HCV
    clear hv
    go_enter Tryz.func7, Tryz.ntmps7
    go_wp2_with fail
    refine HCV.out.mono ?_
    rintro e w1 ⟨rfl, hb1⟩
    have HB1 := Aside0.mk hb1
    clear hb1
    unfold vldV
    go_wp2
    go_ret3
    exact ⟨rfl, HB1.out⟩
  | none =>
    rw [hv] at HCV
    clear hv
    have h := runescape_good s w HSZ.out HCV.out
    rw [unD_unF s s.size s.size s.size 0 [] (by omega) (Nat.zero_le _) (by omega) (by omega)] at h
    exact h
end Go.Proofs.YtjepodcgbfejgaaGreatDoor.Hw
