import Derived.Test.YtjepodcgbfejgaaGreatDoorRpE
import Derived.Test.YtjepodcgbfejgaaGreatDoorChU
import Derived.Test.YtjepodcgbfejgaaGreatDoorChQ
/- What is escaped says what it was, in plain Lean. -/
namespace Go.Proofs.YtjepodcgbfejgaaGreatDoor.Hw
open Go.RowKit Go.Proofs.YtjepodcgbfejgaaGreatDoorW.PrintWords Go.Proofs.YtjepodcgbfejgaaGreatDoorW.PrintLast Go.Proofs.YtjepodcgbfejgaaGreatDoorW.PrintMore Go.Proofs.YtjepodcgbfejgaaGreatDoor.PH Go.Proofs.YtjepodcgbfejgaaGreatDoor.CP
set_option linter.unusedVariables false
set_option linter.unusedSimpArgs false
/-! ### cuts -/
theorem index_at (c : UInt8) : ∀ (a r : List UInt8), c ∉ a → Lib.index (a ++ c :: r) [c] = a.length
  | [], r, _ => by rw [List.nil_append, Lib.index]; simp
  | x :: a, r, h => by
    have hx : ¬ c = x := fun e => h (by rw [e]; simp)
    have ih := index_at c a r (fun e => h (List.mem_cons_of_mem _ e))
    rw [List.cons_append, Lib.index, ih]
    have h1 : [c].isPrefixOf (x :: (a ++ c :: r)) = false := by show (c == x && List.isPrefixOf [] _) = false; rw [beq_eq_false_iff_ne.2 hx]; rfl
    have h2 : (((a.length : Int)) == -1) = false := by rw [beq_eq_false_iff_ne]; omega
    rw [h1, h2]
    simp
theorem index_no (c : UInt8) : ∀ (a : List UInt8), c ∉ a → Lib.index a [c] = -1
  | [], _ => rfl
  | x :: a, h => by
    have hx : ¬ c = x := fun e => h (by rw [e]; simp)
    rw [Lib.index, index_no c a (fun e => h (List.mem_cons_of_mem _ e))]
    have h1 : [c].isPrefixOf (x :: a) = false := by show (c == x && List.isPrefixOf [] _) = false; rw [beq_eq_false_iff_ne.2 hx]; rfl
    rw [h1]
    simp
theorem cut_at (c : UInt8) (a r : List UInt8) (h : c ∉ a) : Lib.cut (a ++ c :: r) [c] = (a, r, true) := by
  unfold Lib.cut
  rw [index_at c a r h, if_pos (by omega), Int.toNat_natCast]
  simp
theorem cut_no (c : UInt8) (a : List UInt8) (h : c ∉ a) : Lib.cut a [c] = (a, [], false) := by
  unfold Lib.cut
  rw [index_no c a h, if_neg (by omega)]
/-! ### the escapes -/
def escChk (p : UInt8 × List UInt8) : Bool := p.2 == 38 :: ((p.2.drop 1).dropLast ++ [59]) && (!(p.2.drop 1).dropLast.contains 59 && (saidV ⟨(p.2.drop 1).dropLast.toArray⟩ == ((p.1.toNat : Int), true) && (Lib.encodeRune (p.1.toNat : Int) == [p.1] && p.2.all fun y => decide (y.toNat < 128 ∧ 32 ≤ y.toNat ∧ y.toNat ≠ 34 ∧ y.toNat ≠ 60 ∧ y.toNat ≠ 62))))
theorem esc_chk (attr : Bool) : ((escP attr).all escChk) = true := by cases attr <;> kernel_rfl
theorem esc_some {attr : Bool} {c : UInt8} {ys : List UInt8} (h : look (escP attr).reverse c.toNat = some ys) :
    ∃ nm, ys = 38 :: (nm ++ [59]) ∧ 59 ∉ nm ∧ saidV ⟨nm.toArray⟩ = ((c.toNat : Int), true) ∧ Lib.encodeRune (c.toNat : Int) = [c] ∧ ∀ y ∈ ys, y.toNat < 128 ∧ 32 ≤ y.toNat ∧ y.toNat ≠ 34 ∧ y.toNat ≠ 60 ∧ y.toNat ≠ 62 := by
  unfold look at h
  obtain ⟨p, hp, rfl⟩ := Option.map_eq_some_iff.1 h
  have hm := List.mem_of_find?_eq_some hp
  have hc : p.1 = c := by
    have := List.find?_some hp
    simp only [beq_iff_eq] at this
    exact UInt8.toNat_inj.1 this
  have hk := List.all_eq_true.1 (esc_chk attr) p (by simpa using hm)
  unfold escChk at hk
  simp only [Bool.and_eq_true, beq_iff_eq, Bool.not_eq_true', List.all_eq_true, decide_eq_true_eq] at hk
  obtain ⟨h1, h2, h3, h4, h5⟩ := hk
  subst hc
  exact ⟨_, h1, by simpa using h2, h3, h4, h5⟩
theorem esc_none {attr : Bool} {c : UInt8} (h : look (escP attr).reverse c.toNat = none) : c.toNat ≠ 38 ∧ c.toNat ≠ 60 ∧ c.toNat ≠ 62 ∧ c.toNat ≠ 13 ∧ (attr = true → c.toNat ≠ 34 ∧ c.toNat ≠ 9 ∧ c.toNat ≠ 10) := by
  cases attr with
  | false => refine ⟨?_, ?_, ?_, ?_, by simp⟩ <;> (intro e; rw [e] at h; revert h; decide)
  | true => refine ⟨?_, ?_, ?_, ?_, fun _ => ⟨?_, ?_, ?_⟩⟩ <;> (intro e; rw [e] at h; revert h; decide)
theorem esc_high {attr : Bool} {c : UInt8} (h : 128 ≤ c.toNat) : look (escP attr).reverse c.toNat = none := by
  cases hh : look (escP attr).reverse c.toNat with
  | none => rfl
  | some ys =>
    exfalso
    unfold look at hh
    obtain ⟨p, hp, _⟩ := Option.map_eq_some_iff.1 hh
    have hm := List.mem_of_find?_eq_some hp
    have hc := List.find?_some hp
    simp only [beq_iff_eq] at hc
    have hall : ((escP attr).all fun p => decide (p.1.toNat < 128)) = true := by cases attr <;> decide
    have := List.all_eq_true.1 hall p (by simpa using hm)
    simp only [decide_eq_true_eq] at this
    omega
/-! ### Unescape of what is escaped -/
theorem outB_nil {T : Ps} (hT : ∀ p ∈ T, 1 ≤ p.2.length) {l : List UInt8} (h : outB T l = []) : l = [] := by
  have := outB_len T hT l
  rw [h] at this
  simp only [List.length_nil] at this
  exact List.length_eq_zero_iff.1 (by omega)
theorem outB_cons (T : Ps) (c : UInt8) (l : List UInt8) : outB T (c :: l) = (look T c.toNat).getD [c] ++ outB T l := by unfold outB; rw [List.flatMap_cons]
theorem outB_app (T : Ps) (a b : List UInt8) : outB T (a ++ b) = outB T a ++ outB T b := by unfold outB; rw [List.flatMap_append]
theorem drop_tail (t : ByteArray) (p : Nat) (hp : p ≤ t.size) : (t.extract p t.size).data.toList = t.data.toList.drop p := by
  have h1 : t.data.toList.length = t.size := (Lib.size_eq t).symm
  rw [ByteArray.data_extract, Array.toList_extract]
  simp [List.extract]
  rw [List.take_of_length_le]
  simp [← Array.length_toList, h1]
theorem first_special (T : Ps) : ∀ l : List UInt8, (∀ c ∈ l, look T c.toNat = none) ∨ ∃ a c r ys, l = a ++ c :: r ∧ (∀ x ∈ a, look T x.toNat = none) ∧ look T c.toNat = some ys
  | [] => .inl (fun c h => by cases h)
  | c :: l => by
    cases hc : look T c.toNat with
    | some ys => exact .inr ⟨[], c, l, ys, rfl, fun x h => (by cases h), hc⟩
    | none =>
      rcases first_special T l with h | ⟨a, x, r, ys, rfl, ha, hx⟩
      · exact .inl (fun y hy => by
          rcases List.mem_cons.1 hy with rfl | hy
          · exact hc
          · exact h y hy)
      · exact .inr ⟨c :: a, x, r, ys, rfl, fun y hy => by
          rcases List.mem_cons.1 hy with rfl | hy
          · exact hc
          · exact ha y hy, hx⟩
theorem un_out (attr : Bool) (t : ByteArray) : ∀ (n : Nat) (l : List UInt8), l.length ≤ n → ∀ (f p : Nat) (acc : List UInt8), p ≤ t.size → t.size ≤ p + f → t.data.toList.drop p = outB (escP attr).reverse l → unF t f p acc = (some (acc ++ l), 0) := by
  intro n
  have hT : ∀ p ∈ (escP attr).reverse, 1 ≤ p.2.length := fun p hp => by have := esc_len attr p (by simpa using hp); omega
  have hlen : t.data.toList.length = t.size := (Lib.size_eq t).symm
  induction n with
  | zero =>
    intro l hl f p acc hp hf hd
    have : l = [] := List.length_eq_zero_iff.1 (by omega)
    subst this
    have h2 : ¬ p < t.size := by
      intro h
      have h3 : (t.data.toList.drop p).length = 0 := by rw [hd]; rfl
      rw [List.length_drop] at h3
      omega
    rw [unF_end t f p acc h2, List.append_nil]
  | succ n ih =>
    intro l hl f p acc hp hf hd
    have hsz : (t.data.toList.drop p).length = t.size - p := by rw [List.length_drop, hlen]
    by_cases hlt : p < t.size
    · obtain ⟨f', rfl⟩ : ∃ f', f = f' + 1 := ⟨f - 1, by omega⟩
      rw [unF, if_pos hlt]
      unfold cutU
      rw [drop_tail t p hp, hd]
      rcases first_special (escP attr).reverse l with h | ⟨a, c, r, ys, rfl, ha, hc⟩
      · rw [outB_same _ _ h, cut_no 38 l (fun hm => (esc_none (h 38 hm)).1 rfl)]
        unfold unS
        rw [if_neg (by simp)]
      · obtain ⟨nm, rfl, hnm, hsaid, henc, _⟩ := esc_some hc
        have hout : outB (escP attr).reverse (a ++ c :: r) = a ++ 38 :: (nm ++ 59 :: outB (escP attr).reverse r) := by
          rw [outB_app, outB_same _ _ ha, outB_cons, hc]
          simp
        have ha38 : (38 : UInt8) ∉ a := fun hm => (esc_none (ha 38 hm)).1 rfl
        rw [hout] at hd ⊢
        rw [cut_at 38 a _ ha38]
        unfold unS
        simp only [if_true]
        have hl1 : t.size - p = a.length + (1 + (nm.length + (1 + (outB (escP attr).reverse r).length))) := by
          rw [← hsz, hd]; simp only [List.length_append, List.length_cons]; omega
        have hd1 : t.data.toList.drop (p + a.length + 1) = nm ++ 59 :: outB (escP attr).reverse r := by
          rw [show p + a.length + 1 = p + (a.length + 1) by omega, ← List.drop_drop, hd, List.drop_append]
          simp
        unfold cutU
        rw [drop_tail t _ (by omega), hd1, cut_at 59 nm _ hnm]
        unfold unT
        simp only []
        rw [hsaid]
        simp only [henc, and_self, if_true]
        have hd2 : t.data.toList.drop (p + a.length + (nm.length + 2)) = outB (escP attr).reverse r := by
          rw [show p + a.length + (nm.length + 2) = (p + a.length + 1) + (nm.length + 1) by omega, ← List.drop_drop, hd1, List.drop_append]
          simp
        have hr : r.length ≤ n := by simp at hl; omega
        rw [ih r hr f' _ _ (by omega) (by omega) hd2]
        simp
    · have h3 : outB (escP attr).reverse l = [] := by
        apply List.length_eq_zero_iff.1
        rw [← hd, hsz]; omega
      rw [unF_end t f p acc hlt, outB_nil hT h3, List.append_nil]
end Go.Proofs.YtjepodcgbfejgaaGreatDoor.Hw
