import Derived.Test.YtjepodcgbfejgaaDoorChL
import Derived.Test.YtjepodcgbfejgaaDoorChQ
import Derived.Lib.CountLaws
import Derived.Lib.Replace
import Derived.Laws.IdiomStrings
/- Lines' ends made alike: the library's two replacements and the document's one walk come to one thing; both walked. -/
namespace Go.Proofs.YtjepodcgbfejgaaDoor.CP
open Go.RowKit Go.Proofs.YtjepodcgbfejgaaDoorW.PrintWords Go.Proofs.YtjepodcgbfejgaaDoor.PH
set_option linter.unusedVariables false
set_option linter.unusedSimpArgs false
theorem rep_of (old new : List UInt8) (hne : old ≠ []) (R : List UInt8 → List UInt8) (h1 : ∀ l, (∀ j, j ≤ l.length → Lib.occAt l old j = false) → R l = l)
    (h2 : ∀ (i : Nat) l, i ≤ l.length → Lib.occAt l old i = true → Lib.NoOcc l old i → R l = l.take i ++ new ++ R (l.drop (i + old.length))) :
    ∀ n l, l.length ≤ n → Lib.replaceK old new (Lib.count l old) l = R l := by
  intro n
  induction n with
  | zero =>
    intro l hl
    obtain rfl : l = [] := List.eq_nil_of_length_eq_zero (by omega)
    rcases Lib.index_spec [] old with ⟨hi, hno⟩ | ⟨i, hi, hle, ho, hno⟩
    · rw [Lib.count_miss hi, Lib.replaceK, h1 [] hno]
    · rcases Lib.occAt_room ho with h | h
      · cases old with
        | nil => exact absurd rfl hne
        | cons a b => simp at h
      · exact absurd h hne
  | succ n ih =>
    intro l hl
    rcases Lib.index_spec l old with ⟨hi, hno⟩ | ⟨i, hi, hle, ho, hno⟩
    · rw [Lib.count_miss hi, Lib.replaceK, h1 l hno]
    · have hol : 0 < old.length := by cases old with
        | nil => exact absurd rfl hne
        | cons a b => simp
      rw [Lib.count_hit hne hi, Nat.add_comm 1, Lib.replaceK_hit old new _ l i hi, h2 i l hle ho hno, ih]
      rw [List.length_drop]
      rcases Lib.occAt_room ho with h | h
      · omega
      · exact absurd h hne
theorem replaceAll_of (old new : List UInt8) (hne : old ≠ []) (hon : (old == new) = false) (R : List UInt8 → List UInt8) (h1 : ∀ l, (∀ j, j ≤ l.length → Lib.occAt l old j = false) → R l = l)
    (h2 : ∀ (i : Nat) l, i ≤ l.length → Lib.occAt l old i = true → Lib.NoOcc l old i → R l = l.take i ++ new ++ R (l.drop (i + old.length))) (l : List UInt8) : Lib.replaceAll l old new = R l := by
  unfold Lib.replaceAll Lib.replace Lib.replaceNum
  rw [hon, if_neg (by decide), if_pos (by omega)]
  exact rep_of old new hne R h1 h2 l.length l (Nat.le_refl _)
def crlf : List UInt8 → List UInt8
  | [] => []
  | [x] => [x]
  | x :: y :: t => if x = 13 ∧ y = 10 then 10 :: crlf t else x :: crlf (y :: t)
def cr1 (x : UInt8) : UInt8 := if x = 13 then 10 else x
def lnL : List UInt8 → List UInt8
  | [] => []
  | [x] => [cr1 x]
  | x :: y :: t => if x = 13 ∧ y = 10 then lnL (y :: t) else cr1 x :: lnL (y :: t)
theorem occ_cons (x : UInt8) (t old : List UInt8) (j : Nat) : Lib.occAt (x :: t) old (j + 1) = Lib.occAt t old j := by unfold Lib.occAt; rw [List.drop_succ_cons]
theorem occ2_head (x y : UInt8) (t : List UInt8) : Lib.occAt (x :: y :: t) [13, 10] 0 = true ↔ x = 13 ∧ y = 10 := by
  unfold Lib.occAt
  simp only [List.drop_zero, List.isPrefixOf, Bool.and_true, Bool.and_eq_true, beq_iff_eq]
  exact ⟨fun ⟨a, b⟩ => ⟨a.symm, b.symm⟩, fun ⟨a, b⟩ => ⟨a.symm, b.symm⟩⟩
theorem occ1_head (x : UInt8) (t : List UInt8) : Lib.occAt (x :: t) [13] 0 = true ↔ x = 13 := by
  unfold Lib.occAt
  simp only [List.drop_zero, List.isPrefixOf, Bool.and_true, beq_iff_eq]
  exact eq_comm
theorem crlf_none : ∀ l : List UInt8, (∀ j, j ≤ l.length → Lib.occAt l [13, 10] j = false) → crlf l = l
  | [], _ => rfl
  | [x], _ => rfl
  | x :: y :: t, h => by
    have h0 : ¬ (x = 13 ∧ y = 10) := fun e => by have := (occ2_head x y t).2 e; rw [h 0 (by simp)] at this; cases this
    rw [crlf, if_neg h0, crlf_none (y :: t) (fun j hj => by rw [← occ_cons x]; exact h (j + 1) (by simp at hj ⊢; omega))]
theorem crlf_hit : ∀ (i : Nat) (l : List UInt8), i ≤ l.length → Lib.occAt l [13, 10] i = true → Lib.NoOcc l [13, 10] i → crlf l = l.take i ++ [10] ++ crlf (l.drop (i + 2))
  | 0, [], _, ho, _ => by simp [Lib.occAt, List.isPrefixOf] at ho
  | 0, [x], _, ho, _ => by simp [Lib.occAt, List.isPrefixOf] at ho
  | 0, x :: y :: t, _, ho, _ => by
    rw [crlf, if_pos ((occ2_head x y t).1 ho)]
    simp
  | i + 1, [], hi, ho, _ => by simp at hi
  | i + 1, [x], hi, ho, _ => by
    rw [occ_cons] at ho
    simp [Lib.occAt, List.isPrefixOf] at ho
  | i + 1, x :: y :: t, hi, ho, hno => by
    have h0 : ¬ (x = 13 ∧ y = 10) := fun e => by have := (occ2_head x y t).2 e; rw [hno 0 (by omega)] at this; cases this
    rw [occ_cons] at ho
    have ih := crlf_hit i (y :: t) (by simp at hi ⊢; omega) ho (fun j hj => by rw [← occ_cons x]; exact hno (j + 1) (by omega))
    rw [crlf, if_neg h0, ih, show i + 1 + 2 = (i + 2) + 1 from by omega, List.take_succ_cons, List.drop_succ_cons]
    rfl
theorem cr_none : ∀ l : List UInt8, (∀ j, j ≤ l.length → Lib.occAt l [13] j = false) → l.map cr1 = l
  | [], _ => rfl
  | x :: t, h => by
    have h0 : ¬ x = 13 := fun e => by have := (occ1_head x t).2 e; rw [h 0 (by simp)] at this; cases this
    rw [List.map_cons, cr_none t (fun j hj => by rw [← occ_cons x]; exact h (j + 1) (by simp; omega)), cr1, if_neg h0]
theorem cr_hit : ∀ (i : Nat) (l : List UInt8), i ≤ l.length → Lib.occAt l [13] i = true → Lib.NoOcc l [13] i → l.map cr1 = l.take i ++ [10] ++ (l.drop (i + 1)).map cr1
  | 0, [], _, ho, _ => by simp [Lib.occAt, List.isPrefixOf] at ho
  | 0, x :: t, _, ho, _ => by
    have := (occ1_head x t).1 ho
    rw [List.map_cons, cr1, if_pos this]
    simp
  | i + 1, [], hi, ho, _ => by simp at hi
  | i + 1, x :: t, hi, ho, hno => by
    have h0 : ¬ x = 13 := fun e => by have := (occ1_head x t).2 e; rw [hno 0 (by omega)] at this; cases this
    rw [occ_cons] at ho
    have ih := cr_hit i t (by simp at hi; omega) ho (fun j hj => by rw [← occ_cons x]; exact hno (j + 1) (by omega))
    rw [List.map_cons, ih, cr1, if_neg h0, List.take_succ_cons, List.drop_succ_cons]
    rfl
theorem rep_crlf (l : List UInt8) : Lib.replaceAll l [13, 10] [10] = crlf l := replaceAll_of [13, 10] [10] (by decide) (by decide) crlf crlf_none crlf_hit l
theorem rep_cr (l : List UInt8) : Lib.replaceAll l [13] [10] = l.map cr1 := replaceAll_of [13] [10] (by decide) (by decide) (fun l => l.map cr1) cr_none cr_hit l
theorem crlf_len : ∀ l : List UInt8, (crlf l).length ≤ l.length
  | [] => Nat.le_refl _
  | [x] => Nat.le_refl _
  | x :: y :: t => by
    rw [crlf]
    split
    · have := crlf_len t; simp; omega
    · have := crlf_len (y :: t); simp at this ⊢; omega
theorem ln_is : ∀ l : List UInt8, (crlf l).map cr1 = lnL l
  | [] => rfl
  | [x] => rfl
  | [x, y] => by
    rw [crlf, lnL]
    by_cases h : x = 13 ∧ y = 10
    · obtain ⟨rfl, rfl⟩ := h; rfl
    · rw [if_neg h, if_neg h]; rfl
  | x :: y :: z :: t => by
    rw [crlf, lnL]
    by_cases h : x = 13 ∧ y = 10
    · rw [if_pos h, if_pos h, List.map_cons, ln_is (z :: t), lnL]
      have hy : ¬ (y = 13 ∧ z = 10) := by rintro ⟨e, _⟩; rw [h.2] at e; cases e
      rw [if_neg hy, h.2]
    · rw [if_neg h, if_neg h, List.map_cons, ln_is (y :: z :: t)]
/-! ### the printed -/
theorem bt_at' (s : ByteArray) (k : Nat) (h : k < s.size) : bt s (k : Int) = (s[k].toNat : Int) := by
  have := bt_at s (k : Int) (by simpa using h)
  simpa using this.symm
theorem drop_bytes (s : ByteArray) (k : Nat) (h : k < s.size) : s.data.toList.drop k = s[k] :: s.data.toList.drop (k + 1) := by
  have hz := Lib.size_eq s
  rw [List.drop_eq_getElem_cons (by omega)]
  rfl
def toNums (l : List UInt8) : List Int := l.map fun b => (b.toNat : Int)
theorem rlines_l0 (s : ByteArray) (hs : s.size ≤ 140737488351232) : ∀ (d k K : Nat) (acc : List Int), k + d = s.size → d < K → acc.length ≤ k →
    gridironref05_Lines.l0 K s acc (k : Int) = some (strOfNums (acc ++ toNums (lnL (s.data.toList.drop k)))) := by
  intro d
  induction d with
  | zero =>
    intro k K acc hk hK ha
    obtain ⟨K, rfl⟩ : ∃ m, K = m + 1 := ⟨K - 1, by omega⟩
    have hz := Lib.size_eq s
    rw [gridironref05_Lines.l0, if_neg (by omega), List.drop_eq_nil_of_le (by omega)]
    simp [lnL, toNums]
  | succ d ih =>
    intro k K acc hk hK ha
    obtain ⟨K, rfl⟩ : ∃ m, K = m + 1 := ⟨K - 1, by omega⟩
    have hlt : k < s.size := by omega
    have w1 : wrap64 ((k : Int) + 1) = ((k + 1 : Nat) : Int) := by unfold wrap64; omega
    rw [gridironref05_Lines.l0, if_pos (by omega), if_pos (by omega), w1, bt_at' s k hlt, drop_bytes s k hlt]
    have e13 : ∀ x : UInt8, ((x.toNat : Int) = 13 ↔ x = 13) := fun x => ⟨fun h => UInt8.toNat_inj.1 (by show x.toNat = 13; omega), fun h => by rw [h]; rfl⟩
    have e10 : ∀ x : UInt8, ((x.toNat : Int) = 10 ↔ x = 10) := fun x => ⟨fun h => UInt8.toNat_inj.1 (by show x.toNat = 10; omega), fun h => by rw [h]; rfl⟩
    have step : ∀ (n : Int), n = ((cr1 s[k]).toNat : Int) → (s[k] = 13 → ∀ h : k + 1 < s.size, s[k + 1] ≠ 10) →
        gridironref05_Lines.l0 K s (acc ++ [n]) ((k + 1 : Nat) : Int) = some (strOfNums (acc ++ toNums (lnL (s[k] :: s.data.toList.drop (k + 1))))) := by
      intro n hn hc
      rw [ih (k + 1) K (acc ++ [n]) (by omega) (by omega) (by simp; omega)]
      congr 2
      rw [List.append_assoc]
      congr 1
      by_cases h1 : k + 1 < s.size
      · rw [drop_bytes s (k + 1) h1, lnL]
        rw [if_neg (by rintro ⟨a, b⟩; exact hc a h1 b)]
        rw [hn]; rfl
      · have hz := Lib.size_eq s
        rw [List.drop_eq_nil_of_le (by omega), hn]
        rfl
    by_cases h13 : s[k] = 13
    · rw [if_pos ((e13 _).2 h13)]
      by_cases h1 : k + 1 < s.size
      · rw [if_neg (by omega), if_pos (by omega), if_pos (by omega), bt_at' s (k + 1) h1]
        by_cases h10 : s[k + 1] = 10
        · rw [if_pos ((e10 _).2 h10), ih (k + 1) K acc (by omega) (by omega) (by omega), drop_bytes s (k + 1) h1]
          rw [show lnL (s[k] :: s[k + 1] :: s.data.toList.drop (k + 1 + 1)) = lnL (s[k + 1] :: s.data.toList.drop (k + 1 + 1)) from by rw [lnL, if_pos ⟨h13, h10⟩]]
        · rw [if_neg (fun e => h10 ((e10 _).1 e)), if_pos (by omega)]
          exact step 10 (by rw [h13]; rfl) (fun _ _ => h10)
      · rw [if_pos (by omega), if_pos (by omega)]
        exact step 10 (by rw [h13]; rfl) (fun _ h => absurd h h1)
    · rw [if_neg (fun e => h13 ((e13 _).1 e)), if_pos (by omega)]
      exact step _ (by rw [cr1, if_neg h13]) (fun e => absurd e h13)
theorem str_nums (l : List UInt8) : strOfNums (toNums l) = ⟨l.toArray⟩ := by
  unfold strOfNums toNums
  rw [List.map_map]
  have : (l.map ((fun n : Int => UInt8.ofNat n.toNat) ∘ fun b : UInt8 => (b.toNat : Int))) = l := by
    rw [show ((fun n : Int => UInt8.ofNat n.toNat) ∘ fun b : UInt8 => (b.toNat : Int)) = id from by funext b; simp]
    simp
  rw [this]
def lnV (s : ByteArray) : ByteArray := ⟨(lnL s.data.toList).toArray⟩
theorem rlines_is (s : ByteArray) (hs : s.size ≤ 140737488351232) : gridironref05_Lines.f (s.size + 1) s = some (lnV s) := by
  unfold gridironref05_Lines.f
  have := rlines_l0 s hs s.size 0 (s.size + 1) [] (by omega) (by omega) (by simp)
  rw [List.drop_zero, List.nil_append, str_nums] at this
  exact this
end Go.Proofs.YtjepodcgbfejgaaDoor.CP
namespace Go.Proofs.YtjepodcgbfejgaaDoor.Hw
open Go.RowKit Go.Proofs.YtjepodcgbfejgaaDoorW.PrintWords Go.Proofs.YtjepodcgbfejgaaDoorW.PrintLast Go.Proofs.YtjepodcgbfejgaaDoorW.PrintMore Go.Proofs.YtjepodcgbfejgaaDoor.PH Go.Proofs.YtjepodcgbfejgaaDoor.CP
set_option linter.unusedVariables false
set_option linter.unusedSimpArgs false
theorem rlines_calls (s : ByteArray) (w : World) (hs : s.size ≤ 140737488351232) : Calls Tryd.prog 30 #[.string s] w fun e w' => e = .returned (.string (lnV s)) ∧ Below w.heap.size w w' :=
  gridironref05_Lines.calls (s.size + 1) s (lnV s) w (rlines_is s hs)
theorem countB_le' (s old : ByteArray) : Lib.countB s old ≤ s.size + 1 := by
  have := Lib.count_le s.data.toList old.data.toList
  rw [← Lib.size_eq] at this
  exact this
set_option maxHeartbeats 1000000 in
theorem lines_calls (s : ByteArray) (w : World) (hC : ChW w) (hs : s.size ≤ 4000000000) : Calls Tryd.prog 29 #[.string s] w fun e w' => e = .returned (.string (lnV s)) ∧ Below w.heap.size w w' := by
  have h1 := fun w m hm => Tryd.strings_ReplaceAll s ⟨#[13, 10]⟩ ⟨#[10]⟩ m w (by omega) hm (by decide) (by have := countB_le' s ⟨#[13, 10]⟩; have e : (⟨#[10]⟩ : ByteArray).size = 1 := rfl; rw [e]; omega)
  simp only [show (⟨#[13, 10]⟩ : ByteArray).data.toList = [13, 10] from rfl, show (⟨#[10]⟩ : ByteArray).data.toList = [10] from rfl, rep_crlf] at h1
  have hl : (⟨(crlf s.data.toList).toArray⟩ : ByteArray).size ≤ s.size := by
    have := crlf_len s.data.toList
    rw [Lib.size_eq s]
    show (crlf s.data.toList).toArray.size ≤ _
    rw [List.size_toArray]
    exact this
  have h2 := fun w m hm => Tryd.strings_ReplaceAll ⟨(crlf s.data.toList).toArray⟩ ⟨#[13]⟩ ⟨#[10]⟩ m w (by omega) hm (by decide) (by have := countB_le' ⟨(crlf s.data.toList).toArray⟩ ⟨#[13]⟩; have e : (⟨#[10]⟩ : ByteArray).size = 1 := rfl; rw [e]; omega)
  simp only [show (⟨#[13]⟩ : ByteArray).data.toList = [13] from rfl, show (⟨#[10]⟩ : ByteArray).data.toList = [10] from rfl, rep_cr, ln_is] at h2
  have HC := Aside0.mk hC
  have H1 := Aside0.mk h1
  have H2 := Aside0.mk h2
  clear hC h1 h2 hl
  generalize (⟨(crlf s.data.toList).toArray⟩ : ByteArray) = X at *
  go_enter Tryd.func29, Tryd.ntmps29
  go_wp2_with fail
  obtain ⟨m, hm⟩ := HC.out.2.1
  refine (H1.out w m hm).mono ?_
  rintro e w1 ⟨rfl, hb1⟩
  have HB1 := Aside0.mk hb1
  clear hb1 hm
  go_wp2_with fail
  obtain ⟨m, hm⟩ := (HC.out.go HB1.out).2.1
  refine (H2.out w1 m hm).mono ?_
  rintro e w2 ⟨rfl, hb2⟩
  have HB2 := Aside0.mk (HB1.out.trans (hb2.mono HB1.out.size))
  clear hb2 hm
  go_wp2
  go_ret
  exact ⟨rfl, HB2.out⟩
end Go.Proofs.YtjepodcgbfejgaaDoor.Hw
