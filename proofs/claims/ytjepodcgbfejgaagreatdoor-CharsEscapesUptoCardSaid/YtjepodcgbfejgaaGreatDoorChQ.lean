import Derived.Test.YtjepodcgbfejgaaGreatDoorChV
/- Places in a text, in plain Lean: where the n-th character begins; a text cut in two. -/
namespace Go.Proofs.YtjepodcgbfejgaaGreatDoor.CP
open Go.RowKit
/-- Where the place stands behind m characters from p on. -/
def skF (s : ByteArray) : Nat → Nat → Nat → Nat
  | 0, _, _ => s.size
  | f + 1, p, m => if p < s.size then (if m = 0 then p else skF s f (p + (Utf8.decode s p).2) (m - 1)) else s.size
def sk (s : ByteArray) (m : Nat) : Nat := skF s s.size 0 m
theorem decode_in' (s : ByteArray) (p : Nat) (h : p < s.size) : p + (Utf8.decode s p).2 ≤ s.size := by
  rw [Lib.decode_at]
  unfold Lib.decodeN
  repeat' split
  all_goals (simp only []; omega)
theorem skF_end (s : ByteArray) (f p m : Nat) (h : ¬ p < s.size) : skF s f p m = s.size := by cases f <;> simp [skF, h]
theorem skF_zero (s : ByteArray) (f p : Nat) (h : p ≤ s.size) (hf : s.size ≤ p + f) : skF s f p 0 = p := by
  cases f with
  | zero => simp only [skF]; omega
  | succ f => unfold skF; rw [if_pos (rfl : (0 : Nat) = 0)]; split <;> omega
theorem skF_le (s : ByteArray) : ∀ (f p m : Nat), p ≤ s.size → s.size ≤ p + f → p ≤ skF s f p m ∧ skF s f p m ≤ s.size
  | 0, p, m, h, hf => by simp only [skF]; omega
  | f + 1, p, m, h, hf => by
    unfold skF
    split
    · rename_i hp
      split
      · omega
      · have h1 := Lib.decode_width_pos s p hp
        have h2 := decode_in' s p hp
        have := skF_le s f (p + (Utf8.decode s p).2) (m - 1) h2 (by omega)
        omega
    · omega
theorem sk_le (s : ByteArray) (m : Nat) : sk s m ≤ s.size := (skF_le s s.size 0 m (by omega) (by omega)).2
theorem skF_fuel (s : ByteArray) : ∀ (f g p m : Nat), p ≤ s.size → s.size ≤ p + f → s.size ≤ p + g → skF s f p m = skF s g p m
  | 0, g, p, m, h, hf, hg => by rw [skF_end s g p m (by omega)]; rfl
  | f + 1, 0, p, m, h, hf, hg => by rw [skF_end s _ p m (by omega)]; rfl
  | f + 1, g + 1, p, m, h, hf, hg => by
    unfold skF
    split
    · rename_i hp
      split
      · rfl
      · have h1 := Lib.decode_width_pos s p hp
        have h2 := decode_in' s p hp
        exact skF_fuel s f g _ _ h2 (by omega) (by omega)
    · rfl
theorem rc_fuel (s : ByteArray) : ∀ (f g p : Nat), p ≤ s.size → s.size ≤ p + f → s.size ≤ p + g → Lib.runeCountFrom s f p = Lib.runeCountFrom s g p
  | 0, g, p, h, hf, hg => by rw [Lib.runeCountFrom_end s g p (by omega)]; rfl
  | f + 1, 0, p, h, hf, hg => by rw [Lib.runeCountFrom_end s _ p (by omega)]; rfl
  | f + 1, g + 1, p, h, hf, hg => by
    unfold Lib.runeCountFrom
    split
    · rename_i hp
      have h1 := Lib.decode_width_pos s p hp
      have h2 := decode_in' s p hp
      rw [rc_fuel s f g _ h2 (by omega) (by omega)]
    · rfl
/-! ### pieces -/
theorem get_extract (s : ByteArray) (b e k : Nat) (he : e ≤ s.size) (h : b + k < e) : (s.extract b e).get! k = s.get! (b + k) := by
  have h1 : k < (s.extract b e).size := by rw [ByteArray.size_extract]; omega
  have e1 : (s.extract b e).get! k = (s.extract b e)[k] := by have := get_at (s.extract b e) k h1; simpa using this
  have e2 : s.get! (b + k) = s[b + k]'(by omega) := by have := get_at s (b + k) (by omega); simpa using this
  rw [e1, e2, ByteArray.getElem_extract]
theorem get_past (s : ByteArray) (k : Nat) (h : ¬ k < s.size) : s.get! k = default := by
  show s.data[k]! = default
  rw [getElem!_neg]; simpa using h
set_option maxHeartbeats 1000000 in
/-- A character that lies whole in a piece reads there as it reads in the text. -/
theorem decodeN_cut (n n' b0 b1 b2 b3 c1 c2 c3 : Nat) (h0 : 0 < n') (hn : n' ≤ n) (e1 : 1 < n' → c1 = b1) (e2 : 2 < n' → c2 = b2) (e3 : 3 < n' → c3 = b3)
    (hw : (Lib.decodeN n b0 b1 b2 b3).2 ≤ n') : Lib.decodeN n' b0 c1 c2 c3 = Lib.decodeN n b0 b1 b2 b3 := by
  unfold Lib.decodeN at hw ⊢
  by_cases a1 : b0 < 128
  · simp only [a1, if_true]
  · simp only [a1, if_false] at hw ⊢
    by_cases a2 : b0 / 32 = 6
    · have a3 : ¬ b0 / 16 = 14 := by omega
      have a4 : ¬ b0 / 8 = 30 := by omega
      simp only [a2, a3, a4, true_and, false_and, if_false] at hw ⊢
      by_cases q : 1 < n'
      · rw [e1 q]; simp only [q, show 1 < n from by omega, true_and]
      · by_cases q2 : 1 < n ∧ b1 / 64 = 2
        · rw [if_pos q2] at hw ⊢
          rw [if_neg (by omega)]
          split at hw
          · simp only [] at hw; omega
          · rename_i hh; rw [if_neg hh]
        · rw [if_neg q2, if_neg (by omega)]
    · by_cases a3 : b0 / 16 = 14
      · have a4 : ¬ b0 / 8 = 30 := by omega
        simp only [a2, a3, a4, true_and, false_and, if_false] at hw ⊢
        by_cases q : 2 < n'
        · rw [e1 (by omega), e2 q]; simp only [q, show 1 < n' from by omega, show 1 < n from by omega, show 2 < n from by omega, true_and]
        · rw [if_neg (by omega)]
          split at hw
          · rename_i hh
            rw [if_pos hh]
            split at hw
            · simp only [] at hw; omega
            · rename_i hh2; rw [if_neg hh2]
          · rename_i hh; rw [if_neg hh]
      · by_cases a4 : b0 / 8 = 30
        · simp only [a2, a3, a4, true_and, false_and, if_false] at hw ⊢
          by_cases q : 3 < n'
          · rw [e1 (by omega), e2 (by omega), e3 q]; simp only [q, show 1 < n' from by omega, show 2 < n' from by omega, show 1 < n from by omega, show 2 < n from by omega, show 3 < n from by omega, true_and]
          · rw [if_neg (by omega)]
            split at hw
            · rename_i hh
              rw [if_pos hh]
              split at hw
              · simp only [] at hw; omega
              · rename_i hh2; rw [if_neg hh2]
            · rename_i hh; rw [if_neg hh]
        · simp only [a2, a3, a4, false_and, if_false]
theorem decode_piece (s : ByteArray) (b e p : Nat) (he : e ≤ s.size) (h : b + p < e) (hw : b + p + (Utf8.decode s (b + p)).2 ≤ e) : Utf8.decode (s.extract b e) p = Utf8.decode s (b + p) := by
  have hz : (s.extract b e).size - p = e - (b + p) := by rw [ByteArray.size_extract]; omega
  rw [Lib.decode_at] at hw ⊢
  rw [Lib.decode_at s (b + p), hz, get_extract s b e p he h]
  have hg : ∀ k, b + (p + k) < e → ((s.extract b e).get! (p + k)).toNat = (s.get! (b + p + k)).toNat := fun k hk => by rw [get_extract s b e (p + k) he hk, Nat.add_assoc]
  exact decodeN_cut _ _ _ _ _ _ _ _ _ (by omega) (by omega) (fun h1 => hg 1 (by omega)) (fun h1 => hg 2 (by omega)) (fun h1 => hg 3 (by omega)) (by omega)
theorem size_piece (s : ByteArray) (b e : Nat) (hb : b ≤ e) (he : e ≤ s.size) : (s.extract b e).size = e - b := by rw [ByteArray.size_extract]; omega
/-- From a place on: the rest of the text. -/
theorem rc_rest (s : ByteArray) (b : Nat) (hb : b ≤ s.size) : ∀ (f q : Nat), Lib.runeCountFrom (s.extract b s.size) f q = Lib.runeCountFrom s f (b + q)
  | 0, q => rfl
  | f + 1, q => by
    unfold Lib.runeCountFrom
    rw [size_piece s b s.size hb (Nat.le_refl _)]
    by_cases h : b + q < s.size
    · rw [if_pos (by omega), if_pos h, decode_piece s b s.size q (Nat.le_refl _) h (decode_in' s _ h), rc_rest s b hb f, Nat.add_assoc]
    · rw [if_neg (by omega), if_neg h]
theorem sk_rest (s : ByteArray) (b : Nat) (hb : b ≤ s.size) : ∀ (f q m : Nat), b + skF (s.extract b s.size) f q m = skF s f (b + q) m
  | 0, q, m => by simp only [skF]; rw [size_piece s b s.size hb (Nat.le_refl _)]; omega
  | f + 1, q, m => by
    unfold skF
    rw [size_piece s b s.size hb (Nat.le_refl _)]
    by_cases h : b + q < s.size
    · rw [if_pos (by omega), if_pos h]
      by_cases hm : m = 0
      · rw [if_pos hm, if_pos hm]
      · rw [if_neg hm, if_neg hm, decode_piece s b s.size q (Nat.le_refl _) h (decode_in' s _ h), sk_rest s b hb f, Nat.add_assoc]
    · rw [if_neg (by omega), if_neg h]; omega
/-- The characters up to a place, and those behind it. -/
theorem rc_split (s : ByteArray) : ∀ (f p m : Nat), p ≤ s.size → s.size ≤ p + f →
    Lib.runeCountFrom (s.extract 0 (skF s f p m)) f p + Lib.runeCountFrom s f (skF s f p m) = Lib.runeCountFrom s f p ∧ Lib.runeCountFrom (s.extract 0 (skF s f p m)) f p ≤ m
  | 0, p, m, h, hf => by simp [Lib.runeCountFrom]
  | f + 1, p, m, h, hf => by
    have hle := skF_le s (f + 1) p m h hf
    by_cases hp : p < s.size
    · by_cases hm : m = 0
      · subst hm
        rw [skF_zero s _ p h hf]
        rw [Lib.runeCountFrom_end (s.extract 0 p) _ p (by rw [size_piece s 0 p (by omega) h]; omega)]
        omega
      · have h1 := Lib.decode_width_pos s p hp
        have h2 := decode_in' s p hp
        have he : skF s (f + 1) p m = skF s f (p + (Utf8.decode s p).2) (m - 1) := by rw [skF, if_pos hp, if_neg hm]
        have hge := skF_le s f (p + (Utf8.decode s p).2) (m - 1) h2 (by omega)
        have ih := rc_split s f (p + (Utf8.decode s p).2) (m - 1) h2 (by omega)
        rw [he] at hle ⊢
        generalize skF s f (p + (Utf8.decode s p).2) (m - 1) = e at *
        have hd := decode_piece s 0 e p hge.2 (by omega) (by rw [Nat.zero_add]; omega)
        rw [Nat.zero_add] at hd
        have ha : Lib.runeCountFrom (s.extract 0 e) (f + 1) p = 1 + Lib.runeCountFrom (s.extract 0 e) f (p + (Utf8.decode s p).2) := by
          rw [Lib.runeCountFrom, if_pos (by rw [size_piece s 0 e (by omega) hge.2]; omega), hd]
        have hb : Lib.runeCountFrom s (f + 1) p = 1 + Lib.runeCountFrom s f (p + (Utf8.decode s p).2) := by rw [Lib.runeCountFrom, if_pos hp]
        have hc : Lib.runeCountFrom s (f + 1) e = Lib.runeCountFrom s f e := rc_fuel s _ _ e hge.2 (by omega) (by omega)
        rw [ha, hb, hc]
        omega
    · have e0 : p = s.size := by omega
      rw [skF_end s _ p m hp]
      subst e0
      rw [Lib.runeCountFrom_end (s.extract 0 s.size) _ s.size (by rw [size_piece s 0 s.size (by omega) (Nat.le_refl _)]; omega)]
      omega
theorem sk_all (s : ByteArray) : ∀ (f p m : Nat), p ≤ s.size → s.size ≤ p + f → Lib.runeCountFrom s f p ≤ m → skF s f p m = s.size
  | 0, p, m, h, hf, hm => rfl
  | f + 1, p, m, h, hf, hm => by
    by_cases hp : p < s.size
    · have h1 := Lib.decode_width_pos s p hp
      have h2 := decode_in' s p hp
      rw [Lib.runeCountFrom, if_pos hp] at hm
      rw [skF, if_pos hp, if_neg (by omega), sk_all s f _ (m - 1) h2 (by omega) (by omega)]
    · exact skF_end s _ p m hp
/-- The text between two numbers of characters. -/
def cutV (s : ByteArray) (a b : Int) : ByteArray := s.extract (sk s (max a 0).toNat) (sk s (max a 0).toNat + sk (s.extract (sk s (max a 0).toNat) s.size) (max b 0).toNat)
theorem sk_zero (s : ByteArray) : sk s 0 = 0 := skF_zero s _ _ (by omega) (by omega)
theorem extract_all (s : ByteArray) : s.extract 0 s.size = s := by simp
theorem rcount_rest (s : ByteArray) (b : Nat) (hb : b ≤ s.size) : Lib.runeCount (s.extract b s.size) = Lib.runeCountFrom s s.size b := by
  unfold Lib.runeCount
  rw [rc_rest s b hb, Nat.add_zero]
  exact rc_fuel s _ _ b hb (by rw [size_piece s b s.size hb (Nat.le_refl _)]; omega) (by omega)
theorem cut_first (s : ByteArray) (k : Int) : cutV s 0 k = s.extract 0 (sk s (max k 0).toNat) := by
  unfold cutV
  rw [show (max (0 : Int) 0).toNat = 0 from rfl, sk_zero, extract_all, Nat.zero_add]
theorem cut_second (s : ByteArray) (k : Int) : cutV s k (Lib.runeCount s : Int) = s.extract (sk s (max k 0).toNat) s.size := by
  unfold cutV
  have h0 : (max (Lib.runeCount s : Int) 0).toNat = Lib.runeCount s := by omega
  have hle := sk_le s (max k 0).toNat
  generalize hb : sk s (max k 0).toNat = b at *
  have hs := (rc_split s s.size 0 (max k 0).toNat (by omega) (by omega)).1
  have e : skF s s.size 0 (max k 0).toNat = b := hb
  rw [e] at hs
  have hr := rcount_rest s b hle
  have : sk (s.extract b s.size) (Lib.runeCount s) = (s.extract b s.size).size := by
    refine sk_all _ _ 0 _ (by omega) (by omega) ?_
    show Lib.runeCount (s.extract b s.size) ≤ _
    rw [hr]
    show _ ≤ Lib.runeCountFrom s s.size 0
    omega
  rw [h0, this, size_piece s b s.size hle (Nat.le_refl _)]
  congr 1
  omega
theorem cut_counts (s : ByteArray) (k : Int) (hk : 0 ≤ k) : Lib.runeCount (cutV s 0 k) + Lib.runeCount (cutV s k (Lib.runeCount s : Int)) = Lib.runeCount s ∧ (Lib.runeCount (cutV s 0 k) : Int) ≤ k := by
  rw [cut_first, cut_second]
  have hle := sk_le s (max k 0).toNat
  have hs := rc_split s s.size 0 (max k 0).toNat (by omega) (by omega)
  rw [show skF s s.size 0 (max k 0).toNat = sk s (max k 0).toNat from rfl] at hs
  rw [rcount_rest s _ hle]
  have ha : Lib.runeCount (s.extract 0 (sk s (max k 0).toNat)) = Lib.runeCountFrom (s.extract 0 (sk s (max k 0).toNat)) s.size 0 := by
    unfold Lib.runeCount
    exact rc_fuel _ _ _ 0 (by omega) (by omega) (by rw [size_piece s 0 _ (by omega) hle]; omega)
  rw [ha]
  unfold Lib.runeCount
  omega
theorem cut_join (s : ByteArray) (k : Int) : (cutV s 0 k).data.toList ++ (cutV s k (Lib.runeCount s : Int)).data.toList = s.data.toList := by
  rw [cut_first, cut_second]
  have hle := sk_le s (max k 0).toNat
  rw [Lib.size_eq] at hle
  have hz := Lib.size_eq s
  simp only [ByteArray.data_extract, Array.toList_extract, List.extract_eq_take_drop, List.drop_zero, Nat.sub_zero]
  rw [hz, List.take_of_length_le (l := s.data.toList.drop _) (by simp), List.take_append_drop]
end Go.Proofs.YtjepodcgbfejgaaGreatDoor.CP
