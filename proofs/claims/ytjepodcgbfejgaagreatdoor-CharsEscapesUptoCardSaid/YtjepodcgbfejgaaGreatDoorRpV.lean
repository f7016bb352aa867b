import Derived.Test.YtjepodcgbfejgaaGreatDoorRpX
/- What is escaped is valid, in plain Lean. -/
namespace Go.Proofs.YtjepodcgbfejgaaGreatDoor.Hw
open Go.RowKit Go.Proofs.YtjepodcgbfejgaaGreatDoorW.PrintWords Go.Proofs.YtjepodcgbfejgaaGreatDoorW.PrintLast Go.Proofs.YtjepodcgbfejgaaGreatDoorW.PrintMore Go.Proofs.YtjepodcgbfejgaaGreatDoor.PH Go.Proofs.YtjepodcgbfejgaaGreatDoor.CP
set_option linter.unusedVariables false
set_option linter.unusedSimpArgs false
def dl (l : List UInt8) : Nat × Nat := Lib.decodeN l.length (l.getD 0 0).toNat (l.getD 1 0).toNat (l.getD 2 0).toNat (l.getD 3 0).toNat
theorem get_drop (s : ByteArray) (p k : Nat) : s.get! (p + k) = (s.data.toList.drop p).getD k 0 := by
  show s.data[p + k]! = _
  rw [List.getD_eq_getElem?_getD, List.getElem?_drop, Array.getElem?_toList]
  simp [getElem!_def]
  cases s.data[p + k]? <;> rfl
theorem decode_dl (s : ByteArray) (p : Nat) : Utf8.decode s p = dl (s.data.toList.drop p) := by
  rw [Lib.decode_at]
  unfold dl
  have h0 := get_drop s p 0
  rw [Nat.add_zero] at h0
  rw [h0, get_drop s p 1, get_drop s p 2, get_drop s p 3, List.length_drop, ← Lib.size_eq]
def badL (l : List UInt8) : Bool := (decide (((dl l).1 : Int) = 65533 ∧ ((dl l).2 : Int) = 1)) || !xc ((dl l).1 : Int)
inductive Vd : List UInt8 → Prop
  | nil : Vd []
  | step (l : List UInt8) (hl : l ≠ []) (hb : badL l = false) (h : Vd (l.drop (dl l).2)) : Vd l
theorem bad_dl (s : ByteArray) (p : Nat) : badB s p = badL (s.data.toList.drop p) := by unfold badB badL; rw [decode_dl]
theorem vd_of (s : ByteArray) : ∀ f p, p ≤ s.size → s.size ≤ p + f → vldF s f p = none → Vd (s.data.toList.drop p)
  | 0, p, hp, hf, _ => by rw [List.drop_of_length_le (by rw [← Lib.size_eq]; omega)]; exact .nil
  | f + 1, p, hp, hf, h => by
    by_cases hlt : p < s.size
    · rw [vldF, if_pos hlt] at h
      have hw := Lib.decode_width_pos s p hlt
      have hin := decode_in s p hlt
      cases hb : badB s p with
      | true => rw [hb, if_pos rfl] at h; cases h
      | false =>
        rw [hb, if_neg (by simp)] at h
        have ih := vd_of s f _ hin (by omega) h
        refine .step _ (fun e => ?_) (by rw [← bad_dl]; exact hb) (by rw [← decode_dl, List.drop_drop]; exact ih)
        have := congrArg List.length e
        rw [List.length_drop, ← Lib.size_eq] at this
        simp at this
        omega
    · rw [List.drop_of_length_le (by rw [← Lib.size_eq]; omega)]; exact .nil
theorem vd_to {L : List UInt8} (h : Vd L) : ∀ (s : ByteArray) (p f : Nat), s.data.toList.drop p = L → vldF s f p = none := by
  induction h with
  | nil =>
    intro s p f hd
    refine vldF_end s f p (fun hlt => ?_)
    have := congrArg List.length hd
    rw [List.length_drop, ← Lib.size_eq] at this
    simp at this
    omega
  | step l hl hb h ih =>
    intro s p f hd
    cases f with
    | zero => rfl
    | succ f =>
      rw [vldF]
      split
      · rw [bad_dl, hd, hb, if_neg (by simp)]
        exact ih s _ f (by rw [decode_dl, hd, ← hd, List.drop_drop])
      · rfl
theorem dl_ascii (c : UInt8) (l : List UInt8) (h : c.toNat < 128) : dl (c :: l) = (c.toNat, 1) := by
  unfold dl Lib.decodeN
  rw [if_pos (by simpa using h)]
  rfl
set_option maxHeartbeats 1000000 in
theorem decN_high (n b0 b1 b2 b3 : Nat) (h : ¬ b0 < 128) : Lib.decodeN n b0 b1 b2 b3 = (65533, 1) ∨
    (2 ≤ (Lib.decodeN n b0 b1 b2 b3).2 ∧ (Lib.decodeN n b0 b1 b2 b3).2 ≤ n ∧ (Lib.decodeN n b0 b1 b2 b3).2 ≤ 4 ∧ 128 ≤ b1 ∧ (3 ≤ (Lib.decodeN n b0 b1 b2 b3).2 → 128 ≤ b2) ∧ (4 ≤ (Lib.decodeN n b0 b1 b2 b3).2 → 128 ≤ b3) ∧
      ∀ n' c2 c3, (Lib.decodeN n b0 b1 b2 b3).2 ≤ n' → (3 ≤ (Lib.decodeN n b0 b1 b2 b3).2 → c2 = b2) → (4 ≤ (Lib.decodeN n b0 b1 b2 b3).2 → c3 = b3) → Lib.decodeN n' b0 b1 c2 c3 = Lib.decodeN n b0 b1 b2 b3) := by
  unfold Lib.decodeN
  simp only [h, if_false]
  by_cases q2 : b0 / 32 = 6 ∧ (1 < n ∧ b1 / 64 = 2)
  · rw [if_pos q2]
    by_cases r2 : b0 % 32 * 64 + b1 % 64 ≥ 128
    · rw [if_pos r2]
      refine .inr ⟨by simp, by simp only []; omega, by simp, by omega, by simp, by simp, fun n' c2 c3 hn _ _ => ?_⟩
      simp only [] at hn
      rw [if_pos ⟨q2.1, by omega, q2.2.2⟩]
    · rw [if_neg r2]; exact .inl rfl
  · rw [if_neg q2]
    by_cases q3 : b0 / 16 = 14 ∧ (1 < n ∧ b1 / 64 = 2) ∧ (2 < n ∧ b2 / 64 = 2)
    · rw [if_pos q3]
      split
      · rename_i r3
        refine .inr ⟨by simp, by simp only []; omega, by simp, by omega, by intro _; omega, by simp, fun n' c2 c3 hn h2 _ => ?_⟩
        simp only [] at hn
        have e2 := h2 (by simp)
        subst e2
        rw [if_neg (by omega), if_pos ⟨q3.1, ⟨by omega, q3.2.1.2⟩, by omega, q3.2.2.2⟩, if_pos r3]
      · exact .inl rfl
    · rw [if_neg q3]
      by_cases q4 : b0 / 8 = 30 ∧ (1 < n ∧ b1 / 64 = 2) ∧ (2 < n ∧ b2 / 64 = 2) ∧ (3 < n ∧ b3 / 64 = 2)
      · rw [if_pos q4]
        split
        · rename_i r4
          refine .inr ⟨by simp, by simp only []; omega, by simp, by omega, by intro _; omega, by intro _; omega, fun n' c2 c3 hn h2 h3 => ?_⟩
          simp only [] at hn
          have e2 := h2 (by simp)
          have e3 := h3 (by simp)
          subst e2 e3
          rw [if_neg (by omega), if_neg (by omega), if_pos ⟨q4.1, ⟨by omega, q4.2.1.2⟩, ⟨by omega, q4.2.2.1.2⟩, by omega, q4.2.2.2.2⟩, if_pos r4]
        · exact .inl rfl
      · rw [if_neg q4]; exact .inl rfl
theorem dl_high (l : List UInt8) (h0 : 128 ≤ (l.getD 0 0).toNat) (hb : badL l = false) : 2 ≤ (dl l).2 ∧ (dl l).2 ≤ l.length ∧ (∀ x ∈ l.take (dl l).2, 128 ≤ x.toNat) ∧ ∀ R, dl (l.take (dl l).2 ++ R) = dl l := by
  rcases decN_high l.length (l.getD 0 0).toNat (l.getD 1 0).toNat (l.getD 2 0).toNat (l.getD 3 0).toNat (by omega) with hh | ⟨h2, hn, h4, g1, g2, g3, hext⟩
  · exfalso
    have : dl l = (65533, 1) := hh
    unfold badL at hb
    rw [this] at hb
    revert hb
    decide
  · have hd : dl l = Lib.decodeN l.length (l.getD 0 0).toNat (l.getD 1 0).toNat (l.getD 2 0).toNat (l.getD 3 0).toNat := rfl
    rw [← hd] at h2 hn h4 g2 g3 hext
    refine ⟨h2, hn, fun x hx => ?_, fun R => ?_⟩
    · obtain ⟨i, hi, rfl⟩ := List.mem_iff_getElem.1 hx
      rw [List.length_take] at hi
      rw [List.getElem_take]
      have hil : i < l.length := by omega
      have e : l.getD i 0 = l[i] := by rw [List.getD_eq_getElem?_getD, List.getElem?_eq_getElem hil]; rfl
      rw [← e]
      have : i = 0 ∨ i = 1 ∨ i = 2 ∨ i = 3 := by omega
      rcases this with rfl | rfl | rfl | rfl
      · exact h0
      · exact g1
      · exact g2 (by omega)
      · exact g3 (by omega)
    · have hg : ∀ k, k < (dl l).2 → (l.take (dl l).2 ++ R).getD k 0 = l.getD k 0 := fun k hk => by
        rw [List.getD_eq_getElem?_getD, List.getElem?_append_left (by rw [List.length_take]; omega), List.getElem?_take, if_pos hk, ← List.getD_eq_getElem?_getD]
      have e : dl (l.take (dl l).2 ++ R) = Lib.decodeN (l.take (dl l).2 ++ R).length ((l.take (dl l).2 ++ R).getD 0 0).toNat ((l.take (dl l).2 ++ R).getD 1 0).toNat ((l.take (dl l).2 ++ R).getD 2 0).toNat ((l.take (dl l).2 ++ R).getD 3 0).toNat := rfl
      rw [e, hg 0 (by omega), hg 1 (by omega)]
      exact hext _ _ _ (by rw [List.length_append, List.length_take]; omega) (fun h3 => by rw [hg 2 (by omega)]) (fun h3 => by rw [hg 3 (by omega)])
theorem vd_ascii : ∀ (ys R : List UInt8), (∀ y ∈ ys, y.toNat < 128 ∧ xc (y.toNat : Int) = true) → Vd R → Vd (ys ++ R)
  | [], R, _, h => h
  | y :: ys, R, hy, h => by
    have h1 := hy y (by simp)
    have hd := dl_ascii y (ys ++ R) h1.1
    refine .step _ (by simp) ?_ ?_
    · show badL (y :: (ys ++ R)) = false
      unfold badL
      rw [hd]
      simp only [h1.2]
      simp
      omega
    · show Vd ((y :: (ys ++ R)).drop (dl (y :: (ys ++ R))).2)
      rw [hd]
      exact vd_ascii ys R (fun z hz => hy z (List.mem_cons_of_mem _ hz)) h
theorem xc_print {y : Nat} (h : 32 ≤ y) (h2 : y < 128) : xc (y : Int) = true := by unfold xc; simp; omega
/-- What is escaped is valid, and bears no mark. -/
theorem vd_out (attr : Bool) {L : List UInt8} (h : Vd L) : Vd (outB (escP attr).reverse L) ∧ ∀ y ∈ outB (escP attr).reverse L, y.toNat ≠ 60 ∧ y.toNat ≠ 62 ∧ (attr = true → y.toNat ≠ 34 ∧ 32 ≤ y.toNat) := by
  induction h with
  | nil => exact ⟨.nil, fun y hy => by cases hy⟩
  | step l hl hb h ih =>
    cases l with
    | nil => exact absurd rfl hl
    | cons c l =>
      by_cases hc : c.toNat < 128
      · have hd := dl_ascii c l hc
        rw [hd] at ih
        have ih' : Vd (outB (escP attr).reverse l) ∧ ∀ y ∈ outB (escP attr).reverse l, y.toNat ≠ 60 ∧ y.toNat ≠ 62 ∧ (attr = true → y.toNat ≠ 34 ∧ 32 ≤ y.toNat) := ih
        have hx : xc (c.toNat : Int) = true := by
          unfold badL at hb
          rw [hd] at hb
          simp at hb
          exact hb.2
        rw [outB_cons]
        cases hk : look (escP attr).reverse c.toNat with
        | some ys =>
          obtain ⟨nm, _, _, _, _, hall⟩ := esc_some hk
          refine ⟨vd_ascii ys _ (fun y hy => ⟨(hall y hy).1, xc_print (hall y hy).2.1 (hall y hy).1⟩) ih'.1, fun y hy => ?_⟩
          rcases List.mem_append.1 hy with hy | hy
          · have := hall y hy
            exact ⟨this.2.2.2.1, this.2.2.2.2, fun _ => ⟨this.2.2.1, this.2.1⟩⟩
          · exact ih'.2 y hy
        | none =>
          have hn := esc_none hk
          refine ⟨vd_ascii [c] _ (fun y hy => by rw [List.mem_singleton.1 hy]; exact ⟨hc, hx⟩) ih'.1, fun y hy => ?_⟩
          rcases List.mem_append.1 hy with hy | hy
          · have e : y = c := List.mem_singleton.1 hy
            subst e
            refine ⟨hn.2.1, hn.2.2.1, fun ha => ⟨(hn.2.2.2.2 ha).1, ?_⟩⟩
            unfold xc at hx
            simp at hx
            have := hn.2.2.2.2 ha
            have := hn.2.2.2.1
            omega
          · exact ih'.2 y hy
      · have hhi := dl_high (c :: l) (by simpa using hc) hb
        obtain ⟨h2, hle, hall, hext⟩ := hhi
        have hsplit : c :: l = (c :: l).take (dl (c :: l)).2 ++ (c :: l).drop (dl (c :: l)).2 := (List.take_append_drop _ _).symm
        have hsame : outB (escP attr).reverse ((c :: l).take (dl (c :: l)).2) = (c :: l).take (dl (c :: l)).2 := outB_same _ _ (fun x hx => esc_high (hall x hx))
        have hout : outB (escP attr).reverse (c :: l) = (c :: l).take (dl (c :: l)).2 ++ outB (escP attr).reverse ((c :: l).drop (dl (c :: l)).2) := by
          conv => lhs; rw [hsplit]
          rw [outB_app, hsame]
        rw [hout]
        generalize hR : outB (escP attr).reverse ((c :: l).drop (dl (c :: l)).2) = R at *
        have hlen : ((c :: l).take (dl (c :: l)).2).length = (dl (c :: l)).2 := by rw [List.length_take]; omega
        refine ⟨.step _ (fun e => ?_) ?_ ?_, fun y hy => ?_⟩
        · have := congrArg List.length e
          rw [List.length_append, hlen] at this
          simp at this
          omega
        · unfold badL; rw [hext R]; exact hb
        · rw [hext R, List.drop_append, List.drop_of_length_le (by omega), hlen, Nat.sub_self]
          exact ih.1
        · rcases List.mem_append.1 hy with hy | hy
          · have := hall y hy
            exact ⟨by omega, by omega, fun _ => ⟨by omega, by omega⟩⟩
          · exact ih.2 y hy
theorem esc_back (attr : Bool) (s : ByteArray) (hv : vld s = none) : unV ⟨(escT attr s).toArray⟩ = .tuple #[.string s, .int .i64 0, .int .i64 0] ∧ ∀ y ∈ escT attr s, y.toNat ≠ 60 ∧ y.toNat ≠ 62 ∧ (attr = true → y.toNat ≠ 34 ∧ 32 ≤ y.toNat) := by
  have h1 : Vd s.data.toList := by have := vd_of s s.size 0 (Nat.zero_le _) (by omega) hv; simpa using this
  have h2 := vd_out attr h1
  refine ⟨?_, h2.2⟩
  have h3 : vld ⟨(escT attr s).toArray⟩ = none := vd_to h2.1 ⟨(escT attr s).toArray⟩ 0 _ (by simp [escT])
  unfold unV
  rw [h3]
  unfold unE
  rw [un_out attr ⟨(escT attr s).toArray⟩ s.data.toList.length s.data.toList (Nat.le_refl _) _ 0 [] (Nat.zero_le _) (by omega) (by simp [escT])]
  unfold unW
  simp
end Go.Proofs.YtjepodcgbfejgaaGreatDoor.Hw
