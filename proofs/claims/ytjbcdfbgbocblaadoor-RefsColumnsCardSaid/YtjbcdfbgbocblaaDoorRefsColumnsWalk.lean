import Derived.Test.YtjbcdfbgbocblaaDoorQrL
/- Columns' letters: the program and the document alike. -/
namespace Go.Proofs.YtjbcdfbgbocblaaDoor.Hw
open Go.RowKit Go.Proofs.YtjbcdfbgbocblaaDoorW.PrintWords Go.Proofs.YtjbcdfbgbocblaaDoorW.PrintLast Go.Proofs.YtjbcdfbgbocblaaDoorW.PrintMore Go.Proofs.YtjbcdfbgbocblaaDoor.PH Go.Proofs.YtjbcdfbgbocblaaDoor.CP
set_option linter.unusedVariables false
set_option linter.unusedSimpArgs false
theorem w64n {x : Int} (h : -9223372036854775808 ≤ x ∧ x ≤ 9223372036854775807) : wrap64 x = x := by unfold wrap64; omega
/-- The value of capital letters behind a value. -/
def pv : Nat → List UInt8 → Option Nat
  | v, [] => some v
  | v, c :: t => if 65 ≤ c.toNat ∧ c.toNat ≤ 90 then pv (v * 26 + (c.toNat - 65) + 1) t else none
def pvR (v : Nat) (l : List UInt8) : Int × Int := match pv v l with
  | some z => if z < 1 ∨ 1024 < z then (0, 110) else ((z : Int) - 1, 0)
  | none => (0, 110)
theorem pv_le : ∀ (l : List UInt8) (v z : Nat), pv v l = some z → v ≤ z
  | [], v, z, h => by injection h with h; omega
  | c :: t, v, z, h => by
    rw [pv] at h
    split at h
    · have := pv_le t _ z h; omega
    · cases h
theorem pvR_big {v : Nat} (hv : 1024 < v) (l : List UInt8) : pvR v l = (0, 110) := by
  unfold pvR
  cases h : pv v l with
  | none => rfl
  | some z => have := pv_le l v z h; simp only []; rw [if_pos (by omega)]
theorem drop_cons (s : ByteArray) (i : Nat) (h : i < s.size) : s.data.toList.drop i = s[i] :: s.data.toList.drop (i + 1) := by
  have hz := Lib.size_eq s
  rw [List.drop_eq_getElem_cons (by omega)]
  rfl
theorem let_mod (c : Nat) (h1 : 65 ≤ c) (h2 : c ≤ 90) : ((c : Int) - 65) % 256 = ((c - 65 : Nat) : Int) := by rw [Int.emod_eq_of_lt (by omega) (by omega)]; omega
theorem let_step (v x : Nat) (hv : v ≤ 30000) (hx : x ≤ 25) : wrap64 (wrap64 (wrap64 ((v : Int) * 26) + (x : Int)) + 1) = ((v * 26 + x + 1 : Nat) : Int) := by
  have a0 : wrap64 ((v : Int) * 26) = (v : Int) * 26 := w64n (by omega)
  rw [a0]
  have a1 : wrap64 ((v : Int) * 26 + (x : Int)) = (v : Int) * 26 + (x : Int) := w64n (by omega)
  rw [a1, w64n (by omega)]; omega
theorem let_step2 (v x : Nat) (hv : v ≤ 30000) (hx : x ≤ 25) : wrap64 (wrap64 (wrap64 (26 * (v : Int)) + (x : Int)) + 1) = ((v * 26 + x + 1 : Nat) : Int) := by rw [Int.mul_comm]; exact let_step v x hv hx
theorem next_i (i : Nat) (h : i ≤ 140737488351232) : wrap64 ((i : Int) + 1) = ((i + 1 : Nat) : Int) := by rw [w64n (by omega)]; rfl
theorem prog_loop (s : ByteArray) (hs : s.size ≤ 140737488351232) : ∀ (d i v K : Nat), s.size - i = d → i ≤ s.size → d < K → v ≤ 30000 → refs_ParseColumn.l0 K s (v : Int) (s.size : Int) (i : Int) = some (pvR v (s.data.toList.drop i)) := by
  intro d
  induction d with
  | zero =>
    intro i v K hd hi hK hv
    obtain ⟨K, rfl⟩ : ∃ m, K = m + 1 := ⟨K - 1, by omega⟩
    have hz := Lib.size_eq s
    rw [refs_ParseColumn.l0, if_neg (by omega), List.drop_eq_nil_of_le (by omega)]
    unfold pvR
    simp only [pv]
    by_cases h1 : v < 1
    · rw [if_pos (by omega), if_pos (.inl h1)]
    · rw [if_neg (by omega)]
      by_cases h2 : 1024 < v
      · rw [if_pos (by omega), if_pos (.inr h2)]
      · rw [if_neg (by omega), if_neg (by omega), w64n (by omega)]
  | succ d ih =>
    intro i v K hd hi hK hv
    obtain ⟨K, rfl⟩ : ∃ m, K = m + 1 := ⟨K - 1, by omega⟩
    have h : i < s.size := by omega
    rw [refs_ParseColumn.l0, if_pos (by omega), if_pos (by omega), if_pos (by omega), bt_nat s i h, drop_cons s i h]
    have hb := UInt8.toNat_lt (s[i])
    by_cases h1 : (s[i]).toNat < 65
    · rw [if_pos (by omega)]
      unfold pvR; rw [pv, if_neg (by omega)]
    · rw [if_neg (by omega)]
      by_cases h2 : 90 < (s[i]).toNat
      · rw [if_pos (by omega)]
        unfold pvR; rw [pv, if_neg (by omega)]
      · rw [if_neg (by omega)]
        by_cases h3 : 1024 < v
        · rw [if_pos (by omega), pvR_big h3]
        · rw [if_neg (by omega)]
          have c1 : 65 ≤ (s[i]).toNat := by omega
          have c2 : (s[i]).toNat ≤ 90 := by omega
          rw [let_mod _ c1 c2, let_step v _ hv (by omega), next_i i (by omega), ih (i + 1) _ K (by omega) (by omega) (by omega) (by omega)]
          have e5 : pvR v (s[i] :: s.data.toList.drop (i + 1)) = pvR (v * 26 + ((s[i]).toNat - 65) + 1) (s.data.toList.drop (i + 1)) := by
            unfold pvR; rw [pv, if_pos (by omega)]
          rw [e5]
theorem ref_loop (s : ByteArray) (hs : s.size ≤ 140737488351232) : ∀ (d i v K : Nat), s.size - i = d → i ≤ s.size → d < K → (v ≤ 18278 ∧ (1 ≤ d → v ≤ 702) ∧ (2 ≤ d → v ≤ 26) ∧ (3 ≤ d → v = 0) ∧ d ≤ 3) → (0 < v ∨ 0 < d) → gridironref11_ParseColumn.l0 K s (v : Int) (i : Int) = some (pvR v (s.data.toList.drop i)) := by
  intro d
  induction d with
  | zero =>
    intro i v K hd hi hK hv h0
    obtain ⟨K, rfl⟩ : ∃ m, K = m + 1 := ⟨K - 1, by omega⟩
    have hz := Lib.size_eq s
    rw [gridironref11_ParseColumn.l0, if_neg (by omega), List.drop_eq_nil_of_le (by omega)]
    unfold pvR
    simp only [pv]
    by_cases h2 : 1024 < v
    · rw [if_pos (by omega), if_pos (.inr h2)]
    · rw [if_neg (by omega), if_neg (by omega), w64n (by omega)]
  | succ d ih =>
    intro i v K hd hi hK hv h0
    obtain ⟨K, rfl⟩ : ∃ m, K = m + 1 := ⟨K - 1, by omega⟩
    have h : i < s.size := by omega
    rw [gridironref11_ParseColumn.l0, if_pos (by omega), if_pos (by omega), bt_nat s i h, drop_cons s i h]
    have hb := UInt8.toNat_lt (s[i])
    by_cases h1 : (s[i]).toNat < 65
    · rw [if_pos (by omega)]
      unfold pvR; rw [pv, if_neg (by omega)]
    · rw [if_neg (by omega)]
      by_cases h2 : 90 < (s[i]).toNat
      · rw [if_pos (by omega)]
        unfold pvR; rw [pv, if_neg (by omega)]
      · rw [if_neg (by omega)]
        have hv4 : v ≤ 702 := hv.2.1 (by omega)
        have hv2 : (v * 26 + ((s[i]).toNat - 65) + 1 ≤ 18278 ∧ (1 ≤ d → v * 26 + ((s[i]).toNat - 65) + 1 ≤ 702) ∧ (2 ≤ d → v * 26 + ((s[i]).toNat - 65) + 1 ≤ 26) ∧ (3 ≤ d → v * 26 + ((s[i]).toNat - 65) + 1 = 0) ∧ d ≤ 3) := by
          obtain ⟨x1, x2, x3, x4, x5⟩ := hv
          refine ⟨by omega, fun g => ?_, fun g => ?_, fun g => by omega, by omega⟩
          · have := x3 (by omega); omega
          · have := x4 (by omega); omega
        clear hv
        have c1 : 65 ≤ (s[i]).toNat := by omega
        have c2 : (s[i]).toNat ≤ 90 := by omega
        rw [let_mod _ c1 c2, let_step2 v _ (by omega) (by omega), next_i i (by omega), ih (i + 1) _ K (by omega) (by omega) (by omega) hv2 (.inl (by omega))]
        have e5 : pvR v (s[i] :: s.data.toList.drop (i + 1)) = pvR (v * 26 + ((s[i]).toNat - 65) + 1) (s.data.toList.drop (i + 1)) := by
          unfold pvR; rw [pv, if_pos (by omega)]
        rw [e5]
theorem pv_four (a b c d : UInt8) (t : List UInt8) : pvR 0 (a :: b :: c :: d :: t) = (0, 110) := by
  have step : ∀ (v : Nat) (x : UInt8) (l : List UInt8), pvR v (x :: l) = if 65 ≤ x.toNat ∧ x.toNat ≤ 90 then pvR (v * 26 + (x.toNat - 65) + 1) l else (0, 110) := fun v x l => by
    unfold pvR; rw [pv]; split <;> simp_all
  rw [step]
  split
  · rw [step]
    split
    · rw [step]
      split
      · rw [step]
        split
        · exact pvR_big (by omega) _
        · rfl
      · rfl
    · rfl
  · rfl
theorem prog_is (s : ByteArray) (hs : s.size ≤ 140737488351232) : refs_ParseColumn.f (s.size + 1) s = some (pvR 0 s.data.toList) := by
  have := prog_loop s hs s.size 0 0 (s.size + 1) (by omega) (by omega) (by omega) (by omega)
  rw [List.drop_zero] at this
  exact this
theorem ref_is (s : ByteArray) (hs : s.size ≤ 140737488351232) : ∃ K, gridironref11_ParseColumn.f K s = some (pvR 0 s.data.toList) := by
  have hz := Lib.size_eq s
  unfold gridironref11_ParseColumn.f
  by_cases h0 : s.size < 1
  · refine ⟨1, ?_⟩
    rw [if_pos (by omega)]
    have : s.data.toList = [] := List.eq_nil_of_length_eq_zero (by omega)
    rw [this]; rfl
  · by_cases h3 : 3 < s.size
    · refine ⟨1, ?_⟩
      rw [if_neg (by omega), decide_eq_true (show (s.size : Int) > 3 by omega)]
      obtain ⟨a, b, c, d, t, h⟩ : ∃ a b c d t, s.data.toList = a :: b :: c :: d :: t := by
        match hl : s.data.toList with
        | [] => exact absurd hz (by rw [hl]; simp only [List.length_nil]; omega)
        | [_] => exact absurd hz (by rw [hl]; simp only [List.length_cons, List.length_nil]; omega)
        | [_, _] => exact absurd hz (by rw [hl]; simp only [List.length_cons, List.length_nil]; omega)
        | [_, _, _] => exact absurd hz (by rw [hl]; simp only [List.length_cons, List.length_nil]; omega)
        | a :: b :: c :: d :: t => exact ⟨a, b, c, d, t, rfl⟩
      rw [h, pv_four]
      simp [gridironref11_ParseColumn.j0]
    · refine ⟨s.size + 2, ?_⟩
      rw [if_neg (by omega), decide_eq_false (show ¬ (s.size : Int) > 3 by omega)]
      have := ref_loop s hs s.size 0 0 (s.size + 1) (by omega) (by omega) (by omega) ⟨by omega, fun _ => by omega, fun _ => by omega, fun _ => rfl, by omega⟩ (.inr (by omega))
      rw [List.drop_zero] at this
      simp only [gridironref11_ParseColumn.j0, Bool.false_eq_true, if_false]
      exact this
theorem col_num (m : Nat) (hm : m ≤ 1024) : (strOfNums [(wrap64 (65 + (Int.tmod (wrap64 (((m + 1 : Nat) : Int) - 1)) 26))) % 256]) = ⟨#[UInt8.ofNat (65 + m % 26)]⟩ := by
  have e1 : wrap64 (((m + 1 : Nat) : Int) - 1) = (m : Int) := by rw [w64n (by omega)]; omega
  have e2 : Int.tmod (m : Int) 26 = ((m % 26 : Nat) : Int) := by rw [Int.tmod_eq_emod_of_nonneg (by omega)]; rfl
  have e3 : wrap64 (65 + ((m % 26 : Nat) : Int)) = ((65 + m % 26 : Nat) : Int) := by rw [w64n (by omega)]; rfl
  have e4 : ((65 + m % 26 : Nat) : Int) % 256 = ((65 + m % 26 : Nat) : Int) := Int.emod_eq_of_lt (by omega) (by omega)
  rw [e1, e2, e3, e4]
  rfl
theorem rcol_loop (n : Nat) : ∀ (m : Nat) (sf : ByteArray) (K : Nat), m ≤ 1024 → sf.size + m ≤ 2048 → m < K → colB m ++ sf.data.toList = colB (n + 1) → gridironref11_Column.l0 K (m : Int) sf = some (colS n, 0) := by
  intro m
  induction m using Nat.strongRecOn with
  | _ m ih =>
    intro sf K hm hs hK hE
    obtain ⟨K, rfl⟩ : ∃ q, K = q + 1 := ⟨K - 1, by omega⟩
    rw [gridironref11_Column.l0]
    cases m with
    | zero =>
      rw [if_neg (by omega)]
      rw [colB_zero, List.nil_append] at hE
      unfold colS
      rw [← hE]
    | succ m =>
      rw [if_pos (by omega)]
      simp only [Option.bind_some]
      rw [col_num m (by omega)]
      have hz : ((⟨#[UInt8.ofNat (65 + m % 26)]⟩ : ByteArray) ++ sf).size = sf.size + 1 := by rw [ByteArray.size_append]; show 1 + _ = _; omega
      have hz1 : (⟨#[UInt8.ofNat (65 + m % 26)]⟩ : ByteArray).size = 1 := rfl
      have e1 : wrap64 (Int.tdiv (wrap64 (((m + 1 : Nat) : Int) - 1)) 26) = ((m / 26 : Nat) : Int) := by
        have a1 : wrap64 (((m + 1 : Nat) : Int) - 1) = (m : Int) := by rw [w64n (by omega)]; omega
        rw [a1, Int.tdiv_eq_ediv_of_nonneg (by omega), w64n (by omega)]; rfl
      rw [if_pos (by rw [hz1]; omega), e1]
      refine ih (m / 26) (by omega) _ K (by omega) (by rw [hz]; omega) (by omega) ?_
      rw [← hE, colB_succ, ByteArray.data_append, Array.toList_append]; simp
theorem rcol_ok (n : Nat) (hn : n < 1024) : ∃ K, gridironref11_Column.f K (n : Int) = some (colS n, 0) := by
  refine ⟨2000, ?_⟩
  unfold gridironref11_Column.f
  rw [if_neg (by omega), decide_eq_false (show ¬ (n : Int) ≥ 1024 by omega)]
  have h := rcol_loop n (n + 1) ⟨#[]⟩ 1999 (by omega) (by show 0 + _ ≤ _; omega) (by omega) (by simp)
  rw [show (2000 : Nat) = 1999 + 1 from rfl]
  simp only [gridironref11_Column.j0, Bool.false_eq_true, if_false]
  rw [next_i n (by omega)]
  exact h
theorem rcol_bad (n : Int) (hn : n < 0 ∨ 1024 ≤ n) : gridironref11_Column.f 1 n = some (⟨#[]⟩, 110) := by
  unfold gridironref11_Column.f
  rcases hn with h | h
  · rw [if_pos h]; simp [gridironref11_Column.j0]
  · rw [if_neg (by omega), decide_eq_true (show n ≥ 1024 from h)]; simp [gridironref11_Column.j0]
theorem columns_alike (n : Int) : ∃ (a : ByteArray) (e : Int), (∀ w, Calls Tryd.prog 8 #[.int .i64 n] w fun e' w' => e' = .returned (.tuple #[.string a, .int .i64 e]) ∧ Below w.heap.size w w') ∧ (∀ w, Calls Tryd.prog 9 #[.int .i64 n] w fun e' w' => e' = .returned (.tuple #[.string a, .int .i64 e]) ∧ Below w.heap.size w w') := by
  by_cases h : n < 0 ∨ 1024 ≤ n
  · exact ⟨_, _, fun w => (column_bad n h w).mono fun e w' ⟨h1, h2⟩ => ⟨h1, h2 ▸ Below.refl _ _⟩, fun w => gridironref11_Column.calls 1 n _ _ w (rcol_bad n h)⟩
  · obtain ⟨m, rfl⟩ := Int.eq_ofNat_of_zero_le (show 0 ≤ n by omega)
    obtain ⟨K, hK⟩ := rcol_ok m (by omega)
    exact ⟨_, _, fun w => (column_ok m (by omega) w).mono fun e w' ⟨h1, h2⟩ => ⟨h1, h2 ▸ Below.refl _ _⟩, fun w => gridironref11_Column.calls K m _ _ w hK⟩
set_option maxRecDepth 100000 in
set_option maxHeartbeats 4000000 in
theorem refsColumns_walk (w : World) (hC : ChW w) (n : Int) (hn : (Lit.int .i64 n).wf = true) (s : ByteArray) (hs : s.size ≤ 140737488351232) :
    Calls Tryd.prog 3 #[.int .i64 n, .string s] w fun e w' => e = .returned (.bool true) ∧ Below w.heap.size w w' := by
  obtain ⟨a, e, h1, h2⟩ := columns_alike n
  have H1 := Aside0.mk h1
  have H2 := Aside0.mk h2
  obtain ⟨K, hK⟩ := ref_is s hs
  have hP := prog_is s hs
  obtain ⟨x, y, hxy⟩ : ∃ x y, pvR 0 s.data.toList = (x, y) := ⟨_, _, rfl⟩
  rw [hxy] at hP hK
  have H3 : Aside0 (∀ w1, _) := ⟨fun w1 => refs_ParseColumn.calls _ s x y w1 hP⟩
  have H4 : Aside0 (∀ w1, _) := ⟨fun w1 => gridironref11_ParseColumn.calls K s x y w1 hK⟩
  clear hxy hP
  have HL : Aside0 (∀ w1, Below w.heap.size w w1 → _) := ⟨fun w1 hb => live11_calls w1 (hC.go hb)⟩
  clear h1 h2 hK hC
  go_enter Tryd.func3, Tryd.ntmps3
  go_wp2_with fail
  refine (H1.out _).mono ?_
  rintro e1 w1 ⟨rfl, hb⟩
  have HB := Aside0.mk hb
  clear hb
  go_wp2_with fail
  refine (H2.out _).mono ?_
  rintro e2 w2 ⟨rfl, hb⟩
  have HB2 := Aside0.mk (HB.out.trans (hb.mono HB.out.size))
  clear hb HB
  go_wp2_with fail
  refine (H3.out _).mono ?_
  rintro e3 w3 ⟨rfl, hb⟩
  have HB3 := Aside0.mk (HB2.out.trans (hb.below.mono HB2.out.size))
  clear hb HB2
  go_wp2_with fail
  refine (H4.out _).mono ?_
  rintro e4 w4 ⟨rfl, hb⟩
  have HB4 := Aside0.mk (HB3.out.trans (hb.below.mono HB3.out.size))
  clear hb HB3
  go_wp2_with fail
  refine (HL.out _ HB4.out).mono ?_
  rintro e5 w5 ⟨rfl, hb⟩
  have HB5 := Aside0.mk (HB4.out.trans (hb.mono HB4.out.size))
  clear hb HB4
  go_wp2
  go_ret
  exact ⟨rfl, HB5.out⟩
end Go.Proofs.YtjbcdfbgbocblaaDoor.Hw
