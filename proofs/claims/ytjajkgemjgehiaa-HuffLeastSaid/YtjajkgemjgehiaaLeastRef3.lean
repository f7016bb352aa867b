import Derived.Test.YtjajkgemjgehiaaLeastRef2
/- The document's merged, walked. -/
namespace Go.Proofs.Ytjajkgemjgehiaa.Hw
open Go.RowKit Go.Proofs.YtjajkgemjgehiaaW.PrintWords Go.Proofs.YtjajkgemjgehiaaW.PrintLast Go.Proofs.YtjajkgemjgehiaaW.PrintMore Go.Proofs.Ytjajkgemjgehiaa.PH
set_option linter.unusedVariables false
set_option linter.unusedSimpArgs false
/-- Two rising lists as one; of equal ones the first list's. -/
def mergedI : List Int → List Int → List Int
  | [], b => b
  | x :: a, [] => x :: a
  | x :: a, y :: b => if x ≤ y then x :: mergedI a (y :: b) else y :: mergedI (x :: a) b
termination_by a b => a.length + b.length
theorem mergedI_nil (b : List Int) : mergedI [] b = b := by rw [mergedI]
theorem mergedI_end (a : List Int) : mergedI a [] = a := by cases a <;> rw [mergedI]
theorem mergedI_le {x : Int} {a b : List Int} (h : b = [] ∨ x ≤ b.getD 0 0) : mergedI (x :: a) b = x :: mergedI a b := by
  cases b with
  | nil => rw [mergedI, mergedI_end]
  | cons y b =>
    have h : x ≤ y := by rcases h with h | h
                         · cases h
                         · simpa using h
    rw [mergedI, if_pos h]
theorem mergedI_gt {x y : Int} {a b : List Int} (h : y < x) : mergedI (x :: a) (y :: b) = y :: mergedI (x :: a) b := by rw [mergedI, if_neg (by omega)]
theorem drop_getD {l : List Int} {k : Nat} (h : k < l.length) : l.drop k = l.getD k 0 :: l.drop (k + 1) := by
  rw [List.drop_eq_getElem_cons h, List.getD_eq_getElem?_getD, List.getElem?_eq_getElem h]; rfl
theorem mergedI_length : ∀ (n : Nat) (a b : List Int), a.length + b.length = n → (mergedI a b).length = n
  | n, [], b, h => by rw [mergedI_nil]; simpa using h
  | n, x :: a, [], h => by rw [mergedI_end]; simpa using h
  | 0, x :: a, y :: b, h => by simp at h
  | n + 1, x :: a, y :: b, h => by
    rw [mergedI]
    split
    · rw [List.length_cons, mergedI_length n a (y :: b) (by simp at h ⊢; omega)]
    · rw [List.length_cons, mergedI_length n (x :: a) b (by simp at h ⊢; omega)]
/-- The document's merged where k of a and i of b are laid. -/
def MgS (w0 wr : World) (v : Value) (a b : List Int) (k i : Nat) : Prop :=
  ∃ o : List Int, Kd.R (Kd.int .i64) 3 wr w0.heap.size (fun _ => True) v o ∧ o ++ mergedI (a.drop k) (b.drop i) = mergedI a b ∧ o.length = k + i ∧ Below w0.heap.size w0 wr
set_option maxRecDepth 100000 in
set_option maxHeartbeats 4000000 in
theorem merged78_calls (A B : Option Addr) (c d : Nat) (a b : List Int) (w : World) (hA : Kd.C (Kd.int .i64) w A a.length a) (hc : a.length ≤ c) (hB : Kd.C (Kd.int .i64) w B b.length b) (hd : b.length ≤ d) (hl : a.length + b.length ≤ 100000) :
    Calls Try.prog 19 #[.slice A a.length c, .slice B b.length d] w fun e w' => ∃ u, e = .returned u ∧ Kd.R (Kd.int .i64) 3 w' w.heap.size (fun _ => True) u (mergedI a b) ∧ Below w.heap.size w w' := by
  have HA := Aside0.mk hA
  have HB := Aside0.mk hB
  clear hA hB
  go_enter Try.func19, Try.ntmps19
  go_wp2
  go_loopw [5, 6, 7] (fun v i k wr => ∃ kk ii : Nat, kk ≤ a.length ∧ ii ≤ b.length ∧ k = .int .i64 kk ∧ i = .int .i64 ii ∧ Aside0 (MgS w wr v a b kk ii)) (fun _ _ k _ => a.length - (intOf k).toNat)
  case atStart => exact ⟨0, 0, Nat.zero_le _, Nat.zero_le _, rfl, rfl, ⟨[], Kd.R_nil _ _ _ _ _, by simp, rfl, Below.refl _ _⟩⟩
  case round =>
    obtain ⟨kk, ii, hkk, hii, rfl, rfl, HM⟩ := hrel
    obtain ⟨o, ho, he, hol, hb⟩ := HM.out
    obtain ⟨Ao, co, hu5, hco, _⟩ := Kd.R_reads ho
    subst hu5
    by_cases hlt : kk < a.length
    · have t0 : decide (kk < a.length) = true := by simpa using hlt
      have HMM := HM
      clear ho he hol hb HM hco
      go_wp2
      go_loopw [5, 6] (fun v i w2 => ∃ jj : Nat, jj ≤ b.length ∧ i = .int .i64 jj ∧ Aside0 (MgS w w2 v a b kk jj)) (fun _ i _ => b.length - (intOf i).toNat)
      case atStart => exact ⟨ii, hii, rfl, HMM⟩
      case round =>
        clear HMM
        obtain ⟨jj, hjj, rfl, HM⟩ := hrel
        obtain ⟨o2, ho, he, hol, hb⟩ := HM.out
        obtain ⟨Ao2, co2, hu5, hco, _⟩ := Kd.R_reads ho
        subst hu5
        obtain ⟨ada, e1, hxa⟩ := Kd.at_int (Kd.C_below HA.out hb) (kk : Int) (by omega) (by omega)
        subst e1
        have hra : rd a (kk : Int) = a.getD kk 0 := by unfold rd; rw [Int.toNat_natCast]
        rw [Int.toNat_natCast, hra] at hxa
        have HDA := Aside0.mk (drop_getD hlt)
        generalize a.getD kk 0 = x at *
        have HOL : Aside0 (o2.length ≤ 100000 ∧ o2.length = kk + jj) := ⟨by omega⟩
        have HE := Aside0.mk he
        have HO : Aside0 (∀ n, Kd.R (Kd.int .i64) 3 (wr.drewN n) w.heap.size (fun _ => True) (.slice Ao2 o2.length co2) o2) := ⟨fun n => Kd.R_drewN ho n⟩
        have HBW : Aside0 (∀ n, Below w.heap.size w (wr.drewN n)) := ⟨fun n => pw_below_drewN hb n⟩
        clear hra he hol hco HM
        by_cases hj : jj < b.length
        · obtain ⟨adb, e2, hxb⟩ := Kd.at_int (Kd.C_below HB.out hb) (jj : Int) (by omega) (by omega)
          subst e2
          have hrb : rd b (jj : Int) = b.getD jj 0 := by unfold rd; rw [Int.toNat_natCast]
          rw [Int.toNat_natCast, hrb] at hxb
          have HDB := Aside0.mk (drop_getD hj)
          clear hrb ho hb
          have tj : decide (jj < b.length) = true := by simpa using hj
          by_cases hyx : b.getD jj 0 < x
          · generalize b.getD jj 0 = y at *
            have HYX := Aside0.mk hyx
            have ty : decide (y < x) = true := by simpa using hyx
            clear hyx
            go_wp2
            go_quiet (fail)
            go_wp2_with (refine Kd.R_append (Kd.int .i64) (w0 := w) w.heap.size rfl _ _ 22 3 (.int .i64 0) 8 rfl Try.underlying22 infoQ8 rfl (by decide) (by decide) (.slice Ao2 o2.length co2) o2 y [.int .i64 y] (fun _ => True) (fun _ => False) rfl rfl rfl (fun _ h => h.elim) (fun _ _ => trivial) (HO.out _) (HBW.out _) (HBW.out _).size (by have := HOL.out; omega) ?_; intro v3 w3 hv3 hb3 hg3 hat3; obtain ⟨A3, c3, rfl, hc3, _⟩ := Kd.R_reads hv3; have HV3 := Aside0.mk hv3; have HB3 := Aside0.mk hb3; clear hv3 hb3 hg3 hat3)
            have hx1 := HV3.out
            simp only [List.length_append, List.length_cons, List.length_nil, Nat.zero_add] at hx1
            refine ⟨?rel, ?measure⟩
            case rel => exact ⟨jj + 1, by omega, by go_num, ⟨o2 ++ [y], hx1, (by
              have h := HE.out
              rw [HDA.out, HDB.out, mergedI_gt HYX.out] at h
              rw [HDA.out, List.append_assoc]
              exact h), (by rw [List.length_append, HOL.out.2]; simp; omega), HB3.out⟩⟩
            case measure => simp [intOf]; omega
          · generalize hy : b.getD jj 0 = y at *
            have HYX := Aside0.mk hyx
            have HY := Aside0.mk hy
            have ty : decide (y < x) = false := by simpa using hyx
            clear hyx hy
            go_wp2
            go_quiet (fail)
            go_wp2_with (refine Kd.R_append (Kd.int .i64) (w0 := w) w.heap.size rfl _ _ 22 3 (.int .i64 0) 8 rfl Try.underlying22 infoQ8 rfl (by decide) (by decide) (.slice Ao2 o2.length co2) o2 x [.int .i64 x] (fun _ => True) (fun _ => False) rfl rfl rfl (fun _ h => h.elim) (fun _ _ => trivial) (HO.out _) (HBW.out _) (HBW.out _).size (by have := HOL.out; omega) ?_; intro v3 w3 hv3 hb3 hg3 hat3; obtain ⟨A3, c3, rfl, hc3, _⟩ := Kd.R_reads hv3; have HV3 := Aside0.mk hv3; have HB3 := Aside0.mk hb3; clear hv3 hb3 hg3 hat3)
            have hx1 := HV3.out
            simp only [List.length_append, List.length_cons, List.length_nil, Nat.zero_add] at hx1
            refine ⟨?rel, ?measure⟩
            case rel => exact ⟨kk + 1, jj, by omega, by omega, by go_num, rfl, ⟨o2 ++ [x], hx1, (by
              have h := HE.out
              rw [HDA.out, mergedI_le (.inr (by rw [HDB.out]; simpa using HYX.out))] at h
              rw [List.append_assoc]
              exact h), (by rw [List.length_append, HOL.out.2]; simp; omega), HB3.out⟩⟩
            case measure => simp [intOf]; omega
        · obtain rfl : jj = b.length := by omega
          have tj : decide (b.length < b.length) = false := by simp
          clear ho hb
          go_wp2
          go_quiet (fail)
          go_wp2_with (refine Kd.R_append (Kd.int .i64) (w0 := w) w.heap.size rfl _ _ 22 3 (.int .i64 0) 8 rfl Try.underlying22 infoQ8 rfl (by decide) (by decide) (.slice Ao2 o2.length co2) o2 x [.int .i64 x] (fun _ => True) (fun _ => False) rfl rfl rfl (fun _ h => h.elim) (fun _ _ => trivial) (HO.out _) (HBW.out _) (HBW.out _).size (by have := HOL.out; omega) ?_; intro v3 w3 hv3 hb3 hg3 hat3; obtain ⟨A3, c3, rfl, hc3, _⟩ := Kd.R_reads hv3; have HV3 := Aside0.mk hv3; have HB3 := Aside0.mk hb3; clear hv3 hb3 hg3 hat3)
          have hx1 := HV3.out
          simp only [List.length_append, List.length_cons, List.length_nil, Nat.zero_add] at hx1
          refine ⟨?rel, ?measure⟩
          case rel => exact ⟨kk + 1, b.length, by omega, by omega, by go_num, rfl, ⟨o2 ++ [x], hx1, (by
            have h := HE.out
            rw [HDA.out, mergedI_le (.inl List.drop_length)] at h
            rw [List.append_assoc]
            exact h), (by rw [List.length_append, HOL.out.2]; simp; omega), HB3.out⟩⟩
          case measure => simp [intOf]; omega
    · obtain rfl : kk = a.length := by omega
      have t0 : decide (a.length < a.length) = false := by simp
      have HO := Aside0.mk ho
      have HBW := Aside0.mk hb
      have HE : Aside0 (o ++ b.drop ii = mergedI a b) := ⟨by rw [List.drop_length, mergedI_nil] at he; exact he⟩
      have HL3 : Aside0 ((b.drop ii).length = b.length - ii) := ⟨by simp⟩
      clear he ho hb HM
      by_cases hend : ii < b.length
      · obtain ⟨adb, e2, _⟩ := Kd.at_int (Kd.C_below HB.out HBW.out) (ii : Int) (by omega) (by omega)
        subst e2
        have HDR : Aside0 ((Kd.int .i64).C wr (some (adb.add ii)) (b.length - ii) (b.drop ii)) := ⟨by
          have h := Kd.C_below (Kd.C_drop HB.out hii hd) HBW.out
          rw [if_neg (by omega), HL3.out] at h
          simpa [Kd.int, Kd.scalar] using h⟩
        go_wp2_with (refine Kd.R_append_row (Value.int .i64) 0 (w0 := w) w.heap.size rfl _ _ 22 3 (.int .i64 0) 8 rfl Try.underlying22 infoQ8 rfl (by decide) (.slice Ao o.length co) o (b.drop ii) _ _ _ (fun _ => True) rfl rfl (fun _ _ => trivial) HO.out HDR.out HBW.out HBW.out.size (by omega) ?_; intro v5 w6 hv5 hb5 hg5 hat5; obtain ⟨A5, c5, rfl, hc5, _⟩ := Kd.R_reads hv5; have HV5 := Aside0.mk hv5; have HB5 := Aside0.mk hb5; clear hv5 hb5 hg5 hat5)
        all_goals go_ret
        all_goals
          have h := HV5.out
          rw [List.length_append, hol, HL3.out, HE.out] at h
          exact ⟨_, rfl, (by first | exact h | (rw [Nat.sub_self, Nat.add_zero] at h; exact h)), HB5.out⟩
      · obtain rfl : ii = b.length := by omega
        have HDR : Aside0 (∀ AX : Option Addr, (Kd.int .i64).C wr AX 0 (b.drop b.length)) := ⟨fun AX => by
          rw [List.drop_length]
          exact ⟨rfl, by simp, fun h => absurd h (Nat.lt_irrefl _)⟩⟩
        go_wp2_with (refine Kd.R_append_row (Value.int .i64) 0 (w0 := w) w.heap.size rfl _ _ 22 3 (.int .i64 0) 8 rfl Try.underlying22 infoQ8 rfl (by decide) (.slice Ao o.length co) o (b.drop b.length) _ _ _ (fun _ => True) rfl rfl (fun _ _ => trivial) HO.out (HDR.out _) HBW.out HBW.out.size (by omega) ?_; intro v5 w6 hv5 hb5 hg5 hat5; obtain ⟨A5, c5, rfl, hc5, _⟩ := Kd.R_reads hv5; have HV5 := Aside0.mk hv5; have HB5 := Aside0.mk hb5; clear hv5 hb5 hg5 hat5)
        all_goals go_ret
        all_goals
          have h := HV5.out
          rw [List.length_append, hol, HL3.out, HE.out] at h
          exact ⟨_, rfl, (by first | exact h | (rw [Nat.sub_self, Nat.add_zero] at h; exact h)), HB5.out⟩
end Go.Proofs.Ytjajkgemjgehiaa.Hw
