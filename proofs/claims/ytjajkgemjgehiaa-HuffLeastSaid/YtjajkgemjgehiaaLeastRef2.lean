import Derived.Test.YtjajkgemjgehiaaLeastRef
import Derived.BigRegion
/- The document's put, merged and Least, walked. -/
namespace Go.Proofs.Ytjajkgemjgehiaa.Hw
open Go.RowKit Go.Proofs.YtjajkgemjgehiaaW.PrintWords Go.Proofs.YtjajkgemjgehiaaW.PrintLast Go.Proofs.YtjajkgemjgehiaaW.PrintMore Go.Proofs.Ytjajkgemjgehiaa.PH
set_option linter.unusedVariables false
set_option linter.unusedSimpArgs false
/-- A number in its place in a rising list. -/
def putL : List Int → Int → List Int
  | [], x => [x]
  | y :: l, x => if y ≤ x then y :: putL l x else x :: y :: l
/-- Where it goes. -/
def putAt : List Int → Int → Nat
  | [], _ => 0
  | y :: l, x => if y ≤ x then putAt l x + 1 else 0
theorem putAt_le : ∀ (l : List Int) (x : Int), putAt l x ≤ l.length
  | [], _ => Nat.le_refl _
  | y :: l, x => by unfold putAt; split <;> simp [putAt_le l x]
theorem putL_at : ∀ (l : List Int) (x : Int), putL l x = l.take (putAt l x) ++ x :: l.drop (putAt l x)
  | [], _ => rfl
  | y :: l, x => by
    unfold putL putAt
    split
    · rw [putL_at l x]; simp
    · simp
theorem putAt_lt : ∀ (l : List Int) (x : Int) (k : Nat), k < putAt l x → l.getD k 0 ≤ x
  | [], _, k, h => by simp [putAt] at h
  | y :: l, x, k, h => by
    unfold putAt at h
    split at h
    · cases k with
      | zero => simpa using ‹y ≤ x›
      | succ k => simpa using putAt_lt l x k (by omega)
    · omega
theorem putAt_stop : ∀ (l : List Int) (x : Int), putAt l x < l.length → ¬ l.getD (putAt l x) 0 ≤ x
  | [], _, h => by simp at h
  | y :: l, x, h => by
    unfold putAt at h ⊢
    split
    · rw [if_pos ‹_›] at h
      have := putAt_stop l x (by simpa using h)
      simpa using this
    · simpa using ‹¬ y ≤ x›
theorem infoQ8 : (Try.prog.info? 3).map (fun i => (i.zero, i.size, i.bytes)) = some (some (.int .i64 0), 1, 8) := by kernel_rfl
set_option maxRecDepth 100000 in
set_option maxHeartbeats 4000000 in
theorem put77_calls (A : Option Addr) (c : Nat) (l : List Int) (x : Int) (w : World) (hC : Kd.C (Kd.int .i64) w A l.length l) (hc : l.length ≤ c) (hl : l.length ≤ 512) :
    Calls Try.prog 18 #[.slice A l.length c, .int .i64 x] w fun e w' => ∃ u, e = .returned u ∧ Kd.R (Kd.int .i64) 3 w' w.heap.size (fun _ => True) u (putL l x) ∧ Below w.heap.size w w' := by
  have HC := Aside0.mk hC
  clear hC
  obtain ⟨a, ha⟩ : ∃ a, a = putAt l x := ⟨_, rfl⟩
  have hal : a ≤ l.length := by rw [ha]; exact putAt_le l x
  have HLT : Aside0 (∀ k, k < a → l.getD k 0 ≤ x) := ⟨by rw [ha]; exact putAt_lt l x⟩
  have HST : Aside0 (a < l.length → ¬ l.getD a 0 ≤ x) := ⟨by rw [ha]; exact putAt_stop l x⟩
  have HPL : Aside0 (putL l x = (([] ++ l.take a) ++ [x]) ++ l.drop a) := ⟨by rw [ha, putL_at]; simp⟩
  clear ha
  go_enter Try.func18, Try.ntmps18
  go_wp2
  go_loopw [5] (fun i wr => ∃ k : Nat, k ≤ a ∧ i = .int .i64 k ∧ wr = w) (fun i _ => a - (intOf i).toNat)
  case atStart => exact ⟨0, Nat.zero_le _, rfl, rfl⟩
  case round =>
    obtain ⟨k, hk, rfl, rfl⟩ := hrel
    by_cases hlt : k < a
    · obtain ⟨ad, e1, hx⟩ := Kd.at_int HC.out (k : Int) (by omega) (by omega)
      subst e1
      have hrd : rd l (k : Int) = l.getD k 0 := by unfold rd; rw [Int.toNat_natCast]
      rw [Int.toNat_natCast, hrd] at hx
      have hle := HLT.out k hlt
      clear hrd
      generalize l.getD k 0 = y at *
      have t0 : decide (y ≤ x) = true := by simpa using hle
      have t1 : decide (k < l.length) = true := by simp; omega
      clear hle
      go_wp2
      refine ⟨?rel, ?measure⟩
      case rel => exact ⟨k + 1, by omega, by go_num, by first | rfl | trivial⟩
      case measure => simp [intOf]; omega
    · obtain rfl : k = a := by omega
      have HT1 : Aside0 ((Kd.int .i64).C wr A (l.take k).length (l.take k)) := ⟨Kd.C_take HC.out hal⟩
      have hlt1 : (l.take k).length = k := by rw [List.length_take]; omega
      have HL1 : Aside0 (([] ++ l.take k).length = k) := ⟨by rw [List.nil_append]; exact hlt1⟩
      have HL2 : Aside0 ((([] ++ l.take k) ++ [x]).length = k + 1) := ⟨by rw [List.length_append, HL1.out]; rfl⟩
      have HL3 : Aside0 ((l.drop k).length = l.length - k) := ⟨by simp⟩
      by_cases hend : k < l.length
      · obtain ⟨ad, e1, hx⟩ := Kd.at_int HC.out (k : Int) (by omega) (by omega)
        subst e1
        have hrd : rd l (k : Int) = l.getD k 0 := by unfold rd; rw [Int.toNat_natCast]
        rw [Int.toNat_natCast, hrd] at hx
        have hle := HST.out hend
        clear hrd
        generalize l.getD k 0 = y at *
        have t0 : decide (y ≤ x) = false := by simpa using hle
        have t1 : decide (k < l.length) = true := by simp; omega
        clear hle
        rw [hlt1] at HT1
        have HDR : Aside0 (∀ w', Below wr.heap.size wr w' → (Kd.int .i64).C w' (some (ad.add k)) (l.length - k) (l.drop k)) := ⟨fun w' hb' => by
          have h := Kd.C_below (Kd.C_drop HC.out hal hc) hb'
          rw [if_neg (by omega), HL3.out] at h
          simpa [Kd.int, Kd.scalar] using h⟩
        go_wp2_with (first
          | (refine Kd.R_append_row (Value.int .i64) 0 (w0 := wr) wr.heap.size rfl _ _ 22 3 (.int .i64 0) 8 rfl Try.underlying22 infoQ8 rfl (by decide) (.slice none 0 0) [] (l.take k) (some ad) k c (fun _ => True) rfl rfl (fun _ _ => trivial) (Kd.R_nil _ _ _ _ _) HT1.out (Below.refl _ _) (Nat.le_refl _) (by simp; omega) ?_; intro v1 w1 hv1 hb1 hg1 hat1; obtain ⟨A2, c2, rfl, hc2, _⟩ := Kd.R_reads hv1; rw [HL1.out] at hv1; have HV1 := Aside0.mk hv1; have HB1 := Aside0.mk hb1; clear hv1 hb1 hg1 hat1)
          | (refine Kd.R_append (Kd.int .i64) (w0 := wr) wr.heap.size rfl _ _ 22 3 (.int .i64 0) 8 rfl Try.underlying22 infoQ8 rfl (by decide) (by decide) (.slice A2 k c2) ([] ++ l.take k) x [.int .i64 x] (fun _ => True) (fun _ => False) rfl rfl rfl (fun _ h => h.elim) (fun _ _ => trivial) HV1.out HB1.out HB1.out.size (by rw [List.nil_append, hlt1]; omega) ?_; intro v3 w3 hv3 hb3 hg3 hat3; obtain ⟨A3, c3, rfl, hc3, _⟩ := Kd.R_reads hv3; rw [HL2.out] at hv3; have HV3 := Aside0.mk hv3; have HB3 := Aside0.mk hb3; clear hv3 hb3 hg3 hat3)
          | (refine Kd.R_append_row (Value.int .i64) 0 (w0 := wr) wr.heap.size rfl _ _ 22 3 (.int .i64 0) 8 rfl Try.underlying22 infoQ8 rfl (by decide) (.slice A3 (k + 1) c3) (([] ++ l.take k) ++ [x]) (l.drop k) _ _ _ (fun _ => True) rfl rfl (fun _ _ => trivial) HV3.out (HDR.out _ HB3.out) HB3.out HB3.out.size (by rw [HL2.out]; omega) ?_; intro v5 w6 hv5 hb5 hg5 hat5; obtain ⟨A5, c5, rfl, hc5, _⟩ := Kd.R_reads hv5; have HV5 := Aside0.mk hv5; have HB5 := Aside0.mk hb5; clear hv5 hb5 hg5 hat5))
        go_ret
        have h := HV5.out
        have e : ((([] ++ l.take k) ++ [x]) ++ l.drop k).length = k + (l.length - k + 1) := by rw [List.length_append, HL2.out, HL3.out]; omega
        rw [e, ← HPL.out] at h
        exact ⟨_, rfl, h, HB5.out⟩
      · obtain rfl : k = l.length := by omega
        have t1 : decide (l.length < l.length) = false := by simp
        rw [hlt1] at HT1
        have HDR : Aside0 (∀ (AX : Option Addr) w', Below wr.heap.size wr w' → (Kd.int .i64).C w' AX 0 (l.drop l.length)) := ⟨fun AX w' hb' => by
          rw [List.drop_length]
          exact ⟨rfl, by simp, fun h => absurd h (Nat.lt_irrefl _)⟩⟩
        go_wp2_with (first
          | (refine Kd.R_append_row (Value.int .i64) 0 (w0 := wr) wr.heap.size rfl _ _ 22 3 (.int .i64 0) 8 rfl Try.underlying22 infoQ8 rfl (by decide) (.slice none 0 0) [] (l.take l.length) A l.length c (fun _ => True) rfl rfl (fun _ _ => trivial) (Kd.R_nil _ _ _ _ _) HT1.out (Below.refl _ _) (Nat.le_refl _) (by simp; omega) ?_; intro v1 w1 hv1 hb1 hg1 hat1; obtain ⟨A2, c2, rfl, hc2, _⟩ := Kd.R_reads hv1; rw [HL1.out] at hv1; have HV1 := Aside0.mk hv1; have HB1 := Aside0.mk hb1; clear hv1 hb1 hg1 hat1)
          | (refine Kd.R_append (Kd.int .i64) (w0 := wr) wr.heap.size rfl _ _ 22 3 (.int .i64 0) 8 rfl Try.underlying22 infoQ8 rfl (by decide) (by decide) (.slice A2 l.length c2) ([] ++ l.take l.length) x [.int .i64 x] (fun _ => True) (fun _ => False) rfl rfl rfl (fun _ h => h.elim) (fun _ _ => trivial) HV1.out HB1.out HB1.out.size (by rw [List.nil_append, hlt1]; omega) ?_; intro v3 w3 hv3 hb3 hg3 hat3; obtain ⟨A3, c3, rfl, hc3, _⟩ := Kd.R_reads hv3; rw [HL2.out] at hv3; have HV3 := Aside0.mk hv3; have HB3 := Aside0.mk hb3; clear hv3 hb3 hg3 hat3)
          | (refine Kd.R_append_row (Value.int .i64) 0 (w0 := wr) wr.heap.size rfl _ _ 22 3 (.int .i64 0) 8 rfl Try.underlying22 infoQ8 rfl (by decide) (.slice A3 (l.length + 1) c3) (([] ++ l.take l.length) ++ [x]) (l.drop l.length) _ _ _ (fun _ => True) rfl rfl (fun _ _ => trivial) HV3.out (HDR.out _ _ HB3.out) HB3.out HB3.out.size (by rw [HL2.out]; omega) ?_; intro v5 w6 hv5 hb5 hg5 hat5; obtain ⟨A5, c5, rfl, hc5, _⟩ := Kd.R_reads hv5; have HV5 := Aside0.mk hv5; have HB5 := Aside0.mk hb5; clear hv5 hb5 hg5 hat5))
        all_goals go_ret
        all_goals
          have h := HV5.out
          have e : ((([] ++ l.take l.length) ++ [x]) ++ l.drop l.length).length = l.length + 1 := by rw [List.length_append, HL2.out, HL3.out]; omega
          rw [e, ← HPL.out] at h
          exact ⟨_, rfl, h, HB5.out⟩
end Go.Proofs.Ytjajkgemjgehiaa.Hw
