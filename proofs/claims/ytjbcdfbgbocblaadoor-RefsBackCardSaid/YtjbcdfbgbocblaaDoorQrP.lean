import Derived.Test.YtjbcdfbgbocblaaDoorShS
/- Names that stand without quotes; the reader's questions of a byte. -/
namespace Go.Proofs.YtjbcdfbgbocblaaDoor.CP
def isL (c : Nat) : Bool := decide ((65 ≤ c ∧ c ≤ 90) ∨ (97 ≤ c ∧ c ≤ 122) ∨ c = 95)
def isD (c : Nat) : Bool := decide (48 ≤ c ∧ c ≤ 57)
def okAt (c j : Nat) : Bool := isL c || (decide (j ≠ 0) && isD c)
/-- A name that needs no quotes. -/
def plB (s : ByteArray) : Bool := decide (0 < s.size) && (List.range s.size).all fun j => okAt (s[j]!).toNat j
theorem plB_no {s : ByteArray} {j : Nat} (h : j < s.size) (hn : okAt (s[j]).toNat j = false) : plB s = false := by
  unfold plB
  rw [Bool.and_eq_false_iff]
  right
  rw [List.all_eq_false]
  exact ⟨j, List.mem_range.2 h, by rw [getElem!_pos s j h, hn]; decide⟩
theorem plB_yes {s : ByteArray} (h0 : 0 < s.size) (h : ∀ j, (hj : j < s.size) → okAt (s[j]).toNat j = true) : plB s = true := by
  unfold plB
  rw [Bool.and_eq_true, List.all_eq_true]
  exact ⟨decide_eq_true h0, fun j hj => by have hj' := List.mem_range.1 hj; rw [getElem!_pos s j hj']; exact h j hj'⟩
theorem plB_at {s : ByteArray} (h : plB s = true) : 0 < s.size ∧ ∀ j, (hj : j < s.size) → okAt (s[j]).toNat j = true := by
  unfold plB at h
  rw [Bool.and_eq_true, List.all_eq_true] at h
  exact ⟨of_decide_eq_true h.1, fun j hj => by have := h.2 j (List.mem_range.2 hj); rwa [getElem!_pos s j hj] at this⟩
theorem plB_nil {s : ByteArray} (h : s.size = 0) : plB s = false := by unfold plB; rw [decide_eq_false (by omega)]; rfl
end Go.Proofs.YtjbcdfbgbocblaaDoor.CP
namespace Go.Proofs.YtjbcdfbgbocblaaDoor.Hw
open Go.RowKit Go.Proofs.YtjbcdfbgbocblaaDoorW.PrintWords Go.Proofs.YtjbcdfbgbocblaaDoorW.PrintLast Go.Proofs.YtjbcdfbgbocblaaDoorW.PrintMore Go.Proofs.YtjbcdfbgbocblaaDoor.PH Go.Proofs.YtjbcdfbgbocblaaDoor.CP
set_option linter.unusedVariables false
set_option linter.unusedSimpArgs false
set_option maxRecDepth 100000 in
set_option maxHeartbeats 4000000 in
theorem plain_calls (s : ByteArray) (w : World) (hs : s.size ≤ 140737488351232) : Calls Tryd.prog 40 #[.string s] w fun e w' => e = .returned (.bool (plB s)) ∧ w = w' := by
  go_enter Tryd.func40, Tryd.ntmps40
  go_wp2
  go_loopw [8] (fun i wr => ∃ j : Nat, j ≤ s.size ∧ i = .int .i64 j ∧ w = wr ∧ Aside0 (∀ q, (hq : q < s.size) → q < j → okAt (s[q]).toNat q = true)) (fun i _ => s.size - (intOf i).toNat)
  case atStart => exact ⟨0, Nat.zero_le _, rfl, rfl, ⟨fun q _ h => absurd h (Nat.not_lt_zero _)⟩⟩
  case round =>
    obtain ⟨j, hj, rfl, rfl, HO⟩ := hrel
    by_cases hlt : j < s.size
    · have HN : Aside0 (okAt (s[j]).toNat j = true → ∀ q, (hq : q < s.size) → q < j + 1 → okAt (s[q]).toNat q = true) := ⟨fun h q hq hqj => by
        by_cases e : q = j
        · subst e; exact h
        · exact HO.out q hq (by omega)⟩
      have HF : Aside0 (okAt (s[j]).toNat j = false → plB s = false) := ⟨fun h => plB_no hlt h⟩
      have hb : (s[j]).toNat < 256 := UInt8.toNat_lt _
      have hcl : (0 ≤ (s[j]).toNat ∧ (s[j]).toNat ≤ 47) ∨ (48 ≤ (s[j]).toNat ∧ (s[j]).toNat ≤ 57) ∨ (58 ≤ (s[j]).toNat ∧ (s[j]).toNat ≤ 64) ∨ (65 ≤ (s[j]).toNat ∧ (s[j]).toNat ≤ 90) ∨ (91 ≤ (s[j]).toNat ∧ (s[j]).toNat ≤ 94) ∨ (95 ≤ (s[j]).toNat ∧ (s[j]).toNat ≤ 95) ∨ (96 ≤ (s[j]).toNat ∧ (s[j]).toNat ≤ 96) ∨ (97 ≤ (s[j]).toNat ∧ (s[j]).toNat ≤ 122) ∨ (123 ≤ (s[j]).toNat ∧ (s[j]).toNat ≤ 255) := by omega
      rcases hcl with ⟨k1, k2⟩ | ⟨k1, k2⟩ | ⟨k1, k2⟩ | ⟨k1, k2⟩ | ⟨k1, k2⟩ | ⟨k1, k2⟩ | ⟨k1, k2⟩ | ⟨k1, k2⟩ | ⟨k1, k2⟩
      ·
        have t1 : decide (65 ≤ ((s[j]).toNat : Int)) = false := decide_eq_false (by omega)
        have t2 : decide (((s[j]).toNat : Int) ≤ 90) = true := decide_eq_true (by omega)
        have t3 : decide (97 ≤ ((s[j]).toNat : Int)) = false := decide_eq_false (by omega)
        have t4 : decide (((s[j]).toNat : Int) ≤ 122) = true := decide_eq_true (by omega)
        have t5 : decide (((s[j]).toNat : Int) < 48) = true := decide_eq_true (by omega)
        have t6 : decide (57 < ((s[j]).toNat : Int)) = false := decide_eq_false (by omega)
        have t7 : (((s[j]).toNat : Int) == 95) = false := by simp; omega
        have n1 : ¬ 65 ≤ ((s[j]).toNat : Int) := by omega
        have n2 : ¬ 90 < ((s[j]).toNat : Int) := by omega
        have n3 : ¬ 97 ≤ ((s[j]).toNat : Int) := by omega
        have n4 : ¬ 122 < ((s[j]).toNat : Int) := by omega
        have n5 : ((s[j]).toNat : Int) < 48 := by omega
        have n6 : ¬ 57 < ((s[j]).toNat : Int) := by omega
        by_cases hz : j = 0
        · have hz2 := Aside0.mk hz
          have z1 : ((j : Int) == 0) = true := by simp; omega
          have z2 : (j == 0) = true := by simp; omega
          have HX : Aside0 (okAt (s[j]).toNat j = false) := ⟨by unfold okAt isL isD; simp; omega⟩
          clear k1 k2 hb hz
          go_wp2
          go_ret
          exact ⟨by rw [HF.out HX.out]; rfl, rfl⟩
        · have hz2 := Aside0.mk hz
          have z1 : ((j : Int) == 0) = false := by simp; omega
          have z2 : (j == 0) = false := by simp; omega
          have HX : Aside0 (okAt (s[j]).toNat j = false) := ⟨by unfold okAt isL isD; simp; omega⟩
          clear k1 k2 hb hz
          go_wp2
          go_ret
          exact ⟨by rw [HF.out HX.out]; rfl, rfl⟩
      ·
        have t1 : decide (65 ≤ ((s[j]).toNat : Int)) = false := decide_eq_false (by omega)
        have t2 : decide (((s[j]).toNat : Int) ≤ 90) = true := decide_eq_true (by omega)
        have t3 : decide (97 ≤ ((s[j]).toNat : Int)) = false := decide_eq_false (by omega)
        have t4 : decide (((s[j]).toNat : Int) ≤ 122) = true := decide_eq_true (by omega)
        have t5 : decide (((s[j]).toNat : Int) < 48) = false := decide_eq_false (by omega)
        have t6 : decide (57 < ((s[j]).toNat : Int)) = false := decide_eq_false (by omega)
        have t7 : (((s[j]).toNat : Int) == 95) = false := by simp; omega
        have n1 : ¬ 65 ≤ ((s[j]).toNat : Int) := by omega
        have n2 : ¬ 90 < ((s[j]).toNat : Int) := by omega
        have n3 : ¬ 97 ≤ ((s[j]).toNat : Int) := by omega
        have n4 : ¬ 122 < ((s[j]).toNat : Int) := by omega
        have n5 : 48 ≤ ((s[j]).toNat : Int) := by omega
        have n6 : ¬ 57 < ((s[j]).toNat : Int) := by omega
        by_cases hz : j = 0
        · have hz2 := Aside0.mk hz
          have z1 : ((j : Int) == 0) = true := by simp; omega
          have z2 : (j == 0) = true := by simp; omega
          have HX : Aside0 (okAt (s[j]).toNat j = false) := ⟨by unfold okAt isL isD; simp; omega⟩
          clear k1 k2 hb hz
          go_wp2
          go_ret
          exact ⟨by rw [HF.out HX.out]; rfl, rfl⟩
        · have hz2 := Aside0.mk hz
          have z1 : ((j : Int) == 0) = false := by simp; omega
          have z2 : (j == 0) = false := by simp; omega
          have HX : Aside0 (okAt (s[j]).toNat j = true) := ⟨by unfold okAt isL isD; simp; omega⟩
          clear k1 k2 hb hz
          go_wp2
          go_roundw
          case rel => exact ⟨j + 1, by omega, by go_num, by first | rfl | trivial, ⟨HN.out HX.out⟩⟩
          case measure => simp only [intOf]; omega
      ·
        have t1 : decide (65 ≤ ((s[j]).toNat : Int)) = false := decide_eq_false (by omega)
        have t2 : decide (((s[j]).toNat : Int) ≤ 90) = true := decide_eq_true (by omega)
        have t3 : decide (97 ≤ ((s[j]).toNat : Int)) = false := decide_eq_false (by omega)
        have t4 : decide (((s[j]).toNat : Int) ≤ 122) = true := decide_eq_true (by omega)
        have t5 : decide (((s[j]).toNat : Int) < 48) = false := decide_eq_false (by omega)
        have t6 : decide (57 < ((s[j]).toNat : Int)) = true := decide_eq_true (by omega)
        have t7 : (((s[j]).toNat : Int) == 95) = false := by simp; omega
        have n1 : ¬ 65 ≤ ((s[j]).toNat : Int) := by omega
        have n2 : ¬ 90 < ((s[j]).toNat : Int) := by omega
        have n3 : ¬ 97 ≤ ((s[j]).toNat : Int) := by omega
        have n4 : ¬ 122 < ((s[j]).toNat : Int) := by omega
        have n5 : 48 ≤ ((s[j]).toNat : Int) := by omega
        have n6 : 57 < ((s[j]).toNat : Int) := by omega
        by_cases hz : j = 0
        · have hz2 := Aside0.mk hz
          have z1 : ((j : Int) == 0) = true := by simp; omega
          have z2 : (j == 0) = true := by simp; omega
          have HX : Aside0 (okAt (s[j]).toNat j = false) := ⟨by unfold okAt isL isD; simp; omega⟩
          clear k1 k2 hb hz
          go_wp2
          go_ret
          exact ⟨by rw [HF.out HX.out]; rfl, rfl⟩
        · have hz2 := Aside0.mk hz
          have z1 : ((j : Int) == 0) = false := by simp; omega
          have z2 : (j == 0) = false := by simp; omega
          have HX : Aside0 (okAt (s[j]).toNat j = false) := ⟨by unfold okAt isL isD; simp; omega⟩
          clear k1 k2 hb hz
          go_wp2
          go_ret
          exact ⟨by rw [HF.out HX.out]; rfl, rfl⟩
      ·
        have t1 : decide (65 ≤ ((s[j]).toNat : Int)) = true := decide_eq_true (by omega)
        have t2 : decide (((s[j]).toNat : Int) ≤ 90) = true := decide_eq_true (by omega)
        have t3 : decide (97 ≤ ((s[j]).toNat : Int)) = false := decide_eq_false (by omega)
        have t4 : decide (((s[j]).toNat : Int) ≤ 122) = true := decide_eq_true (by omega)
        have t5 : decide (((s[j]).toNat : Int) < 48) = false := decide_eq_false (by omega)
        have t6 : decide (57 < ((s[j]).toNat : Int)) = true := decide_eq_true (by omega)
        have t7 : (((s[j]).toNat : Int) == 95) = false := by simp; omega
        have n1 : 65 ≤ ((s[j]).toNat : Int) := by omega
        have n2 : ¬ 90 < ((s[j]).toNat : Int) := by omega
        have n3 : ¬ 97 ≤ ((s[j]).toNat : Int) := by omega
        have n4 : ¬ 122 < ((s[j]).toNat : Int) := by omega
        have n5 : 48 ≤ ((s[j]).toNat : Int) := by omega
        have n6 : 57 < ((s[j]).toNat : Int) := by omega
        have HX : Aside0 (okAt (s[j]).toNat j = true) := ⟨by unfold okAt isL isD; simp; omega⟩
        clear k1 k2 hb
        go_wp2
        go_roundw
        case rel => exact ⟨j + 1, by omega, by go_num, by first | rfl | trivial, ⟨HN.out HX.out⟩⟩
        case measure => simp only [intOf]; omega
      ·
        have t1 : decide (65 ≤ ((s[j]).toNat : Int)) = true := decide_eq_true (by omega)
        have t2 : decide (((s[j]).toNat : Int) ≤ 90) = false := decide_eq_false (by omega)
        have t3 : decide (97 ≤ ((s[j]).toNat : Int)) = false := decide_eq_false (by omega)
        have t4 : decide (((s[j]).toNat : Int) ≤ 122) = true := decide_eq_true (by omega)
        have t5 : decide (((s[j]).toNat : Int) < 48) = false := decide_eq_false (by omega)
        have t6 : decide (57 < ((s[j]).toNat : Int)) = true := decide_eq_true (by omega)
        have t7 : (((s[j]).toNat : Int) == 95) = false := by simp; omega
        have n1 : 65 ≤ ((s[j]).toNat : Int) := by omega
        have n2 : 90 < ((s[j]).toNat : Int) := by omega
        have n3 : ¬ 97 ≤ ((s[j]).toNat : Int) := by omega
        have n4 : ¬ 122 < ((s[j]).toNat : Int) := by omega
        have n5 : 48 ≤ ((s[j]).toNat : Int) := by omega
        have n6 : 57 < ((s[j]).toNat : Int) := by omega
        by_cases hz : j = 0
        · have hz2 := Aside0.mk hz
          have z1 : ((j : Int) == 0) = true := by simp; omega
          have z2 : (j == 0) = true := by simp; omega
          have HX : Aside0 (okAt (s[j]).toNat j = false) := ⟨by unfold okAt isL isD; simp; omega⟩
          clear k1 k2 hb hz
          go_wp2
          go_ret
          exact ⟨by rw [HF.out HX.out]; rfl, rfl⟩
        · have hz2 := Aside0.mk hz
          have z1 : ((j : Int) == 0) = false := by simp; omega
          have z2 : (j == 0) = false := by simp; omega
          have HX : Aside0 (okAt (s[j]).toNat j = false) := ⟨by unfold okAt isL isD; simp; omega⟩
          clear k1 k2 hb hz
          go_wp2
          go_ret
          exact ⟨by rw [HF.out HX.out]; rfl, rfl⟩
      ·
        have t1 : decide (65 ≤ ((s[j]).toNat : Int)) = true := decide_eq_true (by omega)
        have t2 : decide (((s[j]).toNat : Int) ≤ 90) = false := decide_eq_false (by omega)
        have t3 : decide (97 ≤ ((s[j]).toNat : Int)) = false := decide_eq_false (by omega)
        have t4 : decide (((s[j]).toNat : Int) ≤ 122) = true := decide_eq_true (by omega)
        have t5 : decide (((s[j]).toNat : Int) < 48) = false := decide_eq_false (by omega)
        have t6 : decide (57 < ((s[j]).toNat : Int)) = true := decide_eq_true (by omega)
        have t7 : (((s[j]).toNat : Int) == 95) = true := by simp; omega
        have n1 : 65 ≤ ((s[j]).toNat : Int) := by omega
        have n2 : 90 < ((s[j]).toNat : Int) := by omega
        have n3 : ¬ 97 ≤ ((s[j]).toNat : Int) := by omega
        have n4 : ¬ 122 < ((s[j]).toNat : Int) := by omega
        have n5 : 48 ≤ ((s[j]).toNat : Int) := by omega
        have n6 : 57 < ((s[j]).toNat : Int) := by omega
        have HX : Aside0 (okAt (s[j]).toNat j = true) := ⟨by unfold okAt isL isD; simp; omega⟩
        clear k1 k2 hb
        go_wp2
        go_roundw
        case rel => exact ⟨j + 1, by omega, by go_num, by first | rfl | trivial, ⟨HN.out HX.out⟩⟩
        case measure => simp only [intOf]; omega
      ·
        have t1 : decide (65 ≤ ((s[j]).toNat : Int)) = true := decide_eq_true (by omega)
        have t2 : decide (((s[j]).toNat : Int) ≤ 90) = false := decide_eq_false (by omega)
        have t3 : decide (97 ≤ ((s[j]).toNat : Int)) = false := decide_eq_false (by omega)
        have t4 : decide (((s[j]).toNat : Int) ≤ 122) = true := decide_eq_true (by omega)
        have t5 : decide (((s[j]).toNat : Int) < 48) = false := decide_eq_false (by omega)
        have t6 : decide (57 < ((s[j]).toNat : Int)) = true := decide_eq_true (by omega)
        have t7 : (((s[j]).toNat : Int) == 95) = false := by simp; omega
        have n1 : 65 ≤ ((s[j]).toNat : Int) := by omega
        have n2 : 90 < ((s[j]).toNat : Int) := by omega
        have n3 : ¬ 97 ≤ ((s[j]).toNat : Int) := by omega
        have n4 : ¬ 122 < ((s[j]).toNat : Int) := by omega
        have n5 : 48 ≤ ((s[j]).toNat : Int) := by omega
        have n6 : 57 < ((s[j]).toNat : Int) := by omega
        by_cases hz : j = 0
        · have hz2 := Aside0.mk hz
          have z1 : ((j : Int) == 0) = true := by simp; omega
          have z2 : (j == 0) = true := by simp; omega
          have HX : Aside0 (okAt (s[j]).toNat j = false) := ⟨by unfold okAt isL isD; simp; omega⟩
          clear k1 k2 hb hz
          go_wp2
          go_ret
          exact ⟨by rw [HF.out HX.out]; rfl, rfl⟩
        · have hz2 := Aside0.mk hz
          have z1 : ((j : Int) == 0) = false := by simp; omega
          have z2 : (j == 0) = false := by simp; omega
          have HX : Aside0 (okAt (s[j]).toNat j = false) := ⟨by unfold okAt isL isD; simp; omega⟩
          clear k1 k2 hb hz
          go_wp2
          go_ret
          exact ⟨by rw [HF.out HX.out]; rfl, rfl⟩
      ·
        have t1 : decide (65 ≤ ((s[j]).toNat : Int)) = true := decide_eq_true (by omega)
        have t2 : decide (((s[j]).toNat : Int) ≤ 90) = false := decide_eq_false (by omega)
        have t3 : decide (97 ≤ ((s[j]).toNat : Int)) = true := decide_eq_true (by omega)
        have t4 : decide (((s[j]).toNat : Int) ≤ 122) = true := decide_eq_true (by omega)
        have t5 : decide (((s[j]).toNat : Int) < 48) = false := decide_eq_false (by omega)
        have t6 : decide (57 < ((s[j]).toNat : Int)) = true := decide_eq_true (by omega)
        have t7 : (((s[j]).toNat : Int) == 95) = false := by simp; omega
        have n1 : 65 ≤ ((s[j]).toNat : Int) := by omega
        have n2 : 90 < ((s[j]).toNat : Int) := by omega
        have n3 : 97 ≤ ((s[j]).toNat : Int) := by omega
        have n4 : ¬ 122 < ((s[j]).toNat : Int) := by omega
        have n5 : 48 ≤ ((s[j]).toNat : Int) := by omega
        have n6 : 57 < ((s[j]).toNat : Int) := by omega
        have HX : Aside0 (okAt (s[j]).toNat j = true) := ⟨by unfold okAt isL isD; simp; omega⟩
        clear k1 k2 hb
        go_wp2
        go_roundw
        case rel => exact ⟨j + 1, by omega, by go_num, by first | rfl | trivial, ⟨HN.out HX.out⟩⟩
        case measure => simp only [intOf]; omega
      ·
        have t1 : decide (65 ≤ ((s[j]).toNat : Int)) = true := decide_eq_true (by omega)
        have t2 : decide (((s[j]).toNat : Int) ≤ 90) = false := decide_eq_false (by omega)
        have t3 : decide (97 ≤ ((s[j]).toNat : Int)) = true := decide_eq_true (by omega)
        have t4 : decide (((s[j]).toNat : Int) ≤ 122) = false := decide_eq_false (by omega)
        have t5 : decide (((s[j]).toNat : Int) < 48) = false := decide_eq_false (by omega)
        have t6 : decide (57 < ((s[j]).toNat : Int)) = true := decide_eq_true (by omega)
        have t7 : (((s[j]).toNat : Int) == 95) = false := by simp; omega
        have n1 : 65 ≤ ((s[j]).toNat : Int) := by omega
        have n2 : 90 < ((s[j]).toNat : Int) := by omega
        have n3 : 97 ≤ ((s[j]).toNat : Int) := by omega
        have n4 : 122 < ((s[j]).toNat : Int) := by omega
        have n5 : 48 ≤ ((s[j]).toNat : Int) := by omega
        have n6 : 57 < ((s[j]).toNat : Int) := by omega
        by_cases hz : j = 0
        · have hz2 := Aside0.mk hz
          have z1 : ((j : Int) == 0) = true := by simp; omega
          have z2 : (j == 0) = true := by simp; omega
          have HX : Aside0 (okAt (s[j]).toNat j = false) := ⟨by unfold okAt isL isD; simp; omega⟩
          clear k1 k2 hb hz
          go_wp2
          go_ret
          exact ⟨by rw [HF.out HX.out]; rfl, rfl⟩
        · have hz2 := Aside0.mk hz
          have z1 : ((j : Int) == 0) = false := by simp; omega
          have z2 : (j == 0) = false := by simp; omega
          have HX : Aside0 (okAt (s[j]).toNat j = false) := ⟨by unfold okAt isL isD; simp; omega⟩
          clear k1 k2 hb hz
          go_wp2
          go_ret
          exact ⟨by rw [HF.out HX.out]; rfl, rfl⟩
    · obtain rfl : j = s.size := by omega
      by_cases h0 : s.size = 0
      · have e1 := toList_none h0
        have HE : Aside0 (plB s = false) := ⟨plB_nil h0⟩
        go_wp2
        go_ret
        exact ⟨by rw [HE.out]; rfl, rfl⟩
      · have e1 := toList_some (show 0 < s.size by omega)
        have HE : Aside0 (plB s = true) := ⟨plB_yes (by omega) (fun q hq => HO.out q hq hq)⟩
        go_wp2
        go_ret
        exact ⟨by rw [HE.out]; rfl, rfl⟩
theorem ask_quote (c : UInt8) (w : World) : Calls Tryd.prog 58 #[.int .u8 (c.toNat : Int)] w fun e w' => e = .returned (.bool (!((c.toNat : Int) == 39))) ∧ Below w.heap.size w w' := by
  go_enter Tryd.func58, Tryd.ntmps58
  go_wp2
  go_ret
  exact ⟨rfl, Below.refl _ _⟩
theorem encode_one (c : UInt8) (hc : c.toNat < 128) : Utf8.encode (c.toNat : Int) = ⟨#[c]⟩ := by
  have h1 : (c.toNat : Int) < 55296 ∨ 57344 ≤ (c.toNat : Int) ∧ (c.toNat : Int) ≤ 1114111 := .inl (by omega)
  unfold Utf8.encode
  simp [hc, Utf8.valid, h1]
theorem two_bytes (c : UInt8) : (⟨#[97]⟩ ++ ⟨#[c]⟩ : ByteArray) = ⟨#[97, c]⟩ := by
  apply ByteArray.ext
  rw [ByteArray.data_append]; rfl
theorem plB_two (c : UInt8) : plB (⟨#[97]⟩ ++ ⟨#[c]⟩) = (isL c.toNat || isD c.toNat) := by
  rw [two_bytes]
  show (decide (0 < 2) && (List.range 2).all fun j => okAt ((⟨#[97, c]⟩ : ByteArray)[j]!).toNat j) = _
  have e0 : (⟨#[97, c]⟩ : ByteArray)[0]! = 97 := rfl
  have e1 : (⟨#[97, c]⟩ : ByteArray)[1]! = c := rfl
  rw [show List.range 2 = [0, 1] from rfl]
  simp only [List.all_cons, List.all_nil, e0, e1]
  simp [okAt, isL]
set_option maxRecDepth 100000 in
set_option maxHeartbeats 4000000 in
theorem ask_plain (c : UInt8) (w : World) (hc : c.toNat < 128) : Calls Tryd.prog 57 #[.int .u8 (c.toNat : Int)] w fun e w' => e = .returned (.bool (isL c.toNat || isD c.toNat)) ∧ Below w.heap.size w w' := by
  have he := encode_one c hc
  have hb : (c.toNat : Int) < 128 := by omega
  have h0 : (0 : Int) ≤ (c.toNat : Int) := by omega
  go_enter Tryd.func57, Tryd.ntmps57
  go_wp2_with fail
  refine (plain_calls _ _ (by rw [two_bytes]; show 2 ≤ _; omega)).mono ?_
  rw [plB_two]
  rintro e w' ⟨rfl, rfl⟩
  generalize hq : (isL c.toNat || isD c.toNat) = b at *
  have HQ := Aside0.mk hq
  clear hq
  have hl : decide ((c.toNat : Int) < 128) = true := decide_eq_true hb
  clear he
  cases b
  all_goals go_wp2
  all_goals go_ret
  all_goals exact ⟨by rw [HQ.out]; rfl, Below.refl _ _⟩
set_option maxRecDepth 100000 in
theorem ask_caps (c : UInt8) (w : World) : Calls Tryd.prog 59 #[.int .u8 (c.toNat : Int)] w fun e w' => e = .returned (.bool (decide (65 ≤ c.toNat ∧ c.toNat ≤ 90))) ∧ Below w.heap.size w w' := by
  have hc : (c.toNat < 65) ∨ (65 ≤ c.toNat ∧ c.toNat ≤ 90) ∨ (90 < c.toNat) := by omega
  rcases hc with h | h | h
  · have t1 : decide (65 ≤ (c.toNat : Int)) = false := decide_eq_false (by omega)
    have n1 : ¬ 65 ≤ (c.toNat : Int) := by omega
    rw [decide_eq_false (show ¬ (65 ≤ c.toNat ∧ c.toNat ≤ 90) by omega)]
    clear h
    go_enter Tryd.func59, Tryd.ntmps59
    go_wp2
    go_ret
    exact ⟨rfl, Below.refl _ _⟩
  · have t1 : decide (65 ≤ (c.toNat : Int)) = true := decide_eq_true (by omega)
    have n1 : 65 ≤ (c.toNat : Int) := by omega
    have t2 : decide ((c.toNat : Int) ≤ 90) = true := decide_eq_true (by omega)
    have n2 : (c.toNat : Int) ≤ 90 := by omega
    rw [decide_eq_true h]
    clear h
    go_enter Tryd.func59, Tryd.ntmps59
    go_wp2
    go_ret
    exact ⟨rfl, Below.refl _ _⟩
  · have t1 : decide (65 ≤ (c.toNat : Int)) = true := decide_eq_true (by omega)
    have n1 : 65 ≤ (c.toNat : Int) := by omega
    have t2 : decide ((c.toNat : Int) ≤ 90) = false := decide_eq_false (by omega)
    have n2 : ¬ (c.toNat : Int) ≤ 90 := by omega
    rw [decide_eq_false (show ¬ (65 ≤ c.toNat ∧ c.toNat ≤ 90) by omega)]
    clear h
    go_enter Tryd.func59, Tryd.ntmps59
    go_wp2
    go_ret
    exact ⟨rfl, Below.refl _ _⟩
set_option maxRecDepth 100000 in
theorem ask_digit (c : UInt8) (w : World) : Calls Tryd.prog 60 #[.int .u8 (c.toNat : Int)] w fun e w' => e = .returned (.bool (isD c.toNat)) ∧ Below w.heap.size w w' := by
  unfold isD
  have hc : (c.toNat < 48) ∨ (48 ≤ c.toNat ∧ c.toNat ≤ 57) ∨ (57 < c.toNat) := by omega
  rcases hc with h | h | h
  · have t1 : decide (48 ≤ (c.toNat : Int)) = false := decide_eq_false (by omega)
    have n1 : ¬ 48 ≤ (c.toNat : Int) := by omega
    rw [decide_eq_false (show ¬ (48 ≤ c.toNat ∧ c.toNat ≤ 57) by omega)]
    clear h
    go_enter Tryd.func60, Tryd.ntmps60
    go_wp2
    go_ret
    exact ⟨rfl, Below.refl _ _⟩
  · have t1 : decide (48 ≤ (c.toNat : Int)) = true := decide_eq_true (by omega)
    have n1 : 48 ≤ (c.toNat : Int) := by omega
    have t2 : decide ((c.toNat : Int) ≤ 57) = true := decide_eq_true (by omega)
    have n2 : (c.toNat : Int) ≤ 57 := by omega
    rw [decide_eq_true h]
    clear h
    go_enter Tryd.func60, Tryd.ntmps60
    go_wp2
    go_ret
    exact ⟨rfl, Below.refl _ _⟩
  · have t1 : decide (48 ≤ (c.toNat : Int)) = true := decide_eq_true (by omega)
    have n1 : 48 ≤ (c.toNat : Int) := by omega
    have t2 : decide ((c.toNat : Int) ≤ 57) = false := decide_eq_false (by omega)
    have n2 : ¬ (c.toNat : Int) ≤ 57 := by omega
    rw [decide_eq_false (show ¬ (48 ≤ c.toNat ∧ c.toNat ≤ 57) by omega)]
    clear h
    go_enter Tryd.func60, Tryd.ntmps60
    go_wp2
    go_ret
    exact ⟨rfl, Below.refl _ _⟩
end Go.Proofs.YtjbcdfbgbocblaaDoor.Hw
