import Derived.Test.YtjbckpfhenogiaaNumber
/- Reader.number only reads (the printed walk, turned). -/
namespace Go.Proofs.Ytjbckpfhenogiaa.Hw
open Go.RowKit Go.Proofs.YtjbckpfhenogiaaW.PrintWords Go.Proofs.YtjbckpfhenogiaaW.PrintLast Go.Proofs.YtjbckpfhenogiaaW.PrintMore Go.Proofs.Ytjbckpfhenogiaa.PH
attribute [local go_sem] max2_int min2_int max_two min_two max_three min_three max_four min_four
set_option linter.unusedVariables false
set_option linter.unusedSimpArgs false
/-- A reader's block at g: what its slice leads to can be read. -/
def RdI (W : World) (g : Nat) (f0 : Bool) (f1 : List Int) (f2 : Int) : Prop := ∃ A1 c1, W.heap[g]? = some (.cells #[.bool f0, .slice A1 f1.length c1, .int .i64 f2] 91 (0, 0)) ∧ True ∧ Kd.C (Kd.int .u8) W A1 f1.length f1
set_option maxHeartbeats 8000000 in
set_option maxRecDepth 100000 in
theorem rnumber_quiet (k : Nat) (g : Nat) (s0_0 : Bool) (s0_1 : List Int) (s0_2 : Int) (a1 : Int) (r1 : Int) (r2 : Bool) (r3 : Int) (w : World) (hI : RdI w g s0_0 s0_1 s0_2) (h : bitio_Reader_number.f k s0_0 s0_1 s0_2 a1 = some (r1, r2, r3)) :
    Calls Try.prog 87 #[.pointer (some ⟨g, 0, none⟩), .int .i64 a1] w fun e w' => e = .returned (.int .u32 r1) ∧ Drawn0 w w' := by
  have hB : Below w.heap.size w w := Below.refl _ _
  have HI0 := Aside0.mk hI
  have HL := Aside0.mk hB.size
  clear hI
  have HW0 := Aside0.mk hB.size
  have HB := Aside0.mk hB
  clear hB
  have H : (bitio_Reader_number.l0 k a1 0 (wrap64 (Int.tdiv s0_2 8)) (wrap64 (Int.tdiv (wrap64 ((wrap64 ((wrap64 ((Int.tmod s0_2 8) + a1)) + 8)) - 1)) 8)) 0 s0_0 s0_1 s0_2) = some (r1, r2, r3) := h
  clear h
  have H' := Aside0.mk H
  clear H
  obtain ⟨ASz3_1, cSz3_1, HGz3, hgz3, HSz3_1⟩ := HI0.out
  have hcz3_0 := cellS91_0 HGz3
  have hcz3_1 := cellS91_1 HGz3
  have hcz3_2 := cellS91_2 HGz3
  have hfz3_0 := blk_frozen HGz3 0
  have hfz3_2 := blk_frozen HGz3 2
  clear HGz3 hgz3
  go_enter Try.func87, Try.ntmps87
  go_wp2
  repeat (go_quiet (fail); try go_wp2)
  go_loopg [5, 23] k (fun kq v5 v23 w' => ∃ (x5_1 : Int) (x23_1 : Int), v5 = .int .u64 x5_1 ∧ v23 = .int .i64 x23_1 ∧ Aside0 (bitio_Reader_number.l0 kq a1 x5_1 (wrap64 (Int.tdiv s0_2 8)) (wrap64 (Int.tdiv (wrap64 ((wrap64 ((wrap64 ((Int.tmod s0_2 8) + a1)) + 8)) - 1)) 8)) x23_1 s0_0 s0_1 s0_2 = some (r1, r2, r3)) ∧ Aside0 (kq ≤ k) ∧ Drawn0 w w')
  case atStart => exact ⟨(0), (0), (by first | rfl | (simp; done) | (simp [*]; done)), (by first | rfl | (simp; done) | (simp [*]; done)), H', ⟨Nat.le_refl _⟩, by repeat (first | exact Drawn0.refl _ | apply Drawn0.step)⟩
  case round =>
    clear H'
    try clear p2
    try clear hcz3_0
    try clear hcz3_1
    try clear hcz3_2
    try clear hfz3_0
    try clear hfz3_2
    obtain ⟨x5_1, x23_1, rfl, rfl, HA, HK1, ⟨m1, rfl⟩⟩ := hrel
    cases gk with
    | zero => exact absurd HA.out (by simp [bitio_Reader_number.l0])
    | succ k1 =>
      have H := HA.out
      clear HA
      simp only [bitio_Reader_number.l0] at H
      by_cases c4 : x23_1 < (wrap64 (Int.tdiv (wrap64 ((wrap64 ((wrap64 ((Int.tmod s0_2 8) + a1)) + 8)) - 1)) 8))
      · rw [if_pos c4] at H
        have c4b0 : decide (x23_1 < (wrap64 (Int.tdiv (wrap64 ((wrap64 ((wrap64 ((Int.tmod s0_2 8) + a1)) + 8)) - 1)) 8))) = true := decide_eq_true c4
        clear c4
        by_cases c5 : (wrap64 ((wrap64 (Int.tdiv s0_2 8)) + x23_1)) < (s0_1.length : Int)
        · rw [if_pos c5] at H
          have c5b0 : decide ((wrap64 ((wrap64 (Int.tdiv s0_2 8)) + x23_1)) < (s0_1.length : Int)) = true := decide_eq_true c5
          clear c5
          obtain ⟨ji6, hji6⟩ : ∃ j_ : Int, (wrap64 ((wrap64 (Int.tdiv s0_2 8)) + x23_1)) = j_ := ⟨_, rfl⟩
          replace H : (if 0 ≤ (ji6) then (if 0 ≤ (wrap64 (8 * x23_1)) then (bitio_Reader_number.l0 k1 a1 (Go.bits .or .u64 x5_1 (shl .u64 (IntKind.u64.wrap (rd s0_1 (ji6))) (wrap64 (8 * x23_1)))) (wrap64 (Int.tdiv s0_2 8)) (wrap64 (Int.tdiv (wrap64 ((wrap64 ((wrap64 ((Int.tmod s0_2 8) + a1)) + 8)) - 1)) 8)) (wrap64 (x23_1 + 1)) s0_0 s0_1 s0_2) else (none)) else (none)) = some (r1, r2, r3) := by first | (rw [hji6] at H; exact H) | (simp only [hji6] at H ⊢; exact H)
          (try rw [hji6] at c5b0)
          have hji6w : (IntKind.i64.wrap ((wrap64 (Int.tdiv s0_2 8)) + x23_1)) = ji6 := (i64_w _).trans hji6
          by_cases c7 : 0 ≤ (ji6)
          · rw [if_pos c7] at H
            have c7b0 : decide (0 ≤ (ji6)) = true := decide_eq_true c7
            clear c7
            obtain ⟨ji8, hji8⟩ : ∃ j_ : Int, (wrap64 (8 * x23_1)) = j_ := ⟨_, rfl⟩
            replace H : (if 0 ≤ (ji8) then (bitio_Reader_number.l0 k1 a1 (Go.bits .or .u64 x5_1 (shl .u64 (IntKind.u64.wrap (rd s0_1 (ji6))) (ji8))) (wrap64 (Int.tdiv s0_2 8)) (wrap64 (Int.tdiv (wrap64 ((wrap64 ((wrap64 ((Int.tmod s0_2 8) + a1)) + 8)) - 1)) 8)) (wrap64 (x23_1 + 1)) s0_0 s0_1 s0_2) else (none)) = some (r1, r2, r3) := by first | (rw [hji8] at H; exact H) | (simp only [hji8] at H ⊢; exact H)
            have hji8w : (IntKind.i64.wrap (8 * x23_1)) = ji8 := (i64_w _).trans hji8
            by_cases c9 : 0 ≤ (ji8)
            · rw [if_pos c9] at H
              have c9b0 := eq_true c9
              have c9b1 : decide (0 ≤ (ji8)) = true := decide_eq_true c9
              clear c9
              obtain ⟨ji10, hji10⟩ : ∃ j_ : Int, (shl .u64 (IntKind.u64.wrap (rd s0_1 (ji6))) (ji8)) = j_ := ⟨_, rfl⟩
              replace H : (bitio_Reader_number.l0 k1 a1 (Go.bits .or .u64 x5_1 (ji10)) (wrap64 (Int.tdiv s0_2 8)) (wrap64 (Int.tdiv (wrap64 ((wrap64 ((wrap64 ((Int.tmod s0_2 8) + a1)) + 8)) - 1)) 8)) (wrap64 (x23_1 + 1)) s0_0 s0_1 s0_2) = some (r1, r2, r3) := by first | (rw [hji10] at H; exact H) | (simp only [hji10] at H ⊢; exact H)
              have hji10_ : (IntKind.u64.wrap ((IntKind.u64.wrap (rd s0_1 (ji6))) * 2 ^ min (ji8).toNat 64)) = ji10 := hji10
              have hji10z : (ji8) ≤ 64 → (IntKind.u64.wrap ((IntKind.u64.wrap (rd s0_1 (ji6))) * 2 ^ (ji8).toNat)) = ji10 := shl_small hji10
              have H' := Aside0.mk H
              clear H
              obtain ⟨ASz11_1, cSz11_1, HGz11, hgz11, HSz11_1⟩ := HI0.out
              have hcz11_0 := cellS91_0 HGz11
              have hcz11_1 := cellS91_1 HGz11
              have hcz11_2 := cellS91_2 HGz11
              have hfz11_0 := blk_frozen HGz11 0
              have hfz11_2 := blk_frozen HGz11 2
              clear HGz11 hgz11
              have p122 : 0 ≤ ((ji6) : Int) := of_decide_eq_true (by first | (with_reducible assumption) | assumption)
              have q122 : (ji6) < (s0_1.length : Int) := of_decide_eq_true (by first | (with_reducible assumption) | assumption)
              obtain ⟨ad122, e122, hx122_0⟩ := Kd.at_int HSz11_1 (ji6) p122 q122
              cases e122
              replace hx122_0 := pw_cell_below HB.out hx122_0
              replace p122 := eq_true p122
              replace q122 := eq_true q122
              go_wp2
              repeat (go_quiet (fail); try go_wp2)
              go_roundg k1
              case measure => have := HK1.out; omega
              case rel => exact ⟨(Go.bits .or .u64 x5_1 (ji10)), (wrap64 (x23_1 + 1)), (by first | rfl | (simp; done) | (simp only [← hji10] <;> (first | rfl | simp)) | (simp [*]; done)), (by first | rfl | (simp; done) | (simp [*]; done)), H', ⟨by have := HK1.out; omega⟩, by repeat (first | exact Drawn0.refl _ | apply Drawn0.step)⟩
            · rw [if_neg c9] at H
              exact absurd H (by simp)
          · rw [if_neg c7] at H
            exact absurd H (by simp)
        · rw [if_neg c5] at H
          have c5b0 : decide ((wrap64 ((wrap64 (Int.tdiv s0_2 8)) + x23_1)) < (s0_1.length : Int)) = false := decide_eq_false c5
          clear c5
          have H' := Aside0.mk H
          clear H
          obtain ⟨ASz12_1, cSz12_1, HGz12, hgz12, HSz12_1⟩ := HI0.out
          have hcz12_0 := cellS91_0 HGz12
          have hcz12_1 := cellS91_1 HGz12
          have hcz12_2 := cellS91_2 HGz12
          have hfz12_0 := blk_frozen HGz12 0
          have hfz12_2 := blk_frozen HGz12 2
          clear HGz12 hgz12
          go_wp2
          repeat (go_quiet (fail); try go_wp2)
          go_roundg k1
          case measure => have := HK1.out; omega
          case rel => exact ⟨(x5_1), (wrap64 (x23_1 + 1)), (by first | rfl | (simp; done) | (simp [*]; done)), (by first | rfl | (simp; done) | (simp [*]; done)), H', ⟨by have := HK1.out; omega⟩, by repeat (first | exact Drawn0.refl _ | apply Drawn0.step)⟩
      · rw [if_neg c4] at H
        have c4b0 : decide (x23_1 < (wrap64 (Int.tdiv (wrap64 ((wrap64 ((wrap64 ((Int.tmod s0_2 8) + a1)) + 8)) - 1)) 8))) = false := decide_eq_false c4
        clear c4
        obtain ⟨ji13, hji13⟩ : ∃ j_ : Int, (Int.tmod s0_2 8) = j_ := ⟨_, rfl⟩
        replace H : (if 0 ≤ (ji13) then (if 0 ≤ a1 then (some ((Go.bits .and .u64 (shr .u64 x5_1 (ji13)) (IntKind.u64.wrap ((shl .u64 1 a1) - 1))) % 4294967296, s0_0, s0_2)) else (none)) else (none)) = some (r1, r2, r3) := by first | (rw [hji13] at H; exact H) | (simp only [hji13] at H ⊢; exact H)
        (try rw [hji13] at c4b0)
        by_cases c14 : 0 ≤ (ji13)
        · rw [if_pos c14] at H
          have c14b0 := eq_true c14
          have c14b1 : decide (0 ≤ (ji13)) = true := decide_eq_true c14
          clear c14
          obtain ⟨ji15, hji15⟩ : ∃ j_ : Int, (shr .u64 x5_1 (ji13)) = j_ := ⟨_, rfl⟩
          replace H : (if 0 ≤ a1 then (some ((Go.bits .and .u64 (ji15) (IntKind.u64.wrap ((shl .u64 1 a1) - 1))) % 4294967296, s0_0, s0_2)) else (none)) = some (r1, r2, r3) := by first | (rw [hji15] at H; exact H) | (simp only [hji15] at H ⊢; exact H)
          have hji15_ : (x5_1 / 2 ^ min (ji13).toNat 64) = ji15 := hji15
          have hji15z : (ji13) ≤ 64 → (x5_1 / 2 ^ (ji13).toNat) = ji15 := shr_small hji15
          by_cases c16 : 0 ≤ a1
          · rw [if_pos c16] at H
            have c16b0 := eq_true c16
            have c16b1 : decide (0 ≤ a1) = true := decide_eq_true c16
            clear c16
            obtain ⟨ji17, hji17⟩ : ∃ j_ : Int, (shl .u64 1 a1) = j_ := ⟨_, rfl⟩
            replace H : (some ((Go.bits .and .u64 (ji15) (IntKind.u64.wrap ((ji17) - 1))) % 4294967296, s0_0, s0_2)) = some (r1, r2, r3) := by first | (rw [hji17] at H; exact H) | (simp only [hji17] at H ⊢; exact H)
            have hji17_ : (IntKind.u64.wrap (1 * 2 ^ min a1.toNat 64)) = ji17 := hji17
            have hji17z : a1 ≤ 64 → (IntKind.u64.wrap (1 * 2 ^ a1.toNat)) = ji17 := shl_small hji17
            have hji17u : (IntKind.u64.wrap (2 ^ min a1.toNat 64)) = ji17 := by have h_ := hji17_; rw [Int.one_mul] at h_; exact h_
            have hji17v : a1 ≤ 64 → (IntKind.u64.wrap (2 ^ a1.toNat)) = ji17 := fun hle_ => by have h_ := hji17z hle_; rw [Int.one_mul] at h_; exact h_
            simp only [Option.some.injEq, Prod.mk.injEq] at H
            obtain ⟨rfl, rfl, rfl⟩ := H
            obtain ⟨ASz18_1, cSz18_1, HGz18, hgz18, HSz18_1⟩ := HI0.out
            have hcz18_0 := cellS91_0 HGz18
            have hcz18_1 := cellS91_1 HGz18
            have hcz18_2 := cellS91_2 HGz18
            have hfz18_0 := blk_frozen HGz18 0
            have hfz18_2 := blk_frozen HGz18 2
            clear HGz18 hgz18
            go_wp2
            repeat (go_quiet (fail); try go_wp2)
            go_ret
            exact ⟨by first | rfl | (simp [errW_none, errW_some] <;> rfl) | (simp only [← hji13, ← hji15, ← hji17]; first | rfl | (simp [errW_none, errW_some] <;> rfl)) | (simp [*, errW_none, errW_some] <;> rfl), by repeat (first | exact Drawn0.refl _ | apply Drawn0.step)⟩
          · rw [if_neg c16] at H
            exact absurd H (by simp)
        · rw [if_neg c14] at H
          exact absurd H (by simp)

end Go.Proofs.Ytjbckpfhenogiaa.Hw
