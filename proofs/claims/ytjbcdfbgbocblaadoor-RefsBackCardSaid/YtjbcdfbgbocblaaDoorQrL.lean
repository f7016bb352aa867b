import Derived.Test.YtjbcdfbgbocblaaDoorQrT
/- A column's letters; the document's example. -/
namespace Go.Proofs.YtjbcdfbgbocblaaDoor.CP
def colB : Nat → List UInt8
  | 0 => []
  | m + 1 => colB (m / 26) ++ [UInt8.ofNat (65 + m % 26)]
termination_by m => m
decreasing_by omega
theorem colB_zero : colB 0 = [] := by rw [colB]
theorem colB_succ (m : Nat) : colB (m + 1) = colB (m / 26) ++ [UInt8.ofNat (65 + m % 26)] := by rw [colB]
/-- A column's letters. -/
def colS (n : Nat) : ByteArray := ⟨(colB (n + 1)).toArray⟩
end Go.Proofs.YtjbcdfbgbocblaaDoor.CP
namespace Go.Proofs.YtjbcdfbgbocblaaDoor.Hw
open Go.RowKit Go.Proofs.YtjbcdfbgbocblaaDoorW.PrintWords Go.Proofs.YtjbcdfbgbocblaaDoorW.PrintLast Go.Proofs.YtjbcdfbgbocblaaDoorW.PrintMore Go.Proofs.YtjbcdfbgbocblaaDoor.PH Go.Proofs.YtjbcdfbgbocblaaDoor.CP
set_option linter.unusedVariables false
set_option linter.unusedSimpArgs false
theorem encode_col (m : Nat) : Utf8.encode (65 + (m : Int) % 26) = ⟨#[UInt8.ofNat (65 + m % 26)]⟩ := by
  have h := encode_one (UInt8.ofNat (65 + m % 26)) (by rw [UInt8.toNat_ofNat_of_lt' (by show _ < 256; omega)]; omega)
  rw [UInt8.toNat_ofNat_of_lt' (by show _ < 256; omega)] at h
  rw [← h]
  congr 1
set_option maxRecDepth 100000 in
set_option maxHeartbeats 4000000 in
theorem column_ok (n : Nat) (hn : n < 1024) (w : World) : Calls Tryd.prog 8 #[.int .i64 (n : Int)] w fun e w' => e = .returned (.tuple #[.string (colS n), .int .i64 0]) ∧ w = w' := by
  have t0 : decide ((n : Int) < 0) = false := decide_eq_false (by omega)
  have t1 : decide (1024 ≤ (n : Int)) = false := decide_eq_false (by omega)
  go_enter Tryd.func8, Tryd.ntmps8
  go_wp2
  clear t0 t1
  go_loopw [0, 4] (fun a t wr => ∃ (m : Nat) (sf : ByteArray), m ≤ 1024 ∧ a = .int .i64 (m : Int) ∧ t = .string sf ∧ sf.size + m ≤ 1024 ∧ Aside0 (colB m ++ sf.data.toList = colB (n + 1)) ∧ w = wr) (fun a _ _ => (intOf a).toNat)
  case atStart => exact ⟨n + 1, ⟨#[]⟩, by omega, by go_num, rfl, by show 0 + (n + 1) ≤ 1024; omega, ⟨by simp⟩, rfl⟩
  case round =>
    obtain ⟨m, sf, hm, rfl, rfl, hsz, HE, rfl⟩ := hrel
    cases m with
    | zero =>
      have HX : Aside0 (sf = colS n) := ⟨by
        have h := HE.out
        rw [colB_zero, List.nil_append] at h
        unfold colS
        rw [← h]⟩
      have t2 : decide ((0 : Int) < ((0 : Nat) : Int)) = false := by decide
      go_wp2
      go_ret2
      exact ⟨by rw [HX.out]; rfl, rfl⟩
    | succ m =>
      have t2 : decide ((0 : Int) < (m : Int) + 1) = true := decide_eq_true (by omega)
      have t3 : (0 : Int) < (m : Int) + 1 := by omega
      have he := encode_col m
      have HN : Aside0 (colB (m / 26) ++ ((⟨#[UInt8.ofNat (65 + m % 26)]⟩ : ByteArray) ++ sf).data.toList = colB (n + 1)) := ⟨by
        rw [← HE.out, colB_succ, ByteArray.data_append, Array.toList_append]; simp⟩
      have HZ : Aside0 (((⟨#[UInt8.ofNat (65 + m % 26)]⟩ : ByteArray) ++ sf).size = sf.size + 1) := ⟨by rw [ByteArray.size_append]; show 1 + _ = _; omega⟩
      have g1 : (0 : Int) ≤ (m : Int) := by omega
      have g2 : (m : Int) ≤ 1024 := by omega
      generalize UInt8.ofNat (65 + m % 26) = c at *
      go_wp2
      go_roundw
      case rel => exact ⟨m / 26, _, by omega, by rw [Int.natCast_ediv]; rfl, rfl, by rw [HZ.out]; omega, HN, by first | rfl | trivial⟩
      case measure => simp only [intOf]; omega
set_option maxRecDepth 100000 in
theorem column_bad (n : Int) (hn : n < 0 ∨ 1024 ≤ n) (w : World) : Calls Tryd.prog 8 #[.int .i64 n] w fun e w' => e = .returned (.tuple #[.string ⟨#[]⟩, .int .i64 110]) ∧ w = w' := by
  rcases hn with h | h
  · have t0 : decide (n < 0) = true := decide_eq_true h
    go_enter Tryd.func8, Tryd.ntmps8
    go_wp2
    go_ret2
    exact ⟨rfl, rfl⟩
  · have t0 : decide (n < 0) = false := decide_eq_false (by omega)
    have t1 : decide (1024 ≤ n) = true := decide_eq_true h
    have t2 : ¬ n < 0 := by omega
    go_enter Tryd.func8, Tryd.ntmps8
    go_wp2
    go_ret2
    exact ⟨rfl, rfl⟩
def liveT : ByteArray := ⟨#[83, 104, 101, 101, 116, 49, 46, 65, 49, 58, 83, 104, 101, 101, 116, 51, 46, 66, 50]⟩
def liveX : Rf := ⟨⟨#[83, 104, 101, 101, 116, 49]⟩, ⟨#[83, 104, 101, 101, 116, 51]⟩, false, true, 0, 0, false, false, 1, 1, false, false⟩
theorem col_AA : colS 26 = ⟨#[65, 65]⟩ := by
  unfold colS
  rw [colB_succ, show 26 / 26 = 0 + 1 from rfl, colB_succ, show 0 / 26 = 0 from rfl, colB_zero]; rfl
instance (s : ByteArray) (k : Nat) (c : UInt8) : Decidable (stands s k c) := by unfold stands; exact inferInstance
theorem live_at : refAt liveT 0 liveT.size liveX 0 6 9 16 0 0 1 1 := by
  have all1 : ∀ j, (h : j < liveT.size) → 0 ≤ j → j < 6 → (isL (liveT[j]).toNat || isD (liveT[j]).toNat) = true := fun j h _ h2 => by
    have : j = 0 ∨ j = 1 ∨ j = 2 ∨ j = 3 ∨ j = 4 ∨ j = 5 := by omega
    rcases this with rfl | rfl | rfl | rfl | rfl | rfl <;> rfl
  have all2 : ∀ j, (h : j < liveT.size) → 10 ≤ j → j < 16 → (isL (liveT[j]).toNat || isD (liveT[j]).toNat) = true := fun j h h1 h2 => by
    have : j = 10 ∨ j = 11 ∨ j = 12 ∨ j = 13 ∨ j = 14 ∨ j = 15 := by omega
    rcases this with rfl | rfl | rfl | rfl | rfl | rfl <;> rfl
  have c1 : cornerAt liveT 7 9 false false 0 0 7 8 8 := by
    refine ⟨⟨by decide, rfl⟩, ⟨by decide, by decide, fun j h1 h2 h3 => ?_, fun h => rfl⟩, ⟨3, by kernel_rfl⟩, ⟨by decide, rfl⟩, ⟨by decide, by decide, fun j h1 h2 h3 => ?_, fun h => rfl⟩, ⟨by decide, by decide, by decide⟩, by decide, by kernel_rfl, by decide⟩
    · obtain rfl : j = 7 := by omega
      rfl
    · obtain rfl : j = 8 := by omega
      rfl
  have c2 : cornerAt liveT 17 19 false false 1 1 17 18 18 := by
    refine ⟨⟨by decide, rfl⟩, ⟨by decide, by decide, fun j h1 h2 h3 => ?_, fun h => rfl⟩, ⟨3, by kernel_rfl⟩, ⟨by decide, rfl⟩, ⟨by decide, by decide, fun j h1 h2 h3 => ?_, fun h => absurd h (by decide)⟩, ⟨by decide, by decide, by decide⟩, by decide, by kernel_rfl, by decide⟩
    · obtain rfl : j = 17 := by omega
      rfl
    · obtain rfl : j = 18 := by omega
      rfl
  exact ⟨⟨by decide, rfl⟩, .inr (.inl ⟨⟨by decide, by decide, all1, by kernel_rfl, by kernel_rfl⟩, by kernel_rfl⟩), (fun h => by cases h), by decide, ⟨7, 8, 8, c1⟩, rfl, rfl, (fun _ => ⟨by decide, .inr (.inl ⟨⟨by decide, by decide, all2, by kernel_rfl, by kernel_rfl⟩, by kernel_rfl⟩), (fun _ => by decide), by decide, ⟨17, 18, 18, c2⟩, rfl, rfl⟩), (fun h => by cases h)⟩
set_option maxRecDepth 100000 in
set_option maxHeartbeats 4000000 in
theorem live11_calls (w : World) (hC : ChW w) : Calls Tryd.prog 12 #[] w fun e w' => e = .returned (.bool true) ∧ Below w.heap.size w w' := by
  have H1 : Aside0 (∀ w1, _) := ⟨fun w1 => column_ok 26 (by decide) w1⟩
  rw [col_AA] at H1
  have H2 := Aside0.mk (parse_says liveT liveX 0 6 9 16 0 0 1 1 w hC (by decide) live_at)
  unfold liveT at H2
  clear hC
  go_enter Tryd.func12, Tryd.ntmps12
  go_wp2_with fail
  refine (H1.out _).mono ?_
  rintro e w1 ⟨rfl, rfl⟩
  go_wp2_with fail
  refine H2.out.mono ?_
  rintro e w2 ⟨rfl, hb⟩
  have HB := Aside0.mk (hb.trans ((Below.refl w2.heap.size w2).alloc (Nat.le_refl _) (.cells liveX.cs 32) |>.mono hb.size))
  clear hb
  obtain ⟨c0, c1, c2, c3, c4, c5, c6, c7, c8, c9, c10, c11⟩ := rfc (x := liveX) (heap_alloc_new w2 (.cells liveX.cs 32))
  unfold liveX at *
  go_wp2
  go_ret
  exact ⟨rfl, HB.out⟩
end Go.Proofs.YtjbcdfbgbocblaaDoor.Hw
