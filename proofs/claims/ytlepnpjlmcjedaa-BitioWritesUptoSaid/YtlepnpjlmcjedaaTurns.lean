import Derived.Test.YtlepnpjlmcjedaaReverse
import Derived.Test.YtlepnpjlmcjedaaReader
import Derived.OpenShut
/- bitio's law BitioTurns, walked. -/
namespace Go.Proofs.Ytlepnpjlmcjedaa.Hw
open Go.RowKit Go.Proofs.YtlepnpjlmcjedaaW.PrintWords Go.Proofs.YtlepnpjlmcjedaaW.PrintLast Go.Proofs.YtlepnpjlmcjedaaW.PrintMore Go.Proofs.Ytlepnpjlmcjedaa.PH
set_option linter.unusedVariables false
set_option linter.unusedSimpArgs false
theorem lit1 (w : World) (T : Nat) (k : IntKind) (L : List Int) (hm : L.length ≤ 281474976710656) : (Kd.int k).C (w.alloc (.cells (nums k L).toArray T)) (some ⟨w.heap.size, 0, none⟩) L.length L := (Arr.new w T k L).reads hm
theorem bytes51 : IsBytes [5, 1] := by unfold IsBytes; decide
theorem nb51 : nbits [5, 1] 0 3 = 5 := by decide
theorem rev13 : BP.rev 1 3 = 4 := by decide
set_option maxRecDepth 100000 in
set_option maxHeartbeats 1000000 in
theorem live1_calls (w : World) : Calls Try.prog 23 #[] w fun e w' => e = .returned (.bool true) ∧ Below w.heap.size w w' := by
  go_enter Try.func23, Try.ntmps23
  go_wp2_with fail
  have h1 := lit1 w 5 .u8 [5, 1] (by decide)
  simp only [nums, List.map_cons, List.map_nil, List.length_cons, List.length_nil, Nat.zero_add, Nat.reduceAdd] at h1
  have h2 := newReader_calls _ 2 [5, 1] _ h1 (by decide) (by decide)
  refine h2.mono ?_
  rintro e w1 ⟨g, w0, rfl, hi, hb0, hb1, hb2⟩
  have HI := Aside0.mk hi
  have HB := Aside0.mk hb1
  have HB0 := Aside0.mk (below_step (below_alloc (Below.refl _ _) _) hb0)
  clear h1 h2 hi hb0 hb1 hb2
  go_wp2_with fail
  have h3 := rbits_ok g [5, 1] 0 3 w0 w1 HI.out HB.out bytes51 (by decide) (by decide) (by decide)
  rw [nb51] at h3
  refine h3.mono ?_
  rintro e w2 ⟨rfl, hr⟩
  have HR := Aside0.mk hr
  clear h3 hr
  go_wp2_with fail
  have h4 := rleft_calls g [5, 1] 3 w0 w2 HR.out.1 (by decide) (by decide)
  refine h4.mono ?_
  rintro e w3 ⟨rfl, ⟨n3, rfl⟩⟩
  clear h4
  go_wp2_with fail
  have h5 := bitio_Reverse.calls 1 3 4 (w2.drewN n3) (by have := reverse_is 1 (by decide) 3; rw [if_pos (by decide)] at this; exact this)
  refine h5.mono ?_
  rintro e w4 ⟨rfl, ⟨n4, rfl⟩⟩
  clear h5
  go_wp2
  go_ret
  exact ⟨rfl, pw_below_drewN (below_step HB0.out HR.out.2.1) _⟩
set_option maxRecDepth 100000 in
set_option maxHeartbeats 1000000 in
theorem turns_bad (w : World) (x : Nat) (hx : x < 4294967296) (n : Int) (hn : n < 0 ∨ 32 < n) :
    Calls Try.prog 5 #[.int .u32 (x : Int), .int .i64 n] w fun e w' => e = .returned (.bool true) ∧ Below w.heap.size w w' := by
  have H1 := Aside0.mk (reverse_is x hx n)
  have H2 := Aside0.mk (ref_reverse_is x n 35 (by decide))
  rw [if_neg (by omega)] at H1 H2
  have hd : (decide (n < 0) = true) ∨ (decide (n < 0) = false ∧ decide (32 < n) = true) := by simp; omega
  clear hn
  rcases hd with h0 | ⟨h0, h1⟩
  all_goals
    go_enter Try.func5, Try.ntmps5
    go_wp2_with fail
    refine (live1_calls w).mono ?_
    rintro e w1 ⟨rfl, hb⟩
    have HB := Aside0.mk hb
    clear hb
    go_wp2_with fail
    refine (bitio_Reverse.calls (x : Int) n 0 w1 H1.out).mono ?_
    rintro e w2 ⟨rfl, ⟨n2, rfl⟩⟩
    go_wp2_with fail
    refine (gridironref01_Reverse.calls 35 (x : Int) n 0 _ H2.out).mono ?_
    rintro e w3 ⟨rfl, ⟨n3, rfl⟩⟩
    go_wp2
    go_ret
    exact ⟨rfl, pw_below_drewN HB.out _⟩
theorem low_is (x n : Nat) (hx : x < 4294967296) (hn : n ≤ 32) : bits .and .u32 (x : Int) (((2 : Int) ^ n - 1) % 4294967296) = (x : Int) % 2 ^ n := by
  have h1 := pow_le_32 n hn
  have h0 : 0 < (2 : Nat) ^ n := Nat.two_pow_pos n
  have e : ((2 : Int) ^ n - 1) % 4294967296 = ((2 ^ n - 1 : Nat) : Int) := by rw [two_pow_cast]; omega
  rw [e, and_u32 _ _ hx (by omega), Nat.and_two_pow_sub_one_eq_mod, two_pow_cast]; rfl
set_option maxRecDepth 100000 in
set_option maxHeartbeats 1000000 in
theorem turns_ok (w : World) (x : Nat) (hx : x < 4294967296) (n : Nat) (hn : n ≤ 32) :
    Calls Try.prog 5 #[.int .u32 (x : Int), .int .i64 (n : Int)] w fun e w' => e = .returned (.bool true) ∧ Below w.heap.size w w' := by
  have hr : BP.rev x n < 4294967296 := by
    have h1 := BP.numb_lt (fun j => x.testBit (n - 1 - j)) n
    have h2 := pow_le_32 n hn
    unfold BP.rev; omega
  have H1 := Aside0.mk (reverse_is x hx n)
  have H2 := Aside0.mk (ref_reverse_is x n 35 (by decide))
  have H3 := Aside0.mk (reverse_is (BP.rev x n) hr n)
  rw [if_pos (by omega), Int.toNat_natCast] at H1 H2 H3
  rw [BP.rev_rev] at H3
  have h0 : decide ((n : Int) < 0) = false := by simp
  have h1 : decide (32 < (n : Int)) = false := by simp; omega
  have h1n : decide (32 < n) = false := by simp; omega
  clear hr
  generalize BP.rev x n = y at *
  have h2 : (decide ((n : Int) < 32) = true ∧ decide (n < 32) = true ∧ ((x : Int) % 2 ^ n == bits .and .u32 (x : Int) (((2 : Int) ^ n - 1) % 4294967296)) = true) ∨ (decide ((n : Int) < 32) = false ∧ decide (n < 32) = false ∧ x % 2 ^ n = x) := by
    by_cases h : n < 32
    · exact .inl ⟨by simp; omega, by simp; omega, by rw [low_is x n hx hn]; simp⟩
    · obtain rfl : n = 32 := by omega
      exact .inr ⟨by simp, by simp, Nat.mod_eq_of_lt hx⟩
  have key : ∀ (q : Nat) (w5 : World), Calls Try.prog 24 #[.int .u32 (y : Int), .int .i64 (n : Int)] w5 fun e w' => e = .returned (.int .u32 ((x % 2 ^ n : Nat) : Int)) ∧ Drawn0 w5 w' := fun q w5 => bitio_Reverse.calls (y : Int) n _ w5 H3.out
  rcases h2 with ⟨h2, h2n, h4⟩ | ⟨h2, h2n, h4⟩
  · have HK := Aside0.mk key
    clear key H3
    go_enter Try.func5, Try.ntmps5
    go_wp2_with fail
    refine (live1_calls w).mono ?_
    rintro e w1 ⟨rfl, hb⟩
    have HB := Aside0.mk hb
    clear hb
    go_wp2_with fail
    refine (bitio_Reverse.calls (x : Int) n y w1 H1.out).mono ?_
    rintro e w2 ⟨rfl, ⟨n2, rfl⟩⟩
    go_wp2_with fail
    refine (gridironref01_Reverse.calls 35 (x : Int) n y _ H2.out).mono ?_
    rintro e w3 ⟨rfl, ⟨n3, rfl⟩⟩
    go_wp2_with fail
    refine (bitio_Reverse.calls (x : Int) n y _ H1.out).mono ?_
    rintro e w4 ⟨rfl, ⟨n4, rfl⟩⟩
    go_wp2_with fail
    refine (HK.out 0 _).mono ?_
    rintro e w5 ⟨rfl, ⟨n5, rfl⟩⟩
    go_wp2
    go_ret
    exact ⟨rfl, pw_below_drewN HB.out _⟩
  · rw [h4] at key
    have HK := Aside0.mk key
    clear key h4 H3
    go_enter Try.func5, Try.ntmps5
    go_wp2_with fail
    refine (live1_calls w).mono ?_
    rintro e w1 ⟨rfl, hb⟩
    have HB := Aside0.mk hb
    clear hb
    go_wp2_with fail
    refine (bitio_Reverse.calls (x : Int) n y w1 H1.out).mono ?_
    rintro e w2 ⟨rfl, ⟨n2, rfl⟩⟩
    go_wp2_with fail
    refine (gridironref01_Reverse.calls 35 (x : Int) n y _ H2.out).mono ?_
    rintro e w3 ⟨rfl, ⟨n3, rfl⟩⟩
    go_wp2_with fail
    refine (bitio_Reverse.calls (x : Int) n y _ H1.out).mono ?_
    rintro e w4 ⟨rfl, ⟨n4, rfl⟩⟩
    go_wp2_with fail
    refine (HK.out 0 _).mono ?_
    rintro e w5 ⟨rfl, ⟨n5, rfl⟩⟩
    go_wp2
    go_ret
    exact ⟨rfl, pw_below_drewN HB.out _⟩
theorem u32_bd {a : Int} (h : (Lit.int .u32 a).wf = true) : ∃ x : Nat, a = (x : Int) ∧ x < 4294967296 := by
  have := bounds_u32 h
  exact ⟨a.toNat, by omega, by omega⟩
theorem bitioTurns_walk (w : World) (a0 : Int) (w0 : (Lit.int .u32 a0).wf = true) (a1 : Int) (w1 : (Lit.int .i64 a1).wf = true) :
    Calls Try.prog 5 #[.int .u32 a0, .int .i64 a1] w fun e w' => e = .returned (.bool true) ∧ Below w.heap.size w w' := by
  obtain ⟨x, rfl, hx⟩ := u32_bd w0
  by_cases h : a1 < 0 ∨ 32 < a1
  · exact turns_bad w x hx a1 h
  · obtain ⟨n, rfl⟩ := Int.eq_ofNat_of_zero_le (show 0 ≤ a1 by omega)
    exact turns_ok w x hx n (by omega)
end Go.Proofs.Ytlepnpjlmcjedaa.Hw
