import Derived.Test.YtlepnpjlmcjedaaPut
import Derived.Test.YtlepnpjlmcjedaaBit2
import Derived.Test.YtlepnpjlmcjedaaBegun
import Derived.OpenShut
/- The law HuffPuts, walked. -/
namespace Go.Proofs.Ytlepnpjlmcjedaa.Hw
open Go.RowKit Go.Proofs.YtlepnpjlmcjedaaW.PrintWords Go.Proofs.YtlepnpjlmcjedaaW.PrintLast Go.Proofs.YtlepnpjlmcjedaaW.PrintMore Go.Proofs.Ytlepnpjlmcjedaa.PH
set_option linter.unusedVariables false
set_option linter.unusedSimpArgs false
theorem bit_and1 (x k : Nat) (hx : x < 4294967296) : bits .and .u32 ((x : Int) / 2 ^ k) 1 = (((x.testBit k).toNat : Nat) : Int) := by
  have e : ((x : Int) / 2 ^ k) = ((x / 2 ^ k : Nat) : Int) := by rw [two_pow_cast]; rfl
  have hle : x / 2 ^ k ≤ x := Nat.div_le_self _ _
  have h32 : (2 : Nat) ^ 32 = 4294967296 := rfl
  have := (bits_nat .u32 32 (by decide) u32_selfW (x / 2 ^ k) 1 (by omega) (by omega)).1
  rw [Int.natCast_one] at this
  rw [e, this, Nat.and_one_is_mod, Nat.testBit_eq_decide_div_mod_eq]
  generalize x / 2 ^ k = y
  by_cases h : y % 2 = 1
  · simp [h]
  · have : y % 2 = 0 := by omega
    simp [this]
set_option maxRecDepth 100000 in
set_option maxHeartbeats 2000000 in
theorem puts_ok (w : World) (A0 A1 : Option Addr) (c0 c1 : Nat) (l m : List Int) (s n cd ah : Nat) (hr0 : Kd.C (Kd.int .i64) w A0 l.length l) (hc0 : l.length ≤ c0) (hr1 : Kd.C (Kd.int .u32) w A1 m.length m) (hc1 : m.length ≤ c1) (hah : ah < 4294967296)
    (hlm : l.length = m.length) (hs : s < l.length) (hn : rd l (s : Int) = (n : Int)) (hcd : rd m (s : Int) = (cd : Int)) (hn1 : 1 ≤ n) (hn15 : n ≤ 15) (hcn : cd < 2 ^ n) (hmax : l.length ≤ 140737488351232) :
    Calls Try.prog 12 #[.slice A0 l.length c0, .slice A1 m.length c1, .int .i64 (s : Int), .int .u32 (ah : Int)] w fun e w' => e = .returned (.bool true) ∧ Below w.heap.size w w' := by
  have HR0 := Aside0.mk hr0
  have HR1 := Aside0.mk hr1
  have HLM := Aside0.mk hlm
  have HN := Aside0.mk hn
  have HC := Aside0.mk hcd
  have hmx : m.length ≤ 140737488351232 := by omega
  have hms : s < m.length := by omega
  have hlmb : ((l.length : Int) == (m.length : Int)) = true := by simp; omega
  have HLB := Aside0.mk hlmb
  clear hr0 hr1 hn hcd hlm hlmb
  have hx8 : ((ah : Int) % 8) = ((ah % 8 : Nat) : Int) := by omega
  have HX8 := Aside0.mk hx8
  clear hx8
  have hah8 : ah % 8 < 8 := by omega
  generalize ah % 8 = x at *
  have hlen3 : ([] ++ bitsN (ah % 8) 3).length = 3 := by simp [bitsN_length]
  go_enter Try.func12, Try.ntmps12
  go_wp2_with fail
  refine (newWriter_calls w).mono ?_
  rintro e w1 ⟨rfl, hi1, hb1, hz1⟩
  have HI1 := Aside0.mk hi1
  have HB1 := Aside0.mk hb1
  have HZ1 := Aside0.mk hz1
  clear hi1 hb1 hz1
  go_wp2_with fail
  have h2 := wbits_ok w.heap.size w.heap.size _ [] w1 x 3 HI1.out (by rw [HZ1.out]; omega) (by decide) (by omega) (bitLen_le (by omega)) (by simp)
  rw [HX8.out]
  refine h2.mono ?_
  rintro e w2 ⟨rfl, v2, hi2, hw2⟩
  rw [List.nil_append] at hi2
  have HI2 := Aside0.mk hi2
  have HW2 := Aside0.mk hw2
  have HB2 := Aside0.mk (HB1.out.trans hw2.2.1)
  have HZ2 : Aside0 (w.heap.size ≤ w2.heap.size) := ⟨HB2.out.size⟩
  have HSL : Aside0 (Stays (Kd.int .i64) w2 w.heap.size v2 A0 l.length l) := ⟨Stays.of (Kd.heap_int _) HR0.out HB2.out HI2.out⟩
  have HSM : Aside0 (Stays (Kd.int .u32) w2 w.heap.size v2 A1 m.length m) := ⟨Stays.of (Kd.heap_int _) HR1.out HB2.out HI2.out⟩
  have hl3 : (bitsN x 3).length = 3 := bitsN_length x 3
  clear h2 hi2 hw2
  go_wp2_with fail
  have h3 := put_ok w.heap.size w.heap.size v2 (bitsN x 3) w2 A0 A1 c0 c1 l m s n cd HI2.out HZ2.out (by omega) HSL.out hc0 HSM.out hc1 (by have := HLB.out; simp at this; omega) hs HN.out HC.out hn1 hn15 hcn
  refine h3.mono ?_
  rintro e w3 ⟨rfl, v3, hi3, hw3⟩
  have HI3 := Aside0.mk hi3
  have HB3 := Aside0.mk (HB2.out.trans hw3.2.1)
  have HRL : Aside0 (Kd.C (Kd.int .i64) w3 A0 l.length l) := ⟨(HSL.out.next hw3).now⟩
  have HRM : Aside0 (Kd.C (Kd.int .u32) w3 A1 m.length m) := ⟨(HSM.out.next hw3).now⟩
  clear h3 hi3 hw3 HSL HSM HI1 HI2 HW2 HB2 HZ2 hl3
  obtain ⟨ad, rfl, hx⟩ := Kd.at_int HRL.out (s : Int) (by omega) (by omega)
  obtain ⟨ad2, rfl, hx2⟩ := Kd.at_int HRM.out (s : Int) (by omega) (by omega)
  rw [Int.toNat_natCast] at hx hx2
  rw [HN.out] at hx
  rw [HC.out] at hx2
  have t1 : ((l.length : Int) == (m.length : Int)) = true := HLB.out
  have t1n : (l.length == m.length) = true := by have := HLB.out; simp at this; simp; omega
  have t2 : decide (s < m.length) = true := by simp; omega
  have t2b : decide (0 ≤ (s : Int)) = true := by simp
  have t3 : decide (1 ≤ (n : Int)) = true := by simp; omega
  have t4 : decide ((n : Int) ≤ 15) = true := by simp; omega
  have t4n : decide (n ≤ 15) = true := by simp; omega
  have t5 : decide ((cd : Int) < 2 ^ n % 4294967296) = true := by
    have h1 : 2 ^ n ≤ 32768 := Nat.le_trans (Nat.pow_le_pow_right (by omega) hn15) (by decide)
    rw [two_pow_cast]
    generalize 2 ^ n = p at *
    simp; omega
  go_wp2
  go_quiet (fail)
  go_wp2_with fail
  refine (begun_calls _).mono ?_
  rintro e w4 ⟨rfl, hb4⟩
  have HI4 := Aside0.mk ((HI3.out.drewN nq).below hb4)
  have HB4 := Aside0.mk (below_step (pw_below_drewN HB3.out nq) hb4)
  have HRL4 := Aside0.mk (Kd.C_below (Kd.C_drewN HRL.out nq) hb4)
  have HRM4 := Aside0.mk (Kd.C_below (Kd.C_drewN HRM.out nq) hb4)
  clear hb4 hx hx2 HI3 HB3 HRL HRM t2 t2b t3 t4 t4n t5 t1n t1
  have hlenN : (bitsN x 3 ++ bitsN (BP.rev cd n) n).length = 3 + n := by simp [bitsN_length]
  go_wp2_with fail
  have h5 := wout_calls w.heap.size w.heap.size v3 _ w4 HI4.out (by omega)
  refine h5.mono ?_
  rintro e w5 ⟨u, rfl, hu, hb5⟩
  obtain ⟨A2, c2, hu', hc2, hC2⟩ := Kd.R_reads hu
  subst hu'
  have HU5 := Aside0.mk hC2
  have HI5 := Aside0.mk (HI4.out.below hb5)
  have HB5 := Aside0.mk (below_step HB4.out hb5)
  have HRL5 := Aside0.mk (Kd.C_below HRL4.out hb5)
  have HRM5 := Aside0.mk (Kd.C_below HRM4.out hb5)
  clear h5 hu hb5 hC2 HI4 HB4 HRL4 HRM4
  obtain ⟨ad, e1, hx⟩ := Kd.at_int HRL5.out (s : Int) (by omega) (by omega)
  obtain ⟨ad2, e2, hx2⟩ := Kd.at_int HRM5.out (s : Int) (by omega) (by omega)
  cases e1
  cases e2
  rw [Int.toNat_natCast] at hx hx2
  rw [HN.out] at hx
  rw [HC.out] at hx2
  have hpl : (pack (bitsN x 3 ++ bitsN (BP.rev cd n) n)).length = (3 + n + 7) / 8 := by rw [pack_length, hlenN]
  have HPL := Aside0.mk hpl
  have HLN := Aside0.mk hlenN
  clear hpl hlenN
  go_wp2
  go_loopw [97] (fun i wr => ∃ k : Nat, k ≤ n ∧ i = .int .i64 k ∧ Drawn0 w5 wr) (fun i _ => n - (intOf i).toNat)
  case atStart => exact ⟨0, Nat.zero_le _, rfl, Drawn0.refl _⟩
  case round =>
    obtain ⟨k, hk, rfl, ⟨n1, rfl⟩⟩ := hrel
    by_cases hlt : k < n
    · have hd1 : decide ((k : Int) < (n : Int)) = true := by simp; omega
      have hb := ref_bit_is (pack (bitsN x 3 ++ bitsN (BP.rev cd n) n)) (pack_bytes _) (by rw [HPL.out]; omega) (3 + k) (by rw [HPL.out]; omega)
      have hbv : bitAt (pack (bitsN x 3 ++ bitsN (BP.rev cd n) n)) (3 + k) = cd.testBit (n - 1 - k) := by
        have e3 : 3 + k = (bitsN x 3).length + k := by rw [bitsN_length]
        rw [bitAt_pack, e3, append_getD, bitsN_getD _ _ _ hlt, BP.rev, BP.testBit_numb]
        simp [hlt]
      rw [hbv] at hb
      have HBV := Aside0.mk hb
      clear hb hbv
      have hk3 : ((3 + k : Nat) : Int) = 3 + (k : Int) := by omega
      have hbc := gridironref02_Bit.calls A2 c2 _ _ _ _ (w5.drewN n1) (Kd.C_drewN HU5.out n1) hc2 HBV.out
      rw [hk3] at hbc
      clear hk3
      go_wp2_with fail
      refine hbc.mono ?_
      rintro e w6 ⟨rfl, ⟨n6, rfl⟩⟩
      clear hbc
      have teq : ((((cd.testBit (n - 1 - k)).toNat : Nat) : Int) != bits .and .u32 ((cd : Int) / 2 ^ (n - 1 - k)) 1) = false := by
        have hcd32 : cd < 4294967296 := by have := pow_le_32 n (by omega); omega
        rw [bit_and1 cd (n - 1 - k) hcd32]; simp
      go_wp2
      go_quiet (fail)
      go_wp2
      go_roundw
      case rel => exact ⟨k + 1, by omega, by go_num, by repeat (first | exact Drawn0.refl _ | apply Drawn0.step)⟩
      case measure => simp [intOf]; omega
    · obtain rfl : k = n := by omega
      go_wp2
      have HI6 := Aside0.mk (HI5.out.drewN n1)
      have HB6 := Aside0.mk (pw_below_drewN HB5.out n1)
      have hx6 : (w5.drewN n1).cell? (ad.add s) = some (.int .i64 (k : Int)) := hx
      have hlnv : (((bitsN x 3 ++ bitsN (BP.rev cd k) k).length : Nat) : Int) = 3 + (k : Int) := by rw [HLN.out]; simp
      have HLV := Aside0.mk hlnv
      clear hlnv hx hx2
      generalize w5.drewN n1 = W at *
      go_quiet ((go_at_call 52; exact Calls.quiet_of ((wlen_calls w.heap.size w.heap.size v3 _ _ (HI6.out.drewN _)).mono (fun e w' h => ⟨by rw [h.1, HLV.out], h.2.out⟩))))
      go_wp2
      go_ret
      exact ⟨rfl, pw_below_drewN HB6.out _⟩
set_option maxRecDepth 100000 in
set_option maxHeartbeats 2000000 in
theorem puts_bad1 (w : World) (A0 A1 : Option Addr) (c0 c1 : Nat) (l m : List Int) (s : Int) (ah : Nat) (hr0 : Kd.C (Kd.int .i64) w A0 l.length l) (hc0 : l.length ≤ c0) (hr1 : Kd.C (Kd.int .u32) w A1 m.length m) (hc1 : m.length ≤ c1) (hah : ah < 4294967296)
    (hmax : m.length ≤ 140737488351232) (hmaxl : l.length ≤ 140737488351232) (hmw : ∀ x ∈ m, 0 ≤ x) (hno : ¬ putOk l m s) (hne : l.length ≠ m.length) :
    Calls Try.prog 12 #[.slice A0 l.length c0, .slice A1 m.length c1, .int .i64 s, .int .u32 (ah : Int)] w fun e w' => e = .returned (.bool true) ∧ Below w.heap.size w w' := by
  have t1 : ((l.length : Int) == (m.length : Int)) = false := by simp; omega
  have t1n : (l.length == m.length) = false := by simp; omega
  have HR0 := Aside0.mk hr0
  have HR1 := Aside0.mk hr1
  have HMW := Aside0.mk hmw
  have HNO := Aside0.mk hno
  clear hr0 hr1 hmw hno
  have HX8 : Aside0 (((ah : Int) % 8) = ((ah % 8 : Nat) : Int)) := ⟨by omega⟩
  have hah8 : ah % 8 < 8 := by omega
  generalize ah % 8 = x at *
  go_enter Try.func12, Try.ntmps12
  go_wp2_with fail
  refine (newWriter_calls w).mono ?_
  rintro e w1 ⟨rfl, hi1, hb1, hz1⟩
  have HI1 := Aside0.mk hi1
  have HB1 := Aside0.mk hb1
  have HZ1 := Aside0.mk hz1
  clear hi1 hb1 hz1
  go_wp2_with fail
  have h2 := wbits_ok w.heap.size w.heap.size _ [] w1 x 3 HI1.out (by rw [HZ1.out]; omega) (by decide) (by omega) (bitLen_le (by omega)) (by simp)
  rw [HX8.out]
  refine h2.mono ?_
  rintro e w2 ⟨rfl, v2, hi2, hw2⟩
  rw [List.nil_append] at hi2
  have HI2 := Aside0.mk hi2
  have HW2 := Aside0.mk hw2
  have HB2 := Aside0.mk (HB1.out.trans hw2.2.1)
  have HZ2 : Aside0 (w.heap.size ≤ w2.heap.size) := ⟨HB2.out.size⟩
  have HSL : Aside0 (Stays (Kd.int .i64) w2 w.heap.size v2 A0 l.length l) := ⟨Stays.of (Kd.heap_int _) HR0.out HB2.out HI2.out⟩
  have HSM : Aside0 (Stays (Kd.int .u32) w2 w.heap.size v2 A1 m.length m) := ⟨Stays.of (Kd.heap_int _) HR1.out HB2.out HI2.out⟩
  have hl3 : (bitsN x 3).length = 3 := bitsN_length x 3
  clear h2 hi2 hw2
  go_wp2_with fail
  have h3 := put_bad w.heap.size w.heap.size v2 (bitsN x 3) w2 A0 A1 c0 c1 l m s HI2.out HZ2.out (by omega) HSL.out hc0 HSM.out hc1 (by omega) HMW.out HNO.out
  refine h3.mono ?_
  rintro e w3 ⟨rfl, v3, hi3, hw3⟩
  have HI3 := Aside0.mk hi3
  have HB3 := Aside0.mk (HB2.out.trans hw3.2.1)
  have HRL : Aside0 (Kd.C (Kd.int .i64) w3 A0 l.length l) := ⟨(HSL.out.next hw3).now⟩
  have HRM : Aside0 (Kd.C (Kd.int .u32) w3 A1 m.length m) := ⟨(HSM.out.next hw3).now⟩
  clear h3 hi3 hw3 HSL HSM HI1 HI2 HW2 HB2 HZ2 hl3
  go_wp2
  go_quiet (fail)
  go_wp2_with fail
  refine (begun_calls _).mono ?_
  rintro e w4 ⟨rfl, hb4⟩
  have HI4 := Aside0.mk ((HI3.out.drewN nq).below hb4)
  have HB4 := Aside0.mk (below_step (pw_below_drewN HB3.out nq) hb4)
  clear hb4 HI3 HB3 HRL HRM
  go_wp2_with fail
  have h5 := wlen_calls w.heap.size w.heap.size v3 _ w4 HI4.out
  rw [bitsN_length] at h5
  refine h5.mono ?_
  rintro e w5 ⟨rfl, ⟨n5, rfl⟩⟩
  clear h5
  go_wp2
  go_ret
  exact ⟨rfl, pw_below_drewN HB4.out _⟩
set_option maxRecDepth 100000 in
set_option maxHeartbeats 2000000 in
theorem puts_bad2 (w : World) (A0 A1 : Option Addr) (c0 c1 : Nat) (l m : List Int) (s : Int) (ah : Nat) (hr0 : Kd.C (Kd.int .i64) w A0 l.length l) (hc0 : l.length ≤ c0) (hr1 : Kd.C (Kd.int .u32) w A1 m.length m) (hc1 : m.length ≤ c1) (hah : ah < 4294967296)
    (hmax : m.length ≤ 140737488351232) (hmaxl : l.length ≤ 140737488351232) (hmw : ∀ x ∈ m, 0 ≤ x) (hno : ¬ putOk l m s) (hlm : l.length = m.length) (hs : s < 0) :
    Calls Try.prog 12 #[.slice A0 l.length c0, .slice A1 m.length c1, .int .i64 s, .int .u32 (ah : Int)] w fun e w' => e = .returned (.bool true) ∧ Below w.heap.size w w' := by
  have t1n : (l.length == m.length) = true := by simp; omega
  have t1 : ((l.length : Int) == (m.length : Int)) = true := by simp; omega
  have t2 : decide (0 ≤ s) = false := by simp; omega
  clear hlm
  have HR0 := Aside0.mk hr0
  have HR1 := Aside0.mk hr1
  have HMW := Aside0.mk hmw
  have HNO := Aside0.mk hno
  clear hr0 hr1 hmw hno
  have HX8 : Aside0 (((ah : Int) % 8) = ((ah % 8 : Nat) : Int)) := ⟨by omega⟩
  have hah8 : ah % 8 < 8 := by omega
  generalize ah % 8 = x at *
  go_enter Try.func12, Try.ntmps12
  go_wp2_with fail
  refine (newWriter_calls w).mono ?_
  rintro e w1 ⟨rfl, hi1, hb1, hz1⟩
  have HI1 := Aside0.mk hi1
  have HB1 := Aside0.mk hb1
  have HZ1 := Aside0.mk hz1
  clear hi1 hb1 hz1
  go_wp2_with fail
  have h2 := wbits_ok w.heap.size w.heap.size _ [] w1 x 3 HI1.out (by rw [HZ1.out]; omega) (by decide) (by omega) (bitLen_le (by omega)) (by simp)
  rw [HX8.out]
  refine h2.mono ?_
  rintro e w2 ⟨rfl, v2, hi2, hw2⟩
  rw [List.nil_append] at hi2
  have HI2 := Aside0.mk hi2
  have HW2 := Aside0.mk hw2
  have HB2 := Aside0.mk (HB1.out.trans hw2.2.1)
  have HZ2 : Aside0 (w.heap.size ≤ w2.heap.size) := ⟨HB2.out.size⟩
  have HSL : Aside0 (Stays (Kd.int .i64) w2 w.heap.size v2 A0 l.length l) := ⟨Stays.of (Kd.heap_int _) HR0.out HB2.out HI2.out⟩
  have HSM : Aside0 (Stays (Kd.int .u32) w2 w.heap.size v2 A1 m.length m) := ⟨Stays.of (Kd.heap_int _) HR1.out HB2.out HI2.out⟩
  have hl3 : (bitsN x 3).length = 3 := bitsN_length x 3
  clear h2 hi2 hw2
  go_wp2_with fail
  have h3 := put_bad w.heap.size w.heap.size v2 (bitsN x 3) w2 A0 A1 c0 c1 l m s HI2.out HZ2.out (by omega) HSL.out hc0 HSM.out hc1 (by omega) HMW.out HNO.out
  refine h3.mono ?_
  rintro e w3 ⟨rfl, v3, hi3, hw3⟩
  have HI3 := Aside0.mk hi3
  have HB3 := Aside0.mk (HB2.out.trans hw3.2.1)
  have HRL : Aside0 (Kd.C (Kd.int .i64) w3 A0 l.length l) := ⟨(HSL.out.next hw3).now⟩
  have HRM : Aside0 (Kd.C (Kd.int .u32) w3 A1 m.length m) := ⟨(HSM.out.next hw3).now⟩
  clear h3 hi3 hw3 HSL HSM HI1 HI2 HW2 HB2 HZ2 hl3
  go_wp2
  go_quiet (fail)
  go_wp2_with fail
  refine (begun_calls _).mono ?_
  rintro e w4 ⟨rfl, hb4⟩
  have HI4 := Aside0.mk ((HI3.out.drewN nq).below hb4)
  have HB4 := Aside0.mk (below_step (pw_below_drewN HB3.out nq) hb4)
  clear hb4 HI3 HB3 HRL HRM
  go_wp2_with fail
  have h5 := wlen_calls w.heap.size w.heap.size v3 _ w4 HI4.out
  rw [bitsN_length] at h5
  refine h5.mono ?_
  rintro e w5 ⟨rfl, ⟨n5, rfl⟩⟩
  clear h5
  go_wp2
  go_ret
  exact ⟨rfl, pw_below_drewN HB4.out _⟩
set_option maxRecDepth 100000 in
set_option maxHeartbeats 2000000 in
theorem puts_bad3 (w : World) (A0 A1 : Option Addr) (c0 c1 : Nat) (l m : List Int) (s : Int) (ah : Nat) (hr0 : Kd.C (Kd.int .i64) w A0 l.length l) (hc0 : l.length ≤ c0) (hr1 : Kd.C (Kd.int .u32) w A1 m.length m) (hc1 : m.length ≤ c1) (hah : ah < 4294967296)
    (hmax : m.length ≤ 140737488351232) (hmaxl : l.length ≤ 140737488351232) (hmw : ∀ x ∈ m, 0 ≤ x) (hno : ¬ putOk l m s) (hlm : l.length = m.length) (hs : 0 ≤ s) (hs2 : (m.length : Int) ≤ s) :
    Calls Try.prog 12 #[.slice A0 l.length c0, .slice A1 m.length c1, .int .i64 s, .int .u32 (ah : Int)] w fun e w' => e = .returned (.bool true) ∧ Below w.heap.size w w' := by
  have t1n : (l.length == m.length) = true := by simp; omega
  have t1 : ((l.length : Int) == (m.length : Int)) = true := by simp; omega
  have t2 : decide (0 ≤ s) = true := by simp; omega
  have t3 : decide (s < (m.length : Int)) = false := by simp; omega
  have t3l : decide (s < (l.length : Int)) = false := by simp; omega
  clear hlm
  have HR0 := Aside0.mk hr0
  have HR1 := Aside0.mk hr1
  have HMW := Aside0.mk hmw
  have HNO := Aside0.mk hno
  clear hr0 hr1 hmw hno
  have HX8 : Aside0 (((ah : Int) % 8) = ((ah % 8 : Nat) : Int)) := ⟨by omega⟩
  have hah8 : ah % 8 < 8 := by omega
  generalize ah % 8 = x at *
  go_enter Try.func12, Try.ntmps12
  go_wp2_with fail
  refine (newWriter_calls w).mono ?_
  rintro e w1 ⟨rfl, hi1, hb1, hz1⟩
  have HI1 := Aside0.mk hi1
  have HB1 := Aside0.mk hb1
  have HZ1 := Aside0.mk hz1
  clear hi1 hb1 hz1
  go_wp2_with fail
  have h2 := wbits_ok w.heap.size w.heap.size _ [] w1 x 3 HI1.out (by rw [HZ1.out]; omega) (by decide) (by omega) (bitLen_le (by omega)) (by simp)
  rw [HX8.out]
  refine h2.mono ?_
  rintro e w2 ⟨rfl, v2, hi2, hw2⟩
  rw [List.nil_append] at hi2
  have HI2 := Aside0.mk hi2
  have HW2 := Aside0.mk hw2
  have HB2 := Aside0.mk (HB1.out.trans hw2.2.1)
  have HZ2 : Aside0 (w.heap.size ≤ w2.heap.size) := ⟨HB2.out.size⟩
  have HSL : Aside0 (Stays (Kd.int .i64) w2 w.heap.size v2 A0 l.length l) := ⟨Stays.of (Kd.heap_int _) HR0.out HB2.out HI2.out⟩
  have HSM : Aside0 (Stays (Kd.int .u32) w2 w.heap.size v2 A1 m.length m) := ⟨Stays.of (Kd.heap_int _) HR1.out HB2.out HI2.out⟩
  have hl3 : (bitsN x 3).length = 3 := bitsN_length x 3
  clear h2 hi2 hw2
  go_wp2_with fail
  have h3 := put_bad w.heap.size w.heap.size v2 (bitsN x 3) w2 A0 A1 c0 c1 l m s HI2.out HZ2.out (by omega) HSL.out hc0 HSM.out hc1 (by omega) HMW.out HNO.out
  refine h3.mono ?_
  rintro e w3 ⟨rfl, v3, hi3, hw3⟩
  have HI3 := Aside0.mk hi3
  have HB3 := Aside0.mk (HB2.out.trans hw3.2.1)
  have HRL : Aside0 (Kd.C (Kd.int .i64) w3 A0 l.length l) := ⟨(HSL.out.next hw3).now⟩
  have HRM : Aside0 (Kd.C (Kd.int .u32) w3 A1 m.length m) := ⟨(HSM.out.next hw3).now⟩
  clear h3 hi3 hw3 HSL HSM HI1 HI2 HW2 HB2 HZ2 hl3
  go_wp2
  go_quiet (fail)
  go_wp2_with fail
  refine (begun_calls _).mono ?_
  rintro e w4 ⟨rfl, hb4⟩
  have HI4 := Aside0.mk ((HI3.out.drewN nq).below hb4)
  have HB4 := Aside0.mk (below_step (pw_below_drewN HB3.out nq) hb4)
  clear hb4 HI3 HB3 HRL HRM
  go_wp2_with fail
  have h5 := wlen_calls w.heap.size w.heap.size v3 _ w4 HI4.out
  rw [bitsN_length] at h5
  refine h5.mono ?_
  rintro e w5 ⟨rfl, ⟨n5, rfl⟩⟩
  clear h5
  go_wp2
  go_ret
  exact ⟨rfl, pw_below_drewN HB4.out _⟩
set_option maxRecDepth 100000 in
set_option maxHeartbeats 2000000 in
theorem puts_bad4 (w : World) (A0 A1 : Option Addr) (c0 c1 : Nat) (l m : List Int) (s : Int) (ah : Nat) (hr0 : Kd.C (Kd.int .i64) w A0 l.length l) (hc0 : l.length ≤ c0) (hr1 : Kd.C (Kd.int .u32) w A1 m.length m) (hc1 : m.length ≤ c1) (hah : ah < 4294967296)
    (hmax : m.length ≤ 140737488351232) (hmaxl : l.length ≤ 140737488351232) (hmw : ∀ x ∈ m, 0 ≤ x) (hno : ¬ putOk l m s) (hlm : l.length = m.length) (hs : 0 ≤ s) (hs2 : s < m.length) (n : Int) (cd : Nat) (hn : rd l s = n) (hcd : rd m s = (cd : Int)) (hn1 : n < 1) :
    Calls Try.prog 12 #[.slice A0 l.length c0, .slice A1 m.length c1, .int .i64 s, .int .u32 (ah : Int)] w fun e w' => e = .returned (.bool true) ∧ Below w.heap.size w w' := by
  obtain ⟨k, rfl⟩ := Int.eq_ofNat_of_zero_le hs
  have HN := Aside0.mk hn
  have HC := Aside0.mk hcd
  have t1n : (l.length == m.length) = true := by simp; omega
  have t1 : ((l.length : Int) == (m.length : Int)) = true := by simp; omega
  have t2 : decide (0 ≤ (k : Int)) = true := by simp
  have t3 : decide (k < m.length) = true := by simp; omega
  have t4 : decide (1 ≤ n) = false := by simp; omega
  have hkl : k < l.length := by omega
  clear hn hcd hlm
  have HR0 := Aside0.mk hr0
  have HR1 := Aside0.mk hr1
  have HMW := Aside0.mk hmw
  have HNO := Aside0.mk hno
  clear hr0 hr1 hmw hno
  have HX8 : Aside0 (((ah : Int) % 8) = ((ah % 8 : Nat) : Int)) := ⟨by omega⟩
  have hah8 : ah % 8 < 8 := by omega
  generalize ah % 8 = x at *
  go_enter Try.func12, Try.ntmps12
  go_wp2_with fail
  refine (newWriter_calls w).mono ?_
  rintro e w1 ⟨rfl, hi1, hb1, hz1⟩
  have HI1 := Aside0.mk hi1
  have HB1 := Aside0.mk hb1
  have HZ1 := Aside0.mk hz1
  clear hi1 hb1 hz1
  go_wp2_with fail
  have h2 := wbits_ok w.heap.size w.heap.size _ [] w1 x 3 HI1.out (by rw [HZ1.out]; omega) (by decide) (by omega) (bitLen_le (by omega)) (by simp)
  rw [HX8.out]
  refine h2.mono ?_
  rintro e w2 ⟨rfl, v2, hi2, hw2⟩
  rw [List.nil_append] at hi2
  have HI2 := Aside0.mk hi2
  have HW2 := Aside0.mk hw2
  have HB2 := Aside0.mk (HB1.out.trans hw2.2.1)
  have HZ2 : Aside0 (w.heap.size ≤ w2.heap.size) := ⟨HB2.out.size⟩
  have HSL : Aside0 (Stays (Kd.int .i64) w2 w.heap.size v2 A0 l.length l) := ⟨Stays.of (Kd.heap_int _) HR0.out HB2.out HI2.out⟩
  have HSM : Aside0 (Stays (Kd.int .u32) w2 w.heap.size v2 A1 m.length m) := ⟨Stays.of (Kd.heap_int _) HR1.out HB2.out HI2.out⟩
  have hl3 : (bitsN x 3).length = 3 := bitsN_length x 3
  clear h2 hi2 hw2
  go_wp2_with fail
  have h3 := put_bad w.heap.size w.heap.size v2 (bitsN x 3) w2 A0 A1 c0 c1 l m (k : Int) HI2.out HZ2.out (by omega) HSL.out hc0 HSM.out hc1 (by omega) HMW.out HNO.out
  refine h3.mono ?_
  rintro e w3 ⟨rfl, v3, hi3, hw3⟩
  have HI3 := Aside0.mk hi3
  have HB3 := Aside0.mk (HB2.out.trans hw3.2.1)
  have HRL : Aside0 (Kd.C (Kd.int .i64) w3 A0 l.length l) := ⟨(HSL.out.next hw3).now⟩
  have HRM : Aside0 (Kd.C (Kd.int .u32) w3 A1 m.length m) := ⟨(HSM.out.next hw3).now⟩
  clear h3 hi3 hw3 HSL HSM HI1 HI2 HW2 HB2 HZ2 hl3
  obtain ⟨ad, rfl, hx⟩ := Kd.at_int HRL.out (k : Int) (by omega) (by omega)
  obtain ⟨ad2, rfl, hx2⟩ := Kd.at_int HRM.out (k : Int) (by omega) (by omega)
  rw [Int.toNat_natCast] at hx hx2
  rw [HN.out] at hx
  rw [HC.out] at hx2
  go_wp2
  go_quiet (fail)
  go_wp2_with fail
  refine (begun_calls _).mono ?_
  rintro e w4 ⟨rfl, hb4⟩
  have HI4 := Aside0.mk ((HI3.out.drewN nq).below hb4)
  have HB4 := Aside0.mk (below_step (pw_below_drewN HB3.out nq) hb4)
  clear hb4 HI3 HB3 HRL HRM
  go_wp2_with fail
  have h5 := wlen_calls w.heap.size w.heap.size v3 _ w4 HI4.out
  rw [bitsN_length] at h5
  refine h5.mono ?_
  rintro e w5 ⟨rfl, ⟨n5, rfl⟩⟩
  clear h5
  go_wp2
  go_ret
  exact ⟨rfl, pw_below_drewN HB4.out _⟩
set_option maxRecDepth 100000 in
set_option maxHeartbeats 2000000 in
theorem puts_bad5 (w : World) (A0 A1 : Option Addr) (c0 c1 : Nat) (l m : List Int) (s : Int) (ah : Nat) (hr0 : Kd.C (Kd.int .i64) w A0 l.length l) (hc0 : l.length ≤ c0) (hr1 : Kd.C (Kd.int .u32) w A1 m.length m) (hc1 : m.length ≤ c1) (hah : ah < 4294967296)
    (hmax : m.length ≤ 140737488351232) (hmaxl : l.length ≤ 140737488351232) (hmw : ∀ x ∈ m, 0 ≤ x) (hno : ¬ putOk l m s) (hlm : l.length = m.length) (hs : 0 ≤ s) (hs2 : s < m.length) (n : Int) (cd : Nat) (hn : rd l s = n) (hcd : rd m s = (cd : Int)) (hn1 : 15 < n) :
    Calls Try.prog 12 #[.slice A0 l.length c0, .slice A1 m.length c1, .int .i64 s, .int .u32 (ah : Int)] w fun e w' => e = .returned (.bool true) ∧ Below w.heap.size w w' := by
  obtain ⟨k, rfl⟩ := Int.eq_ofNat_of_zero_le hs
  have HN := Aside0.mk hn
  have HC := Aside0.mk hcd
  have t1n : (l.length == m.length) = true := by simp; omega
  have t1 : ((l.length : Int) == (m.length : Int)) = true := by simp; omega
  have t2 : decide (0 ≤ (k : Int)) = true := by simp
  have t3 : decide (k < m.length) = true := by simp; omega
  have t4 : decide (1 ≤ n) = true := by simp; omega
  have t5 : decide (n ≤ 15) = false := by simp; omega
  have hkl : k < l.length := by omega
  clear hn hcd hlm
  have HR0 := Aside0.mk hr0
  have HR1 := Aside0.mk hr1
  have HMW := Aside0.mk hmw
  have HNO := Aside0.mk hno
  clear hr0 hr1 hmw hno
  have HX8 : Aside0 (((ah : Int) % 8) = ((ah % 8 : Nat) : Int)) := ⟨by omega⟩
  have hah8 : ah % 8 < 8 := by omega
  generalize ah % 8 = x at *
  go_enter Try.func12, Try.ntmps12
  go_wp2_with fail
  refine (newWriter_calls w).mono ?_
  rintro e w1 ⟨rfl, hi1, hb1, hz1⟩
  have HI1 := Aside0.mk hi1
  have HB1 := Aside0.mk hb1
  have HZ1 := Aside0.mk hz1
  clear hi1 hb1 hz1
  go_wp2_with fail
  have h2 := wbits_ok w.heap.size w.heap.size _ [] w1 x 3 HI1.out (by rw [HZ1.out]; omega) (by decide) (by omega) (bitLen_le (by omega)) (by simp)
  rw [HX8.out]
  refine h2.mono ?_
  rintro e w2 ⟨rfl, v2, hi2, hw2⟩
  rw [List.nil_append] at hi2
  have HI2 := Aside0.mk hi2
  have HW2 := Aside0.mk hw2
  have HB2 := Aside0.mk (HB1.out.trans hw2.2.1)
  have HZ2 : Aside0 (w.heap.size ≤ w2.heap.size) := ⟨HB2.out.size⟩
  have HSL : Aside0 (Stays (Kd.int .i64) w2 w.heap.size v2 A0 l.length l) := ⟨Stays.of (Kd.heap_int _) HR0.out HB2.out HI2.out⟩
  have HSM : Aside0 (Stays (Kd.int .u32) w2 w.heap.size v2 A1 m.length m) := ⟨Stays.of (Kd.heap_int _) HR1.out HB2.out HI2.out⟩
  have hl3 : (bitsN x 3).length = 3 := bitsN_length x 3
  clear h2 hi2 hw2
  go_wp2_with fail
  have h3 := put_bad w.heap.size w.heap.size v2 (bitsN x 3) w2 A0 A1 c0 c1 l m (k : Int) HI2.out HZ2.out (by omega) HSL.out hc0 HSM.out hc1 (by omega) HMW.out HNO.out
  refine h3.mono ?_
  rintro e w3 ⟨rfl, v3, hi3, hw3⟩
  have HI3 := Aside0.mk hi3
  have HB3 := Aside0.mk (HB2.out.trans hw3.2.1)
  have HRL : Aside0 (Kd.C (Kd.int .i64) w3 A0 l.length l) := ⟨(HSL.out.next hw3).now⟩
  have HRM : Aside0 (Kd.C (Kd.int .u32) w3 A1 m.length m) := ⟨(HSM.out.next hw3).now⟩
  clear h3 hi3 hw3 HSL HSM HI1 HI2 HW2 HB2 HZ2 hl3
  obtain ⟨ad, rfl, hx⟩ := Kd.at_int HRL.out (k : Int) (by omega) (by omega)
  obtain ⟨ad2, rfl, hx2⟩ := Kd.at_int HRM.out (k : Int) (by omega) (by omega)
  rw [Int.toNat_natCast] at hx hx2
  rw [HN.out] at hx
  rw [HC.out] at hx2
  go_wp2
  go_quiet (fail)
  go_wp2_with fail
  refine (begun_calls _).mono ?_
  rintro e w4 ⟨rfl, hb4⟩
  have HI4 := Aside0.mk ((HI3.out.drewN nq).below hb4)
  have HB4 := Aside0.mk (below_step (pw_below_drewN HB3.out nq) hb4)
  clear hb4 HI3 HB3 HRL HRM
  go_wp2_with fail
  have h5 := wlen_calls w.heap.size w.heap.size v3 _ w4 HI4.out
  rw [bitsN_length] at h5
  refine h5.mono ?_
  rintro e w5 ⟨rfl, ⟨n5, rfl⟩⟩
  clear h5
  go_wp2
  go_ret
  exact ⟨rfl, pw_below_drewN HB4.out _⟩
set_option maxRecDepth 100000 in
set_option maxHeartbeats 2000000 in
theorem puts_bad6 (w : World) (A0 A1 : Option Addr) (c0 c1 : Nat) (l m : List Int) (s : Int) (ah : Nat) (hr0 : Kd.C (Kd.int .i64) w A0 l.length l) (hc0 : l.length ≤ c0) (hr1 : Kd.C (Kd.int .u32) w A1 m.length m) (hc1 : m.length ≤ c1) (hah : ah < 4294967296)
    (hmax : m.length ≤ 140737488351232) (hmaxl : l.length ≤ 140737488351232) (hmw : ∀ x ∈ m, 0 ≤ x) (hno : ¬ putOk l m s) (hlm : l.length = m.length) (hs : 0 ≤ s) (hs2 : s < m.length) (n cd : Nat) (hn : rd l s = (n : Int)) (hcd : rd m s = (cd : Int)) (hn1 : 1 ≤ n) (hn15 : n ≤ 15) (hcn : ¬ cd < 2 ^ n) :
    Calls Try.prog 12 #[.slice A0 l.length c0, .slice A1 m.length c1, .int .i64 s, .int .u32 (ah : Int)] w fun e w' => e = .returned (.bool true) ∧ Below w.heap.size w w' := by
  obtain ⟨k, rfl⟩ := Int.eq_ofNat_of_zero_le hs
  have HN := Aside0.mk hn
  have HC := Aside0.mk hcd
  have t1n : (l.length == m.length) = true := by simp; omega
  have t1 : ((l.length : Int) == (m.length : Int)) = true := by simp; omega
  have t2 : decide (0 ≤ (k : Int)) = true := by simp
  have t3 : decide (k < m.length) = true := by simp; omega
  have t4 : decide (1 ≤ (n : Int)) = true := by simp; omega
  have t5 : decide ((n : Int) ≤ 15) = true := by simp; omega
  have t5n : decide (n ≤ 15) = true := by simp; omega
  have t6 : decide ((cd : Int) < 2 ^ n % 4294967296) = false := by
    have h1 : 2 ^ n ≤ 32768 := Nat.le_trans (Nat.pow_le_pow_right (by omega) hn15) (by decide)
    rw [two_pow_cast]
    generalize 2 ^ n = p at *
    simp; omega
  have hkl : k < l.length := by omega
  clear hn hcd hlm
  have HR0 := Aside0.mk hr0
  have HR1 := Aside0.mk hr1
  have HMW := Aside0.mk hmw
  have HNO := Aside0.mk hno
  clear hr0 hr1 hmw hno
  have HX8 : Aside0 (((ah : Int) % 8) = ((ah % 8 : Nat) : Int)) := ⟨by omega⟩
  have hah8 : ah % 8 < 8 := by omega
  generalize ah % 8 = x at *
  go_enter Try.func12, Try.ntmps12
  go_wp2_with fail
  refine (newWriter_calls w).mono ?_
  rintro e w1 ⟨rfl, hi1, hb1, hz1⟩
  have HI1 := Aside0.mk hi1
  have HB1 := Aside0.mk hb1
  have HZ1 := Aside0.mk hz1
  clear hi1 hb1 hz1
  go_wp2_with fail
  have h2 := wbits_ok w.heap.size w.heap.size _ [] w1 x 3 HI1.out (by rw [HZ1.out]; omega) (by decide) (by omega) (bitLen_le (by omega)) (by simp)
  rw [HX8.out]
  refine h2.mono ?_
  rintro e w2 ⟨rfl, v2, hi2, hw2⟩
  rw [List.nil_append] at hi2
  have HI2 := Aside0.mk hi2
  have HW2 := Aside0.mk hw2
  have HB2 := Aside0.mk (HB1.out.trans hw2.2.1)
  have HZ2 : Aside0 (w.heap.size ≤ w2.heap.size) := ⟨HB2.out.size⟩
  have HSL : Aside0 (Stays (Kd.int .i64) w2 w.heap.size v2 A0 l.length l) := ⟨Stays.of (Kd.heap_int _) HR0.out HB2.out HI2.out⟩
  have HSM : Aside0 (Stays (Kd.int .u32) w2 w.heap.size v2 A1 m.length m) := ⟨Stays.of (Kd.heap_int _) HR1.out HB2.out HI2.out⟩
  have hl3 : (bitsN x 3).length = 3 := bitsN_length x 3
  clear h2 hi2 hw2
  go_wp2_with fail
  have h3 := put_bad w.heap.size w.heap.size v2 (bitsN x 3) w2 A0 A1 c0 c1 l m (k : Int) HI2.out HZ2.out (by omega) HSL.out hc0 HSM.out hc1 (by omega) HMW.out HNO.out
  refine h3.mono ?_
  rintro e w3 ⟨rfl, v3, hi3, hw3⟩
  have HI3 := Aside0.mk hi3
  have HB3 := Aside0.mk (HB2.out.trans hw3.2.1)
  have HRL : Aside0 (Kd.C (Kd.int .i64) w3 A0 l.length l) := ⟨(HSL.out.next hw3).now⟩
  have HRM : Aside0 (Kd.C (Kd.int .u32) w3 A1 m.length m) := ⟨(HSM.out.next hw3).now⟩
  clear h3 hi3 hw3 HSL HSM HI1 HI2 HW2 HB2 HZ2 hl3
  obtain ⟨ad, rfl, hx⟩ := Kd.at_int HRL.out (k : Int) (by omega) (by omega)
  obtain ⟨ad2, rfl, hx2⟩ := Kd.at_int HRM.out (k : Int) (by omega) (by omega)
  rw [Int.toNat_natCast] at hx hx2
  rw [HN.out] at hx
  rw [HC.out] at hx2
  go_wp2
  go_quiet (fail)
  go_wp2_with fail
  refine (begun_calls _).mono ?_
  rintro e w4 ⟨rfl, hb4⟩
  have HI4 := Aside0.mk ((HI3.out.drewN nq).below hb4)
  have HB4 := Aside0.mk (below_step (pw_below_drewN HB3.out nq) hb4)
  clear hb4 HI3 HB3 HRL HRM
  go_wp2_with fail
  have h5 := wlen_calls w.heap.size w.heap.size v3 _ w4 HI4.out
  rw [bitsN_length] at h5
  refine h5.mono ?_
  rintro e w5 ⟨rfl, ⟨n5, rfl⟩⟩
  clear h5
  go_wp2
  go_ret
  exact ⟨rfl, pw_below_drewN HB4.out _⟩
theorem huffPuts_walk (w : World) (A0 : Option Addr) (c0 : Nat) (l : List Int) (hr0 : Kd.C (Kd.int .i64) w A0 l.length l) (hc0 : l.length ≤ c0) (hy0 : l.length * 8 ≤ 140737488351232) (hw0 : ∀ x ∈ l, (Lit.int .i64 x).wf = true)
    (A1 : Option Addr) (c1 : Nat) (m : List Int) (hr1 : Kd.C (Kd.int .u32) w A1 m.length m) (hc1 : m.length ≤ c1) (hy1 : m.length * 4 ≤ 140737488351232) (hw1 : ∀ x ∈ m, (Lit.int .u32 x).wf = true)
    (s : Int) (w2 : (Lit.int .i64 s).wf = true) (a : Int) (w3 : (Lit.int .u32 a).wf = true) :
    Calls Try.prog 12 #[.slice A0 l.length c0, .slice A1 m.length c1, .int .i64 s, .int .u32 a] w fun e w' => e = .returned (.bool true) ∧ Below w.heap.size w w' := by
  have ha := bounds_u32 w3
  obtain ⟨ah, rfl⟩ := Int.eq_ofNat_of_zero_le ha.1
  have hmw : ∀ x ∈ m, 0 ≤ x := fun x hx => (bounds_u32 (hw1 x hx)).1
  by_cases hok : putOk l m s
  · obtain ⟨h1, h2, h3, h4, h5, h6⟩ := hok
    obtain ⟨k, rfl⟩ := Int.eq_ofNat_of_zero_le h2
    obtain ⟨n, hn⟩ := Int.eq_ofNat_of_zero_le (show 0 ≤ rd l (k : Int) by omega)
    have hk : k < m.length := by omega
    have e : rd m (k : Int) = m[k] := by simp [rd, List.getD_eq_getElem?_getD, hk]
    obtain ⟨cd, hcd⟩ := Int.eq_ofNat_of_zero_le (show 0 ≤ rd m (k : Int) by rw [e]; exact hmw _ (List.getElem_mem hk))
    rw [hcd, hn, Int.toNat_natCast, two_pow_cast] at h6
    exact puts_ok w A0 A1 c0 c1 l m k n cd ah hr0 hc0 hr1 hc1 (by omega) h1 (by omega) hn hcd (by omega) (by omega) (by omega) (by omega)
  · by_cases h1 : l.length = m.length
    · by_cases h2 : s < 0
      · exact puts_bad2 w A0 A1 c0 c1 l m s ah hr0 hc0 hr1 hc1 (by omega) (by omega) (by omega) hmw hok h1 h2
      · by_cases h3 : (m.length : Int) ≤ s
        · exact puts_bad3 w A0 A1 c0 c1 l m s ah hr0 hc0 hr1 hc1 (by omega) (by omega) (by omega) hmw hok h1 (by omega) h3
        · obtain ⟨k, rfl⟩ := Int.eq_ofNat_of_zero_le (show 0 ≤ s by omega)
          have hk : k < m.length := by omega
          have e : rd m (k : Int) = m[k] := by simp [rd, List.getD_eq_getElem?_getD, hk]
          obtain ⟨cd, hcd⟩ := Int.eq_ofNat_of_zero_le (show 0 ≤ rd m (k : Int) by rw [e]; exact hmw _ (List.getElem_mem hk))
          by_cases h4 : rd l (k : Int) < 1
          · exact puts_bad4 w A0 A1 c0 c1 l m _ ah hr0 hc0 hr1 hc1 (by omega) (by omega) (by omega) hmw hok h1 (by omega) (by omega) _ cd rfl hcd h4
          · by_cases h5 : 15 < rd l (k : Int)
            · exact puts_bad5 w A0 A1 c0 c1 l m _ ah hr0 hc0 hr1 hc1 (by omega) (by omega) (by omega) hmw hok h1 (by omega) (by omega) _ cd rfl hcd h5
            · obtain ⟨n, hn⟩ := Int.eq_ofNat_of_zero_le (show 0 ≤ rd l (k : Int) by omega)
              refine puts_bad6 w A0 A1 c0 c1 l m _ ah hr0 hc0 hr1 hc1 (by omega) (by omega) (by omega) hmw hok h1 (by omega) (by omega) n cd hn hcd (by omega) (by omega) (fun hlt => hok ⟨h1, by omega, by omega, by omega, by omega, ?_⟩)
              rw [hcd, hn, Int.toNat_natCast, two_pow_cast]; omega
    · exact puts_bad1 w A0 A1 c0 c1 l m s ah hr0 hc0 hr1 hc1 (by omega) (by omega) (by omega) hmw hok h1
end Go.Proofs.Ytlepnpjlmcjedaa.Hw
