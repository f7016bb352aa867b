import Derived.Test.YtlepnpjlmcjedaaOwnKit
import Derived.Test.YtlepnpjlmcjedaaPHx4
/- BitioOwn, walked. -/
namespace Go.Proofs.Ytlepnpjlmcjedaa.Hw
open Go.RowKit Go.Proofs.YtlepnpjlmcjedaaW.PrintWords Go.Proofs.YtlepnpjlmcjedaaW.PrintLast Go.Proofs.YtlepnpjlmcjedaaW.PrintMore Go.Proofs.Ytlepnpjlmcjedaa.PH
set_option linter.unusedVariables false
set_option linter.unusedSimpArgs false
set_option maxRecDepth 100000 in
set_option maxHeartbeats 2000000 in
theorem own_walk (w : World) (A0 : Option Addr) (c0 : Nat) (l : List Int) (hr0 : Kd.C (Kd.int .u8) w A0 l.length l) (hc0 : l.length ≤ c0) (hy0 : l.length ≤ 140737488351232) (hb0 : IsBytes l) (a : Nat) (ha : a ≤ 255) :
    Calls Try.prog 9 #[.slice A0 l.length c0, .int .u8 (a : Int)] w fun e w' => e = .returned (.bool true) ∧ Below w.heap.size w w' := by
  obtain ⟨q, hq⟩ : ∃ q, q = min a l.length := ⟨_, rfl⟩
  have hmin : min (a : Int) (l.length : Int) = (q : Int) := by omega
  have hql : q ≤ l.length := by omega
  obtain ⟨i5, hi5, hsz5⟩ := infoS1
  have hcutT := cut_to (P := Try.prog) 37 5 .i64 Try.underlying37 hi5 A0 l.length c0 (q : Int) (by omega) (by omega) hc0
  have hcutF := cut_from (P := Try.prog) 37 5 .i64 Try.underlying37 hi5 1 hsz5 A0 l.length c0 (q : Int) (by omega) (by omega)
  rw [Int.toNat_natCast] at hcutT hcutF
  have HT := Aside0.mk (Kd.C_take (m := q) hr0 hql)
  have HD := Aside0.mk (Kd.C_drop (m := q) hr0 hql hc0)
  rw [show Kd.sz (Kd.int .u8) = 1 from rfl] at HD
  have hlt : (l.take q).length = q := by simp; omega
  have hld : (l.drop q).length = l.length - q := by simp
  obtain ⟨r, hr⟩ : ∃ r, r = l.length - q := ⟨_, rfl⟩
  rw [← hr] at hcutF hld
  have HQR := Aside0.mk (show q + r = l.length from by omega)
  have hdiv : 8 * (r : Int) / 8 = (r : Int) := by omega
  have hrl : r ≤ 140737488351232 := by omega
  have hwr : wrap64 (r : Int) = (r : Int) := w64 (by omega) (by omega)
  clear hr
  generalize (if c0 = q then A0 else A0.map (·.add (q * 1))) = AD at HD hcutF
  have HQ := Aside0.mk hq
  have HLT := Aside0.mk hlt
  have HLD := Aside0.mk hld
  clear hq hi5 hsz5 hlt hld
  have HR0 := Aside0.mk hr0
  have HO : Aside0 ((Kd.int .u8).R 5 (w.alloc (.cells #[] 5)) w.heap.size (fun _ => True) (.slice (some ⟨w.heap.size, 0, none⟩) 0 0) []) := ⟨(Arr.new w 5 .u8 []).own (Nat.le_refl _) (by decide) _ trivial⟩
  have HC1 : Aside0 ((Kd.int .u8).C (w.alloc (.cells #[] 5)) A0 l.length l) := ⟨Kd.C_alloc hr0 _⟩
  have HBL := Aside0.mk ((Below.refl w.heap.size w).alloc (Nat.le_refl _) (.cells #[] 5))
  have HBS : Aside0 (w.heap.size ≤ (w.alloc (.cells #[] 5)).heap.size) := ⟨by simp⟩
  clear hr0
  go_enter Try.func9, Try.ntmps9
  go_wp2_with (refine Kd.R_append_row (Value.int .u8) 0 (w0 := w) w.heap.size rfl _ _ 37 5 (.int .u8 0) 1 rfl Try.underlying37 infoB8 rfl (by decide) (.slice (some ⟨w.heap.size, 0, none⟩) 0 0) [] l A0 l.length c0 (fun _ => True) rfl rfl (fun _ _ => trivial) HO.out HC1.out HBL.out HBS.out (by simp; omega) ?_; intro v1 w1 hv1 hb1 hg1 hat1; rw [List.nil_append] at hv1; obtain ⟨A1, c1, rfl, hc1, _⟩ := Kd.R_reads hv1; have HV1 := Aside0.mk hv1; have HB1 := Aside0.mk hb1; clear hv1 hb1 hg1 hat1)
  clear HO HC1 HBL HBS
  refine (newRd_calls A1 c1 l w1 (Kd.R_reads' HV1.out).2.2 hc1 hy0).mono ?_
  rintro e w2 ⟨gr, vr, rfl, hr2, hb2⟩
  have HR2 := Aside0.mk hr2
  have HB2 := Aside0.mk hb2
  clear hr2 hb2
  go_wp2_with fail
  refine (newWriter_calls w2).mono ?_
  rintro e w3 ⟨rfl, hw3, hb3, hs3⟩
  have HW3 := Aside0.mk hw3
  have HB3 := Aside0.mk hb3
  clear hw3 hb3 hs3
  go_wp2_with fail
  refine (live1_calls w3).mono ?_
  rintro e w4 ⟨rfl, hb4⟩
  have HB4 := Aside0.mk hb4
  clear hb4
  have hm4 : (Kd.int .u8).R 5 w4 w.heap.size (fun _ => True) (.slice A1 l.length c1) l := Kd.R_below (Kd.R_below (Kd.R_below HV1.out HB2.out) HB3.out) HB4.out
  have HM4 := Aside0.mk hm4
  have HR4 : Aside0 (RdS w1.heap.size w4 gr vr l 0) := ⟨(HR2.out.below HB3.out).below HB4.out⟩
  have HW4 : Aside0 (WS w2.heap.size w4 w2.heap.size (.slice none 0 0) []) := ⟨HW3.out.below HB4.out⟩
  have HS : Aside0 (w.heap.size ≤ w1.heap.size ∧ w1.heap.size ≤ w2.heap.size ∧ w2.heap.size ≤ w3.heap.size ∧ w3.heap.size ≤ w4.heap.size) := ⟨HB1.out.size, HB2.out.size, HB3.out.size, HB4.out.size⟩
  clear hm4
  go_wp2_with fail
  refine (wbytes_calls w2.heap.size w2.heap.size (.slice none 0 0) [] w4 A1 c1 l HW4.out (by have := HS.out; omega) (Kd.R_reads' HM4.out).2.2 hc1 hb0 (by simp; omega)).mono ?_
  rintro e w5 ⟨rfl, vw, hw5, hf5⟩
  have hne5 : ∀ j : Nat, j ≠ w2.heap.size → ¬ (j = w2.heap.size ∨ (Value.slice none 0 0).ownBlock = some j) := by
    rintro j hj (h | h)
    · exact hj h
    · simp [Value.ownBlock] at h
  have HM5 : Aside0 ((Kd.int .u8).R 5 w5 w.heap.size (fun _ => True) (.slice A1 l.length c1) l) := ⟨R_kept1 HM4.out hf5.1 (fun j hj => hne5 j (by have := Kd.R_lt HV1.out j hj; have := HS.out; omega))⟩
  have HR5 : Aside0 (RdS w1.heap.size w5 gr vr l 0) := ⟨HR4.out.kept hf5.1 (hne5 gr (by have := blk_lt HR2.out.1; omega)) (fun j hj => hne5 j (by have := Kd.R_lt HR2.out.2.2 j hj; omega))⟩
  have HW5 := Aside0.mk hw5
  have HB5 : Aside0 (Below w.heap.size w w5) := ⟨below_weaken (below_step (below_step (below_step HB1.out HB2.out) HB3.out) HB4.out) (by have := HS.out; omega) hf5.2.1⟩
  clear hw5 hf5 hne5 HM4 HR4 HW4 HB1 HB2 HB3 HB4
  go_wp2
  go_loopw [36] (fun i wr => ∃ k : Nat, k ≤ l.length ∧ i = .int .i64 k ∧ Aside0 (Flip w.heap.size w5 wr (.slice A1 l.length c1) l.length)) (fun i _ => l.length - (intOf i).toNat)
  case atStart => exact ⟨0, Nat.zero_le _, rfl, ⟨Flip.start HM5.out rfl⟩⟩
  case round =>
    obtain ⟨k, hk, rfl, HF⟩ := hrel
    by_cases hlt : k < l.length
    · obtain ⟨g, y, rfl, f1, f2, f3⟩ := HF.out.cell hlt
      have HF3 := Aside0.mk f3
      clear f3
      go_wp2
      refine ⟨?rel, ?measure⟩
      case rel => exact ⟨k + 1, by omega, by go_num, ⟨HF3.out _⟩⟩
      case measure => simp [intOf]; omega
    · obtain rfl : k = l.length := by omega
      obtain ⟨wp, hwp⟩ : ∃ x, x = wr := ⟨_, rfl⟩
      subst hwp
      have hf := HF.out
      obtain ⟨xs, _, _, hk6, hb6⟩ := hf
      have HB6 := Aside0.mk (HB5.out.trans hb6)
      have HR6 : Aside0 (RdS w1.heap.size wp gr vr l 0) := ⟨HR5.out.kept hk6 (fun e => by have := Kd.R_lt HV1.out _ e; have := HR5.out.2.1; omega) (fun j hj e => by have := Kd.R_lt HV1.out _ e; have := Kd.R_base HR5.out.2.2 j hj; omega)⟩
      have HW6 : Aside0 (WS w2.heap.size wp w2.heap.size vw (aligned [] ++ bitsOf l)) := ⟨HW5.out.kept hk6 (fun e => by have := Kd.R_lt HV1.out _ e; have := HS.out; omega) (fun j hj e => by have := Kd.R_lt HV1.out _ e; have := Kd.R_base HW5.out.2.2 j hj; have := HS.out; omega)⟩
      clear hk6 hb6 HF HR5 HW5 HM5 HB5
      go_wp2_with fail
      refine (rd_bytes_ok' w1.heap.size gr vr l 0 q wp HR6.out hy0 (by omega)).mono ?_
      rintro e w7 ⟨vx, rfl, hr7, hx7, hk7, hb7⟩
      rw [show (0 + 7) / 8 = 0 from rfl, List.drop_zero] at hx7
      rw [show 8 * ((0 + 7) / 8 + q) = 8 * q from by omega] at hr7
      obtain ⟨Ax, cx, rfl, hcx, _⟩ := Kd.R_reads hx7
      rw [HLT.out] at hcx hx7
      have HR7 := Aside0.mk hr7
      have HX7 := Aside0.mk hx7
      have HB7 : Aside0 (Below w.heap.size w w7) := ⟨below_weaken HB6.out (by have := HS.out; omega) hb7⟩
      have HW7 : Aside0 (WS w2.heap.size w7 w2.heap.size vw (aligned [] ++ bitsOf l)) := ⟨HW6.out.kept hk7 (by have := HR2.out.lt.1; omega) (fun j hj e => by have := Kd.R_base HW6.out.2.2 j hj; have := HR2.out.lt.1; omega)⟩
      have HBW : Aside0 (w.heap.size ≤ wp.heap.size ∧ wp.heap.size ≤ w7.heap.size) := ⟨HB6.out.size, hb7.size⟩
      clear hr7 hx7 hk7 hb7
      rw [HLT.out]
      go_wp2_with fail
      have hE := bytes_Equal.calls Ax cx (l.take q) A0 c0 (l.take q) true w7 (by have := (Kd.R_reads' HX7.out).2.2; exact this) (by rw [HLT.out]; exact hcx) (Kd.C_below HT.out (Below.mono HB7.out (Nat.le_refl _))) (by rw [HLT.out]; omega) (by simp [bytes_Equal.f])
      rw [HLT.out] at hE
      refine hE.mono ?_
      rintro e w8 ⟨rfl, ⟨n8, rfl⟩⟩
      clear hE
      have HX8 : Aside0 ((Kd.int .u8).R 5 (w7.drewN n8) wp.heap.size (fun _ => True) (.slice Ax q cx) (l.take q)) := ⟨Kd.R_drewN HX7.out _⟩
      have HR8 : Aside0 (RdS w1.heap.size (w7.drewN n8) gr vr l (8 * q)) := ⟨HR7.out.drewN _⟩
      have HW8 : Aside0 (WS w2.heap.size (w7.drewN n8) w2.heap.size vw (aligned [] ++ bitsOf l)) := ⟨HW7.out.drewN _⟩
      have HB8 : Aside0 (Below w.heap.size w (w7.drewN n8)) := ⟨pw_below_drewN HB7.out _⟩
      have HBX : Aside0 (w.heap.size ≤ wp.heap.size ∧ wp.heap.size ≤ (w7.drewN n8).heap.size) := ⟨HBW.out⟩
      clear HX7 HR7 HW7 HB7 HBW
      generalize w7.drewN n8 = W8 at *
      have HO8 : Aside0 ((Kd.int .u8).R 5 (W8.alloc (.cells #[.int .u8 7] 5)) wp.heap.size (fun _ => True) (.slice Ax q cx) (l.take q)) := ⟨Kd.R_alloc HX8.out _⟩
      have HC8 : Aside0 ((Kd.int .u8).C (W8.alloc (.cells #[.int .u8 7] 5)) (some ⟨W8.heap.size, 0, none⟩) 1 [7]) := ⟨(Arr.new W8 5 .u8 [7]).reads (by decide)⟩
      have hl7 : (l.take q ++ [7]).length = q + 1 := by rw [List.length_append, HLT.out]; rfl
      have HL7 := Aside0.mk hl7
      clear hl7
      go_wp2_with (refine Kd.R_append_row (Value.int .u8) 0 (w0 := W8) wp.heap.size rfl _ _ 37 5 (.int .u8 0) 1 rfl Try.underlying37 infoB8 rfl (by decide) (.slice Ax q cx) (l.take q) [7] (some ⟨W8.heap.size, 0, none⟩) 1 1 (fun _ => True) rfl rfl (fun _ _ => trivial) HO8.out HC8.out ((Below.refl _ _).alloc HBX.out.2 _) (by have := HBX.out; simp; omega) (by rw [HLT.out]; omega) ?_; intro v9 w9 hv9 hb9 hg9 hat9; obtain ⟨A9, c9, hv9e, hc9, _⟩ := Kd.R_reads hv9; rw [HL7.out] at hv9e hc9; subst hv9e; have HX9 := Aside0.mk hv9; have HB9 := Aside0.mk hb9; clear hv9 hb9 hg9 hat9)
      go_loopw [75] (fun i wq => ∃ k : Nat, k ≤ q + 1 ∧ i = .int .i64 k ∧ Aside0 (Flip wp.heap.size w9 wq (.slice A9 (q + 1) c9) (q + 1))) (fun i _ => q + 1 - (intOf i).toNat)
      case atStart => exact ⟨0, Nat.zero_le _, rfl, ⟨Flip.start HX9.out HL7.out⟩⟩
      case round =>
        obtain ⟨k, hk, rfl, HF⟩ := hrel
        obtain ⟨wq, hwq⟩ : ∃ x, x = wr := ⟨_, rfl⟩
        subst hwq
        by_cases hlt : k < q + 1
        · obtain ⟨g, y, rfl, f1, f2, f3⟩ := HF.out.cell hlt
          have HF3 := Aside0.mk f3
          clear f3
          go_wp2
          refine ⟨?rel, ?measure⟩
          case rel => exact ⟨k + 1, by omega, by go_num, ⟨HF3.out _⟩⟩
          case measure => simp [intOf]; omega
        · obtain rfl : k = q + 1 := by omega
          have hf : Below wp.heap.size W8 wq := HB9.out.trans HF.out.choose_spec.2.2.2
          have HRA : Aside0 (RdS w1.heap.size wq gr vr l (8 * q)) := ⟨HR8.out.low HR6.out.lt hf⟩
          have HWA : Aside0 (WS w2.heap.size wq w2.heap.size vw (aligned [] ++ bitsOf l)) := ⟨HW8.out.low HW6.out.lt hf⟩
          have HBA : Aside0 (Below w.heap.size w wq) := ⟨below_weaken HB8.out HBX.out.1 hf⟩
          clear hf HF HX9 HB9 HX8 HR8 HW8 HB8 HBX HO8 HC8
          have hal : (aligned [] ++ bitsOf l).length = 8 * l.length := by simp [aligned, bitsOf_length]
          have hpk : pack (aligned [] ++ bitsOf l) = l := by rw [pack_append [] l hb0, pack_nil, List.nil_append]
          have HAL := Aside0.mk hal
          have HPK := Aside0.mk hpk
          clear hal hpk
          go_wp2_with fail
          have hO := wout_calls w2.heap.size w2.heap.size vw _ wq HWA.out (by rw [HAL.out]; omega)
          rw [HPK.out] at hO
          refine hO.mono ?_
          rintro e wa ⟨ya, rfl, hya, hba⟩
          clear hO
          obtain ⟨Aa, ca, rfl, hca, _⟩ := Kd.R_reads hya
          have HXa := Aside0.mk hya
          have HBa := Aside0.mk hba
          clear hya hba
          go_wp2_with fail
          have hE := bytes_Equal.calls Aa ca l A0 c0 l true wa (Kd.R_reads' HXa.out).2.2 hca (Kd.C_below HR0.out (below_step HBA.out HBa.out)) hc0 (by simp [bytes_Equal.f])
          refine hE.mono ?_
          rintro e wb ⟨rfl, ⟨nb, rfl⟩⟩
          clear hE
          have HXb : Aside0 ((Kd.int .u8).R 5 (wa.drewN nb) wq.heap.size (fun _ => True) (.slice Aa l.length ca) l) := ⟨Kd.R_drewN HXa.out _⟩
          have HRb : Aside0 (RdS w1.heap.size (wa.drewN nb) gr vr l (8 * q)) := ⟨(HRA.out.below HBa.out).drewN _⟩
          have HWb : Aside0 (WS w2.heap.size (wa.drewN nb) w2.heap.size vw (aligned [] ++ bitsOf l)) := ⟨(HWA.out.below HBa.out).drewN _⟩
          have HBb : Aside0 (Below w.heap.size w (wa.drewN nb)) := ⟨pw_below_drewN (below_step HBA.out HBa.out) _⟩
          have HBY : Aside0 (w.heap.size ≤ wq.heap.size ∧ wq.heap.size ≤ (wa.drewN nb).heap.size) := ⟨HBA.out.size, HBa.out.size⟩
          clear HXa HBa HBA
          generalize wa.drewN nb = Wb at *
          have HOb : Aside0 ((Kd.int .u8).R 5 (Wb.alloc (.cells #[.int .u8 9] 5)) wq.heap.size (fun _ => True) (.slice Aa l.length ca) l) := ⟨Kd.R_alloc HXb.out _⟩
          have HCb : Aside0 ((Kd.int .u8).C (Wb.alloc (.cells #[.int .u8 9] 5)) (some ⟨Wb.heap.size, 0, none⟩) 1 [9]) := ⟨(Arr.new Wb 5 .u8 [9]).reads (by decide)⟩
          have hl9 : (l ++ [9]).length = l.length + 1 := by rw [List.length_append]; rfl
          have HL9 := Aside0.mk hl9
          clear hl9
          go_wp2_with (refine Kd.R_append_row (Value.int .u8) 0 (w0 := Wb) wq.heap.size rfl _ _ 37 5 (.int .u8 0) 1 rfl Try.underlying37 infoB8 rfl (by decide) (.slice Aa l.length ca) l [9] (some ⟨Wb.heap.size, 0, none⟩) 1 1 (fun _ => True) rfl rfl (fun _ _ => trivial) HOb.out HCb.out ((Below.refl _ _).alloc HBY.out.2 _) (by have := HBY.out; simp; omega) (by omega) ?_; intro v9 w9 hv9 hb9 hg9 hat9; obtain ⟨A9, c9, hv9e, hc9, _⟩ := Kd.R_reads hv9; rw [HL9.out] at hv9e hc9; subst hv9e; have HX9 := Aside0.mk hv9; have HB9 := Aside0.mk hb9; clear hv9 hb9 hg9 hat9)
          go_loopw [96] (fun i wr => ∃ k : Nat, k ≤ l.length + 1 ∧ i = .int .i64 k ∧ Aside0 (Flip wq.heap.size w9 wr (.slice A9 (l.length + 1) c9) (l.length + 1))) (fun i _ => l.length + 1 - (intOf i).toNat)
          case atStart => exact ⟨0, Nat.zero_le _, rfl, ⟨Flip.start HX9.out HL9.out⟩⟩
          case round =>
            obtain ⟨k, hk, rfl, HF⟩ := hrel
            obtain ⟨wz, hwz⟩ : ∃ x, x = wr := ⟨_, rfl⟩
            subst hwz
            by_cases hlt : k < l.length + 1
            · obtain ⟨g, y, rfl, f1, f2, f3⟩ := HF.out.cell hlt
              have HF3 := Aside0.mk f3
              clear f3
              go_wp2
              refine ⟨?rel, ?measure⟩
              case rel => exact ⟨k + 1, by omega, by go_num, ⟨HF3.out _⟩⟩
              case measure => simp [intOf]; omega
            · obtain rfl : k = l.length + 1 := by omega
              have hf : Below wq.heap.size Wb wz := HB9.out.trans HF.out.choose_spec.2.2.2
              have HRc : Aside0 (RdS w1.heap.size wz gr vr l (8 * q)) := ⟨HRb.out.low HRA.out.lt hf⟩
              have HWc : Aside0 (WS w2.heap.size wz w2.heap.size vw (aligned [] ++ bitsOf l)) := ⟨HWb.out.low HWA.out.lt hf⟩
              have HBc : Aside0 (Below w.heap.size w wz) := ⟨below_weaken HBb.out HBY.out.1 hf⟩
              clear hf HF HX9 HB9 HXb HRb HWb HBb HBY HOb HCb
              go_wp2_with fail
              have hL := rd_left w1.heap.size gr vr l (8 * q) wz HRc.out hy0 (by omega)
              rw [show 8 * (l.length : Int) - ((8 * q : Nat) : Int) = 8 * (r : Int) from by have := HQR.out; omega] at hL
              refine hL.mono ?_
              rintro e wd ⟨rfl, ⟨nd, rfl⟩⟩
              clear hL
              go_wp2_with fail
              have hY := rd_bytes_ok' w1.heap.size gr vr l (8 * q) r (wz.drewN nd) (HRc.out.drewN nd) hy0 (by have := HQR.out; omega)
              rw [show (8 * q + 7) / 8 = q from by omega, List.take_of_length_le (by rw [HLD.out]; exact Nat.le_refl _)] at hY
              refine hY.mono ?_
              rintro e we ⟨ve, rfl, hre, hve, hke, hbe⟩
              clear hY
              obtain ⟨Ae, ce, rfl, hce, _⟩ := Kd.R_reads hve
              rw [HLD.out] at hce hve
              have HXe := Aside0.mk hve
              have HWe : Aside0 (WS w2.heap.size we w2.heap.size vw (aligned [] ++ bitsOf l)) := ⟨(HWc.out.drewN nd).kept hke (by have := HR2.out.lt.1; omega) (fun j hj e => by have := Kd.R_base HWc.out.2.2 j hj; have := HR2.out.lt.1; omega)⟩
              have HBe : Aside0 (Below w.heap.size w we) := ⟨below_weaken (pw_below_drewN HBc.out nd) (by have := HS.out; omega) hbe⟩
              clear hre hve hke hbe
              rw [HLD.out]
              go_wp2_with fail
              have hE := bytes_Equal.calls Ae ce (l.drop q) AD (c0 - q) (l.drop q) true we (by have := (Kd.R_reads' HXe.out).2.2; exact this) (by rw [HLD.out]; exact hce) (Kd.C_below HD.out HBe.out) (by rw [HLD.out]; have := HQR.out; omega) (by simp [bytes_Equal.f])
              rw [HLD.out] at hE
              refine hE.mono ?_
              rintro e wf ⟨rfl, ⟨nf, rfl⟩⟩
              clear hE
              go_wp2_with fail
              have hO := wout_calls w2.heap.size w2.heap.size vw _ (we.drewN nf) (HWe.out.drewN nf) (by rw [HAL.out]; omega)
              rw [HPK.out] at hO
              refine hO.mono ?_
              rintro e wa ⟨ya, rfl, hya, hba⟩
              clear hO
              obtain ⟨Af, cf, rfl, hcf, _⟩ := Kd.R_reads hya
              have HXa := Aside0.mk hya
              have HBa : Aside0 (Below w.heap.size w wa) := ⟨below_step (pw_below_drewN HBe.out nf) hba⟩
              clear hya hba
              go_wp2_with fail
              have hE := bytes_Equal.calls Af cf l A0 c0 l true wa (Kd.R_reads' HXa.out).2.2 hcf (Kd.C_below HR0.out HBa.out) hc0 (by simp [bytes_Equal.f])
              refine hE.mono ?_
              rintro e wb ⟨rfl, ⟨nb, rfl⟩⟩
              clear hE
              go_wp2
              go_ret
              exact ⟨rfl, pw_below_drewN HBa.out _⟩
theorem u8_of {x : Int} (h : (Lit.int .u8 x).wf = true) : 0 ≤ x ∧ x ≤ 255 := by
  have h2 : IntKind.u8.min ≤ x ∧ x ≤ IntKind.u8.max := by simpa [Lit.wf] using h
  have e1 : IntKind.u8.min = 0 := by decide
  have e2 : IntKind.u8.max = 255 := by decide
  omega
theorem bitioOwn_walk (w : World) (A0 : Option Addr) (c0 : Nat) (l : List Int) (hr0 : Kd.C (Kd.int .u8) w A0 l.length l) (hc0 : l.length ≤ c0) (hy0 : l.length * 1 ≤ 140737488351232) (hw0 : ∀ x ∈ l, (Lit.int .u8 x).wf = true) (a : Int) (wa : (Lit.int .u8 a).wf = true) :
    Calls Try.prog 9 #[.slice A0 l.length c0, .int .u8 a] w fun e w' => e = .returned (.bool true) ∧ Below w.heap.size w w' := by
  have ha := u8_of wa
  obtain ⟨n, rfl⟩ := Int.eq_ofNat_of_zero_le ha.1
  exact own_walk w A0 c0 l hr0 hc0 (by omega) (fun x hx => u8_of (hw0 x hx)) n (by omega)
end Go.Proofs.Ytlepnpjlmcjedaa.Hw
