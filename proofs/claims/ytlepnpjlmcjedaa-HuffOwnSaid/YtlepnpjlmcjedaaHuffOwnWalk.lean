import Derived.Test.YtlepnpjlmcjedaaHuffReadsWalk
import Derived.OwnWalk
/- The law HuffOwn, walked. -/
namespace Go.Proofs.Ytlepnpjlmcjedaa.Hw
open Go.RowKit Go.Proofs.YtlepnpjlmcjedaaW.PrintWords Go.Proofs.YtlepnpjlmcjedaaW.PrintLast Go.Proofs.YtlepnpjlmcjedaaW.PrintMore Go.Proofs.Ytlepnpjlmcjedaa.PH
set_option linter.unusedVariables false
set_option linter.unusedSimpArgs false
/-- A row of one's own, of whatever numbers, whose cells have been turned about since W. -/
def FlipG (k : IntKind) (e : Nat) (base : Nat) (W wr : World) (v : Value) (n : Nat) : Prop :=
  ∃ xs : List Int, xs.length = n ∧ Kd.R (Kd.int k) e wr base (fun _ => True) v xs ∧ Kept W wr (fun k => v.ownBlock = some k) ∧ Below base W wr
theorem FlipG.start {k : IntKind} {e base n : Nat} {W : World} {v : Value} {xs : List Int} (h : Kd.R (Kd.int k) e W base (fun _ => True) v xs) (hn : xs.length = n) : FlipG k e base W W v n := ⟨xs, hn, h, Kept.refl _ _, Below.refl _ _⟩
theorem FlipG.cell {kd : IntKind} {e base n : Nat} {W wr : World} {A : Option Addr} {c k : Nat} (h : FlipG kd e base W wr (.slice A n c) n) (hk : k < n) :
    ∃ g y, A = some ⟨g, 0, none⟩ ∧ wr.cell? ⟨g, k, none⟩ = some (.int kd y) ∧ wr.frozen? ⟨g, k, none⟩ = false ∧ ∀ u : Int, FlipG kd e base W (wr.setCell ⟨g, k, none⟩ (.int kd u)) (.slice A n c) n := by
  obtain ⟨xs, rfl, h2, h3, h4⟩ := h
  obtain ⟨g, cap, e, hb, _, _⟩ := Kd.R_form h2 (by omega)
  simp only [Value.slice.injEq] at e
  obtain ⟨rfl, _, rfl⟩ := e
  have hc := Kd.R_celln 0 h2 (k : Int) (by omega) (by omega)
  rw [Int.toNat_natCast] at hc
  refine ⟨g, rdOf 0 xs (k : Int), rfl, hc.1, hc.2, fun u => ?_⟩
  have hp := Kd.R_putn h2 (k : Int) u
  rw [Int.toNat_natCast] at hp
  exact ⟨xs.set k u, by simp, hp, h3.setCell (p := ⟨g, k, none⟩) (.inl rfl) _, h4.setCell (p := ⟨g, k, none⟩) hb _⟩
theorem same2_l0 (a b : List Int) (hl : a.length = b.length) (hmax : a.length ≤ 140737488351232) (hab : a = b) : ∀ (d i k : Nat), i + d = a.length → d < k →
    gridironlaw02_same.l0 k a b (a.length : Int) (i : Int) = some true := by
  subst hab
  intro d
  induction d with
  | zero =>
    intro i k h hk
    obtain ⟨k, rfl⟩ : ∃ m, k = m + 1 := ⟨k - 1, by omega⟩
    simp only [gridironlaw02_same.l0]
    rw [if_neg (by omega)]
  | succ d ih =>
    intro i k h hk
    obtain ⟨k, rfl⟩ : ∃ m, k = m + 1 := ⟨k - 1, by omega⟩
    have hw : wrap64 ((i : Int) + 1) = ((i + 1 : Nat) : Int) := w64n (by omega) (by omega)
    simp only [gridironlaw02_same.l0]
    rw [if_pos (by omega)]
    have := ih (i + 1) k (by omega) (by omega)
    simp only [hw, this]
    repeat' split
    all_goals first | rfl | omega | simp_all
theorem same2_is (a : List Int) (hmax : a.length ≤ 140737488351232) (k : Nat) (hk : a.length < k) : gridironlaw02_same.f k a a = some true := by
  unfold gridironlaw02_same.f
  rw [if_pos rfl]
  exact same2_l0 a a rfl hmax rfl a.length 0 k (by omega) hk
theorem infoI8 : (Try.prog.info? 3).map (fun i => (i.zero, i.size, i.bytes)) = some (some (.int .i64 0), 1, 8) := by kernel_rfl
theorem own_R0 {w : World} {base e c : Nat} {A : Option Addr} (h : w.ownsRow base e 1 (.slice A 0 c) 0 []) : (Kd.int .i64).R e w base (fun _ => True) (.slice A 0 c) [] := Kd.R_of_own h (fun _ _ => trivial)
theorem below_grow0 {w w1 : World} (h : w.grownBy w1 none) : Below w.heap.size w w1 := ⟨h.os, h.tape, h.output, h.size, fun i hi => h.block i hi (by simp)⟩
set_option maxRecDepth 100000 in
set_option maxHeartbeats 4000000 in
theorem own_bad (w : World) (A0 : Option Addr) (c0 : Nat) (l : List Int) (hr0 : Kd.C (Kd.int .i64) w A0 l.length l) (hc0 : l.length ≤ c0) (hy0 : l.length * 8 ≤ 140737488351232) (A1 : Option Addr) (c1 : Nat) (bs : List Int) (h : HP.check l ≠ 0) :
    Calls Try.prog 13 #[.slice A0 l.length c0, .slice A1 bs.length c1] w fun e w' => e = .returned (.bool true) ∧ Below w.heap.size w w' := by
  obtain ⟨i3, hi3, hi3z, hi3s, hi3b⟩ := info_parts infoI8
  have HI3 := Aside0.mk (And.intro hi3 (And.intro hi3z (And.intro hi3s hi3b)))
  have HR0 := Aside0.mk hr0
  have HO := Aside0.mk (fun A c w hr hc => newDec_bad A c l w hr hc h)
  have HOC := Aside0.mk (fun A c w hr hc => codes_bad A c l w hr hc h)
  have HRC := Aside0.mk (ref_check_is l (2 * l.length + 3) (by omega))
  have HSM := Aside0.mk (same2_is l (by omega) (l.length + 1) (by omega))
  have e0 : (HP.check l == HP.check l) = true := beq_self_eq_true _
  have e1 : (HP.check l != HP.check l) = false := by simp
  have e2 : (HP.check l != 0) = true := by simpa using h
  have e3 : (HP.check l == 0) = false := by simpa using h
  clear hr0 h hi3 hi3z hi3s hi3b
  generalize HP.check l = q at *
  go_enter Try.func13, Try.ntmps13
  go_wp2_with fail
  refine (begun_calls w).mono ?_
  rintro e w1 ⟨rfl, hb1⟩
  have HB1 := Aside0.mk hb1
  clear hb1
  go_wp2_with (first | (at_make; refine wpList_make_own _ rfl _ _ 22 rfl w1.heap.size 3 i3 (.int .i64 0) 1 Try.underlying22 HI3.out.1 HI3.out.2.1 HI3.out.2.2.1 _ _ _ (l.length + 3) rfl rfl (by omega) (by rw [HI3.out.2.2.2]; omega) (by unfold maxLen; omega) (Nat.le_refl _) ?_; intro w2 hown hg2; have HB2 := Aside0.mk (below_grow0 hg2); have HO2 := Aside0.mk (own_R0 hown); have HC2 := Aside0.mk (Kd.C_below HR0.out (below_step HB1.out HB2.out)); clear hown hg2) | (refine Kd.R_append_row (Value.int .i64) 0 (w0 := w1) w1.heap.size rfl _ _ 22 3 (.int .i64 0) 8 rfl Try.underlying22 infoI8 rfl (by decide) (.slice (some ⟨w1.heap.size, 0, none⟩) 0 (l.length + 3)) [] l A0 l.length c0 (fun _ => True) rfl rfl (fun _ _ => trivial) HO2.out HC2.out HB2.out HB2.out.size (by simp; omega) ?_; intro v3 w3 hv3 hb3 hg3 hat3; rw [List.nil_append] at hv3; obtain ⟨A3, c3, rfl, hc3, _⟩ := Kd.R_reads hv3; have HV3 := Aside0.mk hv3; have HB3 := Aside0.mk hb3; clear hv3 hb3 hg3 hat3))
  have HC3 : Aside0 ((Kd.int .i64).C w3 A3 l.length l) := ⟨(Kd.R_reads' HV3.out).2.2⟩
  have HBw3 : Aside0 (Below w.heap.size w w3) := ⟨below_step HB1.out HB3.out⟩
  clear HO2 HC2
  go_wp2_with fail
  refine (HO.out A3 c3 w3 HC3.out hc3).mono ?_
  rintro e w4 ⟨rfl, ⟨n4, rfl⟩⟩
  go_wp2_with fail
  refine (HOC.out A3 c3 _ (Kd.C_drewN HC3.out n4) hc3).mono ?_
  rintro e w5 ⟨rfl, ⟨n5, rfl⟩⟩
  go_wp2_with fail
  refine (gridironref02_Check.calls _ A0 c0 l _ _ (Kd.C_drewN (Kd.C_below HR0.out HBw3.out) _) hc0 HRC.out).mono ?_
  rintro e w6 ⟨rfl, ⟨n6, rfl⟩⟩
  go_wp2_with fail
  refine (gridironlaw02_same.calls _ A3 c3 l A0 c0 l true _ (Kd.C_drewN HC3.out _) hc3 (Kd.C_drewN (Kd.C_below HR0.out HBw3.out) _) hc0 HSM.out).mono ?_
  rintro e w7 ⟨rfl, ⟨n7, rfl⟩⟩
  go_wp2
  go_ret
  exact ⟨rfl, pw_below_drewN HBw3.out _⟩
theorem R_keptG {k : IntKind} {e base : Nat} {w w' : World} {v : Value} {xs : List Int} {S : Nat → Prop} (h : Kd.R (Kd.int k) e w base (fun _ => True) v xs) (hk : Kept w w' S) (hv : ∀ j, v.ownBlock = some j → ¬ S j) : Kd.R (Kd.int k) e w' base (fun _ => True) v xs :=
  Kd.R_mono (Kd.R_step (Kd.R_tight rfl h) (w1 := w') (fun k ho hlt => hk.2 k hlt (hv k ho.symm))) (fun _ _ => trivial)
set_option maxRecDepth 100000 in
set_option maxHeartbeats 8000000 in
theorem own_ok (w : World) (A0 : Option Addr) (c0 : Nat) (l : List Int) (hr0 : Kd.C (Kd.int .i64) w A0 l.length l) (hc0 : l.length ≤ c0) (hy0 : l.length * 8 ≤ 140737488351232) (A1 : Option Addr) (c1 : Nat) (bs : List Int) (hr1 : Kd.C (Kd.int .u8) w A1 bs.length bs) (hc1 : bs.length ≤ c1) (hy1 : bs.length ≤ 140737488351232) (hb : IsBytes bs) (h : HP.check l = 0) :
    Calls Try.prog 13 #[.slice A0 l.length c0, .slice A1 bs.length c1] w fun e w' => e = .returned (.bool true) ∧ Below w.heap.size w w' := by
  obtain ⟨i3, hi3, hi3z, hi3s, hi3b⟩ := info_parts infoI8
  have HI3 := Aside0.mk (And.intro hi3 (And.intro hi3z (And.intro hi3s hi3b)))
  obtain ⟨hl, hf, hroom, _⟩ := HP.check_ok h
  obtain ⟨L, hL, hL15⟩ := lng_nat hf
  have HR0 := Aside0.mk hr0
  have HR1 := Aside0.mk hr1
  have HO := Aside0.mk (fun A c w hr hc => newDec_ok A c l w hr hc h)
  have HOC := Aside0.mk (fun A c w hr hc => codes_ok A c l w hr hc h)
  have href := ref_codes_is l (16 * (l.length + 3)) (Nat.le_refl _)
  rw [if_pos h] at href
  have HREF := Aside0.mk href
  have hrc := ref_check_is l (2 * l.length + 3) (by omega)
  rw [h] at hrc
  have HRC := Aside0.mk hrc
  have HSM := Aside0.mk (same2_is l (by omega) (l.length + 1) (by omega))
  have hlen : (HP.codes l).length ≤ 512 := by rw [codes_length]; exact hl
  have hsame := same_is (HP.codes l) (HP.codes l) (by omega) ((HP.codes l).length + 1) (by omega)
  simp only [decide_true] at hsame
  have HSAME := Aside0.mk hsame
  have HRR := Aside0.mk (fun a ha => ref_read_is l bs h hb hy1 hL hL15 a ((L + 1) * (l.length + 2)) ha (Nat.le_refl _))
  have HDR := Aside0.mk (fun (base basr gd b gr : Nat) (v : Value) (at_ : Nat) (w : World) hD hI ha => dec_read base basr gd b gr v l bs at_ L w hD hI hb hy1 ha hL hL15)
  have HADV := Aside0.mk (fun a => dgo_adv (f := sym l (HP.codes l) l.length) (bs := bs) L 1 0 a)
  have HAT := Aside0.mk (fun a => dgo_at (sym l (HP.codes l) l.length) bs L 1 0 a)
  have HLC := Aside0.mk (codes_length l)
  generalize hdg : dgo (sym l (HP.codes l) l.length) bs L 1 0 = dg at *
  have HLE := Aside0.mk hlen
  clear hr0 hr1 h href hrc hf hroom hL hdg hb hlen hsame hi3 hi3z hi3s hi3b
  go_enter Try.func13, Try.ntmps13
  go_wp2_with fail
  refine (begun_calls w).mono ?_
  rintro e w1 ⟨rfl, hb1⟩
  have HB1 := Aside0.mk hb1
  clear hb1
  go_wp2_with (first | (at_make; refine wpList_make_own _ rfl _ _ 22 rfl w1.heap.size 3 i3 (.int .i64 0) 1 Try.underlying22 HI3.out.1 HI3.out.2.1 HI3.out.2.2.1 _ _ _ (l.length + 3) rfl rfl (by omega) (by rw [HI3.out.2.2.2]; omega) (by unfold maxLen; omega) (Nat.le_refl _) ?_; intro w2 hown hg2; have HB2 := Aside0.mk (below_grow0 hg2); have HO2 := Aside0.mk (own_R0 hown); have HC2 := Aside0.mk (Kd.C_below HR0.out (below_step HB1.out HB2.out)); clear hown hg2) | (refine Kd.R_append_row (Value.int .i64) 0 (w0 := w1) w1.heap.size rfl _ _ 22 3 (.int .i64 0) 8 rfl Try.underlying22 infoI8 rfl (by decide) (.slice (some ⟨w1.heap.size, 0, none⟩) 0 (l.length + 3)) [] l A0 l.length c0 (fun _ => True) rfl rfl (fun _ _ => trivial) HO2.out HC2.out HB2.out HB2.out.size (by simp; omega) ?_; intro v3 w3 hv3 hb3 hg3 hat3; rw [List.nil_append] at hv3; obtain ⟨A3, c3, rfl, hc3, _⟩ := Kd.R_reads hv3; have HV3 := Aside0.mk hv3; have HB3 := Aside0.mk hb3; clear hv3 hb3 hg3 hat3))
  have HC3 : Aside0 ((Kd.int .i64).C w3 A3 l.length l) := ⟨(Kd.R_reads' HV3.out).2.2⟩
  have HBw3 : Aside0 (Below w.heap.size w w3) := ⟨below_step HB1.out HB3.out⟩
  clear HO2 HC2
  go_wp2_with fail
  refine (HO.out A3 c3 w3 HC3.out hc3).mono ?_
  rintro e w4 ⟨gd, b, rfl, hD, hB4⟩
  have HD4 := Aside0.mk hD
  have HB4 := Aside0.mk hB4
  clear HO hD hB4
  go_wp2_with fail
  refine (HOC.out A3 c3 w4 (Kd.C_below HC3.out HB4.out) hc3).mono ?_
  rintro e w5 ⟨v5, rfl, hv5, hb5⟩
  obtain ⟨A5, c5, rfl, hc5, _⟩ := Kd.R_reads hv5
  have HV5 := Aside0.mk hv5
  have HB5 := Aside0.mk hb5
  have HBw5 : Aside0 (Below w.heap.size w w5) := ⟨below_step (below_step HBw3.out HB4.out) HB5.out⟩
  have HC5 : Aside0 ((Kd.int .i64).C w5 A3 l.length l) := ⟨Kd.C_below HC3.out (below_step HB4.out HB5.out)⟩
  clear hv5 hb5
  go_wp2_with fail
  refine (gridironref02_Check.calls _ A0 c0 l _ _ (Kd.C_below HR0.out HBw5.out) hc0 HRC.out).mono ?_
  rintro e w6 ⟨rfl, ⟨n6, rfl⟩⟩
  go_wp2_with fail
  refine (gridironlaw02_same.calls _ A3 c3 l A0 c0 l true _ (Kd.C_drewN HC5.out _) hc3 (Kd.C_drewN (Kd.C_below HR0.out HBw5.out) _) hc0 HSM.out).mono ?_
  rintro e w7 ⟨rfl, ⟨n7, rfl⟩⟩
  go_wp2
  have HM7 : Aside0 ((Kd.int .i64).R 3 (w5.drewN (n6 + n7)) w1.heap.size (fun _ => True) (.slice A3 l.length c3) l) := ⟨Kd.R_drewN (Kd.R_below HV3.out (below_step HB4.out HB5.out)) _⟩
  have HD7 : Aside0 (DecS w3.heap.size (w5.drewN (n6 + n7)) gd b l l.length) := ⟨(HD4.out.below HB5.out).drewN _⟩
  have HV7 : Aside0 ((Kd.int .u32).R 31 (w5.drewN (n6 + n7)) w4.heap.size (fun _ => True) (.slice A5 (HP.codes l).length c5) (HP.codes l)) := ⟨Kd.R_drewN HV5.out _⟩
  have HB7 : Aside0 (Below w.heap.size w (w5.drewN (n6 + n7))) := ⟨pw_below_drewN HBw5.out _⟩
  have HML : Aside0 (∀ j, (Value.slice A3 l.length c3).ownBlock = some j → j < w3.heap.size) := ⟨Kd.R_lt HV3.out⟩
  have HDL : Aside0 (gd < w4.heap.size ∧ b < w4.heap.size) := ⟨blk_lt HD4.out.1, HD4.out.2.2.2.lt⟩
  have HSZ : Aside0 (w.heap.size ≤ w1.heap.size ∧ w1.heap.size ≤ w3.heap.size ∧ w3.heap.size ≤ w4.heap.size) := ⟨HB1.out.size, HB3.out.size, HB4.out.size⟩
  generalize w5.drewN (n6 + n7) = W7 at *
  clear HC5 HBw5 HV5 HB5 HD4 HB4 HC3 HBw3 HV3 HB3 HB1
  go_loopw [59] (fun i wr => ∃ k : Nat, k ≤ l.length ∧ i = .int .i64 k ∧ Aside0 (FlipG .i64 3 w1.heap.size W7 wr (.slice A3 l.length c3) l.length)) (fun i _ => l.length - (intOf i).toNat)
  case atStart => exact ⟨0, Nat.zero_le _, rfl, ⟨FlipG.start HM7.out rfl⟩⟩
  case round =>
    obtain ⟨k, hk, rfl, HF⟩ := hrel
    by_cases hlt : k < l.length
    · obtain ⟨g, y, rfl, f1, f2, f3⟩ := HF.out.cell hlt
      have HF3 := Aside0.mk f3
      clear f3
      go_wp2
      refine ⟨?rel, ?measure⟩
      case rel => exact ⟨k + 1, by omega, by go_num, ⟨HF3.out _⟩⟩
      case measure => simp [intOf]; omega
    · obtain rfl : k = l.length := by omega
      obtain ⟨wp, hwp⟩ : ∃ x, x = wr := ⟨_, rfl⟩
      subst hwp
      obtain ⟨_, _, _, hk8, hb8⟩ := HF.out
      have HD8 : Aside0 (DecS w3.heap.size wp gd b l l.length) := ⟨HD7.out.kept hk8 (fun e => by have := HML.out _ e; have := HD7.out.2.1; omega) (fun e => by have := HML.out _ e; have := HD7.out.2.2.1; omega)⟩
      have HV8 : Aside0 ((Kd.int .u32).R 31 wp w4.heap.size (fun _ => True) (.slice A5 (HP.codes l).length c5) (HP.codes l)) := ⟨R_keptG HV7.out hk8 (fun j hj e => by have := HML.out _ e; have := Kd.R_base HV7.out j hj; have := HSZ.out; omega)⟩
      have HB8 : Aside0 (Below w.heap.size w wp) := ⟨HB7.out.trans (Below.mono hb8 HSZ.out.1)⟩
      clear hk8 hb8 HF HD7 HV7 HB7 HM7
      go_wp2
      go_loopw [68] (fun i wr => ∃ k : Nat, k ≤ (HP.codes l).length ∧ i = .int .i64 k ∧ Aside0 (FlipG .u32 31 w4.heap.size wp wr (.slice A5 (HP.codes l).length c5) (HP.codes l).length)) (fun i _ => (HP.codes l).length - (intOf i).toNat)
      case atStart => exact ⟨0, Nat.zero_le _, rfl, ⟨FlipG.start HV8.out rfl⟩⟩
      case round =>
        obtain ⟨k, hk, rfl, HF⟩ := hrel
        obtain ⟨wq, hwq⟩ : ∃ x, x = wr := ⟨_, rfl⟩
        subst hwq
        have hcl := HLE.out
        by_cases hlt : k < (HP.codes l).length
        · obtain ⟨g, y, rfl, f1, f2, f3⟩ := HF.out.cell hlt
          have HF3 := Aside0.mk f3
          clear f3
          go_wp2
          refine ⟨?rel, ?measure⟩
          case rel => exact ⟨k + 1, by omega, by go_num, ⟨HF3.out _⟩⟩
          case measure => simp [intOf]; omega
        · obtain rfl : k = (HP.codes l).length := by omega
          obtain ⟨_, _, _, hk9, hb9⟩ := HF.out
          have hkl := kept_of_low hb9
          have HD9 : Aside0 (DecS w3.heap.size wq gd b l l.length) := ⟨HD8.out.kept hkl (by have := HDL.out.1; omega) (by have := HDL.out.2; omega)⟩
          have HB9 : Aside0 (Below w.heap.size w wq) := ⟨HB8.out.trans (Below.mono hb9 (by have := HSZ.out; omega))⟩
          clear hk9 hb9 hkl HF HD8 HV8 HB8 hcl
          go_wp2_with fail
          have h2 := gridironref02_Codes.calls _ A0 c0 l _ _ wq (Kd.C_below HR0.out HB9.out) hc0 HREF.out
          refine h2.mono ?_
          rintro e wa ⟨v2, rfl, hv2, hb2⟩
          obtain ⟨A2, c2, rfl, hc2, _⟩ := Kd.R_reads hv2
          have HVa := Aside0.mk hv2
          have HBa := Aside0.mk (below_step HB9.out hb2)
          have HDa : Aside0 (DecS w3.heap.size wa gd b l l.length) := ⟨HD9.out.below hb2⟩
          clear hv2 hb2 h2 HD9 HB9
          go_wp2_with fail
          refine (newRd_calls A1 c1 bs wa (Kd.C_below HR1.out HBa.out) hc1 hy1).mono ?_
          rintro e wb ⟨gr, vr, rfl, hR, hb5⟩
          have HSb := Aside0.mk (And.intro hR hb5)
          have HGb : Aside0 (wa.heap.size ≤ gr) := ⟨hR.2.1⟩
          clear hR hb5
          go_wp2
          go_loopw [15] (fun av wr => ∃ a : Nat, a ≤ 8 * bs.length ∧ av = .int .i64 (a : Int) ∧ Aside0 (RdS wa.heap.size wr gr vr bs a ∧ Below wa.heap.size wa wr)) (fun av _ => 8 * bs.length + 1 - (intOf av).toNat)
          case atStart => exact ⟨0, Nat.zero_le _, rfl, HSb⟩
          case round =>
            obtain ⟨wz, hwz⟩ : ∃ x, x = wr := ⟨_, rfl⟩
            subst hwz
            obtain ⟨a, ha, rfl, HS⟩ := hrel
            clear HSb
            have hcall := HDR.out w3.heap.size wa.heap.size gd b gr vr a wz (HDa.out.below HS.out.2) HS.out.1 ha
            obtain ⟨⟨s, a2, er⟩, hd⟩ : ∃ p, p = dg a := ⟨_, rfl⟩
            have hrr := HRR.out a ha
            have hadv := HADV.out a
            have hat2 := HAT.out a
            rw [← hd] at hcall hrr hadv hat2
            obtain ⟨a', hrr, haa⟩ := hrr
            have HC := Aside0.mk hcall
            have HRR2 := Aside0.mk hrr
            have HF := Aside0.mk (And.intro haa (And.intro hadv hat2))
            clear hcall hrr haa hadv hat2 hd
            go_wp2_with fail
            refine HC.out.mono ?_
            rintro e wc ⟨rfl, hR7, hO7⟩
            have HSc := Aside0.mk (And.intro hR7 (Below.trans HS.out.2 (hO7.below HGb.out)))
            clear hR7 hO7 HC
            go_wp2_with fail
            have h5 := gridironref02_Read.calls _ A0 c0 l A2 c2 (HP.codes l) A1 c1 bs (a : Int) s (a' : Int) er wc (Kd.C_below HR0.out (below_step HBa.out HSc.out.2)) hc0 (Kd.C_below (Kd.R_reads' HVa.out).2.2 HSc.out.2) hc2 (Kd.C_below HR1.out (below_step HBa.out HSc.out.2)) hc1 HRR2.out
            refine h5.mono ?_
            rintro e wd ⟨rfl, ⟨n8, rfl⟩⟩
            clear h5 HRR2
            have e1 : (s == s) = true := beq_self_eq_true _
            have e2 : (s != s) = false := by simp
            by_cases her : er = 0
            · subst her
              obtain ⟨f1, f2, f3⟩ := HF.out
              obtain rfl := f1 rfl
              have f2 := f2 rfl
              have f3 := f3 ha
              clear f1 HF
              go_wp2
              refine ⟨?rel, ?measure⟩
              case rel => exact ⟨a', f3, rfl, ⟨(HSc.out.1.drewN _), pw_below_drewN HSc.out.2 _⟩⟩
              case measure => simp [intOf]; omega
            · have e3 : (er == er) = true := beq_self_eq_true _
              have e4 : (er != er) = false := by simp
              have e5 : (er != 0) = true := by simpa using her
              have e6 : (er == 0) = false := by simpa using her
              have HBd : Aside0 (Below w.heap.size w (wc.drewN n8)) := ⟨pw_below_drewN (below_step HBa.out HSc.out.2) _⟩
              have HVd : Aside0 ((Kd.int .u32).C (wc.drewN n8) A2 (HP.codes l).length (HP.codes l)) := ⟨Kd.C_drewN (Kd.C_below (Kd.R_reads' HVa.out).2.2 HSc.out.2) _⟩
              clear her HF
              go_wp2_with fail
              refine (HOC.out A0 c0 _ (Kd.C_below HR0.out HBd.out) hc0).mono ?_
              rintro e we ⟨ve, rfl, hve, hbe⟩
              obtain ⟨Ae, ce, rfl, hce, _⟩ := Kd.R_reads hve
              have HVe := Aside0.mk hve
              have HBe := Aside0.mk (below_step HBd.out hbe)
              have HV2 := Aside0.mk (Kd.C_below HVd.out hbe)
              clear hve hbe
              go_wp2_with fail
              refine (gridironlaw02_sameCodes.calls _ Ae ce _ A2 c2 _ true we (Kd.R_reads' HVe.out).2.2 hce HV2.out hc2 HSAME.out).mono ?_
              rintro e wf ⟨rfl, ⟨nf, rfl⟩⟩
              go_wp2
              go_ret
              exact ⟨rfl, pw_below_drewN HBe.out _⟩
theorem huffOwn_walk (w : World) (A0 : Option Addr) (c0 : Nat) (l : List Int) (hr0 : Kd.C (Kd.int .i64) w A0 l.length l) (hc0 : l.length ≤ c0) (hy0 : l.length * 8 ≤ 140737488351232) (hw0 : ∀ x ∈ l, (Lit.int .i64 x).wf = true) (A1 : Option Addr) (c1 : Nat) (bs : List Int) (hr1 : Kd.C (Kd.int .u8) w A1 bs.length bs) (hc1 : bs.length ≤ c1) (hy1 : bs.length * 1 ≤ 140737488351232) (hw1 : ∀ x ∈ bs, (Lit.int .u8 x).wf = true) :
    Calls Try.prog 13 #[.slice A0 l.length c0, .slice A1 bs.length c1] w fun e w' => e = .returned (.bool true) ∧ Below w.heap.size w w' := by
  by_cases h : HP.check l = 0
  · exact own_ok w A0 c0 l hr0 hc0 hy0 A1 c1 bs hr1 hc1 (by omega) (u8_bytes hw1) h
  · exact own_bad w A0 c0 l hr0 hc0 hy0 A1 c1 bs h
end Go.Proofs.Ytlepnpjlmcjedaa.Hw
