import Derived.Test.YtlepnpjlmcjedaaRref
import Derived.Test.YtlepnpjlmcjedaaBegun
/- The law HuffReads, walked. -/
namespace Go.Proofs.Ytlepnpjlmcjedaa.Hw
open Go.RowKit Go.Proofs.YtlepnpjlmcjedaaW.PrintWords Go.Proofs.YtlepnpjlmcjedaaW.PrintLast Go.Proofs.YtlepnpjlmcjedaaW.PrintMore Go.Proofs.Ytlepnpjlmcjedaa.PH
set_option linter.unusedVariables false
set_option linter.unusedSimpArgs false
theorem dgo_adv {f : Int → Int → Option Nat} {bs : List Int} : ∀ d n c a, (dgo f bs d n c a).2.2 = 0 → a < (dgo f bs d n c a).2.1
  | 0, _, _, _, h => by simp [dgo] at h
  | d + 1, n, c, a, h => by
    by_cases hend : a < 8 * bs.length
    · cases hs : f ((2 * c + (bitAt bs a).toNat : Nat) : Int) (n : Int) with
      | none =>
        rw [dgo_none hend hs] at h ⊢
        have := dgo_adv d _ _ _ h
        omega
      | some s => rw [dgo_some hend hs]; exact Nat.lt_succ_self _
    · rw [dgo_end hend] at h; simp at h
theorem u8_bytes {l : List Int} (h : ∀ x ∈ l, (Lit.int .u8 x).wf = true) : IsBytes l := by
  intro x hx
  have h1 := h x hx
  have h2 : IntKind.u8.min ≤ x ∧ x ≤ IntKind.u8.max := by simpa [Lit.wf] using h1
  have e1 : IntKind.u8.min = 0 := by decide
  have e2 : IntKind.u8.max = 255 := by decide
  omega
theorem lng_nat {l : List Int} (hf : HP.fits l) : ∃ L : Nat, lng l l.length = (L : Int) ∧ L ≤ 15 := by
  have := lng_range hf l.length
  exact ⟨(lng l l.length).toNat, by omega, by omega⟩
set_option maxRecDepth 100000 in
set_option maxHeartbeats 4000000 in
theorem reads_bad (w : World) (A0 : Option Addr) (c0 : Nat) (l : List Int) (hr0 : Kd.C (Kd.int .i64) w A0 l.length l) (hc0 : l.length ≤ c0) (A1 : Option Addr) (c1 : Nat) (bs : List Int) (a : Int) (h : HP.check l ≠ 0) :
    Calls Try.prog 11 #[.slice A0 l.length c0, .slice A1 bs.length c1, .int .i64 a] w fun e w' => e = .returned (.bool true) ∧ Below w.heap.size w w' := by
  have HR0 := Aside0.mk hr0
  have HO := Aside0.mk (newDec_bad A0 c0 l w HR0.out hc0 h)
  have HRC := Aside0.mk (ref_check_is l (2 * l.length + 3) (by omega))
  have e0 : (HP.check l == HP.check l) = true := beq_self_eq_true _
  have e1 : (HP.check l != HP.check l) = false := by simp
  have e2 : (HP.check l != 0) = true := by simpa using h
  have e3 : (HP.check l == 0) = false := by simpa using h
  clear hr0 h
  generalize HP.check l = q at *
  go_enter Try.func11, Try.ntmps11
  go_wp2_with fail
  refine HO.out.mono ?_
  rintro e w1 ⟨rfl, ⟨n1, rfl⟩⟩
  clear HO
  go_wp2_with fail
  refine (gridironref02_Check.calls _ A0 c0 l _ _ (Kd.C_drewN HR0.out n1) hc0 HRC.out).mono ?_
  rintro e w2 ⟨rfl, ⟨n2, rfl⟩⟩
  go_wp2_with fail
  refine (begun_calls _).mono ?_
  rintro e w3 ⟨rfl, hb3⟩
  have HB3 := Aside0.mk (below_step (pw_below_drewN (Below.refl w.heap.size w) _) hb3)
  clear hb3
  go_wp2
  go_ret
  exact ⟨rfl, HB3.out⟩
/-- Bits, whether there are so many or not. -/
theorem rd_bits_any (bs : List Int) (hb : IsBytes bs) (hl : bs.length ≤ 140737488351232) (sk : Nat) (hsk : sk ≤ 7) (base g : Nat) (v : Value) (w : World) (hI : RdS base w g v bs 0) :
    Calls Try.prog 30 #[.pointer (some ⟨g, 0, none⟩), .int .i64 (sk : Int)] w fun e w' => ∃ (x er : Int) (at1 : Nat), e = .returned (.tuple #[.int .u32 x, .int .i64 er]) ∧ ((er = 0 ∧ at1 = sk) ∨ (er = 11 ∧ at1 = 0)) ∧ at1 ≤ 8 * bs.length ∧ RdS base w' g v bs at1 ∧ Only g w w' := by
  by_cases h : 0 + sk ≤ 8 * bs.length
  · refine (rd_bits_ok base g v bs 0 sk w hI hb hl h (by omega)).mono ?_
    rintro e w' ⟨rfl, k, rfl⟩
    refine ⟨_, 0, sk, rfl, .inl ⟨rfl, rfl⟩, by omega, ?_, ((Only.refl _ _).drewN k).set (blk_lt hI.1) _ _⟩
    have := (hI.drewN k).set (0 + sk)
    rw [Nat.zero_add] at this ⊢
    exact this
  · refine (rd_bits_ends base g v bs 0 sk w hI hb hl (by omega) (by omega) (by omega)).mono ?_
    rintro e w' ⟨rfl, hq⟩
    obtain ⟨k, rfl⟩ := hq
    exact ⟨_, 11, 0, rfl, .inr ⟨rfl, rfl⟩, by omega, hI.drewN k, (Only.refl _ _).drewN k⟩
/-- The way of the skip: what stands in slot 2 behind the test. -/
def Skip (a : Int) (sk : Nat) : Prop := (a < 0 ∧ sk = 0) ∨ (7 < a ∧ sk = 0) ∨ (a = (sk : Int) ∧ sk ≤ 7)
theorem skip_is (a : Int) : ∃ sk, sk ≤ 7 ∧ Skip a sk := by
  by_cases h0 : a < 0
  · exact ⟨0, by omega, .inl ⟨h0, rfl⟩⟩
  · by_cases h7 : 7 < a
    · exact ⟨0, by omega, .inr (.inl ⟨h7, rfl⟩)⟩
    · exact ⟨a.toNat, by omega, .inr (.inr ⟨by omega, by omega⟩)⟩
set_option maxRecDepth 100000 in
set_option maxHeartbeats 8000000 in
theorem reads_ok (w : World) (A0 : Option Addr) (c0 : Nat) (l : List Int) (hr0 : Kd.C (Kd.int .i64) w A0 l.length l) (hc0 : l.length ≤ c0) (A1 : Option Addr) (c1 : Nat) (bs : List Int) (hr1 : Kd.C (Kd.int .u8) w A1 bs.length bs) (hc1 : bs.length ≤ c1) (hy1 : bs.length ≤ 140737488351232) (hb : IsBytes bs) (a : Int) (h : HP.check l = 0) :
    Calls Try.prog 11 #[.slice A0 l.length c0, .slice A1 bs.length c1, .int .i64 a] w fun e w' => e = .returned (.bool true) ∧ Below w.heap.size w w' := by
  obtain ⟨hl, hf, hroom, _⟩ := HP.check_ok h
  obtain ⟨L, hL, hL15⟩ := lng_nat hf
  have HR0 := Aside0.mk hr0
  have HR1 := Aside0.mk hr1
  have HO := Aside0.mk (newDec_ok A0 c0 l w HR0.out hc0 h)
  have href := ref_codes_is l (16 * (l.length + 3)) (Nat.le_refl _)
  rw [if_pos h] at href
  have HREF := Aside0.mk href
  have hrc := ref_check_is l (2 * l.length + 3) (by omega)
  rw [h] at hrc
  have HRC := Aside0.mk hrc
  have HRR := Aside0.mk (fun a ha => ref_read_is l bs h hb hy1 hL hL15 a ((L + 1) * (l.length + 2)) ha (Nat.le_refl _))
  have HDR := Aside0.mk (fun (base basr gd b gr : Nat) (v : Value) (at_ : Nat) (w : World) hD hI ha => dec_read base basr gd b gr v l bs at_ L w hD hI hb hy1 ha hL hL15)
  have HADV := Aside0.mk (fun a => dgo_adv (f := sym l (HP.codes l) l.length) (bs := bs) L 1 0 a)
  have HAT := Aside0.mk (fun a => dgo_at (sym l (HP.codes l) l.length) bs L 1 0 a)
  have HLC := Aside0.mk (codes_length l)
  generalize hdg : dgo (sym l (HP.codes l) l.length) bs L 1 0 = dg at *
  have HL := Aside0.mk hl
  obtain ⟨sk, hsk, hsa⟩ := skip_is a
  have HBK := Aside0.mk (rd_bits_any bs hb hy1 sk hsk)
  clear hr0 hr1 h href hrc hf hroom hL hdg hb hl
  rcases hsa with ⟨hs, rfl⟩ | ⟨hs, rfl⟩ | ⟨rfl, hs⟩
  all_goals
    go_enter Try.func11, Try.ntmps11
    go_wp2_with fail
    refine HO.out.mono ?_
    rintro e w1 ⟨gd, b, rfl, hD, hB1⟩
    have HD1 := Aside0.mk hD
    have HB1 := Aside0.mk hB1
    clear HO hD hB1
    go_wp2_with fail
    refine (gridironref02_Check.calls _ A0 c0 l _ _ (Kd.C_below HR0.out HB1.out) hc0 HRC.out).mono ?_
    rintro e w2 ⟨rfl, ⟨n2, rfl⟩⟩
    go_wp2_with fail
    refine (begun_calls _).mono ?_
    rintro e w3 ⟨rfl, hb3⟩
    have HB3 := Aside0.mk (below_step (pw_below_drewN HB1.out _) hb3)
    have HD3 : Aside0 (DecS w.heap.size w3 gd b l l.length) := ⟨(HD1.out.drewN n2).below hb3⟩
    clear hb3 HD1 HB1
    go_wp2_with fail
    have h2 := gridironref02_Codes.calls _ A0 c0 l _ _ w3 (Kd.C_below HR0.out HB3.out) hc0 HREF.out
    refine h2.mono ?_
    rintro e w4 ⟨v2, rfl, hv2, hb2⟩
    obtain ⟨A2, c2, rfl, hc2, _⟩ := Kd.R_reads hv2
    have HV4 := Aside0.mk hv2
    have HB4 := Aside0.mk (below_step HB3.out hb2)
    have HD4 : Aside0 (DecS w.heap.size w4 gd b l l.length) := ⟨HD3.out.below hb2⟩
    clear hv2 hb2 h2 HD3 HB3
    go_wp2_with fail
    refine (newRd_calls A1 c1 bs w4 (Kd.C_below HR1.out HB4.out) hc1 hy1).mono ?_
    rintro e w5 ⟨gr, vr, rfl, hR, hb5⟩
    have HR5 := Aside0.mk hR
    have HG5 : Aside0 (gr < w5.heap.size ∧ w4.heap.size ≤ gr ∧ w.heap.size ≤ w4.heap.size) := ⟨blk_lt hR.1, hR.2.1, HB4.out.size⟩
    have HB45 := Aside0.mk hb5
    clear hR hb5
    go_wp2_with fail
    refine (HBK.out _ _ _ _ HR5.out).mono ?_
    rintro e w6 ⟨x, er, at1, rfl, hcase, hat, hR6, hO6⟩
    have HS6 := Aside0.mk (And.intro hR6 (Below.trans HB45.out (hO6.below HG5.out.2.1)))
    clear hR6 hO6 HR5 HB45 HBK
    rcases hcase with ⟨rfl, rfl⟩ | ⟨rfl, rfl⟩
    all_goals
      go_wp2
      go_loopw [13] (fun av wr => ∃ a : Nat, a ≤ 8 * bs.length ∧ av = .int .i64 (a : Int) ∧ Aside0 (RdS w4.heap.size wr gr vr bs a ∧ Below w4.heap.size w4 wr)) (fun av _ => 8 * bs.length + 1 - (intOf av).toNat)
      case atStart => exact ⟨_, hat, rfl, HS6⟩
      case round =>
        obtain ⟨a, ha, rfl, HS⟩ := hrel
        clear HS6 hat
        have hcall := HDR.out w.heap.size w4.heap.size gd b gr vr a wr (HD4.out.below HS.out.2) HS.out.1 ha
        obtain ⟨⟨s, a2, er⟩, hd⟩ : ∃ p, p = dg a := ⟨_, rfl⟩
        have hrr := HRR.out a ha
        have hadv := HADV.out a
        have hat2 := HAT.out a
        rw [← hd] at hcall hrr hadv hat2
        obtain ⟨a', hrr, haa⟩ := hrr
        have HC := Aside0.mk hcall
        have HRR2 := Aside0.mk hrr
        have HF := Aside0.mk (And.intro haa (And.intro hadv hat2))
        clear hcall hrr haa hadv hat2 hd
        go_wp2_with fail
        refine HC.out.mono ?_
        rintro e w7 ⟨rfl, hR7, hO7⟩
        have HS7 := Aside0.mk (And.intro hR7 (Below.trans HS.out.2 (hO7.below HG5.out.2.1)))
        clear hR7 hO7 HC
        go_wp2_with fail
        have h5 := gridironref02_Read.calls _ A0 c0 l A2 c2 (HP.codes l) A1 c1 bs (a : Int) s (a' : Int) er w7 (Kd.C_below HR0.out (below_step HB4.out HS7.out.2)) hc0 (Kd.C_below (Kd.R_reads' HV4.out).2.2 HS7.out.2) hc2 (Kd.C_below HR1.out (below_step HB4.out HS7.out.2)) hc1 HRR2.out
        refine h5.mono ?_
        rintro e w8 ⟨rfl, ⟨n8, rfl⟩⟩
        clear h5 HRR2
        by_cases her : er = 0
        · subst her
          obtain ⟨f1, f2, f3⟩ := HF.out
          obtain rfl := f1 rfl
          have f2 := f2 rfl
          have f3 := f3 ha
          have hL8 := Aside0.mk (rd_left w4.heap.size gr vr bs a' (w7.drewN n8) (HS7.out.1.drewN n8) hy1 f3)
          have HF2 := Aside0.mk (And.intro f2 f3)
          clear f1 f2 f3 HF
          have e1 : (s == s) = true := beq_self_eq_true _
          have e2 : (s != s) = false := by simp
          go_wp2_with fail
          refine hL8.out.mono ?_
          rintro e w9 ⟨rfl, ⟨n9, rfl⟩⟩
          have e3 : (8 * (bs.length : Int) - (a' : Int) == 8 * (bs.length : Int) - (a' : Int)) = true := beq_self_eq_true _
          have e4 : (8 * (bs.length : Int) - (a' : Int) != 8 * (bs.length : Int) - (a' : Int)) = false := by simp
          have f4 : a' ≤ 8 * bs.length := HF2.out.2
          clear hL8
          go_wp2
          refine ⟨?rel, ?measure⟩
          case rel => exact ⟨a', f4, rfl, ⟨(HS7.out.1.drewN _), pw_below_drewN HS7.out.2 _⟩⟩
          case measure => have := HF2.out.1; simp [intOf]; omega
        · have e1 : (s == s) = true := beq_self_eq_true _
          have e2 : (s != s) = false := by simp
          have e3 : (er == er) = true := beq_self_eq_true _
          have e4 : (er != er) = false := by simp
          have e5 : (er != 0) = true := by simpa using her
          have e6 : (er == 0) = false := by simpa using her
          clear her
          go_wp2
          go_ret
          exact ⟨rfl, pw_below_drewN (below_step HB4.out HS7.out.2) _⟩
theorem huffReads_walk (w : World) (A0 : Option Addr) (c0 : Nat) (l : List Int) (hr0 : Kd.C (Kd.int .i64) w A0 l.length l) (hc0 : l.length ≤ c0) (hy0 : l.length * 8 ≤ 140737488351232) (hw0 : ∀ x ∈ l, (Lit.int .i64 x).wf = true) (A1 : Option Addr) (c1 : Nat) (bs : List Int) (hr1 : Kd.C (Kd.int .u8) w A1 bs.length bs) (hc1 : bs.length ≤ c1) (hy1 : bs.length * 1 ≤ 140737488351232) (hw1 : ∀ x ∈ bs, (Lit.int .u8 x).wf = true) (a : Int) (wa : (Lit.int .i64 a).wf = true) :
    Calls Try.prog 11 #[.slice A0 l.length c0, .slice A1 bs.length c1, .int .i64 a] w fun e w' => e = .returned (.bool true) ∧ Below w.heap.size w w' := by
  by_cases h : HP.check l = 0
  · exact reads_ok w A0 c0 l hr0 hc0 A1 c1 bs hr1 hc1 (by omega) (u8_bytes hw1) a h
  · exact reads_bad w A0 c0 l hr0 hc0 A1 c1 bs a h
end Go.Proofs.Ytlepnpjlmcjedaa.Hw
