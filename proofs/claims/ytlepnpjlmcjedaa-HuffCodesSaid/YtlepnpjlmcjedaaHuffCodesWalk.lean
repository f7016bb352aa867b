import Derived.Test.YtlepnpjlmcjedaaBegun
/- The law HuffCodes, walked. -/
namespace Go.Proofs.Ytlepnpjlmcjedaa.Hw
open Go.RowKit Go.Proofs.YtlepnpjlmcjedaaW.PrintWords Go.Proofs.YtlepnpjlmcjedaaW.PrintLast Go.Proofs.YtlepnpjlmcjedaaW.PrintMore Go.Proofs.Ytlepnpjlmcjedaa.PH
set_option linter.unusedVariables false
set_option linter.unusedSimpArgs false
theorem codes_length (l : List Int) : (HP.codes l).length = l.length := by simp [HP.codes]
set_option maxRecDepth 100000 in
set_option maxHeartbeats 1000000 in
theorem huffCodes_walk (w : World) (A0 : Option Addr) (c0 : Nat) (l : List Int) (hr0 : Kd.C (Kd.int .i64) w A0 l.length l) (hc0 : l.length ≤ c0) (hy : l.length * 8 ≤ 140737488351232) (hw : ∀ x ∈ l, (Lit.int .i64 x).wf = true) :
    Calls Try.prog 3 #[.slice A0 l.length c0] w fun e w' => e = .returned (.bool true) ∧ Below w.heap.size w w' := by
  have HR0 := Aside0.mk hr0
  clear hr0 hw
  by_cases h : HP.check l = 0
  · have HO := Aside0.mk (codes_ok A0 c0 l w HR0.out hc0 h)
    have hlen : (HP.codes l).length ≤ 512 := by rw [codes_length]; exact (HP.check_ok h).1
    have href := ref_codes_is l (16 * (l.length + 3)) (Nat.le_refl _)
    rw [if_pos h] at href
    have HREF := Aside0.mk href
    have HSAME := Aside0.mk (same_is (HP.codes l) (HP.codes l) (by omega) ((HP.codes l).length + 1) (by omega))
    clear h href
    go_enter Try.func3, Try.ntmps3
    go_wp2_with fail
    refine HO.out.mono ?_
    rintro e w1 ⟨v, rfl, hv, hb⟩
    obtain ⟨A, c, rfl, hc, hC⟩ := Kd.R_reads hv
    have HC := Aside0.mk hC
    have HB := Aside0.mk hb
    clear hC hb hv HO
    go_wp2_with fail
    have h2 := gridironref02_Codes.calls _ A0 c0 l _ _ w1 (Kd.C_below HR0.out HB.out) hc0 HREF.out
    refine h2.mono ?_
    rintro e w2 ⟨v2, rfl, hv2, hb2⟩
    obtain ⟨A2, c2, rfl, hc2, hC2⟩ := Kd.R_reads hv2
    have HC2 := Aside0.mk hC2
    have HC1 := Aside0.mk (Kd.C_below HC.out hb2)
    have HB2 := Aside0.mk (below_step HB.out hb2)
    clear hC2 hb2 hv2 HB HC h2
    go_wp2_with fail
    refine (begun_calls w2).mono ?_
    rintro e w3 ⟨rfl, hb3⟩
    have HC3 := Aside0.mk (Kd.C_below HC1.out hb3)
    have HC4 := Aside0.mk (Kd.C_below HC2.out hb3)
    have HB3 := Aside0.mk (below_step HB2.out hb3)
    clear hb3 HC1 HC2 HB2
    go_wp2_with fail
    have hs := HSAME.out
    simp only [decide_true] at hs
    have h4 := gridironlaw02_sameCodes.calls _ A c _ A2 c2 _ true w3 HC3.out hc HC4.out hc2 hs
    refine h4.mono ?_
    rintro e w4 ⟨rfl, ⟨nd, rfl⟩⟩
    clear hs h4
    go_wp2
    go_ret
    exact ⟨rfl, pw_below_drewN HB3.out _⟩
  · have HO := Aside0.mk (codes_bad A0 c0 l w HR0.out hc0 h)
    have href := ref_codes_is l (16 * (l.length + 3)) (Nat.le_refl _)
    rw [if_neg h] at href
    have HREF := Aside0.mk href
    have HSAME := Aside0.mk (same_is [] [] (by decide) 1 (by decide))
    have heq : (HP.check l == HP.check l) = true := by simp
    clear h href
    go_enter Try.func3, Try.ntmps3
    go_wp2_with fail
    refine HO.out.mono ?_
    rintro e w1 ⟨rfl, ⟨n1, rfl⟩⟩
    clear HO
    go_wp2_with fail
    have h2 := gridironref02_Codes.calls _ A0 c0 l _ _ (w.drewN n1) (Kd.C_drewN HR0.out n1) hc0 HREF.out
    refine h2.mono ?_
    rintro e w2 ⟨v2, rfl, hv2, hb2⟩
    obtain ⟨A2, c2, rfl, hc2, hC2⟩ := Kd.R_reads hv2
    have HC2 := Aside0.mk hC2
    have HB2 := Aside0.mk (below_step (pw_below_drewN (Below.refl _ w) n1) hb2)
    clear hC2 hb2 hv2 h2
    go_wp2_with fail
    refine (begun_calls w2).mono ?_
    rintro e w3 ⟨rfl, hb3⟩
    have HC4 := Aside0.mk (Kd.C_below HC2.out hb3)
    have HB3 := Aside0.mk (below_step HB2.out hb3)
    clear hb3 HC2 HB2
    go_wp2_with fail
    have hs := HSAME.out
    simp only [decide_true] at hs
    have h4 := gridironlaw02_sameCodes.calls _ none 0 _ A2 c2 _ true w3 (Kd.C_nil _ _) (Nat.le_refl _) HC4.out hc2 hs
    refine h4.mono ?_
    rintro e w4 ⟨rfl, ⟨nd, rfl⟩⟩
    clear hs h4
    go_wp2
    go_ret
    exact ⟨rfl, pw_below_drewN HB3.out _⟩
end Go.Proofs.Ytlepnpjlmcjedaa.Hw
