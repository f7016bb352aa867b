import Derived.Test.YtlepnpjlmcjedaaBegun
import Derived.Test.YtlepnpjlmcjedaaTotalFns
/- The law HuffChecks, walked. -/
namespace Go.Proofs.Ytlepnpjlmcjedaa.Hw
open Go.RowKit Go.Proofs.YtlepnpjlmcjedaaW.PrintWords Go.Proofs.YtlepnpjlmcjedaaW.PrintLast Go.Proofs.YtlepnpjlmcjedaaW.PrintMore Go.Proofs.Ytlepnpjlmcjedaa.PH
set_option linter.unusedVariables false
set_option linter.unusedSimpArgs false
set_option maxRecDepth 100000 in
set_option maxHeartbeats 1000000 in
theorem huffChecks_walk (w : World) (A0 : Option Addr) (c0 : Nat) (l : List Int) (hr0 : Kd.C (Kd.int .i64) w A0 l.length l) (hc0 : l.length ≤ c0) (hy : l.length * 8 ≤ 140737488351232) (hw : ∀ x ∈ l, (Lit.int .i64 x).wf = true)
    (A1 : Option Addr) (c1 : Nat) (m : List Int) (hr1 : Kd.C (Kd.int .i64) w A1 m.length m) (hc1 : m.length ≤ c1) (hy1 : m.length * 8 ≤ 140737488351232) (hw1 : ∀ x ∈ m, (Lit.int .i64 x).wf = true) :
    Calls Try.prog 6 #[.slice A0 l.length c0, .slice A1 m.length c1] w fun e w' => e = .returned (.bool true) ∧ Below w.heap.size w w' := by
  have HR0 := Aside0.mk hr0
  have HR1 := Aside0.mk hr1
  clear hr0 hw hr1 hw1
  have ht := tot_is m l (by omega) (2 * m.length + 2) (by omega)
  obtain ⟨⟨r1, r2⟩, hr⟩ : ∃ r, r = tot m l := ⟨_, rfl⟩
  rw [← hr] at ht
  have HT := Aside0.mk ht
  have HK := Aside0.mk (huff_check_is l (2 * l.length + 3) (by omega))
  have HK2 := Aside0.mk (ref_check_is l (2 * l.length + 3) (by omega))
  clear ht hr
  generalize HP.check l = z at *
  go_enter Try.func6, Try.ntmps6
  go_wp2_with fail
  have h1 := huff_Total.calls _ A1 c1 m A0 c0 l r1 r2 w HR1.out hc1 HR0.out hc0 HT.out.1
  refine h1.mono ?_
  rintro e w1 ⟨rfl, hb1⟩
  have HB1 := Aside0.mk hb1
  clear h1 hb1
  go_wp2_with fail
  have h2 := gridironref02_Total.calls _ A1 c1 m A0 c0 l r1 r2 w1 (Kd.C_below HR1.out HB1.out) hc1 (Kd.C_below HR0.out HB1.out) hc0 HT.out.2
  refine h2.mono ?_
  rintro e w2 ⟨rfl, ⟨n2, rfl⟩⟩
  have HB2 := Aside0.mk (pw_below_drewN HB1.out n2)
  clear h2 HB1
  go_wp2_with fail
  refine (begun_calls _).mono ?_
  rintro e w3 ⟨rfl, hb3⟩
  have HB3 := Aside0.mk (below_step HB2.out hb3)
  clear hb3 HB2
  go_wp2_with fail
  have h4 := huff_Check.calls _ A0 c0 l z w3 (Kd.C_below HR0.out HB3.out) hc0 HK.out
  refine h4.mono ?_
  rintro e w4 ⟨rfl, ⟨n4, rfl⟩⟩
  clear h4
  go_wp2_with fail
  have h5 := gridironref02_Check.calls _ A0 c0 l z _ (Kd.C_drewN (Kd.C_below HR0.out HB3.out) n4) hc0 HK2.out
  refine h5.mono ?_
  rintro e w5 ⟨rfl, ⟨n5, rfl⟩⟩
  clear h5
  go_wp2
  go_ret
  exact ⟨rfl, pw_below_drewN HB3.out _⟩
end Go.Proofs.Ytlepnpjlmcjedaa.Hw
