import Derived.Test.YtjepodcgbfejgaaDoorChT
/- The law CharsNames, walked. -/
namespace Go.Proofs.YtjepodcgbfejgaaDoor.CP
theorem vldV_pair (o : Option Nat) : ∃ p b, vldV o = .tuple #[.int .i64 p, .bool b] := by
  cases o with
  | none => exact ⟨0, true, rfl⟩
  | some p => exact ⟨p, false, rfl⟩
end Go.Proofs.YtjepodcgbfejgaaDoor.CP
namespace Go.Proofs.YtjepodcgbfejgaaDoor.Hw
open Go.RowKit Go.Proofs.YtjepodcgbfejgaaDoorW.PrintWords Go.Proofs.YtjepodcgbfejgaaDoorW.PrintLast Go.Proofs.YtjepodcgbfejgaaDoorW.PrintMore Go.Proofs.YtjepodcgbfejgaaDoor.PH Go.Proofs.YtjepodcgbfejgaaDoor.CP
set_option linter.unusedVariables false
set_option linter.unusedSimpArgs false
set_option maxRecDepth 100000 in
set_option maxHeartbeats 2000000 in
theorem charsNames_walk (w : World) (hC : ChW w) (s : ByteArray) (hs : s.size ≤ 1048576) :
    Calls Tryd.prog 5 #[.string s] w fun e w' => e = .returned (.bool true) ∧ Below w.heap.size w w' := by
  have HV1 := onward (w0 := w) fun w1 hb => valid_calls s w1 (hC.go hb) (by unfold maxLen; omega)
  have HV2 := onward (w0 := w) fun w1 hb => rvalid_calls s w1 (hC.go hb) (by unfold maxLen; omega)
  have HS1 := onward (w0 := w) fun w1 hb => split_calls s w1 (hC.go hb) (by omega)
  have HS2 := onward (w0 := w) fun w1 hb => rsplit_calls s w1 (hC.go hb) (by omega)
  have HN1 := onward (w0 := w) fun w1 hb => name_calls s w1 (hC.go hb) (by unfold maxLen; omega)
  have HN2 := onward (w0 := w) fun w1 hb => rname_calls s w1 (hC.go hb) (by omega)
  have HL := onward (w0 := w) fun w1 hb => live_calls w1 (hC.go hb)
  obtain ⟨p, b, hv⟩ := vldV_pair (vld s)
  rw [hv] at HV1 HV2
  unfold splW at HS1 HS2
  generalize (spl s).1 = x at *
  generalize (spl s).2.1 = y at *
  generalize (spl s).2.2 = z at *
  generalize nameB s = n at *
  have t1 : (p == p) = true := by simp
  have t2 : (b == b) = true := by simp
  have t3 : (x.toList == x.toList) = true := by simp
  have t4 : (y.toList == y.toList) = true := by simp
  have t5 : (z == z) = true := by simp
  have t6 : (n == n) = true := by simp
  have HB0 : Aside0 (Below w.heap.size w w) := ⟨Below.refl _ _⟩
  have K1 := Aside0.mk HV1; have K2 := Aside0.mk HV2; have K3 := Aside0.mk HS1; have K4 := Aside0.mk HS2; have K5 := Aside0.mk HN1; have K6 := Aside0.mk HN2; have K7 := Aside0.mk HL
  clear HV1 HV2 HS1 HS2 HN1 HN2 HL hC hv
  go_enter Tryd.func5, Tryd.ntmps5
  go_wp2_with (first
    | (go_at_call 21; refine (K1.out _ (by assumption)).mono ?_; rintro e w2 ⟨rfl, hb2⟩)
    | (go_at_call 22; refine (K2.out _ (by assumption)).mono ?_; rintro e w2 ⟨rfl, hb2⟩)
    | (go_at_call 23; refine (K3.out _ (by assumption)).mono ?_; rintro e w2 ⟨rfl, hb2⟩)
    | (go_at_call 24; refine (K4.out _ (by assumption)).mono ?_; rintro e w2 ⟨rfl, hb2⟩)
    | (go_at_call 25; refine (K5.out _ (by assumption)).mono ?_; rintro e w2 ⟨rfl, hb2⟩)
    | (go_at_call 26; refine (K6.out _ (by assumption)).mono ?_; rintro e w2 ⟨rfl, hb2⟩)
    | (go_at_call 9; refine (K7.out _ (by assumption)).mono ?_; rintro e w2 ⟨rfl, hb2⟩))
  go_ret
  exact ⟨rfl, Aside0.out (by assumption)⟩
end Go.Proofs.YtjepodcgbfejgaaDoor.Hw
