import Derived.Test.YtjepodcgbfejgaaDoorChX
import Derived.Test.YtjepodcgbfejgaaDoorChY
import Derived.Test.YtjepodcgbfejgaaDoorChB
/- The law CharsCuts, walked. -/
namespace Go.Proofs.YtjepodcgbfejgaaDoor.Hw
open Go.RowKit Go.Proofs.YtjepodcgbfejgaaDoorW.PrintWords Go.Proofs.YtjepodcgbfejgaaDoorW.PrintLast Go.Proofs.YtjepodcgbfejgaaDoorW.PrintMore Go.Proofs.YtjepodcgbfejgaaDoor.PH Go.Proofs.YtjepodcgbfejgaaDoor.CP
set_option linter.unusedVariables false
set_option linter.unusedSimpArgs false
set_option maxRecDepth 100000 in
set_option maxHeartbeats 2000000 in
theorem charsCuts_walk (w : World) (hC : ChW w) (s : ByteArray) (hs : s.size ≤ 1048576) (a : Int) (wa : (Lit.int .i64 a).wf = true) (b : Int) (wb : (Lit.int .i64 b).wf = true) :
    Calls Tryd.prog 7 #[.string s, .int .i64 a, .int .i64 b] w fun e w' => e = .returned (.bool true) ∧ Below w.heap.size w w' := by
  have H0 := onward (w0 := w) fun w1 hb => live_calls w1 (hC.go hb)
  have H1 := onward (w0 := w) fun w1 hb => lines_calls s w1 (hC.go hb) (by omega)
  have H2 := onward (w0 := w) fun w1 hb => rlines_calls s w1 (by omega)
  have H3 := onward (w0 := w) fun w1 hb => count_calls s w1 (by omega)
  have H4 := onward (w0 := w) fun w1 hb => rcount_calls s w1 (hC.go hb) (by omega)
  have H5 := onward (w0 := w) fun w1 hb => cutc_calls s a b w1 (by omega)
  have H6 := onward (w0 := w) fun w1 hb => rcut_calls s a b w1 (hC.go hb) (by omega)
  have H7 := onward (w0 := w) fun w1 hb => upper_calls s w1 (by omega)
  have H8 := onward (w0 := w) fun w1 hb => rupper_calls s w1 (by omega)
  have H9 := onward (w0 := w) fun w1 hb => lower_calls s w1 (by omega)
  have H10 := onward (w0 := w) fun w1 hb => rlower_calls s w1 (by omega)
  generalize lnV s = x1 at *
  generalize Lib.runeCount s = x2 at *
  generalize cutV s a b = x3 at *
  generalize upV s = x4 at *
  generalize loV s = x5 at *
  have t1 : (x1.toList == x1.toList) = true := by simp
  have t2 : ((x2 : Int) == (x2 : Int)) = true := by simp
  have t2' : (x2 == x2) = true := by simp
  have t3 : (x3.toList == x3.toList) = true := by simp
  have t4 : (x4.toList == x4.toList) = true := by simp
  have t5 : (x5.toList == x5.toList) = true := by simp
  have HB0 : Aside0 (Below w.heap.size w w) := ⟨Below.refl _ _⟩
  have K0 := Aside0.mk H0; have K1 := Aside0.mk H1; have K2 := Aside0.mk H2; have K3 := Aside0.mk H3; have K4 := Aside0.mk H4; have K5 := Aside0.mk H5; have K6 := Aside0.mk H6; have K7 := Aside0.mk H7; have K8 := Aside0.mk H8; have K9 := Aside0.mk H9; have K10 := Aside0.mk H10
  clear H0 H1 H2 H3 H4 H5 H6 H7 H8 H9 H10 hC
  go_enter Tryd.func7, Tryd.ntmps7
  go_wp2_with (first
    | (go_at_call 9; refine (K0.out _ (by assumption)).mono ?_; rintro e w2 ⟨rfl, hb2⟩)
    | (go_at_call 29; refine (K1.out _ (by assumption)).mono ?_; rintro e w2 ⟨rfl, hb2⟩)
    | (go_at_call 30; refine (K2.out _ (by assumption)).mono ?_; rintro e w2 ⟨rfl, hb2⟩)
    | (go_at_call 28; refine (K3.out _ (by assumption)).mono ?_; rintro e w2 ⟨rfl, hb2⟩)
    | (go_at_call 31; refine (K4.out _ (by assumption)).mono ?_; rintro e w2 ⟨rfl, hb2⟩)
    | (go_at_call 27; refine (K5.out _ (by assumption)).mono ?_; rintro e w2 ⟨rfl, hb2⟩)
    | (go_at_call 32; refine (K6.out _ (by assumption)).mono ?_; rintro e w2 ⟨rfl, hb2⟩)
    | (go_at_call 33; refine (K7.out _ (by assumption)).mono ?_; rintro e w2 ⟨rfl, hb2⟩)
    | (go_at_call 34; refine (K8.out _ (by assumption)).mono ?_; rintro e w2 ⟨rfl, hb2⟩)
    | (go_at_call 35; refine (K9.out _ (by assumption)).mono ?_; rintro e w2 ⟨rfl, hb2⟩)
    | (go_at_call 36; refine (K10.out _ (by assumption)).mono ?_; rintro e w2 ⟨rfl, hb2⟩))
  go_ret
  exact ⟨rfl, Aside0.out (by assumption)⟩
end Go.Proofs.YtjepodcgbfejgaaDoor.Hw
