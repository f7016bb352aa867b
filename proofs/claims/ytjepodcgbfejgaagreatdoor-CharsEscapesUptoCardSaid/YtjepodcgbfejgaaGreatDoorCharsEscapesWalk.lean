import Derived.Test.YtjepodcgbfejgaaGreatDoorRpD
import Derived.Test.YtjepodcgbfejgaaGreatDoorRpV
import Derived.Test.YtjepodcgbfejgaaGreatDoorChL
import Derived.Test.YtjepodcgbfejgaaGreatDoorChRv
/- The law CharsEscapes, walked. -/
namespace Go.Proofs.YtjepodcgbfejgaaGreatDoor.Hw
open Go.RowKit Go.Proofs.YtjepodcgbfejgaaGreatDoorW.PrintWords Go.Proofs.YtjepodcgbfejgaaGreatDoorW.PrintLast Go.Proofs.YtjepodcgbfejgaaGreatDoorW.PrintMore Go.Proofs.YtjepodcgbfejgaaGreatDoor.PH Go.Proofs.YtjepodcgbfejgaaGreatDoor.CP
set_option linter.unusedVariables false
set_option linter.unusedSimpArgs false
theorem escE_shape (attr : Bool) (s : ByteArray) (o : Option Nat) : ∃ A : ByteArray, ∃ E : Int, escE attr s o = .tuple #[.string A, .int .i64 E] := by
  cases o with
  | none => exact ⟨_, _, rfl⟩
  | some p => exact ⟨_, _, rfl⟩
theorem unV_shape (s : ByteArray) : ∃ A : ByteArray, ∃ n E : Int, unV s = .tuple #[.string A, .int .i64 n, .int .i64 E] := by
  unfold unV
  cases vld s with
  | some p => exact ⟨_, _, _, rfl⟩
  | none =>
    show ∃ A : ByteArray, ∃ n E : Int, unW (unF s s.size 0 []) = _
    obtain ⟨a, n⟩ := unF s s.size 0 []
    cases a with
    | none => exact ⟨_, _, _, rfl⟩
    | some l => exact ⟨_, _, _, rfl⟩
set_option maxRecDepth 100000 in
set_option maxHeartbeats 2000000 in
theorem charsEscapes_walk (w : World) (hC : ChW w) (s : ByteArray) (hs : s.size ≤ 1048576) (attr : Bool) :
    Calls Tryz.prog 3 #[.string s, .bool attr] w fun e w' => e = .returned (.bool true) ∧ Below w.heap.size w w' := by
  have H0 := onward (w0 := w) fun w1 hb => live_calls w1 (hC.go hb)
  have H1 := onward (w0 := w) fun w1 hb => escape_calls s attr w1 (hC.go hb) (by omega)
  have H2 := onward (w0 := w) fun w1 hb => rescape_calls s attr w1 (hC.go hb) (by omega)
  have H3 := onward (w0 := w) fun w1 hb => unescape_calls s w1 (hC.go hb) (by omega)
  have H4 := onward (w0 := w) fun w1 hb => runescape_calls s w1 (hC.go hb) (by omega)
  obtain ⟨A, E, h1⟩ := escE_shape attr s (vld s)
  obtain ⟨B, n, F, h2⟩ := unV_shape s
  rw [h1] at H1 H2
  rw [h2] at H3 H4
  have HB0 : Aside0 (Below w.heap.size w w) := ⟨Below.refl _ _⟩
  have K0 := Aside0.mk H0; have K1 := Aside0.mk H1; have K2 := Aside0.mk H2; have K3 := Aside0.mk H3; have K4 := Aside0.mk H4
  clear H0 H1 H2 H3 H4 hC h1 h2
  have tA : (A.toList == A.toList) = true := beq_self_eq_true _
  have tB : (B.toList == B.toList) = true := beq_self_eq_true _
  have tE : (E == E) = true := beq_self_eq_true _
  have tF : (F == F) = true := beq_self_eq_true _
  have tn : (n == n) = true := beq_self_eq_true _
  go_enter Tryz.func3, Tryz.ntmps3
  go_wp2_with (first
    | (go_at_call 8; refine (K0.out _ (by assumption)).mono ?_; rintro e w2 ⟨rfl, hb2⟩)
    | (go_at_call 4; refine (K1.out _ (by assumption)).mono ?_; rintro e w2 ⟨rfl, hb2⟩)
    | (go_at_call 5; refine (K2.out _ (by assumption)).mono ?_; rintro e w2 ⟨rfl, hb2⟩)
    | (go_at_call 6; refine (K3.out _ (by assumption)).mono ?_; rintro e w2 ⟨rfl, hb2⟩)
    | (go_at_call 7; refine (K4.out _ (by assumption)).mono ?_; rintro e w2 ⟨rfl, hb2⟩))
  go_ret
  exact ⟨rfl, Aside0.out (by assumption)⟩
end Go.Proofs.YtjepodcgbfejgaaGreatDoor.Hw
