import Derived.Test.YtfkoiebnpgodmaaDoorChB
/- Names that are alike, walked: the program's and the document's. -/
namespace Go.Proofs.YtfkoiebnpgodmaaDoor.Hw
open Go.RowKit Go.Proofs.YtfkoiebnpgodmaaDoorW.PrintWords Go.Proofs.YtfkoiebnpgodmaaDoorW.PrintLast Go.Proofs.YtfkoiebnpgodmaaDoorW.PrintMore Go.Proofs.YtfkoiebnpgodmaaDoor.PH Go.Proofs.YtfkoiebnpgodmaaDoor.CP
set_option linter.unusedVariables false
set_option linter.unusedSimpArgs false
/-- Two names are held to be one. -/
def alk (a b : ByteArray) : Bool := (upV a).toList == (upV b).toList
set_option maxHeartbeats 1000000 in
theorem alike_calls (a b : ByteArray) (w : World) (ha : a.size ≤ 140737488351232) (hb : b.size ≤ 140737488351232) :
    Calls Tryd.prog 21 #[.string a, .string b] w fun e w' => e = .returned (.bool (alk a b)) ∧ Below w.heap.size w w' := by
  have H1 := Aside0.mk (onward (w0 := w) fun w1 _ => upper_calls a w1 ha)
  have H2 := Aside0.mk (onward (w0 := w) fun w1 _ => upper_calls b w1 hb)
  have HB0 : Aside0 (Below w.heap.size w w) := ⟨Below.refl _ _⟩
  go_enter Tryd.func21, Tryd.ntmps21
  go_wp2_with (go_at_call 48; first | ((with_reducible refine (H1.out _ (by assumption)).mono ?_); rintro e w2 ⟨rfl, hb2⟩) | ((with_reducible refine (H2.out _ (by assumption)).mono ?_); rintro e w2 ⟨rfl, hb2⟩))
  go_ret
  exact ⟨rfl, Aside0.out (by assumption)⟩
set_option maxHeartbeats 1000000 in
theorem ralike_calls (a b : ByteArray) (w : World) (ha : a.size ≤ 140737488351232) (hb : b.size ≤ 140737488351232) :
    Calls Tryd.prog 22 #[.string a, .string b] w fun e w' => e = .returned (.bool (alk a b)) ∧ Below w.heap.size w w' := by
  have H1 := Aside0.mk (onward (w0 := w) fun w1 _ => rupper_calls a w1 ha)
  have H2 := Aside0.mk (onward (w0 := w) fun w1 _ => rupper_calls b w1 hb)
  have HB0 : Aside0 (Below w.heap.size w w) := ⟨Below.refl _ _⟩
  go_enter Tryd.func22, Tryd.ntmps22
  go_wp2_with (go_at_call 49; first | ((with_reducible refine (H1.out _ (by assumption)).mono ?_); rintro e w2 ⟨rfl, hb2⟩) | ((with_reducible refine (H2.out _ (by assumption)).mono ?_); rintro e w2 ⟨rfl, hb2⟩))
  go_ret
  exact ⟨rfl, Aside0.out (by assumption)⟩
end Go.Proofs.YtfkoiebnpgodmaaDoor.Hw
