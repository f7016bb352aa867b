import Derived.Test.YtjbcdfbgbocblaaDoorQrL
import Derived.Test.YtjbcdfbgbocblaaDoorOpen
/- Openers of a reference and of a cell. -/
namespace Go.Proofs.YtjbcdfbgbocblaaDoor.Hw
open Go.RowKit Go.Proofs.YtjbcdfbgbocblaaDoorW.PrintWords Go.Proofs.YtjbcdfbgbocblaaDoorW.PrintLast Go.Proofs.YtjbcdfbgbocblaaDoorW.PrintMore Go.Proofs.YtjbcdfbgbocblaaDoor.PH Go.Proofs.YtjbcdfbgbocblaaDoor.CP Go.Proofs.YtjbcdfbgbocblaaDoor.Op
set_option linter.unusedVariables false
set_option linter.unusedSimpArgs false
abbrev kdCorner := Kd.pair (Kd.int .i64) (Kd.pair (Kd.int .i64) (Kd.pair Kd.bool Kd.bool))
abbrev kdRef := Kd.pair Kd.string (Kd.pair Kd.string (Kd.pair Kd.bool (Kd.pair Kd.bool (Kd.pair kdCorner kdCorner))))
abbrev TRef := ByteArray × ByteArray × Bool × Bool × (Int × Int × Bool × Bool) × (Int × Int × Bool × Bool)
/-- What a reference that may be read has. -/
def GRef (x : TRef) : Prop := x.1.size ≤ 140737488351232 ∧ x.2.1.size ≤ 140737488351232 ∧ True ∧ True ∧ ((Lit.int .i64 x.2.2.2.2.1.1).wf = true ∧ (Lit.int .i64 x.2.2.2.2.1.2.1).wf = true ∧ True ∧ True) ∧ ((Lit.int .i64 x.2.2.2.2.2.1).wf = true ∧ (Lit.int .i64 x.2.2.2.2.2.2.1).wf = true ∧ True ∧ True)
section
variable {H : Type} {enc : TypeId × Value → H} {w : World}
set_option maxRecDepth 100000 in
theorem opens_corner : Opens enc Tryd.prog w 30 kdCorner (fun x => (Lit.int .i64 x.1).wf = true ∧ (Lit.int .i64 x.2.1).wf = true ∧ True ∧ True) := by
  refine opens_struct Tryd.underlying30 (by kernel_rfl) (opensF_cons (opens_int Tryd.underlying3) rfl (by kernel_rfl) rfl (opensF_cons (opens_int Tryd.underlying3) rfl (by kernel_rfl) rfl (opensF_cons (opens_bool Tryd.underlying4) rfl (by kernel_rfl) rfl (opensF_one (opens_bool Tryd.underlying4) rfl (by kernel_rfl)))))
set_option maxRecDepth 100000 in
theorem opens_ref : Opens enc Tryd.prog w 32 kdRef GRef := by
  refine (opens_struct Tryd.underlying32 (by kernel_rfl) (opensF_cons (opens_string Tryd.underlying9) rfl (by kernel_rfl) rfl (opensF_cons (opens_string Tryd.underlying9) rfl (by kernel_rfl) rfl (opensF_cons (opens_bool Tryd.underlying4) rfl (by kernel_rfl) rfl (opensF_cons (opens_bool Tryd.underlying4) rfl (by kernel_rfl) rfl (opensF_cons opens_corner rfl (by kernel_rfl) rfl (opensF_one opens_corner rfl (by kernel_rfl)))))))).imp ?_
  rintro ⟨x1, x2, x3, x4, x5, x6⟩ ⟨h1, h2, h3, h4, h5, h6⟩
  exact ⟨h1, h2, h3, h4, h5, h6⟩
end
def rfOf (x : TRef) : Rf := ⟨x.1, x.2.1, x.2.2.1, x.2.2.2.1, x.2.2.2.2.1.1, x.2.2.2.2.1.2.1, x.2.2.2.2.1.2.2.1, x.2.2.2.2.1.2.2.2, x.2.2.2.2.2.1, x.2.2.2.2.2.2.1, x.2.2.2.2.2.2.2.1, x.2.2.2.2.2.2.2.2⟩
theorem ref_cells {w : World} {x : TRef} {cs : Array Value} (h : kdRef.K w x cs.toList) : cs = (rfOf x).cs := by
  obtain ⟨_, _, h1, e1, _, _, rfl, e2, _, _, rfl, e3, _, _, rfl, e4, _, _, rfl, ⟨_, _, rfl, a1, _, _, rfl, a2, _, _, rfl, a3, a4⟩, ⟨_, _, rfl, b1, _, _, rfl, b2, _, _, rfl, b3, b4⟩⟩ := h
  obtain rfl := (show _ = _ from e1); obtain rfl := (show _ = _ from e2); obtain rfl := (show _ = _ from e3); obtain rfl := (show _ = _ from e4)
  obtain rfl := (show _ = _ from a1); obtain rfl := (show _ = _ from a2); obtain rfl := (show _ = _ from a3); obtain rfl := (show _ = _ from a4)
  obtain rfl := (show _ = _ from b1); obtain rfl := (show _ = _ from b2); obtain rfl := (show _ = _ from b3); obtain rfl := (show _ = _ from b4)
  cases cs; simpa [rfOf, Rf.cs] using h1
abbrev kdCell := Kd.pair (Kd.int .i64) (Kd.int .i64)
def GCell (x : Int × Int) : Prop := (Lit.int .i64 x.1).wf = true ∧ (Lit.int .i64 x.2).wf = true
section
variable {H : Type} {enc : TypeId × Value → H} {w : World}
set_option maxRecDepth 100000 in
theorem opens_cell : Opens enc Tryd.prog w 34 kdCell GCell := by
  refine opens_struct Tryd.underlying34 (by kernel_rfl) (opensF_cons (opens_int Tryd.underlying3) rfl (by kernel_rfl) rfl (opensF_one (opens_int Tryd.underlying3) rfl (by kernel_rfl)))
end
theorem cell_cells {w : World} {x : Int × Int} {cs : Array Value} (h : kdCell.K w x cs.toList) : cs = #[.int .i64 x.1, .int .i64 x.2] := by
  obtain ⟨_, _, h1, e1, e2⟩ := h
  obtain rfl := (show _ = _ from e1); obtain rfl := (show _ = _ from e2)
  cases cs; simpa using h1
end Go.Proofs.YtjbcdfbgbocblaaDoor.Hw
