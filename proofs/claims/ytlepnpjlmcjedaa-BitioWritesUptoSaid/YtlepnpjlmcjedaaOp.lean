import Derived.Test.YtlepnpjlmcjedaaOpen
import Derived.Test.YtlepnpjlmcjedaaPHx0
/- The script's elements: Kind, N, V, Data. -/
namespace Go.Proofs.Ytlepnpjlmcjedaa.Hw
open Go.RowKit Go.Proofs.YtlepnpjlmcjedaaW.PrintWords Go.Proofs.YtlepnpjlmcjedaaW.PrintLast Go.Proofs.YtlepnpjlmcjedaaW.PrintMore Go.Proofs.Ytlepnpjlmcjedaa.Op
set_option linter.unusedVariables false
set_option linter.unusedSimpArgs false
structure OpD where
  kind : Int
  n : Int
  v : Int
  data : List Int
def zOp : OpD := ⟨0, 0, 0, []⟩
def kOp : Kd OpD := Kd.iso (Kd.pair (Kd.int .i64) (Kd.pair (Kd.int .i64) (Kd.pair (Kd.int .u32) (Kd.slice 5 (Kd.int .u8))))) (fun x => (x.kind, x.n, x.v, x.data))
theorem kOp_open {w : World} {x : OpD} {cs : List Value} (h : kOp.K w x cs) : ∃ A c, cs = [.int .i64 x.kind, .int .i64 x.n, .int .u32 x.v, .slice A x.data.length c] ∧ x.data.length ≤ c ∧ (Kd.int .u8).C w A x.data.length x.data := by
  obtain ⟨_, _, rfl, rfl, _, _, rfl, rfl, _, _, rfl, rfl, ⟨A, c, rfl, l, g⟩⟩ := h
  exact ⟨A, c, rfl, l, g⟩
theorem at_op {w : World} {A : Option Addr} {n : Nat} {xs : List OpD} (h : Kd.C kOp w A n xs) (i : Int) (h0 : 0 ≤ i) (h1 : i < n) : ∃ ad A1 c1, A = some ad ∧ w.cell? (ad.add (i.toNat * 4)) = some (.int .i64 (xs.getD i.toNat zOp).kind) ∧ w.cell? ⟨(ad.add (i.toNat * 4)).block, (ad.add (i.toNat * 4)).off + 1, none⟩ = some (.int .i64 (xs.getD i.toNat zOp).n) ∧ w.cell? ⟨(ad.add (i.toNat * 4)).block, (ad.add (i.toNat * 4)).off + 2, none⟩ = some (.int .u32 (xs.getD i.toNat zOp).v) ∧ w.cell? ⟨(ad.add (i.toNat * 4)).block, (ad.add (i.toNat * 4)).off + 3, none⟩ = some (.slice A1 (xs.getD i.toNat zOp).data.length c1) ∧ (xs.getD i.toNat zOp).data.length ≤ c1 ∧ (Kd.int .u8).C w A1 (xs.getD i.toNat zOp).data.length (xs.getD i.toNat zOp).data := by
  obtain ⟨ad, c, e, _, hK, hc0⟩ := Kd.C_get h zOp i h0 h1
  have hc : ∀ j u, c[j]? = some u → w.cell? (ad.add (i.toNat * 4 + j)) = some u := hc0
  obtain ⟨A1, c1, rfl, l1, g1⟩ := kOp_open hK
  exact ⟨ad, A1, c1, e, hc 0 _ rfl, by rw [← add_field _ _ 1 (by omega)]; exact hc 1 _ rfl, by rw [← add_field _ _ 2 (by omega)]; exact hc 2 _ rfl, by rw [← add_field _ _ 3 (by omega)]; exact hc 3 _ rfl, l1, g1⟩
/-- What is known of an element that came in. -/
def OpG (x : OpD) : Prop := (Lit.int .i64 x.kind).wf = true ∧ (Lit.int .i64 x.n).wf = true ∧ (Lit.int .u32 x.v).wf = true ∧ x.data.length * 1 ≤ 140737488351232 ∧ x.data.length ≤ 9223372036854775807 ∧ ∀ y ∈ x.data, (Lit.int .u8 y).wf = true
theorem opens_op {H : Type} {enc : TypeId × Value → H} {w : World} : Opens enc Try.prog w 44 kOp OpG := by
  refine (opens_iso (opens_struct Try.underlying44 (by kernel_rfl) (opensF_cons (opens_int Try.underlying3) rfl (by kernel_rfl) rfl (opensF_cons (opens_int Try.underlying3) rfl (by kernel_rfl) rfl (opensF_cons (opens_int Try.underlying31) rfl (by kernel_rfl) rfl (opensF_one (opens_slice (B := 1) Try.underlying37 (opens_int Try.underlying5) (by kernel_rfl) (by kernel_rfl)) rfl (by kernel_rfl)))))) (fun x : OpD => (x.kind, x.n, x.v, x.data)) (fun p => ⟨p.1, p.2.1, p.2.2.1, p.2.2.2⟩) (fun _ => rfl)).imp ?_
  rintro ⟨a, b, c, d⟩ ⟨h1, h2, h3, h4⟩
  exact ⟨h1, h2, h3, h4⟩
theorem opens_ops {H : Type} {enc : TypeId × Value → H} {w : World} : Opens enc Try.prog w 38 (Kd.slice 44 kOp) (fun xs => xs.length * 48 ≤ 140737488351232 ∧ xs.length ≤ 9223372036854775807 ∧ ∀ x ∈ xs, OpG x) :=
  opens_slice (B := 48) Try.underlying38 opens_op (by kernel_rfl) (by kernel_rfl)
end Go.Proofs.Ytlepnpjlmcjedaa.Hw
