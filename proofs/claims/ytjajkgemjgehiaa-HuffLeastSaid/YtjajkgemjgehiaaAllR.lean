/- Counts that may be: not below 0 and no more than 2^31 (no program). -/
namespace Go.Proofs.Ytjajkgemjgehiaa.Hw
def inR (x : Int) : Prop := 0 ≤ x ∧ x ≤ 2147483648
instance (x : Int) : Decidable (inR x) := by unfold inR; infer_instance
def allR (l : List Int) : Prop := ∀ x ∈ l, inR x
instance (l : List Int) : Decidable (allR l) := by unfold allR; infer_instance
theorem allR_cons {x : Int} {l : List Int} : allR (x :: l) ↔ inR x ∧ allR l := by simp [allR]
end Go.Proofs.Ytjajkgemjgehiaa.Hw
