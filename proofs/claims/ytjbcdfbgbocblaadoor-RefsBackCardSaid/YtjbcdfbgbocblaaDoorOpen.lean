import Derived.Test.YtjbcdfbgbocblaaDoorWWords
import Derived.SizedLaws
import Derived.ChangeShapes
import Derived.WideShapes
import Derived.Deep.Slices
import Derived.Carry
/- Arguments of any plain type, opened: out of what is read as data comes what the kinds say of cells. -/
namespace Go.Proofs.YtjbcdfbgbocblaaDoor.Op
open Go.ChangeShapes Go.WideShapes Go.Deep Go.Proofs.YtjbcdfbgbocblaaDoorW.PrintWords
set_option linter.unusedVariables false
set_option linter.unusedSimpArgs false
section
variable {H : Type} {enc : TypeId × Value → H} {P : Program} {w : World}
/-- Whatever reads at type t is of kind d, and G is true of it. -/
def Opens (enc : TypeId × Value → H) (P : Program) (w : World) (t : TypeId) {α : Type} (d : Kd α) (G : α → Prop) : Prop :=
  ∀ (fuel : Nat) (cs : List Value) (x : DataW H × List MemPlace), DataW.trod enc P w 0 (fun _ => true) true fuel t cs = some x → (∀ n ∈ x.1.weights P t, n ≤ reachBytes) → ∃ a : α, d.K w a cs ∧ G a
theorem Opens.imp {t : TypeId} {α : Type} {d : Kd α} {G G' : α → Prop} (h : Opens enc P w t d G) (hG : ∀ a, G a → G' a) : Opens enc P w t d G' := fun fuel cs x hx hn => by
  obtain ⟨a, h1, h2⟩ := h fuel cs x hx hn
  exact ⟨a, h1, hG a h2⟩
theorem opens_int {t : TypeId} {k : IntKind} (ht : P.underlying t = some (.int k)) : Opens enc P w t (Kd.int k) (fun a => (Lit.int k a).wf = true) := fun fuel cs x hx _ => by
  obtain ⟨n, rfl, _, hw⟩ := DataW.trod_int ht hx
  exact ⟨n, rfl, hw⟩
theorem opens_bool {t : TypeId} (ht : P.underlying t = some .bool) : Opens enc P w t Kd.bool (fun _ => True) := fun fuel cs x hx _ => by
  obtain ⟨n, rfl, _⟩ := DataW.trod_bool ht hx
  exact ⟨n, rfl, trivial⟩
theorem opens_string {t : TypeId} (ht : P.underlying t = some .string) : Opens enc P w t Kd.string (fun a => a.size ≤ 140737488351232) := fun fuel cs x hx hn => by
  obtain ⟨s, rfl, rfl, _⟩ := DataW.trod_string ht hx
  refine ⟨s, rfl, ?_⟩
  have := hn s.data.toList.length (by simp [DataW.weights])
  rw [Array.length_toList] at this
  exact this
/-- Fields from one on, whose cells lie in line from off on. -/
def OpensF (enc : TypeId × Value → H) (P : Program) (w : World) (fs : List Field) (off : Nat) {α : Type} (d : Kd α) (G : α → Prop) : Prop :=
  ∀ (n : Nat) (cs : List Value) (xs : List (DataW H × List MemPlace)), cs.length = off + d.sz → xs.length = fs.length → (∀ (i : Nat) (f : Field), fs[i]? = some f → DataW.trod enc P w 0 (fun _ => true) true n f.type ((cs.drop f.offset).take (P.cellsOf f.type)) = xs[i]?) →
    (∀ n ∈ DataW.weightsEach P (fs.map (·.type)) (xs.map (·.1)), n ≤ reachBytes) → ∃ a : α, d.K w a (cs.drop off) ∧ G a
theorem opensF_one {f : Field} {off : Nat} {α : Type} {d : Kd α} {G : α → Prop} (h : Opens enc P w f.type d G) (ho : f.offset = off) (hc : P.cellsOf f.type = d.sz) : OpensF enc P w [f] off d G := fun n cs xs hl hx hi hn => by
  match xs, hx with
  | [x], _ =>
    have h0 := hi 0 f rfl
    rw [ho, hc, List.take_of_length_le (by rw [List.length_drop]; omega)] at h0
    exact h n _ x h0 (fun q hq => hn q (by simp [DataW.weightsEach, hq]))
theorem opensF_cons {f : Field} {fs : List Field} {off s : Nat} {α β : Type} {d : Kd α} {d2 : Kd β} {G : α → Prop} {G2 : β → Prop} (h : Opens enc P w f.type d G) (ho : f.offset = off) (hc : P.cellsOf f.type = s) (hs : d.sz = s) (h2 : OpensF enc P w fs (off + s) d2 G2) :
    OpensF enc P w (f :: fs) off (Kd.pair d d2) (fun p => G p.1 ∧ G2 p.2) := fun n cs xs hl hx hi hn => by
  match xs, hx with
  | x :: xs, hx =>
    have h0 := hi 0 f rfl
    rw [ho, hc] at h0
    have hl' : cs.length = off + (d.sz + d2.sz) := hl
    obtain ⟨a, ha, hg⟩ := h n _ x h0 (fun q hq => hn q (by simp [DataW.weightsEach, hq]))
    obtain ⟨b, hb, hg2⟩ := h2 n cs xs (by omega) (by simpa using hx) (fun i f' hf' => hi (i + 1) f' hf') (fun q hq => hn q (by simp [DataW.weightsEach, hq]))
    refine ⟨(a, b), ⟨_, _, ?_, ha, hb⟩, hg, hg2⟩
    rw [← List.drop_drop, List.take_append_drop]
theorem opens_struct {t : TypeId} {fs : Array Field} {α : Type} {d : Kd α} {G : α → Prop} (ht : P.underlying t = some (.struct fs)) (hc : P.cellsOf t = d.sz) (h : OpensF enc P w fs.toList 0 d G) : Opens enc P w t d G := fun fuel cs x hx hn => by
  obtain ⟨xs, n, _, rfl, hl, hxl, hi⟩ := DataW.trod_struct ht hx
  simp only [DataW.weights, ht] at hn
  obtain ⟨a, h1, h2⟩ := h n cs xs (by omega) (by simpa using hxl) (fun i f hf => hi i f (by simpa using hf)) hn
  exact ⟨a, by simpa using h1, h2⟩
/-- An argument that is a struct by value. -/
theorem arg_agg {t : TypeId} {α : Type} {d : Kd α} {G : α → Prop} {cs : Array Value} {dd : DataW H} {ps : List MemPlace} (h : Opens enc P w t d G) (hd : DataW.Trod enc P w 0 (fun _ => true) true t (.agg cs) dd ps) (hn : ∀ n ∈ dd.weights P t, n ≤ reachBytes) :
    ∃ x : α, d.K w x cs.toList ∧ G x := by
  obtain ⟨fuel, hf⟩ := hd
  exact h fuel _ _ hf hn
end
end Go.Proofs.YtjbcdfbgbocblaaDoor.Op
