import Derived.Test.YtjbcdfbgbocblaaDoorWWords
import Derived.SizedLaws
import Derived.ChangeShapes
import Derived.WideShapes
import Derived.Deep.Slices
import Derived.Carry
/- Arguments of any plain type, opened: out of what is read as data comes what the kinds say of cells. -/
namespace Go.Proofs.YtjbcdfbgbocblaaDoor.Op
open Go.ChangeShapes Go.WideShapes Go.Deep Go.Proofs.YtjbcdfbgbocblaaDoorW.PrintWords
set_option linter.unusedVariables false
set_option linter.unusedSimpArgs false
section
variable {H : Type} {enc : TypeId × Value → H} {P : Program} {w : World}
/-- Whatever reads at type t is of kind d, and G is true of it. -/
def Opens (enc : TypeId × Value → H) (P : Program) (w : World) (t : TypeId) {α : Type} (d : Kd α) (G : α → Prop) : Prop :=
  ∀ (fuel : Nat) (cs : List Value) (x : DataW H × List MemPlace), DataW.trod enc P w 0 (fun _ => true) true fuel t cs = some x → (∀ n ∈ x.1.weights P t, n ≤ reachBytes) → ∃ a : α, d.K w a cs ∧ G a
theorem Opens.imp {t : TypeId} {α : Type} {d : Kd α} {G G' : α → Prop} (h : Opens enc P w t d G) (hG : ∀ a, G a → G' a) : Opens enc P w t d G' := fun fuel cs x hx hn => by
  obtain ⟨a, h1, h2⟩ := h fuel cs x hx hn
  exact ⟨a, h1, hG a h2⟩
theorem opens_int {t : TypeId} {k : IntKind} (ht : P.underlying t = some (.int k)) : Opens enc P w t (Kd.int k) (fun a => (Lit.int k a).wf = true) := fun fuel cs x hx _ => by
  obtain ⟨n, rfl, _, hw⟩ := DataW.trod_int ht hx
  exact ⟨n, rfl, hw⟩
theorem opens_bool {t : TypeId} (ht : P.underlying t = some .bool) : Opens enc P w t Kd.bool (fun _ => True) := fun fuel cs x hx _ => by
  obtain ⟨n, rfl, _⟩ := DataW.trod_bool ht hx
  exact ⟨n, rfl, trivial⟩
theorem opens_string {t : TypeId} (ht : P.underlying t = some .string) : Opens enc P w t Kd.string (fun a => a.size ≤ 140737488351232) := fun fuel cs x hx hn => by
  obtain ⟨s, rfl, rfl, _⟩ := DataW.trod_string ht hx
  refine ⟨s, rfl, ?_⟩
  have := hn s.data.toList.length (by simp [DataW.weights])
  rw [Array.length_toList] at this
  exact this
theorem weights_all {e : TypeId} : ∀ {l : List (DataW H)} {y : DataW H}, y ∈ l → ∀ n ∈ y.weights P e, n ∈ DataW.weightsAll P e l
  | x :: l, y, hy, n, hn => by
    simp only [DataW.weightsAll, List.mem_append]
    cases hy with
    | head => exact .inl hn
    | tail _ hy => exact .inr (weights_all hy n hn)
theorem opens_slice {t e : TypeId} {α : Type} {d : Kd α} {G : α → Prop} {B : Nat} (ht : P.underlying t = some (.slice e)) (he : Opens enc P w e d G) (hc : P.cellsOf e = d.sz) (hB : P.bytesOf e = B) :
    Opens enc P w t (Kd.slice e d) (fun xs => xs.length * B ≤ 140737488351232 ∧ xs.length ≤ 9223372036854775807 ∧ ∀ x ∈ xs, G x) := fun fuel cs x hx hn => by
  rcases open_slice ht hx with ⟨rfl, rfl⟩ | ⟨a, len, cap, m, n, D, Pl, rfl, _, hl, hm, hmm, rfl, hi⟩
  · exact ⟨[], ⟨none, 0, rfl, Nat.le_refl _, Kd.C_nil d w⟩, by simp, by simp, fun x h => by cases h⟩
  · have hml : len ≤ m := by rw [hmm]; simp only [if_true]; exact hl
    simp only [DataW.weights, ht] at hn
    have hlen := hn _ (List.mem_cons_self ..)
    have hlm : len ≤ 9223372036854775807 := by unfold maxLen at hm; omega
    rw [hB] at hlen
    simp only [List.length_map, List.length_range] at hlen
    have hex : ∀ i, ∃ y : Option α, i < len → ∃ z, y = some z ∧ ∃ cs', w.cells? 0 (a.add (i * P.cellsOf e)) (P.cellsOf e) = some cs' ∧ d.K w z cs' ∧ G z := by
      intro i
      by_cases hil : i < len
      · obtain ⟨cs', h1, h2⟩ := hi i (by omega)
        obtain ⟨z, h3, h4⟩ := he n cs' _ h2 (fun q hq => hn q (by
          refine List.mem_cons_of_mem _ (List.mem_append.2 (.inl ?_))
          exact weights_all (List.mem_map.2 ⟨i, List.mem_range.2 hil, rfl⟩) q hq))
        exact ⟨some z, fun _ => ⟨z, rfl, cs', h1, h3, h4⟩⟩
      · exact ⟨none, fun h => absurd h hil⟩
    obtain ⟨f, hf⟩ := Classical.axiomOfChoice hex
    have hxs : ∀ q, q ≤ len → ∃ xs : List α, xs.length = q ∧ ∀ i, i < q → f i = xs[i]? := by
      intro q
      induction q with
      | zero => intro _; exact ⟨[], rfl, fun i h => absurd h (Nat.not_lt_zero _)⟩
      | succ q ih =>
        intro hq
        obtain ⟨xs, h1, h2⟩ := ih (by omega)
        obtain ⟨z, hz, _⟩ := hf q (by omega)
        refine ⟨xs ++ [z], by simp [h1], fun i h => ?_⟩
        by_cases hiq : i = q
        · subst hiq; rw [hz, List.getElem?_append_right (by omega)]; simp [h1]
        · rw [h2 i (by omega), List.getElem?_append_left (by omega)]
    obtain ⟨xs, hxl, hxf⟩ := hxs len (Nat.le_refl _)
    refine ⟨xs, ⟨some a, cap, by rw [hxl], by omega, ⟨rfl, by omega, fun _ => ⟨a, rfl, fun j p hj => ?_⟩⟩⟩, ?_, by omega, fun x hx => ?_⟩
    · have hjl : j < len := by rw [← hxl]; exact (List.getElem?_eq_some_iff.1 hj).1
      obtain ⟨z, hz, cs', h1, h2, h3⟩ := hf j hjl
      rw [hxf j hjl, hj] at hz
      obtain rfl := Option.some.inj hz
      refine ⟨cs', d.K_len h2, h2, fun i u hu => ?_⟩
      obtain ⟨_, hcl, hcell⟩ := World.cells?_some h1
      have hil : i < P.cellsOf e := by rw [← hcl]; exact (List.getElem?_eq_some_iff.1 hu).1
      have := hcell i hil
      rw [hc] at this
      rw [← Go.Deep.add_add, this, hu]
    · rw [hxl]
      refine Nat.le_trans (Nat.mul_le_mul_right B ?_) hlen
      omega
    · obtain ⟨j, hj, rfl⟩ := List.getElem_of_mem hx
      obtain ⟨z, hz, cs', h1, h2, h3⟩ := hf j (by omega)
      rw [hxf j (by omega), List.getElem?_eq_getElem hj] at hz
      obtain rfl := Option.some.inj hz
      exact h3
theorem opens_iso {t : TypeId} {α β : Type} {d : Kd α} {G : α → Prop} (h : Opens enc P w t d G) (f : β → α) (g : α → β) (hfg : ∀ a, f (g a) = a) : Opens enc P w t (Kd.iso d f) (fun b => G (f b)) := fun fuel cs x hx hn => by
  obtain ⟨a, h1, h2⟩ := h fuel cs x hx hn
  exact ⟨g a, by show d.K w (f (g a)) cs; rw [hfg]; exact h1, by show G (f (g a)); rw [hfg]; exact h2⟩
/-- Fields from one on, whose cells lie in line from off on. -/
def OpensF (enc : TypeId × Value → H) (P : Program) (w : World) (fs : List Field) (off : Nat) {α : Type} (d : Kd α) (G : α → Prop) : Prop :=
  ∀ (n : Nat) (cs : List Value) (xs : List (DataW H × List MemPlace)), cs.length = off + d.sz → xs.length = fs.length → (∀ (i : Nat) (f : Field), fs[i]? = some f → DataW.trod enc P w 0 (fun _ => true) true n f.type ((cs.drop f.offset).take (P.cellsOf f.type)) = xs[i]?) →
    (∀ n ∈ DataW.weightsEach P (fs.map (·.type)) (xs.map (·.1)), n ≤ reachBytes) → ∃ a : α, d.K w a (cs.drop off) ∧ G a
theorem opensF_one {f : Field} {off : Nat} {α : Type} {d : Kd α} {G : α → Prop} (h : Opens enc P w f.type d G) (ho : f.offset = off) (hc : P.cellsOf f.type = d.sz) : OpensF enc P w [f] off d G := fun n cs xs hl hx hi hn => by
  match xs, hx with
  | [x], _ =>
    have h0 := hi 0 f rfl
    rw [ho, hc, List.take_of_length_le (by rw [List.length_drop]; omega)] at h0
    exact h n _ x h0 (fun q hq => hn q (by simp [DataW.weightsEach, hq]))
theorem opensF_cons {f : Field} {fs : List Field} {off s : Nat} {α β : Type} {d : Kd α} {d2 : Kd β} {G : α → Prop} {G2 : β → Prop} (h : Opens enc P w f.type d G) (ho : f.offset = off) (hc : P.cellsOf f.type = s) (hs : d.sz = s) (h2 : OpensF enc P w fs (off + s) d2 G2) :
    OpensF enc P w (f :: fs) off (Kd.pair d d2) (fun p => G p.1 ∧ G2 p.2) := fun n cs xs hl hx hi hn => by
  match xs, hx with
  | x :: xs, hx =>
    have h0 := hi 0 f rfl
    rw [ho, hc] at h0
    have hl' : cs.length = off + (d.sz + d2.sz) := hl
    obtain ⟨a, ha, hg⟩ := h n _ x h0 (fun q hq => hn q (by simp [DataW.weightsEach, hq]))
    obtain ⟨b, hb, hg2⟩ := h2 n cs xs (by omega) (by simpa using hx) (fun i f' hf' => hi (i + 1) f' hf') (fun q hq => hn q (by simp [DataW.weightsEach, hq]))
    refine ⟨(a, b), ⟨_, _, ?_, ha, hb⟩, hg, hg2⟩
    rw [← List.drop_drop, List.take_append_drop]
theorem opens_struct {t : TypeId} {fs : Array Field} {α : Type} {d : Kd α} {G : α → Prop} (ht : P.underlying t = some (.struct fs)) (hc : P.cellsOf t = d.sz) (h : OpensF enc P w fs.toList 0 d G) : Opens enc P w t d G := fun fuel cs x hx hn => by
  obtain ⟨xs, n, _, rfl, hl, hxl, hi⟩ := DataW.trod_struct ht hx
  simp only [DataW.weights, ht] at hn
  obtain ⟨a, h1, h2⟩ := h n cs xs (by omega) (by simpa using hxl) (fun i f hf => hi i f (by simpa using hf)) hn
  exact ⟨a, by simpa using h1, h2⟩
/-- An argument that is a slice. -/
theorem arg_slice {t e : TypeId} {α : Type} {d : Kd α} {G : List α → Prop} {a : Option Addr} {len cap : Nat} {dd : DataW H} {ps : List MemPlace} (h : Opens enc P w t (Kd.slice e d) G) (hd : DataW.Trod enc P w 0 (fun _ => true) true t (.slice a len cap) dd ps) (hn : ∀ n ∈ dd.weights P t, n ≤ reachBytes) :
    ∃ xs : List α, xs.length = len ∧ len ≤ cap ∧ d.C w a len xs ∧ G xs := by
  obtain ⟨fuel, hf⟩ := hd
  obtain ⟨xs, ⟨A, c, hcs, hl, hC⟩, hG⟩ := h fuel _ _ hf hn
  simp only [Value.cells, List.cons.injEq, Value.slice.injEq, and_true] at hcs
  obtain ⟨rfl, rfl, rfl⟩ := hcs
  exact ⟨xs, rfl, hl, hC, hG⟩
/-- An argument that is a struct by value. -/
theorem arg_agg {t : TypeId} {α : Type} {d : Kd α} {G : α → Prop} {cs : Array Value} {dd : DataW H} {ps : List MemPlace} (h : Opens enc P w t d G) (hd : DataW.Trod enc P w 0 (fun _ => true) true t (.agg cs) dd ps) (hn : ∀ n ∈ dd.weights P t, n ≤ reachBytes) :
    ∃ x : α, d.K w x cs.toList ∧ G x := by
  obtain ⟨fuel, hf⟩ := hd
  exact h fuel _ _ hf hn
end
end Go.Proofs.YtjbcdfbgbocblaaDoor.Op
