import Derived.Test.YtlepnpjlmcjedaaRows
import Derived.Test.YtlepnpjlmcjedaaOpen
import Derived.Test.YtlepnpjlmcjedaaOp
/- Openers that also tell of the bulk: what came in weighs at least this much. -/
namespace Go.Proofs.Ytlepnpjlmcjedaa.Op
open Go.ChangeShapes Go.WideShapes Go.Deep Go.Proofs.YtlepnpjlmcjedaaW.PrintWords
set_option linter.unusedVariables false
set_option linter.unusedSimpArgs false
section
variable {H : Type} {enc : TypeId × Value → H} {P : Program} {w : World}
theorem bulk_part {d : DataW H} {l : List (DataW H)} (h : d ∈ l) : Rows.uptoBulk d ≤ Rows.uptoBulkAll l := by
  induction l with
  | nil => cases h
  | cons x r ih =>
    simp only [Rows.uptoBulkAll]
    cases List.mem_cons.1 h with
    | inl e => subst e; omega
    | inr e => have := ih e; omega
/-- Opens, and the data's bulk is at least wt. -/
def OpensB (enc : TypeId × Value → H) (P : Program) (w : World) (t : TypeId) {α : Type} (d : Kd α) (G : α → Prop) (wt : α → Nat) : Prop :=
  ∀ (fuel : Nat) (cs : List Value) (x : DataW H × List MemPlace), DataW.trod enc P w 0 (fun _ => true) true fuel t cs = some x → (∀ n ∈ x.1.weights P t, n ≤ reachBytes) → ∃ a : α, d.K w a cs ∧ G a ∧ wt a ≤ Rows.uptoBulk x.1
theorem bulk_pos (d : DataW H) : 1 ≤ Rows.uptoBulk d := by
  cases d with
  | lit l => cases l <;> simp [Rows.uptoBulk]
  | _ => simp [Rows.uptoBulk]
theorem Opens.b {t : TypeId} {α : Type} {d : Kd α} {G : α → Prop} (h : Opens enc P w t d G) : OpensB enc P w t d G (fun _ => 1) := fun fuel cs x hx hn => by
  obtain ⟨a, h1, h2⟩ := h fuel cs x hx hn
  exact ⟨a, h1, h2, bulk_pos _⟩
theorem OpensB.imp {t : TypeId} {α : Type} {d : Kd α} {G G' : α → Prop} {wt wt' : α → Nat} (h : OpensB enc P w t d G wt) (hG : ∀ a, G a → G' a) (hw : ∀ a, wt' a ≤ wt a) : OpensB enc P w t d G' wt' := fun fuel cs x hx hn => by
  obtain ⟨a, h1, h2, h3⟩ := h fuel cs x hx hn
  exact ⟨a, h1, hG a h2, Nat.le_trans (hw a) h3⟩
theorem bulk_map {α : Type} {wt : α → Nat} {D : Nat → DataW H} : ∀ (q : Nat) (xs : List α), xs.length = q → (∀ i x, i < q → xs[i]? = some x → wt x ≤ Rows.uptoBulk (D i)) → (xs.map wt).sum ≤ Rows.uptoBulkAll ((List.range q).map D) := by
  have happ : ∀ (l r : List (DataW H)), Rows.uptoBulkAll (l ++ r) = Rows.uptoBulkAll l + Rows.uptoBulkAll r := by
    intro l r
    induction l with
    | nil => simp [Rows.uptoBulkAll]
    | cons x l ih => simp only [List.cons_append, Rows.uptoBulkAll, ih]; omega
  intro q
  induction q with
  | zero => intro xs h _; rw [List.length_eq_zero_iff.1 h]; simp
  | succ q ih =>
    intro xs hl h
    have hne : xs ≠ [] := by intro e; rw [e] at hl; simp at hl
    obtain ⟨ys, y, rfl⟩ : ∃ ys y, xs = ys ++ [y] := ⟨xs.dropLast, xs.getLast hne, (List.dropLast_concat_getLast hne).symm⟩
    have hyl : ys.length = q := by simpa using hl
    have h1 := ih ys hyl (fun i x hi hx => h i x (by omega) (by rw [List.getElem?_append_left (by omega)]; exact hx))
    have h2 := h q y (by omega) (by rw [List.getElem?_append_right (by omega)]; simp [hyl])
    rw [List.range_succ, List.map_append, List.map_append, happ, List.sum_append]
    simp only [List.map_cons, List.map_nil, List.sum_cons, List.sum_nil, Rows.uptoBulkAll]
    omega
theorem opensB_slice {t e : TypeId} {α : Type} {d : Kd α} {G : α → Prop} {wt : α → Nat} {B : Nat} (ht : P.underlying t = some (.slice e)) (he : OpensB enc P w e d G wt) (hc : P.cellsOf e = d.sz) (hB : P.bytesOf e = B) :
    OpensB enc P w t (Kd.slice e d) (fun xs => xs.length * B ≤ 140737488351232 ∧ xs.length ≤ 9223372036854775807 ∧ ∀ x ∈ xs, G x) (fun xs => (xs.map wt).sum + 1) := fun fuel cs x hx hn => by
  rcases open_slice ht hx with ⟨rfl, rfl⟩ | ⟨a, len, cap, m, n, D, Pl, rfl, hxe, hl, hm, hmm, rfl, hi⟩
  · exact ⟨[], ⟨none, 0, rfl, Nat.le_refl _, Kd.C_nil d w⟩, ⟨by simp, by simp, fun x h => by cases h⟩, by simp [Rows.uptoBulk]⟩
  · have hml : len ≤ m := by rw [hmm]; simp only [if_true]; exact hl
    simp only [DataW.weights, ht] at hn
    have hlen := hn _ (List.mem_cons_self ..)
    have hlm : len ≤ 9223372036854775807 := by unfold maxLen at hm; omega
    rw [hB] at hlen
    simp only [List.length_map, List.length_range] at hlen
    have hex : ∀ i, ∃ y : Option α, i < len → ∃ z, y = some z ∧ ∃ cs', w.cells? 0 (a.add (i * P.cellsOf e)) (P.cellsOf e) = some cs' ∧ d.K w z cs' ∧ G z ∧ wt z ≤ Rows.uptoBulk (D i) := by
      intro i
      by_cases hil : i < len
      · obtain ⟨cs', h1, h2⟩ := hi i (by omega)
        obtain ⟨z, h3, h4⟩ := he n cs' _ h2 (fun q hq => hn q (by
          refine List.mem_cons_of_mem _ (List.mem_append.2 (.inl ?_))
          exact weights_all (List.mem_map.2 ⟨i, List.mem_range.2 hil, rfl⟩) q hq))
        exact ⟨some z, fun _ => ⟨z, rfl, cs', h1, h3, h4⟩⟩
      · exact ⟨none, fun h => absurd h hil⟩
    obtain ⟨f, hf⟩ := Classical.axiomOfChoice hex
    have hxs : ∀ q, q ≤ len → ∃ xs : List α, xs.length = q ∧ ∀ i, i < q → f i = xs[i]? := by
      intro q
      induction q with
      | zero => intro _; exact ⟨[], rfl, fun i h => absurd h (Nat.not_lt_zero _)⟩
      | succ q ih =>
        intro hq
        obtain ⟨xs, h1, h2⟩ := ih (by omega)
        obtain ⟨z, hz, _⟩ := hf q (by omega)
        refine ⟨xs ++ [z], by simp [h1], fun i h => ?_⟩
        by_cases hiq : i = q
        · subst hiq; rw [hz, List.getElem?_append_right (by omega)]; simp [h1]
        · rw [h2 i (by omega), List.getElem?_append_left (by omega)]
    obtain ⟨xs, hxl, hxf⟩ := hxs len (Nat.le_refl _)
    refine ⟨xs, ⟨some a, cap, by rw [hxl], by omega, ⟨rfl, by omega, fun _ => ⟨a, rfl, fun j p hj => ?_⟩⟩⟩, ⟨?_, by omega, fun x hx => ?_⟩, ?_⟩
    · have hjl : j < len := by rw [← hxl]; exact (List.getElem?_eq_some_iff.1 hj).1
      obtain ⟨z, hz, cs', h1, h2, h3⟩ := hf j hjl
      rw [hxf j hjl, hj] at hz
      obtain rfl := Option.some.inj hz
      refine ⟨cs', d.K_len h2, h2, fun i u hu => ?_⟩
      obtain ⟨_, hcl, hcell⟩ := World.cells?_some h1
      have hil : i < P.cellsOf e := by rw [← hcl]; exact (List.getElem?_eq_some_iff.1 hu).1
      have := hcell i hil
      rw [hc] at this
      rw [← Go.Deep.add_add, this, hu]
    · rw [hxl]
      refine Nat.le_trans (Nat.mul_le_mul_right B ?_) hlen
      omega
    · obtain ⟨j, hj, rfl⟩ := List.getElem_of_mem hx
      obtain ⟨z, hz, cs', h1, h2, h3, _⟩ := hf j (by omega)
      rw [hxf j (by omega), List.getElem?_eq_getElem hj] at hz
      obtain rfl := Option.some.inj hz
      exact h3
    · have := bulk_map (wt := wt) (D := D) len xs hxl (fun i x hi hx => by
        obtain ⟨z, hz, cs', h1, h2, h3, h4⟩ := hf i hi
        rw [hxf i hi, hx] at hz
        obtain rfl := Option.some.inj hz
        exact h4)
      simp only [Rows.uptoBulk]
      omega
theorem opensB_iso {t : TypeId} {α β : Type} {d : Kd α} {G : α → Prop} {wt : α → Nat} (h : OpensB enc P w t d G wt) (f : β → α) (g : α → β) (hfg : ∀ a, f (g a) = a) : OpensB enc P w t (Kd.iso d f) (fun b => G (f b)) (fun b => wt (f b)) := fun fuel cs x hx hn => by
  obtain ⟨a, h1, h2, h3⟩ := h fuel cs x hx hn
  exact ⟨g a, by show d.K w (f (g a)) cs; rw [hfg]; exact h1, by show G (f (g a)); rw [hfg]; exact h2, by show wt (f (g a)) ≤ _; rw [hfg]; exact h3⟩
def OpensBF (enc : TypeId × Value → H) (P : Program) (w : World) (fs : List Field) (off : Nat) {α : Type} (d : Kd α) (G : α → Prop) (wt : α → Nat) : Prop :=
  ∀ (n : Nat) (cs : List Value) (xs : List (DataW H × List MemPlace)), cs.length = off + d.sz → xs.length = fs.length → (∀ (i : Nat) (f : Field), fs[i]? = some f → DataW.trod enc P w 0 (fun _ => true) true n f.type ((cs.drop f.offset).take (P.cellsOf f.type)) = xs[i]?) →
    (∀ n ∈ DataW.weightsEach P (fs.map (·.type)) (xs.map (·.1)), n ≤ reachBytes) → ∃ a : α, d.K w a (cs.drop off) ∧ G a ∧ wt a ≤ Rows.uptoBulkAll (xs.map (·.1))
theorem opensBF_one {f : Field} {off : Nat} {α : Type} {d : Kd α} {G : α → Prop} {wt : α → Nat} (h : OpensB enc P w f.type d G wt) (ho : f.offset = off) (hc : P.cellsOf f.type = d.sz) : OpensBF enc P w [f] off d G wt := fun n cs xs hl hx hi hn => by
  match xs, hx with
  | [x], _ =>
    have h0 := hi 0 f rfl
    rw [ho, hc, List.take_of_length_le (by rw [List.length_drop]; omega)] at h0
    obtain ⟨a, h1, h2, h3⟩ := h n _ x h0 (fun q hq => hn q (by simp [DataW.weightsEach, hq]))
    exact ⟨a, h1, h2, by simp only [List.map_cons, List.map_nil, Rows.uptoBulkAll]; omega⟩
theorem opensBF_cons {f : Field} {fs : List Field} {off s : Nat} {α β : Type} {d : Kd α} {d2 : Kd β} {G : α → Prop} {G2 : β → Prop} {wt : α → Nat} {wt2 : β → Nat} (h : OpensB enc P w f.type d G wt) (ho : f.offset = off) (hc : P.cellsOf f.type = s) (hs : d.sz = s) (h2 : OpensBF enc P w fs (off + s) d2 G2 wt2) :
    OpensBF enc P w (f :: fs) off (Kd.pair d d2) (fun p => G p.1 ∧ G2 p.2) (fun p => wt p.1 + wt2 p.2) := fun n cs xs hl hx hi hn => by
  match xs, hx with
  | x :: xs, hx =>
    have h0 := hi 0 f rfl
    rw [ho, hc] at h0
    have hl' : cs.length = off + (d.sz + d2.sz) := hl
    obtain ⟨a, ha, hg, hw⟩ := h n _ x h0 (fun q hq => hn q (by simp [DataW.weightsEach, hq]))
    obtain ⟨b, hb, hg2, hw2⟩ := h2 n cs xs (by omega) (by simpa using hx) (fun i f' hf' => hi (i + 1) f' hf') (fun q hq => hn q (by simp [DataW.weightsEach, hq]))
    refine ⟨(a, b), ⟨_, _, ?_, ha, hb⟩, ⟨hg, hg2⟩, ?_⟩
    · rw [← List.drop_drop, List.take_append_drop]
    · simp only [List.map_cons, Rows.uptoBulkAll]; omega
theorem opensB_struct {t : TypeId} {fs : Array Field} {α : Type} {d : Kd α} {G : α → Prop} {wt : α → Nat} (ht : P.underlying t = some (.struct fs)) (hc : P.cellsOf t = d.sz) (h : OpensBF enc P w fs.toList 0 d G wt) : OpensB enc P w t d G (fun a => wt a + 1) := fun fuel cs x hx hn => by
  obtain ⟨xs, n, _, rfl, hl, hxl, hi⟩ := DataW.trod_struct ht hx
  simp only [DataW.weights, ht] at hn
  obtain ⟨a, h1, h2, h3⟩ := h n cs xs (by omega) (by simpa using hxl) (fun i f hf => hi i f (by simpa using hf)) hn
  exact ⟨a, by simpa using h1, h2, by simp only [Rows.uptoBulk]; omega⟩
theorem argB_slice {t e : TypeId} {α : Type} {d : Kd α} {G : List α → Prop} {wt : List α → Nat} {a : Option Addr} {len cap : Nat} {dd : DataW H} {ps : List MemPlace} (h : OpensB enc P w t (Kd.slice e d) G wt) (hd : DataW.Trod enc P w 0 (fun _ => true) true t (.slice a len cap) dd ps) (hn : ∀ n ∈ dd.weights P t, n ≤ reachBytes) :
    ∃ xs : List α, xs.length = len ∧ len ≤ cap ∧ d.C w a len xs ∧ G xs ∧ wt xs ≤ Rows.uptoBulk dd := by
  obtain ⟨fuel, hf⟩ := hd
  obtain ⟨xs, ⟨A, c, hcs, hl, hC⟩, hG, hw⟩ := h fuel _ _ hf hn
  simp only [Value.cells, List.cons.injEq, Value.slice.injEq, and_true] at hcs
  obtain ⟨rfl, rfl, rfl⟩ := hcs
  exact ⟨xs, rfl, hl, hC, hG, hw⟩
end
end Go.Proofs.Ytlepnpjlmcjedaa.Op
namespace Go.Proofs.Ytlepnpjlmcjedaa.Hw
open Go.RowKit Go.Proofs.YtlepnpjlmcjedaaW.PrintWords Go.Proofs.YtlepnpjlmcjedaaW.PrintLast Go.Proofs.YtlepnpjlmcjedaaW.PrintMore Go.Proofs.Ytlepnpjlmcjedaa.Op
theorem sum_ones {α : Type} (l : List α) : (l.map (fun _ => 1)).sum = l.length := by
  induction l with
  | nil => rfl
  | cons x l ih => simp only [List.map_cons, List.sum_cons, ih, List.length_cons]; omega
theorem opensB_op {H : Type} {enc : TypeId × Value → H} {w : World} : OpensB enc Try.prog w 44 kOp OpG (fun x => x.data.length + 5) := by
  refine (opensB_iso (opensB_struct Try.underlying44 (by kernel_rfl) (opensBF_cons (opens_int Try.underlying3).b rfl (by kernel_rfl) rfl (opensBF_cons (opens_int Try.underlying3).b rfl (by kernel_rfl) rfl (opensBF_cons (opens_int Try.underlying31).b rfl (by kernel_rfl) rfl (opensBF_one (opensB_slice (B := 1) Try.underlying37 (opens_int Try.underlying5).b (by kernel_rfl) (by kernel_rfl)) rfl (by kernel_rfl)))))) (fun x : OpD => (x.kind, x.n, x.v, x.data)) (fun p => ⟨p.1, p.2.1, p.2.2.1, p.2.2.2⟩) (fun _ => rfl)).imp ?_ ?_
  · rintro ⟨a, b, c, d⟩ ⟨h1, h2, h3, h4⟩
    exact ⟨h1, h2, h3, h4⟩
  · rintro ⟨a, b, c, d⟩
    simp only [sum_ones]
    omega
theorem opensB_ops {H : Type} {enc : TypeId × Value → H} {w : World} : OpensB enc Try.prog w 38 (Kd.slice 44 kOp) (fun xs => xs.length * 48 ≤ 140737488351232 ∧ xs.length ≤ 9223372036854775807 ∧ ∀ x ∈ xs, OpG x) (fun xs => (xs.map (fun x => x.data.length + 5)).sum + 1) :=
  opensB_slice (B := 48) Try.underlying38 opensB_op (by kernel_rfl) (by kernel_rfl)
end Go.Proofs.Ytlepnpjlmcjedaa.Hw
