import Derived.Test.YtlepnpjlmcjedaaCodes
import Derived.BigRegion
import Derived.Test.YtlepnpjlmcjedaaWKept
import Derived.Maps.OwnSet
import Derived.Maps.OwnOps
import Derived.Maps.Views
import Derived.DeepKeys5
import Derived.Handy
import Derived.Outline
/- huff's map of codes: keys of two numbers, read as a function. -/
namespace Go.Proofs.Ytlepnpjlmcjedaa.Hw
open Go.RowKit Go.Proofs.YtlepnpjlmcjedaaW.PrintWords Go.Proofs.YtlepnpjlmcjedaaW.PrintLast Go.Proofs.YtlepnpjlmcjedaaW.PrintMore
set_option linter.unusedVariables false
set_option linter.unusedSimpArgs false
theorem laidOutM : laidOutB Try.prog = true := by kernel_rfl
theorem keyLaw : Go.WideMaps.KeyLaw Try.prog 104 := deep_law_gate laidOutM (of_decide_eq_true (by kernel_rfl)) (of_decide_eq_true (by kernel_rfl)) (by kernel_rfl) (by kernel_rfl)
theorem keyed : Go.Maps.Keyed Try.prog 104 := Go.Maps.Keyed.of_law keyLaw
theorem keyTy : Try.prog.keyType 104 = true := by kernel_rfl
theorem keyCells : Try.prog.cellsOf 104 = 2 := by kernel_rfl
theorem keyC31 : Try.prog.cellsOf 31 = 1 := by kernel_rfl
theorem keyC3 : Try.prog.cellsOf 3 = 1 := by kernel_rfl
theorem keySize : 2 ≤ Try.prog.types.size := of_decide_eq_true (by kernel_rfl)
/-- What a key reads as. -/
def kl (c n : Int) : Lit := .string (keyBytes [.int .u32 c, .int .i64 n])
theorem key_is {c n : Int} (hc : (Lit.int .u32 c).wf = true) (hn : (Lit.int .i64 n).wf = true) : keyOf Try.prog 104 (.agg #[.int .u32 c, .int .i64 n]) = some (kl c n) := by
  unfold keyOf
  simp only [Try.underlying104]
  rw [if_pos (by simp [keyTy, Value.formed, Try.underlying104, keyCells])]
  unfold Program.keyLits
  simp only [Try.underlying104, Value.cells]
  obtain ⟨m, hm⟩ : ∃ m, Try.prog.types.size = m + 1 := ⟨Try.prog.types.size - 1, by have := keySize; omega⟩
  rw [if_pos ⟨by rw [keyCells]; rfl, by simp⟩, hm]
  simp [List.mapM_cons, Program.keyLits, Try.underlying31, Try.underlying3, keyC31, keyC3, hc, hn, kl]
theorem kl_inj {c n c' n' : Int} (hc : (Lit.int .u32 c).wf = true) (hn : (Lit.int .i64 n).wf = true) (hc' : (Lit.int .u32 c').wf = true) (hn' : (Lit.int .i64 n').wf = true) (h : kl c n = kl c' n') : c = c' ∧ n = n' := by
  have h1 := key_is hc hn
  rw [h] at h1
  have := keyed.inj h1 (key_is hc' hn')
  simpa using this
theorem kl_key (c n : Int) : Go.WideAt.IsKeyLit (kl c n) := trivial
/-- The symbol of a code of so many bits, among the first k. -/
def sym (l cs : List Int) : Nat → Int → Int → Option Nat
  | 0, _, _ => none
  | k + 1, c, n => if 0 < l.getD k 0 ∧ cs.getD k 0 = c ∧ l.getD k 0 = n then some k else sym l cs k c n
/-- The longest code among the first k. -/
def lng (l : List Int) : Nat → Int
  | 0 => 0
  | k + 1 => if 0 < l.getD k 0 then max (lng l k) (l.getD k 0) else lng l k
theorem lng_range {l : List Int} (hf : HP.fits l) (k : Nat) : 0 ≤ lng l k ∧ lng l k ≤ 15 := by
  induction k with
  | zero => exact ⟨Int.le_refl _, by simp [lng]⟩
  | succ k ih =>
    unfold lng
    have hx : 0 ≤ l.getD k 0 ∧ l.getD k 0 ≤ 15 := by
      rcases Nat.lt_or_ge k l.length with h | h
      · rw [List.getD_eq_getElem?_getD, List.getElem?_eq_getElem h]
        exact hf _ (List.getElem_mem h)
      · rw [List.getD_eq_getElem?_getD, List.getElem?_eq_none h]
        decide
    split <;> omega
/-- A map's datum tells a function. -/
def Tells (D : DataW Unit) (f : Int → Int → Option Nat) : Prop :=
  ∀ c m, (Lit.int .u32 c).wf = true → (Lit.int .i64 m).wf = true → (Go.Maps.has D (kl c m) = (f c m).isSome) ∧ ∀ i, f c m = some i → D.atKey (kl c m) (.lit (.int .i64 0)) = .lit (.int .i64 (i : Int))
theorem Tells.start (l cs : List Int) : Tells (.map []) (sym l cs 0) := fun c m _ _ => ⟨rfl, fun i h => by cases h⟩
theorem Tells.put {D : DataW Unit} {l cs : List Int} {k : Nat} (h : Tells D (sym l cs k)) (hD : Go.Maps.IsMap D) (h0 : 0 < l.getD k 0) (hc : (Lit.int .u32 (cs.getD k 0)).wf = true) (hn : (Lit.int .i64 (l.getD k 0)).wf = true) :
    Tells (D.put (kl (cs.getD k 0) (l.getD k 0)) (.lit (.int .i64 (k : Int)))) (sym l cs (k + 1)) := by
  intro c m hcw hmw
  by_cases he : cs.getD k 0 = c ∧ l.getD k 0 = m
  · obtain ⟨rfl, rfl⟩ := he
    have e : sym l cs (k + 1) (cs.getD k 0) (l.getD k 0) = some k := by unfold sym; rw [if_pos ⟨h0, rfl, rfl⟩]
    rw [e]
    refine ⟨Go.Maps.has_put_same hD (kl_key _ _) _, fun i hi => ?_⟩
    obtain rfl := Option.some.inj hi
    exact Go.Maps.atKey_put_same hD (kl_key _ _) _ _
  · have e : sym l cs (k + 1) c m = sym l cs k c m := by
      show (if 0 < l.getD k 0 ∧ cs.getD k 0 = c ∧ l.getD k 0 = m then some k else sym l cs k c m) = _
      exact if_neg (fun hh => he hh.2)
    have hne : kl c m ≠ kl (cs.getD k 0) (l.getD k 0) := fun hh => he (by have := kl_inj hcw hmw hc hn hh; exact ⟨this.1.symm, this.2.symm⟩)
    rw [e, Go.Maps.has_put_other hne]
    refine ⟨(h c m hcw hmw).1, fun i hi => ?_⟩
    rw [Go.Maps.atKey_put_other hne]
    exact (h c m hcw hmw).2 i hi
theorem Tells.skip {D : DataW Unit} {l cs : List Int} {k : Nat} (h : Tells D (sym l cs k)) (h0 : ¬ 0 < l.getD k 0) : Tells D (sym l cs (k + 1)) := by
  intro c m hcw hmw
  have e : sym l cs (k + 1) c m = sym l cs k c m := by
    show (if 0 < l.getD k 0 ∧ cs.getD k 0 = c ∧ l.getD k 0 = m then some k else sym l cs k c m) = _
    exact if_neg (fun hh => h0 hh.1)
  rw [e]; exact h c m hcw hmw
/-- Block b is a map that tells f. -/
def MapS (w : World) (b n : Nat) (f : Int → Int → Option Nat) : Prop := ∃ D : DataW Unit, w.ownsMap Try.prog 104 (Go.plainElem Try.prog 3) b n D ∧ Tells D f
/-- A decoder at block g whose map lies at block b, with the first k symbols in it. -/
def DecS (base : Nat) (w : World) (g b : Nat) (l : List Int) (k : Nat) : Prop :=
  w.heap[g]? = some (.cells #[.map (some b), .int .i64 (lng l k), .bool true] 83 (0, 0)) ∧ base ≤ g ∧ base ≤ b ∧ MapS w b k (sym l (HP.codes l) k)
section
variable {base : Nat} {w w' : World} {g b k : Nat} {l : List Int}
theorem DecS.cells (h : DecS base w g b l k) : w.cell? ⟨g, 0, none⟩ = some (.map (some b)) ∧ w.cell? ⟨g, 1, none⟩ = some (.int .i64 (lng l k)) ∧ w.cell? ⟨g, 2, none⟩ = some (.bool true) ∧ w.frozen? ⟨g, 1, none⟩ = false :=
  ⟨(blk_cell h.1 0).trans rfl, (blk_cell h.1 1).trans rfl, (blk_cell h.1 2).trans rfl, blk_frozen h.1 1⟩
theorem MapS.same {f : Int → Int → Option Nat} (h : MapS w b k f) (hb : w'.heap[b]? = w.heap[b]?) : MapS w' b k f := by
  obtain ⟨D, ⟨es, cl, h1, h2⟩, hT⟩ := h
  exact ⟨D, ⟨es, cl, hb.trans h1, h2⟩, hT⟩
theorem MapS.lt {f : Int → Int → Option Nat} (h : MapS w b k f) : b < w.heap.size := by
  obtain ⟨D, h1, _⟩ := h
  exact h1.lt
theorem DecS.below (h : DecS base w g b l k) (hb : Below w.heap.size w w') : DecS base w' g b l k := ⟨(hb.block g (blk_lt h.1)).trans h.1, h.2.1, h.2.2.1, h.2.2.2.same (hb.block b h.2.2.2.lt)⟩
theorem DecS.kept {S : Nat → Prop} (h : DecS base w g b l k) (hk : Kept w w' S) (hg : ¬ S g) (hb : ¬ S b) : DecS base w' g b l k := ⟨blk_kept h.1 hk hg, h.2.1, h.2.2.1, h.2.2.2.same (hk.2 b h.2.2.2.lt hb)⟩
end
end Go.Proofs.Ytlepnpjlmcjedaa.Hw
