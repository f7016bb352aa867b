import Derived.Test.YtjajkgemjgehiaaPHo
/- Small words of this session: a block of numbers known whole (an array variable); plain lemmas on wraps. -/
namespace Go.Proofs.Ytjajkgemjgehiaa.Hw
open Go.RowKit Go.Proofs.YtjajkgemjgehiaaW.PrintWords Go.Proofs.YtjajkgemjgehiaaW.PrintLast Go.Proofs.YtjajkgemjgehiaaW.PrintMore
set_option linter.unusedVariables false
set_option linter.unusedSimpArgs false
theorem w64 {x : Int} (h0 : -9223372036854775808 ≤ x) (h1 : x ≤ 9223372036854775807) : wrap64 x = x := by unfold wrap64; omega
theorem w64n {x : Int} {n : Nat} (h : x = (n : Int)) (h1 : n ≤ 9223372036854775807) : wrap64 x = (n : Int) := by rw [h]; exact w64 (by omega) (by omega)
/-- Block g holds the numbers L, and nothing else. -/
def Arr (T : Nat) (k : IntKind) (w : World) (g : Nat) (L : List Int) : Prop := w.heap[g]? = some (.cells (nums k L).toArray T (0, 0))
section
variable {T : Nat} {k : IntKind} {w W w1 : World} {g : Nat} {L : List Int}
theorem Arr.lt (h : Arr T k w g L) : g < w.heap.size := blk_lt h
theorem Arr.cell (h : Arr T k w g L) {i : Nat} (hi : i < L.length) : w.cell? ⟨g, i, none⟩ = some (.int k (L.getD i 0)) := by
  rw [blk_cell h]; simp [nums, List.getD_eq_getElem?_getD, hi]
theorem Arr.cellI (h : Arr T k w g L) {i : Int} (h0 : 0 ≤ i) (hi : i < L.length) : w.cell? ⟨g, i.toNat, none⟩ = some (.int k (rd L i)) := by
  rw [h.cell (by omega)]; rfl
theorem Arr.frozen (h : Arr T k w g L) (i : Nat) : w.frozen? ⟨g, i, none⟩ = false := blk_frozen h i
theorem Arr.set (h : Arr T k w g L) (i : Nat) (x : Int) : Arr T k (w.setCell ⟨g, i, none⟩ (.int k x)) g (L.set i x) := by
  have := blk_set h i (.int k x)
  unfold Arr; rw [this]; simp [nums, List.map_set]
theorem Arr.far (h : Arr T k w g L) {p : Addr} (hp : g ≠ p.block) (u : Value) : Arr T k (w.setCell p u) g L := blk_far h hp u
theorem Arr.below (h : Arr T k w g L) (hb : Below w.heap.size w w1) : Arr T k w1 g L := (hb.block g h.lt).trans h
theorem Arr.alloc (h : Arr T k w g L) (o : Obj) : Arr T k (w.alloc o) g L := h.below (below_alloc (Below.refl _ _) o)
theorem Arr.drewN (h : Arr T k w g L) (n : Nat) : Arr T k (w.drewN n) g L := h
theorem Arr.drew (h : Arr T k w g L) : Arr T k w.drew g L := h
theorem Arr.new (w : World) (T : Nat) (k : IntKind) (L : List Int) : Arr T k (w.alloc (.cells (nums k L).toArray T)) w.heap.size L := by
  unfold Arr; exact heap_alloc_new w _
theorem Arr.own (h : Arr T k w g L) {base : Nat} (hb : base ≤ g) (hm : L.length ≤ 281474976710656) (ok : Nat → Prop) (hok : ok g) : (Kd.int k).R T w base ok (.slice (some ⟨g, 0, none⟩) L.length L.length) L := by
  refine Kd.R_of_own ⟨by simp [encs], .inr ⟨g, L.length, (nums k L).toArray, rfl, hb, h, Nat.le_refl _, by unfold maxLen; omega, by simp [nums], ?_⟩⟩ (fun j hj => ?_)
  · simp only [List.toList_toArray, Nat.mul_one]
    rw [List.take_of_length_le (by simp [nums])]; rfl
  · simp only [Value.ownBlock, Option.some.injEq] at hj; subst hj; exact hok
theorem Arr.reads (h : Arr T k w g L) (hm : L.length ≤ 281474976710656) : (Kd.int k).C w (some ⟨g, 0, none⟩) L.length L :=
  (Kd.R_reads' (h.own (Nat.zero_le _) hm (fun _ => True) trivial)).2.2
theorem Arr.made (w : World) (T : Nat) (k : IntKind) (n : Nat) : Arr T k (w.alloc (.cells (madeCells #[.int k 0] n) T)) w.heap.size (List.replicate n 0) := by
  have e : madeCells #[.int k 0] n = (nums k (List.replicate n 0)).toArray := by
    apply Array.ext'
    apply List.ext_getElem
    · simp [nums, madeCells]
    · intro i h1 h2
      simp [nums, madeCells, Nat.mod_one]
  rw [e]; exact Arr.new w T k _
theorem Arr.setRow {cs : Array Value} {fr : Nat × Nat} (h : w.heap[g]? = some (.cells cs T (0, 0))) (L : List Int) : Arr T k (w.setRow g (nums k L).toArray) g L := setRow_heap w g cs _ T (0, 0) h
theorem below_setRow {B g : Nat} (h : Below B w w1) (hB : B ≤ g) (cs : Array Value) : Below B w (w1.setRow g cs) :=
  ⟨h.os, h.tape, h.output, by rw [setRow_size]; exact h.size, fun i hi => (setRow_other w1 g i cs (by omega)).trans (h.block i hi)⟩
end
end Go.Proofs.Ytjajkgemjgehiaa.Hw
