import Derived.Test.YtjbckpfhenogiaaRd
import Derived.Test.YtjbckpfhenogiaaWriter2
/- Small words for walks in which rows of one's own are turned about. -/
namespace Go.Proofs.Ytjbckpfhenogiaa.Hw
open Go.RowKit Go.Proofs.YtjbckpfhenogiaaW.PrintWords Go.Proofs.YtjbckpfhenogiaaW.PrintLast Go.Proofs.YtjbckpfhenogiaaW.PrintMore Go.Proofs.Ytjbckpfhenogiaa.PH
set_option linter.unusedVariables false
set_option linter.unusedSimpArgs false
section
variable {base : Nat} {W wr w w' : World} {v : Value} {n g at_ : Nat} {bs : List Int} {L : List Bool}
theorem WS.kept {S : Nat → Prop} (h : WS base w g v L) (hk : Kept w w' S) (hg : ¬ S g) (hv : ∀ j, v.ownBlock = some j → ¬ S j) : WS base w' g v L := by
  refine ⟨blk_kept h.1 hk hg, h.2.1, ?_⟩
  have h2 := Kd.R_step (Kd.R_tight rfl h.2.2) (w1 := w') (fun k ho hlt => hk.2 k hlt (hv k ho.symm))
  exact Kd.R_mono h2 (fun _ _ => trivial)
theorem WS.below (h : WS base w g v L) (hb : Below w.heap.size w w') : WS base w' g v L := ⟨(hb.block g (blk_lt h.1)).trans h.1, h.2.1, Kd.R_below h.2.2 hb⟩
theorem R_kept1 {S : Nat → Prop} (h : Kd.R (Kd.int .u8) 5 w base (fun _ => True) v bs) (hk : Kept w w' S) (hv : ∀ j, v.ownBlock = some j → ¬ S j) : Kd.R (Kd.int .u8) 5 w' base (fun _ => True) v bs :=
  Kd.R_mono (Kd.R_step (Kd.R_tight rfl h) (w1 := w') (fun k ho hlt => hk.2 k hlt (hv k ho.symm))) (fun _ _ => trivial)
/-- A row of one's own, whose cells have been turned about since W. -/
def Flip (base : Nat) (W wr : World) (v : Value) (n : Nat) : Prop :=
  ∃ xs : List Int, xs.length = n ∧ Kd.R (Kd.int .u8) 5 wr base (fun _ => True) v xs ∧ Kept W wr (fun k => v.ownBlock = some k) ∧ Below base W wr
theorem Flip.start {xs : List Int} (h : Kd.R (Kd.int .u8) 5 W base (fun _ => True) v xs) (hn : xs.length = n) : Flip base W W v n := ⟨xs, hn, h, Kept.refl _ _, Below.refl _ _⟩
theorem Flip.drew (h : Flip base W wr v n) : Flip base W wr.drew v n := by
  obtain ⟨xs, h1, h2, h3, h4⟩ := h
  exact ⟨xs, h1, Kd.R_drew h2, h3.drew, below_drew h4⟩
theorem Flip.drewN (h : Flip base W wr v n) (k : Nat) : Flip base W (wr.drewN k) v n := by
  obtain ⟨xs, h1, h2, h3, h4⟩ := h
  exact ⟨xs, h1, Kd.R_drewN h2 k, h3.drewN k, pw_below_drewN h4 k⟩
theorem Flip.cell {A : Option Addr} {c k : Nat} (h : Flip base W wr (.slice A n c) n) (hk : k < n) :
    ∃ g y, A = some ⟨g, 0, none⟩ ∧ wr.cell? ⟨g, k, none⟩ = some (.int .u8 y) ∧ wr.frozen? ⟨g, k, none⟩ = false ∧ ∀ u : Int, Flip base W (wr.setCell ⟨g, k, none⟩ (.int .u8 u)) (.slice A n c) n := by
  obtain ⟨xs, rfl, h2, h3, h4⟩ := h
  obtain ⟨g, cap, e, hb, _, _⟩ := Kd.R_form h2 (by omega)
  simp only [Value.slice.injEq] at e
  obtain ⟨rfl, _, rfl⟩ := e
  have hc := Kd.R_celln 0 h2 (k : Int) (by omega) (by omega)
  rw [Int.toNat_natCast] at hc
  refine ⟨g, rdOf 0 xs (k : Int), rfl, hc.1, hc.2, fun u => ?_⟩
  have hp := Kd.R_putn h2 (k : Int) u
  rw [Int.toNat_natCast] at hp
  exact ⟨xs.set k u, by simp, hp, h3.setCell (p := ⟨g, k, none⟩) (.inl rfl) _, h4.setCell (p := ⟨g, k, none⟩) hb _⟩
theorem Flip.under {A : Option Addr} {c : Nat} (h : Flip base W wr v n) : Below base W wr := h.choose_spec.2.2.2
theorem RdS.lt (h : RdS base w g v bs at_) : g < w.heap.size ∧ ∀ j, v.ownBlock = some j → j < w.heap.size := ⟨blk_lt h.1, Kd.R_lt h.2.2⟩
theorem WS.lt (h : WS base w g v L) : g < w.heap.size ∧ ∀ j, v.ownBlock = some j → j < w.heap.size := ⟨blk_lt h.1, Kd.R_lt h.2.2⟩
theorem kept_of_low {B : Nat} (hb : Below B w w') : Kept w w' (fun k => B ≤ k) := ⟨hb.size, fun i _ hn => hb.block i (by omega)⟩
theorem RdS.low {B : Nat} (h : RdS base w g v bs at_) (hl : g < B ∧ ∀ j, v.ownBlock = some j → j < B) (hb : Below B w w') : RdS base w' g v bs at_ :=
  h.kept (kept_of_low hb) (by have := hl.1; omega) (fun j hj => by have := hl.2 j hj; omega)
theorem WS.low {B : Nat} (h : WS base w g v L) (hl : g < B ∧ ∀ j, v.ownBlock = some j → j < B) (hb : Below B w w') : WS base w' g v L :=
  h.kept (kept_of_low hb) (by have := hl.1; omega) (fun j hj => by have := hl.2 j hj; omega)
end
theorem infoS1 : ∃ i, Try.prog.info? 5 = some i ∧ i.size = 1 := by
  obtain ⟨i, hi, h⟩ := Option.map_eq_some_iff.1 infoB8
  simp only [Prod.mk.injEq] at h
  exact ⟨i, hi, h.2.1⟩
theorem rd_bytes_ok' (base g : Nat) (v : Value) (bs : List Int) (at_ : Nat) (n : Nat) (w : World) (hI : RdS base w g v bs at_) (hl : bs.length ≤ 140737488351232) (hn : n + (at_ + 7) / 8 ≤ bs.length) :
    Calls Try.prog 68 #[.pointer (some ⟨g, 0, none⟩), .int .i64 (n : Int)] w fun e w' => ∃ u, e = .returned (.tuple #[u, .int .i64 0]) ∧ RdS base w' g v bs (8 * ((at_ + 7) / 8 + n)) ∧ Kd.R (Kd.int .u8) 5 w' w.heap.size (fun _ => True) u ((bs.drop ((at_ + 7) / 8)).take n) ∧ Kept w w' (fun k => k = g) ∧ Below base w w' := by
  refine (rd_bytes_ok base g v bs at_ n w hI hl hn).mono ?_
  rintro e w' ⟨u, w2, rfl, ⟨k, rfl⟩, hu, hb⟩
  have hr := (hI.drewN k).set (8 * ((at_ + 7) / 8 + n))
  refine ⟨u, rfl, hr.below hb, hu, ?_, ?_⟩
  · exact (Kept.setCell (S := fun k => k = g) (p := ⟨g, 2, none⟩) ((Kept.refl _ _).drewN k) (.inl rfl) _).below hb
  · have h1 := (pw_below_drewN (Below.refl base w) k).setCell (p := ⟨g, 2, none⟩) hI.2.1 (.int .i64 ((8 * ((at_ + 7) / 8 + n) : Nat) : Int))
    have hbs : base ≤ ((w.drewN k).setCell ⟨g, 2, none⟩ (.int .i64 ((8 * ((at_ + 7) / 8 + n) : Nat) : Int))).heap.size := by have := hr.2.1; have := blk_lt hr.1; omega
    exact below_then h1 hbs hb
end Go.Proofs.Ytjbckpfhenogiaa.Hw
