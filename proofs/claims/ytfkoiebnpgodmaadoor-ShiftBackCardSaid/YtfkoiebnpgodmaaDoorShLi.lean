import Derived.Test.YtfkoiebnpgodmaaDoorShL
import Derived.Deep.RegionHeld3
import Derived.Test.YtfkoiebnpgodmaaDoorShO
/- The document's example of a shifted reference, walked. -/
namespace Go.Proofs.YtfkoiebnpgodmaaDoor.Hw
open Go.RowKit Go.Proofs.YtfkoiebnpgodmaaDoorW.PrintWords Go.Proofs.YtfkoiebnpgodmaaDoorW.PrintLast Go.Proofs.YtfkoiebnpgodmaaDoorW.PrintMore Go.Proofs.YtfkoiebnpgodmaaDoor.PH Go.Proofs.YtfkoiebnpgodmaaDoor.CP
set_option linter.unusedVariables false
set_option linter.unusedSimpArgs false
abbrev es : ByteArray := ⟨#[]⟩
abbrev refV (x : Int) : Value := .agg #[.string es, .string es, .bool false, .bool true, .int .i64 0, .int .i64 0, .bool false, .bool false, .int .i64 x, .int .i64 0, .bool false, .bool false]
theorem rfx (x : Int) {w : World} {g : Nat} (h : w.heap[g]? = some (.cells #[.string es, .string es, .bool false, .bool true, .int .i64 0, .int .i64 0, .bool false, .bool false, .int .i64 x, .int .i64 0, .bool false, .bool false] 37 (0, 0))) : w.cell? ⟨g, 0, none⟩ = some (.string es) ∧ w.cell? ⟨g, 1, none⟩ = some (.string es) ∧ w.cell? ⟨g, 2, none⟩ = some (.bool false) ∧ w.cell? ⟨g, 3, none⟩ = some (.bool true) ∧ w.cell? ⟨g, 4, none⟩ = some (.int .i64 0) ∧ w.cell? ⟨g, 5, none⟩ = some (.int .i64 0) ∧ w.cell? ⟨g, 6, none⟩ = some (.bool false) ∧ w.cell? ⟨g, 7, none⟩ = some (.bool false) ∧ w.cell? ⟨g, 8, none⟩ = some (.int .i64 x) ∧ w.cell? ⟨g, 9, none⟩ = some (.int .i64 0) ∧ w.cell? ⟨g, 10, none⟩ = some (.bool false) ∧ w.cell? ⟨g, 11, none⟩ = some (.bool false) :=
  ⟨(blk_cell h 0).trans rfl, (blk_cell h 1).trans rfl, (blk_cell h 2).trans rfl, (blk_cell h 3).trans rfl, (blk_cell h 4).trans rfl, (blk_cell h 5).trans rfl, (blk_cell h 6).trans rfl, (blk_cell h 7).trans rfl, (blk_cell h 8).trans rfl, (blk_cell h 9).trans rfl, (blk_cell h 10).trans rfl, (blk_cell h 11).trans rfl⟩
/-- Behind a call's begin: the reference lies boxed. -/
structure RfJ (w0 : World) (w : World) : Prop where
  below : Below w0.heap.size w0 w
  box : w.heap[w0.heap.size]? = some (.cells #[.string es, .string es, .bool false, .bool true, .int .i64 0, .int .i64 0, .bool false, .bool false, .int .i64 2, .int .i64 0, .bool false, .bool false] 37 (0, 0))
theorem RfJ.on {w0 : World} {f : FuncId} {args : Array Value} {v : Ending} (h : ∀ w, Calls Tryd.prog f args w fun e w' => e = v ∧ Below w.heap.size w w') :
    ∀ w, Aside0 (RfJ w0 w) → Calls Tryd.prog f args w fun e w' => e = v ∧ Aside0 (RfJ w0 w') := fun w hj =>
  (h w).mono fun e w' ⟨h1, h2⟩ => ⟨h1, ⟨⟨hj.out.below.trans (h2.mono hj.out.below.size), (h2.block _ (blk_lt hj.out.box)).trans hj.out.box⟩⟩⟩
set_option maxRecDepth 100000 in
set_option maxHeartbeats 4000000 in
theorem lcheck_calls (w : World) : Calls Tryd.prog 38 #[refV 2] w fun e w' => e = .returned (.int .i64 0) ∧ Below w.heap.size w w' := by
  have H0 := Aside0.mk (RfJ.on (w0 := w) fun w1 => refs_corner.calls 0 0 false false true w1 (by simp [refs_corner.f]))
  have H1 := Aside0.mk (RfJ.on (w0 := w) fun w1 => refs_corner.calls 2 0 false false true w1 (by simp [refs_corner.f]))
  have HJ0 : Aside0 (RfJ w (w.alloc (.cells #[.string es, .string es, .bool false, .bool true, .int .i64 0, .int .i64 0, .bool false, .bool false, .int .i64 2, .int .i64 0, .bool false, .bool false] 37))) := ⟨⟨(Below.refl _ _).alloc (Nat.le_refl _) _, heap_alloc_new w _⟩⟩
  go_enter Tryd.func38, Tryd.ntmps38
  go_wp2_with (go_at_call 56; first | ((with_reducible refine (H0.out _ (by assumption)).mono ?_); rintro e w2 ⟨rfl, hb2⟩; obtain ⟨c0, c1, c2, c3, c4, c5, c6, c7, c8, c9, c10, c11⟩ := rfx 2 hb2.out.box) | ((with_reducible refine (H1.out _ (by assumption)).mono ?_); rintro e w2 ⟨rfl, hb2⟩; obtain ⟨c0, c1, c2, c3, c4, c5, c6, c7, c8, c9, c10, c11⟩ := rfx 2 hb2.out.box))
  go_ret
  exact ⟨rfl, RfJ.below (Aside0.out (by assumption))⟩
end Go.Proofs.YtfkoiebnpgodmaaDoor.Hw
/- The document's example of a shifted reference, walked. -/
namespace Go.Proofs.YtfkoiebnpgodmaaDoor.Hw
open Go.RowKit Go.Proofs.YtfkoiebnpgodmaaDoorW.PrintWords Go.Proofs.YtfkoiebnpgodmaaDoorW.PrintLast Go.Proofs.YtfkoiebnpgodmaaDoorW.PrintMore Go.Proofs.YtfkoiebnpgodmaaDoor.PH Go.Proofs.YtfkoiebnpgodmaaDoor.CP
set_option linter.unusedVariables false
set_option linter.unusedSimpArgs false
theorem shx (sh nm : ByteArray) (k a n : Int) (w : World) {g : Nat} (h : w.heap[g]? = some (.cells (shC k sh a n nm) 24 (0, 0))) : w.cell? ⟨g, 0, none⟩ = some (.int .i64 k) ∧ w.cell? ⟨g, 1, none⟩ = some (.string sh) ∧ w.cell? ⟨g, 2, none⟩ = some (.int .i64 a) ∧ w.cell? ⟨g, 3, none⟩ = some (.int .i64 n) ∧ w.cell? ⟨g, 4, none⟩ = some (.string nm) :=
  ⟨(blk_cell h 0).trans rfl, (blk_cell h 1).trans rfl, (blk_cell h 2).trans rfl, (blk_cell h 3).trans rfl, (blk_cell h 4).trans rfl⟩
set_option maxRecDepth 100000 in
set_option maxHeartbeats 4000000 in
theorem lspan_calls (sh nm : ByteArray) (w : World) : Calls Tryd.prog 57 #[.int .i64 0, .int .i64 2, shA 1 sh 1 2 nm] w fun e w' => e = .returned (.tuple #[.int .i64 0, .int .i64 4, .bool true]) ∧ Below w.heap.size w w' := by
  have HLM : Aside0 (∀ w, Calls Tryd.prog 34 #[.int .i64 1] w fun e w' => e = .returned (.int .i64 1048576) ∧ ∃ q, w' = w.drewN q) := ⟨fun w => (shift_limit.calls 1 1048576 w (limit_is 1 _ (by omega))).mono fun e w' h => ⟨h.1, h.2.out⟩⟩
  have HB0 : Aside0 (Below w.heap.size w (w.alloc (.cells (shC 1 sh 1 2 nm) 24))) := ⟨(Below.refl _ _).alloc (Nat.le_refl _) _⟩
  obtain ⟨c0, c1, c2, c3, c4⟩ := shx sh nm 1 1 2 _ (heap_alloc_new w (.cells (shC 1 sh 1 2 nm) 24))
  go_enter Tryd.func57, Tryd.ntmps57
  go_wp2
  go_quiet ((go_at_call 34; exact Calls.quiet_of (HLM.out _)))
  go_wp2
  go_ret3
  exact ⟨rfl, pw_below_drewN HB0.out _⟩
/-- Behind line's begin: the reference, the shift and the answer lie boxed. -/
structure LJ (w0 : World) (sh nm : ByteArray) (w : World) : Prop where
  below : Below w0.heap.size w0 w
  box0 : w.heap[w0.heap.size]? = some (.cells #[.string es, .string es, .bool false, .bool true, .int .i64 0, .int .i64 0, .bool false, .bool false, .int .i64 2, .int .i64 0, .bool false, .bool false] 37 (0, 0))
  box1 : w.heap[w0.heap.size + 1]? = some (.cells (shC 1 sh 1 2 nm) 24 (0, 0))
  box2 : w.heap[w0.heap.size + 1 + 1]? = some (.cells #[.string es, .string es, .bool false, .bool false, .int .i64 0, .int .i64 0, .bool false, .bool false, .int .i64 0, .int .i64 0, .bool false, .bool false] 37 (0, 0))
theorem LJ.go {w0 w w' : World} {sh nm : ByteArray} (h : LJ w0 sh nm w) (hb : Below w.heap.size w w') : LJ w0 sh nm w' :=
  ⟨h.below.trans (hb.mono h.below.size), (hb.block _ (blk_lt h.box0)).trans h.box0, (hb.block _ (blk_lt h.box1)).trans h.box1, (hb.block _ (blk_lt h.box2)).trans h.box2⟩
theorem LJ.S {w0 w : World} {sh nm : ByteArray} (h : LJ w0 sh nm w) : w.cell? ⟨w0.heap.size, 4, none⟩ = some (.int .i64 0) ∧ w.cell? ⟨w0.heap.size, 8, none⟩ = some (.int .i64 2) ∧ w.cell? ⟨w0.heap.size + 1, 0, none⟩ = some (.int .i64 1) ∧ w.cell? ⟨w0.heap.size + 1, 1, none⟩ = some (.string sh) ∧ w.cell? ⟨w0.heap.size + 1, 2, none⟩ = some (.int .i64 1) ∧ w.cell? ⟨w0.heap.size + 1, 3, none⟩ = some (.int .i64 2) ∧ w.cell? ⟨w0.heap.size + 1, 4, none⟩ = some (.string nm) ∧ LJ w0 sh nm w :=
  ⟨(blk_cell h.box0 4).trans rfl, (blk_cell h.box0 8).trans rfl, (blk_cell h.box1 0).trans rfl, (blk_cell h.box1 1).trans rfl, (blk_cell h.box1 2).trans rfl, (blk_cell h.box1 3).trans rfl, (blk_cell h.box1 4).trans rfl, h⟩
theorem LJ.start (w0 : World) (sh nm : ByteArray) : LJ w0 sh nm (((w0.alloc (.cells #[.string es, .string es, .bool false, .bool true, .int .i64 0, .int .i64 0, .bool false, .bool false, .int .i64 2, .int .i64 0, .bool false, .bool false] 37)).alloc (.cells (shC 1 sh 1 2 nm) 24)).alloc (.cells #[.string es, .string es, .bool false, .bool false, .int .i64 0, .int .i64 0, .bool false, .bool false, .int .i64 0, .int .i64 0, .bool false, .bool false] 37)) := by
  have z : ∀ (w : World) (o : Obj), (w.alloc o).heap.size = w.heap.size + 1 := fun w o => Array.size_push ..
  refine ⟨(((Below.refl _ _).alloc (Nat.le_refl _) _).alloc (by rw [z]; omega) _).alloc (by rw [z, z]; omega) _, blk_alloc (blk_alloc (heap_alloc_new w0 _) _) _, blk_alloc ?_ _, ?_⟩
  · rw [← z w0 (.cells #[.string es, .string es, .bool false, .bool true, .int .i64 0, .int .i64 0, .bool false, .bool false, .int .i64 2, .int .i64 0, .bool false, .bool false] 37)]; exact heap_alloc_new _ _
  · rw [← z w0 (.cells #[.string es, .string es, .bool false, .bool true, .int .i64 0, .int .i64 0, .bool false, .bool false, .int .i64 2, .int .i64 0, .bool false, .bool false] 37), ← z _ (.cells (shC 1 sh 1 2 nm) 24)]; exact heap_alloc_new _ _
theorem LJ.drewN {w0 w : World} {sh nm : ByteArray} (h : LJ w0 sh nm w) (q : Nat) : LJ w0 sh nm (w.drewN q) := ⟨pw_below_drewN h.below _, h.box0, h.box1, h.box2⟩
def RB (w : World) (g : Nat) : Prop := (w.cell? ⟨g, 0, none⟩ = some (.string es) ∧ w.cell? ⟨g, 1, none⟩ = some (.string es) ∧ w.cell? ⟨g, 2, none⟩ = some (.bool false) ∧ w.cell? ⟨g, 3, none⟩ = some (.bool false) ∧ w.cell? ⟨g, 4, none⟩ = some (.int .i64 0) ∧ w.cell? ⟨g, 5, none⟩ = some (.int .i64 0) ∧ w.cell? ⟨g, 6, none⟩ = some (.bool false) ∧ w.cell? ⟨g, 7, none⟩ = some (.bool false) ∧ w.cell? ⟨g, 8, none⟩ = some (.int .i64 0) ∧ w.cell? ⟨g, 9, none⟩ = some (.int .i64 0) ∧ w.cell? ⟨g, 10, none⟩ = some (.bool false) ∧ w.cell? ⟨g, 11, none⟩ = some (.bool false)) ∧ (w.frozen? ⟨g, 0, none⟩ = false ∧ w.frozen? ⟨g, 1, none⟩ = false ∧ w.frozen? ⟨g, 2, none⟩ = false ∧ w.frozen? ⟨g, 3, none⟩ = false ∧ w.frozen? ⟨g, 4, none⟩ = false ∧ w.frozen? ⟨g, 5, none⟩ = false ∧ w.frozen? ⟨g, 6, none⟩ = false ∧ w.frozen? ⟨g, 7, none⟩ = false ∧ w.frozen? ⟨g, 8, none⟩ = false ∧ w.frozen? ⟨g, 9, none⟩ = false ∧ w.frozen? ⟨g, 10, none⟩ = false ∧ w.frozen? ⟨g, 11, none⟩ = false)
theorem rb_mk {w : World} {g : Nat} (h : w.heap[g]? = some (.cells #[.string es, .string es, .bool false, .bool false, .int .i64 0, .int .i64 0, .bool false, .bool false, .int .i64 0, .int .i64 0, .bool false, .bool false] 37 (0, 0))) : RB w g :=
  ⟨⟨(blk_cell h 0).trans rfl, (blk_cell h 1).trans rfl, (blk_cell h 2).trans rfl, (blk_cell h 3).trans rfl, (blk_cell h 4).trans rfl, (blk_cell h 5).trans rfl, (blk_cell h 6).trans rfl, (blk_cell h 7).trans rfl, (blk_cell h 8).trans rfl, (blk_cell h 9).trans rfl, (blk_cell h 10).trans rfl, (blk_cell h 11).trans rfl⟩, ⟨blk_frozen h 0, blk_frozen h 1, blk_frozen h 2, blk_frozen h 3, blk_frozen h 4, blk_frozen h 5, blk_frozen h 6, blk_frozen h 7, blk_frozen h 8, blk_frozen h 9, blk_frozen h 10, blk_frozen h 11⟩⟩
theorem put12 {W : World} {g : Nat} {t : TypeId} {x0 x1 x2 x3 x4 x5 x6 x7 x8 x9 x10 x11 y0 y1 y2 y3 y4 y5 y6 y7 y8 y9 y10 y11 : Value} (h : W.heap[g]? = some (.cells #[y0, y1, y2, y3, y4, y5, y6, y7, y8, y9, y10, y11] t (0, 0))) : (((((((((((((W.setCell ⟨g, 0, none⟩ x0).setCell ⟨g, 1, none⟩ x1).setCell ⟨g, 2, none⟩ x2).setCell ⟨g, 3, none⟩ x3).setCell ⟨g, 4, none⟩ x4).setCell ⟨g, 5, none⟩ x5).setCell ⟨g, 6, none⟩ x6).setCell ⟨g, 7, none⟩ x7).setCell ⟨g, 8, none⟩ x8).setCell ⟨g, 9, none⟩ x9).setCell ⟨g, 10, none⟩ x10).setCell ⟨g, 11, none⟩ x11)).heap[g]? = some (.cells #[x0, x1, x2, x3, x4, x5, x6, x7, x8, x9, x10, x11] t (0, 0)) := by
  have h0 := blk_put h 0 x0 (cs' := #[x0, y1, y2, y3, y4, y5, y6, y7, y8, y9, y10, y11]) (by rfl)
  have h1 := blk_put h0 1 x1 (cs' := #[x0, x1, y2, y3, y4, y5, y6, y7, y8, y9, y10, y11]) (by rfl)
  have h2 := blk_put h1 2 x2 (cs' := #[x0, x1, x2, y3, y4, y5, y6, y7, y8, y9, y10, y11]) (by rfl)
  have h3 := blk_put h2 3 x3 (cs' := #[x0, x1, x2, x3, y4, y5, y6, y7, y8, y9, y10, y11]) (by rfl)
  have h4 := blk_put h3 4 x4 (cs' := #[x0, x1, x2, x3, x4, y5, y6, y7, y8, y9, y10, y11]) (by rfl)
  have h5 := blk_put h4 5 x5 (cs' := #[x0, x1, x2, x3, x4, x5, y6, y7, y8, y9, y10, y11]) (by rfl)
  have h6 := blk_put h5 6 x6 (cs' := #[x0, x1, x2, x3, x4, x5, x6, y7, y8, y9, y10, y11]) (by rfl)
  have h7 := blk_put h6 7 x7 (cs' := #[x0, x1, x2, x3, x4, x5, x6, x7, y8, y9, y10, y11]) (by rfl)
  have h8 := blk_put h7 8 x8 (cs' := #[x0, x1, x2, x3, x4, x5, x6, x7, x8, y9, y10, y11]) (by rfl)
  have h9 := blk_put h8 9 x9 (cs' := #[x0, x1, x2, x3, x4, x5, x6, x7, x8, x9, y10, y11]) (by rfl)
  have h10 := blk_put h9 10 x10 (cs' := #[x0, x1, x2, x3, x4, x5, x6, x7, x8, x9, x10, y11]) (by rfl)
  have h11 := blk_put h10 11 x11 (cs' := #[x0, x1, x2, x3, x4, x5, x6, x7, x8, x9, x10, x11]) (by rfl)
  exact h11
theorem below12 {B : Nat} {w W : World} {g : Nat} {x0 x1 x2 x3 x4 x5 x6 x7 x8 x9 x10 x11 : Value} (h : Below B w W) (hg : B ≤ g) : Below B w ((((((((((((W.setCell ⟨g, 0, none⟩ x0).setCell ⟨g, 1, none⟩ x1).setCell ⟨g, 2, none⟩ x2).setCell ⟨g, 3, none⟩ x3).setCell ⟨g, 4, none⟩ x4).setCell ⟨g, 5, none⟩ x5).setCell ⟨g, 6, none⟩ x6).setCell ⟨g, 7, none⟩ x7).setCell ⟨g, 8, none⟩ x8).setCell ⟨g, 9, none⟩ x9).setCell ⟨g, 10, none⟩ x10).setCell ⟨g, 11, none⟩ x11) :=
  ((((((((((((h.setCell hg _).setCell hg _).setCell hg _).setCell hg _).setCell hg _).setCell hg _).setCell hg _).setCell hg _).setCell hg _).setCell hg _).setCell hg _).setCell hg _)
theorem rf_end {fn : Func} {p u : Tmp} {R : Ending → World → Prop} {tmps : Array Value} {W : World} {g : Nat} {x0 x1 x2 x3 x4 x5 x6 x7 x8 x9 x10 x11 : Value} {b : Bool} (hr : fn.results = #[.cell p 37, .tmp u]) (hp : tmps.getD p undef = .pointer (some ⟨g, 0, none⟩)) (hb : tmps.getD u undef = .bool b) (hg : W.heap[g]? = some (.cells #[x0, x1, x2, x3, x4, x5, x6, x7, x8, x9, x10, x11] 37 (0, 0)))
    (hR : R (.returned (.tuple #[.agg #[x0, x1, x2, x3, x4, x5, x6, x7, x8, x9, x10, x11], .bool b])) W) : bodyPost Tryd.prog fn R .ret { tmps := tmps, defers := [] } W := by
  refine bodyPost_ret (v := .tuple #[.agg #[x0, x1, x2, x3, x4, x5, x6, x7, x8, x9, x10, x11], .bool b]) ?_ rfl hR
  have := results_ct (P := Tryd.prog) (fn := fn) (p := p) (u := u) (ty := 37) hr tmps W g 37 #[x0, x1, x2, x3, x4, x5, x6, x7, x8, x9, x10, x11] (0, 0) _ hp hg Tryd.underlying37 rfl (by kernel_rfl)
  rw [hb] at this
  exact this
theorem LJ.drew {w0 w : World} {sh nm : ByteArray} (h : LJ w0 sh nm w) : LJ w0 sh nm w.drew := ⟨h.below.drew, h.box0, h.box1, h.box2⟩
set_option maxRecDepth 100000 in
set_option maxHeartbeats 4000000 in
theorem lline_calls (sh nm : ByteArray) (w : World) : Calls Tryd.prog 40 #[refV 2, shA 1 sh 1 2 nm] w fun e w' => e = .returned (.tuple #[refV 4, .bool true]) ∧ Below w.heap.size w w' := by
  have HJ0 := Aside0.mk (LJ.start w sh nm)
  go_enter Tryd.func40, Tryd.ntmps40
  go_wp2
  go_quiet (fail)
  go_wp2
  go_region_held3 (fun w' => w'.cell? ⟨w.heap.size, 4, none⟩ = some (.int .i64 0) ∧ w'.cell? ⟨w.heap.size, 8, none⟩ = some (.int .i64 2) ∧ w'.cell? ⟨w.heap.size + 1, 0, none⟩ = some (.int .i64 1) ∧ w'.cell? ⟨w.heap.size + 1, 1, none⟩ = some (.string sh) ∧ w'.cell? ⟨w.heap.size + 1, 2, none⟩ = some (.int .i64 1) ∧ w'.cell? ⟨w.heap.size + 1, 3, none⟩ = some (.int .i64 2) ∧ w'.cell? ⟨w.heap.size + 1, 4, none⟩ = some (.string nm) ∧ LJ w sh nm w')
    (first | exact (LJ.drew (LJ.drewN HJ0.out _)).S | exact (LJ.go (And.right (And.right (And.right (And.right (And.right (And.right (And.right (by assumption)))))))) (by assumption)).S)
    (first | (go_at_call 57; refine (lspan_calls sh nm _).mono ?_; rintro e w2 ⟨rfl, hb2⟩))
  have HJ2 : Aside0 (LJ w sh nm w2) := ⟨LJ.go (LJ.drewN HJ0.out _) hb2⟩
  clear hb2
  obtain ⟨c0, c1, c2, c3, c4, c5, c6, c7, c8, c9, c10, c11⟩ := rfx 2 HJ2.out.box0
  have f4 := blk_frozen HJ2.out.box0 4
  have f8 := blk_frozen HJ2.out.box0 8
  have hB : Aside0 (RB w2 (w.heap.size + 1 + 1)) := ⟨rb_mk HJ2.out.box2⟩
  obtain ⟨⟨d0, d1, d2, d3, d4, d5, d6, d7, d8, d9, d10, d11⟩, ⟨g0, g1, g2, g3, g4, g5, g6, g7, g8, g9, g10, g11⟩⟩ := hB.out
  go_wp2
  refine rf_end (p := 4) (u := 5) (by kernel_rfl) rfl rfl (put12 (blk_far (blk_far HJ2.out.box2 (by simp; omega) _) (by simp; omega) _)) ⟨rfl, below12 (((LJ.below HJ2.out).setCell (Nat.le_refl _) _).setCell (Nat.le_refl _) _) (by omega)⟩
end Go.Proofs.YtfkoiebnpgodmaaDoor.Hw
/- The document's example of a shifted reference, walked. -/
namespace Go.Proofs.YtfkoiebnpgodmaaDoor.Hw
open Go.RowKit Go.Proofs.YtfkoiebnpgodmaaDoorW.PrintWords Go.Proofs.YtfkoiebnpgodmaaDoorW.PrintLast Go.Proofs.YtfkoiebnpgodmaaDoorW.PrintMore Go.Proofs.YtfkoiebnpgodmaaDoor.PH Go.Proofs.YtfkoiebnpgodmaaDoor.CP
set_option linter.unusedVariables false
set_option linter.unusedSimpArgs false
theorem rfz (x : Int) {w : World} {g : Nat} (h : w.heap[g]? = some (.cells #[.string es, .string es, .bool false, .bool true, .int .i64 0, .int .i64 0, .bool false, .bool false, .int .i64 x, .int .i64 0, .bool false, .bool false] 37 (0, 0))) : w.frozen? ⟨g, 0, none⟩ = false ∧ w.frozen? ⟨g, 1, none⟩ = false ∧ w.frozen? ⟨g, 2, none⟩ = false ∧ w.frozen? ⟨g, 3, none⟩ = false ∧ w.frozen? ⟨g, 4, none⟩ = false ∧ w.frozen? ⟨g, 5, none⟩ = false ∧ w.frozen? ⟨g, 6, none⟩ = false ∧ w.frozen? ⟨g, 7, none⟩ = false ∧ w.frozen? ⟨g, 8, none⟩ = false ∧ w.frozen? ⟨g, 9, none⟩ = false ∧ w.frozen? ⟨g, 10, none⟩ = false ∧ w.frozen? ⟨g, 11, none⟩ = false :=
  ⟨blk_frozen h 0, blk_frozen h 1, blk_frozen h 2, blk_frozen h 3, blk_frozen h 4, blk_frozen h 5, blk_frozen h 6, blk_frozen h 7, blk_frozen h 8, blk_frozen h 9, blk_frozen h 10, blk_frozen h 11⟩
theorem far12 {W : World} {g g' : Nat} {t : TypeId} {cs : Array Value} {x0 x1 x2 x3 x4 x5 x6 x7 x8 x9 x10 x11 : Value} (hg : W.heap[g]? = some (.cells cs t (0, 0))) (h : g ≠ g') : (((((((((((((W.setCell ⟨g', 0, none⟩ x0).setCell ⟨g', 1, none⟩ x1).setCell ⟨g', 2, none⟩ x2).setCell ⟨g', 3, none⟩ x3).setCell ⟨g', 4, none⟩ x4).setCell ⟨g', 5, none⟩ x5).setCell ⟨g', 6, none⟩ x6).setCell ⟨g', 7, none⟩ x7).setCell ⟨g', 8, none⟩ x8).setCell ⟨g', 9, none⟩ x9).setCell ⟨g', 10, none⟩ x10).setCell ⟨g', 11, none⟩ x11)).heap[g]? = some (.cells cs t (0, 0)) :=
  (blk_far (blk_far (blk_far (blk_far (blk_far (blk_far (blk_far (blk_far (blk_far (blk_far (blk_far (blk_far hg h _) h _) h _) h _) h _) h _) h _) h _) h _) h _) h _) h _)
abbrev sa : ByteArray := ⟨#[97]⟩
theorem alk_refl (s : ByteArray) : alk s s = true := by unfold alk; simp
theorem fnd_sa : fnd [sa] sa = some 0 := by unfold fnd; rw [if_pos (alk_refl sa)]
/-- Behind Ref's begin: the shift and the reference lie boxed; the names are read; the tables hold. -/
structure RJ (w0 : World) (A : Option Addr) (w : World) : Prop where
  below : Below w0.heap.size w0 w
  box0 : w.heap[w0.heap.size]? = some (.cells (shC 1 sa 1 2 es) 24 (0, 0))
  box1 : w.heap[w0.heap.size + 1]? = some (.cells #[.string es, .string es, .bool false, .bool true, .int .i64 0, .int .i64 0, .bool false, .bool false, .int .i64 2, .int .i64 0, .bool false, .bool false] 37 (0, 0))
  box2 : w.heap[w0.heap.size + 1 + 1]? = some (.cells #[.string es, .string es, .bool false, .bool false, .int .i64 0, .int .i64 0, .bool false, .bool false, .int .i64 0, .int .i64 0, .bool false, .bool false] 37 (0, 0))
  row : Kd.C Kd.string w A 1 [sa]
  tabs : ChW w
section
variable {w0 w w' : World} {A : Option Addr}
theorem RJ.go (h : RJ w0 A w) (hb : Below w.heap.size w w') : RJ w0 A w' :=
  ⟨h.below.trans (hb.mono h.below.size), (hb.block _ (blk_lt h.box0)).trans h.box0, (hb.block _ (blk_lt h.box1)).trans h.box1, (hb.block _ (blk_lt h.box2)).trans h.box2, Kd.C_below h.row hb, h.tabs.go hb⟩
theorem RJ.start (hC : ChW w0) (hr : Kd.C Kd.string w0 A 1 [sa]) : RJ w0 A (((w0.alloc (.cells (shC 1 sa 1 2 es) 24)).alloc (.cells #[.string es, .string es, .bool false, .bool true, .int .i64 0, .int .i64 0, .bool false, .bool false, .int .i64 2, .int .i64 0, .bool false, .bool false] 37)).alloc (.cells #[.string es, .string es, .bool false, .bool false, .int .i64 0, .int .i64 0, .bool false, .bool false, .int .i64 0, .int .i64 0, .bool false, .bool false] 37)) := by
  have z : ∀ (w : World) (o : Obj), (w.alloc o).heap.size = w.heap.size + 1 := fun w o => Array.size_push ..
  have b := (((Below.refl w0.heap.size w0).alloc (Nat.le_refl _) (.cells (shC 1 sa 1 2 es) 24)).alloc (by rw [z]; omega) (.cells #[.string es, .string es, .bool false, .bool true, .int .i64 0, .int .i64 0, .bool false, .bool false, .int .i64 2, .int .i64 0, .bool false, .bool false] 37)).alloc (by rw [z, z]; omega) (.cells #[.string es, .string es, .bool false, .bool false, .int .i64 0, .int .i64 0, .bool false, .bool false, .int .i64 0, .int .i64 0, .bool false, .bool false] 37)
  refine ⟨b, blk_alloc (blk_alloc (heap_alloc_new w0 _) _) _, blk_alloc ?_ _, ?_, Kd.C_below hr b, hC.go b⟩
  · rw [← z w0 (.cells (shC 1 sa 1 2 es) 24)]; exact heap_alloc_new _ _
  · rw [← z w0 (.cells (shC 1 sa 1 2 es) 24), ← z _ (.cells #[.string es, .string es, .bool false, .bool true, .int .i64 0, .int .i64 0, .bool false, .bool false, .int .i64 2, .int .i64 0, .bool false, .bool false] 37)]; exact heap_alloc_new _ _
theorem RJ.drew (h : RJ w0 A w) : RJ w0 A w.drew := h.go (Below.refl _ w).drew
theorem RJ.S (h : RJ w0 A w) : w.cell? ⟨w0.heap.size + 1, 0, none⟩ = some (.string es) ∧ w.cell? ⟨w0.heap.size + 1, 1, none⟩ = some (.string es) ∧ w.cell? ⟨w0.heap.size + 1, 2, none⟩ = some (.bool false) ∧ w.cell? ⟨w0.heap.size + 1, 3, none⟩ = some (.bool true) ∧ w.cell? ⟨w0.heap.size + 1, 4, none⟩ = some (.int .i64 0) ∧ w.cell? ⟨w0.heap.size + 1, 5, none⟩ = some (.int .i64 0) ∧ w.cell? ⟨w0.heap.size + 1, 6, none⟩ = some (.bool false) ∧ w.cell? ⟨w0.heap.size + 1, 7, none⟩ = some (.bool false) ∧ w.cell? ⟨w0.heap.size + 1, 8, none⟩ = some (.int .i64 2) ∧ w.cell? ⟨w0.heap.size + 1, 9, none⟩ = some (.int .i64 0) ∧ w.cell? ⟨w0.heap.size + 1, 10, none⟩ = some (.bool false) ∧ w.cell? ⟨w0.heap.size + 1, 11, none⟩ = some (.bool false) ∧ w.cell? ⟨w0.heap.size, 1, none⟩ = some (.string sa) ∧ Aside0 (RJ w0 A w) :=
  ⟨(blk_cell h.box1 0).trans rfl, (blk_cell h.box1 1).trans rfl, (blk_cell h.box1 2).trans rfl, (blk_cell h.box1 3).trans rfl, (blk_cell h.box1 4).trans rfl, (blk_cell h.box1 5).trans rfl, (blk_cell h.box1 6).trans rfl, (blk_cell h.box1 7).trans rfl, (blk_cell h.box1 8).trans rfl, (blk_cell h.box1 9).trans rfl, (blk_cell h.box1 10).trans rfl, (blk_cell h.box1 11).trans rfl, (blk_cell h.box0 1).trans rfl, ⟨h⟩⟩
theorem RJ.on {f : FuncId} {args : Array Value} {v : Ending} (h : ∀ w, RJ w0 A w → Calls Tryd.prog f args w fun e w' => e = v ∧ Below w.heap.size w w') :
    ∀ w, Aside0 (RJ w0 A w) → Calls Tryd.prog f args w fun e w' => e = v ∧ Aside0 (RJ w0 A w') := fun w hj =>
  (h w hj.out).mono fun e w' ⟨h1, h2⟩ => ⟨h1, ⟨hj.out.go h2⟩⟩
end
theorem bsr {B g : Nat} {w0 w : World} (hb : Below B w0 w) (hB : B ≤ g) (cs : Array Value) : Below B w0 (w.setRow g cs) :=
  ⟨hb.os, hb.tape, hb.output, by rw [setRow_size]; exact hb.size, fun b h => (setRow_other w g b cs (by omega)).trans (hb.block b h)⟩
/-- Behind the call of line: the reference as it is then. -/
structure R2 (w0 : World) (w : World) : Prop where
  below : Below w0.heap.size w0 w
  box1 : w.heap[w0.heap.size + 1]? = some (.cells #[.string es, .string es, .bool false, .bool true, .int .i64 0, .int .i64 0, .bool false, .bool false, .int .i64 4, .int .i64 0, .bool false, .bool false] 37 (0, 0))
  box2 : w.heap[w0.heap.size + 1 + 1]? = some (.cells #[.string es, .string es, .bool false, .bool false, .int .i64 0, .int .i64 0, .bool false, .bool false, .int .i64 0, .int .i64 0, .bool false, .bool false] 37 (0, 0))
theorem R2.of {w0 w : World} {A : Option Addr} (h : RJ w0 A w) : R2 w0 (w.setRow (w0.heap.size + 1) #[.string es, .string es, .bool false, .bool true, .int .i64 0, .int .i64 0, .bool false, .bool false, .int .i64 4, .int .i64 0, .bool false, .bool false]) :=
  ⟨bsr h.below (by omega) _, setRow_heap _ _ _ _ _ _ h.box1, (setRow_other _ _ _ _ (by omega)).trans h.box2⟩
theorem chk_live (o : Option Nat) (b : Bool) : chkI 1 1 2 1 (some 0) o b = 0 := by unfold chkI; simp
set_option maxRecDepth 100000 in
set_option maxHeartbeats 4000000 in
theorem lref_calls (A : Option Addr) (c : Nat) (w : World) (hC : ChW w) (hr : Kd.C Kd.string w A 1 [sa]) : Calls Tryd.prog 15 #[.slice A 1 c, shA 1 sa 1 2 es, .string sa, refV 2] w fun e w' => e = .returned (.tuple #[refV 4, .bool true]) ∧ Below w.heap.size w w' := by
  have hS : Small [sa] := fun s hs => by simp only [List.mem_singleton] at hs; subst hs; decide
  have H0 := Aside0.mk (RJ.on (w0 := w) (A := A) fun w1 hj => check_calls A c [sa] 1 sa 1 2 es w1 hj.tabs hj.row (by decide) hS (by decide) (by decide) (by omega) (by omega))
  rw [fnd_sa, show ([sa] : List ByteArray).length = 1 from rfl, chk_live] at H0
  have H1 := Aside0.mk (RJ.on (w0 := w) (A := A) fun w1 hj => lcheck_calls w1)
  have H2 := Aside0.mk (RJ.on (w0 := w) (A := A) fun w1 hj => lines_on 1 w1)
  have H3 := Aside0.mk (RJ.on (w0 := w) (A := A) fun w1 hj => shift_sheetOf.calls es es false true 0 0 false false 2 0 false false sa sa w1 (by kernel_rfl))
  have H4 := Aside0.mk (RJ.on (w0 := w) (A := A) fun w1 hj => alike_calls sa sa w1 (by decide) (by decide))
  rw [alk_refl] at H4
  have H5 := Aside0.mk (RJ.on (w0 := w) (A := A) fun w1 hj => lline_calls sa es w1)
  have HJ0 : Aside0 (RJ w A (((w.alloc (.cells (shC 1 sa 1 2 es) 24)).alloc (.cells #[.string es, .string es, .bool false, .bool true, .int .i64 0, .int .i64 0, .bool false, .bool false, .int .i64 2, .int .i64 0, .bool false, .bool false] 37)).alloc (.cells #[.string es, .string es, .bool false, .bool false, .int .i64 0, .int .i64 0, .bool false, .bool false, .int .i64 0, .int .i64 0, .bool false, .bool false] 37))) := ⟨RJ.start hC hr⟩
  clear hC hr
  go_enter Tryd.func15, Tryd.ntmps15
  go_wp2_with (first
    | (go_at_call 11; refine (H0.out _ (by assumption)).mono ?_; rintro e w2 ⟨rfl, hb2⟩; obtain ⟨s0, s1, s2, s3, s4⟩ := shx _ _ _ _ _ _ hb2.out.box0; obtain ⟨c0, c1, c2, c3, c4, c5, c6, c7, c8, c9, c10, c11⟩ := rfx 2 hb2.out.box1; obtain ⟨f0, f1, f2, f3, f4, f5, f6, f7, f8, f9, f10, f11⟩ := rfz 2 hb2.out.box1; obtain ⟨⟨d0, d1, d2, d3, d4, d5, d6, d7, d8, d9, d10, d11⟩, ⟨g0, g1, g2, g3, g4, g5, g6, g7, g8, g9, g10, g11⟩⟩ := rb_mk hb2.out.box2)
    | (go_at_call 38; refine (H1.out _ (by assumption)).mono ?_; rintro e w2 ⟨rfl, hb2⟩; obtain ⟨s0, s1, s2, s3, s4⟩ := shx _ _ _ _ _ _ hb2.out.box0; obtain ⟨c0, c1, c2, c3, c4, c5, c6, c7, c8, c9, c10, c11⟩ := rfx 2 hb2.out.box1; obtain ⟨f0, f1, f2, f3, f4, f5, f6, f7, f8, f9, f10, f11⟩ := rfz 2 hb2.out.box1; obtain ⟨⟨d0, d1, d2, d3, d4, d5, d6, d7, d8, d9, d10, d11⟩, ⟨g0, g1, g2, g3, g4, g5, g6, g7, g8, g9, g10, g11⟩⟩ := rb_mk hb2.out.box2)
    | (go_at_call 28; refine (H2.out _ (by assumption)).mono ?_; rintro e w2 ⟨rfl, hb2⟩; obtain ⟨s0, s1, s2, s3, s4⟩ := shx _ _ _ _ _ _ hb2.out.box0; obtain ⟨c0, c1, c2, c3, c4, c5, c6, c7, c8, c9, c10, c11⟩ := rfx 2 hb2.out.box1; obtain ⟨f0, f1, f2, f3, f4, f5, f6, f7, f8, f9, f10, f11⟩ := rfz 2 hb2.out.box1; obtain ⟨⟨d0, d1, d2, d3, d4, d5, d6, d7, d8, d9, d10, d11⟩, ⟨g0, g1, g2, g3, g4, g5, g6, g7, g8, g9, g10, g11⟩⟩ := rb_mk hb2.out.box2)
    | (go_at_call 39; refine (H3.out _ (by assumption)).mono ?_; rintro e w2 ⟨rfl, hb2⟩; obtain ⟨s0, s1, s2, s3, s4⟩ := shx _ _ _ _ _ _ hb2.out.box0; obtain ⟨c0, c1, c2, c3, c4, c5, c6, c7, c8, c9, c10, c11⟩ := rfx 2 hb2.out.box1; obtain ⟨f0, f1, f2, f3, f4, f5, f6, f7, f8, f9, f10, f11⟩ := rfz 2 hb2.out.box1; obtain ⟨⟨d0, d1, d2, d3, d4, d5, d6, d7, d8, d9, d10, d11⟩, ⟨g0, g1, g2, g3, g4, g5, g6, g7, g8, g9, g10, g11⟩⟩ := rb_mk hb2.out.box2)
    | (go_at_call 21; refine (H4.out _ (by assumption)).mono ?_; rintro e w2 ⟨rfl, hb2⟩; obtain ⟨s0, s1, s2, s3, s4⟩ := shx _ _ _ _ _ _ hb2.out.box0; obtain ⟨c0, c1, c2, c3, c4, c5, c6, c7, c8, c9, c10, c11⟩ := rfx 2 hb2.out.box1; obtain ⟨f0, f1, f2, f3, f4, f5, f6, f7, f8, f9, f10, f11⟩ := rfz 2 hb2.out.box1; obtain ⟨⟨d0, d1, d2, d3, d4, d5, d6, d7, d8, d9, d10, d11⟩, ⟨g0, g1, g2, g3, g4, g5, g6, g7, g8, g9, g10, g11⟩⟩ := rb_mk hb2.out.box2)
    | (go_at_call 40; refine (H5.out _ (by assumption)).mono ?_; rintro e w2 ⟨rfl, hb2⟩; obtain ⟨s0, s1, s2, s3, s4⟩ := shx _ _ _ _ _ _ hb2.out.box0; obtain ⟨c0, c1, c2, c3, c4, c5, c6, c7, c8, c9, c10, c11⟩ := rfx 2 hb2.out.box1; obtain ⟨f0, f1, f2, f3, f4, f5, f6, f7, f8, f9, f10, f11⟩ := rfz 2 hb2.out.box1; obtain ⟨⟨d0, d1, d2, d3, d4, d5, d6, d7, d8, d9, d10, d11⟩, ⟨g0, g1, g2, g3, g4, g5, g6, g7, g8, g9, g10, g11⟩⟩ := rb_mk hb2.out.box2))
  go_region_held3 (fun w' => w'.cell? ⟨w.heap.size + 1, 0, none⟩ = some (.string es) ∧ w'.cell? ⟨w.heap.size + 1, 1, none⟩ = some (.string es) ∧ w'.cell? ⟨w.heap.size + 1, 2, none⟩ = some (.bool false) ∧ w'.cell? ⟨w.heap.size + 1, 3, none⟩ = some (.bool true) ∧ w'.cell? ⟨w.heap.size + 1, 4, none⟩ = some (.int .i64 0) ∧ w'.cell? ⟨w.heap.size + 1, 5, none⟩ = some (.int .i64 0) ∧ w'.cell? ⟨w.heap.size + 1, 6, none⟩ = some (.bool false) ∧ w'.cell? ⟨w.heap.size + 1, 7, none⟩ = some (.bool false) ∧ w'.cell? ⟨w.heap.size + 1, 8, none⟩ = some (.int .i64 2) ∧ w'.cell? ⟨w.heap.size + 1, 9, none⟩ = some (.int .i64 0) ∧ w'.cell? ⟨w.heap.size + 1, 10, none⟩ = some (.bool false) ∧ w'.cell? ⟨w.heap.size + 1, 11, none⟩ = some (.bool false) ∧ w'.cell? ⟨w.heap.size, 1, none⟩ = some (.string sa) ∧ Aside0 (RJ w A w'))
    (first | exact RJ.S (RJ.drew (Aside0.out (by assumption))) | exact RJ.S (Aside0.out (by assumption)))
    (first | (go_at_call 39; refine (H3.out _ (And.right (And.right (And.right (And.right (And.right (And.right (And.right (And.right (And.right (And.right (And.right (And.right (And.right (by assumption))))))))))))))).mono ?_; rintro e w2 ⟨rfl, hb2⟩) | (go_at_call 21; refine (H4.out _ (And.right (And.right (And.right (And.right (And.right (And.right (And.right (And.right (And.right (And.right (And.right (And.right (And.right (by assumption))))))))))))))).mono ?_; rintro e w2 ⟨rfl, hb2⟩))
  clear H0 H1 H2 H3 H4 HJ0
  have hb3 : Aside0 (RJ w A w2) := by assumption
  obtain ⟨s0, s1, s2, s3, s4⟩ := shx _ _ _ _ _ _ hb3.out.box0; obtain ⟨c0, c1, c2, c3, c4, c5, c6, c7, c8, c9, c10, c11⟩ := rfx 2 hb3.out.box1; obtain ⟨f0, f1, f2, f3, f4, f5, f6, f7, f8, f9, f10, f11⟩ := rfz 2 hb3.out.box1; obtain ⟨⟨d0, d1, d2, d3, d4, d5, d6, d7, d8, d9, d10, d11⟩, ⟨g0, g1, g2, g3, g4, g5, g6, g7, g8, g9, g10, g11⟩⟩ := rb_mk hb3.out.box2
  clear c0 c1 c2 c3 c4 c5 c6 c7 c8 c9 c10 c11 f0 f1 f2 f3 f4 f5 f6 f7 f8 f9 f10 f11 d0 d1 d2 d3 d4 d5 d6 d7 d8 d9 d10 d11 g0 g1 g2 g3 g4 g5 g6 g7 g8 g9 g10 g11
  obtain ⟨c0, c1, c2, c3, c4, c5, c6, c7, c8, c9, c10, c11⟩ := rfx 2 hb3.out.box1
  have HS : Aside0 ((Tryd.prog.info? 37).map (·.size) = some (12 : Nat)) := ⟨by kernel_rfl⟩
  go_wp2_with (first
    | (go_at_call 40; with_reducible refine (H5.out _ hb3).mono ?_; clear c0 c1 c2 c3 c4 c5 c6 c7 c8 c9 c10 c11 s0 s1 s2 s3 s4 hb3; rintro e w3 ⟨rfl, hb4⟩)
    | (refine wpList_store_row rfl 37 _ _ rfl (w.heap.size + 1) #[.string es, .string es, .bool false, .bool true, .int .i64 0, .int .i64 0, .bool false, .bool false, .int .i64 4, .int .i64 0, .bool false, .bool false] rfl rfl 37 _ (RJ.box1 hb4.out) HS.out rfl (by simp [Value.oneCell']) ?_; have HW := Aside0.mk (R2.of hb4.out); clear hb4; generalize World.setRow w3 (w.heap.size + 1) #[.string es, .string es, .bool false, .bool true, .int .i64 0, .int .i64 0, .bool false, .bool false, .int .i64 4, .int .i64 0, .bool false, .bool false] = W at *; obtain ⟨c0, c1, c2, c3, c4, c5, c6, c7, c8, c9, c10, c11⟩ := rfx 4 HW.out.box1)
    | (refine wpList_store_row rfl 37 _ _ rfl (w.heap.size + 1 + 1) #[.string es, .string es, .bool false, .bool true, .int .i64 0, .int .i64 0, .bool false, .bool false, .int .i64 4, .int .i64 0, .bool false, .bool false] rfl rfl 37 _ (R2.box2 HW.out) HS.out rfl (by simp [Value.oneCell']) ?_))
  refine rf_end (p := 8) (u := 9) (by kernel_rfl) rfl rfl (setRow_heap _ _ _ _ _ _ (R2.box2 HW.out)) ⟨rfl, bsr (R2.below HW.out) (by omega) _⟩
end Go.Proofs.YtfkoiebnpgodmaaDoor.Hw
/- The document's example of a shifted reference, walked. -/
namespace Go.Proofs.YtfkoiebnpgodmaaDoor.Hw
open Go.RowKit Go.Proofs.YtfkoiebnpgodmaaDoorW.PrintWords Go.Proofs.YtfkoiebnpgodmaaDoorW.PrintLast Go.Proofs.YtfkoiebnpgodmaaDoorW.PrintMore Go.Proofs.YtfkoiebnpgodmaaDoor.PH Go.Proofs.YtfkoiebnpgodmaaDoor.CP
set_option linter.unusedVariables false
set_option linter.unusedSimpArgs false
theorem row_one {w : World} {g : Nat} {t : TypeId} (h : w.heap[g]? = some (.cells #[.string sa] t (0, 0))) : Kd.C Kd.string w (some ⟨g, 0, none⟩) 1 [sa] := by
  refine ⟨rfl, by decide, fun _ => ⟨⟨g, 0, none⟩, rfl, fun j p hj => ?_⟩⟩
  cases j with
  | zero =>
    obtain rfl : sa = p := by simpa using hj
    refine ⟨[.string sa], rfl, rfl, fun i u hu => ?_⟩
    cases i with
    | zero =>
      obtain rfl : Value.string sa = u := by simpa using hu
      exact (blk_cell h 0).trans rfl
    | succ i => simp at hu
  | succ j => simp at hj
structure VJ (w0 : World) (w : World) : Prop where
  below : Below w0.heap.size w0 w
  box0 : w.heap[w0.heap.size]? = some (.cells (shC 1 sa 1 2 es) 24 (0, 0))
  tabs : ChW w
theorem VJ.go {w0 w w' : World} (h : VJ w0 w) (hb : Below w.heap.size w w') : VJ w0 w' :=
  ⟨h.below.trans (hb.mono h.below.size), (hb.block _ (blk_lt h.box0)).trans h.box0, h.tabs.go hb⟩
theorem lchk_calls (A : Option Addr) (c : Nat) (w : World) (hC : ChW w) (hr : Kd.C Kd.string w A 1 [sa]) : Calls Tryd.prog 11 #[.slice A 1 c, shA 1 sa 1 2 es] w fun e w' => e = .returned (.int .i64 0) ∧ Below w.heap.size w w' := by
  have hS : Small [sa] := fun s hs => by simp only [List.mem_singleton] at hs; subst hs; decide
  have h := check_calls A c [sa] 1 sa 1 2 es w hC hr (by decide) hS (by decide) (by decide) (by omega) (by omega)
  rw [fnd_sa, show ([sa] : List ByteArray).length = 1 from rfl, chk_live] at h
  exact h
theorem VJ.two {w0 w : World} (h : VJ w0 w) (o : Obj) : VJ w0 ((w.alloc o).alloc (.cells #[.string sa] 9)) ∧ Kd.C Kd.string ((w.alloc o).alloc (.cells #[.string sa] 9)) (some ⟨w.heap.size + 1, 0, none⟩) 1 [sa] := by
  have z : ∀ (w : World) (o : Obj), (w.alloc o).heap.size = w.heap.size + 1 := fun w o => Array.size_push ..
  refine ⟨h.go (((Below.refl _ _).alloc (Nat.le_refl _) _).alloc (by rw [z]; omega) _), row_one (t := 9) ?_⟩
  rw [← z w o]
  exact heap_alloc_new _ _
set_option maxRecDepth 100000 in
set_option maxHeartbeats 600000 in
theorem live15_calls (w : World) (hC : ChW w) : Calls Tryd.prog 10 #[] w fun e w' => e = .returned (.bool true) ∧ Below w.heap.size w w' := by
  have z : ∀ (w : World) (o : Obj), (w.alloc o).heap.size = w.heap.size + 1 := fun w o => Array.size_push ..
  have b := (((Below.refl w.heap.size w).alloc (Nat.le_refl _) (.cells (shC 1 sa 1 2 es) 24)).alloc (by rw [z]; omega) (.cells #[.string es, .string es, .bool false, .bool true, .int .i64 0, .int .i64 0, .bool false, .bool false, .int .i64 2, .int .i64 0, .bool false, .bool false] 37)).alloc (by rw [z, z]; omega) (.cells #[.string sa] 9)
  have H0 : Aside0 (VJ w (((w.alloc (.cells (shC 1 sa 1 2 es) 24)).alloc (.cells #[.string es, .string es, .bool false, .bool true, .int .i64 0, .int .i64 0, .bool false, .bool false, .int .i64 2, .int .i64 0, .bool false, .bool false] 37)).alloc (.cells #[.string sa] 9))) :=
    ⟨⟨b, blk_alloc (blk_alloc (heap_alloc_new w _) _) _, hC.go b⟩⟩
  have hr : Aside0 (Kd.C Kd.string (((w.alloc (.cells (shC 1 sa 1 2 es) 24)).alloc (.cells #[.string es, .string es, .bool false, .bool true, .int .i64 0, .int .i64 0, .bool false, .bool false, .int .i64 2, .int .i64 0, .bool false, .bool false] 37)).alloc (.cells #[.string sa] 9)) (some ⟨w.heap.size + 1 + 1, 0, none⟩) 1 [sa]) :=
    ⟨row_one (by rw [← z w (.cells (shC 1 sa 1 2 es) 24), ← z _ (.cells #[.string es, .string es, .bool false, .bool true, .int .i64 0, .int .i64 0, .bool false, .bool false, .int .i64 2, .int .i64 0, .bool false, .bool false] 37)]; exact heap_alloc_new _ _)⟩
  clear hC z b
  go_enter Tryd.func10, Tryd.ntmps10
  go_wp2_with (first
    | (go_at_call 15; refine (lref_calls _ 1 _ (VJ.tabs H0.out) hr.out).mono ?_; rintro e w2 ⟨rfl, hb2⟩; have H1 := Aside0.mk (VJ.two (H0.out.go hb2) (.cells #[.string es, .string es, .bool false, .bool true, .int .i64 0, .int .i64 0, .bool false, .bool false, .int .i64 4, .int .i64 0, .bool false, .bool false] 37)); clear H0 hr hb2; obtain ⟨s0, s1, s2, s3, s4⟩ := shx _ _ _ _ _ _ (VJ.box0 (And.left H1.out)))
    | (go_at_call 11; refine (lchk_calls _ 1 _ (VJ.tabs (And.left H1.out)) (And.right H1.out)).mono ?_; rintro e w3 ⟨rfl, hb3⟩; have H2 := Aside0.mk (VJ.go (And.left H1.out) hb3); clear hb3 H1))
  go_ret
  exact ⟨rfl, VJ.below H2.out⟩
end Go.Proofs.YtfkoiebnpgodmaaDoor.Hw
