import Derived.Test.YtfkoiebnpgodmaaDoorShiftCellsWalk
import Derived.BigQuiet
import Derived.Deep.RegionHeld3
/- References that may be: refs' Check and the document's. -/
namespace Go.Proofs.YtfkoiebnpgodmaaDoor.CP
/-- A reference. -/
structure Rf where
  s : ByteArray
  t : ByteArray
  f : Bool
  e : Bool
  r : Int
  q : Int
  u : Bool
  v : Bool
  r2 : Int
  q2 : Int
  u2 : Bool
  v2 : Bool
abbrev Rf.cs (x : Rf) : Array Value := #[.string x.s, .string x.t, .bool x.f, .bool x.e, .int .i64 x.r, .int .i64 x.q, .bool x.u, .bool x.v, .int .i64 x.r2, .int .i64 x.q2, .bool x.u2, .bool x.v2]
def corB (r q : Int) : Bool := decide (0 ≤ r ∧ r < 1048576 ∧ 0 ≤ q ∧ q < 1024)
/-- A reference that may be. -/
def okR (x : Rf) : Prop := (0 < x.s.size → nmOK x.s = true) ∧ (0 < x.t.size → nmOK x.t = true) ∧ (x.s.size = 0 → x.t.size = 0 ∧ x.f = false) ∧ corB x.r x.q = true ∧ (x.e = true → corB x.r2 x.q2 = true) ∧ (x.e = false → x.r2 = 0 ∧ x.q2 = 0 ∧ x.u2 = false ∧ x.v2 = false ∧ x.t.size = 0)
end Go.Proofs.YtfkoiebnpgodmaaDoor.CP
namespace Go.Proofs.YtfkoiebnpgodmaaDoor.Hw
open Go.RowKit Go.Proofs.YtfkoiebnpgodmaaDoorW.PrintWords Go.Proofs.YtfkoiebnpgodmaaDoorW.PrintLast Go.Proofs.YtfkoiebnpgodmaaDoorW.PrintMore Go.Proofs.YtfkoiebnpgodmaaDoor.PH Go.Proofs.YtfkoiebnpgodmaaDoor.CP
set_option linter.unusedVariables false
set_option linter.unusedSimpArgs false
theorem corner_is (r q : Int) (u v : Bool) : refs_corner.f r q u v = some (corB r q) := by
  unfold refs_corner.f corB
  repeat' split
  all_goals (congr 1; first | (symm; rw [decide_eq_true_iff]; omega) | (symm; rw [decide_eq_false_iff_not]; omega) | (rw [decide_eq_decide]; omega))
theorem rcorner_is (r q : Int) (u v : Bool) : gridironref11_corner.f r q u v = some (corB r q) := by
  unfold gridironref11_corner.f corB
  repeat' split
  all_goals (congr 1; first | (symm; rw [decide_eq_true_iff]; omega) | (symm; rw [decide_eq_false_iff_not]; omega) | (rw [decide_eq_decide]; omega))
theorem rfc {w : World} {g : Nat} {x : Rf} {t : TypeId} (h : w.heap[g]? = some (.cells x.cs t (0, 0))) : w.cell? ⟨g, 0, none⟩ = some (.string x.s) ∧ w.cell? ⟨g, 1, none⟩ = some (.string x.t) ∧ w.cell? ⟨g, 2, none⟩ = some (.bool x.f) ∧ w.cell? ⟨g, 3, none⟩ = some (.bool x.e) ∧ w.cell? ⟨g, 4, none⟩ = some (.int .i64 x.r) ∧ w.cell? ⟨g, 5, none⟩ = some (.int .i64 x.q) ∧ w.cell? ⟨g, 6, none⟩ = some (.bool x.u) ∧ w.cell? ⟨g, 7, none⟩ = some (.bool x.v) ∧ w.cell? ⟨g, 8, none⟩ = some (.int .i64 x.r2) ∧ w.cell? ⟨g, 9, none⟩ = some (.int .i64 x.q2) ∧ w.cell? ⟨g, 10, none⟩ = some (.bool x.u2) ∧ w.cell? ⟨g, 11, none⟩ = some (.bool x.v2) :=
  ⟨(blk_cell h 0).trans rfl, (blk_cell h 1).trans rfl, (blk_cell h 2).trans rfl, (blk_cell h 3).trans rfl, (blk_cell h 4).trans rfl, (blk_cell h 5).trans rfl, (blk_cell h 6).trans rfl, (blk_cell h 7).trans rfl, (blk_cell h 8).trans rfl, (blk_cell h 9).trans rfl, (blk_cell h 10).trans rfl, (blk_cell h 11).trans rfl⟩
/-- Behind a call's begin: the reference lies boxed. -/
structure RfK (w0 : World) (x : Rf) (w : World) : Prop where
  below : Below w0.heap.size w0 w
  box : w.heap[w0.heap.size]? = some (.cells x.cs 37 (0, 0))
  tabs : ChW w
theorem RfK.on {w0 : World} {x : Rf} {f : FuncId} {args : Array Value} {v : Ending} (h : ∀ w, ChW w → Calls Tryd.prog f args w fun e w' => e = v ∧ Below w.heap.size w w') :
    ∀ w, Aside0 (RfK w0 x w) → Calls Tryd.prog f args w fun e w' => e = v ∧ Aside0 (RfK w0 x w') := fun w hj =>
  (h w hj.out.tabs).mono fun e w' ⟨h1, h2⟩ => ⟨h1, ⟨⟨hj.out.below.trans (h2.mono hj.out.below.size), (h2.block _ (blk_lt hj.out.box)).trans hj.out.box, hj.out.tabs.go h2⟩⟩⟩
theorem RfK.start {w : World} {x : Rf} (hC : ChW w) : RfK w x (w.alloc (.cells x.cs 37)) :=
  ⟨(Below.refl _ _).alloc (Nat.le_refl _) _, heap_alloc_new w _, hC.go ((Below.refl _ _).alloc (Nat.le_refl _) _)⟩
set_option maxRecDepth 100000 in
set_option maxHeartbeats 8000000 in
theorem rcheck_ok (x : Rf) (w : World) (hC : ChW w) (hs : x.s.size ≤ 140737488351232) (ht : x.t.size ≤ 140737488351232) (hx : okR x) : Calls Tryd.prog 38 #[.agg x.cs] w fun e w' => e = .returned (.int .i64 0) ∧ Below w.heap.size w w' := by
  have HJ0 : Aside0 (RfK w x _) := ⟨RfK.start hC⟩
  clear hC
  obtain ⟨o1, o2, o3, o4, o5, o6⟩ := hx
  have H0 := Aside0.mk (RfK.on (w0 := w) (x := x) fun w1 _ => refs_corner.calls x.r x.q x.u x.v _ w1 (corner_is _ _ _ _))
  have H1 := Aside0.mk (RfK.on (w0 := w) (x := x) fun w1 _ => refs_corner.calls x.r2 x.q2 x.u2 x.v2 _ w1 (corner_is _ _ _ _))
  have H2 := Aside0.mk (RfK.on (w0 := w) (x := x) fun w1 h => sheet_calls x.s w1 h (by unfold maxLen; omega))
  have H3 := Aside0.mk (RfK.on (w0 := w) (x := x) fun w1 h => sheet_calls x.t w1 h (by unfold maxLen; omega))
  rw [o4] at H0
  have hst : (x.s.size = 0 ∧ x.t.size = 0) ∨ (0 < x.s.size ∧ x.t.size = 0) ∨ (0 < x.s.size ∧ 0 < x.t.size) := by
    by_cases g : x.s.size = 0
    · exact .inl ⟨g, (o3 g).1⟩
    · by_cases g' : x.t.size = 0
      · exact .inr (.inl ⟨by omega, g'⟩)
      · exact .inr (.inr ⟨by omega, by omega⟩)
  obtain ⟨c0, c1, c2, c3, c4, c5, c6, c7, c8, c9, c10, c11⟩ := rfc HJ0.out.box
  obtain ⟨s, t, f, e, r, q, u, v, r2, q2, u2, v2⟩ := x
  simp only [] at *
  rcases hst with ⟨g1, g2⟩ | ⟨g1, g2⟩ | ⟨g1, g2⟩ <;> cases e
  · obtain ⟨rfl, rfl, rfl, rfl, _⟩ := o6 rfl
    obtain rfl := (o3 g1).2
    have e1 := toList_none g1
    have e2 := toList_none g2
    clear o1 o2 o3 o5 o6 g1 g2
    go_enter Tryd.func38, Tryd.ntmps38
    go_wp2_with (first
      | (go_at_call 56; first | ((with_reducible refine (H0.out _ (by assumption)).mono ?_); rintro e w2 ⟨rfl, hb2⟩; obtain ⟨c0, c1, c2, c3, c4, c5, c6, c7, c8, c9, c10, c11⟩ := rfc hb2.out.box) | ((with_reducible refine (H1.out _ (by assumption)).mono ?_); rintro e w2 ⟨rfl, hb2⟩; obtain ⟨c0, c1, c2, c3, c4, c5, c6, c7, c8, c9, c10, c11⟩ := rfc hb2.out.box))
      | (go_at_call 33; first | ((with_reducible refine (H2.out _ (by assumption)).mono ?_); rintro e w2 ⟨rfl, hb2⟩; obtain ⟨c0, c1, c2, c3, c4, c5, c6, c7, c8, c9, c10, c11⟩ := rfc hb2.out.box) | ((with_reducible refine (H3.out _ (by assumption)).mono ?_); rintro e w2 ⟨rfl, hb2⟩; obtain ⟨c0, c1, c2, c3, c4, c5, c6, c7, c8, c9, c10, c11⟩ := rfc hb2.out.box)))
    go_ret
    exact ⟨rfl, RfK.below (Aside0.out (by assumption))⟩
  · rw [o5 rfl] at H1
    obtain rfl := (o3 g1).2
    have e1 := toList_none g1
    have e2 := toList_none g2
    clear o1 o2 o3 o5 o6 g1 g2
    go_enter Tryd.func38, Tryd.ntmps38
    go_wp2_with (first
      | (go_at_call 56; first | ((with_reducible refine (H0.out _ (by assumption)).mono ?_); rintro e w2 ⟨rfl, hb2⟩; obtain ⟨c0, c1, c2, c3, c4, c5, c6, c7, c8, c9, c10, c11⟩ := rfc hb2.out.box) | ((with_reducible refine (H1.out _ (by assumption)).mono ?_); rintro e w2 ⟨rfl, hb2⟩; obtain ⟨c0, c1, c2, c3, c4, c5, c6, c7, c8, c9, c10, c11⟩ := rfc hb2.out.box))
      | (go_at_call 33; first | ((with_reducible refine (H2.out _ (by assumption)).mono ?_); rintro e w2 ⟨rfl, hb2⟩; obtain ⟨c0, c1, c2, c3, c4, c5, c6, c7, c8, c9, c10, c11⟩ := rfc hb2.out.box) | ((with_reducible refine (H3.out _ (by assumption)).mono ?_); rintro e w2 ⟨rfl, hb2⟩; obtain ⟨c0, c1, c2, c3, c4, c5, c6, c7, c8, c9, c10, c11⟩ := rfc hb2.out.box)))
    go_ret
    exact ⟨rfl, RfK.below (Aside0.out (by assumption))⟩
  · obtain ⟨rfl, rfl, rfl, rfl, _⟩ := o6 rfl
    rw [o1 g1] at H2
    have e1 := toList_some g1
    have e2 := toList_none g2
    clear o1 o2 o3 o5 o6 g1 g2
    go_enter Tryd.func38, Tryd.ntmps38
    go_wp2_with (first
      | (go_at_call 56; first | ((with_reducible refine (H0.out _ (by assumption)).mono ?_); rintro e w2 ⟨rfl, hb2⟩; obtain ⟨c0, c1, c2, c3, c4, c5, c6, c7, c8, c9, c10, c11⟩ := rfc hb2.out.box) | ((with_reducible refine (H1.out _ (by assumption)).mono ?_); rintro e w2 ⟨rfl, hb2⟩; obtain ⟨c0, c1, c2, c3, c4, c5, c6, c7, c8, c9, c10, c11⟩ := rfc hb2.out.box))
      | (go_at_call 33; first | ((with_reducible refine (H2.out _ (by assumption)).mono ?_); rintro e w2 ⟨rfl, hb2⟩; obtain ⟨c0, c1, c2, c3, c4, c5, c6, c7, c8, c9, c10, c11⟩ := rfc hb2.out.box) | ((with_reducible refine (H3.out _ (by assumption)).mono ?_); rintro e w2 ⟨rfl, hb2⟩; obtain ⟨c0, c1, c2, c3, c4, c5, c6, c7, c8, c9, c10, c11⟩ := rfc hb2.out.box)))
    go_ret
    exact ⟨rfl, RfK.below (Aside0.out (by assumption))⟩
  · rw [o5 rfl] at H1
    rw [o1 g1] at H2
    have e1 := toList_some g1
    have e2 := toList_none g2
    clear o1 o2 o3 o5 o6 g1 g2
    go_enter Tryd.func38, Tryd.ntmps38
    go_wp2_with (first
      | (go_at_call 56; first | ((with_reducible refine (H0.out _ (by assumption)).mono ?_); rintro e w2 ⟨rfl, hb2⟩; obtain ⟨c0, c1, c2, c3, c4, c5, c6, c7, c8, c9, c10, c11⟩ := rfc hb2.out.box) | ((with_reducible refine (H1.out _ (by assumption)).mono ?_); rintro e w2 ⟨rfl, hb2⟩; obtain ⟨c0, c1, c2, c3, c4, c5, c6, c7, c8, c9, c10, c11⟩ := rfc hb2.out.box))
      | (go_at_call 33; first | ((with_reducible refine (H2.out _ (by assumption)).mono ?_); rintro e w2 ⟨rfl, hb2⟩; obtain ⟨c0, c1, c2, c3, c4, c5, c6, c7, c8, c9, c10, c11⟩ := rfc hb2.out.box) | ((with_reducible refine (H3.out _ (by assumption)).mono ?_); rintro e w2 ⟨rfl, hb2⟩; obtain ⟨c0, c1, c2, c3, c4, c5, c6, c7, c8, c9, c10, c11⟩ := rfc hb2.out.box)))
    go_ret
    exact ⟨rfl, RfK.below (Aside0.out (by assumption))⟩
  · exact absurd (o6 rfl).2.2.2.2 (by omega)
  · rw [o5 rfl] at H1
    rw [o1 g1] at H2
    have e1 := toList_some g1
    rw [o2 g2] at H3
    have e2 := toList_some g2
    clear o1 o2 o3 o5 o6 g1 g2
    go_enter Tryd.func38, Tryd.ntmps38
    go_wp2_with (first
      | (go_at_call 56; first | ((with_reducible refine (H0.out _ (by assumption)).mono ?_); rintro e w2 ⟨rfl, hb2⟩; obtain ⟨c0, c1, c2, c3, c4, c5, c6, c7, c8, c9, c10, c11⟩ := rfc hb2.out.box) | ((with_reducible refine (H1.out _ (by assumption)).mono ?_); rintro e w2 ⟨rfl, hb2⟩; obtain ⟨c0, c1, c2, c3, c4, c5, c6, c7, c8, c9, c10, c11⟩ := rfc hb2.out.box))
      | (go_at_call 33; first | ((with_reducible refine (H2.out _ (by assumption)).mono ?_); rintro e w2 ⟨rfl, hb2⟩; obtain ⟨c0, c1, c2, c3, c4, c5, c6, c7, c8, c9, c10, c11⟩ := rfc hb2.out.box) | ((with_reducible refine (H3.out _ (by assumption)).mono ?_); rintro e w2 ⟨rfl, hb2⟩; obtain ⟨c0, c1, c2, c3, c4, c5, c6, c7, c8, c9, c10, c11⟩ := rfc hb2.out.box)))
    go_ret
    exact ⟨rfl, RfK.below (Aside0.out (by assumption))⟩
end Go.Proofs.YtfkoiebnpgodmaaDoor.Hw
/- References that may be: the document's Check. -/
namespace Go.Proofs.YtfkoiebnpgodmaaDoor.Hw
open Go.RowKit Go.Proofs.YtfkoiebnpgodmaaDoorW.PrintWords Go.Proofs.YtfkoiebnpgodmaaDoorW.PrintLast Go.Proofs.YtfkoiebnpgodmaaDoorW.PrintMore Go.Proofs.YtfkoiebnpgodmaaDoor.PH Go.Proofs.YtfkoiebnpgodmaaDoor.CP
set_option linter.unusedVariables false
set_option linter.unusedSimpArgs false
set_option maxRecDepth 100000 in
set_option maxHeartbeats 8000000 in
theorem rrcheck_ok (x : Rf) (w : World) (hC : ChW w) (hs : x.s.size ≤ 140737488351232) (ht : x.t.size ≤ 140737488351232) (hx : okR x) : Calls Tryd.prog 14 #[.agg x.cs] w fun e w' => e = .returned (.int .i64 0) ∧ Below w.heap.size w w' := by
  obtain ⟨o1, o2, o3, o4, o5, o6⟩ := hx
  have HJ0 : Aside0 (RfK w x _) := ⟨RfK.start hC⟩
  clear hC
  have H0 := Aside0.mk (RfK.on (w0 := w) (x := x) fun w1 _ => gridironref11_corner.calls x.r x.q x.u x.v _ w1 (rcorner_is _ _ _ _))
  have H1 := Aside0.mk (RfK.on (w0 := w) (x := x) fun w1 _ => gridironref11_corner.calls x.r2 x.q2 x.u2 x.v2 _ w1 (rcorner_is _ _ _ _))
  have H2 := Aside0.mk (RfK.on (w0 := w) (x := x) fun w1 h => rsheet_calls x.s w1 h (by unfold maxLen; omega))
  have H3 := Aside0.mk (RfK.on (w0 := w) (x := x) fun w1 h => rsheet_calls x.t w1 h (by unfold maxLen; omega))
  obtain ⟨c0, c1, c2, c3, c4, c5, c6, c7, c8, c9, c10, c11⟩ := rfc HJ0.out.box
  rw [o4] at H0
  have hst : (x.s.size = 0 ∧ x.t.size = 0) ∨ (0 < x.s.size ∧ x.t.size = 0) ∨ (0 < x.s.size ∧ 0 < x.t.size) := by
    by_cases g : x.s.size = 0
    · exact .inl ⟨g, (o3 g).1⟩
    · by_cases g' : x.t.size = 0
      · exact .inr (.inl ⟨by omega, g'⟩)
      · exact .inr (.inr ⟨by omega, by omega⟩)
  obtain ⟨s, t, f, e, r, q, u, v, r2, q2, u2, v2⟩ := x
  simp only [] at *
  rcases hst with ⟨g1, g2⟩ | ⟨g1, g2⟩ | ⟨g1, g2⟩ <;> cases e
  · obtain ⟨rfl, rfl, rfl, rfl, _⟩ := o6 rfl
    obtain rfl := (o3 g1).2
    have e1 := toList_none g1
    have e2 := toList_none g2
    clear o1 o2 o3 o5 o6 g1 g2
    go_enter Tryd.func14, Tryd.ntmps14
    go_wp2_with (first
      | (go_at_call 37; first | ((with_reducible refine (H0.out _ (by assumption)).mono ?_); rintro e w2 ⟨rfl, hb2⟩; obtain ⟨c0, c1, c2, c3, c4, c5, c6, c7, c8, c9, c10, c11⟩ := rfc hb2.out.box) | ((with_reducible refine (H1.out _ (by assumption)).mono ?_); rintro e w2 ⟨rfl, hb2⟩; obtain ⟨c0, c1, c2, c3, c4, c5, c6, c7, c8, c9, c10, c11⟩ := rfc hb2.out.box))
      | (go_at_call 36; first | ((with_reducible refine (H2.out _ (by assumption)).mono ?_); rintro e w2 ⟨rfl, hb2⟩; obtain ⟨c0, c1, c2, c3, c4, c5, c6, c7, c8, c9, c10, c11⟩ := rfc hb2.out.box) | ((with_reducible refine (H3.out _ (by assumption)).mono ?_); rintro e w2 ⟨rfl, hb2⟩; obtain ⟨c0, c1, c2, c3, c4, c5, c6, c7, c8, c9, c10, c11⟩ := rfc hb2.out.box)))
    go_ret
    exact ⟨rfl, RfK.below (Aside0.out (by assumption))⟩
  · rw [o5 rfl] at H1
    obtain rfl := (o3 g1).2
    have e1 := toList_none g1
    have e2 := toList_none g2
    clear o1 o2 o3 o5 o6 g1 g2
    go_enter Tryd.func14, Tryd.ntmps14
    go_wp2_with (first
      | (go_at_call 37; first | ((with_reducible refine (H0.out _ (by assumption)).mono ?_); rintro e w2 ⟨rfl, hb2⟩; obtain ⟨c0, c1, c2, c3, c4, c5, c6, c7, c8, c9, c10, c11⟩ := rfc hb2.out.box) | ((with_reducible refine (H1.out _ (by assumption)).mono ?_); rintro e w2 ⟨rfl, hb2⟩; obtain ⟨c0, c1, c2, c3, c4, c5, c6, c7, c8, c9, c10, c11⟩ := rfc hb2.out.box))
      | (go_at_call 36; first | ((with_reducible refine (H2.out _ (by assumption)).mono ?_); rintro e w2 ⟨rfl, hb2⟩; obtain ⟨c0, c1, c2, c3, c4, c5, c6, c7, c8, c9, c10, c11⟩ := rfc hb2.out.box) | ((with_reducible refine (H3.out _ (by assumption)).mono ?_); rintro e w2 ⟨rfl, hb2⟩; obtain ⟨c0, c1, c2, c3, c4, c5, c6, c7, c8, c9, c10, c11⟩ := rfc hb2.out.box)))
    go_ret
    exact ⟨rfl, RfK.below (Aside0.out (by assumption))⟩
  · obtain ⟨rfl, rfl, rfl, rfl, _⟩ := o6 rfl
    rw [o1 g1] at H2
    have e1 := toList_some g1
    have e2 := toList_none g2
    clear o1 o2 o3 o5 o6 g1 g2
    go_enter Tryd.func14, Tryd.ntmps14
    go_wp2_with (first
      | (go_at_call 37; first | ((with_reducible refine (H0.out _ (by assumption)).mono ?_); rintro e w2 ⟨rfl, hb2⟩; obtain ⟨c0, c1, c2, c3, c4, c5, c6, c7, c8, c9, c10, c11⟩ := rfc hb2.out.box) | ((with_reducible refine (H1.out _ (by assumption)).mono ?_); rintro e w2 ⟨rfl, hb2⟩; obtain ⟨c0, c1, c2, c3, c4, c5, c6, c7, c8, c9, c10, c11⟩ := rfc hb2.out.box))
      | (go_at_call 36; first | ((with_reducible refine (H2.out _ (by assumption)).mono ?_); rintro e w2 ⟨rfl, hb2⟩; obtain ⟨c0, c1, c2, c3, c4, c5, c6, c7, c8, c9, c10, c11⟩ := rfc hb2.out.box) | ((with_reducible refine (H3.out _ (by assumption)).mono ?_); rintro e w2 ⟨rfl, hb2⟩; obtain ⟨c0, c1, c2, c3, c4, c5, c6, c7, c8, c9, c10, c11⟩ := rfc hb2.out.box)))
    go_ret
    exact ⟨rfl, RfK.below (Aside0.out (by assumption))⟩
  · rw [o5 rfl] at H1
    rw [o1 g1] at H2
    have e1 := toList_some g1
    have e2 := toList_none g2
    clear o1 o2 o3 o5 o6 g1 g2
    go_enter Tryd.func14, Tryd.ntmps14
    go_wp2_with (first
      | (go_at_call 37; first | ((with_reducible refine (H0.out _ (by assumption)).mono ?_); rintro e w2 ⟨rfl, hb2⟩; obtain ⟨c0, c1, c2, c3, c4, c5, c6, c7, c8, c9, c10, c11⟩ := rfc hb2.out.box) | ((with_reducible refine (H1.out _ (by assumption)).mono ?_); rintro e w2 ⟨rfl, hb2⟩; obtain ⟨c0, c1, c2, c3, c4, c5, c6, c7, c8, c9, c10, c11⟩ := rfc hb2.out.box))
      | (go_at_call 36; first | ((with_reducible refine (H2.out _ (by assumption)).mono ?_); rintro e w2 ⟨rfl, hb2⟩; obtain ⟨c0, c1, c2, c3, c4, c5, c6, c7, c8, c9, c10, c11⟩ := rfc hb2.out.box) | ((with_reducible refine (H3.out _ (by assumption)).mono ?_); rintro e w2 ⟨rfl, hb2⟩; obtain ⟨c0, c1, c2, c3, c4, c5, c6, c7, c8, c9, c10, c11⟩ := rfc hb2.out.box)))
    go_ret
    exact ⟨rfl, RfK.below (Aside0.out (by assumption))⟩
  · exact absurd (o6 rfl).2.2.2.2 (by omega)
  · rw [o5 rfl] at H1
    rw [o1 g1] at H2
    have e1 := toList_some g1
    rw [o2 g2] at H3
    have e2 := toList_some g2
    clear o1 o2 o3 o5 o6 g1 g2
    go_enter Tryd.func14, Tryd.ntmps14
    go_wp2_with (first
      | (go_at_call 37; first | ((with_reducible refine (H0.out _ (by assumption)).mono ?_); rintro e w2 ⟨rfl, hb2⟩; obtain ⟨c0, c1, c2, c3, c4, c5, c6, c7, c8, c9, c10, c11⟩ := rfc hb2.out.box) | ((with_reducible refine (H1.out _ (by assumption)).mono ?_); rintro e w2 ⟨rfl, hb2⟩; obtain ⟨c0, c1, c2, c3, c4, c5, c6, c7, c8, c9, c10, c11⟩ := rfc hb2.out.box))
      | (go_at_call 36; first | ((with_reducible refine (H2.out _ (by assumption)).mono ?_); rintro e w2 ⟨rfl, hb2⟩; obtain ⟨c0, c1, c2, c3, c4, c5, c6, c7, c8, c9, c10, c11⟩ := rfc hb2.out.box) | ((with_reducible refine (H3.out _ (by assumption)).mono ?_); rintro e w2 ⟨rfl, hb2⟩; obtain ⟨c0, c1, c2, c3, c4, c5, c6, c7, c8, c9, c10, c11⟩ := rfc hb2.out.box)))
    go_ret
    exact ⟨rfl, RfK.below (Aside0.out (by assumption))⟩
set_option maxRecDepth 100000 in
set_option maxHeartbeats 8000000 in
theorem rrc_L1 (x : Rf) (w : World) (hC : ChW w) (hs : x.s.size ≤ 140737488351232) (ht : x.t.size ≤ 140737488351232) (g1 : 0 < x.s.size) (n1 : nmOK x.s = false) : Calls Tryd.prog 14 #[.agg x.cs] w fun e w' => e = .returned (.int .i64 111) ∧ Below w.heap.size w w' := by
  have HJ0 : Aside0 (RfK w x _) := ⟨RfK.start hC⟩
  clear hC
  have H0 := Aside0.mk (RfK.on (w0 := w) (x := x) fun w1 _ => gridironref11_corner.calls x.r x.q x.u x.v _ w1 (rcorner_is _ _ _ _))
  have H1 := Aside0.mk (RfK.on (w0 := w) (x := x) fun w1 _ => gridironref11_corner.calls x.r2 x.q2 x.u2 x.v2 _ w1 (rcorner_is _ _ _ _))
  have H2 := Aside0.mk (RfK.on (w0 := w) (x := x) fun w1 h => rsheet_calls x.s w1 h (by unfold maxLen; omega))
  have H3 := Aside0.mk (RfK.on (w0 := w) (x := x) fun w1 h => rsheet_calls x.t w1 h (by unfold maxLen; omega))
  obtain ⟨c0, c1, c2, c3, c4, c5, c6, c7, c8, c9, c10, c11⟩ := rfc HJ0.out.box
  have e1 := toList_some g1
  rw [n1] at H2
  clear g1 n1
  obtain ⟨s, t, f, e, r, q, u, v, r2, q2, u2, v2⟩ := x
  simp only [] at *
  go_enter Tryd.func14, Tryd.ntmps14
  go_wp2_with (first
    | (go_at_call 37; first | ((with_reducible refine (H0.out _ (by assumption)).mono ?_); rintro e w2 ⟨rfl, hb2⟩; obtain ⟨c0, c1, c2, c3, c4, c5, c6, c7, c8, c9, c10, c11⟩ := rfc hb2.out.box) | ((with_reducible refine (H1.out _ (by assumption)).mono ?_); rintro e w2 ⟨rfl, hb2⟩; obtain ⟨c0, c1, c2, c3, c4, c5, c6, c7, c8, c9, c10, c11⟩ := rfc hb2.out.box))
    | (go_at_call 36; first | ((with_reducible refine (H2.out _ (by assumption)).mono ?_); rintro e w2 ⟨rfl, hb2⟩; obtain ⟨c0, c1, c2, c3, c4, c5, c6, c7, c8, c9, c10, c11⟩ := rfc hb2.out.box) | ((with_reducible refine (H3.out _ (by assumption)).mono ?_); rintro e w2 ⟨rfl, hb2⟩; obtain ⟨c0, c1, c2, c3, c4, c5, c6, c7, c8, c9, c10, c11⟩ := rfc hb2.out.box)))
  go_ret
  exact ⟨rfl, RfK.below (Aside0.out (by assumption))⟩
set_option maxRecDepth 100000 in
set_option maxHeartbeats 8000000 in
theorem rrc_L2 (x : Rf) (w : World) (hC : ChW w) (hs : x.s.size ≤ 140737488351232) (ht : x.t.size ≤ 140737488351232) (g1 : 0 < x.s.size) (n1 : nmOK x.s = true) (g2 : 0 < x.t.size) (n2 : nmOK x.t = false) : Calls Tryd.prog 14 #[.agg x.cs] w fun e w' => e = .returned (.int .i64 111) ∧ Below w.heap.size w w' := by
  have HJ0 : Aside0 (RfK w x _) := ⟨RfK.start hC⟩
  clear hC
  have H0 := Aside0.mk (RfK.on (w0 := w) (x := x) fun w1 _ => gridironref11_corner.calls x.r x.q x.u x.v _ w1 (rcorner_is _ _ _ _))
  have H1 := Aside0.mk (RfK.on (w0 := w) (x := x) fun w1 _ => gridironref11_corner.calls x.r2 x.q2 x.u2 x.v2 _ w1 (rcorner_is _ _ _ _))
  have H2 := Aside0.mk (RfK.on (w0 := w) (x := x) fun w1 h => rsheet_calls x.s w1 h (by unfold maxLen; omega))
  have H3 := Aside0.mk (RfK.on (w0 := w) (x := x) fun w1 h => rsheet_calls x.t w1 h (by unfold maxLen; omega))
  obtain ⟨c0, c1, c2, c3, c4, c5, c6, c7, c8, c9, c10, c11⟩ := rfc HJ0.out.box
  have e1 := toList_some g1
  rw [n1] at H2
  have e2 := toList_some g2
  rw [n2] at H3
  clear g1 n1 g2 n2
  obtain ⟨s, t, f, e, r, q, u, v, r2, q2, u2, v2⟩ := x
  simp only [] at *
  go_enter Tryd.func14, Tryd.ntmps14
  go_wp2_with (first
    | (go_at_call 37; first | ((with_reducible refine (H0.out _ (by assumption)).mono ?_); rintro e w2 ⟨rfl, hb2⟩; obtain ⟨c0, c1, c2, c3, c4, c5, c6, c7, c8, c9, c10, c11⟩ := rfc hb2.out.box) | ((with_reducible refine (H1.out _ (by assumption)).mono ?_); rintro e w2 ⟨rfl, hb2⟩; obtain ⟨c0, c1, c2, c3, c4, c5, c6, c7, c8, c9, c10, c11⟩ := rfc hb2.out.box))
    | (go_at_call 36; first | ((with_reducible refine (H2.out _ (by assumption)).mono ?_); rintro e w2 ⟨rfl, hb2⟩; obtain ⟨c0, c1, c2, c3, c4, c5, c6, c7, c8, c9, c10, c11⟩ := rfc hb2.out.box) | ((with_reducible refine (H3.out _ (by assumption)).mono ?_); rintro e w2 ⟨rfl, hb2⟩; obtain ⟨c0, c1, c2, c3, c4, c5, c6, c7, c8, c9, c10, c11⟩ := rfc hb2.out.box)))
  go_ret
  exact ⟨rfl, RfK.below (Aside0.out (by assumption))⟩
set_option maxRecDepth 100000 in
set_option maxHeartbeats 8000000 in
theorem rrc_L3 (x : Rf) (w : World) (hC : ChW w) (hs : x.s.size ≤ 140737488351232) (ht : x.t.size ≤ 140737488351232) (g1 : x.s.size = 0) (g2 : 0 < x.t.size) (n2 : nmOK x.t = false) : Calls Tryd.prog 14 #[.agg x.cs] w fun e w' => e = .returned (.int .i64 111) ∧ Below w.heap.size w w' := by
  have HJ0 : Aside0 (RfK w x _) := ⟨RfK.start hC⟩
  clear hC
  have H0 := Aside0.mk (RfK.on (w0 := w) (x := x) fun w1 _ => gridironref11_corner.calls x.r x.q x.u x.v _ w1 (rcorner_is _ _ _ _))
  have H1 := Aside0.mk (RfK.on (w0 := w) (x := x) fun w1 _ => gridironref11_corner.calls x.r2 x.q2 x.u2 x.v2 _ w1 (rcorner_is _ _ _ _))
  have H2 := Aside0.mk (RfK.on (w0 := w) (x := x) fun w1 h => rsheet_calls x.s w1 h (by unfold maxLen; omega))
  have H3 := Aside0.mk (RfK.on (w0 := w) (x := x) fun w1 h => rsheet_calls x.t w1 h (by unfold maxLen; omega))
  obtain ⟨c0, c1, c2, c3, c4, c5, c6, c7, c8, c9, c10, c11⟩ := rfc HJ0.out.box
  have e1 := toList_none g1
  have e2 := toList_some g2
  rw [n2] at H3
  clear g1 g2 n2
  obtain ⟨s, t, f, e, r, q, u, v, r2, q2, u2, v2⟩ := x
  simp only [] at *
  go_enter Tryd.func14, Tryd.ntmps14
  go_wp2_with (first
    | (go_at_call 37; first | ((with_reducible refine (H0.out _ (by assumption)).mono ?_); rintro e w2 ⟨rfl, hb2⟩; obtain ⟨c0, c1, c2, c3, c4, c5, c6, c7, c8, c9, c10, c11⟩ := rfc hb2.out.box) | ((with_reducible refine (H1.out _ (by assumption)).mono ?_); rintro e w2 ⟨rfl, hb2⟩; obtain ⟨c0, c1, c2, c3, c4, c5, c6, c7, c8, c9, c10, c11⟩ := rfc hb2.out.box))
    | (go_at_call 36; first | ((with_reducible refine (H2.out _ (by assumption)).mono ?_); rintro e w2 ⟨rfl, hb2⟩; obtain ⟨c0, c1, c2, c3, c4, c5, c6, c7, c8, c9, c10, c11⟩ := rfc hb2.out.box) | ((with_reducible refine (H3.out _ (by assumption)).mono ?_); rintro e w2 ⟨rfl, hb2⟩; obtain ⟨c0, c1, c2, c3, c4, c5, c6, c7, c8, c9, c10, c11⟩ := rfc hb2.out.box)))
  go_ret
  exact ⟨rfl, RfK.below (Aside0.out (by assumption))⟩
set_option maxRecDepth 100000 in
set_option maxHeartbeats 8000000 in
theorem rrc_L4 (x : Rf) (w : World) (hC : ChW w) (hs : x.s.size ≤ 140737488351232) (ht : x.t.size ≤ 140737488351232) (g1 : x.s.size = 0) (g2 : 0 < x.t.size) (n2 : nmOK x.t = true) : Calls Tryd.prog 14 #[.agg x.cs] w fun e w' => e = .returned (.int .i64 111) ∧ Below w.heap.size w w' := by
  have HJ0 : Aside0 (RfK w x _) := ⟨RfK.start hC⟩
  clear hC
  have H0 := Aside0.mk (RfK.on (w0 := w) (x := x) fun w1 _ => gridironref11_corner.calls x.r x.q x.u x.v _ w1 (rcorner_is _ _ _ _))
  have H1 := Aside0.mk (RfK.on (w0 := w) (x := x) fun w1 _ => gridironref11_corner.calls x.r2 x.q2 x.u2 x.v2 _ w1 (rcorner_is _ _ _ _))
  have H2 := Aside0.mk (RfK.on (w0 := w) (x := x) fun w1 h => rsheet_calls x.s w1 h (by unfold maxLen; omega))
  have H3 := Aside0.mk (RfK.on (w0 := w) (x := x) fun w1 h => rsheet_calls x.t w1 h (by unfold maxLen; omega))
  obtain ⟨c0, c1, c2, c3, c4, c5, c6, c7, c8, c9, c10, c11⟩ := rfc HJ0.out.box
  have e1 := toList_none g1
  have e2 := toList_some g2
  rw [n2] at H3
  clear g1 g2 n2
  obtain ⟨s, t, f, e, r, q, u, v, r2, q2, u2, v2⟩ := x
  simp only [] at *
  go_enter Tryd.func14, Tryd.ntmps14
  go_wp2_with (first
    | (go_at_call 37; first | ((with_reducible refine (H0.out _ (by assumption)).mono ?_); rintro e w2 ⟨rfl, hb2⟩; obtain ⟨c0, c1, c2, c3, c4, c5, c6, c7, c8, c9, c10, c11⟩ := rfc hb2.out.box) | ((with_reducible refine (H1.out _ (by assumption)).mono ?_); rintro e w2 ⟨rfl, hb2⟩; obtain ⟨c0, c1, c2, c3, c4, c5, c6, c7, c8, c9, c10, c11⟩ := rfc hb2.out.box))
    | (go_at_call 36; first | ((with_reducible refine (H2.out _ (by assumption)).mono ?_); rintro e w2 ⟨rfl, hb2⟩; obtain ⟨c0, c1, c2, c3, c4, c5, c6, c7, c8, c9, c10, c11⟩ := rfc hb2.out.box) | ((with_reducible refine (H3.out _ (by assumption)).mono ?_); rintro e w2 ⟨rfl, hb2⟩; obtain ⟨c0, c1, c2, c3, c4, c5, c6, c7, c8, c9, c10, c11⟩ := rfc hb2.out.box)))
  go_ret
  exact ⟨rfl, RfK.below (Aside0.out (by assumption))⟩
set_option maxRecDepth 100000 in
set_option maxHeartbeats 8000000 in
theorem rrc_L5 (x : Rf) (w : World) (hC : ChW w) (hs : x.s.size ≤ 140737488351232) (ht : x.t.size ≤ 140737488351232) (g1 : x.s.size = 0) (g2 : x.t.size = 0) (hf : x.f = true) : Calls Tryd.prog 14 #[.agg x.cs] w fun e w' => e = .returned (.int .i64 111) ∧ Below w.heap.size w w' := by
  have HJ0 : Aside0 (RfK w x _) := ⟨RfK.start hC⟩
  clear hC
  have H0 := Aside0.mk (RfK.on (w0 := w) (x := x) fun w1 _ => gridironref11_corner.calls x.r x.q x.u x.v _ w1 (rcorner_is _ _ _ _))
  have H1 := Aside0.mk (RfK.on (w0 := w) (x := x) fun w1 _ => gridironref11_corner.calls x.r2 x.q2 x.u2 x.v2 _ w1 (rcorner_is _ _ _ _))
  have H2 := Aside0.mk (RfK.on (w0 := w) (x := x) fun w1 h => rsheet_calls x.s w1 h (by unfold maxLen; omega))
  have H3 := Aside0.mk (RfK.on (w0 := w) (x := x) fun w1 h => rsheet_calls x.t w1 h (by unfold maxLen; omega))
  obtain ⟨c0, c1, c2, c3, c4, c5, c6, c7, c8, c9, c10, c11⟩ := rfc HJ0.out.box
  have e1 := toList_none g1
  have e2 := toList_none g2
  clear g1 g2
  obtain ⟨s, t, f, e, r, q, u, v, r2, q2, u2, v2⟩ := x
  simp only [] at *
  subst hf
  go_enter Tryd.func14, Tryd.ntmps14
  go_wp2_with (first
    | (go_at_call 37; first | ((with_reducible refine (H0.out _ (by assumption)).mono ?_); rintro e w2 ⟨rfl, hb2⟩; obtain ⟨c0, c1, c2, c3, c4, c5, c6, c7, c8, c9, c10, c11⟩ := rfc hb2.out.box) | ((with_reducible refine (H1.out _ (by assumption)).mono ?_); rintro e w2 ⟨rfl, hb2⟩; obtain ⟨c0, c1, c2, c3, c4, c5, c6, c7, c8, c9, c10, c11⟩ := rfc hb2.out.box))
    | (go_at_call 36; first | ((with_reducible refine (H2.out _ (by assumption)).mono ?_); rintro e w2 ⟨rfl, hb2⟩; obtain ⟨c0, c1, c2, c3, c4, c5, c6, c7, c8, c9, c10, c11⟩ := rfc hb2.out.box) | ((with_reducible refine (H3.out _ (by assumption)).mono ?_); rintro e w2 ⟨rfl, hb2⟩; obtain ⟨c0, c1, c2, c3, c4, c5, c6, c7, c8, c9, c10, c11⟩ := rfc hb2.out.box)))
  go_ret
  exact ⟨rfl, RfK.below (Aside0.out (by assumption))⟩
set_option maxRecDepth 100000 in
set_option maxHeartbeats 8000000 in
theorem rrc_M1a (x : Rf) (w : World) (hC : ChW w) (hs : x.s.size ≤ 140737488351232) (ht : x.t.size ≤ 140737488351232) (g1 : x.s.size = 0) (g2 : x.t.size = 0) (hf : x.f = false) (k1 : corB x.r x.q = false) : Calls Tryd.prog 14 #[.agg x.cs] w fun e w' => e = .returned (.int .i64 110) ∧ Below w.heap.size w w' := by
  have HJ0 : Aside0 (RfK w x _) := ⟨RfK.start hC⟩
  clear hC
  have H0 := Aside0.mk (RfK.on (w0 := w) (x := x) fun w1 _ => gridironref11_corner.calls x.r x.q x.u x.v _ w1 (rcorner_is _ _ _ _))
  have H1 := Aside0.mk (RfK.on (w0 := w) (x := x) fun w1 _ => gridironref11_corner.calls x.r2 x.q2 x.u2 x.v2 _ w1 (rcorner_is _ _ _ _))
  have H2 := Aside0.mk (RfK.on (w0 := w) (x := x) fun w1 h => rsheet_calls x.s w1 h (by unfold maxLen; omega))
  have H3 := Aside0.mk (RfK.on (w0 := w) (x := x) fun w1 h => rsheet_calls x.t w1 h (by unfold maxLen; omega))
  obtain ⟨c0, c1, c2, c3, c4, c5, c6, c7, c8, c9, c10, c11⟩ := rfc HJ0.out.box
  have e1 := toList_none g1
  have e2 := toList_none g2
  rw [k1] at H0
  clear g1 g2 k1
  obtain ⟨s, t, f, e, r, q, u, v, r2, q2, u2, v2⟩ := x
  simp only [] at *
  subst hf
  go_enter Tryd.func14, Tryd.ntmps14
  go_wp2_with (first
    | (go_at_call 37; first | ((with_reducible refine (H0.out _ (by assumption)).mono ?_); rintro e w2 ⟨rfl, hb2⟩; obtain ⟨c0, c1, c2, c3, c4, c5, c6, c7, c8, c9, c10, c11⟩ := rfc hb2.out.box) | ((with_reducible refine (H1.out _ (by assumption)).mono ?_); rintro e w2 ⟨rfl, hb2⟩; obtain ⟨c0, c1, c2, c3, c4, c5, c6, c7, c8, c9, c10, c11⟩ := rfc hb2.out.box))
    | (go_at_call 36; first | ((with_reducible refine (H2.out _ (by assumption)).mono ?_); rintro e w2 ⟨rfl, hb2⟩; obtain ⟨c0, c1, c2, c3, c4, c5, c6, c7, c8, c9, c10, c11⟩ := rfc hb2.out.box) | ((with_reducible refine (H3.out _ (by assumption)).mono ?_); rintro e w2 ⟨rfl, hb2⟩; obtain ⟨c0, c1, c2, c3, c4, c5, c6, c7, c8, c9, c10, c11⟩ := rfc hb2.out.box)))
  go_ret
  exact ⟨rfl, RfK.below (Aside0.out (by assumption))⟩
set_option maxRecDepth 100000 in
set_option maxHeartbeats 8000000 in
theorem rrc_M2a (x : Rf) (w : World) (hC : ChW w) (hs : x.s.size ≤ 140737488351232) (ht : x.t.size ≤ 140737488351232) (g1 : x.s.size = 0) (g2 : x.t.size = 0) (hf : x.f = false) (k1 : corB x.r x.q = true) (he : x.e = true) (k2 : corB x.r2 x.q2 = false) : Calls Tryd.prog 14 #[.agg x.cs] w fun e w' => e = .returned (.int .i64 110) ∧ Below w.heap.size w w' := by
  have HJ0 : Aside0 (RfK w x _) := ⟨RfK.start hC⟩
  clear hC
  have H0 := Aside0.mk (RfK.on (w0 := w) (x := x) fun w1 _ => gridironref11_corner.calls x.r x.q x.u x.v _ w1 (rcorner_is _ _ _ _))
  have H1 := Aside0.mk (RfK.on (w0 := w) (x := x) fun w1 _ => gridironref11_corner.calls x.r2 x.q2 x.u2 x.v2 _ w1 (rcorner_is _ _ _ _))
  have H2 := Aside0.mk (RfK.on (w0 := w) (x := x) fun w1 h => rsheet_calls x.s w1 h (by unfold maxLen; omega))
  have H3 := Aside0.mk (RfK.on (w0 := w) (x := x) fun w1 h => rsheet_calls x.t w1 h (by unfold maxLen; omega))
  obtain ⟨c0, c1, c2, c3, c4, c5, c6, c7, c8, c9, c10, c11⟩ := rfc HJ0.out.box
  have e1 := toList_none g1
  have e2 := toList_none g2
  rw [k1] at H0
  rw [k2] at H1
  clear g1 g2 k1 k2
  obtain ⟨s, t, f, e, r, q, u, v, r2, q2, u2, v2⟩ := x
  simp only [] at *
  subst hf he
  go_enter Tryd.func14, Tryd.ntmps14
  go_wp2_with (first
    | (go_at_call 37; first | ((with_reducible refine (H0.out _ (by assumption)).mono ?_); rintro e w2 ⟨rfl, hb2⟩; obtain ⟨c0, c1, c2, c3, c4, c5, c6, c7, c8, c9, c10, c11⟩ := rfc hb2.out.box) | ((with_reducible refine (H1.out _ (by assumption)).mono ?_); rintro e w2 ⟨rfl, hb2⟩; obtain ⟨c0, c1, c2, c3, c4, c5, c6, c7, c8, c9, c10, c11⟩ := rfc hb2.out.box))
    | (go_at_call 36; first | ((with_reducible refine (H2.out _ (by assumption)).mono ?_); rintro e w2 ⟨rfl, hb2⟩; obtain ⟨c0, c1, c2, c3, c4, c5, c6, c7, c8, c9, c10, c11⟩ := rfc hb2.out.box) | ((with_reducible refine (H3.out _ (by assumption)).mono ?_); rintro e w2 ⟨rfl, hb2⟩; obtain ⟨c0, c1, c2, c3, c4, c5, c6, c7, c8, c9, c10, c11⟩ := rfc hb2.out.box)))
  go_ret
  exact ⟨rfl, RfK.below (Aside0.out (by assumption))⟩
set_option maxRecDepth 100000 in
set_option maxHeartbeats 8000000 in
theorem rrc_M3a (x : Rf) (w : World) (hC : ChW w) (hs : x.s.size ≤ 140737488351232) (ht : x.t.size ≤ 140737488351232) (g1 : x.s.size = 0) (g2 : x.t.size = 0) (hf : x.f = false) (k1 : corB x.r x.q = true) (he : x.e = false) (hb : ¬ (x.r2 = 0 ∧ x.q2 = 0 ∧ x.u2 = false ∧ x.v2 = false)) : Calls Tryd.prog 14 #[.agg x.cs] w fun e w' => e = .returned (.int .i64 110) ∧ Below w.heap.size w w' := by
  have HJ0 : Aside0 (RfK w x _) := ⟨RfK.start hC⟩
  clear hC
  have H0 := Aside0.mk (RfK.on (w0 := w) (x := x) fun w1 _ => gridironref11_corner.calls x.r x.q x.u x.v _ w1 (rcorner_is _ _ _ _))
  have H1 := Aside0.mk (RfK.on (w0 := w) (x := x) fun w1 _ => gridironref11_corner.calls x.r2 x.q2 x.u2 x.v2 _ w1 (rcorner_is _ _ _ _))
  have H2 := Aside0.mk (RfK.on (w0 := w) (x := x) fun w1 h => rsheet_calls x.s w1 h (by unfold maxLen; omega))
  have H3 := Aside0.mk (RfK.on (w0 := w) (x := x) fun w1 h => rsheet_calls x.t w1 h (by unfold maxLen; omega))
  obtain ⟨c0, c1, c2, c3, c4, c5, c6, c7, c8, c9, c10, c11⟩ := rfc HJ0.out.box
  have e1 := toList_none g1
  have e2 := toList_none g2
  rw [k1] at H0
  have HB := Aside0.mk hb
  clear g1 g2 k1 hb
  obtain ⟨s, t, f, e, r, q, u, v, r2, q2, u2, v2⟩ := x
  simp only [] at *
  subst hf he
  go_enter Tryd.func14, Tryd.ntmps14
  go_wp2_with (first
    | (go_at_call 37; first | ((with_reducible refine (H0.out _ (by assumption)).mono ?_); rintro e w2 ⟨rfl, hb2⟩; obtain ⟨c0, c1, c2, c3, c4, c5, c6, c7, c8, c9, c10, c11⟩ := rfc hb2.out.box) | ((with_reducible refine (H1.out _ (by assumption)).mono ?_); rintro e w2 ⟨rfl, hb2⟩; obtain ⟨c0, c1, c2, c3, c4, c5, c6, c7, c8, c9, c10, c11⟩ := rfc hb2.out.box))
    | (go_at_call 36; first | ((with_reducible refine (H2.out _ (by assumption)).mono ?_); rintro e w2 ⟨rfl, hb2⟩; obtain ⟨c0, c1, c2, c3, c4, c5, c6, c7, c8, c9, c10, c11⟩ := rfc hb2.out.box) | ((with_reducible refine (H3.out _ (by assumption)).mono ?_); rintro e w2 ⟨rfl, hb2⟩; obtain ⟨c0, c1, c2, c3, c4, c5, c6, c7, c8, c9, c10, c11⟩ := rfc hb2.out.box)))
  all_goals first | (go_ret; exact ⟨rfl, RfK.below (Aside0.out (by assumption))⟩) | (exfalso; apply HB.out; simp_all; done)
set_option maxRecDepth 100000 in
set_option maxHeartbeats 8000000 in
theorem rrc_M1b (x : Rf) (w : World) (hC : ChW w) (hs : x.s.size ≤ 140737488351232) (ht : x.t.size ≤ 140737488351232) (g1 : 0 < x.s.size) (n1 : nmOK x.s = true) (g2 : x.t.size = 0) (k1 : corB x.r x.q = false) : Calls Tryd.prog 14 #[.agg x.cs] w fun e w' => e = .returned (.int .i64 110) ∧ Below w.heap.size w w' := by
  have HJ0 : Aside0 (RfK w x _) := ⟨RfK.start hC⟩
  clear hC
  have H0 := Aside0.mk (RfK.on (w0 := w) (x := x) fun w1 _ => gridironref11_corner.calls x.r x.q x.u x.v _ w1 (rcorner_is _ _ _ _))
  have H1 := Aside0.mk (RfK.on (w0 := w) (x := x) fun w1 _ => gridironref11_corner.calls x.r2 x.q2 x.u2 x.v2 _ w1 (rcorner_is _ _ _ _))
  have H2 := Aside0.mk (RfK.on (w0 := w) (x := x) fun w1 h => rsheet_calls x.s w1 h (by unfold maxLen; omega))
  have H3 := Aside0.mk (RfK.on (w0 := w) (x := x) fun w1 h => rsheet_calls x.t w1 h (by unfold maxLen; omega))
  obtain ⟨c0, c1, c2, c3, c4, c5, c6, c7, c8, c9, c10, c11⟩ := rfc HJ0.out.box
  have e1 := toList_some g1
  rw [n1] at H2
  have e2 := toList_none g2
  rw [k1] at H0
  clear g1 n1 g2 k1
  obtain ⟨s, t, f, e, r, q, u, v, r2, q2, u2, v2⟩ := x
  simp only [] at *
  go_enter Tryd.func14, Tryd.ntmps14
  go_wp2_with (first
    | (go_at_call 37; first | ((with_reducible refine (H0.out _ (by assumption)).mono ?_); rintro e w2 ⟨rfl, hb2⟩; obtain ⟨c0, c1, c2, c3, c4, c5, c6, c7, c8, c9, c10, c11⟩ := rfc hb2.out.box) | ((with_reducible refine (H1.out _ (by assumption)).mono ?_); rintro e w2 ⟨rfl, hb2⟩; obtain ⟨c0, c1, c2, c3, c4, c5, c6, c7, c8, c9, c10, c11⟩ := rfc hb2.out.box))
    | (go_at_call 36; first | ((with_reducible refine (H2.out _ (by assumption)).mono ?_); rintro e w2 ⟨rfl, hb2⟩; obtain ⟨c0, c1, c2, c3, c4, c5, c6, c7, c8, c9, c10, c11⟩ := rfc hb2.out.box) | ((with_reducible refine (H3.out _ (by assumption)).mono ?_); rintro e w2 ⟨rfl, hb2⟩; obtain ⟨c0, c1, c2, c3, c4, c5, c6, c7, c8, c9, c10, c11⟩ := rfc hb2.out.box)))
  go_ret
  exact ⟨rfl, RfK.below (Aside0.out (by assumption))⟩
set_option maxRecDepth 100000 in
set_option maxHeartbeats 8000000 in
theorem rrc_M2b (x : Rf) (w : World) (hC : ChW w) (hs : x.s.size ≤ 140737488351232) (ht : x.t.size ≤ 140737488351232) (g1 : 0 < x.s.size) (n1 : nmOK x.s = true) (g2 : x.t.size = 0) (k1 : corB x.r x.q = true) (he : x.e = true) (k2 : corB x.r2 x.q2 = false) : Calls Tryd.prog 14 #[.agg x.cs] w fun e w' => e = .returned (.int .i64 110) ∧ Below w.heap.size w w' := by
  have HJ0 : Aside0 (RfK w x _) := ⟨RfK.start hC⟩
  clear hC
  have H0 := Aside0.mk (RfK.on (w0 := w) (x := x) fun w1 _ => gridironref11_corner.calls x.r x.q x.u x.v _ w1 (rcorner_is _ _ _ _))
  have H1 := Aside0.mk (RfK.on (w0 := w) (x := x) fun w1 _ => gridironref11_corner.calls x.r2 x.q2 x.u2 x.v2 _ w1 (rcorner_is _ _ _ _))
  have H2 := Aside0.mk (RfK.on (w0 := w) (x := x) fun w1 h => rsheet_calls x.s w1 h (by unfold maxLen; omega))
  have H3 := Aside0.mk (RfK.on (w0 := w) (x := x) fun w1 h => rsheet_calls x.t w1 h (by unfold maxLen; omega))
  obtain ⟨c0, c1, c2, c3, c4, c5, c6, c7, c8, c9, c10, c11⟩ := rfc HJ0.out.box
  have e1 := toList_some g1
  rw [n1] at H2
  have e2 := toList_none g2
  rw [k1] at H0
  rw [k2] at H1
  clear g1 n1 g2 k1 k2
  obtain ⟨s, t, f, e, r, q, u, v, r2, q2, u2, v2⟩ := x
  simp only [] at *
  subst he
  go_enter Tryd.func14, Tryd.ntmps14
  go_wp2_with (first
    | (go_at_call 37; first | ((with_reducible refine (H0.out _ (by assumption)).mono ?_); rintro e w2 ⟨rfl, hb2⟩; obtain ⟨c0, c1, c2, c3, c4, c5, c6, c7, c8, c9, c10, c11⟩ := rfc hb2.out.box) | ((with_reducible refine (H1.out _ (by assumption)).mono ?_); rintro e w2 ⟨rfl, hb2⟩; obtain ⟨c0, c1, c2, c3, c4, c5, c6, c7, c8, c9, c10, c11⟩ := rfc hb2.out.box))
    | (go_at_call 36; first | ((with_reducible refine (H2.out _ (by assumption)).mono ?_); rintro e w2 ⟨rfl, hb2⟩; obtain ⟨c0, c1, c2, c3, c4, c5, c6, c7, c8, c9, c10, c11⟩ := rfc hb2.out.box) | ((with_reducible refine (H3.out _ (by assumption)).mono ?_); rintro e w2 ⟨rfl, hb2⟩; obtain ⟨c0, c1, c2, c3, c4, c5, c6, c7, c8, c9, c10, c11⟩ := rfc hb2.out.box)))
  go_ret
  exact ⟨rfl, RfK.below (Aside0.out (by assumption))⟩
set_option maxRecDepth 100000 in
set_option maxHeartbeats 8000000 in
theorem rrc_M3b (x : Rf) (w : World) (hC : ChW w) (hs : x.s.size ≤ 140737488351232) (ht : x.t.size ≤ 140737488351232) (g1 : 0 < x.s.size) (n1 : nmOK x.s = true) (g2 : x.t.size = 0) (k1 : corB x.r x.q = true) (he : x.e = false) (hb : ¬ (x.r2 = 0 ∧ x.q2 = 0 ∧ x.u2 = false ∧ x.v2 = false)) : Calls Tryd.prog 14 #[.agg x.cs] w fun e w' => e = .returned (.int .i64 110) ∧ Below w.heap.size w w' := by
  have HJ0 : Aside0 (RfK w x _) := ⟨RfK.start hC⟩
  clear hC
  have H0 := Aside0.mk (RfK.on (w0 := w) (x := x) fun w1 _ => gridironref11_corner.calls x.r x.q x.u x.v _ w1 (rcorner_is _ _ _ _))
  have H1 := Aside0.mk (RfK.on (w0 := w) (x := x) fun w1 _ => gridironref11_corner.calls x.r2 x.q2 x.u2 x.v2 _ w1 (rcorner_is _ _ _ _))
  have H2 := Aside0.mk (RfK.on (w0 := w) (x := x) fun w1 h => rsheet_calls x.s w1 h (by unfold maxLen; omega))
  have H3 := Aside0.mk (RfK.on (w0 := w) (x := x) fun w1 h => rsheet_calls x.t w1 h (by unfold maxLen; omega))
  obtain ⟨c0, c1, c2, c3, c4, c5, c6, c7, c8, c9, c10, c11⟩ := rfc HJ0.out.box
  have e1 := toList_some g1
  rw [n1] at H2
  have e2 := toList_none g2
  rw [k1] at H0
  have HB := Aside0.mk hb
  clear g1 n1 g2 k1 hb
  obtain ⟨s, t, f, e, r, q, u, v, r2, q2, u2, v2⟩ := x
  simp only [] at *
  subst he
  go_enter Tryd.func14, Tryd.ntmps14
  go_wp2_with (first
    | (go_at_call 37; first | ((with_reducible refine (H0.out _ (by assumption)).mono ?_); rintro e w2 ⟨rfl, hb2⟩; obtain ⟨c0, c1, c2, c3, c4, c5, c6, c7, c8, c9, c10, c11⟩ := rfc hb2.out.box) | ((with_reducible refine (H1.out _ (by assumption)).mono ?_); rintro e w2 ⟨rfl, hb2⟩; obtain ⟨c0, c1, c2, c3, c4, c5, c6, c7, c8, c9, c10, c11⟩ := rfc hb2.out.box))
    | (go_at_call 36; first | ((with_reducible refine (H2.out _ (by assumption)).mono ?_); rintro e w2 ⟨rfl, hb2⟩; obtain ⟨c0, c1, c2, c3, c4, c5, c6, c7, c8, c9, c10, c11⟩ := rfc hb2.out.box) | ((with_reducible refine (H3.out _ (by assumption)).mono ?_); rintro e w2 ⟨rfl, hb2⟩; obtain ⟨c0, c1, c2, c3, c4, c5, c6, c7, c8, c9, c10, c11⟩ := rfc hb2.out.box)))
  all_goals first | (go_ret; exact ⟨rfl, RfK.below (Aside0.out (by assumption))⟩) | (exfalso; apply HB.out; simp_all; done)
set_option maxRecDepth 100000 in
set_option maxHeartbeats 8000000 in
theorem rrc_M1c (x : Rf) (w : World) (hC : ChW w) (hs : x.s.size ≤ 140737488351232) (ht : x.t.size ≤ 140737488351232) (g1 : 0 < x.s.size) (n1 : nmOK x.s = true) (g2 : 0 < x.t.size) (n2 : nmOK x.t = true) (k1 : corB x.r x.q = false) : Calls Tryd.prog 14 #[.agg x.cs] w fun e w' => e = .returned (.int .i64 110) ∧ Below w.heap.size w w' := by
  have HJ0 : Aside0 (RfK w x _) := ⟨RfK.start hC⟩
  clear hC
  have H0 := Aside0.mk (RfK.on (w0 := w) (x := x) fun w1 _ => gridironref11_corner.calls x.r x.q x.u x.v _ w1 (rcorner_is _ _ _ _))
  have H1 := Aside0.mk (RfK.on (w0 := w) (x := x) fun w1 _ => gridironref11_corner.calls x.r2 x.q2 x.u2 x.v2 _ w1 (rcorner_is _ _ _ _))
  have H2 := Aside0.mk (RfK.on (w0 := w) (x := x) fun w1 h => rsheet_calls x.s w1 h (by unfold maxLen; omega))
  have H3 := Aside0.mk (RfK.on (w0 := w) (x := x) fun w1 h => rsheet_calls x.t w1 h (by unfold maxLen; omega))
  obtain ⟨c0, c1, c2, c3, c4, c5, c6, c7, c8, c9, c10, c11⟩ := rfc HJ0.out.box
  have e1 := toList_some g1
  rw [n1] at H2
  have e2 := toList_some g2
  rw [n2] at H3
  rw [k1] at H0
  clear g1 n1 g2 n2 k1
  obtain ⟨s, t, f, e, r, q, u, v, r2, q2, u2, v2⟩ := x
  simp only [] at *
  go_enter Tryd.func14, Tryd.ntmps14
  go_wp2_with (first
    | (go_at_call 37; first | ((with_reducible refine (H0.out _ (by assumption)).mono ?_); rintro e w2 ⟨rfl, hb2⟩; obtain ⟨c0, c1, c2, c3, c4, c5, c6, c7, c8, c9, c10, c11⟩ := rfc hb2.out.box) | ((with_reducible refine (H1.out _ (by assumption)).mono ?_); rintro e w2 ⟨rfl, hb2⟩; obtain ⟨c0, c1, c2, c3, c4, c5, c6, c7, c8, c9, c10, c11⟩ := rfc hb2.out.box))
    | (go_at_call 36; first | ((with_reducible refine (H2.out _ (by assumption)).mono ?_); rintro e w2 ⟨rfl, hb2⟩; obtain ⟨c0, c1, c2, c3, c4, c5, c6, c7, c8, c9, c10, c11⟩ := rfc hb2.out.box) | ((with_reducible refine (H3.out _ (by assumption)).mono ?_); rintro e w2 ⟨rfl, hb2⟩; obtain ⟨c0, c1, c2, c3, c4, c5, c6, c7, c8, c9, c10, c11⟩ := rfc hb2.out.box)))
  go_ret
  exact ⟨rfl, RfK.below (Aside0.out (by assumption))⟩
set_option maxRecDepth 100000 in
set_option maxHeartbeats 8000000 in
theorem rrc_M2c (x : Rf) (w : World) (hC : ChW w) (hs : x.s.size ≤ 140737488351232) (ht : x.t.size ≤ 140737488351232) (g1 : 0 < x.s.size) (n1 : nmOK x.s = true) (g2 : 0 < x.t.size) (n2 : nmOK x.t = true) (k1 : corB x.r x.q = true) (he : x.e = true) (k2 : corB x.r2 x.q2 = false) : Calls Tryd.prog 14 #[.agg x.cs] w fun e w' => e = .returned (.int .i64 110) ∧ Below w.heap.size w w' := by
  have HJ0 : Aside0 (RfK w x _) := ⟨RfK.start hC⟩
  clear hC
  have H0 := Aside0.mk (RfK.on (w0 := w) (x := x) fun w1 _ => gridironref11_corner.calls x.r x.q x.u x.v _ w1 (rcorner_is _ _ _ _))
  have H1 := Aside0.mk (RfK.on (w0 := w) (x := x) fun w1 _ => gridironref11_corner.calls x.r2 x.q2 x.u2 x.v2 _ w1 (rcorner_is _ _ _ _))
  have H2 := Aside0.mk (RfK.on (w0 := w) (x := x) fun w1 h => rsheet_calls x.s w1 h (by unfold maxLen; omega))
  have H3 := Aside0.mk (RfK.on (w0 := w) (x := x) fun w1 h => rsheet_calls x.t w1 h (by unfold maxLen; omega))
  obtain ⟨c0, c1, c2, c3, c4, c5, c6, c7, c8, c9, c10, c11⟩ := rfc HJ0.out.box
  have e1 := toList_some g1
  rw [n1] at H2
  have e2 := toList_some g2
  rw [n2] at H3
  rw [k1] at H0
  rw [k2] at H1
  clear g1 n1 g2 n2 k1 k2
  obtain ⟨s, t, f, e, r, q, u, v, r2, q2, u2, v2⟩ := x
  simp only [] at *
  subst he
  go_enter Tryd.func14, Tryd.ntmps14
  go_wp2_with (first
    | (go_at_call 37; first | ((with_reducible refine (H0.out _ (by assumption)).mono ?_); rintro e w2 ⟨rfl, hb2⟩; obtain ⟨c0, c1, c2, c3, c4, c5, c6, c7, c8, c9, c10, c11⟩ := rfc hb2.out.box) | ((with_reducible refine (H1.out _ (by assumption)).mono ?_); rintro e w2 ⟨rfl, hb2⟩; obtain ⟨c0, c1, c2, c3, c4, c5, c6, c7, c8, c9, c10, c11⟩ := rfc hb2.out.box))
    | (go_at_call 36; first | ((with_reducible refine (H2.out _ (by assumption)).mono ?_); rintro e w2 ⟨rfl, hb2⟩; obtain ⟨c0, c1, c2, c3, c4, c5, c6, c7, c8, c9, c10, c11⟩ := rfc hb2.out.box) | ((with_reducible refine (H3.out _ (by assumption)).mono ?_); rintro e w2 ⟨rfl, hb2⟩; obtain ⟨c0, c1, c2, c3, c4, c5, c6, c7, c8, c9, c10, c11⟩ := rfc hb2.out.box)))
  go_ret
  exact ⟨rfl, RfK.below (Aside0.out (by assumption))⟩
set_option maxRecDepth 100000 in
set_option maxHeartbeats 8000000 in
theorem rrc_M3c (x : Rf) (w : World) (hC : ChW w) (hs : x.s.size ≤ 140737488351232) (ht : x.t.size ≤ 140737488351232) (g1 : 0 < x.s.size) (n1 : nmOK x.s = true) (g2 : 0 < x.t.size) (n2 : nmOK x.t = true) (k1 : corB x.r x.q = true) (he : x.e = false) (hb : ¬ (x.r2 = 0 ∧ x.q2 = 0 ∧ x.u2 = false ∧ x.v2 = false)) : Calls Tryd.prog 14 #[.agg x.cs] w fun e w' => e = .returned (.int .i64 110) ∧ Below w.heap.size w w' := by
  have HJ0 : Aside0 (RfK w x _) := ⟨RfK.start hC⟩
  clear hC
  have H0 := Aside0.mk (RfK.on (w0 := w) (x := x) fun w1 _ => gridironref11_corner.calls x.r x.q x.u x.v _ w1 (rcorner_is _ _ _ _))
  have H1 := Aside0.mk (RfK.on (w0 := w) (x := x) fun w1 _ => gridironref11_corner.calls x.r2 x.q2 x.u2 x.v2 _ w1 (rcorner_is _ _ _ _))
  have H2 := Aside0.mk (RfK.on (w0 := w) (x := x) fun w1 h => rsheet_calls x.s w1 h (by unfold maxLen; omega))
  have H3 := Aside0.mk (RfK.on (w0 := w) (x := x) fun w1 h => rsheet_calls x.t w1 h (by unfold maxLen; omega))
  obtain ⟨c0, c1, c2, c3, c4, c5, c6, c7, c8, c9, c10, c11⟩ := rfc HJ0.out.box
  have e1 := toList_some g1
  rw [n1] at H2
  have e2 := toList_some g2
  rw [n2] at H3
  rw [k1] at H0
  have HB := Aside0.mk hb
  clear g1 n1 g2 n2 k1 hb
  obtain ⟨s, t, f, e, r, q, u, v, r2, q2, u2, v2⟩ := x
  simp only [] at *
  subst he
  go_enter Tryd.func14, Tryd.ntmps14
  go_wp2_with (first
    | (go_at_call 37; first | ((with_reducible refine (H0.out _ (by assumption)).mono ?_); rintro e w2 ⟨rfl, hb2⟩; obtain ⟨c0, c1, c2, c3, c4, c5, c6, c7, c8, c9, c10, c11⟩ := rfc hb2.out.box) | ((with_reducible refine (H1.out _ (by assumption)).mono ?_); rintro e w2 ⟨rfl, hb2⟩; obtain ⟨c0, c1, c2, c3, c4, c5, c6, c7, c8, c9, c10, c11⟩ := rfc hb2.out.box))
    | (go_at_call 36; first | ((with_reducible refine (H2.out _ (by assumption)).mono ?_); rintro e w2 ⟨rfl, hb2⟩; obtain ⟨c0, c1, c2, c3, c4, c5, c6, c7, c8, c9, c10, c11⟩ := rfc hb2.out.box) | ((with_reducible refine (H3.out _ (by assumption)).mono ?_); rintro e w2 ⟨rfl, hb2⟩; obtain ⟨c0, c1, c2, c3, c4, c5, c6, c7, c8, c9, c10, c11⟩ := rfc hb2.out.box)))
  all_goals first | (go_ret; exact ⟨rfl, RfK.below (Aside0.out (by assumption))⟩) | (exfalso; apply HB.out; simp_all; done)
set_option maxRecDepth 100000 in
set_option maxHeartbeats 8000000 in
theorem rrc_M4c (x : Rf) (w : World) (hC : ChW w) (hs : x.s.size ≤ 140737488351232) (ht : x.t.size ≤ 140737488351232) (g1 : 0 < x.s.size) (n1 : nmOK x.s = true) (g2 : 0 < x.t.size) (n2 : nmOK x.t = true) (k1 : corB x.r x.q = true) (he : x.e = false) (b1 : x.r2 = 0) (b2 : x.q2 = 0) (b3 : x.u2 = false) (b4 : x.v2 = false) : Calls Tryd.prog 14 #[.agg x.cs] w fun e w' => e = .returned (.int .i64 110) ∧ Below w.heap.size w w' := by
  have HJ0 : Aside0 (RfK w x _) := ⟨RfK.start hC⟩
  clear hC
  have H0 := Aside0.mk (RfK.on (w0 := w) (x := x) fun w1 _ => gridironref11_corner.calls x.r x.q x.u x.v _ w1 (rcorner_is _ _ _ _))
  have H1 := Aside0.mk (RfK.on (w0 := w) (x := x) fun w1 _ => gridironref11_corner.calls x.r2 x.q2 x.u2 x.v2 _ w1 (rcorner_is _ _ _ _))
  have H2 := Aside0.mk (RfK.on (w0 := w) (x := x) fun w1 h => rsheet_calls x.s w1 h (by unfold maxLen; omega))
  have H3 := Aside0.mk (RfK.on (w0 := w) (x := x) fun w1 h => rsheet_calls x.t w1 h (by unfold maxLen; omega))
  obtain ⟨c0, c1, c2, c3, c4, c5, c6, c7, c8, c9, c10, c11⟩ := rfc HJ0.out.box
  have e1 := toList_some g1
  rw [n1] at H2
  have e2 := toList_some g2
  rw [n2] at H3
  rw [k1] at H0
  clear g1 n1 g2 n2 k1
  obtain ⟨s, t, f, e, r, q, u, v, r2, q2, u2, v2⟩ := x
  simp only [] at *
  subst he b1 b2 b3 b4
  go_enter Tryd.func14, Tryd.ntmps14
  go_wp2_with (first
    | (go_at_call 37; first | ((with_reducible refine (H0.out _ (by assumption)).mono ?_); rintro e w2 ⟨rfl, hb2⟩; obtain ⟨c0, c1, c2, c3, c4, c5, c6, c7, c8, c9, c10, c11⟩ := rfc hb2.out.box) | ((with_reducible refine (H1.out _ (by assumption)).mono ?_); rintro e w2 ⟨rfl, hb2⟩; obtain ⟨c0, c1, c2, c3, c4, c5, c6, c7, c8, c9, c10, c11⟩ := rfc hb2.out.box))
    | (go_at_call 36; first | ((with_reducible refine (H2.out _ (by assumption)).mono ?_); rintro e w2 ⟨rfl, hb2⟩; obtain ⟨c0, c1, c2, c3, c4, c5, c6, c7, c8, c9, c10, c11⟩ := rfc hb2.out.box) | ((with_reducible refine (H3.out _ (by assumption)).mono ?_); rintro e w2 ⟨rfl, hb2⟩; obtain ⟨c0, c1, c2, c3, c4, c5, c6, c7, c8, c9, c10, c11⟩ := rfc hb2.out.box)))
  go_ret
  exact ⟨rfl, RfK.below (Aside0.out (by assumption))⟩
/-- The document's Check, of a reference that may not be. -/
theorem rrcheck_bad (x : Rf) (w : World) (hC : ChW w) (hs : x.s.size ≤ 140737488351232) (ht : x.t.size ≤ 140737488351232) (hx : ¬ okR x) : Calls Tryd.prog 14 #[.agg x.cs] w fun e w' => ∃ v : Int, ¬ v = 0 ∧ e = .returned (.int .i64 v) ∧ Below w.heap.size w w' := by
  have k1 : ∀ {v : Int}, ¬ v = 0 → (Calls Tryd.prog 14 #[.agg x.cs] w fun e w' => e = .returned (.int .i64 v) ∧ Below w.heap.size w w') → Calls Tryd.prog 14 #[.agg x.cs] w fun e w' => ∃ v : Int, ¬ v = 0 ∧ e = .returned (.int .i64 v) ∧ Below w.heap.size w w' :=
    fun hv h => h.mono fun e w' h => ⟨_, hv, h⟩
  by_cases g1 : 0 < x.s.size
  · cases n1 : nmOK x.s with
    | false => exact k1 (by decide) (rrc_L1 x w hC hs ht g1 n1)
    | true =>
      by_cases g2 : 0 < x.t.size
      · cases n2 : nmOK x.t with
        | false => exact k1 (by decide) (rrc_L2 x w hC hs ht g1 n1 g2 n2)
        | true =>
          cases c1 : corB x.r x.q with
          | false => exact k1 (by decide) (rrc_M1c x w hC hs ht g1 n1 g2 n2 c1)
          | true =>
            cases he : x.e with
            | true =>
              cases c2 : corB x.r2 x.q2 with
              | false => exact k1 (by decide) (rrc_M2c x w hC hs ht g1 n1 g2 n2 c1 he c2)
              | true => exact absurd ⟨fun _ => n1, fun _ => n2, fun h => by omega, c1, fun _ => c2, fun h => (by rw [he] at h; cases h)⟩ hx
            | false =>
              by_cases hb : x.r2 = 0 ∧ x.q2 = 0 ∧ x.u2 = false ∧ x.v2 = false
              · exact k1 (by decide) (rrc_M4c x w hC hs ht g1 n1 g2 n2 c1 he hb.1 hb.2.1 hb.2.2.1 hb.2.2.2)
              · exact k1 (by decide) (rrc_M3c x w hC hs ht g1 n1 g2 n2 c1 he hb)
      · have g2' : x.t.size = 0 := by omega
        cases c1 : corB x.r x.q with
        | false => exact k1 (by decide) (rrc_M1b x w hC hs ht g1 n1 g2' c1)
        | true =>
          cases he : x.e with
          | true =>
            cases c2 : corB x.r2 x.q2 with
            | false => exact k1 (by decide) (rrc_M2b x w hC hs ht g1 n1 g2' c1 he c2)
            | true => exact absurd ⟨fun _ => n1, fun h => by omega, fun h => by omega, c1, fun _ => c2, fun h => (by rw [he] at h; cases h)⟩ hx
          | false =>
            by_cases hb : x.r2 = 0 ∧ x.q2 = 0 ∧ x.u2 = false ∧ x.v2 = false
            · exact absurd ⟨fun _ => n1, fun h => by omega, fun h => by omega, c1, fun h => (by rw [he] at h; cases h), fun _ => ⟨hb.1, hb.2.1, hb.2.2.1, hb.2.2.2, g2'⟩⟩ hx
            · exact k1 (by decide) (rrc_M3b x w hC hs ht g1 n1 g2' c1 he hb)
  · have g1' : x.s.size = 0 := by omega
    by_cases g2 : 0 < x.t.size
    · cases n2 : nmOK x.t with
      | false => exact k1 (by decide) (rrc_L3 x w hC hs ht g1' g2 n2)
      | true => exact k1 (by decide) (rrc_L4 x w hC hs ht g1' g2 n2)
    · have g2' : x.t.size = 0 := by omega
      cases hf : x.f with
      | true => exact k1 (by decide) (rrc_L5 x w hC hs ht g1' g2' hf)
      | false =>
        cases c1 : corB x.r x.q with
        | false => exact k1 (by decide) (rrc_M1a x w hC hs ht g1' g2' hf c1)
        | true =>
          cases he : x.e with
          | true =>
            cases c2 : corB x.r2 x.q2 with
            | false => exact k1 (by decide) (rrc_M2a x w hC hs ht g1' g2' hf c1 he c2)
            | true => exact absurd ⟨fun h => by omega, fun h => by omega, fun _ => ⟨g2', hf⟩, c1, fun _ => c2, fun h => (by rw [he] at h; cases h)⟩ hx
          | false =>
            by_cases hb : x.r2 = 0 ∧ x.q2 = 0 ∧ x.u2 = false ∧ x.v2 = false
            · exact absurd ⟨fun h => by omega, fun h => by omega, fun _ => ⟨g2', hf⟩, c1, fun h => (by rw [he] at h; cases h), fun _ => ⟨hb.1, hb.2.1, hb.2.2.1, hb.2.2.2, g2'⟩⟩ hx
            · exact k1 (by decide) (rrc_M3a x w hC hs ht g1' g2' hf c1 he hb)
end Go.Proofs.YtfkoiebnpgodmaaDoor.Hw
/- A reference whose rows come or go, walked: span, line. -/
namespace Go.Proofs.YtfkoiebnpgodmaaDoor.CP
def upI (a n x : Int) : Int := if a ≤ x then x + n else x
def dnI (a n x : Int) : Int := if a + n ≤ x then x - n else x
end Go.Proofs.YtfkoiebnpgodmaaDoor.CP
namespace Go.Proofs.YtfkoiebnpgodmaaDoor.Hw
open Go.RowKit Go.Proofs.YtfkoiebnpgodmaaDoorW.PrintWords Go.Proofs.YtfkoiebnpgodmaaDoorW.PrintLast Go.Proofs.YtfkoiebnpgodmaaDoorW.PrintMore Go.Proofs.YtfkoiebnpgodmaaDoor.PH Go.Proofs.YtfkoiebnpgodmaaDoor.CP
set_option linter.unusedVariables false
set_option linter.unusedSimpArgs false
set_option maxRecDepth 100000 in
set_option maxHeartbeats 4000000 in
theorem span_up0 (sh nm : ByteArray) (a n lo hi : Int) (w : World) (ha : 0 ≤ a) (hn : 1 ≤ n) (han : a + n ≤ 1048576) (h0 : 0 ≤ lo) (h1 : lo ≤ hi) (g : hi < a) : Calls Tryd.prog 57 #[.int .i64 lo, .int .i64 hi, shA 1 sh a n nm] w fun e w' => e = .returned (.tuple #[.int .i64 lo, .int .i64 hi, .bool true]) ∧ Below w.heap.size w w' := by
  have HLM : Aside0 (∀ w, Calls Tryd.prog 34 #[.int .i64 1] w fun e w' => e = .returned (.int .i64 1048576) ∧ ∃ q, w' = w.drewN q) := ⟨fun w => (shift_limit.calls 1 1048576 w (limit_is 1 _ (by omega))).mono fun e w' h => ⟨h.1, h.2.out⟩⟩
  have HB0 : Aside0 (Below w.heap.size w (w.alloc (.cells (shC 1 sh a n nm) 24))) := ⟨(Below.refl _ _).alloc (Nat.le_refl _) _⟩
  obtain ⟨c0, c1, c2, c3, c4⟩ := shx sh nm 1 a n _ (heap_alloc_new w (.cells (shC 1 sh a n nm) 24))
  have m1 : min hi 1048575 = hi := by omega
  have q1 : lo < 1048576 := by omega
  have q2 : lo < a := by omega
  clear han
  go_enter Tryd.func57, Tryd.ntmps57
  go_wp2
  go_quiet ((go_at_call 34; exact Calls.quiet_of (HLM.out _)))
  go_wp2
  go_ret3
  exact ⟨rfl, pw_below_drewN HB0.out _⟩
set_option maxRecDepth 100000 in
set_option maxHeartbeats 4000000 in
theorem span_up1 (sh nm : ByteArray) (a n lo hi : Int) (w : World) (ha : 0 ≤ a) (hn : 1 ≤ n) (han : a + n ≤ 1048576) (h0 : 0 ≤ lo) (h1 : lo ≤ hi) (g : lo < a) (g' : a ≤ hi) (g2 : hi + n < 1048576) : Calls Tryd.prog 57 #[.int .i64 lo, .int .i64 hi, shA 1 sh a n nm] w fun e w' => e = .returned (.tuple #[.int .i64 lo, .int .i64 (hi + n), .bool true]) ∧ Below w.heap.size w w' := by
  have HLM : Aside0 (∀ w, Calls Tryd.prog 34 #[.int .i64 1] w fun e w' => e = .returned (.int .i64 1048576) ∧ ∃ q, w' = w.drewN q) := ⟨fun w => (shift_limit.calls 1 1048576 w (limit_is 1 _ (by omega))).mono fun e w' h => ⟨h.1, h.2.out⟩⟩
  have HB0 : Aside0 (Below w.heap.size w (w.alloc (.cells (shC 1 sh a n nm) 24))) := ⟨(Below.refl _ _).alloc (Nat.le_refl _) _⟩
  obtain ⟨c0, c1, c2, c3, c4⟩ := shx sh nm 1 a n _ (heap_alloc_new w (.cells (shC 1 sh a n nm) 24))
  have m1 : min (hi + n) 1048575 = hi + n := by omega
  have q1 : lo < 1048576 := by omega
  have w1 : IntKind.i64.wrap (hi + n) = hi + n := IntWalk.i64_in _ (by omega)
  clear han
  go_enter Tryd.func57, Tryd.ntmps57
  go_wp2
  go_quiet ((go_at_call 34; exact Calls.quiet_of (HLM.out _)))
  go_wp2
  go_ret3
  exact ⟨rfl, pw_below_drewN HB0.out _⟩
set_option maxRecDepth 100000 in
set_option maxHeartbeats 4000000 in
theorem span_up2 (sh nm : ByteArray) (a n lo hi : Int) (w : World) (ha : 0 ≤ a) (hn : 1 ≤ n) (han : a + n ≤ 1048576) (h0 : 0 ≤ lo) (h1 : lo ≤ hi) (g : a ≤ lo) (g2 : hi + n < 1048576) : Calls Tryd.prog 57 #[.int .i64 lo, .int .i64 hi, shA 1 sh a n nm] w fun e w' => e = .returned (.tuple #[.int .i64 (lo + n), .int .i64 (hi + n), .bool true]) ∧ Below w.heap.size w w' := by
  have HLM : Aside0 (∀ w, Calls Tryd.prog 34 #[.int .i64 1] w fun e w' => e = .returned (.int .i64 1048576) ∧ ∃ q, w' = w.drewN q) := ⟨fun w => (shift_limit.calls 1 1048576 w (limit_is 1 _ (by omega))).mono fun e w' h => ⟨h.1, h.2.out⟩⟩
  have HB0 : Aside0 (Below w.heap.size w (w.alloc (.cells (shC 1 sh a n nm) 24))) := ⟨(Below.refl _ _).alloc (Nat.le_refl _) _⟩
  obtain ⟨c0, c1, c2, c3, c4⟩ := shx sh nm 1 a n _ (heap_alloc_new w (.cells (shC 1 sh a n nm) 24))
  have m1 : min (hi + n) 1048575 = hi + n := by omega
  have q1 : lo + n < 1048576 := by omega
  have q2 : a ≤ hi := by omega
  have w1 : IntKind.i64.wrap (hi + n) = hi + n := IntWalk.i64_in _ (by omega)
  clear han
  go_enter Tryd.func57, Tryd.ntmps57
  go_wp2
  go_quiet ((go_at_call 34; exact Calls.quiet_of (HLM.out _)))
  go_wp2
  go_ret3
  exact ⟨rfl, pw_below_drewN HB0.out _⟩
set_option maxRecDepth 100000 in
set_option maxHeartbeats 4000000 in
theorem span_dn0 (sh nm : ByteArray) (a n lo hi : Int) (w : World) (ha : 0 ≤ a) (hn : 1 ≤ n) (han : a + n ≤ 1048576) (h0 : 0 ≤ lo) (h1 : lo ≤ hi) (g : hi < a) : Calls Tryd.prog 57 #[.int .i64 lo, .int .i64 hi, shA 2 sh a n nm] w fun e w' => e = .returned (.tuple #[.int .i64 lo, .int .i64 hi, .bool true]) ∧ Below w.heap.size w w' := by
  have HLM : Aside0 (∀ w, Calls Tryd.prog 34 #[.int .i64 2] w fun e w' => e = .returned (.int .i64 1048576) ∧ ∃ q, w' = w.drewN q) := ⟨fun w => (shift_limit.calls 2 1048576 w (limit_is 2 _ (by omega))).mono fun e w' h => ⟨h.1, h.2.out⟩⟩
  have HB0 : Aside0 (Below w.heap.size w (w.alloc (.cells (shC 2 sh a n nm) 24))) := ⟨(Below.refl _ _).alloc (Nat.le_refl _) _⟩
  obtain ⟨c0, c1, c2, c3, c4⟩ := shx sh nm 2 a n _ (heap_alloc_new w (.cells (shC 2 sh a n nm) 24))
  have q2 : lo < a := by omega
  have q3 : hi < a + n := by omega
  go_enter Tryd.func57, Tryd.ntmps57
  go_wp2
  go_ret3
  exact ⟨rfl, HB0.out⟩
set_option maxRecDepth 100000 in
set_option maxHeartbeats 4000000 in
theorem span_dn1 (sh nm : ByteArray) (a n lo hi : Int) (w : World) (ha : 0 ≤ a) (hn : 1 ≤ n) (han : a + n ≤ 1048576) (h0 : 0 ≤ lo) (h1 : lo ≤ hi) (g : lo < a) (g' : a + n ≤ hi) (g2 : hi < 1048576) : Calls Tryd.prog 57 #[.int .i64 lo, .int .i64 hi, shA 2 sh a n nm] w fun e w' => e = .returned (.tuple #[.int .i64 lo, .int .i64 (hi - n), .bool true]) ∧ Below w.heap.size w w' := by
  have HLM : Aside0 (∀ w, Calls Tryd.prog 34 #[.int .i64 2] w fun e w' => e = .returned (.int .i64 1048576) ∧ ∃ q, w' = w.drewN q) := ⟨fun w => (shift_limit.calls 2 1048576 w (limit_is 2 _ (by omega))).mono fun e w' h => ⟨h.1, h.2.out⟩⟩
  have HB0 : Aside0 (Below w.heap.size w (w.alloc (.cells (shC 2 sh a n nm) 24))) := ⟨(Below.refl _ _).alloc (Nat.le_refl _) _⟩
  obtain ⟨c0, c1, c2, c3, c4⟩ := shx sh nm 2 a n _ (heap_alloc_new w (.cells (shC 2 sh a n nm) 24))
  have q2 : lo < a + n := by omega
  go_enter Tryd.func57, Tryd.ntmps57
  go_wp2
  go_ret3
  exact ⟨rfl, HB0.out⟩
set_option maxRecDepth 100000 in
set_option maxHeartbeats 4000000 in
theorem span_dn2 (sh nm : ByteArray) (a n lo hi : Int) (w : World) (ha : 0 ≤ a) (hn : 1 ≤ n) (han : a + n ≤ 1048576) (h0 : 0 ≤ lo) (h1 : lo ≤ hi) (g : a + n ≤ lo) (g2 : hi < 1048576) : Calls Tryd.prog 57 #[.int .i64 lo, .int .i64 hi, shA 2 sh a n nm] w fun e w' => e = .returned (.tuple #[.int .i64 (lo - n), .int .i64 (hi - n), .bool true]) ∧ Below w.heap.size w w' := by
  have HLM : Aside0 (∀ w, Calls Tryd.prog 34 #[.int .i64 2] w fun e w' => e = .returned (.int .i64 1048576) ∧ ∃ q, w' = w.drewN q) := ⟨fun w => (shift_limit.calls 2 1048576 w (limit_is 2 _ (by omega))).mono fun e w' h => ⟨h.1, h.2.out⟩⟩
  have HB0 : Aside0 (Below w.heap.size w (w.alloc (.cells (shC 2 sh a n nm) 24))) := ⟨(Below.refl _ _).alloc (Nat.le_refl _) _⟩
  obtain ⟨c0, c1, c2, c3, c4⟩ := shx sh nm 2 a n _ (heap_alloc_new w (.cells (shC 2 sh a n nm) 24))
  have q2 : a ≤ lo := by omega
  have q3 : a + n ≤ hi := by omega
  go_enter Tryd.func57, Tryd.ntmps57
  go_wp2
  go_ret3
  exact ⟨rfl, HB0.out⟩
end Go.Proofs.YtfkoiebnpgodmaaDoor.Hw
/- A reference whose rows come or go, walked: line. -/
namespace Go.Proofs.YtfkoiebnpgodmaaDoor.Hw
open Go.RowKit Go.Proofs.YtfkoiebnpgodmaaDoorW.PrintWords Go.Proofs.YtfkoiebnpgodmaaDoorW.PrintLast Go.Proofs.YtfkoiebnpgodmaaDoorW.PrintMore Go.Proofs.YtfkoiebnpgodmaaDoor.PH Go.Proofs.YtfkoiebnpgodmaaDoor.CP
set_option linter.unusedVariables false
set_option linter.unusedSimpArgs false
abbrev zR : Rf := ⟨es, es, false, false, 0, 0, false, false, 0, 0, false, false⟩
theorem rff {w : World} {g : Nat} {x : Rf} {t : TypeId} (h : w.heap[g]? = some (.cells x.cs t (0, 0))) : w.frozen? ⟨g, 0, none⟩ = false ∧ w.frozen? ⟨g, 1, none⟩ = false ∧ w.frozen? ⟨g, 2, none⟩ = false ∧ w.frozen? ⟨g, 3, none⟩ = false ∧ w.frozen? ⟨g, 4, none⟩ = false ∧ w.frozen? ⟨g, 5, none⟩ = false ∧ w.frozen? ⟨g, 6, none⟩ = false ∧ w.frozen? ⟨g, 7, none⟩ = false ∧ w.frozen? ⟨g, 8, none⟩ = false ∧ w.frozen? ⟨g, 9, none⟩ = false ∧ w.frozen? ⟨g, 10, none⟩ = false ∧ w.frozen? ⟨g, 11, none⟩ = false :=
  ⟨blk_frozen h 0, blk_frozen h 1, blk_frozen h 2, blk_frozen h 3, blk_frozen h 4, blk_frozen h 5, blk_frozen h 6, blk_frozen h 7, blk_frozen h 8, blk_frozen h 9, blk_frozen h 10, blk_frozen h 11⟩
/-- Behind line's begin: the reference, the shift and the answer lie boxed. -/
structure LK (w0 : World) (x : Rf) (k : Int) (sh : ByteArray) (a n : Int) (nm : ByteArray) (w : World) : Prop where
  below : Below w0.heap.size w0 w
  box0 : w.heap[w0.heap.size]? = some (.cells x.cs 37 (0, 0))
  box1 : w.heap[w0.heap.size + 1]? = some (.cells (shC k sh a n nm) 24 (0, 0))
  box2 : w.heap[w0.heap.size + 1 + 1]? = some (.cells zR.cs 37 (0, 0))
section
variable {w0 w w' : World} {x : Rf} {k : Int} {sh : ByteArray} {a n : Int} {nm : ByteArray}
theorem LK.go (h : LK w0 x k sh a n nm w) (hb : Below w.heap.size w w') : LK w0 x k sh a n nm w' :=
  ⟨h.below.trans (hb.mono h.below.size), (hb.block _ (blk_lt h.box0)).trans h.box0, (hb.block _ (blk_lt h.box1)).trans h.box1, (hb.block _ (blk_lt h.box2)).trans h.box2⟩
theorem LK.S (h : LK w0 x k sh a n nm w) : w.cell? ⟨w0.heap.size, 4, none⟩ = some (.int .i64 x.r) ∧ w.cell? ⟨w0.heap.size, 8, none⟩ = some (.int .i64 x.r2) ∧ w.cell? ⟨w0.heap.size + 1, 0, none⟩ = some (.int .i64 k) ∧ w.cell? ⟨w0.heap.size + 1, 1, none⟩ = some (.string sh) ∧ w.cell? ⟨w0.heap.size + 1, 2, none⟩ = some (.int .i64 a) ∧ w.cell? ⟨w0.heap.size + 1, 3, none⟩ = some (.int .i64 n) ∧ w.cell? ⟨w0.heap.size + 1, 4, none⟩ = some (.string nm) ∧ Aside0 (LK w0 x k sh a n nm w) :=
  ⟨(blk_cell h.box0 4).trans rfl, (blk_cell h.box0 8).trans rfl, (blk_cell h.box1 0).trans rfl, (blk_cell h.box1 1).trans rfl, (blk_cell h.box1 2).trans rfl, (blk_cell h.box1 3).trans rfl, (blk_cell h.box1 4).trans rfl, ⟨h⟩⟩
theorem LK.start (w0 : World) (x : Rf) (k : Int) (sh : ByteArray) (a n : Int) (nm : ByteArray) : LK w0 x k sh a n nm (((w0.alloc (.cells x.cs 37)).alloc (.cells (shC k sh a n nm) 24)).alloc (.cells zR.cs 37)) := by
  have z : ∀ (w : World) (o : Obj), (w.alloc o).heap.size = w.heap.size + 1 := fun w o => Array.size_push ..
  refine ⟨(((Below.refl _ _).alloc (Nat.le_refl _) _).alloc (by rw [z]; omega) _).alloc (by rw [z, z]; omega) _, blk_alloc (blk_alloc (heap_alloc_new w0 _) _) _, blk_alloc ?_ _, ?_⟩
  · rw [← z w0 (.cells x.cs 37)]; exact heap_alloc_new _ _
  · rw [← z w0 (.cells x.cs 37), ← z _ (.cells (shC k sh a n nm) 24)]; exact heap_alloc_new _ _
theorem LK.drewN (h : LK w0 x k sh a n nm w) (q : Nat) : LK w0 x k sh a n nm (w.drewN q) := ⟨pw_below_drewN h.below _, h.box0, h.box1, h.box2⟩
theorem LK.drew (h : LK w0 x k sh a n nm w) : LK w0 x k sh a n nm w.drew := ⟨h.below.drew, h.box0, h.box1, h.box2⟩
end
set_option maxRecDepth 100000 in
set_option maxHeartbeats 4000000 in
theorem line_up (s t : ByteArray) (f : Bool) (r q : Int) (u v : Bool) (r2 q2 : Int) (u2 v2 : Bool) (k : Int) (sh : ByteArray) (a n : Int) (nm : ByteArray) (w : World) (hk : k ≤ 2) (hr : r ≤ r2) (p p2 : Int)
    (H : ∀ w, Calls Tryd.prog 57 #[.int .i64 r, .int .i64 r2, shA k sh a n nm] w fun e w' => e = .returned (.tuple #[.int .i64 p, .int .i64 p2, .bool true]) ∧ Below w.heap.size w w') :
    Calls Tryd.prog 40 #[.agg (⟨s, t, f, true, r, q, u, v, r2, q2, u2, v2⟩ : Rf).cs, shA k sh a n nm] w fun e w' => e = .returned (.tuple #[.agg (⟨s, t, f, true, p, q, u, v, p2, q2, u2, v2⟩ : Rf).cs, .bool true]) ∧ Below w.heap.size w w' := by
  have HH := Aside0.mk H
  clear H
  have HJ0 : Aside0 (LK w ⟨s, t, f, true, r, q, u, v, r2, q2, u2, v2⟩ k sh a n nm _) := ⟨LK.start w ⟨s, t, f, true, r, q, u, v, r2, q2, u2, v2⟩ k sh a n nm⟩
  have k2 : ¬ 2 < k := by omega
  have k2b : decide (2 < k) = false := decide_eq_false k2
  have hr2 : ¬ r2 < r := by omega
  have hr3 : decide (r2 < r) = false := decide_eq_false hr2
  obtain ⟨a4, a8, b0, b1, b2, b3, b4, _⟩ := HJ0.out.S
  obtain ⟨c0, c1, c2, c3, c4, c5, c6, c7, c8, c9, c10, c11⟩ := rfc HJ0.out.box0
  go_enter Tryd.func40, Tryd.ntmps40
  go_wp2
  go_quiet (fail)
  go_wp2
  go_region_held3 (fun w' => w'.cell? ⟨w.heap.size, 4, none⟩ = some (.int .i64 r) ∧ w'.cell? ⟨w.heap.size, 8, none⟩ = some (.int .i64 r2) ∧ w'.cell? ⟨w.heap.size + 1, 0, none⟩ = some (.int .i64 k) ∧ w'.cell? ⟨w.heap.size + 1, 1, none⟩ = some (.string sh) ∧ w'.cell? ⟨w.heap.size + 1, 2, none⟩ = some (.int .i64 a) ∧ w'.cell? ⟨w.heap.size + 1, 3, none⟩ = some (.int .i64 n) ∧ w'.cell? ⟨w.heap.size + 1, 4, none⟩ = some (.string nm) ∧ Aside0 (LK w ⟨s, t, f, true, r, q, u, v, r2, q2, u2, v2⟩ k sh a n nm w'))
    (first | exact LK.S (LK.drew (LK.drewN HJ0.out _)) | exact LK.S (LK.drew HJ0.out) | exact LK.S (Aside0.out (by assumption)))
    (first | (go_at_call 57; refine (HH.out _).mono ?_; rintro e w2 ⟨rfl, hb2⟩; have HJ2 := Aside0.mk (LK.go (Aside0.out (And.right (And.right (And.right (And.right (And.right (And.right (And.right (by assumption)))))))) ) hb2)))
  clear HJ0 HH a4 a8 b0 b1 b2 b3 b4 c0 c1 c2 c3 c4 c5 c6 c7 c8 c9 c10 c11
  obtain ⟨c0, c1, c2, c3, c4, c5, c6, c7, c8, c9, c10, c11⟩ := rfc HJ2.out.box0
  have f4 := blk_frozen HJ2.out.box0 4
  have f8 := blk_frozen HJ2.out.box0 8
  obtain ⟨d0, d1, d2, d3, d4, d5, d6, d7, d8, d9, d10, d11⟩ := rfc HJ2.out.box2
  obtain ⟨g0, g1, g2, g3, g4, g5, g6, g7, g8, g9, g10, g11⟩ := rff HJ2.out.box2
  go_wp2
  refine rf_end (p := 4) (u := 5) (by kernel_rfl) rfl rfl (put12 (blk_far (blk_far HJ2.out.box2 (by simp; omega) _) (by simp; omega) _)) ⟨rfl, below12 (((LK.below HJ2.out).setCell (Nat.le_refl _) _).setCell (Nat.le_refl _) _) (by omega)⟩
set_option maxRecDepth 100000 in
set_option maxHeartbeats 4000000 in
theorem line_dn (s t : ByteArray) (f : Bool) (r q : Int) (u v : Bool) (r2 q2 : Int) (u2 v2 : Bool) (k : Int) (sh : ByteArray) (a n : Int) (nm : ByteArray) (w : World) (hk : k ≤ 2) (hr : r2 < r) (p p2 : Int)
    (H : ∀ w, Calls Tryd.prog 57 #[.int .i64 r2, .int .i64 r, shA k sh a n nm] w fun e w' => e = .returned (.tuple #[.int .i64 p2, .int .i64 p, .bool true]) ∧ Below w.heap.size w w') :
    Calls Tryd.prog 40 #[.agg (⟨s, t, f, true, r, q, u, v, r2, q2, u2, v2⟩ : Rf).cs, shA k sh a n nm] w fun e w' => e = .returned (.tuple #[.agg (⟨s, t, f, true, p, q, u, v, p2, q2, u2, v2⟩ : Rf).cs, .bool true]) ∧ Below w.heap.size w w' := by
  have HH := Aside0.mk H
  clear H
  have HJ0 : Aside0 (LK w ⟨s, t, f, true, r, q, u, v, r2, q2, u2, v2⟩ k sh a n nm _) := ⟨LK.start w ⟨s, t, f, true, r, q, u, v, r2, q2, u2, v2⟩ k sh a n nm⟩
  have k2 : ¬ 2 < k := by omega
  have k2b : decide (2 < k) = false := decide_eq_false k2
  have hr3 : decide (r2 < r) = true := decide_eq_true hr
  obtain ⟨a4, a8, b0, b1, b2, b3, b4, _⟩ := HJ0.out.S
  obtain ⟨c0, c1, c2, c3, c4, c5, c6, c7, c8, c9, c10, c11⟩ := rfc HJ0.out.box0
  go_enter Tryd.func40, Tryd.ntmps40
  go_wp2
  go_quiet (fail)
  go_wp2
  go_region_held3 (fun w' => w'.cell? ⟨w.heap.size, 4, none⟩ = some (.int .i64 r) ∧ w'.cell? ⟨w.heap.size, 8, none⟩ = some (.int .i64 r2) ∧ w'.cell? ⟨w.heap.size + 1, 0, none⟩ = some (.int .i64 k) ∧ w'.cell? ⟨w.heap.size + 1, 1, none⟩ = some (.string sh) ∧ w'.cell? ⟨w.heap.size + 1, 2, none⟩ = some (.int .i64 a) ∧ w'.cell? ⟨w.heap.size + 1, 3, none⟩ = some (.int .i64 n) ∧ w'.cell? ⟨w.heap.size + 1, 4, none⟩ = some (.string nm) ∧ Aside0 (LK w ⟨s, t, f, true, r, q, u, v, r2, q2, u2, v2⟩ k sh a n nm w'))
    (first | exact LK.S (LK.drew (LK.drewN HJ0.out _)) | exact LK.S (LK.drew HJ0.out) | exact LK.S (Aside0.out (by assumption)))
    (first | (go_at_call 57; refine (HH.out _).mono ?_; rintro e w2 ⟨rfl, hb2⟩; have HJ2 := Aside0.mk (LK.go (Aside0.out (And.right (And.right (And.right (And.right (And.right (And.right (And.right (by assumption)))))))) ) hb2)))
  clear HJ0 HH a4 a8 b0 b1 b2 b3 b4 c0 c1 c2 c3 c4 c5 c6 c7 c8 c9 c10 c11
  obtain ⟨c0, c1, c2, c3, c4, c5, c6, c7, c8, c9, c10, c11⟩ := rfc HJ2.out.box0
  have f4 := blk_frozen HJ2.out.box0 4
  have f8 := blk_frozen HJ2.out.box0 8
  obtain ⟨d0, d1, d2, d3, d4, d5, d6, d7, d8, d9, d10, d11⟩ := rfc HJ2.out.box2
  obtain ⟨g0, g1, g2, g3, g4, g5, g6, g7, g8, g9, g10, g11⟩ := rff HJ2.out.box2
  go_wp2
  refine rf_end (p := 4) (u := 5) (by kernel_rfl) rfl rfl (put12 (blk_far (blk_far HJ2.out.box2 (by simp; omega) _) (by simp; omega) _)) ⟨rfl, below12 (((LK.below HJ2.out).setCell (Nat.le_refl _) _).setCell (Nat.le_refl _) _) (by omega)⟩
set_option maxRecDepth 100000 in
set_option maxHeartbeats 4000000 in
theorem line_one (s t : ByteArray) (f : Bool) (r q : Int) (u v : Bool) (r2 q2 : Int) (u2 v2 : Bool) (k : Int) (sh : ByteArray) (a n : Int) (nm : ByteArray) (w : World) (hk : k ≤ 2)  (p p2 : Int)
    (H : ∀ w, Calls Tryd.prog 30 #[.int .i64 r, shA k sh a n nm] w fun e w' => e = .returned (.tuple #[.int .i64 p, .bool true]) ∧ Below w.heap.size w w') :
    Calls Tryd.prog 40 #[.agg (⟨s, t, f, false, r, q, u, v, r2, q2, u2, v2⟩ : Rf).cs, shA k sh a n nm] w fun e w' => e = .returned (.tuple #[.agg (⟨s, t, f, false, p, q, u, v, r2, q2, u2, v2⟩ : Rf).cs, .bool true]) ∧ Below w.heap.size w w' := by
  have HH := Aside0.mk H
  clear H
  have HJ0 : Aside0 (LK w ⟨s, t, f, false, r, q, u, v, r2, q2, u2, v2⟩ k sh a n nm _) := ⟨LK.start w ⟨s, t, f, false, r, q, u, v, r2, q2, u2, v2⟩ k sh a n nm⟩
  have k2 : ¬ 2 < k := by omega
  have k2b : decide (2 < k) = false := decide_eq_false k2
  obtain ⟨a4, a8, b0, b1, b2, b3, b4, _⟩ := HJ0.out.S
  obtain ⟨c0, c1, c2, c3, c4, c5, c6, c7, c8, c9, c10, c11⟩ := rfc HJ0.out.box0
  go_enter Tryd.func40, Tryd.ntmps40
  go_wp2
  go_region_held3 (fun w' => w'.cell? ⟨w.heap.size, 4, none⟩ = some (.int .i64 r) ∧ w'.cell? ⟨w.heap.size, 8, none⟩ = some (.int .i64 r2) ∧ w'.cell? ⟨w.heap.size + 1, 0, none⟩ = some (.int .i64 k) ∧ w'.cell? ⟨w.heap.size + 1, 1, none⟩ = some (.string sh) ∧ w'.cell? ⟨w.heap.size + 1, 2, none⟩ = some (.int .i64 a) ∧ w'.cell? ⟨w.heap.size + 1, 3, none⟩ = some (.int .i64 n) ∧ w'.cell? ⟨w.heap.size + 1, 4, none⟩ = some (.string nm) ∧ Aside0 (LK w ⟨s, t, f, false, r, q, u, v, r2, q2, u2, v2⟩ k sh a n nm w'))
    (first | exact LK.S (LK.drew (LK.drewN HJ0.out _)) | exact LK.S (LK.drew HJ0.out) | exact LK.S (Aside0.out (by assumption)))
    (first | (go_at_call 30; refine (HH.out _).mono ?_; rintro e w2 ⟨rfl, hb2⟩; have HJ2 := Aside0.mk (LK.go (Aside0.out (And.right (And.right (And.right (And.right (And.right (And.right (And.right (by assumption)))))))) ) hb2)))
  clear HJ0 HH a4 a8 b0 b1 b2 b3 b4 c0 c1 c2 c3 c4 c5 c6 c7 c8 c9 c10 c11
  obtain ⟨c0, c1, c2, c3, c4, c5, c6, c7, c8, c9, c10, c11⟩ := rfc HJ2.out.box0
  have f4 := blk_frozen HJ2.out.box0 4
  have f8 := blk_frozen HJ2.out.box0 8
  obtain ⟨d0, d1, d2, d3, d4, d5, d6, d7, d8, d9, d10, d11⟩ := rfc HJ2.out.box2
  obtain ⟨g0, g1, g2, g3, g4, g5, g6, g7, g8, g9, g10, g11⟩ := rff HJ2.out.box2
  go_wp2
  refine rf_end (p := 4) (u := 5) (by kernel_rfl) rfl rfl (put12 (blk_far HJ2.out.box2 (by simp; omega) _)) ⟨rfl, below12 ((LK.below HJ2.out).setCell (Nat.le_refl _) _) (by omega)⟩
end Go.Proofs.YtfkoiebnpgodmaaDoor.Hw
/- A reference under rows that come or go, walked: shift.Ref. -/
namespace Go.Proofs.YtfkoiebnpgodmaaDoor.Hw
open Go.RowKit Go.Proofs.YtfkoiebnpgodmaaDoorW.PrintWords Go.Proofs.YtfkoiebnpgodmaaDoorW.PrintLast Go.Proofs.YtfkoiebnpgodmaaDoorW.PrintMore Go.Proofs.YtfkoiebnpgodmaaDoor.PH Go.Proofs.YtfkoiebnpgodmaaDoor.CP
set_option linter.unusedVariables false
set_option linter.unusedSimpArgs false
/-- A reference's own sheet, or the formula's. -/
def shOf (x : Rf) (own : ByteArray) : ByteArray := if x.s.toList = [] then own else x.s
theorem sheetOf_is (x : Rf) (own : ByteArray) : shift_sheetOf.f x.s x.t x.f x.e x.r x.q x.u x.v x.r2 x.q2 x.u2 x.v2 own = some (shOf x own) := by
  unfold shift_sheetOf.f shOf; split <;> rfl
/-- Behind Ref's begin: the shift, the reference and the answer lie boxed; the names are read; the tables hold. -/
structure RK (w0 : World) (A : Option Addr) (l : List ByteArray) (x : Rf) (k : Int) (sh : ByteArray) (a n : Int) (nm : ByteArray) (w : World) : Prop where
  below : Below w0.heap.size w0 w
  box0 : w.heap[w0.heap.size]? = some (.cells (shC k sh a n nm) 24 (0, 0))
  box1 : w.heap[w0.heap.size + 1]? = some (.cells x.cs 37 (0, 0))
  box2 : w.heap[w0.heap.size + 1 + 1]? = some (.cells zR.cs 37 (0, 0))
  row : Kd.C Kd.string w A l.length l
  tabs : ChW w
section
variable {w0 w w' : World} {A : Option Addr} {l : List ByteArray} {x : Rf} {k : Int} {sh : ByteArray} {a n : Int} {nm : ByteArray}
theorem RK.go (h : RK w0 A l x k sh a n nm w) (hb : Below w.heap.size w w') : RK w0 A l x k sh a n nm w' :=
  ⟨h.below.trans (hb.mono h.below.size), (hb.block _ (blk_lt h.box0)).trans h.box0, (hb.block _ (blk_lt h.box1)).trans h.box1, (hb.block _ (blk_lt h.box2)).trans h.box2, Kd.C_below h.row hb, h.tabs.go hb⟩
theorem RK.start (hC : ChW w0) (hr : Kd.C Kd.string w0 A l.length l) : RK w0 A l x k sh a n nm (((w0.alloc (.cells (shC k sh a n nm) 24)).alloc (.cells x.cs 37)).alloc (.cells zR.cs 37)) := by
  have z : ∀ (w : World) (o : Obj), (w.alloc o).heap.size = w.heap.size + 1 := fun w o => Array.size_push ..
  have b := (((Below.refl w0.heap.size w0).alloc (Nat.le_refl _) (.cells (shC k sh a n nm) 24)).alloc (by rw [z]; omega) (.cells x.cs 37)).alloc (by rw [z, z]; omega) (.cells zR.cs 37)
  refine ⟨b, blk_alloc (blk_alloc (heap_alloc_new w0 _) _) _, blk_alloc ?_ _, ?_, Kd.C_below hr b, hC.go b⟩
  · rw [← z w0 (.cells (shC k sh a n nm) 24)]; exact heap_alloc_new _ _
  · rw [← z w0 (.cells (shC k sh a n nm) 24), ← z _ (.cells x.cs 37)]; exact heap_alloc_new _ _
theorem RK.drew (h : RK w0 A l x k sh a n nm w) : RK w0 A l x k sh a n nm w.drew := h.go (Below.refl _ w).drew
theorem RK.drewN (h : RK w0 A l x k sh a n nm w) (q : Nat) : RK w0 A l x k sh a n nm (w.drewN q) := h.go (pw_below_drewN (Below.refl _ w) q)
theorem RK.S (h : RK w0 A l x k sh a n nm w) : w.cell? ⟨w0.heap.size + 1, 0, none⟩ = some (.string x.s) ∧ w.cell? ⟨w0.heap.size + 1, 1, none⟩ = some (.string x.t) ∧ w.cell? ⟨w0.heap.size + 1, 2, none⟩ = some (.bool x.f) ∧ w.cell? ⟨w0.heap.size + 1, 3, none⟩ = some (.bool x.e) ∧ w.cell? ⟨w0.heap.size + 1, 4, none⟩ = some (.int .i64 x.r) ∧ w.cell? ⟨w0.heap.size + 1, 5, none⟩ = some (.int .i64 x.q) ∧ w.cell? ⟨w0.heap.size + 1, 6, none⟩ = some (.bool x.u) ∧ w.cell? ⟨w0.heap.size + 1, 7, none⟩ = some (.bool x.v) ∧ w.cell? ⟨w0.heap.size + 1, 8, none⟩ = some (.int .i64 x.r2) ∧ w.cell? ⟨w0.heap.size + 1, 9, none⟩ = some (.int .i64 x.q2) ∧ w.cell? ⟨w0.heap.size + 1, 10, none⟩ = some (.bool x.u2) ∧ w.cell? ⟨w0.heap.size + 1, 11, none⟩ = some (.bool x.v2) ∧ w.cell? ⟨w0.heap.size, 1, none⟩ = some (.string sh) ∧ Aside0 (RK w0 A l x k sh a n nm w) :=
  ⟨(blk_cell h.box1 0).trans rfl, (blk_cell h.box1 1).trans rfl, (blk_cell h.box1 2).trans rfl, (blk_cell h.box1 3).trans rfl, (blk_cell h.box1 4).trans rfl, (blk_cell h.box1 5).trans rfl, (blk_cell h.box1 6).trans rfl, (blk_cell h.box1 7).trans rfl, (blk_cell h.box1 8).trans rfl, (blk_cell h.box1 9).trans rfl, (blk_cell h.box1 10).trans rfl, (blk_cell h.box1 11).trans rfl, (blk_cell h.box0 1).trans rfl, ⟨h⟩⟩
theorem RK.on {f : FuncId} {args : Array Value} {v : Ending} (h : ∀ w, RK w0 A l x k sh a n nm w → Calls Tryd.prog f args w fun e w' => e = v ∧ Below w.heap.size w w') :
    ∀ w, Aside0 (RK w0 A l x k sh a n nm w) → Calls Tryd.prog f args w fun e w' => e = v ∧ Aside0 (RK w0 A l x k sh a n nm w') := fun w hj =>
  (h w hj.out).mono fun e w' ⟨h1, h2⟩ => ⟨h1, ⟨hj.out.go h2⟩⟩
end
/-- Behind the call of line: the reference as it is then. -/
structure RK2 (w0 : World) (y : Rf) (w : World) : Prop where
  below : Below w0.heap.size w0 w
  box1 : w.heap[w0.heap.size + 1]? = some (.cells y.cs 37 (0, 0))
  box2 : w.heap[w0.heap.size + 1 + 1]? = some (.cells zR.cs 37 (0, 0))
theorem RK2.of {w0 w : World} {A : Option Addr} {l : List ByteArray} {x : Rf} {k : Int} {sh : ByteArray} {a n : Int} {nm : ByteArray} (h : RK w0 A l x k sh a n nm w) (y : Rf) : RK2 w0 y (w.setRow (w0.heap.size + 1) y.cs) :=
  ⟨bsr h.below (by omega) _, setRow_heap _ _ _ _ _ _ h.box1, (setRow_other _ _ _ _ (by omega)).trans h.box2⟩
set_option maxRecDepth 100000 in
set_option maxHeartbeats 8000000 in
theorem ref_line (A : Option Addr) (c : Nat) (l : List ByteArray) (k : Int) (sh : ByteArray) (a n : Int) (nm own : ByteArray) (x : Rf) (w : World) (hC : ChW w) (hr : Kd.C Kd.string w A l.length l) (hl : l.length ≤ 140737488351232) (hG : Small l) (h1 : sh.size ≤ 140737488351232) (h2 : nm.size ≤ 140737488351232) (h3 : own.size ≤ 140737488351232) (hs : x.s.size ≤ 140737488351232) (ht : x.t.size ≤ 140737488351232)
    (ha : -9223372036854775808 ≤ a ∧ a ≤ 9223372036854775807) (hn : -9223372036854775808 ≤ n ∧ n ≤ 9223372036854775807) (hk : 1 ≤ k ∧ k ≤ 2) (hz : chkI k a n l.length (fnd l sh) (fnd l nm) (nmOK nm) = 0) (hx : okR x) (ht0 : x.t.size = 0) (hal : alk (shOf x own) sh = true) (y : Rf) (HL : ∀ w, Calls Tryd.prog 40 #[.agg x.cs, shA k sh a n nm] w fun e w' => e = .returned (.tuple #[.agg y.cs, .bool true]) ∧ Below w.heap.size w w') :
    Calls Tryd.prog 15 #[.slice A l.length c, shA k sh a n nm, .string own, .agg x.cs] w fun e w' => e = .returned (.tuple #[.agg y.cs, .bool true]) ∧ Below w.heap.size w w' := by
  have H0 := Aside0.mk (RK.on (w0 := w) (A := A) (l := l) (x := x) (k := k) (sh := sh) (a := a) (n := n) (nm := nm) fun w1 hj => check_calls A c l k sh a n nm w1 hj.tabs hj.row hl hG h1 h2 ha hn)
  rw [hz] at H0
  have H1 := Aside0.mk (RK.on (w0 := w) (A := A) (l := l) (x := x) (k := k) (sh := sh) (a := a) (n := n) (nm := nm) fun w1 hj => rcheck_ok x w1 hj.tabs hs ht hx)
  have H2 := Aside0.mk (RK.on (w0 := w) (A := A) (l := l) (x := x) (k := k) (sh := sh) (a := a) (n := n) (nm := nm) fun w1 hj => lines_on k w1)
  rw [decide_eq_true (show 1 ≤ k ∧ k ≤ 4 by omega)] at H2
  have H3 := Aside0.mk (RK.on (w0 := w) (A := A) (l := l) (x := x) (k := k) (sh := sh) (a := a) (n := n) (nm := nm) fun w1 hj => shift_sheetOf.calls x.s x.t x.f x.e x.r x.q x.u x.v x.r2 x.q2 x.u2 x.v2 own _ w1 (sheetOf_is x own))
  have H4 := Aside0.mk (RK.on (w0 := w) (A := A) (l := l) (x := x) (k := k) (sh := sh) (a := a) (n := n) (nm := nm) fun w1 hj => alike_calls (shOf x own) sh w1 (by unfold shOf; split <;> assumption) h1)
  have HJ0 : Aside0 (RK w A l x k sh a n nm _) := ⟨RK.start hC hr⟩
  have HS : Aside0 ((Tryd.prog.info? 37).map (·.size) = some (12 : Nat)) := ⟨by kernel_rfl⟩
  rw [hal] at H4
  have H5 := Aside0.mk (RK.on (w0 := w) (A := A) (l := l) (x := x) (k := k) (sh := sh) (a := a) (n := n) (nm := nm) fun w1 hj => HL w1)
  have e2 := toList_none ht0
  clear hC hr hx hz HL hal ht0
  go_enter Tryd.func15, Tryd.ntmps15
  go_wp2_with (first
    | (go_at_call 11; refine (H0.out _ (by assumption)).mono ?_; rintro e w2 ⟨rfl, hb2⟩; obtain ⟨s0, s1, s2, s3, s4⟩ := shx _ _ _ _ _ _ hb2.out.box0; obtain ⟨c0, c1, c2, c3, c4, c5, c6, c7, c8, c9, c10, c11⟩ := rfc hb2.out.box1)
    | (go_at_call 38; refine (H1.out _ (by assumption)).mono ?_; rintro e w2 ⟨rfl, hb2⟩; obtain ⟨s0, s1, s2, s3, s4⟩ := shx _ _ _ _ _ _ hb2.out.box0; obtain ⟨c0, c1, c2, c3, c4, c5, c6, c7, c8, c9, c10, c11⟩ := rfc hb2.out.box1)
    | (go_at_call 28; refine (H2.out _ (by assumption)).mono ?_; rintro e w2 ⟨rfl, hb2⟩; obtain ⟨s0, s1, s2, s3, s4⟩ := shx _ _ _ _ _ _ hb2.out.box0; obtain ⟨c0, c1, c2, c3, c4, c5, c6, c7, c8, c9, c10, c11⟩ := rfc hb2.out.box1))
  go_region_held3 (fun w' => w'.cell? ⟨w.heap.size + 1, 0, none⟩ = some (.string x.s) ∧ w'.cell? ⟨w.heap.size + 1, 1, none⟩ = some (.string x.t) ∧ w'.cell? ⟨w.heap.size + 1, 2, none⟩ = some (.bool x.f) ∧ w'.cell? ⟨w.heap.size + 1, 3, none⟩ = some (.bool x.e) ∧ w'.cell? ⟨w.heap.size + 1, 4, none⟩ = some (.int .i64 x.r) ∧ w'.cell? ⟨w.heap.size + 1, 5, none⟩ = some (.int .i64 x.q) ∧ w'.cell? ⟨w.heap.size + 1, 6, none⟩ = some (.bool x.u) ∧ w'.cell? ⟨w.heap.size + 1, 7, none⟩ = some (.bool x.v) ∧ w'.cell? ⟨w.heap.size + 1, 8, none⟩ = some (.int .i64 x.r2) ∧ w'.cell? ⟨w.heap.size + 1, 9, none⟩ = some (.int .i64 x.q2) ∧ w'.cell? ⟨w.heap.size + 1, 10, none⟩ = some (.bool x.u2) ∧ w'.cell? ⟨w.heap.size + 1, 11, none⟩ = some (.bool x.v2) ∧ w'.cell? ⟨w.heap.size, 1, none⟩ = some (.string sh) ∧ Aside0 (RK w A l x k sh a n nm w'))
    (first | exact RK.S (RK.drew (Aside0.out (by assumption))) | exact RK.S (Aside0.out (by assumption)))
    (first | (go_at_call 39; refine (H3.out _ (And.right (And.right (And.right (And.right (And.right (And.right (And.right (And.right (And.right (And.right (And.right (And.right (And.right (by assumption))))))))))))))).mono ?_; rintro e w2 ⟨rfl, hb2⟩) | (go_at_call 21; refine (H4.out _ (And.right (And.right (And.right (And.right (And.right (And.right (And.right (And.right (And.right (And.right (And.right (And.right (And.right (by assumption))))))))))))))).mono ?_; rintro e w2 ⟨rfl, hb2⟩))
  clear H0 H1 H2 H3 H4 HJ0
  have hb3 : Aside0 (RK w A l x k sh a n nm w2) := by assumption
  obtain ⟨s0, s1, s2, s3, s4⟩ := shx _ _ _ _ _ _ hb3.out.box0
  obtain ⟨c0, c1, c2, c3, c4, c5, c6, c7, c8, c9, c10, c11⟩ := rfc hb3.out.box1
  go_wp2_with (first
    | (go_at_call 40; with_reducible refine (H5.out _ hb3).mono ?_; clear c0 c1 c2 c3 c4 c5 c6 c7 c8 c9 c10 c11 s0 s1 s2 s3 s4 hb3; rintro e w3 ⟨rfl, hb4⟩)
    | (refine wpList_store_row rfl 37 _ _ rfl (w.heap.size + 1) y.cs rfl rfl 37 _ (RK.box1 hb4.out) HS.out rfl (by simp [Value.oneCell']) ?_; have HW := Aside0.mk (RK2.of hb4.out y); clear hb4; generalize World.setRow w3 (w.heap.size + 1) y.cs = W at *; obtain ⟨c0, c1, c2, c3, c4, c5, c6, c7, c8, c9, c10, c11⟩ := rfc HW.out.box1)
    | (refine wpList_store_row rfl 37 _ _ rfl (w.heap.size + 1 + 1) y.cs rfl rfl 37 _ (RK2.box2 HW.out) HS.out rfl (by simp [Value.oneCell']) ?_))
  refine rf_end (p := 8) (u := 9) (by kernel_rfl) rfl rfl (setRow_heap _ _ _ _ _ _ (RK2.box2 HW.out)) ⟨rfl, bsr (RK2.below HW.out) (by omega) _⟩
set_option maxRecDepth 100000 in
set_option maxHeartbeats 8000000 in
theorem ref_off (A : Option Addr) (c : Nat) (l : List ByteArray) (k : Int) (sh : ByteArray) (a n : Int) (nm own : ByteArray) (x : Rf) (w : World) (hC : ChW w) (hr : Kd.C Kd.string w A l.length l) (hl : l.length ≤ 140737488351232) (hG : Small l) (h1 : sh.size ≤ 140737488351232) (h2 : nm.size ≤ 140737488351232) (h3 : own.size ≤ 140737488351232) (hs : x.s.size ≤ 140737488351232) (ht : x.t.size ≤ 140737488351232)
    (ha : -9223372036854775808 ≤ a ∧ a ≤ 9223372036854775807) (hn : -9223372036854775808 ≤ n ∧ n ≤ 9223372036854775807) (hk : 1 ≤ k ∧ k ≤ 2) (hz : chkI k a n l.length (fnd l sh) (fnd l nm) (nmOK nm) = 0) (hx : okR x) (ht0 : x.t.size = 0) (hal : alk (shOf x own) sh = false) :
    Calls Tryd.prog 15 #[.slice A l.length c, shA k sh a n nm, .string own, .agg x.cs] w fun e w' => e = .returned (.tuple #[.agg x.cs, .bool true]) ∧ Below w.heap.size w w' := by
  have H0 := Aside0.mk (RK.on (w0 := w) (A := A) (l := l) (x := x) (k := k) (sh := sh) (a := a) (n := n) (nm := nm) fun w1 hj => check_calls A c l k sh a n nm w1 hj.tabs hj.row hl hG h1 h2 ha hn)
  rw [hz] at H0
  have H1 := Aside0.mk (RK.on (w0 := w) (A := A) (l := l) (x := x) (k := k) (sh := sh) (a := a) (n := n) (nm := nm) fun w1 hj => rcheck_ok x w1 hj.tabs hs ht hx)
  have H2 := Aside0.mk (RK.on (w0 := w) (A := A) (l := l) (x := x) (k := k) (sh := sh) (a := a) (n := n) (nm := nm) fun w1 hj => lines_on k w1)
  rw [decide_eq_true (show 1 ≤ k ∧ k ≤ 4 by omega)] at H2
  have H3 := Aside0.mk (RK.on (w0 := w) (A := A) (l := l) (x := x) (k := k) (sh := sh) (a := a) (n := n) (nm := nm) fun w1 hj => shift_sheetOf.calls x.s x.t x.f x.e x.r x.q x.u x.v x.r2 x.q2 x.u2 x.v2 own _ w1 (sheetOf_is x own))
  have H4 := Aside0.mk (RK.on (w0 := w) (A := A) (l := l) (x := x) (k := k) (sh := sh) (a := a) (n := n) (nm := nm) fun w1 hj => alike_calls (shOf x own) sh w1 (by unfold shOf; split <;> assumption) h1)
  have HJ0 : Aside0 (RK w A l x k sh a n nm _) := ⟨RK.start hC hr⟩
  have HS : Aside0 ((Tryd.prog.info? 37).map (·.size) = some (12 : Nat)) := ⟨by kernel_rfl⟩
  rw [hal] at H4
  have e2 := toList_none ht0
  clear hC hr hx hz hal ht0
  go_enter Tryd.func15, Tryd.ntmps15
  go_wp2_with (first
    | (go_at_call 11; refine (H0.out _ (by assumption)).mono ?_; rintro e w2 ⟨rfl, hb2⟩; obtain ⟨s0, s1, s2, s3, s4⟩ := shx _ _ _ _ _ _ hb2.out.box0; obtain ⟨c0, c1, c2, c3, c4, c5, c6, c7, c8, c9, c10, c11⟩ := rfc hb2.out.box1)
    | (go_at_call 38; refine (H1.out _ (by assumption)).mono ?_; rintro e w2 ⟨rfl, hb2⟩; obtain ⟨s0, s1, s2, s3, s4⟩ := shx _ _ _ _ _ _ hb2.out.box0; obtain ⟨c0, c1, c2, c3, c4, c5, c6, c7, c8, c9, c10, c11⟩ := rfc hb2.out.box1)
    | (go_at_call 28; refine (H2.out _ (by assumption)).mono ?_; rintro e w2 ⟨rfl, hb2⟩; obtain ⟨s0, s1, s2, s3, s4⟩ := shx _ _ _ _ _ _ hb2.out.box0; obtain ⟨c0, c1, c2, c3, c4, c5, c6, c7, c8, c9, c10, c11⟩ := rfc hb2.out.box1))
  go_region_held3 (fun w' => w'.cell? ⟨w.heap.size + 1, 0, none⟩ = some (.string x.s) ∧ w'.cell? ⟨w.heap.size + 1, 1, none⟩ = some (.string x.t) ∧ w'.cell? ⟨w.heap.size + 1, 2, none⟩ = some (.bool x.f) ∧ w'.cell? ⟨w.heap.size + 1, 3, none⟩ = some (.bool x.e) ∧ w'.cell? ⟨w.heap.size + 1, 4, none⟩ = some (.int .i64 x.r) ∧ w'.cell? ⟨w.heap.size + 1, 5, none⟩ = some (.int .i64 x.q) ∧ w'.cell? ⟨w.heap.size + 1, 6, none⟩ = some (.bool x.u) ∧ w'.cell? ⟨w.heap.size + 1, 7, none⟩ = some (.bool x.v) ∧ w'.cell? ⟨w.heap.size + 1, 8, none⟩ = some (.int .i64 x.r2) ∧ w'.cell? ⟨w.heap.size + 1, 9, none⟩ = some (.int .i64 x.q2) ∧ w'.cell? ⟨w.heap.size + 1, 10, none⟩ = some (.bool x.u2) ∧ w'.cell? ⟨w.heap.size + 1, 11, none⟩ = some (.bool x.v2) ∧ w'.cell? ⟨w.heap.size, 1, none⟩ = some (.string sh) ∧ Aside0 (RK w A l x k sh a n nm w'))
    (first | exact RK.S (RK.drew (Aside0.out (by assumption))) | exact RK.S (Aside0.out (by assumption)))
    (first | (go_at_call 39; refine (H3.out _ (And.right (And.right (And.right (And.right (And.right (And.right (And.right (And.right (And.right (And.right (And.right (And.right (And.right (by assumption))))))))))))))).mono ?_; rintro e w2 ⟨rfl, hb2⟩) | (go_at_call 21; refine (H4.out _ (And.right (And.right (And.right (And.right (And.right (And.right (And.right (And.right (And.right (And.right (And.right (And.right (And.right (by assumption))))))))))))))).mono ?_; rintro e w2 ⟨rfl, hb2⟩))
  clear H0 H1 H2 H3 H4 HJ0
  have hb3 : Aside0 (RK w A l x k sh a n nm w2) := by assumption
  obtain ⟨s0, s1, s2, s3, s4⟩ := shx _ _ _ _ _ _ hb3.out.box0
  obtain ⟨c0, c1, c2, c3, c4, c5, c6, c7, c8, c9, c10, c11⟩ := rfc hb3.out.box1
  go_wp2_with (refine wpList_store_row rfl 37 _ _ rfl (w.heap.size + 1 + 1) x.cs rfl rfl 37 _ (RK.box2 hb3.out) HS.out rfl (by simp [Value.oneCell']) ?_)
  refine rf_end (p := 8) (u := 9) (by kernel_rfl) rfl rfl (setRow_heap _ _ _ _ _ _ (RK.box2 hb3.out)) ⟨rfl, bsr (RK.below hb3.out) (by omega) _⟩
set_option maxRecDepth 100000 in
set_option maxHeartbeats 8000000 in
theorem ref_to (A : Option Addr) (c : Nat) (l : List ByteArray) (k : Int) (sh : ByteArray) (a n : Int) (nm own : ByteArray) (x : Rf) (w : World) (hC : ChW w) (hr : Kd.C Kd.string w A l.length l) (hl : l.length ≤ 140737488351232) (hG : Small l) (h1 : sh.size ≤ 140737488351232) (h2 : nm.size ≤ 140737488351232) (h3 : own.size ≤ 140737488351232) (hs : x.s.size ≤ 140737488351232) (ht : x.t.size ≤ 140737488351232)
    (ha : -9223372036854775808 ≤ a ∧ a ≤ 9223372036854775807) (hn : -9223372036854775808 ≤ n ∧ n ≤ 9223372036854775807) (hk : 1 ≤ k ∧ k ≤ 2) (hz : chkI k a n l.length (fnd l sh) (fnd l nm) (nmOK nm) = 0) (hx : okR x) (ht0 : 0 < x.t.size) :
    Calls Tryd.prog 15 #[.slice A l.length c, shA k sh a n nm, .string own, .agg x.cs] w fun e w' => e = .returned (.tuple #[.agg x.cs, .bool true]) ∧ Below w.heap.size w w' := by
  have H0 := Aside0.mk (RK.on (w0 := w) (A := A) (l := l) (x := x) (k := k) (sh := sh) (a := a) (n := n) (nm := nm) fun w1 hj => check_calls A c l k sh a n nm w1 hj.tabs hj.row hl hG h1 h2 ha hn)
  rw [hz] at H0
  have H1 := Aside0.mk (RK.on (w0 := w) (A := A) (l := l) (x := x) (k := k) (sh := sh) (a := a) (n := n) (nm := nm) fun w1 hj => rcheck_ok x w1 hj.tabs hs ht hx)
  have H2 := Aside0.mk (RK.on (w0 := w) (A := A) (l := l) (x := x) (k := k) (sh := sh) (a := a) (n := n) (nm := nm) fun w1 hj => lines_on k w1)
  rw [decide_eq_true (show 1 ≤ k ∧ k ≤ 4 by omega)] at H2
  have H3 := Aside0.mk (RK.on (w0 := w) (A := A) (l := l) (x := x) (k := k) (sh := sh) (a := a) (n := n) (nm := nm) fun w1 hj => shift_sheetOf.calls x.s x.t x.f x.e x.r x.q x.u x.v x.r2 x.q2 x.u2 x.v2 own _ w1 (sheetOf_is x own))
  have H4 := Aside0.mk (RK.on (w0 := w) (A := A) (l := l) (x := x) (k := k) (sh := sh) (a := a) (n := n) (nm := nm) fun w1 hj => alike_calls (shOf x own) sh w1 (by unfold shOf; split <;> assumption) h1)
  have HJ0 : Aside0 (RK w A l x k sh a n nm _) := ⟨RK.start hC hr⟩
  have HS : Aside0 ((Tryd.prog.info? 37).map (·.size) = some (12 : Nat)) := ⟨by kernel_rfl⟩
  have e2 := toList_some ht0
  clear hC hr hx hz ht0
  go_enter Tryd.func15, Tryd.ntmps15
  go_wp2_with (first
    | (go_at_call 11; refine (H0.out _ (by assumption)).mono ?_; rintro e w2 ⟨rfl, hb2⟩; obtain ⟨s0, s1, s2, s3, s4⟩ := shx _ _ _ _ _ _ hb2.out.box0; obtain ⟨c0, c1, c2, c3, c4, c5, c6, c7, c8, c9, c10, c11⟩ := rfc hb2.out.box1)
    | (go_at_call 38; refine (H1.out _ (by assumption)).mono ?_; rintro e w2 ⟨rfl, hb2⟩; obtain ⟨s0, s1, s2, s3, s4⟩ := shx _ _ _ _ _ _ hb2.out.box0; obtain ⟨c0, c1, c2, c3, c4, c5, c6, c7, c8, c9, c10, c11⟩ := rfc hb2.out.box1)
    | (go_at_call 28; refine (H2.out _ (by assumption)).mono ?_; rintro e w2 ⟨rfl, hb2⟩; obtain ⟨s0, s1, s2, s3, s4⟩ := shx _ _ _ _ _ _ hb2.out.box0; obtain ⟨c0, c1, c2, c3, c4, c5, c6, c7, c8, c9, c10, c11⟩ := rfc hb2.out.box1))
  clear H0 H1 H2 H3 H4
  have HQ : Aside0 (∀ q, RK w A l x k sh a n nm (w2.drewN q)) := ⟨fun q => RK.drewN (Aside0.out (by assumption)) q⟩
  go_quiet (fail)
  go_wp2_with (refine wpList_store_row rfl 37 _ _ rfl (w.heap.size + 1 + 1) x.cs rfl rfl 37 _ (RK.box2 (HQ.out _)) HS.out rfl (by simp [Value.oneCell']) ?_)
  refine rf_end (p := 8) (u := 9) (by kernel_rfl) rfl rfl (setRow_heap _ _ _ _ _ _ (RK.box2 (HQ.out _))) ⟨rfl, bsr (RK.below (HQ.out _)) (by omega) _⟩
end Go.Proofs.YtfkoiebnpgodmaaDoor.Hw
