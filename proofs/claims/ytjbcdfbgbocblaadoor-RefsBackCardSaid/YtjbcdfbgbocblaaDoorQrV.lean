import Derived.Test.YtjbcdfbgbocblaaDoorQrN2
import Derived.BigQuiet
import Derived.Deep.RegionHeld3
import Derived.Test.YtjbcdfbgbocblaaDoorQrL
import Derived.IntWalk
import Derived.Lib.ItoaLen
/- References that may be: refs' Check and the document's, with the very code. -/
namespace Go.Proofs.YtjbcdfbgbocblaaDoor.CP
def corB (r q : Int) : Bool := decide (0 ≤ r ∧ r < 1048576 ∧ 0 ≤ q ∧ q < 1024)
def okR (x : Rf) : Prop := (0 < x.s.size → nmOK x.s = true) ∧ (0 < x.t.size → nmOK x.t = true) ∧ (x.s.size = 0 → x.t.size = 0 ∧ x.f = false) ∧ corB x.r x.q = true ∧ (x.e = true → corB x.r2 x.q2 = true) ∧ (x.e = false → x.r2 = 0 ∧ x.q2 = 0 ∧ x.u2 = false ∧ x.v2 = false ∧ x.t.size = 0)
end Go.Proofs.YtjbcdfbgbocblaaDoor.CP
namespace Go.Proofs.YtjbcdfbgbocblaaDoor.Hw
open Go.RowKit Go.Proofs.YtjbcdfbgbocblaaDoorW.PrintWords Go.Proofs.YtjbcdfbgbocblaaDoorW.PrintLast Go.Proofs.YtjbcdfbgbocblaaDoorW.PrintMore Go.Proofs.YtjbcdfbgbocblaaDoor.PH Go.Proofs.YtjbcdfbgbocblaaDoor.CP
set_option linter.unusedVariables false
set_option linter.unusedSimpArgs false
theorem corner_is (r q : Int) (u v : Bool) : refs_corner.f r q u v = some (corB r q) := by
  unfold refs_corner.f corB
  repeat' split
  all_goals (congr 1; first | (symm; rw [decide_eq_true_iff]; omega) | (symm; rw [decide_eq_false_iff_not]; omega) | (rw [decide_eq_decide]; omega))
theorem rcorner_is (r q : Int) (u v : Bool) : gridironref11_corner.f r q u v = some (corB r q) := by
  unfold gridironref11_corner.f corB
  repeat' split
  all_goals (congr 1; first | (symm; rw [decide_eq_true_iff]; omega) | (symm; rw [decide_eq_false_iff_not]; omega) | (rw [decide_eq_decide]; omega))
/-- Behind a call's begin: the reference lies boxed. -/
structure RfK (w0 : World) (x : Rf) (w : World) : Prop where
  below : Below w0.heap.size w0 w
  box : w.heap[w0.heap.size]? = some (.cells x.cs 32 (0, 0))
  tabs : ChW w
theorem RfK.on {w0 : World} {x : Rf} {f : FuncId} {args : Array Value} {v : Ending} (h : ∀ w, ChW w → Calls Tryd.prog f args w fun e w' => e = v ∧ Below w.heap.size w w') :
    ∀ w, Aside0 (RfK w0 x w) → Calls Tryd.prog f args w fun e w' => e = v ∧ Aside0 (RfK w0 x w') := fun w hj =>
  (h w hj.out.tabs).mono fun e w' ⟨h1, h2⟩ => ⟨h1, ⟨⟨hj.out.below.trans (h2.mono hj.out.below.size), (h2.block _ (blk_lt hj.out.box)).trans hj.out.box, hj.out.tabs.go h2⟩⟩⟩
theorem RfK.start {w : World} {x : Rf} (hC : ChW w) : RfK w x (w.alloc (.cells x.cs 32)) :=
  ⟨(Below.refl _ _).alloc (Nat.le_refl _) _, heap_alloc_new w _, hC.go ((Below.refl _ _).alloc (Nat.le_refl _) _)⟩
set_option maxRecDepth 100000 in
set_option maxHeartbeats 8000000 in
theorem rcheck_ok (x : Rf) (w : World) (hC : ChW w) (hs : x.s.size ≤ 140737488351232) (ht : x.t.size ≤ 140737488351232) (hx : okR x) : Calls Tryd.prog 17 #[.agg x.cs] w fun e w' => e = .returned (.int .i64 0) ∧ Below w.heap.size w w' := by
  have HJ0 : Aside0 (RfK w x _) := ⟨RfK.start hC⟩
  clear hC
  obtain ⟨o1, o2, o3, o4, o5, o6⟩ := hx
  have H0 := Aside0.mk (RfK.on (w0 := w) (x := x) fun w1 _ => refs_corner.calls x.r x.q x.u x.v _ w1 (corner_is _ _ _ _))
  have H1 := Aside0.mk (RfK.on (w0 := w) (x := x) fun w1 _ => refs_corner.calls x.r2 x.q2 x.u2 x.v2 _ w1 (corner_is _ _ _ _))
  have H2 := Aside0.mk (RfK.on (w0 := w) (x := x) fun w1 h => sheet_calls x.s w1 h (by unfold maxLen; omega))
  have H3 := Aside0.mk (RfK.on (w0 := w) (x := x) fun w1 h => sheet_calls x.t w1 h (by unfold maxLen; omega))
  rw [o4] at H0
  have hst : (x.s.size = 0 ∧ x.t.size = 0) ∨ (0 < x.s.size ∧ x.t.size = 0) ∨ (0 < x.s.size ∧ 0 < x.t.size) := by
    by_cases g : x.s.size = 0
    · exact .inl ⟨g, (o3 g).1⟩
    · by_cases g' : x.t.size = 0
      · exact .inr (.inl ⟨by omega, g'⟩)
      · exact .inr (.inr ⟨by omega, by omega⟩)
  obtain ⟨c0, c1, c2, c3, c4, c5, c6, c7, c8, c9, c10, c11⟩ := rfc HJ0.out.box
  obtain ⟨s, t, f, e, r, q, u, v, r2, q2, u2, v2⟩ := x
  simp only [] at *
  rcases hst with ⟨g1, g2⟩ | ⟨g1, g2⟩ | ⟨g1, g2⟩ <;> cases e
  · obtain ⟨rfl, rfl, rfl, rfl, _⟩ := o6 rfl
    obtain rfl := (o3 g1).2
    have e1 := toList_none g1
    have e2 := toList_none g2
    clear o1 o2 o3 o5 o6 g1 g2
    go_enter Tryd.func17, Tryd.ntmps17
    go_wp2_with (first
      | (go_at_call 33; first | ((with_reducible refine (H0.out _ (by assumption)).mono ?_); rintro e w2 ⟨rfl, hb2⟩; obtain ⟨c0, c1, c2, c3, c4, c5, c6, c7, c8, c9, c10, c11⟩ := rfc hb2.out.box) | ((with_reducible refine (H1.out _ (by assumption)).mono ?_); rintro e w2 ⟨rfl, hb2⟩; obtain ⟨c0, c1, c2, c3, c4, c5, c6, c7, c8, c9, c10, c11⟩ := rfc hb2.out.box))
      | (go_at_call 32; first | ((with_reducible refine (H2.out _ (by assumption)).mono ?_); rintro e w2 ⟨rfl, hb2⟩; obtain ⟨c0, c1, c2, c3, c4, c5, c6, c7, c8, c9, c10, c11⟩ := rfc hb2.out.box) | ((with_reducible refine (H3.out _ (by assumption)).mono ?_); rintro e w2 ⟨rfl, hb2⟩; obtain ⟨c0, c1, c2, c3, c4, c5, c6, c7, c8, c9, c10, c11⟩ := rfc hb2.out.box)))
    go_ret
    exact ⟨rfl, RfK.below (Aside0.out (by assumption))⟩
  · rw [o5 rfl] at H1
    obtain rfl := (o3 g1).2
    have e1 := toList_none g1
    have e2 := toList_none g2
    clear o1 o2 o3 o5 o6 g1 g2
    go_enter Tryd.func17, Tryd.ntmps17
    go_wp2_with (first
      | (go_at_call 33; first | ((with_reducible refine (H0.out _ (by assumption)).mono ?_); rintro e w2 ⟨rfl, hb2⟩; obtain ⟨c0, c1, c2, c3, c4, c5, c6, c7, c8, c9, c10, c11⟩ := rfc hb2.out.box) | ((with_reducible refine (H1.out _ (by assumption)).mono ?_); rintro e w2 ⟨rfl, hb2⟩; obtain ⟨c0, c1, c2, c3, c4, c5, c6, c7, c8, c9, c10, c11⟩ := rfc hb2.out.box))
      | (go_at_call 32; first | ((with_reducible refine (H2.out _ (by assumption)).mono ?_); rintro e w2 ⟨rfl, hb2⟩; obtain ⟨c0, c1, c2, c3, c4, c5, c6, c7, c8, c9, c10, c11⟩ := rfc hb2.out.box) | ((with_reducible refine (H3.out _ (by assumption)).mono ?_); rintro e w2 ⟨rfl, hb2⟩; obtain ⟨c0, c1, c2, c3, c4, c5, c6, c7, c8, c9, c10, c11⟩ := rfc hb2.out.box)))
    go_ret
    exact ⟨rfl, RfK.below (Aside0.out (by assumption))⟩
  · obtain ⟨rfl, rfl, rfl, rfl, _⟩ := o6 rfl
    rw [o1 g1] at H2
    have e1 := toList_some g1
    have e2 := toList_none g2
    clear o1 o2 o3 o5 o6 g1 g2
    go_enter Tryd.func17, Tryd.ntmps17
    go_wp2_with (first
      | (go_at_call 33; first | ((with_reducible refine (H0.out _ (by assumption)).mono ?_); rintro e w2 ⟨rfl, hb2⟩; obtain ⟨c0, c1, c2, c3, c4, c5, c6, c7, c8, c9, c10, c11⟩ := rfc hb2.out.box) | ((with_reducible refine (H1.out _ (by assumption)).mono ?_); rintro e w2 ⟨rfl, hb2⟩; obtain ⟨c0, c1, c2, c3, c4, c5, c6, c7, c8, c9, c10, c11⟩ := rfc hb2.out.box))
      | (go_at_call 32; first | ((with_reducible refine (H2.out _ (by assumption)).mono ?_); rintro e w2 ⟨rfl, hb2⟩; obtain ⟨c0, c1, c2, c3, c4, c5, c6, c7, c8, c9, c10, c11⟩ := rfc hb2.out.box) | ((with_reducible refine (H3.out _ (by assumption)).mono ?_); rintro e w2 ⟨rfl, hb2⟩; obtain ⟨c0, c1, c2, c3, c4, c5, c6, c7, c8, c9, c10, c11⟩ := rfc hb2.out.box)))
    go_ret
    exact ⟨rfl, RfK.below (Aside0.out (by assumption))⟩
  · rw [o5 rfl] at H1
    rw [o1 g1] at H2
    have e1 := toList_some g1
    have e2 := toList_none g2
    clear o1 o2 o3 o5 o6 g1 g2
    go_enter Tryd.func17, Tryd.ntmps17
    go_wp2_with (first
      | (go_at_call 33; first | ((with_reducible refine (H0.out _ (by assumption)).mono ?_); rintro e w2 ⟨rfl, hb2⟩; obtain ⟨c0, c1, c2, c3, c4, c5, c6, c7, c8, c9, c10, c11⟩ := rfc hb2.out.box) | ((with_reducible refine (H1.out _ (by assumption)).mono ?_); rintro e w2 ⟨rfl, hb2⟩; obtain ⟨c0, c1, c2, c3, c4, c5, c6, c7, c8, c9, c10, c11⟩ := rfc hb2.out.box))
      | (go_at_call 32; first | ((with_reducible refine (H2.out _ (by assumption)).mono ?_); rintro e w2 ⟨rfl, hb2⟩; obtain ⟨c0, c1, c2, c3, c4, c5, c6, c7, c8, c9, c10, c11⟩ := rfc hb2.out.box) | ((with_reducible refine (H3.out _ (by assumption)).mono ?_); rintro e w2 ⟨rfl, hb2⟩; obtain ⟨c0, c1, c2, c3, c4, c5, c6, c7, c8, c9, c10, c11⟩ := rfc hb2.out.box)))
    go_ret
    exact ⟨rfl, RfK.below (Aside0.out (by assumption))⟩
  · exact absurd (o6 rfl).2.2.2.2 (by omega)
  · rw [o5 rfl] at H1
    rw [o1 g1] at H2
    have e1 := toList_some g1
    rw [o2 g2] at H3
    have e2 := toList_some g2
    clear o1 o2 o3 o5 o6 g1 g2
    go_enter Tryd.func17, Tryd.ntmps17
    go_wp2_with (first
      | (go_at_call 33; first | ((with_reducible refine (H0.out _ (by assumption)).mono ?_); rintro e w2 ⟨rfl, hb2⟩; obtain ⟨c0, c1, c2, c3, c4, c5, c6, c7, c8, c9, c10, c11⟩ := rfc hb2.out.box) | ((with_reducible refine (H1.out _ (by assumption)).mono ?_); rintro e w2 ⟨rfl, hb2⟩; obtain ⟨c0, c1, c2, c3, c4, c5, c6, c7, c8, c9, c10, c11⟩ := rfc hb2.out.box))
      | (go_at_call 32; first | ((with_reducible refine (H2.out _ (by assumption)).mono ?_); rintro e w2 ⟨rfl, hb2⟩; obtain ⟨c0, c1, c2, c3, c4, c5, c6, c7, c8, c9, c10, c11⟩ := rfc hb2.out.box) | ((with_reducible refine (H3.out _ (by assumption)).mono ?_); rintro e w2 ⟨rfl, hb2⟩; obtain ⟨c0, c1, c2, c3, c4, c5, c6, c7, c8, c9, c10, c11⟩ := rfc hb2.out.box)))
    go_ret
    exact ⟨rfl, RfK.below (Aside0.out (by assumption))⟩
set_option maxRecDepth 100000 in
set_option maxHeartbeats 8000000 in
theorem prc_L1 (x : Rf) (w : World) (hC : ChW w) (hs : x.s.size ≤ 140737488351232) (ht : x.t.size ≤ 140737488351232) (g1 : 0 < x.s.size) (n1 : nmOK x.s = false) : Calls Tryd.prog 17 #[.agg x.cs] w fun e w' => e = .returned (.int .i64 111) ∧ Below w.heap.size w w' := by
  have HJ0 : Aside0 (RfK w x _) := ⟨RfK.start hC⟩
  clear hC
  have H0 := Aside0.mk (RfK.on (w0 := w) (x := x) fun w1 _ => refs_corner.calls x.r x.q x.u x.v _ w1 (corner_is _ _ _ _))
  have H1 := Aside0.mk (RfK.on (w0 := w) (x := x) fun w1 _ => refs_corner.calls x.r2 x.q2 x.u2 x.v2 _ w1 (corner_is _ _ _ _))
  have H2 := Aside0.mk (RfK.on (w0 := w) (x := x) fun w1 h => sheet_calls x.s w1 h (by unfold maxLen; omega))
  have H3 := Aside0.mk (RfK.on (w0 := w) (x := x) fun w1 h => sheet_calls x.t w1 h (by unfold maxLen; omega))
  obtain ⟨c0, c1, c2, c3, c4, c5, c6, c7, c8, c9, c10, c11⟩ := rfc HJ0.out.box
  have e1 := toList_some g1
  rw [n1] at H2
  clear g1 n1
  obtain ⟨s, t, f, e, r, q, u, v, r2, q2, u2, v2⟩ := x
  simp only [] at *
  go_enter Tryd.func17, Tryd.ntmps17
  go_wp2_with (first
    | (go_at_call 33; first | ((with_reducible refine (H0.out _ (by assumption)).mono ?_); rintro e w2 ⟨rfl, hb2⟩; obtain ⟨c0, c1, c2, c3, c4, c5, c6, c7, c8, c9, c10, c11⟩ := rfc hb2.out.box) | ((with_reducible refine (H1.out _ (by assumption)).mono ?_); rintro e w2 ⟨rfl, hb2⟩; obtain ⟨c0, c1, c2, c3, c4, c5, c6, c7, c8, c9, c10, c11⟩ := rfc hb2.out.box))
    | (go_at_call 32; first | ((with_reducible refine (H2.out _ (by assumption)).mono ?_); rintro e w2 ⟨rfl, hb2⟩; obtain ⟨c0, c1, c2, c3, c4, c5, c6, c7, c8, c9, c10, c11⟩ := rfc hb2.out.box) | ((with_reducible refine (H3.out _ (by assumption)).mono ?_); rintro e w2 ⟨rfl, hb2⟩; obtain ⟨c0, c1, c2, c3, c4, c5, c6, c7, c8, c9, c10, c11⟩ := rfc hb2.out.box)))
  go_ret
  exact ⟨rfl, RfK.below (Aside0.out (by assumption))⟩
set_option maxRecDepth 100000 in
set_option maxHeartbeats 8000000 in
theorem prc_L2 (x : Rf) (w : World) (hC : ChW w) (hs : x.s.size ≤ 140737488351232) (ht : x.t.size ≤ 140737488351232) (g1 : 0 < x.s.size) (n1 : nmOK x.s = true) (g2 : 0 < x.t.size) (n2 : nmOK x.t = false) : Calls Tryd.prog 17 #[.agg x.cs] w fun e w' => e = .returned (.int .i64 111) ∧ Below w.heap.size w w' := by
  have HJ0 : Aside0 (RfK w x _) := ⟨RfK.start hC⟩
  clear hC
  have H0 := Aside0.mk (RfK.on (w0 := w) (x := x) fun w1 _ => refs_corner.calls x.r x.q x.u x.v _ w1 (corner_is _ _ _ _))
  have H1 := Aside0.mk (RfK.on (w0 := w) (x := x) fun w1 _ => refs_corner.calls x.r2 x.q2 x.u2 x.v2 _ w1 (corner_is _ _ _ _))
  have H2 := Aside0.mk (RfK.on (w0 := w) (x := x) fun w1 h => sheet_calls x.s w1 h (by unfold maxLen; omega))
  have H3 := Aside0.mk (RfK.on (w0 := w) (x := x) fun w1 h => sheet_calls x.t w1 h (by unfold maxLen; omega))
  obtain ⟨c0, c1, c2, c3, c4, c5, c6, c7, c8, c9, c10, c11⟩ := rfc HJ0.out.box
  have e1 := toList_some g1
  rw [n1] at H2
  have e2 := toList_some g2
  rw [n2] at H3
  clear g1 n1 g2 n2
  obtain ⟨s, t, f, e, r, q, u, v, r2, q2, u2, v2⟩ := x
  simp only [] at *
  go_enter Tryd.func17, Tryd.ntmps17
  go_wp2_with (first
    | (go_at_call 33; first | ((with_reducible refine (H0.out _ (by assumption)).mono ?_); rintro e w2 ⟨rfl, hb2⟩; obtain ⟨c0, c1, c2, c3, c4, c5, c6, c7, c8, c9, c10, c11⟩ := rfc hb2.out.box) | ((with_reducible refine (H1.out _ (by assumption)).mono ?_); rintro e w2 ⟨rfl, hb2⟩; obtain ⟨c0, c1, c2, c3, c4, c5, c6, c7, c8, c9, c10, c11⟩ := rfc hb2.out.box))
    | (go_at_call 32; first | ((with_reducible refine (H2.out _ (by assumption)).mono ?_); rintro e w2 ⟨rfl, hb2⟩; obtain ⟨c0, c1, c2, c3, c4, c5, c6, c7, c8, c9, c10, c11⟩ := rfc hb2.out.box) | ((with_reducible refine (H3.out _ (by assumption)).mono ?_); rintro e w2 ⟨rfl, hb2⟩; obtain ⟨c0, c1, c2, c3, c4, c5, c6, c7, c8, c9, c10, c11⟩ := rfc hb2.out.box)))
  go_ret
  exact ⟨rfl, RfK.below (Aside0.out (by assumption))⟩
set_option maxRecDepth 100000 in
set_option maxHeartbeats 8000000 in
theorem prc_L3 (x : Rf) (w : World) (hC : ChW w) (hs : x.s.size ≤ 140737488351232) (ht : x.t.size ≤ 140737488351232) (g1 : x.s.size = 0) (g2 : 0 < x.t.size) (n2 : nmOK x.t = false) : Calls Tryd.prog 17 #[.agg x.cs] w fun e w' => e = .returned (.int .i64 111) ∧ Below w.heap.size w w' := by
  have HJ0 : Aside0 (RfK w x _) := ⟨RfK.start hC⟩
  clear hC
  have H0 := Aside0.mk (RfK.on (w0 := w) (x := x) fun w1 _ => refs_corner.calls x.r x.q x.u x.v _ w1 (corner_is _ _ _ _))
  have H1 := Aside0.mk (RfK.on (w0 := w) (x := x) fun w1 _ => refs_corner.calls x.r2 x.q2 x.u2 x.v2 _ w1 (corner_is _ _ _ _))
  have H2 := Aside0.mk (RfK.on (w0 := w) (x := x) fun w1 h => sheet_calls x.s w1 h (by unfold maxLen; omega))
  have H3 := Aside0.mk (RfK.on (w0 := w) (x := x) fun w1 h => sheet_calls x.t w1 h (by unfold maxLen; omega))
  obtain ⟨c0, c1, c2, c3, c4, c5, c6, c7, c8, c9, c10, c11⟩ := rfc HJ0.out.box
  have e1 := toList_none g1
  have e2 := toList_some g2
  rw [n2] at H3
  clear g1 g2 n2
  obtain ⟨s, t, f, e, r, q, u, v, r2, q2, u2, v2⟩ := x
  simp only [] at *
  go_enter Tryd.func17, Tryd.ntmps17
  go_wp2_with (first
    | (go_at_call 33; first | ((with_reducible refine (H0.out _ (by assumption)).mono ?_); rintro e w2 ⟨rfl, hb2⟩; obtain ⟨c0, c1, c2, c3, c4, c5, c6, c7, c8, c9, c10, c11⟩ := rfc hb2.out.box) | ((with_reducible refine (H1.out _ (by assumption)).mono ?_); rintro e w2 ⟨rfl, hb2⟩; obtain ⟨c0, c1, c2, c3, c4, c5, c6, c7, c8, c9, c10, c11⟩ := rfc hb2.out.box))
    | (go_at_call 32; first | ((with_reducible refine (H2.out _ (by assumption)).mono ?_); rintro e w2 ⟨rfl, hb2⟩; obtain ⟨c0, c1, c2, c3, c4, c5, c6, c7, c8, c9, c10, c11⟩ := rfc hb2.out.box) | ((with_reducible refine (H3.out _ (by assumption)).mono ?_); rintro e w2 ⟨rfl, hb2⟩; obtain ⟨c0, c1, c2, c3, c4, c5, c6, c7, c8, c9, c10, c11⟩ := rfc hb2.out.box)))
  go_ret
  exact ⟨rfl, RfK.below (Aside0.out (by assumption))⟩
set_option maxRecDepth 100000 in
set_option maxHeartbeats 8000000 in
theorem prc_L4 (x : Rf) (w : World) (hC : ChW w) (hs : x.s.size ≤ 140737488351232) (ht : x.t.size ≤ 140737488351232) (g1 : x.s.size = 0) (g2 : 0 < x.t.size) (n2 : nmOK x.t = true) : Calls Tryd.prog 17 #[.agg x.cs] w fun e w' => e = .returned (.int .i64 111) ∧ Below w.heap.size w w' := by
  have HJ0 : Aside0 (RfK w x _) := ⟨RfK.start hC⟩
  clear hC
  have H0 := Aside0.mk (RfK.on (w0 := w) (x := x) fun w1 _ => refs_corner.calls x.r x.q x.u x.v _ w1 (corner_is _ _ _ _))
  have H1 := Aside0.mk (RfK.on (w0 := w) (x := x) fun w1 _ => refs_corner.calls x.r2 x.q2 x.u2 x.v2 _ w1 (corner_is _ _ _ _))
  have H2 := Aside0.mk (RfK.on (w0 := w) (x := x) fun w1 h => sheet_calls x.s w1 h (by unfold maxLen; omega))
  have H3 := Aside0.mk (RfK.on (w0 := w) (x := x) fun w1 h => sheet_calls x.t w1 h (by unfold maxLen; omega))
  obtain ⟨c0, c1, c2, c3, c4, c5, c6, c7, c8, c9, c10, c11⟩ := rfc HJ0.out.box
  have e1 := toList_none g1
  have e2 := toList_some g2
  rw [n2] at H3
  clear g1 g2 n2
  obtain ⟨s, t, f, e, r, q, u, v, r2, q2, u2, v2⟩ := x
  simp only [] at *
  go_enter Tryd.func17, Tryd.ntmps17
  go_wp2_with (first
    | (go_at_call 33; first | ((with_reducible refine (H0.out _ (by assumption)).mono ?_); rintro e w2 ⟨rfl, hb2⟩; obtain ⟨c0, c1, c2, c3, c4, c5, c6, c7, c8, c9, c10, c11⟩ := rfc hb2.out.box) | ((with_reducible refine (H1.out _ (by assumption)).mono ?_); rintro e w2 ⟨rfl, hb2⟩; obtain ⟨c0, c1, c2, c3, c4, c5, c6, c7, c8, c9, c10, c11⟩ := rfc hb2.out.box))
    | (go_at_call 32; first | ((with_reducible refine (H2.out _ (by assumption)).mono ?_); rintro e w2 ⟨rfl, hb2⟩; obtain ⟨c0, c1, c2, c3, c4, c5, c6, c7, c8, c9, c10, c11⟩ := rfc hb2.out.box) | ((with_reducible refine (H3.out _ (by assumption)).mono ?_); rintro e w2 ⟨rfl, hb2⟩; obtain ⟨c0, c1, c2, c3, c4, c5, c6, c7, c8, c9, c10, c11⟩ := rfc hb2.out.box)))
  go_ret
  exact ⟨rfl, RfK.below (Aside0.out (by assumption))⟩
set_option maxRecDepth 100000 in
set_option maxHeartbeats 8000000 in
theorem prc_L5 (x : Rf) (w : World) (hC : ChW w) (hs : x.s.size ≤ 140737488351232) (ht : x.t.size ≤ 140737488351232) (g1 : x.s.size = 0) (g2 : x.t.size = 0) (hf : x.f = true) : Calls Tryd.prog 17 #[.agg x.cs] w fun e w' => e = .returned (.int .i64 111) ∧ Below w.heap.size w w' := by
  have HJ0 : Aside0 (RfK w x _) := ⟨RfK.start hC⟩
  clear hC
  have H0 := Aside0.mk (RfK.on (w0 := w) (x := x) fun w1 _ => refs_corner.calls x.r x.q x.u x.v _ w1 (corner_is _ _ _ _))
  have H1 := Aside0.mk (RfK.on (w0 := w) (x := x) fun w1 _ => refs_corner.calls x.r2 x.q2 x.u2 x.v2 _ w1 (corner_is _ _ _ _))
  have H2 := Aside0.mk (RfK.on (w0 := w) (x := x) fun w1 h => sheet_calls x.s w1 h (by unfold maxLen; omega))
  have H3 := Aside0.mk (RfK.on (w0 := w) (x := x) fun w1 h => sheet_calls x.t w1 h (by unfold maxLen; omega))
  obtain ⟨c0, c1, c2, c3, c4, c5, c6, c7, c8, c9, c10, c11⟩ := rfc HJ0.out.box
  have e1 := toList_none g1
  have e2 := toList_none g2
  clear g1 g2
  obtain ⟨s, t, f, e, r, q, u, v, r2, q2, u2, v2⟩ := x
  simp only [] at *
  subst hf
  go_enter Tryd.func17, Tryd.ntmps17
  go_wp2_with (first
    | (go_at_call 33; first | ((with_reducible refine (H0.out _ (by assumption)).mono ?_); rintro e w2 ⟨rfl, hb2⟩; obtain ⟨c0, c1, c2, c3, c4, c5, c6, c7, c8, c9, c10, c11⟩ := rfc hb2.out.box) | ((with_reducible refine (H1.out _ (by assumption)).mono ?_); rintro e w2 ⟨rfl, hb2⟩; obtain ⟨c0, c1, c2, c3, c4, c5, c6, c7, c8, c9, c10, c11⟩ := rfc hb2.out.box))
    | (go_at_call 32; first | ((with_reducible refine (H2.out _ (by assumption)).mono ?_); rintro e w2 ⟨rfl, hb2⟩; obtain ⟨c0, c1, c2, c3, c4, c5, c6, c7, c8, c9, c10, c11⟩ := rfc hb2.out.box) | ((with_reducible refine (H3.out _ (by assumption)).mono ?_); rintro e w2 ⟨rfl, hb2⟩; obtain ⟨c0, c1, c2, c3, c4, c5, c6, c7, c8, c9, c10, c11⟩ := rfc hb2.out.box)))
  go_ret
  exact ⟨rfl, RfK.below (Aside0.out (by assumption))⟩
set_option maxRecDepth 100000 in
set_option maxHeartbeats 8000000 in
theorem prc_M1a (x : Rf) (w : World) (hC : ChW w) (hs : x.s.size ≤ 140737488351232) (ht : x.t.size ≤ 140737488351232) (g1 : x.s.size = 0) (g2 : x.t.size = 0) (hf : x.f = false) (k1 : corB x.r x.q = false) : Calls Tryd.prog 17 #[.agg x.cs] w fun e w' => e = .returned (.int .i64 110) ∧ Below w.heap.size w w' := by
  have HJ0 : Aside0 (RfK w x _) := ⟨RfK.start hC⟩
  clear hC
  have H0 := Aside0.mk (RfK.on (w0 := w) (x := x) fun w1 _ => refs_corner.calls x.r x.q x.u x.v _ w1 (corner_is _ _ _ _))
  have H1 := Aside0.mk (RfK.on (w0 := w) (x := x) fun w1 _ => refs_corner.calls x.r2 x.q2 x.u2 x.v2 _ w1 (corner_is _ _ _ _))
  have H2 := Aside0.mk (RfK.on (w0 := w) (x := x) fun w1 h => sheet_calls x.s w1 h (by unfold maxLen; omega))
  have H3 := Aside0.mk (RfK.on (w0 := w) (x := x) fun w1 h => sheet_calls x.t w1 h (by unfold maxLen; omega))
  obtain ⟨c0, c1, c2, c3, c4, c5, c6, c7, c8, c9, c10, c11⟩ := rfc HJ0.out.box
  have e1 := toList_none g1
  have e2 := toList_none g2
  rw [k1] at H0
  clear g1 g2 k1
  obtain ⟨s, t, f, e, r, q, u, v, r2, q2, u2, v2⟩ := x
  simp only [] at *
  subst hf
  go_enter Tryd.func17, Tryd.ntmps17
  go_wp2_with (first
    | (go_at_call 33; first | ((with_reducible refine (H0.out _ (by assumption)).mono ?_); rintro e w2 ⟨rfl, hb2⟩; obtain ⟨c0, c1, c2, c3, c4, c5, c6, c7, c8, c9, c10, c11⟩ := rfc hb2.out.box) | ((with_reducible refine (H1.out _ (by assumption)).mono ?_); rintro e w2 ⟨rfl, hb2⟩; obtain ⟨c0, c1, c2, c3, c4, c5, c6, c7, c8, c9, c10, c11⟩ := rfc hb2.out.box))
    | (go_at_call 32; first | ((with_reducible refine (H2.out _ (by assumption)).mono ?_); rintro e w2 ⟨rfl, hb2⟩; obtain ⟨c0, c1, c2, c3, c4, c5, c6, c7, c8, c9, c10, c11⟩ := rfc hb2.out.box) | ((with_reducible refine (H3.out _ (by assumption)).mono ?_); rintro e w2 ⟨rfl, hb2⟩; obtain ⟨c0, c1, c2, c3, c4, c5, c6, c7, c8, c9, c10, c11⟩ := rfc hb2.out.box)))
  go_ret
  exact ⟨rfl, RfK.below (Aside0.out (by assumption))⟩
set_option maxRecDepth 100000 in
set_option maxHeartbeats 8000000 in
theorem prc_M2a (x : Rf) (w : World) (hC : ChW w) (hs : x.s.size ≤ 140737488351232) (ht : x.t.size ≤ 140737488351232) (g1 : x.s.size = 0) (g2 : x.t.size = 0) (hf : x.f = false) (k1 : corB x.r x.q = true) (he : x.e = true) (k2 : corB x.r2 x.q2 = false) : Calls Tryd.prog 17 #[.agg x.cs] w fun e w' => e = .returned (.int .i64 110) ∧ Below w.heap.size w w' := by
  have HJ0 : Aside0 (RfK w x _) := ⟨RfK.start hC⟩
  clear hC
  have H0 := Aside0.mk (RfK.on (w0 := w) (x := x) fun w1 _ => refs_corner.calls x.r x.q x.u x.v _ w1 (corner_is _ _ _ _))
  have H1 := Aside0.mk (RfK.on (w0 := w) (x := x) fun w1 _ => refs_corner.calls x.r2 x.q2 x.u2 x.v2 _ w1 (corner_is _ _ _ _))
  have H2 := Aside0.mk (RfK.on (w0 := w) (x := x) fun w1 h => sheet_calls x.s w1 h (by unfold maxLen; omega))
  have H3 := Aside0.mk (RfK.on (w0 := w) (x := x) fun w1 h => sheet_calls x.t w1 h (by unfold maxLen; omega))
  obtain ⟨c0, c1, c2, c3, c4, c5, c6, c7, c8, c9, c10, c11⟩ := rfc HJ0.out.box
  have e1 := toList_none g1
  have e2 := toList_none g2
  rw [k1] at H0
  rw [k2] at H1
  clear g1 g2 k1 k2
  obtain ⟨s, t, f, e, r, q, u, v, r2, q2, u2, v2⟩ := x
  simp only [] at *
  subst hf he
  go_enter Tryd.func17, Tryd.ntmps17
  go_wp2_with (first
    | (go_at_call 33; first | ((with_reducible refine (H0.out _ (by assumption)).mono ?_); rintro e w2 ⟨rfl, hb2⟩; obtain ⟨c0, c1, c2, c3, c4, c5, c6, c7, c8, c9, c10, c11⟩ := rfc hb2.out.box) | ((with_reducible refine (H1.out _ (by assumption)).mono ?_); rintro e w2 ⟨rfl, hb2⟩; obtain ⟨c0, c1, c2, c3, c4, c5, c6, c7, c8, c9, c10, c11⟩ := rfc hb2.out.box))
    | (go_at_call 32; first | ((with_reducible refine (H2.out _ (by assumption)).mono ?_); rintro e w2 ⟨rfl, hb2⟩; obtain ⟨c0, c1, c2, c3, c4, c5, c6, c7, c8, c9, c10, c11⟩ := rfc hb2.out.box) | ((with_reducible refine (H3.out _ (by assumption)).mono ?_); rintro e w2 ⟨rfl, hb2⟩; obtain ⟨c0, c1, c2, c3, c4, c5, c6, c7, c8, c9, c10, c11⟩ := rfc hb2.out.box)))
  go_ret
  exact ⟨rfl, RfK.below (Aside0.out (by assumption))⟩
set_option maxRecDepth 100000 in
set_option maxHeartbeats 8000000 in
theorem prc_M3a (x : Rf) (w : World) (hC : ChW w) (hs : x.s.size ≤ 140737488351232) (ht : x.t.size ≤ 140737488351232) (g1 : x.s.size = 0) (g2 : x.t.size = 0) (hf : x.f = false) (k1 : corB x.r x.q = true) (he : x.e = false) (hb : ¬ (x.r2 = 0 ∧ x.q2 = 0 ∧ x.u2 = false ∧ x.v2 = false)) : Calls Tryd.prog 17 #[.agg x.cs] w fun e w' => e = .returned (.int .i64 110) ∧ Below w.heap.size w w' := by
  have HJ0 : Aside0 (RfK w x _) := ⟨RfK.start hC⟩
  clear hC
  have H0 := Aside0.mk (RfK.on (w0 := w) (x := x) fun w1 _ => refs_corner.calls x.r x.q x.u x.v _ w1 (corner_is _ _ _ _))
  have H1 := Aside0.mk (RfK.on (w0 := w) (x := x) fun w1 _ => refs_corner.calls x.r2 x.q2 x.u2 x.v2 _ w1 (corner_is _ _ _ _))
  have H2 := Aside0.mk (RfK.on (w0 := w) (x := x) fun w1 h => sheet_calls x.s w1 h (by unfold maxLen; omega))
  have H3 := Aside0.mk (RfK.on (w0 := w) (x := x) fun w1 h => sheet_calls x.t w1 h (by unfold maxLen; omega))
  obtain ⟨c0, c1, c2, c3, c4, c5, c6, c7, c8, c9, c10, c11⟩ := rfc HJ0.out.box
  have e1 := toList_none g1
  have e2 := toList_none g2
  rw [k1] at H0
  have HB := Aside0.mk hb
  clear g1 g2 k1 hb
  obtain ⟨s, t, f, e, r, q, u, v, r2, q2, u2, v2⟩ := x
  simp only [] at *
  subst hf he
  go_enter Tryd.func17, Tryd.ntmps17
  go_wp2_with (first
    | (go_at_call 33; first | ((with_reducible refine (H0.out _ (by assumption)).mono ?_); rintro e w2 ⟨rfl, hb2⟩; obtain ⟨c0, c1, c2, c3, c4, c5, c6, c7, c8, c9, c10, c11⟩ := rfc hb2.out.box) | ((with_reducible refine (H1.out _ (by assumption)).mono ?_); rintro e w2 ⟨rfl, hb2⟩; obtain ⟨c0, c1, c2, c3, c4, c5, c6, c7, c8, c9, c10, c11⟩ := rfc hb2.out.box))
    | (go_at_call 32; first | ((with_reducible refine (H2.out _ (by assumption)).mono ?_); rintro e w2 ⟨rfl, hb2⟩; obtain ⟨c0, c1, c2, c3, c4, c5, c6, c7, c8, c9, c10, c11⟩ := rfc hb2.out.box) | ((with_reducible refine (H3.out _ (by assumption)).mono ?_); rintro e w2 ⟨rfl, hb2⟩; obtain ⟨c0, c1, c2, c3, c4, c5, c6, c7, c8, c9, c10, c11⟩ := rfc hb2.out.box)))
  all_goals first | (go_ret; exact ⟨rfl, RfK.below (Aside0.out (by assumption))⟩) | (exfalso; apply HB.out; simp_all; done)
set_option maxRecDepth 100000 in
set_option maxHeartbeats 8000000 in
theorem prc_M1b (x : Rf) (w : World) (hC : ChW w) (hs : x.s.size ≤ 140737488351232) (ht : x.t.size ≤ 140737488351232) (g1 : 0 < x.s.size) (n1 : nmOK x.s = true) (g2 : x.t.size = 0) (k1 : corB x.r x.q = false) : Calls Tryd.prog 17 #[.agg x.cs] w fun e w' => e = .returned (.int .i64 110) ∧ Below w.heap.size w w' := by
  have HJ0 : Aside0 (RfK w x _) := ⟨RfK.start hC⟩
  clear hC
  have H0 := Aside0.mk (RfK.on (w0 := w) (x := x) fun w1 _ => refs_corner.calls x.r x.q x.u x.v _ w1 (corner_is _ _ _ _))
  have H1 := Aside0.mk (RfK.on (w0 := w) (x := x) fun w1 _ => refs_corner.calls x.r2 x.q2 x.u2 x.v2 _ w1 (corner_is _ _ _ _))
  have H2 := Aside0.mk (RfK.on (w0 := w) (x := x) fun w1 h => sheet_calls x.s w1 h (by unfold maxLen; omega))
  have H3 := Aside0.mk (RfK.on (w0 := w) (x := x) fun w1 h => sheet_calls x.t w1 h (by unfold maxLen; omega))
  obtain ⟨c0, c1, c2, c3, c4, c5, c6, c7, c8, c9, c10, c11⟩ := rfc HJ0.out.box
  have e1 := toList_some g1
  rw [n1] at H2
  have e2 := toList_none g2
  rw [k1] at H0
  clear g1 n1 g2 k1
  obtain ⟨s, t, f, e, r, q, u, v, r2, q2, u2, v2⟩ := x
  simp only [] at *
  go_enter Tryd.func17, Tryd.ntmps17
  go_wp2_with (first
    | (go_at_call 33; first | ((with_reducible refine (H0.out _ (by assumption)).mono ?_); rintro e w2 ⟨rfl, hb2⟩; obtain ⟨c0, c1, c2, c3, c4, c5, c6, c7, c8, c9, c10, c11⟩ := rfc hb2.out.box) | ((with_reducible refine (H1.out _ (by assumption)).mono ?_); rintro e w2 ⟨rfl, hb2⟩; obtain ⟨c0, c1, c2, c3, c4, c5, c6, c7, c8, c9, c10, c11⟩ := rfc hb2.out.box))
    | (go_at_call 32; first | ((with_reducible refine (H2.out _ (by assumption)).mono ?_); rintro e w2 ⟨rfl, hb2⟩; obtain ⟨c0, c1, c2, c3, c4, c5, c6, c7, c8, c9, c10, c11⟩ := rfc hb2.out.box) | ((with_reducible refine (H3.out _ (by assumption)).mono ?_); rintro e w2 ⟨rfl, hb2⟩; obtain ⟨c0, c1, c2, c3, c4, c5, c6, c7, c8, c9, c10, c11⟩ := rfc hb2.out.box)))
  go_ret
  exact ⟨rfl, RfK.below (Aside0.out (by assumption))⟩
set_option maxRecDepth 100000 in
set_option maxHeartbeats 8000000 in
theorem prc_M2b (x : Rf) (w : World) (hC : ChW w) (hs : x.s.size ≤ 140737488351232) (ht : x.t.size ≤ 140737488351232) (g1 : 0 < x.s.size) (n1 : nmOK x.s = true) (g2 : x.t.size = 0) (k1 : corB x.r x.q = true) (he : x.e = true) (k2 : corB x.r2 x.q2 = false) : Calls Tryd.prog 17 #[.agg x.cs] w fun e w' => e = .returned (.int .i64 110) ∧ Below w.heap.size w w' := by
  have HJ0 : Aside0 (RfK w x _) := ⟨RfK.start hC⟩
  clear hC
  have H0 := Aside0.mk (RfK.on (w0 := w) (x := x) fun w1 _ => refs_corner.calls x.r x.q x.u x.v _ w1 (corner_is _ _ _ _))
  have H1 := Aside0.mk (RfK.on (w0 := w) (x := x) fun w1 _ => refs_corner.calls x.r2 x.q2 x.u2 x.v2 _ w1 (corner_is _ _ _ _))
  have H2 := Aside0.mk (RfK.on (w0 := w) (x := x) fun w1 h => sheet_calls x.s w1 h (by unfold maxLen; omega))
  have H3 := Aside0.mk (RfK.on (w0 := w) (x := x) fun w1 h => sheet_calls x.t w1 h (by unfold maxLen; omega))
  obtain ⟨c0, c1, c2, c3, c4, c5, c6, c7, c8, c9, c10, c11⟩ := rfc HJ0.out.box
  have e1 := toList_some g1
  rw [n1] at H2
  have e2 := toList_none g2
  rw [k1] at H0
  rw [k2] at H1
  clear g1 n1 g2 k1 k2
  obtain ⟨s, t, f, e, r, q, u, v, r2, q2, u2, v2⟩ := x
  simp only [] at *
  subst he
  go_enter Tryd.func17, Tryd.ntmps17
  go_wp2_with (first
    | (go_at_call 33; first | ((with_reducible refine (H0.out _ (by assumption)).mono ?_); rintro e w2 ⟨rfl, hb2⟩; obtain ⟨c0, c1, c2, c3, c4, c5, c6, c7, c8, c9, c10, c11⟩ := rfc hb2.out.box) | ((with_reducible refine (H1.out _ (by assumption)).mono ?_); rintro e w2 ⟨rfl, hb2⟩; obtain ⟨c0, c1, c2, c3, c4, c5, c6, c7, c8, c9, c10, c11⟩ := rfc hb2.out.box))
    | (go_at_call 32; first | ((with_reducible refine (H2.out _ (by assumption)).mono ?_); rintro e w2 ⟨rfl, hb2⟩; obtain ⟨c0, c1, c2, c3, c4, c5, c6, c7, c8, c9, c10, c11⟩ := rfc hb2.out.box) | ((with_reducible refine (H3.out _ (by assumption)).mono ?_); rintro e w2 ⟨rfl, hb2⟩; obtain ⟨c0, c1, c2, c3, c4, c5, c6, c7, c8, c9, c10, c11⟩ := rfc hb2.out.box)))
  go_ret
  exact ⟨rfl, RfK.below (Aside0.out (by assumption))⟩
set_option maxRecDepth 100000 in
set_option maxHeartbeats 8000000 in
theorem prc_M3b (x : Rf) (w : World) (hC : ChW w) (hs : x.s.size ≤ 140737488351232) (ht : x.t.size ≤ 140737488351232) (g1 : 0 < x.s.size) (n1 : nmOK x.s = true) (g2 : x.t.size = 0) (k1 : corB x.r x.q = true) (he : x.e = false) (hb : ¬ (x.r2 = 0 ∧ x.q2 = 0 ∧ x.u2 = false ∧ x.v2 = false)) : Calls Tryd.prog 17 #[.agg x.cs] w fun e w' => e = .returned (.int .i64 110) ∧ Below w.heap.size w w' := by
  have HJ0 : Aside0 (RfK w x _) := ⟨RfK.start hC⟩
  clear hC
  have H0 := Aside0.mk (RfK.on (w0 := w) (x := x) fun w1 _ => refs_corner.calls x.r x.q x.u x.v _ w1 (corner_is _ _ _ _))
  have H1 := Aside0.mk (RfK.on (w0 := w) (x := x) fun w1 _ => refs_corner.calls x.r2 x.q2 x.u2 x.v2 _ w1 (corner_is _ _ _ _))
  have H2 := Aside0.mk (RfK.on (w0 := w) (x := x) fun w1 h => sheet_calls x.s w1 h (by unfold maxLen; omega))
  have H3 := Aside0.mk (RfK.on (w0 := w) (x := x) fun w1 h => sheet_calls x.t w1 h (by unfold maxLen; omega))
  obtain ⟨c0, c1, c2, c3, c4, c5, c6, c7, c8, c9, c10, c11⟩ := rfc HJ0.out.box
  have e1 := toList_some g1
  rw [n1] at H2
  have e2 := toList_none g2
  rw [k1] at H0
  have HB := Aside0.mk hb
  clear g1 n1 g2 k1 hb
  obtain ⟨s, t, f, e, r, q, u, v, r2, q2, u2, v2⟩ := x
  simp only [] at *
  subst he
  go_enter Tryd.func17, Tryd.ntmps17
  go_wp2_with (first
    | (go_at_call 33; first | ((with_reducible refine (H0.out _ (by assumption)).mono ?_); rintro e w2 ⟨rfl, hb2⟩; obtain ⟨c0, c1, c2, c3, c4, c5, c6, c7, c8, c9, c10, c11⟩ := rfc hb2.out.box) | ((with_reducible refine (H1.out _ (by assumption)).mono ?_); rintro e w2 ⟨rfl, hb2⟩; obtain ⟨c0, c1, c2, c3, c4, c5, c6, c7, c8, c9, c10, c11⟩ := rfc hb2.out.box))
    | (go_at_call 32; first | ((with_reducible refine (H2.out _ (by assumption)).mono ?_); rintro e w2 ⟨rfl, hb2⟩; obtain ⟨c0, c1, c2, c3, c4, c5, c6, c7, c8, c9, c10, c11⟩ := rfc hb2.out.box) | ((with_reducible refine (H3.out _ (by assumption)).mono ?_); rintro e w2 ⟨rfl, hb2⟩; obtain ⟨c0, c1, c2, c3, c4, c5, c6, c7, c8, c9, c10, c11⟩ := rfc hb2.out.box)))
  all_goals first | (go_ret; exact ⟨rfl, RfK.below (Aside0.out (by assumption))⟩) | (exfalso; apply HB.out; simp_all; done)
set_option maxRecDepth 100000 in
set_option maxHeartbeats 8000000 in
theorem prc_M1c (x : Rf) (w : World) (hC : ChW w) (hs : x.s.size ≤ 140737488351232) (ht : x.t.size ≤ 140737488351232) (g1 : 0 < x.s.size) (n1 : nmOK x.s = true) (g2 : 0 < x.t.size) (n2 : nmOK x.t = true) (k1 : corB x.r x.q = false) : Calls Tryd.prog 17 #[.agg x.cs] w fun e w' => e = .returned (.int .i64 110) ∧ Below w.heap.size w w' := by
  have HJ0 : Aside0 (RfK w x _) := ⟨RfK.start hC⟩
  clear hC
  have H0 := Aside0.mk (RfK.on (w0 := w) (x := x) fun w1 _ => refs_corner.calls x.r x.q x.u x.v _ w1 (corner_is _ _ _ _))
  have H1 := Aside0.mk (RfK.on (w0 := w) (x := x) fun w1 _ => refs_corner.calls x.r2 x.q2 x.u2 x.v2 _ w1 (corner_is _ _ _ _))
  have H2 := Aside0.mk (RfK.on (w0 := w) (x := x) fun w1 h => sheet_calls x.s w1 h (by unfold maxLen; omega))
  have H3 := Aside0.mk (RfK.on (w0 := w) (x := x) fun w1 h => sheet_calls x.t w1 h (by unfold maxLen; omega))
  obtain ⟨c0, c1, c2, c3, c4, c5, c6, c7, c8, c9, c10, c11⟩ := rfc HJ0.out.box
  have e1 := toList_some g1
  rw [n1] at H2
  have e2 := toList_some g2
  rw [n2] at H3
  rw [k1] at H0
  clear g1 n1 g2 n2 k1
  obtain ⟨s, t, f, e, r, q, u, v, r2, q2, u2, v2⟩ := x
  simp only [] at *
  go_enter Tryd.func17, Tryd.ntmps17
  go_wp2_with (first
    | (go_at_call 33; first | ((with_reducible refine (H0.out _ (by assumption)).mono ?_); rintro e w2 ⟨rfl, hb2⟩; obtain ⟨c0, c1, c2, c3, c4, c5, c6, c7, c8, c9, c10, c11⟩ := rfc hb2.out.box) | ((with_reducible refine (H1.out _ (by assumption)).mono ?_); rintro e w2 ⟨rfl, hb2⟩; obtain ⟨c0, c1, c2, c3, c4, c5, c6, c7, c8, c9, c10, c11⟩ := rfc hb2.out.box))
    | (go_at_call 32; first | ((with_reducible refine (H2.out _ (by assumption)).mono ?_); rintro e w2 ⟨rfl, hb2⟩; obtain ⟨c0, c1, c2, c3, c4, c5, c6, c7, c8, c9, c10, c11⟩ := rfc hb2.out.box) | ((with_reducible refine (H3.out _ (by assumption)).mono ?_); rintro e w2 ⟨rfl, hb2⟩; obtain ⟨c0, c1, c2, c3, c4, c5, c6, c7, c8, c9, c10, c11⟩ := rfc hb2.out.box)))
  go_ret
  exact ⟨rfl, RfK.below (Aside0.out (by assumption))⟩
set_option maxRecDepth 100000 in
set_option maxHeartbeats 8000000 in
theorem prc_M2c (x : Rf) (w : World) (hC : ChW w) (hs : x.s.size ≤ 140737488351232) (ht : x.t.size ≤ 140737488351232) (g1 : 0 < x.s.size) (n1 : nmOK x.s = true) (g2 : 0 < x.t.size) (n2 : nmOK x.t = true) (k1 : corB x.r x.q = true) (he : x.e = true) (k2 : corB x.r2 x.q2 = false) : Calls Tryd.prog 17 #[.agg x.cs] w fun e w' => e = .returned (.int .i64 110) ∧ Below w.heap.size w w' := by
  have HJ0 : Aside0 (RfK w x _) := ⟨RfK.start hC⟩
  clear hC
  have H0 := Aside0.mk (RfK.on (w0 := w) (x := x) fun w1 _ => refs_corner.calls x.r x.q x.u x.v _ w1 (corner_is _ _ _ _))
  have H1 := Aside0.mk (RfK.on (w0 := w) (x := x) fun w1 _ => refs_corner.calls x.r2 x.q2 x.u2 x.v2 _ w1 (corner_is _ _ _ _))
  have H2 := Aside0.mk (RfK.on (w0 := w) (x := x) fun w1 h => sheet_calls x.s w1 h (by unfold maxLen; omega))
  have H3 := Aside0.mk (RfK.on (w0 := w) (x := x) fun w1 h => sheet_calls x.t w1 h (by unfold maxLen; omega))
  obtain ⟨c0, c1, c2, c3, c4, c5, c6, c7, c8, c9, c10, c11⟩ := rfc HJ0.out.box
  have e1 := toList_some g1
  rw [n1] at H2
  have e2 := toList_some g2
  rw [n2] at H3
  rw [k1] at H0
  rw [k2] at H1
  clear g1 n1 g2 n2 k1 k2
  obtain ⟨s, t, f, e, r, q, u, v, r2, q2, u2, v2⟩ := x
  simp only [] at *
  subst he
  go_enter Tryd.func17, Tryd.ntmps17
  go_wp2_with (first
    | (go_at_call 33; first | ((with_reducible refine (H0.out _ (by assumption)).mono ?_); rintro e w2 ⟨rfl, hb2⟩; obtain ⟨c0, c1, c2, c3, c4, c5, c6, c7, c8, c9, c10, c11⟩ := rfc hb2.out.box) | ((with_reducible refine (H1.out _ (by assumption)).mono ?_); rintro e w2 ⟨rfl, hb2⟩; obtain ⟨c0, c1, c2, c3, c4, c5, c6, c7, c8, c9, c10, c11⟩ := rfc hb2.out.box))
    | (go_at_call 32; first | ((with_reducible refine (H2.out _ (by assumption)).mono ?_); rintro e w2 ⟨rfl, hb2⟩; obtain ⟨c0, c1, c2, c3, c4, c5, c6, c7, c8, c9, c10, c11⟩ := rfc hb2.out.box) | ((with_reducible refine (H3.out _ (by assumption)).mono ?_); rintro e w2 ⟨rfl, hb2⟩; obtain ⟨c0, c1, c2, c3, c4, c5, c6, c7, c8, c9, c10, c11⟩ := rfc hb2.out.box)))
  go_ret
  exact ⟨rfl, RfK.below (Aside0.out (by assumption))⟩
set_option maxRecDepth 100000 in
set_option maxHeartbeats 8000000 in
theorem prc_M3c (x : Rf) (w : World) (hC : ChW w) (hs : x.s.size ≤ 140737488351232) (ht : x.t.size ≤ 140737488351232) (g1 : 0 < x.s.size) (n1 : nmOK x.s = true) (g2 : 0 < x.t.size) (n2 : nmOK x.t = true) (k1 : corB x.r x.q = true) (he : x.e = false) (hb : ¬ (x.r2 = 0 ∧ x.q2 = 0 ∧ x.u2 = false ∧ x.v2 = false)) : Calls Tryd.prog 17 #[.agg x.cs] w fun e w' => e = .returned (.int .i64 110) ∧ Below w.heap.size w w' := by
  have HJ0 : Aside0 (RfK w x _) := ⟨RfK.start hC⟩
  clear hC
  have H0 := Aside0.mk (RfK.on (w0 := w) (x := x) fun w1 _ => refs_corner.calls x.r x.q x.u x.v _ w1 (corner_is _ _ _ _))
  have H1 := Aside0.mk (RfK.on (w0 := w) (x := x) fun w1 _ => refs_corner.calls x.r2 x.q2 x.u2 x.v2 _ w1 (corner_is _ _ _ _))
  have H2 := Aside0.mk (RfK.on (w0 := w) (x := x) fun w1 h => sheet_calls x.s w1 h (by unfold maxLen; omega))
  have H3 := Aside0.mk (RfK.on (w0 := w) (x := x) fun w1 h => sheet_calls x.t w1 h (by unfold maxLen; omega))
  obtain ⟨c0, c1, c2, c3, c4, c5, c6, c7, c8, c9, c10, c11⟩ := rfc HJ0.out.box
  have e1 := toList_some g1
  rw [n1] at H2
  have e2 := toList_some g2
  rw [n2] at H3
  rw [k1] at H0
  have HB := Aside0.mk hb
  clear g1 n1 g2 n2 k1 hb
  obtain ⟨s, t, f, e, r, q, u, v, r2, q2, u2, v2⟩ := x
  simp only [] at *
  subst he
  go_enter Tryd.func17, Tryd.ntmps17
  go_wp2_with (first
    | (go_at_call 33; first | ((with_reducible refine (H0.out _ (by assumption)).mono ?_); rintro e w2 ⟨rfl, hb2⟩; obtain ⟨c0, c1, c2, c3, c4, c5, c6, c7, c8, c9, c10, c11⟩ := rfc hb2.out.box) | ((with_reducible refine (H1.out _ (by assumption)).mono ?_); rintro e w2 ⟨rfl, hb2⟩; obtain ⟨c0, c1, c2, c3, c4, c5, c6, c7, c8, c9, c10, c11⟩ := rfc hb2.out.box))
    | (go_at_call 32; first | ((with_reducible refine (H2.out _ (by assumption)).mono ?_); rintro e w2 ⟨rfl, hb2⟩; obtain ⟨c0, c1, c2, c3, c4, c5, c6, c7, c8, c9, c10, c11⟩ := rfc hb2.out.box) | ((with_reducible refine (H3.out _ (by assumption)).mono ?_); rintro e w2 ⟨rfl, hb2⟩; obtain ⟨c0, c1, c2, c3, c4, c5, c6, c7, c8, c9, c10, c11⟩ := rfc hb2.out.box)))
  all_goals first | (go_ret; exact ⟨rfl, RfK.below (Aside0.out (by assumption))⟩) | (exfalso; apply HB.out; simp_all; done)
set_option maxRecDepth 100000 in
set_option maxHeartbeats 8000000 in
theorem prc_M4c (x : Rf) (w : World) (hC : ChW w) (hs : x.s.size ≤ 140737488351232) (ht : x.t.size ≤ 140737488351232) (g1 : 0 < x.s.size) (n1 : nmOK x.s = true) (g2 : 0 < x.t.size) (n2 : nmOK x.t = true) (k1 : corB x.r x.q = true) (he : x.e = false) (b1 : x.r2 = 0) (b2 : x.q2 = 0) (b3 : x.u2 = false) (b4 : x.v2 = false) : Calls Tryd.prog 17 #[.agg x.cs] w fun e w' => e = .returned (.int .i64 110) ∧ Below w.heap.size w w' := by
  have HJ0 : Aside0 (RfK w x _) := ⟨RfK.start hC⟩
  clear hC
  have H0 := Aside0.mk (RfK.on (w0 := w) (x := x) fun w1 _ => refs_corner.calls x.r x.q x.u x.v _ w1 (corner_is _ _ _ _))
  have H1 := Aside0.mk (RfK.on (w0 := w) (x := x) fun w1 _ => refs_corner.calls x.r2 x.q2 x.u2 x.v2 _ w1 (corner_is _ _ _ _))
  have H2 := Aside0.mk (RfK.on (w0 := w) (x := x) fun w1 h => sheet_calls x.s w1 h (by unfold maxLen; omega))
  have H3 := Aside0.mk (RfK.on (w0 := w) (x := x) fun w1 h => sheet_calls x.t w1 h (by unfold maxLen; omega))
  obtain ⟨c0, c1, c2, c3, c4, c5, c6, c7, c8, c9, c10, c11⟩ := rfc HJ0.out.box
  have e1 := toList_some g1
  rw [n1] at H2
  have e2 := toList_some g2
  rw [n2] at H3
  rw [k1] at H0
  clear g1 n1 g2 n2 k1
  obtain ⟨s, t, f, e, r, q, u, v, r2, q2, u2, v2⟩ := x
  simp only [] at *
  subst he b1 b2 b3 b4
  go_enter Tryd.func17, Tryd.ntmps17
  go_wp2_with (first
    | (go_at_call 33; first | ((with_reducible refine (H0.out _ (by assumption)).mono ?_); rintro e w2 ⟨rfl, hb2⟩; obtain ⟨c0, c1, c2, c3, c4, c5, c6, c7, c8, c9, c10, c11⟩ := rfc hb2.out.box) | ((with_reducible refine (H1.out _ (by assumption)).mono ?_); rintro e w2 ⟨rfl, hb2⟩; obtain ⟨c0, c1, c2, c3, c4, c5, c6, c7, c8, c9, c10, c11⟩ := rfc hb2.out.box))
    | (go_at_call 32; first | ((with_reducible refine (H2.out _ (by assumption)).mono ?_); rintro e w2 ⟨rfl, hb2⟩; obtain ⟨c0, c1, c2, c3, c4, c5, c6, c7, c8, c9, c10, c11⟩ := rfc hb2.out.box) | ((with_reducible refine (H3.out _ (by assumption)).mono ?_); rintro e w2 ⟨rfl, hb2⟩; obtain ⟨c0, c1, c2, c3, c4, c5, c6, c7, c8, c9, c10, c11⟩ := rfc hb2.out.box)))
  go_ret
  exact ⟨rfl, RfK.below (Aside0.out (by assumption))⟩
set_option maxRecDepth 100000 in
set_option maxHeartbeats 8000000 in
theorem rrcheck_ok (x : Rf) (w : World) (hC : ChW w) (hs : x.s.size ≤ 140737488351232) (ht : x.t.size ≤ 140737488351232) (hx : okR x) : Calls Tryd.prog 18 #[.agg x.cs] w fun e w' => e = .returned (.int .i64 0) ∧ Below w.heap.size w w' := by
  obtain ⟨o1, o2, o3, o4, o5, o6⟩ := hx
  have HJ0 : Aside0 (RfK w x _) := ⟨RfK.start hC⟩
  clear hC
  have H0 := Aside0.mk (RfK.on (w0 := w) (x := x) fun w1 _ => gridironref11_corner.calls x.r x.q x.u x.v _ w1 (rcorner_is _ _ _ _))
  have H1 := Aside0.mk (RfK.on (w0 := w) (x := x) fun w1 _ => gridironref11_corner.calls x.r2 x.q2 x.u2 x.v2 _ w1 (rcorner_is _ _ _ _))
  have H2 := Aside0.mk (RfK.on (w0 := w) (x := x) fun w1 h => rsheet_calls x.s w1 h (by unfold maxLen; omega))
  have H3 := Aside0.mk (RfK.on (w0 := w) (x := x) fun w1 h => rsheet_calls x.t w1 h (by unfold maxLen; omega))
  obtain ⟨c0, c1, c2, c3, c4, c5, c6, c7, c8, c9, c10, c11⟩ := rfc HJ0.out.box
  rw [o4] at H0
  have hst : (x.s.size = 0 ∧ x.t.size = 0) ∨ (0 < x.s.size ∧ x.t.size = 0) ∨ (0 < x.s.size ∧ 0 < x.t.size) := by
    by_cases g : x.s.size = 0
    · exact .inl ⟨g, (o3 g).1⟩
    · by_cases g' : x.t.size = 0
      · exact .inr (.inl ⟨by omega, g'⟩)
      · exact .inr (.inr ⟨by omega, by omega⟩)
  obtain ⟨s, t, f, e, r, q, u, v, r2, q2, u2, v2⟩ := x
  simp only [] at *
  rcases hst with ⟨g1, g2⟩ | ⟨g1, g2⟩ | ⟨g1, g2⟩ <;> cases e
  · obtain ⟨rfl, rfl, rfl, rfl, _⟩ := o6 rfl
    obtain rfl := (o3 g1).2
    have e1 := toList_none g1
    have e2 := toList_none g2
    clear o1 o2 o3 o5 o6 g1 g2
    go_enter Tryd.func18, Tryd.ntmps18
    go_wp2_with (first
      | (go_at_call 35; first | ((with_reducible refine (H0.out _ (by assumption)).mono ?_); rintro e w2 ⟨rfl, hb2⟩; obtain ⟨c0, c1, c2, c3, c4, c5, c6, c7, c8, c9, c10, c11⟩ := rfc hb2.out.box) | ((with_reducible refine (H1.out _ (by assumption)).mono ?_); rintro e w2 ⟨rfl, hb2⟩; obtain ⟨c0, c1, c2, c3, c4, c5, c6, c7, c8, c9, c10, c11⟩ := rfc hb2.out.box))
      | (go_at_call 34; first | ((with_reducible refine (H2.out _ (by assumption)).mono ?_); rintro e w2 ⟨rfl, hb2⟩; obtain ⟨c0, c1, c2, c3, c4, c5, c6, c7, c8, c9, c10, c11⟩ := rfc hb2.out.box) | ((with_reducible refine (H3.out _ (by assumption)).mono ?_); rintro e w2 ⟨rfl, hb2⟩; obtain ⟨c0, c1, c2, c3, c4, c5, c6, c7, c8, c9, c10, c11⟩ := rfc hb2.out.box)))
    go_ret
    exact ⟨rfl, RfK.below (Aside0.out (by assumption))⟩
  · rw [o5 rfl] at H1
    obtain rfl := (o3 g1).2
    have e1 := toList_none g1
    have e2 := toList_none g2
    clear o1 o2 o3 o5 o6 g1 g2
    go_enter Tryd.func18, Tryd.ntmps18
    go_wp2_with (first
      | (go_at_call 35; first | ((with_reducible refine (H0.out _ (by assumption)).mono ?_); rintro e w2 ⟨rfl, hb2⟩; obtain ⟨c0, c1, c2, c3, c4, c5, c6, c7, c8, c9, c10, c11⟩ := rfc hb2.out.box) | ((with_reducible refine (H1.out _ (by assumption)).mono ?_); rintro e w2 ⟨rfl, hb2⟩; obtain ⟨c0, c1, c2, c3, c4, c5, c6, c7, c8, c9, c10, c11⟩ := rfc hb2.out.box))
      | (go_at_call 34; first | ((with_reducible refine (H2.out _ (by assumption)).mono ?_); rintro e w2 ⟨rfl, hb2⟩; obtain ⟨c0, c1, c2, c3, c4, c5, c6, c7, c8, c9, c10, c11⟩ := rfc hb2.out.box) | ((with_reducible refine (H3.out _ (by assumption)).mono ?_); rintro e w2 ⟨rfl, hb2⟩; obtain ⟨c0, c1, c2, c3, c4, c5, c6, c7, c8, c9, c10, c11⟩ := rfc hb2.out.box)))
    go_ret
    exact ⟨rfl, RfK.below (Aside0.out (by assumption))⟩
  · obtain ⟨rfl, rfl, rfl, rfl, _⟩ := o6 rfl
    rw [o1 g1] at H2
    have e1 := toList_some g1
    have e2 := toList_none g2
    clear o1 o2 o3 o5 o6 g1 g2
    go_enter Tryd.func18, Tryd.ntmps18
    go_wp2_with (first
      | (go_at_call 35; first | ((with_reducible refine (H0.out _ (by assumption)).mono ?_); rintro e w2 ⟨rfl, hb2⟩; obtain ⟨c0, c1, c2, c3, c4, c5, c6, c7, c8, c9, c10, c11⟩ := rfc hb2.out.box) | ((with_reducible refine (H1.out _ (by assumption)).mono ?_); rintro e w2 ⟨rfl, hb2⟩; obtain ⟨c0, c1, c2, c3, c4, c5, c6, c7, c8, c9, c10, c11⟩ := rfc hb2.out.box))
      | (go_at_call 34; first | ((with_reducible refine (H2.out _ (by assumption)).mono ?_); rintro e w2 ⟨rfl, hb2⟩; obtain ⟨c0, c1, c2, c3, c4, c5, c6, c7, c8, c9, c10, c11⟩ := rfc hb2.out.box) | ((with_reducible refine (H3.out _ (by assumption)).mono ?_); rintro e w2 ⟨rfl, hb2⟩; obtain ⟨c0, c1, c2, c3, c4, c5, c6, c7, c8, c9, c10, c11⟩ := rfc hb2.out.box)))
    go_ret
    exact ⟨rfl, RfK.below (Aside0.out (by assumption))⟩
  · rw [o5 rfl] at H1
    rw [o1 g1] at H2
    have e1 := toList_some g1
    have e2 := toList_none g2
    clear o1 o2 o3 o5 o6 g1 g2
    go_enter Tryd.func18, Tryd.ntmps18
    go_wp2_with (first
      | (go_at_call 35; first | ((with_reducible refine (H0.out _ (by assumption)).mono ?_); rintro e w2 ⟨rfl, hb2⟩; obtain ⟨c0, c1, c2, c3, c4, c5, c6, c7, c8, c9, c10, c11⟩ := rfc hb2.out.box) | ((with_reducible refine (H1.out _ (by assumption)).mono ?_); rintro e w2 ⟨rfl, hb2⟩; obtain ⟨c0, c1, c2, c3, c4, c5, c6, c7, c8, c9, c10, c11⟩ := rfc hb2.out.box))
      | (go_at_call 34; first | ((with_reducible refine (H2.out _ (by assumption)).mono ?_); rintro e w2 ⟨rfl, hb2⟩; obtain ⟨c0, c1, c2, c3, c4, c5, c6, c7, c8, c9, c10, c11⟩ := rfc hb2.out.box) | ((with_reducible refine (H3.out _ (by assumption)).mono ?_); rintro e w2 ⟨rfl, hb2⟩; obtain ⟨c0, c1, c2, c3, c4, c5, c6, c7, c8, c9, c10, c11⟩ := rfc hb2.out.box)))
    go_ret
    exact ⟨rfl, RfK.below (Aside0.out (by assumption))⟩
  · exact absurd (o6 rfl).2.2.2.2 (by omega)
  · rw [o5 rfl] at H1
    rw [o1 g1] at H2
    have e1 := toList_some g1
    rw [o2 g2] at H3
    have e2 := toList_some g2
    clear o1 o2 o3 o5 o6 g1 g2
    go_enter Tryd.func18, Tryd.ntmps18
    go_wp2_with (first
      | (go_at_call 35; first | ((with_reducible refine (H0.out _ (by assumption)).mono ?_); rintro e w2 ⟨rfl, hb2⟩; obtain ⟨c0, c1, c2, c3, c4, c5, c6, c7, c8, c9, c10, c11⟩ := rfc hb2.out.box) | ((with_reducible refine (H1.out _ (by assumption)).mono ?_); rintro e w2 ⟨rfl, hb2⟩; obtain ⟨c0, c1, c2, c3, c4, c5, c6, c7, c8, c9, c10, c11⟩ := rfc hb2.out.box))
      | (go_at_call 34; first | ((with_reducible refine (H2.out _ (by assumption)).mono ?_); rintro e w2 ⟨rfl, hb2⟩; obtain ⟨c0, c1, c2, c3, c4, c5, c6, c7, c8, c9, c10, c11⟩ := rfc hb2.out.box) | ((with_reducible refine (H3.out _ (by assumption)).mono ?_); rintro e w2 ⟨rfl, hb2⟩; obtain ⟨c0, c1, c2, c3, c4, c5, c6, c7, c8, c9, c10, c11⟩ := rfc hb2.out.box)))
    go_ret
    exact ⟨rfl, RfK.below (Aside0.out (by assumption))⟩
set_option maxRecDepth 100000 in
set_option maxHeartbeats 8000000 in
theorem rrc_L1 (x : Rf) (w : World) (hC : ChW w) (hs : x.s.size ≤ 140737488351232) (ht : x.t.size ≤ 140737488351232) (g1 : 0 < x.s.size) (n1 : nmOK x.s = false) : Calls Tryd.prog 18 #[.agg x.cs] w fun e w' => e = .returned (.int .i64 111) ∧ Below w.heap.size w w' := by
  have HJ0 : Aside0 (RfK w x _) := ⟨RfK.start hC⟩
  clear hC
  have H0 := Aside0.mk (RfK.on (w0 := w) (x := x) fun w1 _ => gridironref11_corner.calls x.r x.q x.u x.v _ w1 (rcorner_is _ _ _ _))
  have H1 := Aside0.mk (RfK.on (w0 := w) (x := x) fun w1 _ => gridironref11_corner.calls x.r2 x.q2 x.u2 x.v2 _ w1 (rcorner_is _ _ _ _))
  have H2 := Aside0.mk (RfK.on (w0 := w) (x := x) fun w1 h => rsheet_calls x.s w1 h (by unfold maxLen; omega))
  have H3 := Aside0.mk (RfK.on (w0 := w) (x := x) fun w1 h => rsheet_calls x.t w1 h (by unfold maxLen; omega))
  obtain ⟨c0, c1, c2, c3, c4, c5, c6, c7, c8, c9, c10, c11⟩ := rfc HJ0.out.box
  have e1 := toList_some g1
  rw [n1] at H2
  clear g1 n1
  obtain ⟨s, t, f, e, r, q, u, v, r2, q2, u2, v2⟩ := x
  simp only [] at *
  go_enter Tryd.func18, Tryd.ntmps18
  go_wp2_with (first
    | (go_at_call 35; first | ((with_reducible refine (H0.out _ (by assumption)).mono ?_); rintro e w2 ⟨rfl, hb2⟩; obtain ⟨c0, c1, c2, c3, c4, c5, c6, c7, c8, c9, c10, c11⟩ := rfc hb2.out.box) | ((with_reducible refine (H1.out _ (by assumption)).mono ?_); rintro e w2 ⟨rfl, hb2⟩; obtain ⟨c0, c1, c2, c3, c4, c5, c6, c7, c8, c9, c10, c11⟩ := rfc hb2.out.box))
    | (go_at_call 34; first | ((with_reducible refine (H2.out _ (by assumption)).mono ?_); rintro e w2 ⟨rfl, hb2⟩; obtain ⟨c0, c1, c2, c3, c4, c5, c6, c7, c8, c9, c10, c11⟩ := rfc hb2.out.box) | ((with_reducible refine (H3.out _ (by assumption)).mono ?_); rintro e w2 ⟨rfl, hb2⟩; obtain ⟨c0, c1, c2, c3, c4, c5, c6, c7, c8, c9, c10, c11⟩ := rfc hb2.out.box)))
  go_ret
  exact ⟨rfl, RfK.below (Aside0.out (by assumption))⟩
set_option maxRecDepth 100000 in
set_option maxHeartbeats 8000000 in
theorem rrc_L2 (x : Rf) (w : World) (hC : ChW w) (hs : x.s.size ≤ 140737488351232) (ht : x.t.size ≤ 140737488351232) (g1 : 0 < x.s.size) (n1 : nmOK x.s = true) (g2 : 0 < x.t.size) (n2 : nmOK x.t = false) : Calls Tryd.prog 18 #[.agg x.cs] w fun e w' => e = .returned (.int .i64 111) ∧ Below w.heap.size w w' := by
  have HJ0 : Aside0 (RfK w x _) := ⟨RfK.start hC⟩
  clear hC
  have H0 := Aside0.mk (RfK.on (w0 := w) (x := x) fun w1 _ => gridironref11_corner.calls x.r x.q x.u x.v _ w1 (rcorner_is _ _ _ _))
  have H1 := Aside0.mk (RfK.on (w0 := w) (x := x) fun w1 _ => gridironref11_corner.calls x.r2 x.q2 x.u2 x.v2 _ w1 (rcorner_is _ _ _ _))
  have H2 := Aside0.mk (RfK.on (w0 := w) (x := x) fun w1 h => rsheet_calls x.s w1 h (by unfold maxLen; omega))
  have H3 := Aside0.mk (RfK.on (w0 := w) (x := x) fun w1 h => rsheet_calls x.t w1 h (by unfold maxLen; omega))
  obtain ⟨c0, c1, c2, c3, c4, c5, c6, c7, c8, c9, c10, c11⟩ := rfc HJ0.out.box
  have e1 := toList_some g1
  rw [n1] at H2
  have e2 := toList_some g2
  rw [n2] at H3
  clear g1 n1 g2 n2
  obtain ⟨s, t, f, e, r, q, u, v, r2, q2, u2, v2⟩ := x
  simp only [] at *
  go_enter Tryd.func18, Tryd.ntmps18
  go_wp2_with (first
    | (go_at_call 35; first | ((with_reducible refine (H0.out _ (by assumption)).mono ?_); rintro e w2 ⟨rfl, hb2⟩; obtain ⟨c0, c1, c2, c3, c4, c5, c6, c7, c8, c9, c10, c11⟩ := rfc hb2.out.box) | ((with_reducible refine (H1.out _ (by assumption)).mono ?_); rintro e w2 ⟨rfl, hb2⟩; obtain ⟨c0, c1, c2, c3, c4, c5, c6, c7, c8, c9, c10, c11⟩ := rfc hb2.out.box))
    | (go_at_call 34; first | ((with_reducible refine (H2.out _ (by assumption)).mono ?_); rintro e w2 ⟨rfl, hb2⟩; obtain ⟨c0, c1, c2, c3, c4, c5, c6, c7, c8, c9, c10, c11⟩ := rfc hb2.out.box) | ((with_reducible refine (H3.out _ (by assumption)).mono ?_); rintro e w2 ⟨rfl, hb2⟩; obtain ⟨c0, c1, c2, c3, c4, c5, c6, c7, c8, c9, c10, c11⟩ := rfc hb2.out.box)))
  go_ret
  exact ⟨rfl, RfK.below (Aside0.out (by assumption))⟩
set_option maxRecDepth 100000 in
set_option maxHeartbeats 8000000 in
theorem rrc_L3 (x : Rf) (w : World) (hC : ChW w) (hs : x.s.size ≤ 140737488351232) (ht : x.t.size ≤ 140737488351232) (g1 : x.s.size = 0) (g2 : 0 < x.t.size) (n2 : nmOK x.t = false) : Calls Tryd.prog 18 #[.agg x.cs] w fun e w' => e = .returned (.int .i64 111) ∧ Below w.heap.size w w' := by
  have HJ0 : Aside0 (RfK w x _) := ⟨RfK.start hC⟩
  clear hC
  have H0 := Aside0.mk (RfK.on (w0 := w) (x := x) fun w1 _ => gridironref11_corner.calls x.r x.q x.u x.v _ w1 (rcorner_is _ _ _ _))
  have H1 := Aside0.mk (RfK.on (w0 := w) (x := x) fun w1 _ => gridironref11_corner.calls x.r2 x.q2 x.u2 x.v2 _ w1 (rcorner_is _ _ _ _))
  have H2 := Aside0.mk (RfK.on (w0 := w) (x := x) fun w1 h => rsheet_calls x.s w1 h (by unfold maxLen; omega))
  have H3 := Aside0.mk (RfK.on (w0 := w) (x := x) fun w1 h => rsheet_calls x.t w1 h (by unfold maxLen; omega))
  obtain ⟨c0, c1, c2, c3, c4, c5, c6, c7, c8, c9, c10, c11⟩ := rfc HJ0.out.box
  have e1 := toList_none g1
  have e2 := toList_some g2
  rw [n2] at H3
  clear g1 g2 n2
  obtain ⟨s, t, f, e, r, q, u, v, r2, q2, u2, v2⟩ := x
  simp only [] at *
  go_enter Tryd.func18, Tryd.ntmps18
  go_wp2_with (first
    | (go_at_call 35; first | ((with_reducible refine (H0.out _ (by assumption)).mono ?_); rintro e w2 ⟨rfl, hb2⟩; obtain ⟨c0, c1, c2, c3, c4, c5, c6, c7, c8, c9, c10, c11⟩ := rfc hb2.out.box) | ((with_reducible refine (H1.out _ (by assumption)).mono ?_); rintro e w2 ⟨rfl, hb2⟩; obtain ⟨c0, c1, c2, c3, c4, c5, c6, c7, c8, c9, c10, c11⟩ := rfc hb2.out.box))
    | (go_at_call 34; first | ((with_reducible refine (H2.out _ (by assumption)).mono ?_); rintro e w2 ⟨rfl, hb2⟩; obtain ⟨c0, c1, c2, c3, c4, c5, c6, c7, c8, c9, c10, c11⟩ := rfc hb2.out.box) | ((with_reducible refine (H3.out _ (by assumption)).mono ?_); rintro e w2 ⟨rfl, hb2⟩; obtain ⟨c0, c1, c2, c3, c4, c5, c6, c7, c8, c9, c10, c11⟩ := rfc hb2.out.box)))
  go_ret
  exact ⟨rfl, RfK.below (Aside0.out (by assumption))⟩
set_option maxRecDepth 100000 in
set_option maxHeartbeats 8000000 in
theorem rrc_L4 (x : Rf) (w : World) (hC : ChW w) (hs : x.s.size ≤ 140737488351232) (ht : x.t.size ≤ 140737488351232) (g1 : x.s.size = 0) (g2 : 0 < x.t.size) (n2 : nmOK x.t = true) : Calls Tryd.prog 18 #[.agg x.cs] w fun e w' => e = .returned (.int .i64 111) ∧ Below w.heap.size w w' := by
  have HJ0 : Aside0 (RfK w x _) := ⟨RfK.start hC⟩
  clear hC
  have H0 := Aside0.mk (RfK.on (w0 := w) (x := x) fun w1 _ => gridironref11_corner.calls x.r x.q x.u x.v _ w1 (rcorner_is _ _ _ _))
  have H1 := Aside0.mk (RfK.on (w0 := w) (x := x) fun w1 _ => gridironref11_corner.calls x.r2 x.q2 x.u2 x.v2 _ w1 (rcorner_is _ _ _ _))
  have H2 := Aside0.mk (RfK.on (w0 := w) (x := x) fun w1 h => rsheet_calls x.s w1 h (by unfold maxLen; omega))
  have H3 := Aside0.mk (RfK.on (w0 := w) (x := x) fun w1 h => rsheet_calls x.t w1 h (by unfold maxLen; omega))
  obtain ⟨c0, c1, c2, c3, c4, c5, c6, c7, c8, c9, c10, c11⟩ := rfc HJ0.out.box
  have e1 := toList_none g1
  have e2 := toList_some g2
  rw [n2] at H3
  clear g1 g2 n2
  obtain ⟨s, t, f, e, r, q, u, v, r2, q2, u2, v2⟩ := x
  simp only [] at *
  go_enter Tryd.func18, Tryd.ntmps18
  go_wp2_with (first
    | (go_at_call 35; first | ((with_reducible refine (H0.out _ (by assumption)).mono ?_); rintro e w2 ⟨rfl, hb2⟩; obtain ⟨c0, c1, c2, c3, c4, c5, c6, c7, c8, c9, c10, c11⟩ := rfc hb2.out.box) | ((with_reducible refine (H1.out _ (by assumption)).mono ?_); rintro e w2 ⟨rfl, hb2⟩; obtain ⟨c0, c1, c2, c3, c4, c5, c6, c7, c8, c9, c10, c11⟩ := rfc hb2.out.box))
    | (go_at_call 34; first | ((with_reducible refine (H2.out _ (by assumption)).mono ?_); rintro e w2 ⟨rfl, hb2⟩; obtain ⟨c0, c1, c2, c3, c4, c5, c6, c7, c8, c9, c10, c11⟩ := rfc hb2.out.box) | ((with_reducible refine (H3.out _ (by assumption)).mono ?_); rintro e w2 ⟨rfl, hb2⟩; obtain ⟨c0, c1, c2, c3, c4, c5, c6, c7, c8, c9, c10, c11⟩ := rfc hb2.out.box)))
  go_ret
  exact ⟨rfl, RfK.below (Aside0.out (by assumption))⟩
set_option maxRecDepth 100000 in
set_option maxHeartbeats 8000000 in
theorem rrc_L5 (x : Rf) (w : World) (hC : ChW w) (hs : x.s.size ≤ 140737488351232) (ht : x.t.size ≤ 140737488351232) (g1 : x.s.size = 0) (g2 : x.t.size = 0) (hf : x.f = true) : Calls Tryd.prog 18 #[.agg x.cs] w fun e w' => e = .returned (.int .i64 111) ∧ Below w.heap.size w w' := by
  have HJ0 : Aside0 (RfK w x _) := ⟨RfK.start hC⟩
  clear hC
  have H0 := Aside0.mk (RfK.on (w0 := w) (x := x) fun w1 _ => gridironref11_corner.calls x.r x.q x.u x.v _ w1 (rcorner_is _ _ _ _))
  have H1 := Aside0.mk (RfK.on (w0 := w) (x := x) fun w1 _ => gridironref11_corner.calls x.r2 x.q2 x.u2 x.v2 _ w1 (rcorner_is _ _ _ _))
  have H2 := Aside0.mk (RfK.on (w0 := w) (x := x) fun w1 h => rsheet_calls x.s w1 h (by unfold maxLen; omega))
  have H3 := Aside0.mk (RfK.on (w0 := w) (x := x) fun w1 h => rsheet_calls x.t w1 h (by unfold maxLen; omega))
  obtain ⟨c0, c1, c2, c3, c4, c5, c6, c7, c8, c9, c10, c11⟩ := rfc HJ0.out.box
  have e1 := toList_none g1
  have e2 := toList_none g2
  clear g1 g2
  obtain ⟨s, t, f, e, r, q, u, v, r2, q2, u2, v2⟩ := x
  simp only [] at *
  subst hf
  go_enter Tryd.func18, Tryd.ntmps18
  go_wp2_with (first
    | (go_at_call 35; first | ((with_reducible refine (H0.out _ (by assumption)).mono ?_); rintro e w2 ⟨rfl, hb2⟩; obtain ⟨c0, c1, c2, c3, c4, c5, c6, c7, c8, c9, c10, c11⟩ := rfc hb2.out.box) | ((with_reducible refine (H1.out _ (by assumption)).mono ?_); rintro e w2 ⟨rfl, hb2⟩; obtain ⟨c0, c1, c2, c3, c4, c5, c6, c7, c8, c9, c10, c11⟩ := rfc hb2.out.box))
    | (go_at_call 34; first | ((with_reducible refine (H2.out _ (by assumption)).mono ?_); rintro e w2 ⟨rfl, hb2⟩; obtain ⟨c0, c1, c2, c3, c4, c5, c6, c7, c8, c9, c10, c11⟩ := rfc hb2.out.box) | ((with_reducible refine (H3.out _ (by assumption)).mono ?_); rintro e w2 ⟨rfl, hb2⟩; obtain ⟨c0, c1, c2, c3, c4, c5, c6, c7, c8, c9, c10, c11⟩ := rfc hb2.out.box)))
  go_ret
  exact ⟨rfl, RfK.below (Aside0.out (by assumption))⟩
set_option maxRecDepth 100000 in
set_option maxHeartbeats 8000000 in
theorem rrc_M1a (x : Rf) (w : World) (hC : ChW w) (hs : x.s.size ≤ 140737488351232) (ht : x.t.size ≤ 140737488351232) (g1 : x.s.size = 0) (g2 : x.t.size = 0) (hf : x.f = false) (k1 : corB x.r x.q = false) : Calls Tryd.prog 18 #[.agg x.cs] w fun e w' => e = .returned (.int .i64 110) ∧ Below w.heap.size w w' := by
  have HJ0 : Aside0 (RfK w x _) := ⟨RfK.start hC⟩
  clear hC
  have H0 := Aside0.mk (RfK.on (w0 := w) (x := x) fun w1 _ => gridironref11_corner.calls x.r x.q x.u x.v _ w1 (rcorner_is _ _ _ _))
  have H1 := Aside0.mk (RfK.on (w0 := w) (x := x) fun w1 _ => gridironref11_corner.calls x.r2 x.q2 x.u2 x.v2 _ w1 (rcorner_is _ _ _ _))
  have H2 := Aside0.mk (RfK.on (w0 := w) (x := x) fun w1 h => rsheet_calls x.s w1 h (by unfold maxLen; omega))
  have H3 := Aside0.mk (RfK.on (w0 := w) (x := x) fun w1 h => rsheet_calls x.t w1 h (by unfold maxLen; omega))
  obtain ⟨c0, c1, c2, c3, c4, c5, c6, c7, c8, c9, c10, c11⟩ := rfc HJ0.out.box
  have e1 := toList_none g1
  have e2 := toList_none g2
  rw [k1] at H0
  clear g1 g2 k1
  obtain ⟨s, t, f, e, r, q, u, v, r2, q2, u2, v2⟩ := x
  simp only [] at *
  subst hf
  go_enter Tryd.func18, Tryd.ntmps18
  go_wp2_with (first
    | (go_at_call 35; first | ((with_reducible refine (H0.out _ (by assumption)).mono ?_); rintro e w2 ⟨rfl, hb2⟩; obtain ⟨c0, c1, c2, c3, c4, c5, c6, c7, c8, c9, c10, c11⟩ := rfc hb2.out.box) | ((with_reducible refine (H1.out _ (by assumption)).mono ?_); rintro e w2 ⟨rfl, hb2⟩; obtain ⟨c0, c1, c2, c3, c4, c5, c6, c7, c8, c9, c10, c11⟩ := rfc hb2.out.box))
    | (go_at_call 34; first | ((with_reducible refine (H2.out _ (by assumption)).mono ?_); rintro e w2 ⟨rfl, hb2⟩; obtain ⟨c0, c1, c2, c3, c4, c5, c6, c7, c8, c9, c10, c11⟩ := rfc hb2.out.box) | ((with_reducible refine (H3.out _ (by assumption)).mono ?_); rintro e w2 ⟨rfl, hb2⟩; obtain ⟨c0, c1, c2, c3, c4, c5, c6, c7, c8, c9, c10, c11⟩ := rfc hb2.out.box)))
  go_ret
  exact ⟨rfl, RfK.below (Aside0.out (by assumption))⟩
set_option maxRecDepth 100000 in
set_option maxHeartbeats 8000000 in
theorem rrc_M2a (x : Rf) (w : World) (hC : ChW w) (hs : x.s.size ≤ 140737488351232) (ht : x.t.size ≤ 140737488351232) (g1 : x.s.size = 0) (g2 : x.t.size = 0) (hf : x.f = false) (k1 : corB x.r x.q = true) (he : x.e = true) (k2 : corB x.r2 x.q2 = false) : Calls Tryd.prog 18 #[.agg x.cs] w fun e w' => e = .returned (.int .i64 110) ∧ Below w.heap.size w w' := by
  have HJ0 : Aside0 (RfK w x _) := ⟨RfK.start hC⟩
  clear hC
  have H0 := Aside0.mk (RfK.on (w0 := w) (x := x) fun w1 _ => gridironref11_corner.calls x.r x.q x.u x.v _ w1 (rcorner_is _ _ _ _))
  have H1 := Aside0.mk (RfK.on (w0 := w) (x := x) fun w1 _ => gridironref11_corner.calls x.r2 x.q2 x.u2 x.v2 _ w1 (rcorner_is _ _ _ _))
  have H2 := Aside0.mk (RfK.on (w0 := w) (x := x) fun w1 h => rsheet_calls x.s w1 h (by unfold maxLen; omega))
  have H3 := Aside0.mk (RfK.on (w0 := w) (x := x) fun w1 h => rsheet_calls x.t w1 h (by unfold maxLen; omega))
  obtain ⟨c0, c1, c2, c3, c4, c5, c6, c7, c8, c9, c10, c11⟩ := rfc HJ0.out.box
  have e1 := toList_none g1
  have e2 := toList_none g2
  rw [k1] at H0
  rw [k2] at H1
  clear g1 g2 k1 k2
  obtain ⟨s, t, f, e, r, q, u, v, r2, q2, u2, v2⟩ := x
  simp only [] at *
  subst hf he
  go_enter Tryd.func18, Tryd.ntmps18
  go_wp2_with (first
    | (go_at_call 35; first | ((with_reducible refine (H0.out _ (by assumption)).mono ?_); rintro e w2 ⟨rfl, hb2⟩; obtain ⟨c0, c1, c2, c3, c4, c5, c6, c7, c8, c9, c10, c11⟩ := rfc hb2.out.box) | ((with_reducible refine (H1.out _ (by assumption)).mono ?_); rintro e w2 ⟨rfl, hb2⟩; obtain ⟨c0, c1, c2, c3, c4, c5, c6, c7, c8, c9, c10, c11⟩ := rfc hb2.out.box))
    | (go_at_call 34; first | ((with_reducible refine (H2.out _ (by assumption)).mono ?_); rintro e w2 ⟨rfl, hb2⟩; obtain ⟨c0, c1, c2, c3, c4, c5, c6, c7, c8, c9, c10, c11⟩ := rfc hb2.out.box) | ((with_reducible refine (H3.out _ (by assumption)).mono ?_); rintro e w2 ⟨rfl, hb2⟩; obtain ⟨c0, c1, c2, c3, c4, c5, c6, c7, c8, c9, c10, c11⟩ := rfc hb2.out.box)))
  go_ret
  exact ⟨rfl, RfK.below (Aside0.out (by assumption))⟩
set_option maxRecDepth 100000 in
set_option maxHeartbeats 8000000 in
theorem rrc_M3a (x : Rf) (w : World) (hC : ChW w) (hs : x.s.size ≤ 140737488351232) (ht : x.t.size ≤ 140737488351232) (g1 : x.s.size = 0) (g2 : x.t.size = 0) (hf : x.f = false) (k1 : corB x.r x.q = true) (he : x.e = false) (hb : ¬ (x.r2 = 0 ∧ x.q2 = 0 ∧ x.u2 = false ∧ x.v2 = false)) : Calls Tryd.prog 18 #[.agg x.cs] w fun e w' => e = .returned (.int .i64 110) ∧ Below w.heap.size w w' := by
  have HJ0 : Aside0 (RfK w x _) := ⟨RfK.start hC⟩
  clear hC
  have H0 := Aside0.mk (RfK.on (w0 := w) (x := x) fun w1 _ => gridironref11_corner.calls x.r x.q x.u x.v _ w1 (rcorner_is _ _ _ _))
  have H1 := Aside0.mk (RfK.on (w0 := w) (x := x) fun w1 _ => gridironref11_corner.calls x.r2 x.q2 x.u2 x.v2 _ w1 (rcorner_is _ _ _ _))
  have H2 := Aside0.mk (RfK.on (w0 := w) (x := x) fun w1 h => rsheet_calls x.s w1 h (by unfold maxLen; omega))
  have H3 := Aside0.mk (RfK.on (w0 := w) (x := x) fun w1 h => rsheet_calls x.t w1 h (by unfold maxLen; omega))
  obtain ⟨c0, c1, c2, c3, c4, c5, c6, c7, c8, c9, c10, c11⟩ := rfc HJ0.out.box
  have e1 := toList_none g1
  have e2 := toList_none g2
  rw [k1] at H0
  have HB := Aside0.mk hb
  clear g1 g2 k1 hb
  obtain ⟨s, t, f, e, r, q, u, v, r2, q2, u2, v2⟩ := x
  simp only [] at *
  subst hf he
  go_enter Tryd.func18, Tryd.ntmps18
  go_wp2_with (first
    | (go_at_call 35; first | ((with_reducible refine (H0.out _ (by assumption)).mono ?_); rintro e w2 ⟨rfl, hb2⟩; obtain ⟨c0, c1, c2, c3, c4, c5, c6, c7, c8, c9, c10, c11⟩ := rfc hb2.out.box) | ((with_reducible refine (H1.out _ (by assumption)).mono ?_); rintro e w2 ⟨rfl, hb2⟩; obtain ⟨c0, c1, c2, c3, c4, c5, c6, c7, c8, c9, c10, c11⟩ := rfc hb2.out.box))
    | (go_at_call 34; first | ((with_reducible refine (H2.out _ (by assumption)).mono ?_); rintro e w2 ⟨rfl, hb2⟩; obtain ⟨c0, c1, c2, c3, c4, c5, c6, c7, c8, c9, c10, c11⟩ := rfc hb2.out.box) | ((with_reducible refine (H3.out _ (by assumption)).mono ?_); rintro e w2 ⟨rfl, hb2⟩; obtain ⟨c0, c1, c2, c3, c4, c5, c6, c7, c8, c9, c10, c11⟩ := rfc hb2.out.box)))
  all_goals first | (go_ret; exact ⟨rfl, RfK.below (Aside0.out (by assumption))⟩) | (exfalso; apply HB.out; simp_all; done)
set_option maxRecDepth 100000 in
set_option maxHeartbeats 8000000 in
theorem rrc_M1b (x : Rf) (w : World) (hC : ChW w) (hs : x.s.size ≤ 140737488351232) (ht : x.t.size ≤ 140737488351232) (g1 : 0 < x.s.size) (n1 : nmOK x.s = true) (g2 : x.t.size = 0) (k1 : corB x.r x.q = false) : Calls Tryd.prog 18 #[.agg x.cs] w fun e w' => e = .returned (.int .i64 110) ∧ Below w.heap.size w w' := by
  have HJ0 : Aside0 (RfK w x _) := ⟨RfK.start hC⟩
  clear hC
  have H0 := Aside0.mk (RfK.on (w0 := w) (x := x) fun w1 _ => gridironref11_corner.calls x.r x.q x.u x.v _ w1 (rcorner_is _ _ _ _))
  have H1 := Aside0.mk (RfK.on (w0 := w) (x := x) fun w1 _ => gridironref11_corner.calls x.r2 x.q2 x.u2 x.v2 _ w1 (rcorner_is _ _ _ _))
  have H2 := Aside0.mk (RfK.on (w0 := w) (x := x) fun w1 h => rsheet_calls x.s w1 h (by unfold maxLen; omega))
  have H3 := Aside0.mk (RfK.on (w0 := w) (x := x) fun w1 h => rsheet_calls x.t w1 h (by unfold maxLen; omega))
  obtain ⟨c0, c1, c2, c3, c4, c5, c6, c7, c8, c9, c10, c11⟩ := rfc HJ0.out.box
  have e1 := toList_some g1
  rw [n1] at H2
  have e2 := toList_none g2
  rw [k1] at H0
  clear g1 n1 g2 k1
  obtain ⟨s, t, f, e, r, q, u, v, r2, q2, u2, v2⟩ := x
  simp only [] at *
  go_enter Tryd.func18, Tryd.ntmps18
  go_wp2_with (first
    | (go_at_call 35; first | ((with_reducible refine (H0.out _ (by assumption)).mono ?_); rintro e w2 ⟨rfl, hb2⟩; obtain ⟨c0, c1, c2, c3, c4, c5, c6, c7, c8, c9, c10, c11⟩ := rfc hb2.out.box) | ((with_reducible refine (H1.out _ (by assumption)).mono ?_); rintro e w2 ⟨rfl, hb2⟩; obtain ⟨c0, c1, c2, c3, c4, c5, c6, c7, c8, c9, c10, c11⟩ := rfc hb2.out.box))
    | (go_at_call 34; first | ((with_reducible refine (H2.out _ (by assumption)).mono ?_); rintro e w2 ⟨rfl, hb2⟩; obtain ⟨c0, c1, c2, c3, c4, c5, c6, c7, c8, c9, c10, c11⟩ := rfc hb2.out.box) | ((with_reducible refine (H3.out _ (by assumption)).mono ?_); rintro e w2 ⟨rfl, hb2⟩; obtain ⟨c0, c1, c2, c3, c4, c5, c6, c7, c8, c9, c10, c11⟩ := rfc hb2.out.box)))
  go_ret
  exact ⟨rfl, RfK.below (Aside0.out (by assumption))⟩
set_option maxRecDepth 100000 in
set_option maxHeartbeats 8000000 in
theorem rrc_M2b (x : Rf) (w : World) (hC : ChW w) (hs : x.s.size ≤ 140737488351232) (ht : x.t.size ≤ 140737488351232) (g1 : 0 < x.s.size) (n1 : nmOK x.s = true) (g2 : x.t.size = 0) (k1 : corB x.r x.q = true) (he : x.e = true) (k2 : corB x.r2 x.q2 = false) : Calls Tryd.prog 18 #[.agg x.cs] w fun e w' => e = .returned (.int .i64 110) ∧ Below w.heap.size w w' := by
  have HJ0 : Aside0 (RfK w x _) := ⟨RfK.start hC⟩
  clear hC
  have H0 := Aside0.mk (RfK.on (w0 := w) (x := x) fun w1 _ => gridironref11_corner.calls x.r x.q x.u x.v _ w1 (rcorner_is _ _ _ _))
  have H1 := Aside0.mk (RfK.on (w0 := w) (x := x) fun w1 _ => gridironref11_corner.calls x.r2 x.q2 x.u2 x.v2 _ w1 (rcorner_is _ _ _ _))
  have H2 := Aside0.mk (RfK.on (w0 := w) (x := x) fun w1 h => rsheet_calls x.s w1 h (by unfold maxLen; omega))
  have H3 := Aside0.mk (RfK.on (w0 := w) (x := x) fun w1 h => rsheet_calls x.t w1 h (by unfold maxLen; omega))
  obtain ⟨c0, c1, c2, c3, c4, c5, c6, c7, c8, c9, c10, c11⟩ := rfc HJ0.out.box
  have e1 := toList_some g1
  rw [n1] at H2
  have e2 := toList_none g2
  rw [k1] at H0
  rw [k2] at H1
  clear g1 n1 g2 k1 k2
  obtain ⟨s, t, f, e, r, q, u, v, r2, q2, u2, v2⟩ := x
  simp only [] at *
  subst he
  go_enter Tryd.func18, Tryd.ntmps18
  go_wp2_with (first
    | (go_at_call 35; first | ((with_reducible refine (H0.out _ (by assumption)).mono ?_); rintro e w2 ⟨rfl, hb2⟩; obtain ⟨c0, c1, c2, c3, c4, c5, c6, c7, c8, c9, c10, c11⟩ := rfc hb2.out.box) | ((with_reducible refine (H1.out _ (by assumption)).mono ?_); rintro e w2 ⟨rfl, hb2⟩; obtain ⟨c0, c1, c2, c3, c4, c5, c6, c7, c8, c9, c10, c11⟩ := rfc hb2.out.box))
    | (go_at_call 34; first | ((with_reducible refine (H2.out _ (by assumption)).mono ?_); rintro e w2 ⟨rfl, hb2⟩; obtain ⟨c0, c1, c2, c3, c4, c5, c6, c7, c8, c9, c10, c11⟩ := rfc hb2.out.box) | ((with_reducible refine (H3.out _ (by assumption)).mono ?_); rintro e w2 ⟨rfl, hb2⟩; obtain ⟨c0, c1, c2, c3, c4, c5, c6, c7, c8, c9, c10, c11⟩ := rfc hb2.out.box)))
  go_ret
  exact ⟨rfl, RfK.below (Aside0.out (by assumption))⟩
set_option maxRecDepth 100000 in
set_option maxHeartbeats 8000000 in
theorem rrc_M3b (x : Rf) (w : World) (hC : ChW w) (hs : x.s.size ≤ 140737488351232) (ht : x.t.size ≤ 140737488351232) (g1 : 0 < x.s.size) (n1 : nmOK x.s = true) (g2 : x.t.size = 0) (k1 : corB x.r x.q = true) (he : x.e = false) (hb : ¬ (x.r2 = 0 ∧ x.q2 = 0 ∧ x.u2 = false ∧ x.v2 = false)) : Calls Tryd.prog 18 #[.agg x.cs] w fun e w' => e = .returned (.int .i64 110) ∧ Below w.heap.size w w' := by
  have HJ0 : Aside0 (RfK w x _) := ⟨RfK.start hC⟩
  clear hC
  have H0 := Aside0.mk (RfK.on (w0 := w) (x := x) fun w1 _ => gridironref11_corner.calls x.r x.q x.u x.v _ w1 (rcorner_is _ _ _ _))
  have H1 := Aside0.mk (RfK.on (w0 := w) (x := x) fun w1 _ => gridironref11_corner.calls x.r2 x.q2 x.u2 x.v2 _ w1 (rcorner_is _ _ _ _))
  have H2 := Aside0.mk (RfK.on (w0 := w) (x := x) fun w1 h => rsheet_calls x.s w1 h (by unfold maxLen; omega))
  have H3 := Aside0.mk (RfK.on (w0 := w) (x := x) fun w1 h => rsheet_calls x.t w1 h (by unfold maxLen; omega))
  obtain ⟨c0, c1, c2, c3, c4, c5, c6, c7, c8, c9, c10, c11⟩ := rfc HJ0.out.box
  have e1 := toList_some g1
  rw [n1] at H2
  have e2 := toList_none g2
  rw [k1] at H0
  have HB := Aside0.mk hb
  clear g1 n1 g2 k1 hb
  obtain ⟨s, t, f, e, r, q, u, v, r2, q2, u2, v2⟩ := x
  simp only [] at *
  subst he
  go_enter Tryd.func18, Tryd.ntmps18
  go_wp2_with (first
    | (go_at_call 35; first | ((with_reducible refine (H0.out _ (by assumption)).mono ?_); rintro e w2 ⟨rfl, hb2⟩; obtain ⟨c0, c1, c2, c3, c4, c5, c6, c7, c8, c9, c10, c11⟩ := rfc hb2.out.box) | ((with_reducible refine (H1.out _ (by assumption)).mono ?_); rintro e w2 ⟨rfl, hb2⟩; obtain ⟨c0, c1, c2, c3, c4, c5, c6, c7, c8, c9, c10, c11⟩ := rfc hb2.out.box))
    | (go_at_call 34; first | ((with_reducible refine (H2.out _ (by assumption)).mono ?_); rintro e w2 ⟨rfl, hb2⟩; obtain ⟨c0, c1, c2, c3, c4, c5, c6, c7, c8, c9, c10, c11⟩ := rfc hb2.out.box) | ((with_reducible refine (H3.out _ (by assumption)).mono ?_); rintro e w2 ⟨rfl, hb2⟩; obtain ⟨c0, c1, c2, c3, c4, c5, c6, c7, c8, c9, c10, c11⟩ := rfc hb2.out.box)))
  all_goals first | (go_ret; exact ⟨rfl, RfK.below (Aside0.out (by assumption))⟩) | (exfalso; apply HB.out; simp_all; done)
set_option maxRecDepth 100000 in
set_option maxHeartbeats 8000000 in
theorem rrc_M1c (x : Rf) (w : World) (hC : ChW w) (hs : x.s.size ≤ 140737488351232) (ht : x.t.size ≤ 140737488351232) (g1 : 0 < x.s.size) (n1 : nmOK x.s = true) (g2 : 0 < x.t.size) (n2 : nmOK x.t = true) (k1 : corB x.r x.q = false) : Calls Tryd.prog 18 #[.agg x.cs] w fun e w' => e = .returned (.int .i64 110) ∧ Below w.heap.size w w' := by
  have HJ0 : Aside0 (RfK w x _) := ⟨RfK.start hC⟩
  clear hC
  have H0 := Aside0.mk (RfK.on (w0 := w) (x := x) fun w1 _ => gridironref11_corner.calls x.r x.q x.u x.v _ w1 (rcorner_is _ _ _ _))
  have H1 := Aside0.mk (RfK.on (w0 := w) (x := x) fun w1 _ => gridironref11_corner.calls x.r2 x.q2 x.u2 x.v2 _ w1 (rcorner_is _ _ _ _))
  have H2 := Aside0.mk (RfK.on (w0 := w) (x := x) fun w1 h => rsheet_calls x.s w1 h (by unfold maxLen; omega))
  have H3 := Aside0.mk (RfK.on (w0 := w) (x := x) fun w1 h => rsheet_calls x.t w1 h (by unfold maxLen; omega))
  obtain ⟨c0, c1, c2, c3, c4, c5, c6, c7, c8, c9, c10, c11⟩ := rfc HJ0.out.box
  have e1 := toList_some g1
  rw [n1] at H2
  have e2 := toList_some g2
  rw [n2] at H3
  rw [k1] at H0
  clear g1 n1 g2 n2 k1
  obtain ⟨s, t, f, e, r, q, u, v, r2, q2, u2, v2⟩ := x
  simp only [] at *
  go_enter Tryd.func18, Tryd.ntmps18
  go_wp2_with (first
    | (go_at_call 35; first | ((with_reducible refine (H0.out _ (by assumption)).mono ?_); rintro e w2 ⟨rfl, hb2⟩; obtain ⟨c0, c1, c2, c3, c4, c5, c6, c7, c8, c9, c10, c11⟩ := rfc hb2.out.box) | ((with_reducible refine (H1.out _ (by assumption)).mono ?_); rintro e w2 ⟨rfl, hb2⟩; obtain ⟨c0, c1, c2, c3, c4, c5, c6, c7, c8, c9, c10, c11⟩ := rfc hb2.out.box))
    | (go_at_call 34; first | ((with_reducible refine (H2.out _ (by assumption)).mono ?_); rintro e w2 ⟨rfl, hb2⟩; obtain ⟨c0, c1, c2, c3, c4, c5, c6, c7, c8, c9, c10, c11⟩ := rfc hb2.out.box) | ((with_reducible refine (H3.out _ (by assumption)).mono ?_); rintro e w2 ⟨rfl, hb2⟩; obtain ⟨c0, c1, c2, c3, c4, c5, c6, c7, c8, c9, c10, c11⟩ := rfc hb2.out.box)))
  go_ret
  exact ⟨rfl, RfK.below (Aside0.out (by assumption))⟩
set_option maxRecDepth 100000 in
set_option maxHeartbeats 8000000 in
theorem rrc_M2c (x : Rf) (w : World) (hC : ChW w) (hs : x.s.size ≤ 140737488351232) (ht : x.t.size ≤ 140737488351232) (g1 : 0 < x.s.size) (n1 : nmOK x.s = true) (g2 : 0 < x.t.size) (n2 : nmOK x.t = true) (k1 : corB x.r x.q = true) (he : x.e = true) (k2 : corB x.r2 x.q2 = false) : Calls Tryd.prog 18 #[.agg x.cs] w fun e w' => e = .returned (.int .i64 110) ∧ Below w.heap.size w w' := by
  have HJ0 : Aside0 (RfK w x _) := ⟨RfK.start hC⟩
  clear hC
  have H0 := Aside0.mk (RfK.on (w0 := w) (x := x) fun w1 _ => gridironref11_corner.calls x.r x.q x.u x.v _ w1 (rcorner_is _ _ _ _))
  have H1 := Aside0.mk (RfK.on (w0 := w) (x := x) fun w1 _ => gridironref11_corner.calls x.r2 x.q2 x.u2 x.v2 _ w1 (rcorner_is _ _ _ _))
  have H2 := Aside0.mk (RfK.on (w0 := w) (x := x) fun w1 h => rsheet_calls x.s w1 h (by unfold maxLen; omega))
  have H3 := Aside0.mk (RfK.on (w0 := w) (x := x) fun w1 h => rsheet_calls x.t w1 h (by unfold maxLen; omega))
  obtain ⟨c0, c1, c2, c3, c4, c5, c6, c7, c8, c9, c10, c11⟩ := rfc HJ0.out.box
  have e1 := toList_some g1
  rw [n1] at H2
  have e2 := toList_some g2
  rw [n2] at H3
  rw [k1] at H0
  rw [k2] at H1
  clear g1 n1 g2 n2 k1 k2
  obtain ⟨s, t, f, e, r, q, u, v, r2, q2, u2, v2⟩ := x
  simp only [] at *
  subst he
  go_enter Tryd.func18, Tryd.ntmps18
  go_wp2_with (first
    | (go_at_call 35; first | ((with_reducible refine (H0.out _ (by assumption)).mono ?_); rintro e w2 ⟨rfl, hb2⟩; obtain ⟨c0, c1, c2, c3, c4, c5, c6, c7, c8, c9, c10, c11⟩ := rfc hb2.out.box) | ((with_reducible refine (H1.out _ (by assumption)).mono ?_); rintro e w2 ⟨rfl, hb2⟩; obtain ⟨c0, c1, c2, c3, c4, c5, c6, c7, c8, c9, c10, c11⟩ := rfc hb2.out.box))
    | (go_at_call 34; first | ((with_reducible refine (H2.out _ (by assumption)).mono ?_); rintro e w2 ⟨rfl, hb2⟩; obtain ⟨c0, c1, c2, c3, c4, c5, c6, c7, c8, c9, c10, c11⟩ := rfc hb2.out.box) | ((with_reducible refine (H3.out _ (by assumption)).mono ?_); rintro e w2 ⟨rfl, hb2⟩; obtain ⟨c0, c1, c2, c3, c4, c5, c6, c7, c8, c9, c10, c11⟩ := rfc hb2.out.box)))
  go_ret
  exact ⟨rfl, RfK.below (Aside0.out (by assumption))⟩
set_option maxRecDepth 100000 in
set_option maxHeartbeats 8000000 in
theorem rrc_M3c (x : Rf) (w : World) (hC : ChW w) (hs : x.s.size ≤ 140737488351232) (ht : x.t.size ≤ 140737488351232) (g1 : 0 < x.s.size) (n1 : nmOK x.s = true) (g2 : 0 < x.t.size) (n2 : nmOK x.t = true) (k1 : corB x.r x.q = true) (he : x.e = false) (hb : ¬ (x.r2 = 0 ∧ x.q2 = 0 ∧ x.u2 = false ∧ x.v2 = false)) : Calls Tryd.prog 18 #[.agg x.cs] w fun e w' => e = .returned (.int .i64 110) ∧ Below w.heap.size w w' := by
  have HJ0 : Aside0 (RfK w x _) := ⟨RfK.start hC⟩
  clear hC
  have H0 := Aside0.mk (RfK.on (w0 := w) (x := x) fun w1 _ => gridironref11_corner.calls x.r x.q x.u x.v _ w1 (rcorner_is _ _ _ _))
  have H1 := Aside0.mk (RfK.on (w0 := w) (x := x) fun w1 _ => gridironref11_corner.calls x.r2 x.q2 x.u2 x.v2 _ w1 (rcorner_is _ _ _ _))
  have H2 := Aside0.mk (RfK.on (w0 := w) (x := x) fun w1 h => rsheet_calls x.s w1 h (by unfold maxLen; omega))
  have H3 := Aside0.mk (RfK.on (w0 := w) (x := x) fun w1 h => rsheet_calls x.t w1 h (by unfold maxLen; omega))
  obtain ⟨c0, c1, c2, c3, c4, c5, c6, c7, c8, c9, c10, c11⟩ := rfc HJ0.out.box
  have e1 := toList_some g1
  rw [n1] at H2
  have e2 := toList_some g2
  rw [n2] at H3
  rw [k1] at H0
  have HB := Aside0.mk hb
  clear g1 n1 g2 n2 k1 hb
  obtain ⟨s, t, f, e, r, q, u, v, r2, q2, u2, v2⟩ := x
  simp only [] at *
  subst he
  go_enter Tryd.func18, Tryd.ntmps18
  go_wp2_with (first
    | (go_at_call 35; first | ((with_reducible refine (H0.out _ (by assumption)).mono ?_); rintro e w2 ⟨rfl, hb2⟩; obtain ⟨c0, c1, c2, c3, c4, c5, c6, c7, c8, c9, c10, c11⟩ := rfc hb2.out.box) | ((with_reducible refine (H1.out _ (by assumption)).mono ?_); rintro e w2 ⟨rfl, hb2⟩; obtain ⟨c0, c1, c2, c3, c4, c5, c6, c7, c8, c9, c10, c11⟩ := rfc hb2.out.box))
    | (go_at_call 34; first | ((with_reducible refine (H2.out _ (by assumption)).mono ?_); rintro e w2 ⟨rfl, hb2⟩; obtain ⟨c0, c1, c2, c3, c4, c5, c6, c7, c8, c9, c10, c11⟩ := rfc hb2.out.box) | ((with_reducible refine (H3.out _ (by assumption)).mono ?_); rintro e w2 ⟨rfl, hb2⟩; obtain ⟨c0, c1, c2, c3, c4, c5, c6, c7, c8, c9, c10, c11⟩ := rfc hb2.out.box)))
  all_goals first | (go_ret; exact ⟨rfl, RfK.below (Aside0.out (by assumption))⟩) | (exfalso; apply HB.out; simp_all; done)
set_option maxRecDepth 100000 in
set_option maxHeartbeats 8000000 in
theorem rrc_M4c (x : Rf) (w : World) (hC : ChW w) (hs : x.s.size ≤ 140737488351232) (ht : x.t.size ≤ 140737488351232) (g1 : 0 < x.s.size) (n1 : nmOK x.s = true) (g2 : 0 < x.t.size) (n2 : nmOK x.t = true) (k1 : corB x.r x.q = true) (he : x.e = false) (b1 : x.r2 = 0) (b2 : x.q2 = 0) (b3 : x.u2 = false) (b4 : x.v2 = false) : Calls Tryd.prog 18 #[.agg x.cs] w fun e w' => e = .returned (.int .i64 110) ∧ Below w.heap.size w w' := by
  have HJ0 : Aside0 (RfK w x _) := ⟨RfK.start hC⟩
  clear hC
  have H0 := Aside0.mk (RfK.on (w0 := w) (x := x) fun w1 _ => gridironref11_corner.calls x.r x.q x.u x.v _ w1 (rcorner_is _ _ _ _))
  have H1 := Aside0.mk (RfK.on (w0 := w) (x := x) fun w1 _ => gridironref11_corner.calls x.r2 x.q2 x.u2 x.v2 _ w1 (rcorner_is _ _ _ _))
  have H2 := Aside0.mk (RfK.on (w0 := w) (x := x) fun w1 h => rsheet_calls x.s w1 h (by unfold maxLen; omega))
  have H3 := Aside0.mk (RfK.on (w0 := w) (x := x) fun w1 h => rsheet_calls x.t w1 h (by unfold maxLen; omega))
  obtain ⟨c0, c1, c2, c3, c4, c5, c6, c7, c8, c9, c10, c11⟩ := rfc HJ0.out.box
  have e1 := toList_some g1
  rw [n1] at H2
  have e2 := toList_some g2
  rw [n2] at H3
  rw [k1] at H0
  clear g1 n1 g2 n2 k1
  obtain ⟨s, t, f, e, r, q, u, v, r2, q2, u2, v2⟩ := x
  simp only [] at *
  subst he b1 b2 b3 b4
  go_enter Tryd.func18, Tryd.ntmps18
  go_wp2_with (first
    | (go_at_call 35; first | ((with_reducible refine (H0.out _ (by assumption)).mono ?_); rintro e w2 ⟨rfl, hb2⟩; obtain ⟨c0, c1, c2, c3, c4, c5, c6, c7, c8, c9, c10, c11⟩ := rfc hb2.out.box) | ((with_reducible refine (H1.out _ (by assumption)).mono ?_); rintro e w2 ⟨rfl, hb2⟩; obtain ⟨c0, c1, c2, c3, c4, c5, c6, c7, c8, c9, c10, c11⟩ := rfc hb2.out.box))
    | (go_at_call 34; first | ((with_reducible refine (H2.out _ (by assumption)).mono ?_); rintro e w2 ⟨rfl, hb2⟩; obtain ⟨c0, c1, c2, c3, c4, c5, c6, c7, c8, c9, c10, c11⟩ := rfc hb2.out.box) | ((with_reducible refine (H3.out _ (by assumption)).mono ?_); rintro e w2 ⟨rfl, hb2⟩; obtain ⟨c0, c1, c2, c3, c4, c5, c6, c7, c8, c9, c10, c11⟩ := rfc hb2.out.box)))
  go_ret
  exact ⟨rfl, RfK.below (Aside0.out (by assumption))⟩
def tailC (x : Rf) : Int := if corB x.r x.q = false then 110 else if x.e = true then (if corB x.r2 x.q2 = false then 110 else 0) else if (x.r2 = 0 ∧ x.q2 = 0 ∧ x.u2 = false ∧ x.v2 = false) ∧ x.t.size = 0 then 0 else 110
/-- What is wrong with a reference: the very code. -/
def chkR (x : Rf) : Int := if 0 < x.s.size then (if nmOK x.s = false then 111 else if 0 < x.t.size then (if nmOK x.t = false then 111 else tailC x) else tailC x) else if 0 < x.t.size then 111 else if x.f = true then 111 else tailC x
theorem tail_ok {x : Rf} (h : tailC x = 0) : corB x.r x.q = true ∧ (x.e = true → corB x.r2 x.q2 = true) ∧ (x.e = false → x.r2 = 0 ∧ x.q2 = 0 ∧ x.u2 = false ∧ x.v2 = false ∧ x.t.size = 0) := by
  unfold tailC at h
  cases c1 : corB x.r x.q with
  | false => rw [c1, if_pos rfl] at h; exact absurd h (by decide)
  | true =>
    rw [c1, if_neg (by decide)] at h
    cases he : x.e with
    | true =>
      rw [he, if_pos rfl] at h
      cases c2 : corB x.r2 x.q2 with
      | false => rw [c2, if_pos rfl] at h; exact absurd h (by decide)
      | true => exact ⟨rfl, fun _ => rfl, fun h => by cases h⟩
    | false =>
      rw [he, if_neg (by decide)] at h
      by_cases hb : (x.r2 = 0 ∧ x.q2 = 0 ∧ x.u2 = false ∧ x.v2 = false) ∧ x.t.size = 0
      · exact ⟨rfl, (fun h => by cases h), fun _ => ⟨hb.1.1, hb.1.2.1, hb.1.2.2.1, hb.1.2.2.2, hb.2⟩⟩
      · rw [if_neg hb] at h; exact absurd h (by decide)
theorem check_calls11 (x : Rf) (w : World) (hC : ChW w) (hs : x.s.size ≤ 140737488351232) (ht : x.t.size ≤ 140737488351232) : Calls Tryd.prog 17 #[.agg x.cs] w fun e w' => e = .returned (.int .i64 (chkR x)) ∧ Below w.heap.size w w' := by
  by_cases g1 : 0 < x.s.size
  · cases n1 : nmOK x.s with
    | false => (have hv : chkR x = 111 := (by first | (simp [chkR, tailC, *]; done) | (unfold chkR tailC; simp_all; done) | (unfold chkR tailC; (repeat' split) <;> first | rfl | (simp_all; done) | omega)); rw [hv]; exact prc_L1 x w hC hs ht g1 n1)
    | true =>
      by_cases g2 : 0 < x.t.size
      · cases n2 : nmOK x.t with
        | false => (have hv : chkR x = 111 := (by first | (simp [chkR, tailC, *]; done) | (unfold chkR tailC; simp_all; done) | (unfold chkR tailC; (repeat' split) <;> first | rfl | (simp_all; done) | omega)); rw [hv]; exact prc_L2 x w hC hs ht g1 n1 g2 n2)
        | true =>
          cases c1 : corB x.r x.q with
          | false => (have hv : chkR x = 110 := (by first | (simp [chkR, tailC, *]; done) | (unfold chkR tailC; simp_all; done) | (unfold chkR tailC; (repeat' split) <;> first | rfl | (simp_all; done) | omega)); rw [hv]; exact prc_M1c x w hC hs ht g1 n1 g2 n2 c1)
          | true =>
            cases he : x.e with
            | true =>
              cases c2 : corB x.r2 x.q2 with
              | false => (have hv : chkR x = 110 := (by first | (simp [chkR, tailC, *]; done) | (unfold chkR tailC; simp_all; done) | (unfold chkR tailC; (repeat' split) <;> first | rfl | (simp_all; done) | omega)); rw [hv]; exact prc_M2c x w hC hs ht g1 n1 g2 n2 c1 he c2)
              | true => (have hv : chkR x = 0 := (by first | (simp [chkR, tailC, *]; done) | (unfold chkR tailC; simp_all; done) | (unfold chkR tailC; (repeat' split) <;> first | rfl | (simp_all; done) | omega)); rw [hv]; exact rcheck_ok x w hC hs ht ⟨fun _ => n1, fun _ => n2, fun h => by omega, c1, fun _ => c2, fun h => (by rw [he] at h; cases h)⟩)
            | false =>
              by_cases hb : x.r2 = 0 ∧ x.q2 = 0 ∧ x.u2 = false ∧ x.v2 = false
              · (have hv : chkR x = 110 := (by first | (simp [chkR, tailC, *]; done) | (unfold chkR tailC; simp_all; done) | (unfold chkR tailC; (repeat' split) <;> first | rfl | (simp_all; done) | omega)); rw [hv]; exact prc_M4c x w hC hs ht g1 n1 g2 n2 c1 he hb.1 hb.2.1 hb.2.2.1 hb.2.2.2)
              · (have hv : chkR x = 110 := (by first | (simp [chkR, tailC, *]; done) | (unfold chkR tailC; simp_all; done) | (unfold chkR tailC; (repeat' split) <;> first | rfl | (simp_all; done) | omega)); rw [hv]; exact prc_M3c x w hC hs ht g1 n1 g2 n2 c1 he hb)
      · have g2' : x.t.size = 0 := by omega
        cases c1 : corB x.r x.q with
        | false => (have hv : chkR x = 110 := (by first | (simp [chkR, tailC, *]; done) | (unfold chkR tailC; simp_all; done) | (unfold chkR tailC; (repeat' split) <;> first | rfl | (simp_all; done) | omega)); rw [hv]; exact prc_M1b x w hC hs ht g1 n1 g2' c1)
        | true =>
          cases he : x.e with
          | true =>
            cases c2 : corB x.r2 x.q2 with
            | false => (have hv : chkR x = 110 := (by first | (simp [chkR, tailC, *]; done) | (unfold chkR tailC; simp_all; done) | (unfold chkR tailC; (repeat' split) <;> first | rfl | (simp_all; done) | omega)); rw [hv]; exact prc_M2b x w hC hs ht g1 n1 g2' c1 he c2)
            | true => (have hv : chkR x = 0 := (by first | (simp [chkR, tailC, *]; done) | (unfold chkR tailC; simp_all; done) | (unfold chkR tailC; (repeat' split) <;> first | rfl | (simp_all; done) | omega)); rw [hv]; exact rcheck_ok x w hC hs ht ⟨fun _ => n1, fun h => by omega, fun h => by omega, c1, fun _ => c2, fun h => (by rw [he] at h; cases h)⟩)
          | false =>
            by_cases hb : x.r2 = 0 ∧ x.q2 = 0 ∧ x.u2 = false ∧ x.v2 = false
            · (have hv : chkR x = 0 := (by first | (simp [chkR, tailC, *]; done) | (unfold chkR tailC; simp_all; done) | (unfold chkR tailC; (repeat' split) <;> first | rfl | (simp_all; done) | omega)); rw [hv]; exact rcheck_ok x w hC hs ht ⟨fun _ => n1, fun h => by omega, fun h => by omega, c1, fun h => (by rw [he] at h; cases h), fun _ => ⟨hb.1, hb.2.1, hb.2.2.1, hb.2.2.2, g2'⟩⟩)
            · (have hv : chkR x = 110 := (by first | (simp [chkR, tailC, *]; done) | (unfold chkR tailC; simp_all; done) | (unfold chkR tailC; (repeat' split) <;> first | rfl | (simp_all; done) | omega)); rw [hv]; exact prc_M3b x w hC hs ht g1 n1 g2' c1 he hb)
  · have g1' : x.s.size = 0 := by omega
    by_cases g2 : 0 < x.t.size
    · cases n2 : nmOK x.t with
      | false => (have hv : chkR x = 111 := (by first | (simp [chkR, tailC, *]; done) | (unfold chkR tailC; simp_all; done) | (unfold chkR tailC; (repeat' split) <;> first | rfl | (simp_all; done) | omega)); rw [hv]; exact prc_L3 x w hC hs ht g1' g2 n2)
      | true => (have hv : chkR x = 111 := (by first | (simp [chkR, tailC, *]; done) | (unfold chkR tailC; simp_all; done) | (unfold chkR tailC; (repeat' split) <;> first | rfl | (simp_all; done) | omega)); rw [hv]; exact prc_L4 x w hC hs ht g1' g2 n2)
    · have g2' : x.t.size = 0 := by omega
      cases hf : x.f with
      | true => (have hv : chkR x = 111 := (by first | (simp [chkR, tailC, *]; done) | (unfold chkR tailC; simp_all; done) | (unfold chkR tailC; (repeat' split) <;> first | rfl | (simp_all; done) | omega)); rw [hv]; exact prc_L5 x w hC hs ht g1' g2' hf)
      | false =>
        cases c1 : corB x.r x.q with
        | false => (have hv : chkR x = 110 := (by first | (simp [chkR, tailC, *]; done) | (unfold chkR tailC; simp_all; done) | (unfold chkR tailC; (repeat' split) <;> first | rfl | (simp_all; done) | omega)); rw [hv]; exact prc_M1a x w hC hs ht g1' g2' hf c1)
        | true =>
          cases he : x.e with
          | true =>
            cases c2 : corB x.r2 x.q2 with
            | false => (have hv : chkR x = 110 := (by first | (simp [chkR, tailC, *]; done) | (unfold chkR tailC; simp_all; done) | (unfold chkR tailC; (repeat' split) <;> first | rfl | (simp_all; done) | omega)); rw [hv]; exact prc_M2a x w hC hs ht g1' g2' hf c1 he c2)
            | true => (have hv : chkR x = 0 := (by first | (simp [chkR, tailC, *]; done) | (unfold chkR tailC; simp_all; done) | (unfold chkR tailC; (repeat' split) <;> first | rfl | (simp_all; done) | omega)); rw [hv]; exact rcheck_ok x w hC hs ht ⟨fun h => by omega, fun h => by omega, fun _ => ⟨g2', hf⟩, c1, fun _ => c2, fun h => (by rw [he] at h; cases h)⟩)
          | false =>
            by_cases hb : x.r2 = 0 ∧ x.q2 = 0 ∧ x.u2 = false ∧ x.v2 = false
            · (have hv : chkR x = 0 := (by first | (simp [chkR, tailC, *]; done) | (unfold chkR tailC; simp_all; done) | (unfold chkR tailC; (repeat' split) <;> first | rfl | (simp_all; done) | omega)); rw [hv]; exact rcheck_ok x w hC hs ht ⟨fun h => by omega, fun h => by omega, fun _ => ⟨g2', hf⟩, c1, fun h => (by rw [he] at h; cases h), fun _ => ⟨hb.1, hb.2.1, hb.2.2.1, hb.2.2.2, g2'⟩⟩)
            · (have hv : chkR x = 110 := (by first | (simp [chkR, tailC, *]; done) | (unfold chkR tailC; simp_all; done) | (unfold chkR tailC; (repeat' split) <;> first | rfl | (simp_all; done) | omega)); rw [hv]; exact prc_M3a x w hC hs ht g1' g2' hf c1 he hb)
theorem rcheck_calls11 (x : Rf) (w : World) (hC : ChW w) (hs : x.s.size ≤ 140737488351232) (ht : x.t.size ≤ 140737488351232) : Calls Tryd.prog 18 #[.agg x.cs] w fun e w' => e = .returned (.int .i64 (chkR x)) ∧ Below w.heap.size w w' := by
  by_cases g1 : 0 < x.s.size
  · cases n1 : nmOK x.s with
    | false => (have hv : chkR x = 111 := (by first | (simp [chkR, tailC, *]; done) | (unfold chkR tailC; simp_all; done) | (unfold chkR tailC; (repeat' split) <;> first | rfl | (simp_all; done) | omega)); rw [hv]; exact rrc_L1 x w hC hs ht g1 n1)
    | true =>
      by_cases g2 : 0 < x.t.size
      · cases n2 : nmOK x.t with
        | false => (have hv : chkR x = 111 := (by first | (simp [chkR, tailC, *]; done) | (unfold chkR tailC; simp_all; done) | (unfold chkR tailC; (repeat' split) <;> first | rfl | (simp_all; done) | omega)); rw [hv]; exact rrc_L2 x w hC hs ht g1 n1 g2 n2)
        | true =>
          cases c1 : corB x.r x.q with
          | false => (have hv : chkR x = 110 := (by first | (simp [chkR, tailC, *]; done) | (unfold chkR tailC; simp_all; done) | (unfold chkR tailC; (repeat' split) <;> first | rfl | (simp_all; done) | omega)); rw [hv]; exact rrc_M1c x w hC hs ht g1 n1 g2 n2 c1)
          | true =>
            cases he : x.e with
            | true =>
              cases c2 : corB x.r2 x.q2 with
              | false => (have hv : chkR x = 110 := (by first | (simp [chkR, tailC, *]; done) | (unfold chkR tailC; simp_all; done) | (unfold chkR tailC; (repeat' split) <;> first | rfl | (simp_all; done) | omega)); rw [hv]; exact rrc_M2c x w hC hs ht g1 n1 g2 n2 c1 he c2)
              | true => (have hv : chkR x = 0 := (by first | (simp [chkR, tailC, *]; done) | (unfold chkR tailC; simp_all; done) | (unfold chkR tailC; (repeat' split) <;> first | rfl | (simp_all; done) | omega)); rw [hv]; exact rrcheck_ok x w hC hs ht ⟨fun _ => n1, fun _ => n2, fun h => by omega, c1, fun _ => c2, fun h => (by rw [he] at h; cases h)⟩)
            | false =>
              by_cases hb : x.r2 = 0 ∧ x.q2 = 0 ∧ x.u2 = false ∧ x.v2 = false
              · (have hv : chkR x = 110 := (by first | (simp [chkR, tailC, *]; done) | (unfold chkR tailC; simp_all; done) | (unfold chkR tailC; (repeat' split) <;> first | rfl | (simp_all; done) | omega)); rw [hv]; exact rrc_M4c x w hC hs ht g1 n1 g2 n2 c1 he hb.1 hb.2.1 hb.2.2.1 hb.2.2.2)
              · (have hv : chkR x = 110 := (by first | (simp [chkR, tailC, *]; done) | (unfold chkR tailC; simp_all; done) | (unfold chkR tailC; (repeat' split) <;> first | rfl | (simp_all; done) | omega)); rw [hv]; exact rrc_M3c x w hC hs ht g1 n1 g2 n2 c1 he hb)
      · have g2' : x.t.size = 0 := by omega
        cases c1 : corB x.r x.q with
        | false => (have hv : chkR x = 110 := (by first | (simp [chkR, tailC, *]; done) | (unfold chkR tailC; simp_all; done) | (unfold chkR tailC; (repeat' split) <;> first | rfl | (simp_all; done) | omega)); rw [hv]; exact rrc_M1b x w hC hs ht g1 n1 g2' c1)
        | true =>
          cases he : x.e with
          | true =>
            cases c2 : corB x.r2 x.q2 with
            | false => (have hv : chkR x = 110 := (by first | (simp [chkR, tailC, *]; done) | (unfold chkR tailC; simp_all; done) | (unfold chkR tailC; (repeat' split) <;> first | rfl | (simp_all; done) | omega)); rw [hv]; exact rrc_M2b x w hC hs ht g1 n1 g2' c1 he c2)
            | true => (have hv : chkR x = 0 := (by first | (simp [chkR, tailC, *]; done) | (unfold chkR tailC; simp_all; done) | (unfold chkR tailC; (repeat' split) <;> first | rfl | (simp_all; done) | omega)); rw [hv]; exact rrcheck_ok x w hC hs ht ⟨fun _ => n1, fun h => by omega, fun h => by omega, c1, fun _ => c2, fun h => (by rw [he] at h; cases h)⟩)
          | false =>
            by_cases hb : x.r2 = 0 ∧ x.q2 = 0 ∧ x.u2 = false ∧ x.v2 = false
            · (have hv : chkR x = 0 := (by first | (simp [chkR, tailC, *]; done) | (unfold chkR tailC; simp_all; done) | (unfold chkR tailC; (repeat' split) <;> first | rfl | (simp_all; done) | omega)); rw [hv]; exact rrcheck_ok x w hC hs ht ⟨fun _ => n1, fun h => by omega, fun h => by omega, c1, fun h => (by rw [he] at h; cases h), fun _ => ⟨hb.1, hb.2.1, hb.2.2.1, hb.2.2.2, g2'⟩⟩)
            · (have hv : chkR x = 110 := (by first | (simp [chkR, tailC, *]; done) | (unfold chkR tailC; simp_all; done) | (unfold chkR tailC; (repeat' split) <;> first | rfl | (simp_all; done) | omega)); rw [hv]; exact rrc_M3b x w hC hs ht g1 n1 g2' c1 he hb)
  · have g1' : x.s.size = 0 := by omega
    by_cases g2 : 0 < x.t.size
    · cases n2 : nmOK x.t with
      | false => (have hv : chkR x = 111 := (by first | (simp [chkR, tailC, *]; done) | (unfold chkR tailC; simp_all; done) | (unfold chkR tailC; (repeat' split) <;> first | rfl | (simp_all; done) | omega)); rw [hv]; exact rrc_L3 x w hC hs ht g1' g2 n2)
      | true => (have hv : chkR x = 111 := (by first | (simp [chkR, tailC, *]; done) | (unfold chkR tailC; simp_all; done) | (unfold chkR tailC; (repeat' split) <;> first | rfl | (simp_all; done) | omega)); rw [hv]; exact rrc_L4 x w hC hs ht g1' g2 n2)
    · have g2' : x.t.size = 0 := by omega
      cases hf : x.f with
      | true => (have hv : chkR x = 111 := (by first | (simp [chkR, tailC, *]; done) | (unfold chkR tailC; simp_all; done) | (unfold chkR tailC; (repeat' split) <;> first | rfl | (simp_all; done) | omega)); rw [hv]; exact rrc_L5 x w hC hs ht g1' g2' hf)
      | false =>
        cases c1 : corB x.r x.q with
        | false => (have hv : chkR x = 110 := (by first | (simp [chkR, tailC, *]; done) | (unfold chkR tailC; simp_all; done) | (unfold chkR tailC; (repeat' split) <;> first | rfl | (simp_all; done) | omega)); rw [hv]; exact rrc_M1a x w hC hs ht g1' g2' hf c1)
        | true =>
          cases he : x.e with
          | true =>
            cases c2 : corB x.r2 x.q2 with
            | false => (have hv : chkR x = 110 := (by first | (simp [chkR, tailC, *]; done) | (unfold chkR tailC; simp_all; done) | (unfold chkR tailC; (repeat' split) <;> first | rfl | (simp_all; done) | omega)); rw [hv]; exact rrc_M2a x w hC hs ht g1' g2' hf c1 he c2)
            | true => (have hv : chkR x = 0 := (by first | (simp [chkR, tailC, *]; done) | (unfold chkR tailC; simp_all; done) | (unfold chkR tailC; (repeat' split) <;> first | rfl | (simp_all; done) | omega)); rw [hv]; exact rrcheck_ok x w hC hs ht ⟨fun h => by omega, fun h => by omega, fun _ => ⟨g2', hf⟩, c1, fun _ => c2, fun h => (by rw [he] at h; cases h)⟩)
          | false =>
            by_cases hb : x.r2 = 0 ∧ x.q2 = 0 ∧ x.u2 = false ∧ x.v2 = false
            · (have hv : chkR x = 0 := (by first | (simp [chkR, tailC, *]; done) | (unfold chkR tailC; simp_all; done) | (unfold chkR tailC; (repeat' split) <;> first | rfl | (simp_all; done) | omega)); rw [hv]; exact rrcheck_ok x w hC hs ht ⟨fun h => by omega, fun h => by omega, fun _ => ⟨g2', hf⟩, c1, fun h => (by rw [he] at h; cases h), fun _ => ⟨hb.1, hb.2.1, hb.2.2.1, hb.2.2.2, g2'⟩⟩)
            · (have hv : chkR x = 110 := (by first | (simp [chkR, tailC, *]; done) | (unfold chkR tailC; simp_all; done) | (unfold chkR tailC; (repeat' split) <;> first | rfl | (simp_all; done) | omega)); rw [hv]; exact rrc_M3a x w hC hs ht g1' g2' hf c1 he hb)
end Go.Proofs.YtjbcdfbgbocblaaDoor.Hw
/- Columns' letters: the program and the document alike. -/
namespace Go.Proofs.YtjbcdfbgbocblaaDoor.Hw
open Go.RowKit Go.Proofs.YtjbcdfbgbocblaaDoorW.PrintWords Go.Proofs.YtjbcdfbgbocblaaDoorW.PrintLast Go.Proofs.YtjbcdfbgbocblaaDoorW.PrintMore Go.Proofs.YtjbcdfbgbocblaaDoor.PH Go.Proofs.YtjbcdfbgbocblaaDoor.CP
set_option linter.unusedVariables false
set_option linter.unusedSimpArgs false
theorem w64n {x : Int} (h : -9223372036854775808 ≤ x ∧ x ≤ 9223372036854775807) : wrap64 x = x := by unfold wrap64; omega
/-- The value of capital letters behind a value. -/
def pv : Nat → List UInt8 → Option Nat
  | v, [] => some v
  | v, c :: t => if 65 ≤ c.toNat ∧ c.toNat ≤ 90 then pv (v * 26 + (c.toNat - 65) + 1) t else none
def pvR (v : Nat) (l : List UInt8) : Int × Int := match pv v l with
  | some z => if z < 1 ∨ 1024 < z then (0, 110) else ((z : Int) - 1, 0)
  | none => (0, 110)
theorem pv_le : ∀ (l : List UInt8) (v z : Nat), pv v l = some z → v ≤ z
  | [], v, z, h => by injection h with h; omega
  | c :: t, v, z, h => by
    rw [pv] at h
    split at h
    · have := pv_le t _ z h; omega
    · cases h
theorem pvR_big {v : Nat} (hv : 1024 < v) (l : List UInt8) : pvR v l = (0, 110) := by
  unfold pvR
  cases h : pv v l with
  | none => rfl
  | some z => have := pv_le l v z h; simp only []; rw [if_pos (by omega)]
theorem drop_cons (s : ByteArray) (i : Nat) (h : i < s.size) : s.data.toList.drop i = s[i] :: s.data.toList.drop (i + 1) := by
  have hz := Lib.size_eq s
  rw [List.drop_eq_getElem_cons (by omega)]
  rfl
theorem let_mod (c : Nat) (h1 : 65 ≤ c) (h2 : c ≤ 90) : ((c : Int) - 65) % 256 = ((c - 65 : Nat) : Int) := by rw [Int.emod_eq_of_lt (by omega) (by omega)]; omega
theorem let_step (v x : Nat) (hv : v ≤ 30000) (hx : x ≤ 25) : wrap64 (wrap64 (wrap64 ((v : Int) * 26) + (x : Int)) + 1) = ((v * 26 + x + 1 : Nat) : Int) := by
  have a0 : wrap64 ((v : Int) * 26) = (v : Int) * 26 := w64n (by omega)
  rw [a0]
  have a1 : wrap64 ((v : Int) * 26 + (x : Int)) = (v : Int) * 26 + (x : Int) := w64n (by omega)
  rw [a1, w64n (by omega)]; omega
theorem let_step2 (v x : Nat) (hv : v ≤ 30000) (hx : x ≤ 25) : wrap64 (wrap64 (wrap64 (26 * (v : Int)) + (x : Int)) + 1) = ((v * 26 + x + 1 : Nat) : Int) := by rw [Int.mul_comm]; exact let_step v x hv hx
theorem next_i (i : Nat) (h : i ≤ 140737488351232) : wrap64 ((i : Int) + 1) = ((i + 1 : Nat) : Int) := by rw [w64n (by omega)]; rfl
theorem prog_loop (s : ByteArray) (hs : s.size ≤ 140737488351232) : ∀ (d i v K : Nat), s.size - i = d → i ≤ s.size → d < K → v ≤ 30000 → refs_ParseColumn.l0 K s (v : Int) (s.size : Int) (i : Int) = some (pvR v (s.data.toList.drop i)) := by
  intro d
  induction d with
  | zero =>
    intro i v K hd hi hK hv
    obtain ⟨K, rfl⟩ : ∃ m, K = m + 1 := ⟨K - 1, by omega⟩
    have hz := Lib.size_eq s
    rw [refs_ParseColumn.l0, if_neg (by omega), List.drop_eq_nil_of_le (by omega)]
    unfold pvR
    simp only [pv]
    by_cases h1 : v < 1
    · rw [if_pos (by omega), if_pos (.inl h1)]
    · rw [if_neg (by omega)]
      by_cases h2 : 1024 < v
      · rw [if_pos (by omega), if_pos (.inr h2)]
      · rw [if_neg (by omega), if_neg (by omega), w64n (by omega)]
  | succ d ih =>
    intro i v K hd hi hK hv
    obtain ⟨K, rfl⟩ : ∃ m, K = m + 1 := ⟨K - 1, by omega⟩
    have h : i < s.size := by omega
    rw [refs_ParseColumn.l0, if_pos (by omega), if_pos (by omega), if_pos (by omega), bt_nat s i h, drop_cons s i h]
    have hb := UInt8.toNat_lt (s[i])
    by_cases h1 : (s[i]).toNat < 65
    · rw [if_pos (by omega)]
      unfold pvR; rw [pv, if_neg (by omega)]
    · rw [if_neg (by omega)]
      by_cases h2 : 90 < (s[i]).toNat
      · rw [if_pos (by omega)]
        unfold pvR; rw [pv, if_neg (by omega)]
      · rw [if_neg (by omega)]
        by_cases h3 : 1024 < v
        · rw [if_pos (by omega), pvR_big h3]
        · rw [if_neg (by omega)]
          have c1 : 65 ≤ (s[i]).toNat := by omega
          have c2 : (s[i]).toNat ≤ 90 := by omega
          rw [let_mod _ c1 c2, let_step v _ hv (by omega), next_i i (by omega), ih (i + 1) _ K (by omega) (by omega) (by omega) (by omega)]
          have e5 : pvR v (s[i] :: s.data.toList.drop (i + 1)) = pvR (v * 26 + ((s[i]).toNat - 65) + 1) (s.data.toList.drop (i + 1)) := by
            unfold pvR; rw [pv, if_pos (by omega)]
          rw [e5]
theorem ref_loop (s : ByteArray) (hs : s.size ≤ 140737488351232) : ∀ (d i v K : Nat), s.size - i = d → i ≤ s.size → d < K → (v ≤ 18278 ∧ (1 ≤ d → v ≤ 702) ∧ (2 ≤ d → v ≤ 26) ∧ (3 ≤ d → v = 0) ∧ d ≤ 3) → (0 < v ∨ 0 < d) → gridironref11_ParseColumn.l0 K s (v : Int) (i : Int) = some (pvR v (s.data.toList.drop i)) := by
  intro d
  induction d with
  | zero =>
    intro i v K hd hi hK hv h0
    obtain ⟨K, rfl⟩ : ∃ m, K = m + 1 := ⟨K - 1, by omega⟩
    have hz := Lib.size_eq s
    rw [gridironref11_ParseColumn.l0, if_neg (by omega), List.drop_eq_nil_of_le (by omega)]
    unfold pvR
    simp only [pv]
    by_cases h2 : 1024 < v
    · rw [if_pos (by omega), if_pos (.inr h2)]
    · rw [if_neg (by omega), if_neg (by omega), w64n (by omega)]
  | succ d ih =>
    intro i v K hd hi hK hv h0
    obtain ⟨K, rfl⟩ : ∃ m, K = m + 1 := ⟨K - 1, by omega⟩
    have h : i < s.size := by omega
    rw [gridironref11_ParseColumn.l0, if_pos (by omega), if_pos (by omega), bt_nat s i h, drop_cons s i h]
    have hb := UInt8.toNat_lt (s[i])
    by_cases h1 : (s[i]).toNat < 65
    · rw [if_pos (by omega)]
      unfold pvR; rw [pv, if_neg (by omega)]
    · rw [if_neg (by omega)]
      by_cases h2 : 90 < (s[i]).toNat
      · rw [if_pos (by omega)]
        unfold pvR; rw [pv, if_neg (by omega)]
      · rw [if_neg (by omega)]
        have hv4 : v ≤ 702 := hv.2.1 (by omega)
        have hv2 : (v * 26 + ((s[i]).toNat - 65) + 1 ≤ 18278 ∧ (1 ≤ d → v * 26 + ((s[i]).toNat - 65) + 1 ≤ 702) ∧ (2 ≤ d → v * 26 + ((s[i]).toNat - 65) + 1 ≤ 26) ∧ (3 ≤ d → v * 26 + ((s[i]).toNat - 65) + 1 = 0) ∧ d ≤ 3) := by
          obtain ⟨x1, x2, x3, x4, x5⟩ := hv
          refine ⟨by omega, fun g => ?_, fun g => ?_, fun g => by omega, by omega⟩
          · have := x3 (by omega); omega
          · have := x4 (by omega); omega
        clear hv
        have c1 : 65 ≤ (s[i]).toNat := by omega
        have c2 : (s[i]).toNat ≤ 90 := by omega
        rw [let_mod _ c1 c2, let_step2 v _ (by omega) (by omega), next_i i (by omega), ih (i + 1) _ K (by omega) (by omega) (by omega) hv2 (.inl (by omega))]
        have e5 : pvR v (s[i] :: s.data.toList.drop (i + 1)) = pvR (v * 26 + ((s[i]).toNat - 65) + 1) (s.data.toList.drop (i + 1)) := by
          unfold pvR; rw [pv, if_pos (by omega)]
        rw [e5]
theorem pv_four (a b c d : UInt8) (t : List UInt8) : pvR 0 (a :: b :: c :: d :: t) = (0, 110) := by
  have step : ∀ (v : Nat) (x : UInt8) (l : List UInt8), pvR v (x :: l) = if 65 ≤ x.toNat ∧ x.toNat ≤ 90 then pvR (v * 26 + (x.toNat - 65) + 1) l else (0, 110) := fun v x l => by
    unfold pvR; rw [pv]; split <;> simp_all
  rw [step]
  split
  · rw [step]
    split
    · rw [step]
      split
      · rw [step]
        split
        · exact pvR_big (by omega) _
        · rfl
      · rfl
    · rfl
  · rfl
theorem prog_is (s : ByteArray) (hs : s.size ≤ 140737488351232) : refs_ParseColumn.f (s.size + 1) s = some (pvR 0 s.data.toList) := by
  have := prog_loop s hs s.size 0 0 (s.size + 1) (by omega) (by omega) (by omega) (by omega)
  rw [List.drop_zero] at this
  exact this
theorem ref_is (s : ByteArray) (hs : s.size ≤ 140737488351232) : ∃ K, gridironref11_ParseColumn.f K s = some (pvR 0 s.data.toList) := by
  have hz := Lib.size_eq s
  unfold gridironref11_ParseColumn.f
  by_cases h0 : s.size < 1
  · refine ⟨1, ?_⟩
    rw [if_pos (by omega)]
    have : s.data.toList = [] := List.eq_nil_of_length_eq_zero (by omega)
    rw [this]; rfl
  · by_cases h3 : 3 < s.size
    · refine ⟨1, ?_⟩
      rw [if_neg (by omega), decide_eq_true (show (s.size : Int) > 3 by omega)]
      obtain ⟨a, b, c, d, t, h⟩ : ∃ a b c d t, s.data.toList = a :: b :: c :: d :: t := by
        match hl : s.data.toList with
        | [] => exact absurd hz (by rw [hl]; simp only [List.length_nil]; omega)
        | [_] => exact absurd hz (by rw [hl]; simp only [List.length_cons, List.length_nil]; omega)
        | [_, _] => exact absurd hz (by rw [hl]; simp only [List.length_cons, List.length_nil]; omega)
        | [_, _, _] => exact absurd hz (by rw [hl]; simp only [List.length_cons, List.length_nil]; omega)
        | a :: b :: c :: d :: t => exact ⟨a, b, c, d, t, rfl⟩
      rw [h, pv_four]
      simp [gridironref11_ParseColumn.j0]
    · refine ⟨s.size + 2, ?_⟩
      rw [if_neg (by omega), decide_eq_false (show ¬ (s.size : Int) > 3 by omega)]
      have := ref_loop s hs s.size 0 0 (s.size + 1) (by omega) (by omega) (by omega) ⟨by omega, fun _ => by omega, fun _ => by omega, fun _ => rfl, by omega⟩ (.inr (by omega))
      rw [List.drop_zero] at this
      simp only [gridironref11_ParseColumn.j0, Bool.false_eq_true, if_false]
      exact this
theorem col_num (m : Nat) (hm : m ≤ 1024) : (strOfNums [(wrap64 (65 + (Int.tmod (wrap64 (((m + 1 : Nat) : Int) - 1)) 26))) % 256]) = ⟨#[UInt8.ofNat (65 + m % 26)]⟩ := by
  have e1 : wrap64 (((m + 1 : Nat) : Int) - 1) = (m : Int) := by rw [w64n (by omega)]; omega
  have e2 : Int.tmod (m : Int) 26 = ((m % 26 : Nat) : Int) := by rw [Int.tmod_eq_emod_of_nonneg (by omega)]; rfl
  have e3 : wrap64 (65 + ((m % 26 : Nat) : Int)) = ((65 + m % 26 : Nat) : Int) := by rw [w64n (by omega)]; rfl
  have e4 : ((65 + m % 26 : Nat) : Int) % 256 = ((65 + m % 26 : Nat) : Int) := Int.emod_eq_of_lt (by omega) (by omega)
  rw [e1, e2, e3, e4]
  rfl
theorem rcol_loop (n : Nat) : ∀ (m : Nat) (sf : ByteArray) (K : Nat), m ≤ 1024 → sf.size + m ≤ 2048 → m < K → colB m ++ sf.data.toList = colB (n + 1) → gridironref11_Column.l0 K (m : Int) sf = some (colS n, 0) := by
  intro m
  induction m using Nat.strongRecOn with
  | _ m ih =>
    intro sf K hm hs hK hE
    obtain ⟨K, rfl⟩ : ∃ q, K = q + 1 := ⟨K - 1, by omega⟩
    rw [gridironref11_Column.l0]
    cases m with
    | zero =>
      rw [if_neg (by omega)]
      rw [colB_zero, List.nil_append] at hE
      unfold colS
      rw [← hE]
    | succ m =>
      rw [if_pos (by omega)]
      simp only [Option.bind_some]
      rw [col_num m (by omega)]
      have hz : ((⟨#[UInt8.ofNat (65 + m % 26)]⟩ : ByteArray) ++ sf).size = sf.size + 1 := by rw [ByteArray.size_append]; show 1 + _ = _; omega
      have hz1 : (⟨#[UInt8.ofNat (65 + m % 26)]⟩ : ByteArray).size = 1 := rfl
      have e1 : wrap64 (Int.tdiv (wrap64 (((m + 1 : Nat) : Int) - 1)) 26) = ((m / 26 : Nat) : Int) := by
        have a1 : wrap64 (((m + 1 : Nat) : Int) - 1) = (m : Int) := by rw [w64n (by omega)]; omega
        rw [a1, Int.tdiv_eq_ediv_of_nonneg (by omega), w64n (by omega)]; rfl
      rw [if_pos (by rw [hz1]; omega), e1]
      refine ih (m / 26) (by omega) _ K (by omega) (by rw [hz]; omega) (by omega) ?_
      rw [← hE, colB_succ, ByteArray.data_append, Array.toList_append]; simp
theorem rcol_ok (n : Nat) (hn : n < 1024) : ∃ K, gridironref11_Column.f K (n : Int) = some (colS n, 0) := by
  refine ⟨2000, ?_⟩
  unfold gridironref11_Column.f
  rw [if_neg (by omega), decide_eq_false (show ¬ (n : Int) ≥ 1024 by omega)]
  have h := rcol_loop n (n + 1) ⟨#[]⟩ 1999 (by omega) (by show 0 + _ ≤ _; omega) (by omega) (by simp)
  rw [show (2000 : Nat) = 1999 + 1 from rfl]
  simp only [gridironref11_Column.j0, Bool.false_eq_true, if_false]
  rw [next_i n (by omega)]
  exact h
theorem rcol_bad (n : Int) (hn : n < 0 ∨ 1024 ≤ n) : gridironref11_Column.f 1 n = some (⟨#[]⟩, 110) := by
  unfold gridironref11_Column.f
  rcases hn with h | h
  · rw [if_pos h]; simp [gridironref11_Column.j0]
  · rw [if_neg (by omega), decide_eq_true (show n ≥ 1024 from h)]; simp [gridironref11_Column.j0]
theorem columns_alike (n : Int) : ∃ (a : ByteArray) (e : Int), (∀ w, Calls Tryd.prog 8 #[.int .i64 n] w fun e' w' => e' = .returned (.tuple #[.string a, .int .i64 e]) ∧ Below w.heap.size w w') ∧ (∀ w, Calls Tryd.prog 9 #[.int .i64 n] w fun e' w' => e' = .returned (.tuple #[.string a, .int .i64 e]) ∧ Below w.heap.size w w') := by
  by_cases h : n < 0 ∨ 1024 ≤ n
  · exact ⟨_, _, fun w => (column_bad n h w).mono fun e w' ⟨h1, h2⟩ => ⟨h1, h2 ▸ Below.refl _ _⟩, fun w => gridironref11_Column.calls 1 n _ _ w (rcol_bad n h)⟩
  · obtain ⟨m, rfl⟩ := Int.eq_ofNat_of_zero_le (show 0 ≤ n by omega)
    obtain ⟨K, hK⟩ := rcol_ok m (by omega)
    exact ⟨_, _, fun w => (column_ok m (by omega) w).mono fun e w' ⟨h1, h2⟩ => ⟨h1, h2 ▸ Below.refl _ _⟩, fun w => gridironref11_Column.calls K m _ _ w hK⟩
set_option maxRecDepth 100000 in
set_option maxHeartbeats 4000000 in
theorem refsColumns_walk (w : World) (hC : ChW w) (n : Int) (hn : (Lit.int .i64 n).wf = true) (s : ByteArray) (hs : s.size ≤ 140737488351232) :
    Calls Tryd.prog 3 #[.int .i64 n, .string s] w fun e w' => e = .returned (.bool true) ∧ Below w.heap.size w w' := by
  obtain ⟨a, e, h1, h2⟩ := columns_alike n
  have H1 := Aside0.mk h1
  have H2 := Aside0.mk h2
  obtain ⟨K, hK⟩ := ref_is s hs
  have hP := prog_is s hs
  obtain ⟨x, y, hxy⟩ : ∃ x y, pvR 0 s.data.toList = (x, y) := ⟨_, _, rfl⟩
  rw [hxy] at hP hK
  have H3 : Aside0 (∀ w1, _) := ⟨fun w1 => refs_ParseColumn.calls _ s x y w1 hP⟩
  have H4 : Aside0 (∀ w1, _) := ⟨fun w1 => gridironref11_ParseColumn.calls K s x y w1 hK⟩
  clear hxy hP
  have HL : Aside0 (∀ w1, Below w.heap.size w w1 → _) := ⟨fun w1 hb => live11_calls w1 (hC.go hb)⟩
  clear h1 h2 hK hC
  go_enter Tryd.func3, Tryd.ntmps3
  go_wp2_with fail
  refine (H1.out _).mono ?_
  rintro e1 w1 ⟨rfl, hb⟩
  have HB := Aside0.mk hb
  clear hb
  go_wp2_with fail
  refine (H2.out _).mono ?_
  rintro e2 w2 ⟨rfl, hb⟩
  have HB2 := Aside0.mk (HB.out.trans (hb.mono HB.out.size))
  clear hb HB
  go_wp2_with fail
  refine (H3.out _).mono ?_
  rintro e3 w3 ⟨rfl, hb⟩
  have HB3 := Aside0.mk (HB2.out.trans (hb.below.mono HB2.out.size))
  clear hb HB2
  go_wp2_with fail
  refine (H4.out _).mono ?_
  rintro e4 w4 ⟨rfl, hb⟩
  have HB4 := Aside0.mk (HB3.out.trans (hb.below.mono HB3.out.size))
  clear hb HB3
  go_wp2_with fail
  refine (HL.out _ HB4.out).mono ?_
  rintro e5 w5 ⟨rfl, hb⟩
  have HB5 := Aside0.mk (HB4.out.trans (hb.mono HB4.out.size))
  clear hb HB4
  go_wp2
  go_ret
  exact ⟨rfl, HB5.out⟩
end Go.Proofs.YtjbcdfbgbocblaaDoor.Hw
/- A reference's text, walked: Quote, a corner's text, Text, of refs and of the document. -/
namespace Go.Proofs.YtjbcdfbgbocblaaDoor.CP
def dolS (b : Bool) : ByteArray := if b = true then ⟨#[36]⟩ else ⟨#[]⟩
/-- A sheet's name as references have it. -/
def quoS (s : ByteArray) : ByteArray := if nmOK s = true then (if plB s = true then s else ⟨#[39]⟩ ++ s ++ ⟨#[39]⟩) else ⟨#[]⟩
def quoE (s : ByteArray) : Int := if nmOK s = true then 0 else 111
def numS (r : Int) : ByteArray := ⟨(Lib.itoa r).toArray⟩
/-- A corner's text. -/
def corS (r q : Int) (u v : Bool) : ByteArray := dolS v ++ colS q.toNat ++ dolS u ++ numS (r + 1)
/-- A reference's text. -/
def texA (x : Rf) : ByteArray := dolS x.f ++ quoS x.s ++ ⟨#[46]⟩ ++ corS x.r x.q x.u x.v
def texB (x : Rf) : ByteArray := ⟨#[58]⟩ ++ quoS x.t ++ ⟨#[46]⟩ ++ corS x.r2 x.q2 x.u2 x.v2
def texS (x : Rf) : ByteArray := if x.e = true then texA x ++ texB x else texA x
theorem app_assoc (a b c : ByteArray) : a ++ b ++ c = a ++ (b ++ c) := ByteArray.append_assoc
theorem app_nil (a : ByteArray) : a ++ (⟨#[]⟩ : ByteArray) = a := ByteArray.append_empty
theorem nil_app (a : ByteArray) : (⟨#[]⟩ : ByteArray) ++ a = a := ByteArray.empty_append
end Go.Proofs.YtjbcdfbgbocblaaDoor.CP
namespace Go.Proofs.YtjbcdfbgbocblaaDoor.Hw
open Go.RowKit Go.Proofs.YtjbcdfbgbocblaaDoorW.PrintWords Go.Proofs.YtjbcdfbgbocblaaDoorW.PrintLast Go.Proofs.YtjbcdfbgbocblaaDoorW.PrintMore Go.Proofs.YtjbcdfbgbocblaaDoor.PH Go.Proofs.YtjbcdfbgbocblaaDoor.CP
set_option linter.unusedVariables false
set_option linter.unusedSimpArgs false
/-- The table of the powers of ten. -/
def TabW (w : World) : Prop := Lib.TabIs Tryd.prog w "internal/strconv.uint64pow10" .u64 Lib.pow10Tab
theorem TabW.go {w w' : World} (h : TabW w) (hb : Below w.heap.size w w') : TabW w' := by
  unfold TabW Lib.TabIs World.var? at *
  have hg : Tryd.prog.globalNamed "internal/strconv.uint64pow10" = some 2 := by kernel_rfl
  rw [hg] at h ⊢
  simp only [Option.bind_some] at h ⊢
  have hlt : 2 < w.heap.size := by
    rcases Nat.lt_or_ge 2 w.heap.size with h' | h'
    · exact h'
    · rw [Array.getElem?_eq_none h'] at h; cases h
  rw [hb.block _ hlt]
  exact h
theorem itoa_calls (n : Int) (h0 : -9223372036854775808 ≤ n) (h1 : n ≤ 9223372036854775807) (w : World) (hT : TabW w) :
    Calls Tryd.prog 41 #[.int .i64 n] w fun e w' => e = .returned (.string (numS n)) ∧ Below w.heap.size w w' :=
  (Tryd.strconv_Itoa n h0 h1 w hT).mono fun e w' h => ⟨h.1, by obtain ⟨k, os, rfl⟩ := h.2; exact ⟨rfl, rfl, rfl, (by show w.heap.size ≤ (w.heap ++ os).size; rw [Array.size_append]; omega), fun j hj => (by show (w.heap ++ os)[j]? = w.heap[j]?; exact Array.getElem?_append_left hj)⟩⟩
theorem dollar_calls (b : Bool) (w : World) : Calls Tryd.prog 28 #[.bool b] w fun e w' => e = .returned (.string (dolS b)) ∧ Below w.heap.size w w' :=
  (refs_dollar.calls b (dolS b) w (by unfold refs_dollar.f dolS; cases b <;> rfl)).mono fun e w' h => ⟨h.1, h.2.below⟩
set_option maxRecDepth 100000 in
set_option maxHeartbeats 4000000 in
theorem quote_calls (s : ByteArray) (w : World) (hC : ChW w) (hs : s.size ≤ 140737488351232) : Calls Tryd.prog 27 #[.string s] w fun e w' => e = .returned (.tuple #[.string (quoS s), .int .i64 (quoE s)]) ∧ Below w.heap.size w w' := by
  have HN := Aside0.mk (sheet_calls s w hC (by unfold maxLen; omega))
  have HL : Aside0 (∀ w1, _) := ⟨fun w1 => plain_calls s w1 hs⟩
  clear hC
  unfold quoS quoE
  cases n1 : nmOK s <;> cases n2 : plB s <;> rw [n1] at HN <;> rw [n2] at HL <;> clear n1 n2
  all_goals
    go_enter Tryd.func27, Tryd.ntmps27
    go_wp2_with (first
      | (go_at_call 32; refine HN.out.mono ?_; rintro e w1 ⟨rfl, hb⟩; have HB := Aside0.mk hb; clear hb)
      | (go_at_call 40; refine (HL.out _).mono ?_; rintro e w2 ⟨rfl, rfl⟩))
    go_ret2
    exact ⟨rfl, HB.out⟩
--@RPLAIN
set_option maxRecDepth 100000 in
set_option maxHeartbeats 16000000 in
theorem rplain_calls (s : ByteArray) (w : World) (hs : s.size ≤ 140737488351232) (h0 : 0 < s.size) : Calls Tryd.prog 42 #[.string s] w fun e w' => e = .returned (.bool (plB s)) ∧ w = w' := by
  go_enter Tryd.func42, Tryd.ntmps42
  go_wp2
  go_loopw [3] (fun i wr => ∃ j : Nat, j ≤ s.size ∧ i = .int .i64 j ∧ w = wr ∧ Aside0 (∀ q, (hq : q < s.size) → q < j → okAt (s[q]).toNat q = true)) (fun i _ => s.size - (intOf i).toNat)
  case atStart => exact ⟨0, Nat.zero_le _, rfl, rfl, ⟨fun q _ h => absurd h (Nat.not_lt_zero _)⟩⟩
  case round =>
    obtain ⟨j, hj, rfl, rfl, HO⟩ := hrel
    by_cases hlt : j < s.size
    · have HN : Aside0 (okAt (s[j]).toNat j = true → ∀ q, (hq : q < s.size) → q < j + 1 → okAt (s[q]).toNat q = true) := ⟨fun h q hq hqj => by
        by_cases e : q = j
        · subst e; exact h
        · exact HO.out q hq (by omega)⟩
      have HF : Aside0 (okAt (s[j]).toNat j = false → plB s = false) := ⟨fun h => plB_no hlt h⟩
      have hb : (s[j]).toNat < 256 := UInt8.toNat_lt _
      have hcl : (0 ≤ (s[j]).toNat ∧ (s[j]).toNat ≤ 47) ∨ (48 ≤ (s[j]).toNat ∧ (s[j]).toNat ≤ 57) ∨ (58 ≤ (s[j]).toNat ∧ (s[j]).toNat ≤ 64) ∨ (65 ≤ (s[j]).toNat ∧ (s[j]).toNat ≤ 90) ∨ (91 ≤ (s[j]).toNat ∧ (s[j]).toNat ≤ 94) ∨ (95 ≤ (s[j]).toNat ∧ (s[j]).toNat ≤ 95) ∨ (96 ≤ (s[j]).toNat ∧ (s[j]).toNat ≤ 96) ∨ (97 ≤ (s[j]).toNat ∧ (s[j]).toNat ≤ 122) ∨ (123 ≤ (s[j]).toNat ∧ (s[j]).toNat ≤ 255) := by omega
      rcases hcl with ⟨k1, k2⟩ | ⟨k1, k2⟩ | ⟨k1, k2⟩ | ⟨k1, k2⟩ | ⟨k1, k2⟩ | ⟨k1, k2⟩ | ⟨k1, k2⟩ | ⟨k1, k2⟩ | ⟨k1, k2⟩
      ·
        have t1 : decide (65 ≤ ((s[j]).toNat : Int)) = false := decide_eq_false (by omega)
        have t2 : decide (((s[j]).toNat : Int) ≤ 90) = true := decide_eq_true (by omega)
        have t3 : decide (97 ≤ ((s[j]).toNat : Int)) = false := decide_eq_false (by omega)
        have t4 : decide (((s[j]).toNat : Int) ≤ 122) = true := decide_eq_true (by omega)
        have t5 : decide (48 ≤ ((s[j]).toNat : Int)) = false := decide_eq_false (by omega)
        have t6 : decide (((s[j]).toNat : Int) ≤ 57) = true := decide_eq_true (by omega)
        have t7 : (((s[j]).toNat : Int) == 95) = false := by simp; omega
        have t8 : (((s[j]).toNat : Int) != 95) = true := by simp; omega
        by_cases hz : j = 0
        · have hz2 := Aside0.mk hz
          have z1 : ((j : Int) == 0) = true := by simp; omega
          have z2 : (j == 0) = true := by simp; omega
          have HX : Aside0 (okAt (s[j]).toNat j = false) := ⟨by unfold okAt isL isD; simp; omega⟩
          clear k1 k2 hb hz
          go_wp2
          go_ret
          exact ⟨by rw [HF.out HX.out]; rfl, rfl⟩
        · have hz2 := Aside0.mk hz
          have z1 : ((j : Int) == 0) = false := by simp; omega
          have z2 : (j == 0) = false := by simp; omega
          have HX : Aside0 (okAt (s[j]).toNat j = false) := ⟨by unfold okAt isL isD; simp; omega⟩
          clear k1 k2 hb hz
          go_wp2
          go_ret
          exact ⟨by rw [HF.out HX.out]; rfl, rfl⟩
      ·
        have t1 : decide (65 ≤ ((s[j]).toNat : Int)) = false := decide_eq_false (by omega)
        have t2 : decide (((s[j]).toNat : Int) ≤ 90) = true := decide_eq_true (by omega)
        have t3 : decide (97 ≤ ((s[j]).toNat : Int)) = false := decide_eq_false (by omega)
        have t4 : decide (((s[j]).toNat : Int) ≤ 122) = true := decide_eq_true (by omega)
        have t5 : decide (48 ≤ ((s[j]).toNat : Int)) = true := decide_eq_true (by omega)
        have t6 : decide (((s[j]).toNat : Int) ≤ 57) = true := decide_eq_true (by omega)
        have t7 : (((s[j]).toNat : Int) == 95) = false := by simp; omega
        have t8 : (((s[j]).toNat : Int) != 95) = true := by simp; omega
        by_cases hz : j = 0
        · have hz2 := Aside0.mk hz
          have z1 : ((j : Int) == 0) = true := by simp; omega
          have z2 : (j == 0) = true := by simp; omega
          have HX : Aside0 (okAt (s[j]).toNat j = false) := ⟨by unfold okAt isL isD; simp; omega⟩
          clear k1 k2 hb hz
          go_wp2
          go_ret
          exact ⟨by rw [HF.out HX.out]; rfl, rfl⟩
        · have hz2 := Aside0.mk hz
          have z1 : ((j : Int) == 0) = false := by simp; omega
          have z2 : (j == 0) = false := by simp; omega
          have HX : Aside0 (okAt (s[j]).toNat j = true) := ⟨by unfold okAt isL isD; simp; omega⟩
          clear k1 k2 hb hz
          go_wp2
          go_roundw
          case rel => exact ⟨j + 1, by omega, by go_num, by first | rfl | trivial, ⟨HN.out HX.out⟩⟩
          case measure => simp only [intOf]; omega
      ·
        have t1 : decide (65 ≤ ((s[j]).toNat : Int)) = false := decide_eq_false (by omega)
        have t2 : decide (((s[j]).toNat : Int) ≤ 90) = true := decide_eq_true (by omega)
        have t3 : decide (97 ≤ ((s[j]).toNat : Int)) = false := decide_eq_false (by omega)
        have t4 : decide (((s[j]).toNat : Int) ≤ 122) = true := decide_eq_true (by omega)
        have t5 : decide (48 ≤ ((s[j]).toNat : Int)) = true := decide_eq_true (by omega)
        have t6 : decide (((s[j]).toNat : Int) ≤ 57) = false := decide_eq_false (by omega)
        have t7 : (((s[j]).toNat : Int) == 95) = false := by simp; omega
        have t8 : (((s[j]).toNat : Int) != 95) = true := by simp; omega
        by_cases hz : j = 0
        · have hz2 := Aside0.mk hz
          have z1 : ((j : Int) == 0) = true := by simp; omega
          have z2 : (j == 0) = true := by simp; omega
          have HX : Aside0 (okAt (s[j]).toNat j = false) := ⟨by unfold okAt isL isD; simp; omega⟩
          clear k1 k2 hb hz
          go_wp2
          go_ret
          exact ⟨by rw [HF.out HX.out]; rfl, rfl⟩
        · have hz2 := Aside0.mk hz
          have z1 : ((j : Int) == 0) = false := by simp; omega
          have z2 : (j == 0) = false := by simp; omega
          have HX : Aside0 (okAt (s[j]).toNat j = false) := ⟨by unfold okAt isL isD; simp; omega⟩
          clear k1 k2 hb hz
          go_wp2
          go_ret
          exact ⟨by rw [HF.out HX.out]; rfl, rfl⟩
      ·
        have t1 : decide (65 ≤ ((s[j]).toNat : Int)) = true := decide_eq_true (by omega)
        have t2 : decide (((s[j]).toNat : Int) ≤ 90) = true := decide_eq_true (by omega)
        have t3 : decide (97 ≤ ((s[j]).toNat : Int)) = false := decide_eq_false (by omega)
        have t4 : decide (((s[j]).toNat : Int) ≤ 122) = true := decide_eq_true (by omega)
        have t5 : decide (48 ≤ ((s[j]).toNat : Int)) = true := decide_eq_true (by omega)
        have t6 : decide (((s[j]).toNat : Int) ≤ 57) = false := decide_eq_false (by omega)
        have t7 : (((s[j]).toNat : Int) == 95) = false := by simp; omega
        have t8 : (((s[j]).toNat : Int) != 95) = true := by simp; omega
        have HX : Aside0 (okAt (s[j]).toNat j = true) := ⟨by unfold okAt isL isD; simp; omega⟩
        clear k1 k2 hb
        go_wp2
        go_roundw
        case rel => exact ⟨j + 1, by omega, by go_num, by first | rfl | trivial, ⟨HN.out HX.out⟩⟩
        case measure => simp only [intOf]; omega
      ·
        have t1 : decide (65 ≤ ((s[j]).toNat : Int)) = true := decide_eq_true (by omega)
        have t2 : decide (((s[j]).toNat : Int) ≤ 90) = false := decide_eq_false (by omega)
        have t3 : decide (97 ≤ ((s[j]).toNat : Int)) = false := decide_eq_false (by omega)
        have t4 : decide (((s[j]).toNat : Int) ≤ 122) = true := decide_eq_true (by omega)
        have t5 : decide (48 ≤ ((s[j]).toNat : Int)) = true := decide_eq_true (by omega)
        have t6 : decide (((s[j]).toNat : Int) ≤ 57) = false := decide_eq_false (by omega)
        have t7 : (((s[j]).toNat : Int) == 95) = false := by simp; omega
        have t8 : (((s[j]).toNat : Int) != 95) = true := by simp; omega
        by_cases hz : j = 0
        · have hz2 := Aside0.mk hz
          have z1 : ((j : Int) == 0) = true := by simp; omega
          have z2 : (j == 0) = true := by simp; omega
          have HX : Aside0 (okAt (s[j]).toNat j = false) := ⟨by unfold okAt isL isD; simp; omega⟩
          clear k1 k2 hb hz
          go_wp2
          go_ret
          exact ⟨by rw [HF.out HX.out]; rfl, rfl⟩
        · have hz2 := Aside0.mk hz
          have z1 : ((j : Int) == 0) = false := by simp; omega
          have z2 : (j == 0) = false := by simp; omega
          have HX : Aside0 (okAt (s[j]).toNat j = false) := ⟨by unfold okAt isL isD; simp; omega⟩
          clear k1 k2 hb hz
          go_wp2
          go_ret
          exact ⟨by rw [HF.out HX.out]; rfl, rfl⟩
      ·
        have t1 : decide (65 ≤ ((s[j]).toNat : Int)) = true := decide_eq_true (by omega)
        have t2 : decide (((s[j]).toNat : Int) ≤ 90) = false := decide_eq_false (by omega)
        have t3 : decide (97 ≤ ((s[j]).toNat : Int)) = false := decide_eq_false (by omega)
        have t4 : decide (((s[j]).toNat : Int) ≤ 122) = true := decide_eq_true (by omega)
        have t5 : decide (48 ≤ ((s[j]).toNat : Int)) = true := decide_eq_true (by omega)
        have t6 : decide (((s[j]).toNat : Int) ≤ 57) = false := decide_eq_false (by omega)
        have t7 : (((s[j]).toNat : Int) == 95) = true := by simp; omega
        have t8 : (((s[j]).toNat : Int) != 95) = false := by simp; omega
        have HX : Aside0 (okAt (s[j]).toNat j = true) := ⟨by unfold okAt isL isD; simp; omega⟩
        clear k1 k2 hb
        go_wp2
        go_roundw
        case rel => exact ⟨j + 1, by omega, by go_num, by first | rfl | trivial, ⟨HN.out HX.out⟩⟩
        case measure => simp only [intOf]; omega
      ·
        have t1 : decide (65 ≤ ((s[j]).toNat : Int)) = true := decide_eq_true (by omega)
        have t2 : decide (((s[j]).toNat : Int) ≤ 90) = false := decide_eq_false (by omega)
        have t3 : decide (97 ≤ ((s[j]).toNat : Int)) = false := decide_eq_false (by omega)
        have t4 : decide (((s[j]).toNat : Int) ≤ 122) = true := decide_eq_true (by omega)
        have t5 : decide (48 ≤ ((s[j]).toNat : Int)) = true := decide_eq_true (by omega)
        have t6 : decide (((s[j]).toNat : Int) ≤ 57) = false := decide_eq_false (by omega)
        have t7 : (((s[j]).toNat : Int) == 95) = false := by simp; omega
        have t8 : (((s[j]).toNat : Int) != 95) = true := by simp; omega
        by_cases hz : j = 0
        · have hz2 := Aside0.mk hz
          have z1 : ((j : Int) == 0) = true := by simp; omega
          have z2 : (j == 0) = true := by simp; omega
          have HX : Aside0 (okAt (s[j]).toNat j = false) := ⟨by unfold okAt isL isD; simp; omega⟩
          clear k1 k2 hb hz
          go_wp2
          go_ret
          exact ⟨by rw [HF.out HX.out]; rfl, rfl⟩
        · have hz2 := Aside0.mk hz
          have z1 : ((j : Int) == 0) = false := by simp; omega
          have z2 : (j == 0) = false := by simp; omega
          have HX : Aside0 (okAt (s[j]).toNat j = false) := ⟨by unfold okAt isL isD; simp; omega⟩
          clear k1 k2 hb hz
          go_wp2
          go_ret
          exact ⟨by rw [HF.out HX.out]; rfl, rfl⟩
      ·
        have t1 : decide (65 ≤ ((s[j]).toNat : Int)) = true := decide_eq_true (by omega)
        have t2 : decide (((s[j]).toNat : Int) ≤ 90) = false := decide_eq_false (by omega)
        have t3 : decide (97 ≤ ((s[j]).toNat : Int)) = true := decide_eq_true (by omega)
        have t4 : decide (((s[j]).toNat : Int) ≤ 122) = true := decide_eq_true (by omega)
        have t5 : decide (48 ≤ ((s[j]).toNat : Int)) = true := decide_eq_true (by omega)
        have t6 : decide (((s[j]).toNat : Int) ≤ 57) = false := decide_eq_false (by omega)
        have t7 : (((s[j]).toNat : Int) == 95) = false := by simp; omega
        have t8 : (((s[j]).toNat : Int) != 95) = true := by simp; omega
        have HX : Aside0 (okAt (s[j]).toNat j = true) := ⟨by unfold okAt isL isD; simp; omega⟩
        clear k1 k2 hb
        go_wp2
        go_roundw
        case rel => exact ⟨j + 1, by omega, by go_num, by first | rfl | trivial, ⟨HN.out HX.out⟩⟩
        case measure => simp only [intOf]; omega
      ·
        have t1 : decide (65 ≤ ((s[j]).toNat : Int)) = true := decide_eq_true (by omega)
        have t2 : decide (((s[j]).toNat : Int) ≤ 90) = false := decide_eq_false (by omega)
        have t3 : decide (97 ≤ ((s[j]).toNat : Int)) = true := decide_eq_true (by omega)
        have t4 : decide (((s[j]).toNat : Int) ≤ 122) = false := decide_eq_false (by omega)
        have t5 : decide (48 ≤ ((s[j]).toNat : Int)) = true := decide_eq_true (by omega)
        have t6 : decide (((s[j]).toNat : Int) ≤ 57) = false := decide_eq_false (by omega)
        have t7 : (((s[j]).toNat : Int) == 95) = false := by simp; omega
        have t8 : (((s[j]).toNat : Int) != 95) = true := by simp; omega
        by_cases hz : j = 0
        · have hz2 := Aside0.mk hz
          have z1 : ((j : Int) == 0) = true := by simp; omega
          have z2 : (j == 0) = true := by simp; omega
          have HX : Aside0 (okAt (s[j]).toNat j = false) := ⟨by unfold okAt isL isD; simp; omega⟩
          clear k1 k2 hb hz
          go_wp2
          go_ret
          exact ⟨by rw [HF.out HX.out]; rfl, rfl⟩
        · have hz2 := Aside0.mk hz
          have z1 : ((j : Int) == 0) = false := by simp; omega
          have z2 : (j == 0) = false := by simp; omega
          have HX : Aside0 (okAt (s[j]).toNat j = false) := ⟨by unfold okAt isL isD; simp; omega⟩
          clear k1 k2 hb hz
          go_wp2
          go_ret
          exact ⟨by rw [HF.out HX.out]; rfl, rfl⟩
    · obtain rfl : j = s.size := by omega
      have HE : Aside0 (plB s = true) := ⟨plB_yes h0 (fun q hq => HO.out q hq hq)⟩
      go_wp2
      go_ret
      exact ⟨by rw [HE.out]; rfl, rfl⟩
--@END
set_option maxRecDepth 100000 in
set_option maxHeartbeats 4000000 in
theorem rquote_calls (s : ByteArray) (w : World) (hC : ChW w) (hs : s.size ≤ 140737488351232) : Calls Tryd.prog 30 #[.string s] w fun e w' => e = .returned (.tuple #[.string (quoS s), .int .i64 (quoE s)]) ∧ Below w.heap.size w w' := by
  have HN := Aside0.mk (rsheet_calls s w hC (by unfold maxLen; omega))
  have HL : Aside0 (0 < s.size → ∀ w1, _) := ⟨fun h0 w1 => rplain_calls s w1 hs h0⟩
  clear hC
  unfold quoS quoE
  cases n1 : nmOK s
  · rw [n1] at HN
    clear n1 HL
    go_enter Tryd.func30, Tryd.ntmps30
    go_wp2_with (go_at_call 34; refine HN.out.mono ?_; rintro e w1 ⟨rfl, hb⟩; have HB := Aside0.mk hb; clear hb)
    go_ret2
    exact ⟨rfl, HB.out⟩
  · have h0 : 0 < s.size := by
      rcases Nat.eq_zero_or_pos s.size with h | h
      · rw [nmOK_none h] at n1; cases n1
      · exact h
    have HL2 := Aside0.mk (HL.out h0)
    clear HL h0
    cases n2 : plB s <;> rw [n1] at HN <;> rw [n2] at HL2 <;> clear n1 n2
    all_goals
      go_enter Tryd.func30, Tryd.ntmps30
      go_wp2_with (first
        | (go_at_call 34; refine HN.out.mono ?_; rintro e w1 ⟨rfl, hb⟩; have HB := Aside0.mk hb; clear hb)
        | (go_at_call 42; refine (HL2.out _).mono ?_; rintro e w2 ⟨rfl, rfl⟩))
      go_ret2
      exact ⟨rfl, HB.out⟩
/-- Within a corner's text: the corner lies boxed. -/
structure CtK (w0 : World) (r q : Int) (u v : Bool) (w : World) : Prop where
  below : Below w0.heap.size w0 w
  box : w.heap[w0.heap.size]? = some (.cells (co r q u v) 30 (0, 0))
  tab : TabW w
section
variable {w0 w w' : World} {r q : Int} {u v : Bool}
theorem CtK.go (h : CtK w0 r q u v w) (hb : Below w.heap.size w w') : CtK w0 r q u v w' := ⟨h.below.trans (hb.mono h.below.size), (hb.block _ (blk_lt h.box)).trans h.box, h.tab.go hb⟩
theorem CtK.drew (h : CtK w0 r q u v w) : CtK w0 r q u v w.drew := h.go (Below.refl _ w).drew
theorem CtK.start (hT : TabW w0) : CtK w0 r q u v (w0.alloc (.cells (co r q u v) 30)) :=
  ⟨(Below.refl _ _).alloc (Nat.le_refl _) _, heap_alloc_new w0 _, hT.go ((Below.refl _ _).alloc (Nat.le_refl _) _)⟩
theorem CtK.S (h : CtK w0 r q u v w) : w.cell? ⟨w0.heap.size, 0, none⟩ = some (.int .i64 r) ∧ w.cell? ⟨w0.heap.size, 1, none⟩ = some (.int .i64 q) ∧ w.cell? ⟨w0.heap.size, 2, none⟩ = some (.bool u) ∧ w.cell? ⟨w0.heap.size, 3, none⟩ = some (.bool v) ∧ Aside0 (CtK w0 r q u v w) :=
  let ⟨a, b, c, d⟩ := cof h.box; ⟨a, b, c, d, ⟨h⟩⟩
theorem CtK.on {f : FuncId} {args : Array Value} {e0 : Ending} (h : ∀ w1, TabW w1 → Calls Tryd.prog f args w1 fun e w' => e = e0 ∧ Below w1.heap.size w1 w') :
    ∀ w1, CtK w0 r q u v w1 → Calls Tryd.prog f args w1 fun e w' => e = e0 ∧ Aside0 (CtK w0 r q u v w') := fun w1 hj => (h w1 hj.tab).mono fun e w' hq => ⟨hq.1, ⟨hj.go hq.2⟩⟩
end
theorem dol_size (b : Bool) : (dolS b).size ≤ 1 := by cases b <;> decide
theorem num_size (r : Int) (h0 : 0 ≤ r) (h : r < 1048576) : (numS (r + 1)).size ≤ 21 := by
  unfold numS; rw [size_mk]; exact Lib.itoa_length_le _ (by omega) (by omega)
theorem colB_len : ∀ (k m : Nat), m < 26 ^ k → (colB m).length ≤ k := by
  intro k
  induction k with
  | zero => intro m h; obtain rfl : m = 0 := by simpa using h
            rw [colB_zero]; exact Nat.le_refl _
  | succ k ih =>
    intro m h
    cases m with
    | zero => rw [colB_zero]; exact Nat.zero_le _
    | succ m =>
      rw [colB_succ, List.length_append]
      have := ih (m / 26) (by rw [Nat.div_lt_iff_lt_mul (by decide)]; rw [Nat.pow_succ] at h; omega)
      simp; omega
theorem col_size (n : Nat) (h : n < 1024) : (colS n).size ≤ 3 := by
  unfold colS; rw [size_mk]; exact colB_len 3 (n + 1) (by omega)
theorem rcolumn_ok (n : Nat) (hn : n < 1024) (w : World) : Calls Tryd.prog 9 #[.int .i64 (n : Int)] w fun e w' => e = .returned (.tuple #[.string (colS n), .int .i64 0]) ∧ Below w.heap.size w w' := by
  obtain ⟨K, hK⟩ := rcol_ok n hn
  exact gridironref11_Column.calls K n _ _ w hK
set_option maxRecDepth 100000 in
set_option maxHeartbeats 8000000 in
theorem cornerText_calls (r q : Int) (u v : Bool) (w : World) (hT : TabW w) (hr0 : 0 ≤ r) (hr1 : r < 1048576) (hq0 : 0 ≤ q) (hq1 : q < 1024) :
    Calls Tryd.prog 29 #[.agg (co r q u v)] w fun e w' => e = .returned (.string (corS r q u v)) ∧ Below w.heap.size w w' := by
  obtain ⟨n, rfl⟩ : ∃ n : Nat, q = n := ⟨q.toNat, by omega⟩
  have hn : n < 1024 := by omega
  have HC : Aside0 (∀ w1, _) := ⟨fun w1 => column_ok n hn w1⟩
  have HD : Aside0 (∀ b w1, CtK w r n u v w1 → _) := ⟨fun b => CtK.on (w0 := w) (r := r) (q := n) (u := u) (v := v) fun w1 _ => dollar_calls b w1⟩
  have HI : Aside0 (∀ w1, CtK w r n u v w1 → _) := ⟨CtK.on (w0 := w) (r := r) (q := n) (u := u) (v := v) fun w1 h1 => itoa_calls (r + 1) (by omega) (by omega) w1 h1⟩
  have HJ : Aside0 (CtK w r n u v _) := ⟨CtK.start hT⟩
  have z1 := dol_size v
  have z2 := dol_size u
  have z3 := col_size n hn
  have z4 := num_size r hr0 hr1
  have e1 : ¬ 9223372036854775807 < (dolS v).size + (colS n).size := by omega
  have e2 : ¬ 9223372036854775807 < (dolS v).size + (colS n).size + (dolS u).size := by omega
  have e3 : ¬ 9223372036854775807 < (dolS v).size + (colS n).size + (dolS u).size + (numS (r + 1)).size := by omega
  have hwr : IntKind.i64.wrap (r + 1) = r + 1 := IntWalk.i64_in _ (by omega)
  have HX : Aside0 (corS r n u v = dolS v ++ colS n ++ dolS u ++ numS (r + 1)) := ⟨by unfold corS; rw [Int.toNat_natCast]⟩
  clear z1 z2 z3 z4 hT hr0 hr1 hq0 hq1 hn
  obtain ⟨c0, c1, c2, c3, _⟩ := HJ.out.S
  go_enter Tryd.func29, Tryd.ntmps29
  go_wp2_with (go_at_call 8; refine (HC.out _).mono ?_; rintro e w1 ⟨rfl, rfl⟩)
  clear HC
  go_region_held3 (fun w' => w'.cell? ⟨w.heap.size, 0, none⟩ = some (.int .i64 r) ∧ w'.cell? ⟨w.heap.size, 1, none⟩ = some (.int .i64 (n : Int)) ∧ w'.cell? ⟨w.heap.size, 2, none⟩ = some (.bool u) ∧ w'.cell? ⟨w.heap.size, 3, none⟩ = some (.bool v) ∧ Aside0 (CtK w r n u v w'))
    (first | exact CtK.S (CtK.drew (Aside0.out (by assumption))) | exact CtK.S (Aside0.out (by assumption)))
    (first
      | (go_at_call 28; refine (HD.out _ _ (Aside0.out (And.right (And.right (And.right (And.right (by assumption))))))).mono ?_; rintro e w6 ⟨rfl, hb6⟩)
      | (go_at_call 41; refine (HI.out _ (Aside0.out (And.right (And.right (And.right (And.right (by assumption))))))).mono ?_; rintro e w6 ⟨rfl, hb6⟩))
  all_goals go_wp2
  all_goals go_ret
  all_goals exact ⟨(by rw [HX.out]; rfl), CtK.below (Aside0.out (by assumption))⟩
set_option maxRecDepth 100000 in
set_option maxHeartbeats 8000000 in
theorem written_calls (r q : Int) (u v : Bool) (w : World) (hT : TabW w) (hr0 : 0 ≤ r) (hr1 : r < 1048576) (hq0 : 0 ≤ q) (hq1 : q < 1024) :
    Calls Tryd.prog 31 #[.agg (co r q u v)] w fun e w' => e = .returned (.string (corS r q u v)) ∧ Below w.heap.size w w' := by
  obtain ⟨n, rfl⟩ : ∃ n : Nat, q = n := ⟨q.toNat, by omega⟩
  have hn : n < 1024 := by omega
  have HC : Aside0 (∀ w1, CtK w r n u v w1 → _) := ⟨CtK.on (w0 := w) (r := r) (q := n) (u := u) (v := v) fun w1 _ => rcolumn_ok n hn w1⟩
  have HI : Aside0 (∀ w1, CtK w r n u v w1 → _) := ⟨CtK.on (w0 := w) (r := r) (q := n) (u := u) (v := v) fun w1 h1 => itoa_calls (r + 1) (by omega) (by omega) w1 h1⟩
  have HJ : Aside0 (CtK w r n u v _) := ⟨CtK.start hT⟩
  have z3 := col_size n hn
  have z4 := num_size r hr0 hr1
  have HX : Aside0 (corS r n u v = dolS v ++ colS n ++ dolS u ++ numS (r + 1)) := ⟨by unfold corS; rw [Int.toNat_natCast]⟩
  have hwr : IntKind.i64.wrap (r + 1) = r + 1 := IntWalk.i64_in _ (by omega)
  have e0 : ¬ 9223372036854775807 < (colS n).size + (numS (r + 1)).size := by omega
  have e1 : ¬ 9223372036854775807 < 1 + (colS n).size := by omega
  have e2 : ¬ 9223372036854775807 < 1 + (colS n).size + 1 := by omega
  have e3 : ¬ 9223372036854775807 < (colS n).size + 1 := by omega
  have e4 : ¬ 9223372036854775807 < 1 + (colS n).size + 1 + (numS (r + 1)).size := by omega
  have e5 : ¬ 9223372036854775807 < (colS n).size + 1 + (numS (r + 1)).size := by omega
  have e6 : ¬ 9223372036854775807 < 1 + (colS n).size + (numS (r + 1)).size := by omega
  clear z3 z4 hT hq0 hq1 hn
  obtain ⟨c0, c1, c2, c3, _⟩ := HJ.out.S
  cases u <;> cases v
  all_goals
    go_enter Tryd.func31, Tryd.ntmps31
    go_wp2_with (first
      | (go_at_call 9; refine (HC.out _ HJ.out).mono ?_; rintro e w1 ⟨rfl, hb⟩; obtain ⟨c0, c1, c2, c3, _⟩ := hb.out.S)
      | (go_at_call 41; refine (HI.out _ (Aside0.out (by assumption))).mono ?_; rintro e w6 ⟨rfl, hb6⟩))
    go_ret
    exact ⟨(by rw [HX.out]; simp only [dolS, if_true, if_false, nil_app, app_nil, Bool.false_eq_true]; rfl), CtK.below (Aside0.out (by assumption))⟩
end Go.Proofs.YtjbcdfbgbocblaaDoor.Hw
/- A reference's text, walked: Text of refs and of the document. -/
namespace Go.Proofs.YtjbcdfbgbocblaaDoor.Hw
open Go.RowKit Go.Proofs.YtjbcdfbgbocblaaDoorW.PrintWords Go.Proofs.YtjbcdfbgbocblaaDoorW.PrintLast Go.Proofs.YtjbcdfbgbocblaaDoorW.PrintMore Go.Proofs.YtjbcdfbgbocblaaDoor.PH Go.Proofs.YtjbcdfbgbocblaaDoor.CP
set_option linter.unusedVariables false
set_option linter.unusedSimpArgs false
/-- Within Text: the reference lies boxed. -/
structure TxK (w0 : World) (x : Rf) (w : World) : Prop where
  below : Below w0.heap.size w0 w
  box : w.heap[w0.heap.size]? = some (.cells x.cs 32 (0, 0))
  tabs : ChW w
  tab : TabW w
section
variable {w0 w w' : World} {x : Rf}
theorem TxK.go (h : TxK w0 x w) (hb : Below w.heap.size w w') : TxK w0 x w' := ⟨h.below.trans (hb.mono h.below.size), (hb.block _ (blk_lt h.box)).trans h.box, h.tabs.go hb, h.tab.go hb⟩
theorem TxK.drew (h : TxK w0 x w) : TxK w0 x w.drew := h.go (Below.refl _ w).drew
theorem TxK.start (hC : ChW w0) (hT : TabW w0) : TxK w0 x (w0.alloc (.cells x.cs 32)) :=
  ⟨(Below.refl _ _).alloc (Nat.le_refl _) _, heap_alloc_new w0 _, hC.go ((Below.refl _ _).alloc (Nat.le_refl _) _), hT.go ((Below.refl _ _).alloc (Nat.le_refl _) _)⟩
theorem TxK.S (h : TxK w0 x w) : w.cell? ⟨w0.heap.size, 0, none⟩ = some (.string x.s) ∧ w.cell? ⟨w0.heap.size, 1, none⟩ = some (.string x.t) ∧ w.cell? ⟨w0.heap.size, 2, none⟩ = some (.bool x.f) ∧ w.cell? ⟨w0.heap.size, 3, none⟩ = some (.bool x.e) ∧ w.cell? ⟨w0.heap.size, 4, none⟩ = some (.int .i64 x.r) ∧ w.cell? ⟨w0.heap.size, 5, none⟩ = some (.int .i64 x.q) ∧ w.cell? ⟨w0.heap.size, 6, none⟩ = some (.bool x.u) ∧ w.cell? ⟨w0.heap.size, 7, none⟩ = some (.bool x.v) ∧ w.cell? ⟨w0.heap.size, 8, none⟩ = some (.int .i64 x.r2) ∧ w.cell? ⟨w0.heap.size, 9, none⟩ = some (.int .i64 x.q2) ∧ w.cell? ⟨w0.heap.size, 10, none⟩ = some (.bool x.u2) ∧ w.cell? ⟨w0.heap.size, 11, none⟩ = some (.bool x.v2) ∧ Aside0 (TxK w0 x w) :=
  let ⟨a0, a1, a2, a3, a4, a5, a6, a7, a8, a9, a10, a11⟩ := rfc h.box; ⟨a0, a1, a2, a3, a4, a5, a6, a7, a8, a9, a10, a11, ⟨h⟩⟩
theorem TxK.on {f : FuncId} {args : Array Value} {e0 : Ending} (h : ∀ w1, ChW w1 → TabW w1 → Calls Tryd.prog f args w1 fun e w' => e = e0 ∧ Below w1.heap.size w1 w') :
    ∀ w1, TxK w0 x w1 → Calls Tryd.prog f args w1 fun e w' => e = e0 ∧ Aside0 (TxK w0 x w') := fun w1 hj => (h w1 hj.tabs hj.tab).mono fun e w' hq => ⟨hq.1, ⟨hj.go hq.2⟩⟩
end
theorem chk_ok {x : Rf} (h : chkR x = 0) : okR x := by
  unfold chkR at h
  by_cases g1 : 0 < x.s.size
  · rw [if_pos g1] at h
    cases n1 : nmOK x.s with
    | false => rw [n1, if_pos rfl] at h; exact absurd h (by decide)
    | true =>
      rw [n1, if_neg (by decide)] at h
      by_cases g2 : 0 < x.t.size
      · rw [if_pos g2] at h
        cases n2 : nmOK x.t with
        | false => rw [n2, if_pos rfl] at h; exact absurd h (by decide)
        | true =>
          rw [n2, if_neg (by decide)] at h
          exact ⟨fun _ => n1, fun _ => n2, fun h0 => by omega, tail_ok h⟩
      · rw [if_neg g2] at h
        exact ⟨fun _ => n1, fun h0 => absurd h0 g2, fun h0 => by omega, tail_ok h⟩
  · rw [if_neg g1] at h
    by_cases g2 : 0 < x.t.size
    · rw [if_pos g2] at h; exact absurd h (by decide)
    · rw [if_neg g2] at h
      cases hf : x.f with
      | true => rw [hf, if_pos rfl] at h; exact absurd h (by decide)
      | false =>
        rw [hf, if_neg (by decide)] at h
        exact ⟨fun h0 => absurd h0 g1, fun h0 => absurd h0 g2, fun _ => ⟨by omega, hf⟩, tail_ok h⟩
theorem cor_in {r q : Int} (h : corB r q = true) : 0 ≤ r ∧ r < 1048576 ∧ 0 ≤ q ∧ q < 1024 := of_decide_eq_true h
theorem quo_size (s : ByteArray) : (quoS s).size ≤ 66 := by
  unfold quoS
  by_cases h : nmOK s = true
  · rw [if_pos h]
    have hs : s.size ≤ 64 := by
      rcases Nat.lt_or_ge 64 s.size with h' | h'
      · rw [nmOK_long (by omega)] at h; cases h
      · exact h'
    split
    · omega
    · rw [ByteArray.size_append, ByteArray.size_append]; show 1 + _ + 1 ≤ _; omega
  · rw [if_neg h]; decide
theorem cor_size (r q : Int) (u v : Bool) (hr0 : 0 ≤ r) (hr1 : r < 1048576) (hq0 : 0 ≤ q) (hq1 : q < 1024) : (corS r q u v).size ≤ 30 := by
  unfold corS
  have z1 := dol_size v
  have z2 := dol_size u
  have z3 := col_size q.toNat (by omega)
  have z4 := num_size r hr0 hr1
  rw [ByteArray.size_append, ByteArray.size_append, ByteArray.size_append]; omega
theorem quo_none {s : ByteArray} (h : s.size = 0) : quoS s = ⟨#[]⟩ := by unfold quoS; rw [nmOK_none h]; rfl
set_option maxRecDepth 100000 in
set_option maxHeartbeats 8000000 in
theorem text_bad (x : Rf) (w : World) (hC : ChW w) (hT : TabW w) (hs : x.s.size ≤ 140737488351232) (ht : x.t.size ≤ 140737488351232) (h : chkR x ≠ 0) :
    Calls Tryd.prog 15 #[.agg x.cs] w fun e w' => e = .returned (.tuple #[.string ⟨#[]⟩, .int .i64 (chkR x)]) ∧ Below w.heap.size w w' := by
  have HK : Aside0 (∀ w1, TxK w x w1 → _) := ⟨TxK.on (w0 := w) (x := x) fun w1 h1 _ => check_calls11 x w1 h1 hs ht⟩
  have HJ : Aside0 (TxK w x _) := ⟨TxK.start hC hT⟩
  clear hC hT
  have t1 : (chkR x != 0) = true := by simpa using h
  have t2 : (chkR x == 0) = false := by simpa using h
  generalize chkR x = k at *
  have SZ : Aside0 ((Tryd.prog.info? 32).map (·.size) = some (12 : Nat)) := ⟨by kernel_rfl⟩
  clear h
  go_enter Tryd.func15, Tryd.ntmps15
  go_wp2_with (first
    | ((with_reducible refine gate_dst (N := 10) rfl ?_); refine wpList_load_row rfl 32 _ rfl w.heap.size rfl 32 _ _ _ HJ.out.box Tryd.underlying32 rfl SZ.out ?_)
    | (go_at_call 17; refine (HK.out _ HJ.out).mono ?_; rintro e w1 ⟨rfl, hb⟩))
  go_ret2
  exact ⟨rfl, TxK.below (Aside0.out (by assumption))⟩
set_option maxRecDepth 100000 in
set_option maxHeartbeats 8000000 in
theorem rtext_bad (x : Rf) (w : World) (hC : ChW w) (hT : TabW w) (hs : x.s.size ≤ 140737488351232) (ht : x.t.size ≤ 140737488351232) (h : chkR x ≠ 0) :
    Calls Tryd.prog 16 #[.agg x.cs] w fun e w' => e = .returned (.tuple #[.string ⟨#[]⟩, .int .i64 (chkR x)]) ∧ Below w.heap.size w w' := by
  have HK : Aside0 (∀ w1, TxK w x w1 → _) := ⟨TxK.on (w0 := w) (x := x) fun w1 h1 _ => rcheck_calls11 x w1 h1 hs ht⟩
  have HJ : Aside0 (TxK w x _) := ⟨TxK.start hC hT⟩
  clear hC hT
  have t1 : (chkR x != 0) = true := by simpa using h
  have t2 : (chkR x == 0) = false := by simpa using h
  generalize chkR x = k at *
  have SZ : Aside0 ((Tryd.prog.info? 32).map (·.size) = some (12 : Nat)) := ⟨by kernel_rfl⟩
  clear h
  go_enter Tryd.func16, Tryd.ntmps16
  go_wp2_with (first
    | ((with_reducible refine gate_dst (N := 10) rfl ?_); refine wpList_load_row rfl 32 _ rfl w.heap.size rfl 32 _ _ _ HJ.out.box Tryd.underlying32 rfl SZ.out ?_)
    | (go_at_call 18; refine (HK.out _ HJ.out).mono ?_; rintro e w1 ⟨rfl, hb⟩))
  go_ret2
  exact ⟨rfl, TxK.below (Aside0.out (by assumption))⟩
theorem tex_size (x : Rf) (hx : okR x) : (texS x).size ≤ 140737488351232 := by
  obtain ⟨_, _, _, o4, o5, _⟩ := hx
  have hA := cor_in o4
  have z1 := dol_size x.f
  have z2 := quo_size x.s
  have z3 := quo_size x.t
  have z4 := cor_size x.r x.q x.u x.v hA.1 hA.2.1 hA.2.2.1 hA.2.2.2
  unfold texS texA texB
  have k1 : (⟨#[46]⟩ : ByteArray).size = 1 := rfl
  have k2 : (⟨#[58]⟩ : ByteArray).size = 1 := rfl
  split
  · rename_i he
    have hB := cor_in (o5 he)
    have z5 := cor_size x.r2 x.q2 x.u2 x.v2 hB.1 hB.2.1 hB.2.2.1 hB.2.2.2
    simp only [ByteArray.size_append, k1, k2]; omega
  · simp only [ByteArray.size_append, k1]; omega
set_option maxRecDepth 100000 in
set_option maxHeartbeats 16000000 in
theorem text_ok (x : Rf) (w : World) (hC : ChW w) (hT : TabW w) (hs : x.s.size ≤ 140737488351232) (ht : x.t.size ≤ 140737488351232) (h : chkR x = 0) :
    Calls Tryd.prog 15 #[.agg x.cs] w fun e w' => e = .returned (.tuple #[.string (texS x), .int .i64 0]) ∧ Below w.heap.size w w' := by
  obtain ⟨o1, o2, o3, o4, o5, o6⟩ := chk_ok h
  have hA := cor_in o4
  have HK : Aside0 (∀ w1, TxK w x w1 → _) := ⟨TxK.on (w0 := w) (x := x) fun w1 h1 _ => check_calls11 x w1 h1 hs ht⟩
  rw [h] at HK
  have HQ : Aside0 (∀ w1, TxK w x w1 → _) := ⟨TxK.on (w0 := w) (x := x) fun w1 h1 _ => quote_calls x.s w1 h1 hs⟩
  have HQ2 : Aside0 (∀ w1, TxK w x w1 → _) := ⟨TxK.on (w0 := w) (x := x) fun w1 h1 _ => quote_calls x.t w1 h1 ht⟩
  have HD : Aside0 (∀ w1, TxK w x w1 → _) := ⟨TxK.on (w0 := w) (x := x) fun w1 _ _ => dollar_calls x.f w1⟩
  have HA : Aside0 (∀ w1, TxK w x w1 → _) := ⟨TxK.on (w0 := w) (x := x) fun w1 _ h1 => cornerText_calls x.r x.q x.u x.v w1 h1 hA.1 hA.2.1 hA.2.2.1 hA.2.2.2⟩
  have HB : Aside0 (x.e = true → ∀ w1, TxK w x w1 → _) := ⟨fun he => TxK.on (w0 := w) (x := x) fun w1 _ h1 => cornerText_calls x.r2 x.q2 x.u2 x.v2 w1 h1 (cor_in (o5 he)).1 (cor_in (o5 he)).2.1 (cor_in (o5 he)).2.2.1 (cor_in (o5 he)).2.2.2⟩
  have HJ : Aside0 (TxK w x _) := ⟨TxK.start hC hT⟩
  have z1 := dol_size x.f
  have z2 := quo_size x.s
  have z3 := quo_size x.t
  have z4 := cor_size x.r x.q x.u x.v hA.1 hA.2.1 hA.2.2.1 hA.2.2.2
  have Z5 : Aside0 (x.e = true → (corS x.r2 x.q2 x.u2 x.v2).size ≤ 30) := ⟨fun he => cor_size _ _ _ _ (cor_in (o5 he)).1 (cor_in (o5 he)).2.1 (cor_in (o5 he)).2.2.1 (cor_in (o5 he)).2.2.2⟩
  have HX : Aside0 (texS x = if x.e = true then dolS x.f ++ quoS x.s ++ ⟨#[46]⟩ ++ corS x.r x.q x.u x.v ++ (⟨#[58]⟩ ++ quoS x.t ++ ⟨#[46]⟩ ++ corS x.r2 x.q2 x.u2 x.v2) else dolS x.f ++ quoS x.s ++ ⟨#[46]⟩ ++ corS x.r x.q x.u x.v) := ⟨rfl⟩
  have SZ : Aside0 ((Tryd.prog.info? 32).map (·.size) = some (12 : Nat)) := ⟨by kernel_rfl⟩
  have SC : Aside0 ((Tryd.prog.info? 30).map (·.size) = some (4 : Nat)) := ⟨by kernel_rfl⟩
  clear hC hT h hA o4 o6 o1 o2 o3
  have e1 : ¬ 9223372036854775807 < (dolS x.f).size + (quoS x.s).size := by omega
  have e2 : ¬ 9223372036854775807 < (dolS x.f).size + (quoS x.s).size + 1 := by omega
  have e3 : ¬ 9223372036854775807 < (dolS x.f).size + (quoS x.s).size + 1 + (corS x.r x.q x.u x.v).size := by omega
  have e4 : ¬ 9223372036854775807 < 1 + (quoS x.t).size := by omega
  have e5 : ¬ 9223372036854775807 < 1 + (quoS x.t).size + 1 := by omega
  obtain ⟨c0, c1, c2, c3, c4, c5, c6, c7, c8, c9, c10, c11, _⟩ := HJ.out.S
  cases he : x.e with
  | false =>
    rw [he] at c3 HX
    rw [if_neg (by decide)] at HX
    clear z1 z2 z3 z4 Z5 HB o5
    have HE := Aside0.mk he
    clear he
    go_enter Tryd.func15, Tryd.ntmps15
    go_wp2_with (first
      | ((with_reducible refine gate_dst (N := 10) rfl ?_); refine wpList_load_row rfl 32 _ rfl w.heap.size rfl 32 _ _ _ HJ.out.box Tryd.underlying32 rfl SZ.out ?_)
      | (go_at_call 17; refine (HK.out _ HJ.out).mono ?_; rintro e w1 ⟨rfl, hb⟩; obtain ⟨c0, c1, c2, c3, c4, c5, c6, c7, c8, c9, c10, c11, _⟩ := hb.out.S)
      | (go_at_call 27; with_reducible refine (HQ.out _ (Aside0.out (by assumption))).mono ?_; rintro e w2 ⟨rfl, hb⟩; obtain ⟨c0, c1, c2, c3, c4, c5, c6, c7, c8, c9, c10, c11, _⟩ := hb.out.S))
    go_region_held3 (fun w' => w'.cell? ⟨w.heap.size, 0, none⟩ = some (.string x.s) ∧ w'.cell? ⟨w.heap.size, 1, none⟩ = some (.string x.t) ∧ w'.cell? ⟨w.heap.size, 2, none⟩ = some (.bool x.f) ∧ w'.cell? ⟨w.heap.size, 3, none⟩ = some (.bool x.e) ∧ w'.cell? ⟨w.heap.size, 4, none⟩ = some (.int .i64 x.r) ∧ w'.cell? ⟨w.heap.size, 5, none⟩ = some (.int .i64 x.q) ∧ w'.cell? ⟨w.heap.size, 6, none⟩ = some (.bool x.u) ∧ w'.cell? ⟨w.heap.size, 7, none⟩ = some (.bool x.v) ∧ w'.cell? ⟨w.heap.size, 8, none⟩ = some (.int .i64 x.r2) ∧ w'.cell? ⟨w.heap.size, 9, none⟩ = some (.int .i64 x.q2) ∧ w'.cell? ⟨w.heap.size, 10, none⟩ = some (.bool x.u2) ∧ w'.cell? ⟨w.heap.size, 11, none⟩ = some (.bool x.v2) ∧ Aside0 (TxK w x w'))
      (first | exact TxK.S (TxK.drew (Aside0.out (by assumption))) | exact TxK.S (Aside0.out (by assumption)))
      (first
        | (go_at_call 28; refine (HD.out _ (Aside0.out (And.right (And.right (And.right (And.right (And.right (And.right (And.right (And.right (And.right (And.right (And.right (And.right (by assumption))))))))))))))).mono ?_; rintro e w6 ⟨rfl, hb6⟩)
        | (go_at_call 29; refine (HA.out _ (Aside0.out (And.right (And.right (And.right (And.right (And.right (And.right (And.right (And.right (And.right (And.right (And.right (And.right (by assumption))))))))))))))).mono ?_; rintro e w6 ⟨rfl, hb6⟩))
    have he := HE.out
    go_wp2
    clear he
    go_ret2
    exact ⟨(by rw [HX.out]; rfl), TxK.below (Aside0.out (by assumption))⟩
  | true =>
    have z5 := Z5.out he
    have HB2 := Aside0.mk (HB.out he)
    have e6 : ¬ 9223372036854775807 < 1 + (quoS x.t).size + 1 + (corS x.r2 x.q2 x.u2 x.v2).size := by omega
    have e7 : ¬ 9223372036854775807 < (dolS x.f).size + (quoS x.s).size + 1 + (corS x.r x.q x.u x.v).size + (1 + (quoS x.t).size + 1 + (corS x.r2 x.q2 x.u2 x.v2).size) := by omega
    rw [he] at c3 HX
    rw [if_pos rfl] at HX
    clear z1 z2 z3 z4 z5 Z5 HB o5
    have HE := Aside0.mk he
    clear he
    go_enter Tryd.func15, Tryd.ntmps15
    go_wp2_with (first
      | ((with_reducible refine gate_dst (N := 10) rfl ?_); refine wpList_load_row rfl 32 _ rfl w.heap.size rfl 32 _ _ _ HJ.out.box Tryd.underlying32 rfl SZ.out ?_)
      | (go_at_call 17; refine (HK.out _ HJ.out).mono ?_; rintro e w1 ⟨rfl, hb⟩; obtain ⟨c0, c1, c2, c3, c4, c5, c6, c7, c8, c9, c10, c11, _⟩ := hb.out.S)
      | (go_at_call 27; with_reducible refine (HQ.out _ (Aside0.out (by assumption))).mono ?_; rintro e w2 ⟨rfl, hb⟩; obtain ⟨c0, c1, c2, c3, c4, c5, c6, c7, c8, c9, c10, c11, _⟩ := hb.out.S))
    go_region_held3 (fun w' => w'.cell? ⟨w.heap.size, 0, none⟩ = some (.string x.s) ∧ w'.cell? ⟨w.heap.size, 1, none⟩ = some (.string x.t) ∧ w'.cell? ⟨w.heap.size, 2, none⟩ = some (.bool x.f) ∧ w'.cell? ⟨w.heap.size, 3, none⟩ = some (.bool x.e) ∧ w'.cell? ⟨w.heap.size, 4, none⟩ = some (.int .i64 x.r) ∧ w'.cell? ⟨w.heap.size, 5, none⟩ = some (.int .i64 x.q) ∧ w'.cell? ⟨w.heap.size, 6, none⟩ = some (.bool x.u) ∧ w'.cell? ⟨w.heap.size, 7, none⟩ = some (.bool x.v) ∧ w'.cell? ⟨w.heap.size, 8, none⟩ = some (.int .i64 x.r2) ∧ w'.cell? ⟨w.heap.size, 9, none⟩ = some (.int .i64 x.q2) ∧ w'.cell? ⟨w.heap.size, 10, none⟩ = some (.bool x.u2) ∧ w'.cell? ⟨w.heap.size, 11, none⟩ = some (.bool x.v2) ∧ Aside0 (TxK w x w'))
      (first | exact TxK.S (TxK.drew (Aside0.out (by assumption))) | exact TxK.S (Aside0.out (by assumption)))
      (first
        | (go_at_call 28; refine (HD.out _ (Aside0.out (And.right (And.right (And.right (And.right (And.right (And.right (And.right (And.right (And.right (And.right (And.right (And.right (by assumption))))))))))))))).mono ?_; rintro e w6 ⟨rfl, hb6⟩)
        | (go_at_call 29; refine (HA.out _ (Aside0.out (And.right (And.right (And.right (And.right (And.right (And.right (And.right (And.right (And.right (And.right (And.right (And.right (by assumption))))))))))))))).mono ?_; rintro e w6 ⟨rfl, hb6⟩))
    have he := HE.out
    go_wp2_with (first
      | (go_at_call 27; with_reducible refine (HQ2.out _ (Aside0.out (by assumption))).mono ?_; rintro e w7 ⟨rfl, hb⟩; obtain ⟨c0, c1, c2, c3, c4, c5, c6, c7, c8, c9, c10, c11, _⟩ := hb.out.S)
      | (go_at_call 29; with_reducible refine (HB2.out _ (Aside0.out (by assumption))).mono ?_; rintro e w8 ⟨rfl, hb⟩; obtain ⟨c0, c1, c2, c3, c4, c5, c6, c7, c8, c9, c10, c11, _⟩ := hb.out.S))
    clear he
    go_ret2
    exact ⟨(by rw [HX.out]; rfl), TxK.below (Aside0.out (by assumption))⟩
set_option maxRecDepth 100000 in
set_option maxHeartbeats 16000000 in
theorem rtext_ok (x : Rf) (w : World) (hC : ChW w) (hT : TabW w) (hs : x.s.size ≤ 140737488351232) (ht : x.t.size ≤ 140737488351232) (h : chkR x = 0) :
    Calls Tryd.prog 16 #[.agg x.cs] w fun e w' => e = .returned (.tuple #[.string (texS x), .int .i64 0]) ∧ Below w.heap.size w w' := by
  obtain ⟨o1, o2, o3, o4, o5, o6⟩ := chk_ok h
  have hA := cor_in o4
  have HK : Aside0 (∀ w1, TxK w x w1 → _) := ⟨TxK.on (w0 := w) (x := x) fun w1 h1 _ => rcheck_calls11 x w1 h1 hs ht⟩
  rw [h] at HK
  have HQ : Aside0 (∀ w1, TxK w x w1 → _) := ⟨TxK.on (w0 := w) (x := x) fun w1 h1 _ => rquote_calls x.s w1 h1 hs⟩
  have HQ2 : Aside0 (∀ w1, TxK w x w1 → _) := ⟨TxK.on (w0 := w) (x := x) fun w1 h1 _ => rquote_calls x.t w1 h1 ht⟩
  have HD : Aside0 (∀ w1, TxK w x w1 → _) := ⟨TxK.on (w0 := w) (x := x) fun w1 _ _ => dollar_calls x.f w1⟩
  have HA : Aside0 (∀ w1, TxK w x w1 → _) := ⟨TxK.on (w0 := w) (x := x) fun w1 _ h1 => written_calls x.r x.q x.u x.v w1 h1 hA.1 hA.2.1 hA.2.2.1 hA.2.2.2⟩
  have HB : Aside0 (x.e = true → ∀ w1, TxK w x w1 → _) := ⟨fun he => TxK.on (w0 := w) (x := x) fun w1 _ h1 => written_calls x.r2 x.q2 x.u2 x.v2 w1 h1 (cor_in (o5 he)).1 (cor_in (o5 he)).2.1 (cor_in (o5 he)).2.2.1 (cor_in (o5 he)).2.2.2⟩
  have HJ : Aside0 (TxK w x _) := ⟨TxK.start hC hT⟩
  have z1 := dol_size x.f
  have z2 := quo_size x.s
  have z3 := quo_size x.t
  have z4 := cor_size x.r x.q x.u x.v hA.1 hA.2.1 hA.2.2.1 hA.2.2.2
  have Z5 : Aside0 (x.e = true → (corS x.r2 x.q2 x.u2 x.v2).size ≤ 30) := ⟨fun he => cor_size _ _ _ _ (cor_in (o5 he)).1 (cor_in (o5 he)).2.1 (cor_in (o5 he)).2.2.1 (cor_in (o5 he)).2.2.2⟩
  have HX : Aside0 (texS x = if x.e = true then dolS x.f ++ quoS x.s ++ ⟨#[46]⟩ ++ corS x.r x.q x.u x.v ++ (⟨#[58]⟩ ++ quoS x.t ++ ⟨#[46]⟩ ++ corS x.r2 x.q2 x.u2 x.v2) else dolS x.f ++ quoS x.s ++ ⟨#[46]⟩ ++ corS x.r x.q x.u x.v) := ⟨rfl⟩
  have SZ : Aside0 ((Tryd.prog.info? 32).map (·.size) = some (12 : Nat)) := ⟨by kernel_rfl⟩
  have SC : Aside0 ((Tryd.prog.info? 30).map (·.size) = some (4 : Nat)) := ⟨by kernel_rfl⟩
  clear hC hT h hA o4 o1 o2
  obtain ⟨s, t, f, e, r, q, u, v, r2, q2, u2, v2⟩ := x
  simp only [] at *
  by_cases g1 : s.size = 0
  · obtain ⟨g2, rfl⟩ := o3 g1
    have y1 := toList_none g1
    have y2 := toList_none g2
    have Q0 := Aside0.mk (quo_none g1)
    have T0 := Aside0.mk (quo_none g2)
    cases e with
    | false =>
      rw [if_neg (by decide)] at HX
      clear Z5 HB o5 o6 g1 g2 o3
      have e0 : ¬ 9223372036854775807 < 1 + (corS r q u v).size := by omega
      clear z1 z2 z3 z4
      obtain ⟨c0, c1, c2, c3, c4, c5, c6, c7, c8, c9, c10, c11, _⟩ := HJ.out.S
      go_enter Tryd.func16, Tryd.ntmps16
      go_wp2_with (first
        | ((with_reducible refine gate_dst (N := 10) rfl ?_); refine wpList_load_row rfl 32 _ rfl w.heap.size rfl 32 _ _ _ HJ.out.box Tryd.underlying32 rfl SZ.out ?_)
        | (go_at_call 18; refine (HK.out _ HJ.out).mono ?_; rintro e w1 ⟨rfl, hb⟩; obtain ⟨c0, c1, c2, c3, c4, c5, c6, c7, c8, c9, c10, c11, _⟩ := hb.out.S)
        | (go_at_call 31; with_reducible refine (HA.out _ (Aside0.out (by assumption))).mono ?_; rintro e w3 ⟨rfl, hb⟩; obtain ⟨c0, c1, c2, c3, c4, c5, c6, c7, c8, c9, c10, c11, _⟩ := hb.out.S))
      go_ret2
      exact ⟨(by rw [HX.out]; simp only [dolS, if_true, if_false, Bool.false_eq_true, nil_app, app_nil, app_assoc, Q0.out]; first | rfl | (simp [app_assoc]; done)), TxK.below (Aside0.out (by assumption))⟩
    | true =>
      have z5 := Z5.out rfl
      have HB2 := Aside0.mk (HB.out rfl)
      rw [if_pos rfl] at HX
      clear Z5 HB o5 o6 g1 g2 o3
      have e0 : ¬ 9223372036854775807 < 1 + (corS r q u v).size := by omega
      have e1 : ¬ 9223372036854775807 < 1 + (corS r q u v).size + 1 := by omega
      have e2 : ¬ 9223372036854775807 < 1 + (corS r2 q2 u2 v2).size := by omega
      have e3 : ¬ 9223372036854775807 < 1 + (corS r q u v).size + 1 + (1 + (corS r2 q2 u2 v2).size) := by omega
      clear z1 z2 z3 z4 z5
      obtain ⟨c0, c1, c2, c3, c4, c5, c6, c7, c8, c9, c10, c11, _⟩ := HJ.out.S
      go_enter Tryd.func16, Tryd.ntmps16
      go_wp2_with (first
        | ((with_reducible refine gate_dst (N := 10) rfl ?_); refine wpList_load_row rfl 32 _ rfl w.heap.size rfl 32 _ _ _ HJ.out.box Tryd.underlying32 rfl SZ.out ?_)
        | (go_at_call 18; refine (HK.out _ HJ.out).mono ?_; rintro e w1 ⟨rfl, hb⟩; obtain ⟨c0, c1, c2, c3, c4, c5, c6, c7, c8, c9, c10, c11, _⟩ := hb.out.S)
        | (go_at_call 31; with_reducible refine (HA.out _ (Aside0.out (by assumption))).mono ?_; rintro e w3 ⟨rfl, hb⟩; obtain ⟨c0, c1, c2, c3, c4, c5, c6, c7, c8, c9, c10, c11, _⟩ := hb.out.S)
        | (go_at_call 31; with_reducible refine (HB2.out _ (Aside0.out (by assumption))).mono ?_; rintro e w5 ⟨rfl, hb⟩; obtain ⟨c0, c1, c2, c3, c4, c5, c6, c7, c8, c9, c10, c11, _⟩ := hb.out.S))
      go_ret2
      exact ⟨(by rw [HX.out]; simp only [dolS, if_true, if_false, Bool.false_eq_true, nil_app, app_nil, app_assoc, Q0.out, T0.out]; first | rfl | (simp [app_assoc]; done)), TxK.below (Aside0.out (by assumption))⟩
  · have y1 := toList_some (show 0 < s.size by omega)
    cases e with
    | false =>
      rw [if_neg (by decide)] at HX
      clear Z5 HB o5 o6 o3
      have G1 := Aside0.mk g1
      clear g1
      cases f with
      | false =>
        have e0 : ¬ 9223372036854775807 < 1 + (corS r q u v).size := by omega
        have e1 : ¬ 9223372036854775807 < (quoS s).size + (1 + (corS r q u v).size) := by omega
        clear z1 z2 z3 z4
        obtain ⟨c0, c1, c2, c3, c4, c5, c6, c7, c8, c9, c10, c11, _⟩ := HJ.out.S
        go_enter Tryd.func16, Tryd.ntmps16
        go_wp2_with (first
          | ((with_reducible refine gate_dst (N := 10) rfl ?_); refine wpList_load_row rfl 32 _ rfl w.heap.size rfl 32 _ _ _ HJ.out.box Tryd.underlying32 rfl SZ.out ?_)
          | (go_at_call 18; refine (HK.out _ HJ.out).mono ?_; rintro e w1 ⟨rfl, hb⟩; obtain ⟨c0, c1, c2, c3, c4, c5, c6, c7, c8, c9, c10, c11, _⟩ := hb.out.S)
          | (go_at_call 30; with_reducible refine (HQ.out _ (Aside0.out (by assumption))).mono ?_; rintro e w2 ⟨rfl, hb⟩; obtain ⟨c0, c1, c2, c3, c4, c5, c6, c7, c8, c9, c10, c11, _⟩ := hb.out.S)
          | (go_at_call 31; with_reducible refine (HA.out _ (Aside0.out (by assumption))).mono ?_; rintro e w3 ⟨rfl, hb⟩; obtain ⟨c0, c1, c2, c3, c4, c5, c6, c7, c8, c9, c10, c11, _⟩ := hb.out.S))
        go_ret2
        exact ⟨(by rw [HX.out]; simp only [dolS, if_true, if_false, Bool.false_eq_true, nil_app, app_nil, app_assoc]; first | rfl | (simp [app_assoc]; done)), TxK.below (Aside0.out (by assumption))⟩
      | true =>
        have e0 : ¬ 9223372036854775807 < 1 + (corS r q u v).size := by omega
        have e1 : ¬ 9223372036854775807 < 1 + (quoS s).size + (1 + (corS r q u v).size) := by omega
        have e2 : ¬ 9223372036854775807 < 1 + (quoS s).size := by omega
        clear z1 z2 z3 z4
        obtain ⟨c0, c1, c2, c3, c4, c5, c6, c7, c8, c9, c10, c11, _⟩ := HJ.out.S
        go_enter Tryd.func16, Tryd.ntmps16
        go_wp2_with (first
          | ((with_reducible refine gate_dst (N := 10) rfl ?_); refine wpList_load_row rfl 32 _ rfl w.heap.size rfl 32 _ _ _ HJ.out.box Tryd.underlying32 rfl SZ.out ?_)
          | (go_at_call 18; refine (HK.out _ HJ.out).mono ?_; rintro e w1 ⟨rfl, hb⟩; obtain ⟨c0, c1, c2, c3, c4, c5, c6, c7, c8, c9, c10, c11, _⟩ := hb.out.S)
          | (go_at_call 30; with_reducible refine (HQ.out _ (Aside0.out (by assumption))).mono ?_; rintro e w2 ⟨rfl, hb⟩; obtain ⟨c0, c1, c2, c3, c4, c5, c6, c7, c8, c9, c10, c11, _⟩ := hb.out.S)
          | (go_at_call 31; with_reducible refine (HA.out _ (Aside0.out (by assumption))).mono ?_; rintro e w3 ⟨rfl, hb⟩; obtain ⟨c0, c1, c2, c3, c4, c5, c6, c7, c8, c9, c10, c11, _⟩ := hb.out.S))
        go_ret2
        exact ⟨(by rw [HX.out]; simp only [dolS, if_true, if_false, Bool.false_eq_true, nil_app, app_nil, app_assoc]; first | rfl | (simp [app_assoc]; done)), TxK.below (Aside0.out (by assumption))⟩
    | true =>
      have z5 := Z5.out rfl
      have HB2 := Aside0.mk (HB.out rfl)
      rw [if_pos rfl] at HX
      clear Z5 HB o5 o6 o3
      have G1 := Aside0.mk g1
      clear g1
      by_cases g2 : t.size = 0
      · have y2 := toList_none g2
        have T0 := Aside0.mk (quo_none g2)
        clear g2
        cases f with
        | false =>
          have e0 : ¬ 9223372036854775807 < 1 + (corS r q u v).size := by omega
          have e1 : ¬ 9223372036854775807 < (quoS s).size + (1 + (corS r q u v).size) := by omega
          have e2 : ¬ 9223372036854775807 < (quoS s).size + (1 + (corS r q u v).size) + 1 := by omega
          have e3 : ¬ 9223372036854775807 < 1 + (corS r2 q2 u2 v2).size := by omega
          have e4 : ¬ 9223372036854775807 < (quoS s).size + (1 + (corS r q u v).size) + 1 + (1 + (corS r2 q2 u2 v2).size) := by omega
          clear z1 z2 z3 z4 z5
          obtain ⟨c0, c1, c2, c3, c4, c5, c6, c7, c8, c9, c10, c11, _⟩ := HJ.out.S
          go_enter Tryd.func16, Tryd.ntmps16
          go_wp2_with (first
            | ((with_reducible refine gate_dst (N := 10) rfl ?_); refine wpList_load_row rfl 32 _ rfl w.heap.size rfl 32 _ _ _ HJ.out.box Tryd.underlying32 rfl SZ.out ?_)
            | (go_at_call 18; refine (HK.out _ HJ.out).mono ?_; rintro e w1 ⟨rfl, hb⟩; obtain ⟨c0, c1, c2, c3, c4, c5, c6, c7, c8, c9, c10, c11, _⟩ := hb.out.S)
            | (go_at_call 30; with_reducible refine (HQ.out _ (Aside0.out (by assumption))).mono ?_; rintro e w2 ⟨rfl, hb⟩; obtain ⟨c0, c1, c2, c3, c4, c5, c6, c7, c8, c9, c10, c11, _⟩ := hb.out.S)
            | (go_at_call 31; with_reducible refine (HA.out _ (Aside0.out (by assumption))).mono ?_; rintro e w3 ⟨rfl, hb⟩; obtain ⟨c0, c1, c2, c3, c4, c5, c6, c7, c8, c9, c10, c11, _⟩ := hb.out.S)
            | (go_at_call 31; with_reducible refine (HB2.out _ (Aside0.out (by assumption))).mono ?_; rintro e w5 ⟨rfl, hb⟩; obtain ⟨c0, c1, c2, c3, c4, c5, c6, c7, c8, c9, c10, c11, _⟩ := hb.out.S))
          go_ret2
          exact ⟨(by rw [HX.out]; simp only [dolS, if_true, if_false, Bool.false_eq_true, nil_app, app_nil, app_assoc, T0.out]; first | rfl | (simp [app_assoc]; done)), TxK.below (Aside0.out (by assumption))⟩
        | true =>
          have e0 : ¬ 9223372036854775807 < 1 + (corS r q u v).size := by omega
          have e1 : ¬ 9223372036854775807 < 1 + (quoS s).size + (1 + (corS r q u v).size) := by omega
          have e2 : ¬ 9223372036854775807 < 1 + (quoS s).size := by omega
          have e3 : ¬ 9223372036854775807 < 1 + (quoS s).size + (1 + (corS r q u v).size) + 1 := by omega
          have e4 : ¬ 9223372036854775807 < 1 + (corS r2 q2 u2 v2).size := by omega
          have e5 : ¬ 9223372036854775807 < 1 + (quoS s).size + (1 + (corS r q u v).size) + 1 + (1 + (corS r2 q2 u2 v2).size) := by omega
          clear z1 z2 z3 z4 z5
          obtain ⟨c0, c1, c2, c3, c4, c5, c6, c7, c8, c9, c10, c11, _⟩ := HJ.out.S
          go_enter Tryd.func16, Tryd.ntmps16
          go_wp2_with (first
            | ((with_reducible refine gate_dst (N := 10) rfl ?_); refine wpList_load_row rfl 32 _ rfl w.heap.size rfl 32 _ _ _ HJ.out.box Tryd.underlying32 rfl SZ.out ?_)
            | (go_at_call 18; refine (HK.out _ HJ.out).mono ?_; rintro e w1 ⟨rfl, hb⟩; obtain ⟨c0, c1, c2, c3, c4, c5, c6, c7, c8, c9, c10, c11, _⟩ := hb.out.S)
            | (go_at_call 30; with_reducible refine (HQ.out _ (Aside0.out (by assumption))).mono ?_; rintro e w2 ⟨rfl, hb⟩; obtain ⟨c0, c1, c2, c3, c4, c5, c6, c7, c8, c9, c10, c11, _⟩ := hb.out.S)
            | (go_at_call 31; with_reducible refine (HA.out _ (Aside0.out (by assumption))).mono ?_; rintro e w3 ⟨rfl, hb⟩; obtain ⟨c0, c1, c2, c3, c4, c5, c6, c7, c8, c9, c10, c11, _⟩ := hb.out.S)
            | (go_at_call 31; with_reducible refine (HB2.out _ (Aside0.out (by assumption))).mono ?_; rintro e w5 ⟨rfl, hb⟩; obtain ⟨c0, c1, c2, c3, c4, c5, c6, c7, c8, c9, c10, c11, _⟩ := hb.out.S))
          go_ret2
          exact ⟨(by rw [HX.out]; simp only [dolS, if_true, if_false, Bool.false_eq_true, nil_app, app_nil, app_assoc, T0.out]; first | rfl | (simp [app_assoc]; done)), TxK.below (Aside0.out (by assumption))⟩
      · have y2 := toList_some (show 0 < t.size by omega)
        clear g2
        cases f with
        | false =>
          have e0 : ¬ 9223372036854775807 < 1 + (corS r q u v).size := by omega
          have e1 : ¬ 9223372036854775807 < (quoS s).size + (1 + (corS r q u v).size) := by omega
          have e2 : ¬ 9223372036854775807 < (quoS s).size + (1 + (corS r q u v).size) + 1 := by omega
          have e3 : ¬ 9223372036854775807 < 1 + (corS r2 q2 u2 v2).size := by omega
          have e4 : ¬ 9223372036854775807 < (quoS s).size + (1 + (corS r q u v).size) + 1 + (quoS t).size := by omega
          have e5 : ¬ 9223372036854775807 < (quoS s).size + (1 + (corS r q u v).size) + 1 + (quoS t).size + (1 + (corS r2 q2 u2 v2).size) := by omega
          clear z1 z2 z3 z4 z5
          obtain ⟨c0, c1, c2, c3, c4, c5, c6, c7, c8, c9, c10, c11, _⟩ := HJ.out.S
          go_enter Tryd.func16, Tryd.ntmps16
          go_wp2_with (first
            | ((with_reducible refine gate_dst (N := 10) rfl ?_); refine wpList_load_row rfl 32 _ rfl w.heap.size rfl 32 _ _ _ HJ.out.box Tryd.underlying32 rfl SZ.out ?_)
            | (go_at_call 18; refine (HK.out _ HJ.out).mono ?_; rintro e w1 ⟨rfl, hb⟩; obtain ⟨c0, c1, c2, c3, c4, c5, c6, c7, c8, c9, c10, c11, _⟩ := hb.out.S)
            | (go_at_call 30; with_reducible refine (HQ.out _ (Aside0.out (by assumption))).mono ?_; rintro e w2 ⟨rfl, hb⟩; obtain ⟨c0, c1, c2, c3, c4, c5, c6, c7, c8, c9, c10, c11, _⟩ := hb.out.S)
            | (go_at_call 31; with_reducible refine (HA.out _ (Aside0.out (by assumption))).mono ?_; rintro e w3 ⟨rfl, hb⟩; obtain ⟨c0, c1, c2, c3, c4, c5, c6, c7, c8, c9, c10, c11, _⟩ := hb.out.S)
            | (go_at_call 30; with_reducible refine (HQ2.out _ (Aside0.out (by assumption))).mono ?_; rintro e w4 ⟨rfl, hb⟩; obtain ⟨c0, c1, c2, c3, c4, c5, c6, c7, c8, c9, c10, c11, _⟩ := hb.out.S)
            | (go_at_call 31; with_reducible refine (HB2.out _ (Aside0.out (by assumption))).mono ?_; rintro e w5 ⟨rfl, hb⟩; obtain ⟨c0, c1, c2, c3, c4, c5, c6, c7, c8, c9, c10, c11, _⟩ := hb.out.S))
          go_ret2
          exact ⟨(by rw [HX.out]; simp only [dolS, if_true, if_false, Bool.false_eq_true, nil_app, app_nil, app_assoc]; first | rfl | (simp [app_assoc]; done)), TxK.below (Aside0.out (by assumption))⟩
        | true =>
          have e0 : ¬ 9223372036854775807 < 1 + (corS r q u v).size := by omega
          have e1 : ¬ 9223372036854775807 < 1 + (quoS s).size + (1 + (corS r q u v).size) := by omega
          have e2 : ¬ 9223372036854775807 < 1 + (quoS s).size := by omega
          have e3 : ¬ 9223372036854775807 < 1 + (quoS s).size + (1 + (corS r q u v).size) + 1 := by omega
          have e4 : ¬ 9223372036854775807 < 1 + (corS r2 q2 u2 v2).size := by omega
          have e5 : ¬ 9223372036854775807 < 1 + (quoS s).size + (1 + (corS r q u v).size) + 1 + (quoS t).size := by omega
          have e6 : ¬ 9223372036854775807 < 1 + (quoS s).size + (1 + (corS r q u v).size) + 1 + (quoS t).size + (1 + (corS r2 q2 u2 v2).size) := by omega
          clear z1 z2 z3 z4 z5
          obtain ⟨c0, c1, c2, c3, c4, c5, c6, c7, c8, c9, c10, c11, _⟩ := HJ.out.S
          go_enter Tryd.func16, Tryd.ntmps16
          go_wp2_with (first
            | ((with_reducible refine gate_dst (N := 10) rfl ?_); refine wpList_load_row rfl 32 _ rfl w.heap.size rfl 32 _ _ _ HJ.out.box Tryd.underlying32 rfl SZ.out ?_)
            | (go_at_call 18; refine (HK.out _ HJ.out).mono ?_; rintro e w1 ⟨rfl, hb⟩; obtain ⟨c0, c1, c2, c3, c4, c5, c6, c7, c8, c9, c10, c11, _⟩ := hb.out.S)
            | (go_at_call 30; with_reducible refine (HQ.out _ (Aside0.out (by assumption))).mono ?_; rintro e w2 ⟨rfl, hb⟩; obtain ⟨c0, c1, c2, c3, c4, c5, c6, c7, c8, c9, c10, c11, _⟩ := hb.out.S)
            | (go_at_call 31; with_reducible refine (HA.out _ (Aside0.out (by assumption))).mono ?_; rintro e w3 ⟨rfl, hb⟩; obtain ⟨c0, c1, c2, c3, c4, c5, c6, c7, c8, c9, c10, c11, _⟩ := hb.out.S)
            | (go_at_call 30; with_reducible refine (HQ2.out _ (Aside0.out (by assumption))).mono ?_; rintro e w4 ⟨rfl, hb⟩; obtain ⟨c0, c1, c2, c3, c4, c5, c6, c7, c8, c9, c10, c11, _⟩ := hb.out.S)
            | (go_at_call 31; with_reducible refine (HB2.out _ (Aside0.out (by assumption))).mono ?_; rintro e w5 ⟨rfl, hb⟩; obtain ⟨c0, c1, c2, c3, c4, c5, c6, c7, c8, c9, c10, c11, _⟩ := hb.out.S))
          go_ret2
          exact ⟨(by rw [HX.out]; simp only [dolS, if_true, if_false, Bool.false_eq_true, nil_app, app_nil, app_assoc]; first | rfl | (simp [app_assoc]; done)), TxK.below (Aside0.out (by assumption))⟩
end Go.Proofs.YtjbcdfbgbocblaaDoor.Hw
/- A reference's text says the reference. In plain Lean. -/
namespace Go.Proofs.YtjbcdfbgbocblaaDoor.Hw
open Go.RowKit Go.Proofs.YtjbcdfbgbocblaaDoorW.PrintWords Go.Proofs.YtjbcdfbgbocblaaDoorW.PrintLast Go.Proofs.YtjbcdfbgbocblaaDoorW.PrintMore Go.Proofs.YtjbcdfbgbocblaaDoor.PH Go.Proofs.YtjbcdfbgbocblaaDoor.CP
set_option linter.unusedVariables false
set_option linter.unusedSimpArgs false
section
variable {s : ByteArray} {l1 l2 l3 : List UInt8} {k k' : Nat}
theorem size_of (h : s.data.toList = l1) : s.size = l1.length := by rw [← h]; exact Lib.size_eq s
theorem at_of (h : s.data.toList = l1) (j : Nat) (hj : j < s.size) : some s[j] = l1[j]? := by
  subst h
  rw [Array.getElem?_toList]
  exact (Array.getElem?_eq_getElem (show j < s.data.size from hj)).symm
theorem stands_of {c : UInt8} (h : s.data.toList = l1 ++ c :: l2) (hk : k = l1.length) : stands s k c := by
  subst hk
  have hz : l1.length < s.size := by rw [size_of h, List.length_append, List.length_cons]; omega
  refine ⟨hz, ?_⟩
  have := at_of h l1.length hz
  rw [List.getElem?_append_right (Nat.le_refl _), Nat.sub_self, List.getElem?_cons_zero] at this
  exact Option.some.inj this
theorem no_stands {c : UInt8} (h : s.data.toList = l1 ++ l2) (hk : k = l1.length) (hc : ∀ d, l2[0]? = some d → d ≠ c) : ¬ stands s k c := by
  rintro ⟨hz, he⟩
  subst hk
  have := at_of h l1.length hz
  rw [List.getElem?_append_right (Nat.le_refl _), Nat.sub_self] at this
  exact hc _ this.symm he
theorem mid_of (h : s.data.toList = l1 ++ (l2 ++ l3)) (hk : k = l1.length) (hk' : k' = l1.length + l2.length) : s.extract k k' = ⟨l2.toArray⟩ := by
  subst hk hk'
  apply ByteArray.ext
  apply Array.toList_inj.1
  rw [Lib.extract_data, h]
  simp
theorem in_mid (h : s.data.toList = l1 ++ (l2 ++ l3)) (hk : k = l1.length) (hk' : k' = l1.length + l2.length) (j : Nat) (hj : j < s.size) (h1 : k ≤ j) (h2 : j < k') : s[j] ∈ l2 := by
  subst hk hk'
  have := at_of h j hj
  rw [List.getElem?_append_right h1, List.getElem?_append_left (by omega)] at this
  exact List.mem_of_getElem? this.symm
theorem run_of {P : UInt8 → Bool} (h : s.data.toList = l1 ++ (l2 ++ l3)) (hk : k = l1.length) (hk' : k' = l1.length + l2.length) (hP : ∀ c ∈ l2, P c = true) (hN : ∀ c, l3[0]? = some c → P c = false) : runEnd P s k k' := by
  have hz := size_of h
  rw [List.length_append, List.length_append] at hz
  refine ⟨by omega, by omega, fun j h1 h2 h3 => hP _ (in_mid h hk hk' j h3 h1 h2), fun hh => hN _ ?_⟩
  subst hk hk'
  have := at_of h _ hh
  rw [List.getElem?_append_right (by omega), List.getElem?_append_right (by omega)] at this
  rw [this]; congr 1; omega
end
/-- The column of its letters. -/
theorem pv_app : ∀ (l : List UInt8) (v : Nat) (t : List UInt8), pv v (l ++ t) = (pv v l).bind fun z => pv z t := by
  intro l
  induction l with
  | nil => intro v t; rfl
  | cons c l ih =>
    intro v t
    rw [List.cons_append, pv, pv]
    by_cases h : 65 ≤ c.toNat ∧ c.toNat ≤ 90
    · rw [if_pos h, if_pos h]; exact ih _ _
    · rw [if_neg h, if_neg h]; rfl
theorem cap_nat (m : Nat) : (UInt8.ofNat (65 + m % 26)).toNat = 65 + m % 26 := UInt8.toNat_ofNat_of_lt' (by show _ < 256; omega)
theorem pv_col : ∀ m : Nat, pv 0 (colB m) = some m := by
  intro m
  induction m using Nat.strongRecOn with
  | _ m ih =>
    cases m with
    | zero => rw [colB_zero]; rfl
    | succ m =>
      rw [colB_succ, pv_app, ih (m / 26) (by omega), Option.bind_some, pv, cap_nat, if_pos (by omega), pv]
      congr 1; omega
theorem col_caps : ∀ m : Nat, ∀ c ∈ colB m, 65 ≤ c.toNat ∧ c.toNat ≤ 90 := by
  intro m
  induction m using Nat.strongRecOn with
  | _ m ih =>
    cases m with
    | zero => rw [colB_zero]; intro c h; cases h
    | succ m =>
      rw [colB_succ]
      intro c h
      rcases List.mem_append.1 h with h | h
      · exact ih (m / 26) (by omega) c h
      · obtain rfl := List.mem_singleton.1 h
        rw [cap_nat]; omega
theorem col_says (n : Nat) (hn : n < 1024) : pvR 0 (colB (n + 1)) = ((n : Int), 0) := by
  unfold pvR
  rw [pv_col]
  simp only []
  have e : ¬ (n + 1 < 1 ∨ 1024 < n + 1) := by omega
  first | (rw [if_neg e]; congr 1; omega) | (rw [if_pos (by omega)]; congr 1; omega) | (split <;> first | omega | (congr 1; omega))
/-- A number's digits. -/
theorem dig_nat (m : Nat) : (UInt8.ofNat (48 + m % 10)).toNat = 48 + m % 10 := UInt8.toNat_ofNat_of_lt' (by show _ < 256; omega)
theorem dec_dig : ∀ m : Nat, ∀ c ∈ Lib.decDigits m, 48 ≤ c.toNat ∧ c.toNat ≤ 57 := by
  intro m
  induction m using Nat.strongRecOn with
  | _ m ih =>
    rw [Lib.decDigits]
    by_cases h : m < 10
    · rw [dif_pos h]
      intro c hc
      obtain rfl := List.mem_singleton.1 hc
      have := dig_nat m
      rw [Nat.mod_eq_of_lt h] at this
      rw [this]; omega
    · rw [dif_neg h]
      intro c hc
      rcases List.mem_append.1 hc with hc | hc
      · exact ih (m / 10) (by omega) c hc
      · obtain rfl := List.mem_singleton.1 hc
        rw [dig_nat]; omega
theorem dec_first : ∀ m : Nat, 0 < m → ∃ c t, Lib.decDigits m = c :: t ∧ ¬ c.toNat = 48 := by
  intro m
  induction m using Nat.strongRecOn with
  | _ m ih =>
    intro h0
    rw [Lib.decDigits]
    by_cases h : m < 10
    · rw [dif_pos h]
      refine ⟨_, [], rfl, ?_⟩
      have := dig_nat m
      rw [Nat.mod_eq_of_lt h] at this
      rw [this]; omega
    · rw [dif_neg h]
      obtain ⟨c, t, e, hc⟩ := ih (m / 10) (by omega) (by omega)
      rw [e]
      exact ⟨c, t ++ [UInt8.ofNat (48 + m % 10)], rfl, hc⟩
theorem decFrom_app : ∀ (l : List UInt8) (a : Nat) (t : List UInt8), Lib.decFrom a (l ++ t) = (Lib.decFrom a l).bind fun z => Lib.decFrom z t := by
  intro l
  induction l with
  | nil => intro a t; rfl
  | cons c l ih =>
    intro a t
    rw [List.cons_append, Lib.decFrom, Lib.decFrom]
    cases Lib.digitVal c with
    | none => rfl
    | some d => exact ih _ _
theorem dig_val (m : Nat) : Lib.digitVal (UInt8.ofNat (48 + m % 10)) = some (m % 10) := by
  unfold Lib.digitVal
  rw [dig_nat, if_pos (by omega)]
  congr 1; omega
theorem dec_from : ∀ m : Nat, Lib.decFrom 0 (Lib.decDigits m) = some m := by
  intro m
  induction m using Nat.strongRecOn with
  | _ m ih =>
    rw [Lib.decDigits]
    by_cases h : m < 10
    · rw [dif_pos h]
      have := dig_val m
      rw [Nat.mod_eq_of_lt h] at this
      rw [Lib.decFrom, this]
      simp [Lib.decFrom]
    · rw [dif_neg h, decFrom_app, ih (m / 10) (by omega), Option.bind_some, Lib.decFrom, dig_val]
      simp only [Lib.decFrom]
      congr 1; omega
theorem dec_atoi (m : Nat) (h : 0 < m) : Lib.atoi (Lib.decDigits m) = some (m : Int) := by
  obtain ⟨c, t, e, _⟩ := dec_first m h
  have hc := dec_dig m c (by rw [e]; exact List.mem_cons_self ..)
  have hf := dec_from m
  rw [e] at hf ⊢
  unfold Lib.atoi
  have n1 : ¬ (c == 45) = true := by intro h; obtain rfl := beq_iff_eq.1 h; exact absurd hc (by decide)
  have n2 : ¬ (c == 43) = true := by intro h; obtain rfl := beq_iff_eq.1 h; exact absurd hc (by decide)
  simp only []
  rw [if_neg n1, if_neg n2]
  unfold Lib.decNat
  rw [if_neg (by simp), hf]; rfl
theorem dec_len (m : Nat) (h : m < 1000000000) : (Lib.decDigits m).length ≤ 10 := by
  rw [Lib.decDigits_length]
  rcases Nat.lt_or_ge 10 (Lib.nDigits m) with h' | h'
  · exfalso
    have : ∀ (k u : Nat), k + 1 ≤ Lib.nDigits u → 10 ^ k ≤ u ∨ k = 0 := by
      intro k
      induction k with
      | zero => intro u _; exact .inr rfl
      | succ k ih =>
        intro u hu
        left
        by_cases hs : u < 10
        · rw [Lib.nDigits_small hs] at hu; omega
        · rw [Lib.nDigits_big hs] at hu
          rcases ih (u / 10) (by omega) with h1 | h1
          · rw [Nat.pow_succ]; omega
          · subst h1; omega
    rcases this 10 m (by omega) with h1 | h1
    · omega
    · omega
  · exact h'
def dolB (b : Bool) : List UInt8 := if b = true then [36] else []
/-- A corner's text, its bytes. -/
def corB' (r q : Nat) (u v : Bool) : List UInt8 := dolB v ++ (colB (q + 1) ++ (dolB u ++ Lib.decDigits (r + 1)))
theorem col_cons (q : Nat) : ∃ c t, colB (q + 1) = c :: t := by
  cases h : colB (q + 1) with
  | nil => rw [colB_succ] at h; simp at h
  | cons c t => exact ⟨c, t, rfl⟩
theorem corner_of {s : ByteArray} {l1 l3 : List UInt8} (r q : Nat) (u v : Bool) {k k' : Nat} (h : s.data.toList = l1 ++ (corB' r q u v ++ l3)) (hk : k = l1.length) (hk' : k' = l1.length + (corB' r q u v).length)
    (hr : r < 1048576) (hq : q < 1024) (hs : s.size ≤ 140737488351232) (hN : ∀ c, l3[0]? = some c → isD c.toNat = false) : cornerOf s k k' u v r q := by
  obtain ⟨c0, t0, e0⟩ := col_cons q
  obtain ⟨c1, t1, e1, n1⟩ := dec_first (r + 1) (by omega)
  have hc0 := col_caps (q + 1) c0 (by rw [e0]; exact List.mem_cons_self ..)
  have hc1 := dec_dig (r + 1) c1 (by rw [e1]; exact List.mem_cons_self ..)
  unfold corB' at h hk'
  simp only [List.length_append] at hk'
  have hlen := dec_len (r + 1) (by omega)
  have k1 : ∀ b : Bool, (dolB b).length = if b = true then 1 else 0 := fun b => by cases b <;> rfl
  refine ⟨k + (dolB v).length, k + (dolB v).length + (colB (q + 1)).length, k + (dolB v).length + (colB (q + 1)).length + (dolB u).length, ?_, ?_, ?_, ?_, ?_, ?_, ?_, ?_, hr⟩
  · cases v
    · rw [if_neg (by decide)]
      refine ⟨no_stands (l1 := l1) (l2 := _) (by rw [h]) hk ?_, rfl⟩
      intro d hd
      simp only [dolB, Bool.false_eq_true, if_false, List.nil_append, e0, List.cons_append, List.getElem?_cons_zero, Option.some.injEq] at hd
      subst hd
      intro e; rw [e] at hc0; exact absurd hc0 (by decide)
    · rw [if_pos rfl]
      exact ⟨stands_of (l2 := colB (q + 1) ++ (dolB u ++ Lib.decDigits (r + 1)) ++ l3) (by rw [h]; simp [dolB]) hk, rfl⟩
  · refine run_of (l1 := l1 ++ dolB v) (l2 := colB (q + 1)) (l3 := dolB u ++ Lib.decDigits (r + 1) ++ l3) (by rw [h]; simp) (by rw [List.length_append]; omega) (by rw [List.length_append]; omega) (fun c hc => decide_eq_true (col_caps _ c hc)) ?_
    intro c hc
    cases u
    · simp only [dolB, Bool.false_eq_true, if_false, List.nil_append, e1, List.cons_append, List.getElem?_cons_zero, Option.some.injEq] at hc
      subst hc; exact decide_eq_false (by omega)
    · simp only [dolB, if_true, List.cons_append, List.getElem?_cons_zero, Option.some.injEq] at hc
      subst hc; rfl
  · have hx := mid_of (s := s) (k := k + (dolB v).length) (k' := k + (dolB v).length + (colB (q + 1)).length) (l1 := l1 ++ dolB v) (l2 := colB (q + 1)) (l3 := dolB u ++ Lib.decDigits (r + 1) ++ l3) (by rw [h]; simp) (by rw [List.length_append]; omega) (by rw [List.length_append]; omega)
    rw [hx]
    refine ⟨_, (prog_is _ ?_).trans ?_⟩
    · have := col_size q hq; unfold colS at this; omega
    · rw [List.toList_toArray, col_says q hq]
  · cases u
    · rw [if_neg (by decide)]
      refine ⟨no_stands (l1 := l1 ++ (dolB v ++ colB (q + 1))) (l2 := Lib.decDigits (r + 1) ++ l3) (by rw [h]; simp [dolB]) (by simp only [List.length_append]; omega) ?_, rfl⟩
      intro d hd
      simp only [e1, List.cons_append, List.getElem?_cons_zero, Option.some.injEq] at hd
      subst hd
      intro e; rw [e] at hc1; exact absurd hc1 (by decide)
    · rw [if_pos rfl]
      exact ⟨stands_of (l1 := l1 ++ (dolB v ++ colB (q + 1))) (l2 := Lib.decDigits (r + 1) ++ l3) (by rw [h]; simp [dolB]) (by simp only [List.length_append]; omega), rfl⟩
  · refine run_of (l1 := l1 ++ (dolB v ++ (colB (q + 1) ++ dolB u))) (l2 := Lib.decDigits (r + 1)) (l3 := l3) (by rw [h]; simp) (by simp only [List.length_append]; omega) (by simp only [List.length_append]; omega) (fun c hc => ?_) hN
    have := dec_dig _ c hc
    exact decide_eq_true this
  · have hst : stands s (k + (dolB v).length + (colB (q + 1)).length + (dolB u).length) c1 := stands_of (l1 := l1 ++ (dolB v ++ (colB (q + 1) ++ dolB u))) (l2 := t1 ++ l3) (by rw [h, e1]; simp) (by simp only [List.length_append]; omega)
    obtain ⟨hz, he⟩ := hst
    refine ⟨hz, ?_, by rw [he]; exact n1⟩
    rw [hk', e1, List.length_cons]; omega
  · omega
  · have hx := mid_of (s := s) (k := k + (dolB v).length + (colB (q + 1)).length + (dolB u).length) (k' := k') (l1 := l1 ++ (dolB v ++ (colB (q + 1) ++ dolB u))) (l2 := Lib.decDigits (r + 1)) (l3 := l3) (by rw [h]; simp) (by simp only [List.length_append]; omega) (by simp only [List.length_append]; omega)
    rw [hx]
    show Lib.atoi (Lib.decDigits (r + 1)).toArray.toList = _
    rw [List.toList_toArray]
    exact dec_atoi (r + 1) (by omega)
/-- A sheet's name as it stands in a text. -/
def quoL (s : ByteArray) : List UInt8 := if nmOK s = true then (if plB s = true then s.data.toList else 39 :: (s.data.toList ++ [39])) else []
theorem quo_bytes (s : ByteArray) : (quoS s).data.toList = quoL s := by
  unfold quoS quoL
  split
  · split
    · rfl
    · rw [ByteArray.data_append, ByteArray.data_append, Array.toList_append, Array.toList_append]; simp
  · rfl
theorem nm_at {s : ByteArray} (h : nmOK s = true) : 0 < s.size ∧ s.size ≤ 64 ∧ ∀ c ∈ s.data.toList, ¬ c.toNat = 39 := by
  unfold nmOK at h
  rw [Bool.and_eq_true, Bool.and_eq_true, Bool.and_eq_true, decide_eq_true_iff, decide_eq_true_iff, List.all_eq_true] at h
  refine ⟨h.2.1, h.2.2.1, fun c hc e => ?_⟩
  have := h.2.2.2 c hc
  rw [Bool.and_eq_true] at this
  have hq : c = 39 := UInt8.toNat_inj.1 e
  rw [hq] at this
  exact absurd this.1 (by decide)
theorem back_bytes (s : ByteArray) : (⟨s.data.toList.toArray⟩ : ByteArray) = s := by cases s; simp
theorem pl_bytes {s : ByteArray} (h : plB s = true) : ∀ c ∈ s.data.toList, (isL c.toNat || isD c.toNat) = true := by
  intro c hc
  obtain ⟨j, hj, e⟩ := List.getElem_of_mem hc
  have hz : j < s.size := by rw [Lib.size_eq]; exact hj
  have := (plB_at h).2 j hz
  have e2 : s[j] = c := by
    have h1 := at_of (s := s) rfl j hz
    rw [List.getElem?_eq_getElem hj, e] at h1
    exact Option.some.inj h1
  rw [e2] at this
  unfold okAt at this
  rw [Bool.or_eq_true, Bool.and_eq_true] at this
  rw [Bool.or_eq_true]
  rcases this with h1 | h1
  · exact .inl h1
  · exact .inr h1.2
theorem sheet_of {s nm : ByteArray} {l1 l3 : List UInt8} {k k' : Nat} (h : s.data.toList = l1 ++ (quoL nm ++ 46 :: l3)) (hk : k = l1.length) (hk' : k' = l1.length + (quoL nm).length) (hn : nm.size = 0 ∨ nmOK nm = true) : sheetAt s k k' nm := by
  rcases hn with hn | hn
  · left
    have e0 : quoL nm = [] := by unfold quoL; rw [nmOK_none hn]; rfl
    rw [e0] at h hk'
    refine ⟨?_, stands_of h hk, by rw [hk', hk]; rfl⟩
    apply ByteArray.ext
    apply Array.toList_inj.1
    exact List.eq_nil_of_length_eq_zero (by rw [← Lib.size_eq]; exact hn)
  · obtain ⟨n1, n2, n3⟩ := nm_at hn
    rw [Lib.size_eq] at n1
    cases hp : plB nm with
    | true =>
      right; left
      have e0 : quoL nm = nm.data.toList := by unfold quoL; rw [if_pos hn, if_pos hp]
      rw [e0] at h hk'
      have hx := mid_of h hk hk'
      rw [back_bytes] at hx
      refine ⟨⟨by omega, stands_of (l1 := l1 ++ nm.data.toList) (l2 := l3) (by rw [h]; simp) (by rw [List.length_append]; omega), fun j hj h1 h2 => pl_bytes hp _ (in_mid h hk hk' j hj h1 h2), by rw [hx]; exact hp, by rw [hx]; exact hn⟩, hx.symm⟩
    | false =>
      right; right
      have e0 : quoL nm = 39 :: (nm.data.toList ++ [39]) := by unfold quoL; rw [if_pos hn, hp]; rfl
      rw [e0] at h hk'
      simp only [List.length_cons, List.length_append, List.length_nil] at hk'
      have hx := mid_of (s := s) (k := k + 1) (k' := k + 1 + nm.data.toList.length) (l1 := l1 ++ [39]) (l2 := nm.data.toList) (l3 := 39 :: 46 :: l3) (by rw [h]; simp) (by simp; omega) (by simp; omega)
      rw [back_bytes] at hx
      refine ⟨k + 1 + nm.data.toList.length, ⟨stands_of (l2 := nm.data.toList ++ [39] ++ 46 :: l3) (by rw [h]; simp) hk, by omega, stands_of (l1 := l1 ++ 39 :: nm.data.toList) (l2 := 46 :: l3) (by rw [h]; simp) (by simp; omega), fun j hj h1 h2 => n3 _ (in_mid (s := s) (k := k + 1) (k' := k + 1 + nm.data.toList.length) (l1 := l1 ++ [39]) (l2 := nm.data.toList) (l3 := 39 :: 46 :: l3) (by rw [h]; simp) (by simp; omega) (by simp; omega) j hj h1 h2), by rw [hx]; exact hp, by rw [hx]; exact hn⟩, by omega, hx.symm⟩
theorem dol_bytes (b : Bool) : (dolS b).data.toList = dolB b := by cases b <;> rfl
theorem cor_bytes (r q : Nat) (u v : Bool) : (corS (r : Int) (q : Int) u v).data.toList = corB' r q u v := by
  unfold corS corB' colS numS
  rw [Int.toNat_natCast]
  simp only [ByteArray.data_append, Array.toList_append, dol_bytes, List.append_assoc]
  rw [show ((r : Int) + 1) = ((r + 1 : Nat) : Int) from rfl, Lib.itoa_nonneg]
theorem quo_first (s : ByteArray) (t : List UInt8) : ∀ d, (quoL s ++ 46 :: t)[0]? = some d → d ≠ 36 := by
  intro d hd e
  subst e
  unfold quoL at hd
  by_cases h : nmOK s = true
  · rw [if_pos h] at hd
    by_cases hp : plB s = true
    · rw [if_pos hp] at hd
      have n1 := (nm_at h).1
      rw [Lib.size_eq] at n1
      rw [List.getElem?_append_left n1] at hd
      have := pl_bytes hp _ (List.mem_of_getElem? hd)
      exact absurd this (by decide)
    · rw [if_neg hp] at hd
      simp at hd
  · rw [if_neg h] at hd
    simp at hd
theorem text_says (x : Rf) (hx : okR x) : ∃ k1 k2 k3 k4 r q r2 q2, refAt (texS x) 0 (texS x).size x k1 k2 k3 k4 r q r2 q2 := by
  obtain ⟨o1, o2, o3, o4, o5, o6⟩ := hx
  obtain ⟨a1, a2, a3, a4⟩ := cor_in o4
  obtain ⟨s, t, f, e, r, q, u, v, r2, q2, u2, v2⟩ := x
  simp only [] at *
  obtain ⟨r, rfl⟩ := Int.eq_ofNat_of_zero_le a1
  obtain ⟨q, rfl⟩ := Int.eq_ofNat_of_zero_le a3
  have hsn : s.size = 0 ∨ nmOK s = true := by
    rcases Nat.eq_zero_or_pos s.size with h | h
    · exact .inl h
    · exact .inr (o1 h)
  have htn : t.size = 0 ∨ nmOK t = true := by
    rcases Nat.eq_zero_or_pos t.size with h | h
    · exact .inl h
    · exact .inr (o2 h)
  have some1 : f = true → 0 < s.size := fun hf => by
    rcases Nat.eq_zero_or_pos s.size with h | h
    · have := (o3 h).2; rw [hf] at this; cases this
    · exact h
  have kd : (dolB f).length = if f = true then 1 else 0 := by cases f <;> rfl
  have bd : ∀ (l1 l3 : List UInt8), (if f = true then stands (⟨(l1 ++ l3).toArray⟩ : ByteArray) 0 36 ∧ (dolB f).length = 0 + 1 else True) ∨ True := fun _ _ => .inr trivial
  clear bd
  cases e with
  | false =>
    obtain ⟨rfl, rfl, rfl, rfl, t0⟩ := o6 rfl
    have tes : t = es := by
      apply ByteArray.ext
      apply Array.toList_inj.1
      exact List.eq_nil_of_length_eq_zero (by rw [← Lib.size_eq]; exact t0)
    have hb : (texS ⟨s, t, f, false, r, q, u, v, 0, 0, false, false⟩).data.toList = dolB f ++ (quoL s ++ 46 :: (corB' r q u v ++ [])) := by
      unfold texS texA
      simp only [Bool.false_eq_true, if_false, ByteArray.data_append, Array.toList_append, dol_bytes, quo_bytes, cor_bytes, List.append_assoc, List.append_nil]
      rfl
    have hz := size_of hb
    simp only [List.length_append, List.length_cons, List.length_nil] at hz
    have hsz : (texS ⟨s, t, f, false, r, q, u, v, 0, 0, false, false⟩).size ≤ 140737488351232 := tex_size _ ⟨o1, o2, o3, o4, o5, o6⟩
    generalize texS ⟨s, t, f, false, r, q, u, v, 0, 0, false, false⟩ = T at *
    refine ⟨(dolB f).length, (dolB f).length + (quoL s).length, T.size, 0, r, q, 0, 0, ⟨?_, ?_, some1, ?_, ?_, rfl, rfl, (fun h => by cases h), fun _ => ⟨?_, rfl, tes, rfl, rfl, rfl, rfl⟩⟩⟩
    · cases f
      · rw [if_neg (fun h => Bool.noConfusion h)]
        refine ⟨no_stands (l1 := []) (l2 := quoL s ++ 46 :: (corB' r q u v ++ [])) (by rw [hb]; rfl) rfl (quo_first s _), rfl⟩
      · rw [if_pos rfl]
        exact ⟨stands_of (l1 := []) (l2 := quoL s ++ 46 :: (corB' r q u v ++ [])) (by rw [hb]; rfl) rfl, rfl⟩
    · exact sheet_of (l1 := dolB f) hb rfl rfl hsn
    · exact stands_of (l1 := dolB f ++ quoL s) (l2 := corB' r q u v ++ []) (by rw [hb]; simp) (by rw [List.length_append])
    · refine corner_of (l1 := dolB f ++ quoL s ++ [46]) (l3 := []) r q u v (by rw [hb]; simp) (by simp; omega) (by simp; omega) (by omega) (by omega) hsz (fun c hc => by simp at hc)
    · rintro ⟨hlt, _⟩; exact absurd hlt (Nat.lt_irrefl _)
  | true =>
    obtain ⟨b1, b2, b3, b4⟩ := cor_in (o5 rfl)
    obtain ⟨r2, rfl⟩ := Int.eq_ofNat_of_zero_le b1
    obtain ⟨q2, rfl⟩ := Int.eq_ofNat_of_zero_le b3
    have hb : (texS ⟨s, t, f, true, r, q, u, v, r2, q2, u2, v2⟩).data.toList = dolB f ++ (quoL s ++ 46 :: (corB' r q u v ++ 58 :: (quoL t ++ 46 :: (corB' r2 q2 u2 v2 ++ [])))) := by
      unfold texS texA texB
      simp only [if_true, ByteArray.data_append, Array.toList_append, dol_bytes, quo_bytes, cor_bytes, List.append_assoc, List.append_nil]
      rfl
    have hz := size_of hb
    simp only [List.length_append, List.length_cons, List.length_nil] at hz
    have hsz : (texS ⟨s, t, f, true, r, q, u, v, r2, q2, u2, v2⟩).size ≤ 140737488351232 := tex_size _ ⟨o1, o2, o3, o4, o5, o6⟩
    generalize texS ⟨s, t, f, true, r, q, u, v, r2, q2, u2, v2⟩ = T at *
    refine ⟨(dolB f).length, (dolB f).length + (quoL s).length, (dolB f).length + (quoL s).length + 1 + (corB' r q u v).length, (dolB f).length + (quoL s).length + 1 + (corB' r q u v).length + 1 + (quoL t).length, r, q, r2, q2, ⟨?_, ?_, some1, ?_, ?_, rfl, rfl, (fun _ => ⟨?_, ?_, ?_, ?_, ?_, rfl, rfl⟩), (fun h => by cases h)⟩⟩
    · cases f
      · rw [if_neg (fun h => Bool.noConfusion h)]
        refine ⟨no_stands (l1 := []) (l2 := quoL s ++ 46 :: (corB' r q u v ++ 58 :: (quoL t ++ 46 :: (corB' r2 q2 u2 v2 ++ [])))) (by rw [hb]; rfl) rfl (quo_first s _), rfl⟩
      · rw [if_pos rfl]
        exact ⟨stands_of (l1 := []) (by rw [hb]; rfl) rfl, rfl⟩
    · exact sheet_of (l1 := dolB f) hb rfl rfl hsn
    · exact stands_of (l1 := dolB f ++ quoL s) (by rw [hb]; simp only [List.append_assoc]; rfl) (by rw [List.length_append])
    · exact corner_of (l1 := dolB f ++ quoL s ++ [46]) (l3 := 58 :: (quoL t ++ 46 :: (corB' r2 q2 u2 v2 ++ []))) r q u v (by rw [hb]; simp) (by simp; omega) (by simp; omega) (by omega) (by omega) hsz (fun c hc => by simp at hc; subst hc; decide)
    · exact stands_of (l1 := dolB f ++ (quoL s ++ 46 :: corB' r q u v)) (l2 := quoL t ++ 46 :: (corB' r2 q2 u2 v2 ++ [])) (by rw [hb]; simp) (by simp; omega)
    · exact sheet_of (l1 := dolB f ++ (quoL s ++ 46 :: (corB' r q u v ++ [58]))) (l3 := corB' r2 q2 u2 v2 ++ []) (by rw [hb]; simp) (by simp; omega) (by simp; omega) htn
    · intro ht
      rcases Nat.eq_zero_or_pos s.size with h | h
      · have h0 := (o3 h).1; exact absurd ht (by show ¬ 0 < t.size; rw [h0]; exact Nat.lt_irrefl 0)
      · exact h
    · exact stands_of (l1 := dolB f ++ (quoL s ++ 46 :: (corB' r q u v ++ 58 :: quoL t))) (l2 := corB' r2 q2 u2 v2 ++ []) (by rw [hb]; simp) (by simp; omega)
    · exact corner_of (l1 := dolB f ++ (quoL s ++ 46 :: (corB' r q u v ++ 58 :: (quoL t ++ [46])))) (l3 := []) r2 q2 u2 v2 (by rw [hb]; simp) (by simp; omega) (by simp; omega) (by omega) (by omega) hsz (fun c hc => by simp at hc)
end Go.Proofs.YtjbcdfbgbocblaaDoor.Hw
