import Derived.Test.YtfkoiebnpgodmaaDoorShiftCellsWalk
/- The law ShiftOrder, walked. -/
namespace Go.Proofs.YtfkoiebnpgodmaaDoor.CP
theorem oneI_lt {k a n L r r' u u' : Int} (hn : 0 ≤ n) (h : oneI k a n L r = some u) (h' : oneI k a n L r' = some u') : (r < r' ↔ u < u') ∧ (r = r' ↔ u = u') := by
  unfold oneI at h h'
  by_cases g : k = 1 ∨ k = 3
  · simp only [g, if_true] at h h'
    split at h <;> split at h' <;> (try split at h) <;> (try split at h') <;> simp at h h' <;> omega
  · simp only [g, if_false] at h h'
    split at h <;> split at h' <;> (try split at h) <;> (try split at h') <;> simp at h h' <;> omega
theorem goI_order {k a n : Int} {i : Nat} {s r c r' c' : Int} {x y : Int × Int × Int} (hk : 1 ≤ k ∧ k ≤ 8) (hn : k ≤ 4 → 0 ≤ n) (h : goI k a n i s r c = some x) (h' : goI k a n i s r' c' = some y) :
    x.1 = y.1 ∧ (r < r' ↔ x.2.1 < y.2.1) ∧ (c < c' ↔ x.2.2 < y.2.2) ∧ (r = r' ↔ x.2.1 = y.2.1) ∧ (c = c' ↔ x.2.2 = y.2.2) := by
  unfold goI at h h'
  by_cases h5 : k = 5
  · rw [if_pos h5] at h h'; obtain rfl := Option.some.inj h; obtain rfl := Option.some.inj h'; simp
  rw [if_neg h5] at h h'
  by_cases h6 : k = 6
  · rw [if_pos h6] at h h'
    by_cases hs : s = i
    · rw [if_pos hs] at h; cases h
    · rw [if_neg hs] at h h'; obtain rfl := Option.some.inj h; obtain rfl := Option.some.inj h'; simp
  rw [if_neg h6] at h h'
  by_cases h7 : k = 7
  · rw [if_pos h7] at h h'; obtain rfl := Option.some.inj h; obtain rfl := Option.some.inj h'; simp
  rw [if_neg h7] at h h'
  by_cases h8 : k = 8 ∨ ¬ s = i
  · rw [if_pos h8] at h h'; obtain rfl := Option.some.inj h; obtain rfl := Option.some.inj h'; simp
  rw [if_neg h8] at h h'
  by_cases h2 : k ≤ 2
  · rw [if_pos h2] at h h'
    cases e : oneI k a n 1048576 r with
    | none => rw [e] at h; cases h
    | some u =>
      cases e' : oneI k a n 1048576 r' with
      | none => rw [e'] at h'; cases h'
      | some u' =>
        rw [e] at h; rw [e'] at h'
        obtain rfl := Option.some.inj h; obtain rfl := Option.some.inj h'
        have := oneI_lt (hn (by omega)) e e'
        exact ⟨rfl, this.1, Iff.rfl, this.2, Iff.rfl⟩
  · rw [if_neg h2] at h h'
    cases e : oneI k a n 1024 c with
    | none => rw [e] at h; cases h
    | some u =>
      cases e' : oneI k a n 1024 c' with
      | none => rw [e'] at h'; cases h'
      | some u' =>
        rw [e] at h; rw [e'] at h'
        obtain rfl := Option.some.inj h; obtain rfl := Option.some.inj h'
        have := oneI_lt (hn (by omega)) e e'
        exact ⟨rfl, Iff.rfl, this.1, Iff.rfl, this.2⟩
theorem cellI_order {k a n : Int} {len : Nat} {iS iN : Option Nat} {ok : Bool} {s r c r' c' : Int} {x y : Int × Int × Int} (h : cellI k a n len iS iN ok s r c = some x) (h' : cellI k a n len iS iN ok s r' c' = some y) :
    x.1 = y.1 ∧ (r < r' ↔ x.2.1 < y.2.1) ∧ (c < c' ↔ x.2.2 < y.2.2) ∧ (r = r' ↔ x.2.1 = y.2.1) ∧ (c = c' ↔ x.2.2 = y.2.2) := by
  unfold cellI at h h'
  split at h
  · split at h'
    · rename_i g _
      obtain ⟨k1, k2, k3, k4, k5, k7⟩ := Hw.chk_ok g.1
      exact goI_order k1 (fun hk => by
        rcases Int.lt_or_le 2 k with g2 | g2
        · have := k4 g2 hk; omega
        · have := k3 g2; omega) h h'
    · cases h'
  · cases h
end Go.Proofs.YtfkoiebnpgodmaaDoor.CP
namespace Go.Proofs.YtfkoiebnpgodmaaDoor.Hw
open Go.RowKit Go.Proofs.YtfkoiebnpgodmaaDoorW.PrintWords Go.Proofs.YtfkoiebnpgodmaaDoorW.PrintLast Go.Proofs.YtfkoiebnpgodmaaDoorW.PrintMore Go.Proofs.YtfkoiebnpgodmaaDoor.PH Go.Proofs.YtfkoiebnpgodmaaDoor.CP Go.Proofs.YtfkoiebnpgodmaaDoor.Op
set_option linter.unusedVariables false
set_option linter.unusedSimpArgs false
theorem tri {x y x' y' : Int} (h : x < y ↔ x' < y') (h2 : x = y ↔ x' = y') : (decide (x < y) = true ∧ decide (x' < y') = true ∧ (x == y) = false ∧ (x' == y') = false) ∨ (decide (x < y) = false ∧ decide (x' < y') = false ∧ (x == y) = true ∧ (x' == y') = true) ∨ (decide (x < y) = false ∧ decide (x' < y') = false ∧ (x == y) = false ∧ (x' == y') = false) := by
  simp only [decide_eq_true_eq, decide_eq_false_iff_not, beq_iff_eq, beq_eq_false_iff_ne, ne_eq]
  omega
/-- Behind a law's begin: the case and the two cells lie boxed; the names are read; the tables hold. -/
structure DJ (w0 : World) (A : Option Addr) (l : List ByteArray) (c : Nat) (k : Int) (sh : ByteArray) (a n : Int) (nm own : ByteArray) (s r q r2 q2 : Int) (w : World) : Prop where
  below : Below w0.heap.size w0 w
  box0 : w.heap[w0.heap.size]? = some (.cells #[.slice A l.length c, .int .i64 k, .string sh, .int .i64 a, .int .i64 n, .string nm, .string own] 26 (0, 0))
  box1 : w.heap[w0.heap.size + 1]? = some (.cells #[.int .i64 s, .int .i64 r, .int .i64 q] 28 (0, 0))
  box2 : w.heap[w0.heap.size + 1 + 1]? = some (.cells #[.int .i64 s, .int .i64 r2, .int .i64 q2] 28 (0, 0))
  row : Kd.C Kd.string w A l.length l
  tabs : ChW w
section
variable {w0 w w' : World} {A : Option Addr} {l : List ByteArray} {c : Nat} {k : Int} {sh : ByteArray} {a n : Int} {nm own : ByteArray} {s r q r2 q2 : Int}
theorem DJ.go (h : DJ w0 A l c k sh a n nm own s r q r2 q2 w) (hb : Below w.heap.size w w') : DJ w0 A l c k sh a n nm own s r q r2 q2 w' :=
  ⟨h.below.trans (hb.mono h.below.size), (hb.block _ (blk_lt h.box0)).trans h.box0, (hb.block _ (blk_lt h.box1)).trans h.box1, (hb.block _ (blk_lt h.box2)).trans h.box2, Kd.C_below h.row hb, h.tabs.go hb⟩
theorem DJ.cells (h : DJ w0 A l c k sh a n nm own s r q r2 q2 w) : (w.cell? ⟨w0.heap.size, 0, none⟩ = some (.slice A l.length c) ∧ w.cell? ⟨w0.heap.size, 1, none⟩ = some (.int .i64 k) ∧ w.cell? ⟨w0.heap.size, 2, none⟩ = some (.string sh) ∧ w.cell? ⟨w0.heap.size, 3, none⟩ = some (.int .i64 a) ∧ w.cell? ⟨w0.heap.size, 4, none⟩ = some (.int .i64 n) ∧ w.cell? ⟨w0.heap.size, 5, none⟩ = some (.string nm) ∧ w.cell? ⟨w0.heap.size, 6, none⟩ = some (.string own)) ∧
    (w.cell? ⟨w0.heap.size + 1, 0, none⟩ = some (.int .i64 s) ∧ w.cell? ⟨w0.heap.size + 1, 1, none⟩ = some (.int .i64 r) ∧ w.cell? ⟨w0.heap.size + 1, 2, none⟩ = some (.int .i64 q)) ∧
    (w.cell? ⟨w0.heap.size + 1 + 1, 0, none⟩ = some (.int .i64 s) ∧ w.cell? ⟨w0.heap.size + 1 + 1, 1, none⟩ = some (.int .i64 r2) ∧ w.cell? ⟨w0.heap.size + 1 + 1, 2, none⟩ = some (.int .i64 q2)) :=
  ⟨⟨(blk_cell h.box0 0).trans rfl, (blk_cell h.box0 1).trans rfl, (blk_cell h.box0 2).trans rfl, (blk_cell h.box0 3).trans rfl, (blk_cell h.box0 4).trans rfl, (blk_cell h.box0 5).trans rfl, (blk_cell h.box0 6).trans rfl⟩, ad3 h.box1, ad3 h.box2⟩
theorem DJ.start (hC : ChW w0) (hr : Kd.C Kd.string w0 A l.length l) : DJ w0 A l c k sh a n nm own s r q r2 q2 (((w0.alloc (.cells #[.slice A l.length c, .int .i64 k, .string sh, .int .i64 a, .int .i64 n, .string nm, .string own] 26)).alloc (.cells #[.int .i64 s, .int .i64 r, .int .i64 q] 28)).alloc (.cells #[.int .i64 s, .int .i64 r2, .int .i64 q2] 28)) := by
  have z : ∀ (w : World) (o : Obj), (w.alloc o).heap.size = w.heap.size + 1 := fun w o => Array.size_push ..
  have b := (((Below.refl w0.heap.size w0).alloc (Nat.le_refl _) (.cells #[.slice A l.length c, .int .i64 k, .string sh, .int .i64 a, .int .i64 n, .string nm, .string own] 26)).alloc (by rw [z]; omega) (.cells #[.int .i64 s, .int .i64 r, .int .i64 q] 28)).alloc (by rw [z, z]; omega) (.cells #[.int .i64 s, .int .i64 r2, .int .i64 q2] 28)
  refine ⟨b, blk_alloc (blk_alloc (heap_alloc_new w0 _) _) _, blk_alloc ?_ _, ?_, Kd.C_below hr b, hC.go b⟩
  · rw [← z w0 (.cells #[.slice A l.length c, .int .i64 k, .string sh, .int .i64 a, .int .i64 n, .string nm, .string own] 26)]; exact heap_alloc_new _ _
  · rw [← z w0 (.cells #[.slice A l.length c, .int .i64 k, .string sh, .int .i64 a, .int .i64 n, .string nm, .string own] 26), ← z _ (.cells #[.int .i64 s, .int .i64 r, .int .i64 q] 28)]; exact heap_alloc_new _ _
theorem DJ.on {f : FuncId} {args : Array Value} {v : Ending} (h : ∀ w, DJ w0 A l c k sh a n nm own s r q r2 q2 w → Calls Tryd.prog f args w fun e w' => e = v ∧ Below w.heap.size w w') :
    ∀ w, DJ w0 A l c k sh a n nm own s r q r2 q2 w → Calls Tryd.prog f args w fun e w' => e = v ∧ Aside0 (Below w.heap.size w w') := fun w hj =>
  (h w hj).mono fun e w' ⟨h1, h2⟩ => ⟨h1, ⟨h2⟩⟩
end
set_option maxRecDepth 100000 in
set_option maxHeartbeats 2000000 in
theorem shiftOrder_walk (w : World) (hC : ChW w) (cs0 : Array Value) (x0 : List ByteArray × (Int × ByteArray × Int × Int × ByteArray) × ByteArray) (hK0 : kdCase.K w x0 cs0.toList) (hG0 : GCase x0) (cs1 : Array Value) (x1 : Int × Int × Int) (hK1 : kdAddr.K w x1 cs1.toList) (hG1 : GAddr x1) (cs2 : Array Value) (x2 : Int × Int × Int) (hK2 : kdAddr.K w x2 cs2.toList) (hG2 : GAddr x2) :
    Calls Tryd.prog 4 #[.agg cs0, .agg cs1, .agg cs2] w fun e w' => e = .returned (.bool true) ∧ Below w.heap.size w w' := by
  obtain ⟨A, c, rfl, hc, hr⟩ := case_cells hK0
  obtain rfl := addr_cells hK1
  obtain rfl := addr_cells hK2
  obtain ⟨l, ⟨k, sh, a, n, nm⟩, own⟩ := x0
  obtain ⟨s, r, q⟩ := x1
  obtain ⟨s2, r2, q2⟩ := x2
  obtain ⟨hl, hG, ⟨_, h1, wa, wn, h2⟩, _⟩ := hG0
  simp only [] at hl hG h1 wa wn h2 hr hc ⊢
  have K0 := Aside0.mk (DJ.on (w0 := w) (A := A) (l := l) (c := c) (k := k) (sh := sh) (a := a) (n := n) (nm := nm) (own := own) (s := s) (r := r) (q := q) (r2 := r2) (q2 := q2) fun w1 hj => live15_calls w1 hj.tabs)
  have K1 := Aside0.mk (DJ.on (w0 := w) (A := A) (l := l) (c := c) (k := k) (sh := sh) (a := a) (n := n) (nm := nm) (own := own) (s := s) (r := r) (q := q) (r2 := r2) (q2 := q2) fun w1 hj => cell_calls A c l k sh a n nm s r q w1 hj.tabs hj.row hl hG h1 h2 (wf64 wa) (wf64 wn))
  have K2 := Aside0.mk (DJ.on (w0 := w) (A := A) (l := l) (c := c) (k := k) (sh := sh) (a := a) (n := n) (nm := nm) (own := own) (s := s) (r := r) (q := q) (r2 := r2) (q2 := q2) fun w1 hj => cell_calls A c l k sh a n nm s r2 q2 w1 hj.tabs hj.row hl hG h1 h2 (wf64 wa) (wf64 wn))
  have K3 := Aside0.mk (DJ.on (w0 := w) (A := A) (l := l) (c := c) (k := k) (sh := sh) (a := a) (n := n) (nm := nm) (own := own) (s := s) (r := r) (q := q) (r2 := r2) (q2 := q2) fun w1 hj => rcell_calls A c l k sh a n nm s r q w1 hj.tabs hj.row hl hG h1 h2 (wf64 wa) (wf64 wn))
  have HO := Aside0.mk (fun x y => @cellI_order k a n l.length (fnd l sh) (fnd l nm) (nmOK nm) s r q r2 q2 x y)
  generalize cellI k a n l.length (fnd l sh) (fnd l nm) (nmOK nm) s r q = o1 at *
  generalize cellI k a n l.length (fnd l sh) (fnd l nm) (nmOK nm) s r2 q2 = o2 at *
  have HJ0 : Aside0 (DJ w A l c k sh a n nm own s r q r2 q2 _) := ⟨DJ.start hC hr⟩
  clear hC hr hK0 hK1 hK2 hG1 hG2 wa wn
  rcases o1 with _ | ⟨s', r', q'⟩ <;> rcases o2 with _ | ⟨t', u', v'⟩
  · unfold cellV at K1 K2 K3
    go_enter Tryd.func4, Tryd.ntmps4
    go_wp2_with (first
      | (go_at_call 8; refine (K1.out _ HJ0.out).mono ?_; rintro e w2 ⟨rfl, hb2⟩; have HJ1 := Aside0.mk ((HJ0.out.go hb2.out).go ((Below.refl _ w2).alloc (Nat.le_refl _) (.cells #[.int .i64 0, .int .i64 0, .int .i64 0] 28))); have HX1 := Aside0.mk (blk_new w2 (.cells #[.int .i64 0, .int .i64 0, .int .i64 0] 28)); clear HJ0 hb2; obtain ⟨⟨c0, c1, c2, c3, c4, c5, c6⟩, ⟨d0, d1, d2⟩, ⟨e0, e1, e2⟩⟩ := HJ1.out.cells; obtain ⟨x0, x1, x2⟩ := ad3 HX1.out)
      | (go_at_call 8; refine (K2.out _ HJ1.out).mono ?_; rintro e w4 ⟨rfl, hb4⟩; have HJ2 := Aside0.mk ((HJ1.out.go hb4.out).go ((Below.refl _ w4).alloc (Nat.le_refl _) (.cells #[.int .i64 0, .int .i64 0, .int .i64 0] 28))); have HX2 := Aside0.mk (blk_alloc (blk_below HX1.out hb4.out) (.cells #[.int .i64 0, .int .i64 0, .int .i64 0] 28)); have HY2 := Aside0.mk (blk_new w4 (.cells #[.int .i64 0, .int .i64 0, .int .i64 0] 28)); clear HJ1 hb4; obtain ⟨⟨c0, c1, c2, c3, c4, c5, c6⟩, ⟨d0, d1, d2⟩, ⟨e0, e1, e2⟩⟩ := HJ2.out.cells; obtain ⟨y0, y1, y2⟩ := ad3 HX2.out; obtain ⟨z0, z1, z2⟩ := ad3 HY2.out)
      | (go_at_call 9; refine (K3.out _ HJ2.out).mono ?_; rintro e w5 ⟨rfl, hb5⟩; have HJ3 := Aside0.mk ((HJ2.out.go hb5.out).go ((Below.refl _ w5).alloc (Nat.le_refl _) (.cells #[.int .i64 0, .int .i64 0, .int .i64 0] 28))); have HX3 := Aside0.mk (blk_alloc (blk_below HX2.out hb5.out) (.cells #[.int .i64 0, .int .i64 0, .int .i64 0] 28)); have HY3 := Aside0.mk (blk_alloc (blk_below HY2.out hb5.out) (.cells #[.int .i64 0, .int .i64 0, .int .i64 0] 28)); clear HJ2 hb5; obtain ⟨⟨c0, c1, c2, c3, c4, c5, c6⟩, ⟨d0, d1, d2⟩, ⟨e0, e1, e2⟩⟩ := HJ3.out.cells; obtain ⟨y0, y1, y2⟩ := ad3 HX3.out; obtain ⟨z0, z1, z2⟩ := ad3 HY3.out)
      | (go_at_call 10; refine (K0.out _ HJ3.out).mono ?_; rintro e w6 ⟨rfl, hb6⟩; have HJ4 := Aside0.mk (HJ3.out.go hb6.out); obtain ⟨⟨c0, c1, c2, c3, c4, c5, c6⟩, ⟨d0, d1, d2⟩, ⟨e0, e1, e2⟩⟩ := HJ4.out.cells; obtain ⟨y0, y1, y2⟩ := ad3 (blk_below HX3.out hb6.out); obtain ⟨z0, z1, z2⟩ := ad3 (blk_below HY3.out hb6.out); clear hb6))
    go_ret
    exact ⟨rfl, HJ4.out.below⟩
  · unfold cellV at K1 K2 K3
    go_enter Tryd.func4, Tryd.ntmps4
    go_wp2_with (first
      | (go_at_call 8; refine (K1.out _ HJ0.out).mono ?_; rintro e w2 ⟨rfl, hb2⟩; have HJ1 := Aside0.mk ((HJ0.out.go hb2.out).go ((Below.refl _ w2).alloc (Nat.le_refl _) (.cells #[.int .i64 0, .int .i64 0, .int .i64 0] 28))); have HX1 := Aside0.mk (blk_new w2 (.cells #[.int .i64 0, .int .i64 0, .int .i64 0] 28)); clear HJ0 hb2; obtain ⟨⟨c0, c1, c2, c3, c4, c5, c6⟩, ⟨d0, d1, d2⟩, ⟨e0, e1, e2⟩⟩ := HJ1.out.cells; obtain ⟨x0, x1, x2⟩ := ad3 HX1.out)
      | (go_at_call 8; refine (K2.out _ HJ1.out).mono ?_; rintro e w4 ⟨rfl, hb4⟩; have HJ2 := Aside0.mk ((HJ1.out.go hb4.out).go ((Below.refl _ w4).alloc (Nat.le_refl _) (.cells #[.int .i64 t', .int .i64 u', .int .i64 v'] 28))); have HX2 := Aside0.mk (blk_alloc (blk_below HX1.out hb4.out) (.cells #[.int .i64 t', .int .i64 u', .int .i64 v'] 28)); have HY2 := Aside0.mk (blk_new w4 (.cells #[.int .i64 t', .int .i64 u', .int .i64 v'] 28)); clear HJ1 hb4; obtain ⟨⟨c0, c1, c2, c3, c4, c5, c6⟩, ⟨d0, d1, d2⟩, ⟨e0, e1, e2⟩⟩ := HJ2.out.cells; obtain ⟨y0, y1, y2⟩ := ad3 HX2.out; obtain ⟨z0, z1, z2⟩ := ad3 HY2.out)
      | (go_at_call 9; refine (K3.out _ HJ2.out).mono ?_; rintro e w5 ⟨rfl, hb5⟩; have HJ3 := Aside0.mk ((HJ2.out.go hb5.out).go ((Below.refl _ w5).alloc (Nat.le_refl _) (.cells #[.int .i64 0, .int .i64 0, .int .i64 0] 28))); have HX3 := Aside0.mk (blk_alloc (blk_below HX2.out hb5.out) (.cells #[.int .i64 0, .int .i64 0, .int .i64 0] 28)); have HY3 := Aside0.mk (blk_alloc (blk_below HY2.out hb5.out) (.cells #[.int .i64 0, .int .i64 0, .int .i64 0] 28)); clear HJ2 hb5; obtain ⟨⟨c0, c1, c2, c3, c4, c5, c6⟩, ⟨d0, d1, d2⟩, ⟨e0, e1, e2⟩⟩ := HJ3.out.cells; obtain ⟨y0, y1, y2⟩ := ad3 HX3.out; obtain ⟨z0, z1, z2⟩ := ad3 HY3.out)
      | (go_at_call 10; refine (K0.out _ HJ3.out).mono ?_; rintro e w6 ⟨rfl, hb6⟩; have HJ4 := Aside0.mk (HJ3.out.go hb6.out); obtain ⟨⟨c0, c1, c2, c3, c4, c5, c6⟩, ⟨d0, d1, d2⟩, ⟨e0, e1, e2⟩⟩ := HJ4.out.cells; obtain ⟨y0, y1, y2⟩ := ad3 (blk_below HX3.out hb6.out); obtain ⟨z0, z1, z2⟩ := ad3 (blk_below HY3.out hb6.out); clear hb6))
    go_ret
    exact ⟨rfl, HJ4.out.below⟩
  · unfold cellV at K1 K2 K3
    go_enter Tryd.func4, Tryd.ntmps4
    go_wp2_with (first
      | (go_at_call 8; refine (K1.out _ HJ0.out).mono ?_; rintro e w2 ⟨rfl, hb2⟩; have HJ1 := Aside0.mk ((HJ0.out.go hb2.out).go ((Below.refl _ w2).alloc (Nat.le_refl _) (.cells #[.int .i64 s', .int .i64 r', .int .i64 q'] 28))); have HX1 := Aside0.mk (blk_new w2 (.cells #[.int .i64 s', .int .i64 r', .int .i64 q'] 28)); clear HJ0 hb2; obtain ⟨⟨c0, c1, c2, c3, c4, c5, c6⟩, ⟨d0, d1, d2⟩, ⟨e0, e1, e2⟩⟩ := HJ1.out.cells; obtain ⟨x0, x1, x2⟩ := ad3 HX1.out)
      | (go_at_call 8; refine (K2.out _ HJ1.out).mono ?_; rintro e w4 ⟨rfl, hb4⟩; have HJ2 := Aside0.mk ((HJ1.out.go hb4.out).go ((Below.refl _ w4).alloc (Nat.le_refl _) (.cells #[.int .i64 0, .int .i64 0, .int .i64 0] 28))); have HX2 := Aside0.mk (blk_alloc (blk_below HX1.out hb4.out) (.cells #[.int .i64 0, .int .i64 0, .int .i64 0] 28)); have HY2 := Aside0.mk (blk_new w4 (.cells #[.int .i64 0, .int .i64 0, .int .i64 0] 28)); clear HJ1 hb4; obtain ⟨⟨c0, c1, c2, c3, c4, c5, c6⟩, ⟨d0, d1, d2⟩, ⟨e0, e1, e2⟩⟩ := HJ2.out.cells; obtain ⟨y0, y1, y2⟩ := ad3 HX2.out; obtain ⟨z0, z1, z2⟩ := ad3 HY2.out)
      | (go_at_call 9; refine (K3.out _ HJ2.out).mono ?_; rintro e w5 ⟨rfl, hb5⟩; have HJ3 := Aside0.mk ((HJ2.out.go hb5.out).go ((Below.refl _ w5).alloc (Nat.le_refl _) (.cells #[.int .i64 s', .int .i64 r', .int .i64 q'] 28))); have HX3 := Aside0.mk (blk_alloc (blk_below HX2.out hb5.out) (.cells #[.int .i64 s', .int .i64 r', .int .i64 q'] 28)); have HY3 := Aside0.mk (blk_alloc (blk_below HY2.out hb5.out) (.cells #[.int .i64 s', .int .i64 r', .int .i64 q'] 28)); clear HJ2 hb5; obtain ⟨⟨c0, c1, c2, c3, c4, c5, c6⟩, ⟨d0, d1, d2⟩, ⟨e0, e1, e2⟩⟩ := HJ3.out.cells; obtain ⟨y0, y1, y2⟩ := ad3 HX3.out; obtain ⟨z0, z1, z2⟩ := ad3 HY3.out)
      | (go_at_call 10; refine (K0.out _ HJ3.out).mono ?_; rintro e w6 ⟨rfl, hb6⟩; have HJ4 := Aside0.mk (HJ3.out.go hb6.out); obtain ⟨⟨c0, c1, c2, c3, c4, c5, c6⟩, ⟨d0, d1, d2⟩, ⟨e0, e1, e2⟩⟩ := HJ4.out.cells; obtain ⟨y0, y1, y2⟩ := ad3 (blk_below HX3.out hb6.out); obtain ⟨z0, z1, z2⟩ := ad3 (blk_below HY3.out hb6.out); clear hb6))
    go_ret
    exact ⟨rfl, HJ4.out.below⟩
  · unfold cellV at K1 K2 K3
    obtain ⟨p1, p2, p3, p4, p5⟩ := HO.out _ _ rfl rfl
    simp only [] at p1 p2 p3 p4 p5
    subst p1
    have m1 := Aside0.mk (tri p2 p4)
    have m2 := Aside0.mk (tri p3 p5)
    clear p2 p3 p4 p5
    go_enter Tryd.func4, Tryd.ntmps4
    go_wp2_with (first
      | (go_at_call 8; refine (K1.out _ HJ0.out).mono ?_; rintro e w2 ⟨rfl, hb2⟩; have HJ1 := Aside0.mk ((HJ0.out.go hb2.out).go ((Below.refl _ w2).alloc (Nat.le_refl _) (.cells #[.int .i64 s', .int .i64 r', .int .i64 q'] 28))); have HX1 := Aside0.mk (blk_new w2 (.cells #[.int .i64 s', .int .i64 r', .int .i64 q'] 28)); clear HJ0 hb2; obtain ⟨⟨c0, c1, c2, c3, c4, c5, c6⟩, ⟨d0, d1, d2⟩, ⟨e0, e1, e2⟩⟩ := HJ1.out.cells; obtain ⟨x0, x1, x2⟩ := ad3 HX1.out)
      | (go_at_call 8; refine (K2.out _ HJ1.out).mono ?_; rintro e w4 ⟨rfl, hb4⟩; have HJ2 := Aside0.mk ((HJ1.out.go hb4.out).go ((Below.refl _ w4).alloc (Nat.le_refl _) (.cells #[.int .i64 s', .int .i64 u', .int .i64 v'] 28))); have HX2 := Aside0.mk (blk_alloc (blk_below HX1.out hb4.out) (.cells #[.int .i64 s', .int .i64 u', .int .i64 v'] 28)); have HY2 := Aside0.mk (blk_new w4 (.cells #[.int .i64 s', .int .i64 u', .int .i64 v'] 28)); clear HJ1 hb4; obtain ⟨⟨c0, c1, c2, c3, c4, c5, c6⟩, ⟨d0, d1, d2⟩, ⟨e0, e1, e2⟩⟩ := HJ2.out.cells; obtain ⟨y0, y1, y2⟩ := ad3 HX2.out; obtain ⟨z0, z1, z2⟩ := ad3 HY2.out)
      | (go_at_call 9; refine (K3.out _ HJ2.out).mono ?_; rintro e w5 ⟨rfl, hb5⟩; have HJ3 := Aside0.mk ((HJ2.out.go hb5.out).go ((Below.refl _ w5).alloc (Nat.le_refl _) (.cells #[.int .i64 s', .int .i64 r', .int .i64 q'] 28))); have HX3 := Aside0.mk (blk_alloc (blk_below HX2.out hb5.out) (.cells #[.int .i64 s', .int .i64 r', .int .i64 q'] 28)); have HY3 := Aside0.mk (blk_alloc (blk_below HY2.out hb5.out) (.cells #[.int .i64 s', .int .i64 r', .int .i64 q'] 28)); clear HJ2 hb5; obtain ⟨⟨c0, c1, c2, c3, c4, c5, c6⟩, ⟨d0, d1, d2⟩, ⟨e0, e1, e2⟩⟩ := HJ3.out.cells; obtain ⟨y0, y1, y2⟩ := ad3 HX3.out; obtain ⟨z0, z1, z2⟩ := ad3 HY3.out)
      | (go_at_call 10; refine (K0.out _ HJ3.out).mono ?_; rintro e w6 ⟨rfl, hb6⟩; have HJ4 := Aside0.mk (HJ3.out.go hb6.out); obtain ⟨⟨c0, c1, c2, c3, c4, c5, c6⟩, ⟨d0, d1, d2⟩, ⟨e0, e1, e2⟩⟩ := HJ4.out.cells; obtain ⟨y0, y1, y2⟩ := ad3 (blk_below HX3.out hb6.out); obtain ⟨z0, z1, z2⟩ := ad3 (blk_below HY3.out hb6.out); clear hb6))
    have m3 := m1.out
    have m4 := m2.out
    rcases m3 with ⟨g1, g2, g3, g4⟩ | ⟨g1, g2, g3, g4⟩ | ⟨g1, g2, g3, g4⟩ <;> rcases m4 with ⟨g5, g6, g7, g8⟩ | ⟨g5, g6, g7, g8⟩ | ⟨g5, g6, g7, g8⟩
    all_goals
      go_quiet (fail)
      go_wp2
      go_ret
      exact ⟨rfl, pw_below_drewN HJ4.out.below _⟩
end Go.Proofs.YtfkoiebnpgodmaaDoor.Hw
