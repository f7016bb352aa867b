import Derived.Test.YtfkoiebnpgodmaaDoorShL
import Derived.Test.YtfkoiebnpgodmaaDoorShM
/- Where a cell lies behind a shift, walked: the program's Cell and the document's. -/
namespace Go.Proofs.YtfkoiebnpgodmaaDoor.CP
/-- Where a row or column goes. -/
def oneI (k a n L r : Int) : Option Int :=
  if r < a then some r
  else if k = 1 ∨ k = 3 then (if r + n < L then some (r + n) else none)
  else if r < a + n then none else some (r - n)
/-- Where a cell goes, of a shift that may be. -/
def goI (k a n : Int) (i : Nat) (s r c : Int) : Option (Int × Int × Int) :=
  if k = 5 then some (if a ≤ s then s + 1 else s, r, c)
  else if k = 6 then (if s = i then none else some (if (i : Int) < s then s - 1 else s, r, c))
  else if k = 7 then some (if s = i then a else if (i : Int) < s ∧ s ≤ a then s - 1 else if s < i ∧ a ≤ s then s + 1 else s, r, c)
  else if k = 8 ∨ ¬ s = i then some (s, r, c)
  else if k ≤ 2 then (oneI k a n 1048576 r).map fun q => (s, q, c)
  else (oneI k a n 1024 c).map fun q => (s, r, q)
def cellI (k a n : Int) (len : Nat) (iS iN : Option Nat) (ok : Bool) (s r c : Int) : Option (Int × Int × Int) :=
  if chkI k a n len iS iN ok = 0 ∧ 0 ≤ s ∧ s < len ∧ 0 ≤ r ∧ r < 1048576 ∧ 0 ≤ c ∧ c < 1024 then goI k a n (iS.getD 0) s r c else none
end Go.Proofs.YtfkoiebnpgodmaaDoor.CP
namespace Go.Proofs.YtfkoiebnpgodmaaDoor.Hw
open Go.RowKit Go.Proofs.YtfkoiebnpgodmaaDoorW.PrintWords Go.Proofs.YtfkoiebnpgodmaaDoorW.PrintLast Go.Proofs.YtfkoiebnpgodmaaDoorW.PrintMore Go.Proofs.YtfkoiebnpgodmaaDoor.PH Go.Proofs.YtfkoiebnpgodmaaDoor.CP
set_option linter.unusedVariables false
set_option linter.unusedSimpArgs false
theorem lines_on (k : Int) (w : World) : Calls Tryd.prog 28 #[.int .i64 k] w fun e w' => e = .returned (.bool (decide (1 ≤ k ∧ k ≤ 4))) ∧ Below w.heap.size w w' :=
  (shift_lines.calls k _ w (by unfold shift_lines.f; split <;> simp <;> omega)).mono fun e w' h => ⟨h.1, by obtain ⟨q, rfl⟩ := h.2.out; exact pw_below_drewN (Below.refl _ _) _⟩
/-- Behind Cell's begin: the shift and the cell lie boxed. -/
structure CeJ (w0 : World) (A : Option Addr) (l : List ByteArray) (k : Int) (sh : ByteArray) (a n : Int) (nm : ByteArray) (s r q : Int) (w : World) : Prop where
  below : Below w0.heap.size w0 w
  box : w.heap[w0.heap.size]? = some (.cells (shC k sh a n nm) 24 (0, 0))
  box2 : w.heap[w0.heap.size + 1]? = some (.cells #[.int .i64 s, .int .i64 r, .int .i64 q] 28 (0, 0))
  box3 : w.heap[w0.heap.size + 1 + 1]? = some (.cells #[.int .i64 0, .int .i64 0, .int .i64 0] 28 (0, 0))
  row : Kd.C Kd.string w A l.length l
  tabs : ChW w
section
variable {w0 w w' : World} {A : Option Addr} {l : List ByteArray} {k : Int} {sh : ByteArray} {a n : Int} {nm : ByteArray} {s r q : Int}
theorem CeJ.go (h : CeJ w0 A l k sh a n nm s r q w) (hb : Below w.heap.size w w') : CeJ w0 A l k sh a n nm s r q w' :=
  ⟨h.below.trans (hb.mono h.below.size), (hb.block _ (blk_lt h.box)).trans h.box, (hb.block _ (blk_lt h.box2)).trans h.box2, (hb.block _ (blk_lt h.box3)).trans h.box3, Kd.C_below h.row hb, h.tabs.go hb⟩
theorem CeJ.cells (h : CeJ w0 A l k sh a n nm s r q w) : (w.cell? ⟨w0.heap.size, 0, none⟩ = some (.int .i64 k) ∧ w.cell? ⟨w0.heap.size, 1, none⟩ = some (.string sh) ∧ w.cell? ⟨w0.heap.size, 2, none⟩ = some (.int .i64 a) ∧ w.cell? ⟨w0.heap.size, 3, none⟩ = some (.int .i64 n) ∧ w.cell? ⟨w0.heap.size, 4, none⟩ = some (.string nm)) ∧
    (w.cell? ⟨w0.heap.size + 1, 0, none⟩ = some (.int .i64 s) ∧ w.cell? ⟨w0.heap.size + 1, 1, none⟩ = some (.int .i64 r) ∧ w.cell? ⟨w0.heap.size + 1, 2, none⟩ = some (.int .i64 q)) ∧ (w.cell? ⟨w0.heap.size + 1 + 1, 0, none⟩ = some (.int .i64 0) ∧ w.cell? ⟨w0.heap.size + 1 + 1, 1, none⟩ = some (.int .i64 0) ∧ w.cell? ⟨w0.heap.size + 1 + 1, 2, none⟩ = some (.int .i64 0)) ∧ (w.frozen? ⟨w0.heap.size + 1, 0, none⟩ = false ∧ w.frozen? ⟨w0.heap.size + 1, 1, none⟩ = false ∧ w.frozen? ⟨w0.heap.size + 1, 2, none⟩ = false) ∧ (w.frozen? ⟨w0.heap.size + 1 + 1, 0, none⟩ = false ∧ w.frozen? ⟨w0.heap.size + 1 + 1, 1, none⟩ = false ∧ w.frozen? ⟨w0.heap.size + 1 + 1, 2, none⟩ = false) :=
  ⟨⟨(blk_cell h.box 0).trans rfl, (blk_cell h.box 1).trans rfl, (blk_cell h.box 2).trans rfl, (blk_cell h.box 3).trans rfl, (blk_cell h.box 4).trans rfl⟩, ⟨(blk_cell h.box2 0).trans rfl, (blk_cell h.box2 1).trans rfl, (blk_cell h.box2 2).trans rfl⟩, ⟨(blk_cell h.box3 0).trans rfl, (blk_cell h.box3 1).trans rfl, (blk_cell h.box3 2).trans rfl⟩, ⟨blk_frozen h.box2 0, blk_frozen h.box2 1, blk_frozen h.box2 2⟩, ⟨blk_frozen h.box3 0, blk_frozen h.box3 1, blk_frozen h.box3 2⟩⟩
theorem CeJ.start (hC : ChW w0) (hr : Kd.C Kd.string w0 A l.length l) : CeJ w0 A l k sh a n nm s r q (((w0.alloc (.cells (shC k sh a n nm) 24)).alloc (.cells #[.int .i64 s, .int .i64 r, .int .i64 q] 28)).alloc (.cells #[.int .i64 0, .int .i64 0, .int .i64 0] 28)) :=
  have z : ∀ (w : World) (o : Obj), (w.alloc o).heap.size = w.heap.size + 1 := fun w o => Array.size_push ..
  have h1 := heap_alloc_new w0 (.cells (shC k sh a n nm) 24)
  have h2 := heap_alloc_new (w0.alloc (.cells (shC k sh a n nm) 24)) (.cells #[.int .i64 s, .int .i64 r, .int .i64 q] 28)
  have h3 := heap_alloc_new ((w0.alloc (.cells (shC k sh a n nm) 24)).alloc (.cells #[.int .i64 s, .int .i64 r, .int .i64 q] 28)) (.cells #[.int .i64 0, .int .i64 0, .int .i64 0] 28)
  have b := ((Below.refl w0.heap.size w0).alloc (Nat.le_refl _) (.cells (shC k sh a n nm) 24)).alloc (by rw [z]; omega) (.cells #[.int .i64 s, .int .i64 r, .int .i64 q] 28)
  have b := b.alloc (by rw [z, z]; omega) (.cells #[.int .i64 0, .int .i64 0, .int .i64 0] 28)
  ⟨b, blk_alloc (blk_alloc h1 _) _, by rw [z] at h2; exact blk_alloc h2 _, by rw [z, z] at h3; exact h3, Kd.C_below hr b, hC.go b⟩
/-- A contract, taken up where shift and cell lie boxed. -/
theorem CeJ.on {f : FuncId} {args : Array Value} {v : Ending} (h : ∀ w, CeJ w0 A l k sh a n nm s r q w → Calls Tryd.prog f args w fun e w' => e = v ∧ Below w.heap.size w w') :
    ∀ w, Aside0 (CeJ w0 A l k sh a n nm s r q w) → Calls Tryd.prog f args w fun e w' => e = v ∧ Aside0 (CeJ w0 A l k sh a n nm s r q w') := fun w hj =>
  (h w hj.out).mono fun e w' ⟨h1, h2⟩ => ⟨h1, ⟨hj.out.go h2⟩⟩
end
/-- A cell's answer as a value. -/
def cellV : Option (Int × Int × Int) → Value
  | none => .tuple #[.agg #[.int .i64 0, .int .i64 0, .int .i64 0], .bool false]
  | some (s, r, q) => .tuple #[.agg #[.int .i64 s, .int .i64 r, .int .i64 q], .bool true]
theorem ret_cell {x : Value} {o : Option (Int × Int × Int)} (h : cellV o = x) : Ending.returned x = .returned (cellV o) := by rw [h]
theorem cell_end {R : Ending → World → Prop} {tmps : Array Value} {W : World} {g : Nat} {x y z : Value} {b : Bool} (hp : tmps.getD 6 undef = .pointer (some ⟨g, 0, none⟩)) (hb : tmps.getD 7 undef = .bool b) (hg : W.heap[g]? = some (.cells #[x, y, z] 28 (0, 0)))
    (hR : R (.returned (.tuple #[.agg #[x, y, z], .bool b])) W) : bodyPost Tryd.prog Tryd.f8 R .ret { tmps := tmps, defers := [] } W := by
  refine bodyPost_ret (v := .tuple #[.agg #[x, y, z], .bool b]) ?_ rfl hR
  have := results_ct (P := Tryd.prog) (fn := Tryd.f8) (p := 6) (u := 7) (ty := 28) (by kernel_rfl) tmps W g 28 #[x, y, z] (0, 0) _ hp hg Tryd.underlying28 rfl (by kernel_rfl)
  rw [hb] at this
  exact this
theorem put3 {W : World} {g : Nat} {t : TypeId} {a b c x y z : Value} (h : W.heap[g]? = some (.cells #[a, b, c] t (0, 0))) : (((W.setCell ⟨g, 0, none⟩ x).setCell ⟨g, 1, none⟩ y).setCell ⟨g, 2, none⟩ z).heap[g]? = some (.cells #[x, y, z] t (0, 0)) :=
  blk_put (blk_put (blk_put h 0 _ rfl) 1 _ rfl) 2 _ rfl
theorem below3 {B : Nat} {w W : World} {g : Nat} {x y z : Value} (h : Below B w W) (hg : B ≤ g) : Below B w (((W.setCell ⟨g, 0, none⟩ x).setCell ⟨g, 1, none⟩ y).setCell ⟨g, 2, none⟩ z) :=
  ((h.setCell hg _).setCell hg _).setCell hg _
set_option maxRecDepth 100000 in
set_option maxHeartbeats 16000000 in
theorem cell_line (A : Option Addr) (c : Nat) (l : List ByteArray) (k : Int) (sh : ByteArray) (a n : Int) (nm : ByteArray) (s r q : Int) (w : World) (hC : ChW w) (hr : Kd.C Kd.string w A l.length l) (hl : l.length ≤ 140737488351232) (hG : Small l) (h1 : sh.size ≤ 140737488351232) (h2 : nm.size ≤ 140737488351232)
    (ha : -9223372036854775808 ≤ a ∧ a ≤ 9223372036854775807) (hn : -9223372036854775808 ≤ n ∧ n ≤ 9223372036854775807) (i : Nat) (hi : fnd l sh = some i) (hk : k = 1 ∨ k = 2 ∨ k = 3 ∨ k = 4) (v : Int) (b : Bool) (HO : ∀ w, Calls Tryd.prog 30 #[.int .i64 (if k ≤ 2 then r else q), shA k sh a n nm] w fun e w' => e = .returned (.tuple #[.int .i64 v, .bool b]) ∧ Below w.heap.size w w')
    (hb : chkI k a n l.length (fnd l sh) (fnd l nm) (nmOK nm) = 0) (b1 : 0 ≤ s) (b2 : s < l.length) (b3 : 0 ≤ r) (b4 : r < 1048576) (b5 : 0 ≤ q) (b6 : q < 1024) :
    Calls Tryd.prog 8 #[.slice A l.length c, shA k sh a n nm, .agg #[.int .i64 s, .int .i64 r, .int .i64 q]] w fun e w' => e = .returned (cellV (if s = i then (if b = true then (if k ≤ 2 then some (s, v, q) else some (s, r, v)) else none) else some (s, r, q))) ∧ Below w.heap.size w w' := by
  have HJ0 : Aside0 (CeJ w A l k sh a n nm s r q (((w.alloc (.cells (shC k sh a n nm) 24)).alloc (.cells #[.int .i64 s, .int .i64 r, .int .i64 q] 28)).alloc (.cells #[.int .i64 0, .int .i64 0, .int .i64 0] 28))) := ⟨CeJ.start hC hr⟩
  have HK := Aside0.mk (CeJ.on (w0 := w) (A := A) (l := l) (k := k) (sh := sh) (a := a) (n := n) (nm := nm) (s := s) (r := r) (q := q) fun w' hj => check_calls A c l k sh a n nm w' hj.tabs hj.row hl hG h1 h2 ha hn)
  have HF := Aside0.mk (CeJ.on (w0 := w) (k := k) (sh := sh) (a := a) (n := n) (nm := nm) (s := s) (r := r) (q := q) fun w' hj => find_calls A c l sh w' hj.row hl hG h1)
  have HO := Aside0.mk (CeJ.on (w0 := w) (A := A) (l := l) (k := k) (sh := sh) (a := a) (n := n) (nm := nm) (s := s) (r := r) (q := q) fun w' hj => HO w')
  have HL := Aside0.mk (CeJ.on (w0 := w) (A := A) (l := l) (k := k) (sh := sh) (a := a) (n := n) (nm := nm) (s := s) (r := r) (q := q) fun w' hj => lines_on k w')
  rw [hb] at HK
  rw [hi] at HF
  unfold fndV at HF
  clear hC hr hG hi hb
  have t1 : decide (s < 0) = false := decide_eq_false (by omega)
  have t2 : decide (r < 0) = false := decide_eq_false (by omega)
  have t3 : decide (q < 0) = false := decide_eq_false (by omega)
  have t4 : decide (1048576 ≤ r) = false := decide_eq_false (by omega)
  have t5 : decide (1024 ≤ q) = false := decide_eq_false (by omega)
  have t6 : decide ((l.length : Int) ≤ s) = false := decide_eq_false (by omega)
  by_cases hs : s = i
  · have t7 : (s == (i : Int)) = true := by simpa using hs
    have t8 : (s != (i : Int)) = false := by simpa using hs
    rw [if_pos hs]
    subst hs
    cases b <;> rcases hk with rfl | rfl | rfl | rfl
    all_goals
      go_enter Tryd.func8, Tryd.ntmps8
      go_wp2_with (first
          | (go_at_call 11; refine (HK.out _ (by assumption)).mono ?_; rintro e w2 ⟨rfl, hb2⟩; obtain ⟨⟨c0, c1, c2, c3, c4⟩, ⟨c5, c6, c7⟩, ⟨e5, e6, e7⟩, ⟨f0, f1, f2⟩, ⟨g0, g1, g2⟩⟩ := hb2.out.cells)
          | (go_at_call 28; refine (HL.out _ (by assumption)).mono ?_; rintro e w2 ⟨rfl, hb2⟩; obtain ⟨⟨c0, c1, c2, c3, c4⟩, ⟨c5, c6, c7⟩, ⟨e5, e6, e7⟩, ⟨f0, f1, f2⟩, ⟨g0, g1, g2⟩⟩ := hb2.out.cells)
          | (go_at_call 18; refine (HF.out _ (by assumption)).mono ?_; rintro e w2 ⟨rfl, hb2⟩; obtain ⟨⟨c0, c1, c2, c3, c4⟩, ⟨c5, c6, c7⟩, ⟨e5, e6, e7⟩, ⟨f0, f1, f2⟩, ⟨g0, g1, g2⟩⟩ := hb2.out.cells)
          | (go_at_call 30; refine (HO.out _ (by assumption)).mono ?_; rintro e w2 ⟨rfl, hb2⟩; obtain ⟨⟨c0, c1, c2, c3, c4⟩, ⟨c5, c6, c7⟩, ⟨e5, e6, e7⟩, ⟨f0, f1, f2⟩, ⟨g0, g1, g2⟩⟩ := hb2.out.cells))
      (try simp only [Exit.inBlock, Exit.then]); first | exact cell_end rfl rfl (put3 (CeJ.box3 (Aside0.out (by assumption)))) ⟨rfl, below3 (CeJ.below (Aside0.out (by assumption))) (by omega)⟩ | exact cell_end rfl rfl (put3 (blk_far (CeJ.box3 (Aside0.out (by assumption))) (by simp) _)) ⟨rfl, below3 ((CeJ.below (Aside0.out (by assumption))).setCell (by show _ ≤ _ + 1; omega) _) (by omega)⟩
  · have t7 : (s == (i : Int)) = false := by simpa using hs
    have t8 : (s != (i : Int)) = true := by simpa using hs
    rw [if_neg hs]
    rcases hk with rfl | rfl | rfl | rfl
    all_goals
      go_enter Tryd.func8, Tryd.ntmps8
      go_wp2_with (first
          | (go_at_call 11; refine (HK.out _ (by assumption)).mono ?_; rintro e w2 ⟨rfl, hb2⟩; obtain ⟨⟨c0, c1, c2, c3, c4⟩, ⟨c5, c6, c7⟩, ⟨e5, e6, e7⟩, ⟨f0, f1, f2⟩, ⟨g0, g1, g2⟩⟩ := hb2.out.cells)
          | (go_at_call 28; refine (HL.out _ (by assumption)).mono ?_; rintro e w2 ⟨rfl, hb2⟩; obtain ⟨⟨c0, c1, c2, c3, c4⟩, ⟨c5, c6, c7⟩, ⟨e5, e6, e7⟩, ⟨f0, f1, f2⟩, ⟨g0, g1, g2⟩⟩ := hb2.out.cells)
          | (go_at_call 18; refine (HF.out _ (by assumption)).mono ?_; rintro e w2 ⟨rfl, hb2⟩; obtain ⟨⟨c0, c1, c2, c3, c4⟩, ⟨c5, c6, c7⟩, ⟨e5, e6, e7⟩, ⟨f0, f1, f2⟩, ⟨g0, g1, g2⟩⟩ := hb2.out.cells)
          | (go_at_call 30; refine (HO.out _ (by assumption)).mono ?_; rintro e w2 ⟨rfl, hb2⟩; obtain ⟨⟨c0, c1, c2, c3, c4⟩, ⟨c5, c6, c7⟩, ⟨e5, e6, e7⟩, ⟨f0, f1, f2⟩, ⟨g0, g1, g2⟩⟩ := hb2.out.cells))
      (try simp only [Exit.inBlock, Exit.then]); first | exact cell_end rfl rfl (put3 (CeJ.box3 (Aside0.out (by assumption)))) ⟨rfl, below3 (CeJ.below (Aside0.out (by assumption))) (by omega)⟩ | exact cell_end rfl rfl (put3 (blk_far (CeJ.box3 (Aside0.out (by assumption))) (by simp) _)) ⟨rfl, below3 ((CeJ.below (Aside0.out (by assumption))).setCell (by show _ ≤ _ + 1; omega) _) (by omega)⟩
end Go.Proofs.YtfkoiebnpgodmaaDoor.Hw
