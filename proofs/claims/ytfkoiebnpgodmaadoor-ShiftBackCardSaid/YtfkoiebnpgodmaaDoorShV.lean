import Derived.Test.YtfkoiebnpgodmaaDoorShO
/- Where a cell lies behind a shift of sheets: the program's Cell. -/
namespace Go.Proofs.YtfkoiebnpgodmaaDoor.Hw
open Go.RowKit Go.Proofs.YtfkoiebnpgodmaaDoorW.PrintWords Go.Proofs.YtfkoiebnpgodmaaDoorW.PrintLast Go.Proofs.YtfkoiebnpgodmaaDoorW.PrintMore Go.Proofs.YtfkoiebnpgodmaaDoor.PH Go.Proofs.YtfkoiebnpgodmaaDoor.CP
set_option linter.unusedVariables false
set_option linter.unusedSimpArgs false
set_option maxRecDepth 100000 in
set_option maxHeartbeats 16000000 in
theorem cell_sheet (A : Option Addr) (c : Nat) (l : List ByteArray) (k : Int) (sh : ByteArray) (a n : Int) (nm : ByteArray) (s r q : Int) (w : World) (hC : ChW w) (hr : Kd.C Kd.string w A l.length l) (hl : l.length ≤ 140737488351232) (hG : Small l) (h1 : sh.size ≤ 140737488351232) (h2 : nm.size ≤ 140737488351232)
    (ha : -9223372036854775808 ≤ a ∧ a ≤ 9223372036854775807) (hn : -9223372036854775808 ≤ n ∧ n ≤ 9223372036854775807) (hk : k = 5 ∨ k = 6 ∨ k = 7 ∨ k = 8) (v : Int) (b : Bool) (HO : ∀ w, Calls Tryd.prog 29 #[.int .i64 s, .int .i64 ((fnd l sh).getD 0 : Nat), shA k sh a n nm] w fun e w' => e = .returned (.tuple #[.int .i64 v, .bool b]) ∧ Below w.heap.size w w')
    (hb : chkI k a n l.length (fnd l sh) (fnd l nm) (nmOK nm) = 0) (b1 : 0 ≤ s) (b2 : s < l.length) (b3 : 0 ≤ r) (b4 : r < 1048576) (b5 : 0 ≤ q) (b6 : q < 1024) :
    Calls Tryd.prog 8 #[.slice A l.length c, shA k sh a n nm, .agg #[.int .i64 s, .int .i64 r, .int .i64 q]] w fun e w' => e = .returned (cellV (if b = true then some (v, r, q) else none)) ∧ Below w.heap.size w w' := by
  have HJ0 : Aside0 (CeJ w A l k sh a n nm s r q (((w.alloc (.cells (shC k sh a n nm) 24)).alloc (.cells #[.int .i64 s, .int .i64 r, .int .i64 q] 28)).alloc (.cells #[.int .i64 0, .int .i64 0, .int .i64 0] 28))) := ⟨CeJ.start hC hr⟩
  have HK := Aside0.mk (CeJ.on (w0 := w) (A := A) (l := l) (k := k) (sh := sh) (a := a) (n := n) (nm := nm) (s := s) (r := r) (q := q) fun w' hj => check_calls A c l k sh a n nm w' hj.tabs hj.row hl hG h1 h2 ha hn)
  have HF := Aside0.mk (CeJ.on (w0 := w) (k := k) (sh := sh) (a := a) (n := n) (nm := nm) (s := s) (r := r) (q := q) fun w' hj => find_calls A c l sh w' hj.row hl hG h1)
  have HO := Aside0.mk (CeJ.on (w0 := w) (A := A) (l := l) (k := k) (sh := sh) (a := a) (n := n) (nm := nm) (s := s) (r := r) (q := q) fun w' hj => HO w')
  have HL := Aside0.mk (CeJ.on (w0 := w) (A := A) (l := l) (k := k) (sh := sh) (a := a) (n := n) (nm := nm) (s := s) (r := r) (q := q) fun w' hj => lines_on k w')
  rw [hb] at HK
  clear hC hr hG hb
  generalize fnd l sh = o at *
  have t1 : decide (s < 0) = false := decide_eq_false (by omega)
  have t2 : decide (r < 0) = false := decide_eq_false (by omega)
  have t3 : decide (q < 0) = false := decide_eq_false (by omega)
  have t4 : decide (1048576 ≤ r) = false := decide_eq_false (by omega)
  have t5 : decide (1024 ≤ q) = false := decide_eq_false (by omega)
  have t6 : decide ((l.length : Int) ≤ s) = false := decide_eq_false (by omega)
  cases o <;> cases b <;> rcases hk with rfl | rfl | rfl | rfl
  all_goals
    unfold fndV at HF
    simp only [Option.getD_none, Option.getD_some] at HO
    go_enter Tryd.func8, Tryd.ntmps8
    go_wp2_with (first
          | (go_at_call 11; refine (HK.out _ (by assumption)).mono ?_; rintro e w2 ⟨rfl, hb2⟩; obtain ⟨⟨c0, c1, c2, c3, c4⟩, ⟨c5, c6, c7⟩, ⟨e5, e6, e7⟩, ⟨f0, f1, f2⟩, ⟨g0, g1, g2⟩⟩ := hb2.out.cells)
          | (go_at_call 28; refine (HL.out _ (by assumption)).mono ?_; rintro e w2 ⟨rfl, hb2⟩; obtain ⟨⟨c0, c1, c2, c3, c4⟩, ⟨c5, c6, c7⟩, ⟨e5, e6, e7⟩, ⟨f0, f1, f2⟩, ⟨g0, g1, g2⟩⟩ := hb2.out.cells)
          | (go_at_call 18; refine (HF.out _ (by assumption)).mono ?_; rintro e w2 ⟨rfl, hb2⟩; obtain ⟨⟨c0, c1, c2, c3, c4⟩, ⟨c5, c6, c7⟩, ⟨e5, e6, e7⟩, ⟨f0, f1, f2⟩, ⟨g0, g1, g2⟩⟩ := hb2.out.cells)
          | (go_at_call 29; refine (HO.out _ (by assumption)).mono ?_; rintro e w2 ⟨rfl, hb2⟩; obtain ⟨⟨c0, c1, c2, c3, c4⟩, ⟨c5, c6, c7⟩, ⟨e5, e6, e7⟩, ⟨f0, f1, f2⟩, ⟨g0, g1, g2⟩⟩ := hb2.out.cells))
    (try simp only [Exit.inBlock, Exit.then]); first | exact cell_end rfl rfl (put3 (CeJ.box3 (Aside0.out (by assumption)))) ⟨rfl, below3 (CeJ.below (Aside0.out (by assumption))) (by omega)⟩ | exact cell_end rfl rfl (put3 (blk_far (CeJ.box3 (Aside0.out (by assumption))) (by simp) _)) ⟨rfl, below3 ((CeJ.below (Aside0.out (by assumption))).setCell (by show _ ≤ _ + 1; omega) _) (by omega)⟩
end Go.Proofs.YtfkoiebnpgodmaaDoor.Hw
