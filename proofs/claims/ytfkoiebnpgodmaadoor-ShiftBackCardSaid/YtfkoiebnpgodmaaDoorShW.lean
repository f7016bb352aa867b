import Derived.Test.YtfkoiebnpgodmaaDoorShO
/- Where a cell lies behind a shift of rows: the document's Cell. -/
namespace Go.Proofs.YtfkoiebnpgodmaaDoor.Hw
open Go.RowKit Go.Proofs.YtfkoiebnpgodmaaDoorW.PrintWords Go.Proofs.YtfkoiebnpgodmaaDoorW.PrintLast Go.Proofs.YtfkoiebnpgodmaaDoorW.PrintMore Go.Proofs.YtfkoiebnpgodmaaDoor.PH Go.Proofs.YtfkoiebnpgodmaaDoor.CP
set_option linter.unusedVariables false
set_option linter.unusedSimpArgs false
theorem rcell_end {R : Ending → World → Prop} {tmps : Array Value} {W : World} {g : Nat} {x y z : Value} {b : Bool} (hp : tmps.getD 6 undef = .pointer (some ⟨g, 0, none⟩)) (hb : tmps.getD 7 undef = .bool b) (hg : W.heap[g]? = some (.cells #[x, y, z] 28 (0, 0)))
    (hR : R (.returned (.tuple #[.agg #[x, y, z], .bool b])) W) : bodyPost Tryd.prog Tryd.f9 R .ret { tmps := tmps, defers := [] } W := by
  refine bodyPost_ret (v := .tuple #[.agg #[x, y, z], .bool b]) ?_ rfl hR
  have := results_ct (P := Tryd.prog) (fn := Tryd.f9) (p := 6) (u := 7) (ty := 28) (by kernel_rfl) tmps W g 28 #[x, y, z] (0, 0) _ hp hg Tryd.underlying28 rfl (by kernel_rfl)
  rw [hb] at this
  exact this
set_option maxRecDepth 100000 in
set_option maxHeartbeats 16000000 in
theorem rcell_line (A : Option Addr) (c : Nat) (l : List ByteArray) (k : Int) (sh : ByteArray) (a n : Int) (nm : ByteArray) (s r q : Int) (w : World) (hC : ChW w) (hr : Kd.C Kd.string w A l.length l) (hl : l.length ≤ 140737488351232) (hG : Small l) (h1 : sh.size ≤ 140737488351232) (h2 : nm.size ≤ 140737488351232)
    (ha : -9223372036854775808 ≤ a ∧ a ≤ 9223372036854775807) (hn : -9223372036854775808 ≤ n ∧ n ≤ 9223372036854775807) (i : Nat) (hi : fnd l sh = some i) (hk : k = 1 ∨ k = 2 ∨ k = 3 ∨ k = 4) (v : Int) (b : Bool) (HO : ∀ w, Calls Tryd.prog 32 #[.int .i64 (if k ≤ 2 then r else q), .int .i64 a, .int .i64 n, .int .i64 (if k ≤ 2 then 1048576 else 1024), .bool (decide (k = 1 ∨ k = 3))] w fun e w' => e = .returned (.tuple #[.int .i64 v, .bool b]) ∧ Below w.heap.size w w')
    (hb : chkI k a n l.length (fnd l sh) (fnd l nm) (nmOK nm) = 0) (b1 : 0 ≤ s) (b2 : s < l.length) (b3 : 0 ≤ r) (b4 : r < 1048576) (b5 : 0 ≤ q) (b6 : q < 1024) :
    Calls Tryd.prog 9 #[.slice A l.length c, shA k sh a n nm, .agg #[.int .i64 s, .int .i64 r, .int .i64 q]] w fun e w' => e = .returned (cellV (if s = i then (if b = true then (if k ≤ 2 then some (s, v, q) else some (s, r, v)) else none) else some (s, r, q))) ∧ Below w.heap.size w w' := by
  have HJ0 : Aside0 (CeJ w A l k sh a n nm s r q (((w.alloc (.cells (shC k sh a n nm) 24)).alloc (.cells #[.int .i64 s, .int .i64 r, .int .i64 q] 28)).alloc (.cells #[.int .i64 0, .int .i64 0, .int .i64 0] 28))) := ⟨CeJ.start hC hr⟩
  have HK := Aside0.mk (CeJ.on (w0 := w) (A := A) (l := l) (k := k) (sh := sh) (a := a) (n := n) (nm := nm) (s := s) (r := r) (q := q) fun w' hj => rcheck_calls A c l k sh a n nm w' hj.tabs hj.row hl hG h1 h2 ha hn)
  have HF := Aside0.mk (CeJ.on (w0 := w) (k := k) (sh := sh) (a := a) (n := n) (nm := nm) (s := s) (r := r) (q := q) fun w' hj => rfind_calls A c l sh w' hj.row hl hG h1)
  have HO := Aside0.mk (CeJ.on (w0 := w) (A := A) (l := l) (k := k) (sh := sh) (a := a) (n := n) (nm := nm) (s := s) (r := r) (q := q) fun w' hj => HO w')
  rw [hb] at HK
  rw [hi] at HF
  unfold fndV at HF
  clear hC hr hG hi hb
  have t1 : decide (0 ≤ s) = true := decide_eq_true (by omega)
  have t2 : decide (0 ≤ r) = true := decide_eq_true (by omega)
  have t3 : decide (0 ≤ q) = true := decide_eq_true (by omega)
  have t4 : decide (r < 1048576) = true := decide_eq_true (by omega)
  have t5 : decide (q < 1024) = true := decide_eq_true (by omega)
  have t6 : decide (s < (l.length : Int)) = true := decide_eq_true (by omega)
  by_cases hs : s = i
  · have t7 : (s == (i : Int)) = true := by simpa using hs
    have t8 : (s != (i : Int)) = false := by simpa using hs
    rw [if_pos hs]
    subst hs
    cases b <;> rcases hk with rfl | rfl | rfl | rfl
    all_goals
      go_enter Tryd.func9, Tryd.ntmps9
      go_wp2_with (first
          | (go_at_call 12; refine (HK.out _ (by assumption)).mono ?_; rintro e w2 ⟨rfl, hb2⟩; obtain ⟨⟨c0, c1, c2, c3, c4⟩, ⟨c5, c6, c7⟩, ⟨e5, e6, e7⟩, ⟨f0, f1, f2⟩, ⟨g0, g1, g2⟩⟩ := hb2.out.cells)
          | (go_at_call 19; refine (HF.out _ (by assumption)).mono ?_; rintro e w2 ⟨rfl, hb2⟩; obtain ⟨⟨c0, c1, c2, c3, c4⟩, ⟨c5, c6, c7⟩, ⟨e5, e6, e7⟩, ⟨f0, f1, f2⟩, ⟨g0, g1, g2⟩⟩ := hb2.out.cells)
          | (go_at_call 32; refine (HO.out _ (by assumption)).mono ?_; rintro e w2 ⟨rfl, hb2⟩; obtain ⟨⟨c0, c1, c2, c3, c4⟩, ⟨c5, c6, c7⟩, ⟨e5, e6, e7⟩, ⟨f0, f1, f2⟩, ⟨g0, g1, g2⟩⟩ := hb2.out.cells))
      (try simp only [Exit.inBlock, Exit.then]); first | exact rcell_end rfl rfl (put3 (CeJ.box3 (Aside0.out (by assumption)))) ⟨rfl, below3 (CeJ.below (Aside0.out (by assumption))) (by omega)⟩ | exact rcell_end rfl rfl (put3 (blk_far (CeJ.box3 (Aside0.out (by assumption))) (by simp) _)) ⟨rfl, below3 ((CeJ.below (Aside0.out (by assumption))).setCell (by show _ ≤ _ + 1; omega) _) (by omega)⟩
  · have t7 : (s == (i : Int)) = false := by simpa using hs
    have t8 : (s != (i : Int)) = true := by simpa using hs
    rw [if_neg hs]
    rcases hk with rfl | rfl | rfl | rfl
    all_goals
      go_enter Tryd.func9, Tryd.ntmps9
      go_wp2_with (first
          | (go_at_call 12; refine (HK.out _ (by assumption)).mono ?_; rintro e w2 ⟨rfl, hb2⟩; obtain ⟨⟨c0, c1, c2, c3, c4⟩, ⟨c5, c6, c7⟩, ⟨e5, e6, e7⟩, ⟨f0, f1, f2⟩, ⟨g0, g1, g2⟩⟩ := hb2.out.cells)
          | (go_at_call 19; refine (HF.out _ (by assumption)).mono ?_; rintro e w2 ⟨rfl, hb2⟩; obtain ⟨⟨c0, c1, c2, c3, c4⟩, ⟨c5, c6, c7⟩, ⟨e5, e6, e7⟩, ⟨f0, f1, f2⟩, ⟨g0, g1, g2⟩⟩ := hb2.out.cells)
          | (go_at_call 32; refine (HO.out _ (by assumption)).mono ?_; rintro e w2 ⟨rfl, hb2⟩; obtain ⟨⟨c0, c1, c2, c3, c4⟩, ⟨c5, c6, c7⟩, ⟨e5, e6, e7⟩, ⟨f0, f1, f2⟩, ⟨g0, g1, g2⟩⟩ := hb2.out.cells))
      (try simp only [Exit.inBlock, Exit.then]); first | exact rcell_end rfl rfl (put3 (CeJ.box3 (Aside0.out (by assumption)))) ⟨rfl, below3 (CeJ.below (Aside0.out (by assumption))) (by omega)⟩ | exact rcell_end rfl rfl (put3 (blk_far (CeJ.box3 (Aside0.out (by assumption))) (by simp) _)) ⟨rfl, below3 ((CeJ.below (Aside0.out (by assumption))).setCell (by show _ ≤ _ + 1; omega) _) (by omega)⟩
end Go.Proofs.YtfkoiebnpgodmaaDoor.Hw
