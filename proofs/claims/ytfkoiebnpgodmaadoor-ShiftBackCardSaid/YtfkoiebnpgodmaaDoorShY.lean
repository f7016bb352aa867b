import Derived.Test.YtfkoiebnpgodmaaDoorShW
/- Where a cell lies behind a shift of sheets, and where none does: the document's Cell. -/
namespace Go.Proofs.YtfkoiebnpgodmaaDoor.Hw
open Go.RowKit Go.Proofs.YtfkoiebnpgodmaaDoorW.PrintWords Go.Proofs.YtfkoiebnpgodmaaDoorW.PrintLast Go.Proofs.YtfkoiebnpgodmaaDoorW.PrintMore Go.Proofs.YtfkoiebnpgodmaaDoor.PH Go.Proofs.YtfkoiebnpgodmaaDoor.CP
set_option linter.unusedVariables false
set_option linter.unusedSimpArgs false
set_option maxRecDepth 100000 in
set_option maxHeartbeats 16000000 in
theorem rcell_sheet (A : Option Addr) (c : Nat) (l : List ByteArray) (k : Int) (sh : ByteArray) (a n : Int) (nm : ByteArray) (s r q : Int) (w : World) (hC : ChW w) (hr : Kd.C Kd.string w A l.length l) (hl : l.length ≤ 140737488351232) (hG : Small l) (h1 : sh.size ≤ 140737488351232) (h2 : nm.size ≤ 140737488351232)
    (ha : -9223372036854775808 ≤ a ∧ a ≤ 9223372036854775807) (hn : -9223372036854775808 ≤ n ∧ n ≤ 9223372036854775807) (hk : k = 5 ∨ k = 6 ∨ k = 7 ∨ k = 8) (p v : Int) (hp : p = ((fnd l sh).getD 0 : Nat)) (HO : ∀ w, Calls Tryd.prog 31 #[.int .i64 s, .int .i64 p, .int .i64 a] w fun e w' => e = .returned (.int .i64 v) ∧ Below w.heap.size w w')
    (hb : chkI k a n l.length (fnd l sh) (fnd l nm) (nmOK nm) = 0) (b1 : 0 ≤ s) (b2 : s < l.length) (b3 : 0 ≤ r) (b4 : r < 1048576) (b5 : 0 ≤ q) (b6 : q < 1024) :
    Calls Tryd.prog 9 #[.slice A l.length c, shA k sh a n nm, .agg #[.int .i64 s, .int .i64 r, .int .i64 q]] w fun e w' => e = .returned (cellV (if k = 5 then some (if a ≤ s then s + 1 else s, r, q) else if k = 6 then (if s = p then none else some (if p < s then s - 1 else s, r, q)) else if k = 7 then some (v, r, q) else some (s, r, q))) ∧ Below w.heap.size w w' := by
  have HJ0 : Aside0 (CeJ w A l k sh a n nm s r q (((w.alloc (.cells (shC k sh a n nm) 24)).alloc (.cells #[.int .i64 s, .int .i64 r, .int .i64 q] 28)).alloc (.cells #[.int .i64 0, .int .i64 0, .int .i64 0] 28))) := ⟨CeJ.start hC hr⟩
  have HK := Aside0.mk (CeJ.on (w0 := w) (A := A) (l := l) (k := k) (sh := sh) (a := a) (n := n) (nm := nm) (s := s) (r := r) (q := q) fun w' hj => rcheck_calls A c l k sh a n nm w' hj.tabs hj.row hl hG h1 h2 ha hn)
  have HF := Aside0.mk (CeJ.on (w0 := w) (k := k) (sh := sh) (a := a) (n := n) (nm := nm) (s := s) (r := r) (q := q) fun w' hj => rfind_calls A c l sh w' hj.row hl hG h1)
  have HO := Aside0.mk (CeJ.on (w0 := w) (A := A) (l := l) (k := k) (sh := sh) (a := a) (n := n) (nm := nm) (s := s) (r := r) (q := q) fun w' hj => HO w')
  rw [hb] at HK
  have hf : fndV (fnd l sh) = .tuple #[.int .i64 p, .bool (fnd l sh).isSome] := by rw [hp]; cases fnd l sh <;> rfl
  rw [hf] at HF
  generalize (fnd l sh).isSome = o at *
  clear hC hr hG hb hf hp
  have t1 : decide (0 ≤ s) = true := decide_eq_true (by omega)
  have t2 : decide (0 ≤ r) = true := decide_eq_true (by omega)
  have t3 : decide (0 ≤ q) = true := decide_eq_true (by omega)
  have t4 : decide (r < 1048576) = true := decide_eq_true (by omega)
  have t5 : decide (q < 1024) = true := decide_eq_true (by omega)
  have t6 : decide (s < (l.length : Int)) = true := decide_eq_true (by omega)
  have w1 : IntKind.i64.wrap (s + 1) = s + 1 := IntWalk.i64_in _ (by omega)
  have w2 : IntKind.i64.wrap (s - 1) = s - 1 := IntWalk.i64_in _ (by omega)
  rcases hk with rfl | rfl | rfl | rfl
  · rw [if_pos rfl]
    rcases Int.lt_or_le s a with g | g
    · rw [if_neg (by omega)]
      have d1 : decide (a ≤ s) = false := decide_eq_false (by omega)
      clear g
      go_enter Tryd.func9, Tryd.ntmps9
      go_wp2_with (first
          | (go_at_call 12; refine (HK.out _ (by assumption)).mono ?_; rintro e w2 ⟨rfl, hb2⟩; obtain ⟨⟨c0, c1, c2, c3, c4⟩, ⟨c5, c6, c7⟩, ⟨e5, e6, e7⟩, ⟨f0, f1, f2⟩, ⟨g0, g1, g2⟩⟩ := hb2.out.cells)
          | (go_at_call 19; refine (HF.out _ (by assumption)).mono ?_; rintro e w2 ⟨rfl, hb2⟩; obtain ⟨⟨c0, c1, c2, c3, c4⟩, ⟨c5, c6, c7⟩, ⟨e5, e6, e7⟩, ⟨f0, f1, f2⟩, ⟨g0, g1, g2⟩⟩ := hb2.out.cells)
          | (go_at_call 31; refine (HO.out _ (by assumption)).mono ?_; rintro e w2 ⟨rfl, hb2⟩; obtain ⟨⟨c0, c1, c2, c3, c4⟩, ⟨c5, c6, c7⟩, ⟨e5, e6, e7⟩, ⟨f0, f1, f2⟩, ⟨g0, g1, g2⟩⟩ := hb2.out.cells))
      (try simp only [Exit.inBlock, Exit.then]); first | exact rcell_end rfl rfl (put3 (CeJ.box3 (Aside0.out (by assumption)))) ⟨rfl, below3 (CeJ.below (Aside0.out (by assumption))) (by omega)⟩ | exact rcell_end rfl rfl (put3 (blk_far (CeJ.box3 (Aside0.out (by assumption))) (by simp) _)) ⟨rfl, below3 ((CeJ.below (Aside0.out (by assumption))).setCell (by show _ ≤ _ + 1; omega) _) (by omega)⟩
    · rw [if_pos g]
      have d1 : decide (a ≤ s) = true := decide_eq_true g
      clear g
      go_enter Tryd.func9, Tryd.ntmps9
      go_wp2_with (first
          | (go_at_call 12; refine (HK.out _ (by assumption)).mono ?_; rintro e w2 ⟨rfl, hb2⟩; obtain ⟨⟨c0, c1, c2, c3, c4⟩, ⟨c5, c6, c7⟩, ⟨e5, e6, e7⟩, ⟨f0, f1, f2⟩, ⟨g0, g1, g2⟩⟩ := hb2.out.cells)
          | (go_at_call 19; refine (HF.out _ (by assumption)).mono ?_; rintro e w2 ⟨rfl, hb2⟩; obtain ⟨⟨c0, c1, c2, c3, c4⟩, ⟨c5, c6, c7⟩, ⟨e5, e6, e7⟩, ⟨f0, f1, f2⟩, ⟨g0, g1, g2⟩⟩ := hb2.out.cells)
          | (go_at_call 31; refine (HO.out _ (by assumption)).mono ?_; rintro e w2 ⟨rfl, hb2⟩; obtain ⟨⟨c0, c1, c2, c3, c4⟩, ⟨c5, c6, c7⟩, ⟨e5, e6, e7⟩, ⟨f0, f1, f2⟩, ⟨g0, g1, g2⟩⟩ := hb2.out.cells))
      (try simp only [Exit.inBlock, Exit.then]); first | exact rcell_end rfl rfl (put3 (CeJ.box3 (Aside0.out (by assumption)))) ⟨rfl, below3 (CeJ.below (Aside0.out (by assumption))) (by omega)⟩ | exact rcell_end rfl rfl (put3 (blk_far (CeJ.box3 (Aside0.out (by assumption))) (by simp) _)) ⟨rfl, below3 ((CeJ.below (Aside0.out (by assumption))).setCell (by show _ ≤ _ + 1; omega) _) (by omega)⟩
  · rw [if_neg (by decide), if_pos rfl]
    rcases Int.lt_trichotomy s p with g | g | g
    · rw [if_neg (by omega), if_neg (by omega)]
      have d1 : (s == p) = false := by simp; omega
      have d2 : (s != p) = true := by simp; omega
      have d3 : decide (p < s) = false := decide_eq_false (by omega)
      clear g
      go_enter Tryd.func9, Tryd.ntmps9
      go_wp2_with (first
          | (go_at_call 12; refine (HK.out _ (by assumption)).mono ?_; rintro e w2 ⟨rfl, hb2⟩; obtain ⟨⟨c0, c1, c2, c3, c4⟩, ⟨c5, c6, c7⟩, ⟨e5, e6, e7⟩, ⟨f0, f1, f2⟩, ⟨g0, g1, g2⟩⟩ := hb2.out.cells)
          | (go_at_call 19; refine (HF.out _ (by assumption)).mono ?_; rintro e w2 ⟨rfl, hb2⟩; obtain ⟨⟨c0, c1, c2, c3, c4⟩, ⟨c5, c6, c7⟩, ⟨e5, e6, e7⟩, ⟨f0, f1, f2⟩, ⟨g0, g1, g2⟩⟩ := hb2.out.cells)
          | (go_at_call 31; refine (HO.out _ (by assumption)).mono ?_; rintro e w2 ⟨rfl, hb2⟩; obtain ⟨⟨c0, c1, c2, c3, c4⟩, ⟨c5, c6, c7⟩, ⟨e5, e6, e7⟩, ⟨f0, f1, f2⟩, ⟨g0, g1, g2⟩⟩ := hb2.out.cells))
      (try simp only [Exit.inBlock, Exit.then]); first | exact rcell_end rfl rfl (put3 (CeJ.box3 (Aside0.out (by assumption)))) ⟨rfl, below3 (CeJ.below (Aside0.out (by assumption))) (by omega)⟩ | exact rcell_end rfl rfl (put3 (blk_far (CeJ.box3 (Aside0.out (by assumption))) (by simp) _)) ⟨rfl, below3 ((CeJ.below (Aside0.out (by assumption))).setCell (by show _ ≤ _ + 1; omega) _) (by omega)⟩
    · rw [if_pos g]
      have d1 : (s == p) = true := by simp; omega
      have d2 : (s != p) = false := by simp; omega
      have d3 : decide (p < s) = false := decide_eq_false (by omega)
      clear g
      go_enter Tryd.func9, Tryd.ntmps9
      go_wp2_with (first
          | (go_at_call 12; refine (HK.out _ (by assumption)).mono ?_; rintro e w2 ⟨rfl, hb2⟩; obtain ⟨⟨c0, c1, c2, c3, c4⟩, ⟨c5, c6, c7⟩, ⟨e5, e6, e7⟩, ⟨f0, f1, f2⟩, ⟨g0, g1, g2⟩⟩ := hb2.out.cells)
          | (go_at_call 19; refine (HF.out _ (by assumption)).mono ?_; rintro e w2 ⟨rfl, hb2⟩; obtain ⟨⟨c0, c1, c2, c3, c4⟩, ⟨c5, c6, c7⟩, ⟨e5, e6, e7⟩, ⟨f0, f1, f2⟩, ⟨g0, g1, g2⟩⟩ := hb2.out.cells)
          | (go_at_call 31; refine (HO.out _ (by assumption)).mono ?_; rintro e w2 ⟨rfl, hb2⟩; obtain ⟨⟨c0, c1, c2, c3, c4⟩, ⟨c5, c6, c7⟩, ⟨e5, e6, e7⟩, ⟨f0, f1, f2⟩, ⟨g0, g1, g2⟩⟩ := hb2.out.cells))
      (try simp only [Exit.inBlock, Exit.then]); first | exact rcell_end rfl rfl (put3 (CeJ.box3 (Aside0.out (by assumption)))) ⟨rfl, below3 (CeJ.below (Aside0.out (by assumption))) (by omega)⟩ | exact rcell_end rfl rfl (put3 (blk_far (CeJ.box3 (Aside0.out (by assumption))) (by simp) _)) ⟨rfl, below3 ((CeJ.below (Aside0.out (by assumption))).setCell (by show _ ≤ _ + 1; omega) _) (by omega)⟩
    · rw [if_neg (by omega), if_pos g]
      have d1 : (s == p) = false := by simp; omega
      have d2 : (s != p) = true := by simp; omega
      have d3 : decide (p < s) = true := decide_eq_true g
      clear g
      go_enter Tryd.func9, Tryd.ntmps9
      go_wp2_with (first
          | (go_at_call 12; refine (HK.out _ (by assumption)).mono ?_; rintro e w2 ⟨rfl, hb2⟩; obtain ⟨⟨c0, c1, c2, c3, c4⟩, ⟨c5, c6, c7⟩, ⟨e5, e6, e7⟩, ⟨f0, f1, f2⟩, ⟨g0, g1, g2⟩⟩ := hb2.out.cells)
          | (go_at_call 19; refine (HF.out _ (by assumption)).mono ?_; rintro e w2 ⟨rfl, hb2⟩; obtain ⟨⟨c0, c1, c2, c3, c4⟩, ⟨c5, c6, c7⟩, ⟨e5, e6, e7⟩, ⟨f0, f1, f2⟩, ⟨g0, g1, g2⟩⟩ := hb2.out.cells)
          | (go_at_call 31; refine (HO.out _ (by assumption)).mono ?_; rintro e w2 ⟨rfl, hb2⟩; obtain ⟨⟨c0, c1, c2, c3, c4⟩, ⟨c5, c6, c7⟩, ⟨e5, e6, e7⟩, ⟨f0, f1, f2⟩, ⟨g0, g1, g2⟩⟩ := hb2.out.cells))
      (try simp only [Exit.inBlock, Exit.then]); first | exact rcell_end rfl rfl (put3 (CeJ.box3 (Aside0.out (by assumption)))) ⟨rfl, below3 (CeJ.below (Aside0.out (by assumption))) (by omega)⟩ | exact rcell_end rfl rfl (put3 (blk_far (CeJ.box3 (Aside0.out (by assumption))) (by simp) _)) ⟨rfl, below3 ((CeJ.below (Aside0.out (by assumption))).setCell (by show _ ≤ _ + 1; omega) _) (by omega)⟩
  · rw [if_neg (by decide), if_neg (by decide), if_pos rfl]
    go_enter Tryd.func9, Tryd.ntmps9
    go_wp2_with (first
          | (go_at_call 12; refine (HK.out _ (by assumption)).mono ?_; rintro e w2 ⟨rfl, hb2⟩; obtain ⟨⟨c0, c1, c2, c3, c4⟩, ⟨c5, c6, c7⟩, ⟨e5, e6, e7⟩, ⟨f0, f1, f2⟩, ⟨g0, g1, g2⟩⟩ := hb2.out.cells)
          | (go_at_call 19; refine (HF.out _ (by assumption)).mono ?_; rintro e w2 ⟨rfl, hb2⟩; obtain ⟨⟨c0, c1, c2, c3, c4⟩, ⟨c5, c6, c7⟩, ⟨e5, e6, e7⟩, ⟨f0, f1, f2⟩, ⟨g0, g1, g2⟩⟩ := hb2.out.cells)
          | (go_at_call 31; refine (HO.out _ (by assumption)).mono ?_; rintro e w2 ⟨rfl, hb2⟩; obtain ⟨⟨c0, c1, c2, c3, c4⟩, ⟨c5, c6, c7⟩, ⟨e5, e6, e7⟩, ⟨f0, f1, f2⟩, ⟨g0, g1, g2⟩⟩ := hb2.out.cells))
    (try simp only [Exit.inBlock, Exit.then]); first | exact rcell_end rfl rfl (put3 (CeJ.box3 (Aside0.out (by assumption)))) ⟨rfl, below3 (CeJ.below (Aside0.out (by assumption))) (by omega)⟩ | exact rcell_end rfl rfl (put3 (blk_far (CeJ.box3 (Aside0.out (by assumption))) (by simp) _)) ⟨rfl, below3 ((CeJ.below (Aside0.out (by assumption))).setCell (by show _ ≤ _ + 1; omega) _) (by omega)⟩
  · rw [if_neg (by decide), if_neg (by decide), if_neg (by decide)]
    go_enter Tryd.func9, Tryd.ntmps9
    go_wp2_with (first
          | (go_at_call 12; refine (HK.out _ (by assumption)).mono ?_; rintro e w2 ⟨rfl, hb2⟩; obtain ⟨⟨c0, c1, c2, c3, c4⟩, ⟨c5, c6, c7⟩, ⟨e5, e6, e7⟩, ⟨f0, f1, f2⟩, ⟨g0, g1, g2⟩⟩ := hb2.out.cells)
          | (go_at_call 19; refine (HF.out _ (by assumption)).mono ?_; rintro e w2 ⟨rfl, hb2⟩; obtain ⟨⟨c0, c1, c2, c3, c4⟩, ⟨c5, c6, c7⟩, ⟨e5, e6, e7⟩, ⟨f0, f1, f2⟩, ⟨g0, g1, g2⟩⟩ := hb2.out.cells)
          | (go_at_call 31; refine (HO.out _ (by assumption)).mono ?_; rintro e w2 ⟨rfl, hb2⟩; obtain ⟨⟨c0, c1, c2, c3, c4⟩, ⟨c5, c6, c7⟩, ⟨e5, e6, e7⟩, ⟨f0, f1, f2⟩, ⟨g0, g1, g2⟩⟩ := hb2.out.cells))
    (try simp only [Exit.inBlock, Exit.then]); first | exact rcell_end rfl rfl (put3 (CeJ.box3 (Aside0.out (by assumption)))) ⟨rfl, below3 (CeJ.below (Aside0.out (by assumption))) (by omega)⟩ | exact rcell_end rfl rfl (put3 (blk_far (CeJ.box3 (Aside0.out (by assumption))) (by simp) _)) ⟨rfl, below3 ((CeJ.below (Aside0.out (by assumption))).setCell (by show _ ≤ _ + 1; omega) _) (by omega)⟩
end Go.Proofs.YtfkoiebnpgodmaaDoor.Hw
