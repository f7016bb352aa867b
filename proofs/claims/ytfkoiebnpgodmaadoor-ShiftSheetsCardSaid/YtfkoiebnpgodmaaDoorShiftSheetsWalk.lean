import Derived.Test.YtfkoiebnpgodmaaDoorShI
import Derived.Deep.RegionHeld3
import Derived.Test.YtfkoiebnpgodmaaDoorShiftCellsWalk
/- The names behind a shift, walked: the program's Sheets. -/
namespace Go.Proofs.YtfkoiebnpgodmaaDoor.CP
/-- The names behind a shift that may be. -/
def sheetsI (k a : Int) (nm : ByteArray) (l : List ByteArray) (i : Nat) : List ByteArray :=
  if k = 5 then l.take a.toNat ++ nm :: l.drop a.toNat
  else if k = 6 then l.take i ++ l.drop (i + 1)
  else if k = 7 then (l.take i ++ l.drop (i + 1)).take a.toNat ++ l.getD i ByteArray.empty :: (l.take i ++ l.drop (i + 1)).drop a.toNat
  else if k = 8 then l.set i nm
  else l
end Go.Proofs.YtfkoiebnpgodmaaDoor.CP
namespace Go.Proofs.YtfkoiebnpgodmaaDoor.Hw
open Go.RowKit Go.Proofs.YtfkoiebnpgodmaaDoorW.PrintWords Go.Proofs.YtfkoiebnpgodmaaDoorW.PrintLast Go.Proofs.YtfkoiebnpgodmaaDoorW.PrintMore Go.Proofs.YtfkoiebnpgodmaaDoor.PH Go.Proofs.YtfkoiebnpgodmaaDoor.CP
set_option linter.unusedVariables false
set_option linter.unusedSimpArgs false
theorem ShJ.keep {f : FuncId} {args : Array Value} {v : Ending} {w0 : World} {A : Option Addr} {l : List ByteArray} {k : Int} {sh : ByteArray} {a n : Int} {nm : ByteArray} (h : ∀ w, ShJ w0 A l k sh a n nm w → Calls Tryd.prog f args w fun e w' => e = v ∧ Below w.heap.size w w') :
    ∀ w, ShJ w0 A l k sh a n nm w → Calls Tryd.prog f args w fun e w' => e = v ∧ Aside0 (Below w.heap.size w w') := fun w hj =>
  (h w hj).mono fun e w' ⟨h1, h2⟩ => ⟨h1, ⟨h2⟩⟩
theorem below_of {B : Nat} {w0 w w' : World} (h0 : Below w0.heap.size w0 w) (h : Below B w w') (hB : w0.heap.size ≤ B) : Below w0.heap.size w0 w' := h0.trans (h.mono hB)
/-- What the walk of Sheets begins with: the shift may be; names cloned; the sheet's number found. -/
structure SqJ (w0 : World) (A : Option Addr) (l : List ByteArray) (k : Int) (sh : ByteArray) (a n : Int) (nm : ByteArray) (B : Nat) (v : Value) (m : List ByteArray) (w : World) : Prop where
  j : ShJ w0 A l k sh a n nm w
  low : w0.heap.size < B
  high : B ≤ w.heap.size
  own : SR w B v m
theorem SqJ.go {w0 : World} {A : Option Addr} {l : List ByteArray} {k : Int} {sh : ByteArray} {a n : Int} {nm : ByteArray} {B : Nat} {v : Value} {m : List ByteArray} {w w' : World} (h : SqJ w0 A l k sh a n nm B v m w) (hb : Below w.heap.size w w') : SqJ w0 A l k sh a n nm B v m w' :=
  ⟨h.j.go hb, h.low, Nat.le_trans h.high hb.size, Kd.R_below h.own hb⟩
theorem SqJ.sizes {w0 : World} {A : Option Addr} {l : List ByteArray} {k : Int} {sh : ByteArray} {a n : Int} {nm : ByteArray} {B : Nat} {v : Value} {m : List ByteArray} {w : World} (h : SqJ w0 A l k sh a n nm B v m w) : w0.heap.size < w.heap.size := by have := h.low; have := h.high; omega
theorem lenle {l : List ByteArray} (h : l.length * 16 ≤ 140737488351232) : l.length ≤ 140737488351232 := by omega
set_option maxRecDepth 100000 in
set_option maxHeartbeats 2000000 in
theorem sheets_bad (A : Option Addr) (c : Nat) (l : List ByteArray) (k : Int) (sh : ByteArray) (a n : Int) (nm : ByteArray) (w : World) (hC : ChW w) (hr : Kd.C Kd.string w A l.length l) (hl : l.length * 16 ≤ 140737488351232) (hG : Small l) (h1 : sh.size ≤ 140737488351232) (h2 : nm.size ≤ 140737488351232)
    (ha : -9223372036854775808 ≤ a ∧ a ≤ 9223372036854775807) (hn : -9223372036854775808 ≤ n ∧ n ≤ 9223372036854775807) (hb : ¬ chkI k a n l.length (fnd l sh) (fnd l nm) (nmOK nm) = 0) :
    Calls Tryd.prog 16 #[.slice A l.length c, shA k sh a n nm] w fun e w' => ∃ u, e = .returned (.tuple #[u, .int .i64 (chkI k a n l.length (fnd l sh) (fnd l nm) (nmOK nm))]) ∧ SR w' w.heap.size u [] ∧ Below w.heap.size w w' := by
  have HCH := Aside0.mk (ShJ.keep (w0 := w) (k := k) (sh := sh) (a := a) (n := n) (nm := nm) fun w' hj => check_calls A c l k sh a n nm w' hj.tabs hj.row (lenle hl) hG h1 h2 ha hn)
  have HF1 := Aside0.mk (ShJ.keep (w0 := w) (k := k) (sh := sh) (a := a) (n := n) (nm := nm) fun w' hj => find_calls A c l sh w' hj.row (lenle hl) hG h1)
  have HJ0 : Aside0 (ShJ w A l k sh a n nm (w.alloc (.cells (shC k sh a n nm) 24))) := ⟨ShJ.start hC hr⟩
  clear hC hr
  generalize chkI k a n l.length (fnd l sh) (fnd l nm) (nmOK nm) = q at *
  have hq : (q == 0) = false := by simpa using hb
  have hq2 : (q != 0) = true := by simpa using hb
  go_enter Tryd.func16, Tryd.ntmps16
  go_wp2_with fail
  refine (HCH.out _ HJ0.out).mono ?_
  rintro e w2 ⟨rfl, hb2⟩
  have HJ2 := Aside0.mk (HJ0.out.go hb2.out)
  clear HCH hb2 HJ0
  obtain ⟨c0, c1, c2, c3, c4⟩ := HJ2.out.cells
  go_wp2_with fail
  go_ret2
  exact ⟨_, rfl, Kd.R_nil _ _ _ _ _, HJ2.out.below⟩
set_option maxRecDepth 100000 in
set_option maxHeartbeats 2000000 in
theorem sheets_line (A : Option Addr) (c : Nat) (l : List ByteArray) (k : Int) (sh : ByteArray) (a n : Int) (nm : ByteArray) (w : World) (hC : ChW w) (hr : Kd.C Kd.string w A l.length l) (hl : l.length * 16 ≤ 140737488351232) (hG : Small l) (h1 : sh.size ≤ 140737488351232) (h2 : nm.size ≤ 140737488351232)
    (ha : -9223372036854775808 ≤ a ∧ a ≤ 9223372036854775807) (hn : -9223372036854775808 ≤ n ∧ n ≤ 9223372036854775807) (i : Nat) (hi : fnd l sh = some i) (hk : 1 ≤ k ∧ k ≤ 4) (hz : chkI k a n l.length (fnd l sh) (fnd l nm) (nmOK nm) = 0) :
    Calls Tryd.prog 16 #[.slice A l.length c, shA k sh a n nm] w fun e w' => ∃ u, e = .returned (.tuple #[u, .int .i64 (chkI k a n l.length (fnd l sh) (fnd l nm) (nmOK nm))]) ∧ SR w' w.heap.size u l ∧ Below w.heap.size w w' := by
  have HCH := Aside0.mk (ShJ.keep (w0 := w) (k := k) (sh := sh) (a := a) (n := n) (nm := nm) fun w' hj => check_calls A c l k sh a n nm w' hj.tabs hj.row (lenle hl) hG h1 h2 ha hn)
  have HF1 := Aside0.mk (ShJ.keep (w0 := w) (k := k) (sh := sh) (a := a) (n := n) (nm := nm) fun w' hj => find_calls A c l sh w' hj.row (lenle hl) hG h1)
  have HJ0 : Aside0 (ShJ w A l k sh a n nm (w.alloc (.cells (shC k sh a n nm) 24))) := ⟨ShJ.start hC hr⟩
  clear hC hr
  rw [hz] at HCH ⊢
  rw [hi] at HF1
  unfold fndV at HF1
  clear hz hi
  have k5 : (k == 5) = false := by simp; omega
  have k6 : (k == 6) = false := by simp; omega
  have k7 : (k == 7) = false := by simp; omega
  have k8 : (k == 8) = false := by simp; omega
  go_enter Tryd.func16, Tryd.ntmps16
  go_wp2_with fail
  refine (HCH.out _ HJ0.out).mono ?_
  rintro e w2 ⟨rfl, hb2⟩
  have HJ2 := Aside0.mk (HJ0.out.go hb2.out)
  clear HCH hb2 HJ0
  obtain ⟨c0, c1, c2, c3, c4⟩ := HJ2.out.cells
  go_wp2_with fail
  refine (clone_calls A c l _ HJ2.out.row (by omega)).mono ?_
  rintro e w3 ⟨v3, rfl, hv3, hb3⟩
  have HJ3 : Aside0 (SqJ w A l k sh a n nm w2.heap.size v3 l w3) := ⟨⟨HJ2.out.go hb3, blk_lt HJ2.out.box, hb3.size, hv3⟩⟩
  clear hv3 hb3 c0 c1 c2 c3 c4
  generalize w2.heap.size = B at *
  clear HJ2
  obtain ⟨c0, c1, c2, c3, c4⟩ := HJ3.out.j.cells
  go_wp2_with fail
  refine (HF1.out _ HJ3.out.j).mono ?_
  rintro e w4 ⟨rfl, hb4⟩
  have HJ4 := Aside0.mk (HJ3.out.go hb4.out)
  clear HJ3 HF1 hb4 c0 c1 c2 c3 c4
  obtain ⟨c0, c1, c2, c3, c4⟩ := HJ4.out.j.cells
  obtain ⟨A4, d4, rfl, hd4, _⟩ := Kd.R_reads HJ4.out.own
  have HS : Aside0 (SR w4 B (.slice A4 l.length d4) l ∧ Below B w4 w4) := ⟨HJ4.out.own, Below.refl _ _⟩
  go_wp2
  go_ret2
  exact ⟨_, rfl, Kd.R_lower HS.out.1 (Nat.le_of_lt HJ4.out.low), below_of HJ4.out.j.below HS.out.2 (Nat.le_of_lt HJ4.out.low)⟩
set_option maxRecDepth 100000 in
set_option maxHeartbeats 2000000 in
theorem sheets_ins (A : Option Addr) (c : Nat) (l : List ByteArray) (sh : ByteArray) (a n : Int) (nm : ByteArray) (w : World) (hC : ChW w) (hr : Kd.C Kd.string w A l.length l) (hl : l.length * 16 ≤ 140737488351232) (hG : Small l) (h1 : sh.size ≤ 140737488351232) (h2 : nm.size ≤ 140737488351232)
    (ha : -9223372036854775808 ≤ a ∧ a ≤ 9223372036854775807) (hn : -9223372036854775808 ≤ n ∧ n ≤ 9223372036854775807) (o : Option Nat) (hi : fnd l sh = o) (j : Nat) (hj : a = (j : Int)) (hjl : j ≤ l.length) (hz : chkI 5 a n l.length (fnd l sh) (fnd l nm) (nmOK nm) = 0) :
    Calls Tryd.prog 16 #[.slice A l.length c, shA 5 sh a n nm] w fun e w' => ∃ u, e = .returned (.tuple #[u, .int .i64 (chkI 5 a n l.length (fnd l sh) (fnd l nm) (nmOK nm))]) ∧ SR w' w.heap.size u (l.take j ++ nm :: l.drop j) ∧ Below w.heap.size w w' := by
  obtain ⟨k, hk⟩ : ∃ k : Int, k = 5 := ⟨5, rfl⟩
  rw [← hk] at hz ⊢
  have HCH := Aside0.mk (ShJ.keep (w0 := w) (k := k) (sh := sh) (a := a) (n := n) (nm := nm) fun w' hj => check_calls A c l k sh a n nm w' hj.tabs hj.row (lenle hl) hG h1 h2 ha hn)
  have HF1 := Aside0.mk (ShJ.keep (w0 := w) (k := k) (sh := sh) (a := a) (n := n) (nm := nm) fun w' hj => find_calls A c l sh w' hj.row (lenle hl) hG h1)
  have HJ0 : Aside0 (ShJ w A l k sh a n nm (w.alloc (.cells (shC k sh a n nm) 24))) := ⟨ShJ.start hC hr⟩
  clear hC hr
  rw [hz] at HCH ⊢
  rw [hi] at HF1
  clear hz hi
  subst hk
  subst hj
  obtain ⟨x1, x2, hx⟩ : ∃ x1 x2, fndV o = .tuple #[.int .i64 x1, .bool x2] := by cases o <;> exact ⟨_, _, rfl⟩
  rw [hx] at HF1
  clear hx
  go_enter Tryd.func16, Tryd.ntmps16
  go_wp2_with fail
  refine (HCH.out _ HJ0.out).mono ?_
  rintro e w2 ⟨rfl, hb2⟩
  have HJ2 := Aside0.mk (HJ0.out.go hb2.out)
  clear HCH hb2 HJ0
  obtain ⟨c0, c1, c2, c3, c4⟩ := HJ2.out.cells
  go_wp2_with fail
  refine (clone_calls A c l _ HJ2.out.row (by omega)).mono ?_
  rintro e w3 ⟨v3, rfl, hv3, hb3⟩
  have HJ3 : Aside0 (SqJ w A l 5 sh (j : Int) n nm w2.heap.size v3 l w3) := ⟨⟨HJ2.out.go hb3, blk_lt HJ2.out.box, hb3.size, hv3⟩⟩
  clear hv3 hb3 c0 c1 c2 c3 c4
  generalize w2.heap.size = B at *
  clear HJ2
  obtain ⟨c0, c1, c2, c3, c4⟩ := HJ3.out.j.cells
  go_wp2_with fail
  refine (HF1.out _ HJ3.out.j).mono ?_
  rintro e w4 ⟨rfl, hb4⟩
  have HJ4 := Aside0.mk (HJ3.out.go hb4.out)
  clear HJ3 HF1 hb4 c0 c1 c2 c3 c4
  obtain ⟨c0, c1, c2, c3, c4⟩ := HJ4.out.j.cells
  obtain ⟨A4, d4, rfl, hd4, _⟩ := Kd.R_reads HJ4.out.own
  go_wp2_with fail
  refine (ins_calls B A4 d4 l j nm w4.heap.size _ (by simp; have := HJ4.out.high; omega) (Kd.R_below HJ4.out.own ((Below.refl _ _).alloc (Nat.le_refl _) _)) hjl (heap_alloc_new w4 _) (fun h => absurd (Kd.R_lt HJ4.out.own _ h.symm) (Nat.lt_irrefl _)) (by omega)).mono ?_
  rintro e w5 ⟨v5, rfl, hv5, hb5⟩
  have HS : Aside0 (SR w5 B v5 _ ∧ Below B w4 w5) := ⟨hv5, ((Below.refl _ _).alloc HJ4.out.high _).trans hb5⟩
  clear hv5 hb5
  go_wp2
  go_ret2
  exact ⟨_, rfl, Kd.R_lower HS.out.1 (Nat.le_of_lt HJ4.out.low), below_of HJ4.out.j.below HS.out.2 (Nat.le_of_lt HJ4.out.low)⟩
set_option maxRecDepth 100000 in
set_option maxHeartbeats 2000000 in
theorem sheets_del (A : Option Addr) (c : Nat) (l : List ByteArray) (sh : ByteArray) (a n : Int) (nm : ByteArray) (w : World) (hC : ChW w) (hr : Kd.C Kd.string w A l.length l) (hl : l.length * 16 ≤ 140737488351232) (hG : Small l) (h1 : sh.size ≤ 140737488351232) (h2 : nm.size ≤ 140737488351232)
    (ha : -9223372036854775808 ≤ a ∧ a ≤ 9223372036854775807) (hn : -9223372036854775808 ≤ n ∧ n ≤ 9223372036854775807) (i : Nat) (hi : fnd l sh = some i) (hil : i < l.length) (hz : chkI 6 a n l.length (fnd l sh) (fnd l nm) (nmOK nm) = 0) :
    Calls Tryd.prog 16 #[.slice A l.length c, shA 6 sh a n nm] w fun e w' => ∃ u, e = .returned (.tuple #[u, .int .i64 (chkI 6 a n l.length (fnd l sh) (fnd l nm) (nmOK nm))]) ∧ SR w' w.heap.size u (l.take i ++ l.drop (i + 1)) ∧ Below w.heap.size w w' := by
  obtain ⟨k, hk⟩ : ∃ k : Int, k = 6 := ⟨6, rfl⟩
  rw [← hk] at hz ⊢
  have HCH := Aside0.mk (ShJ.keep (w0 := w) (k := k) (sh := sh) (a := a) (n := n) (nm := nm) fun w' hj => check_calls A c l k sh a n nm w' hj.tabs hj.row (lenle hl) hG h1 h2 ha hn)
  have HF1 := Aside0.mk (ShJ.keep (w0 := w) (k := k) (sh := sh) (a := a) (n := n) (nm := nm) fun w' hj => find_calls A c l sh w' hj.row (lenle hl) hG h1)
  have HJ0 : Aside0 (ShJ w A l k sh a n nm (w.alloc (.cells (shC k sh a n nm) 24))) := ⟨ShJ.start hC hr⟩
  clear hC hr
  rw [hz] at HCH ⊢
  rw [hi] at HF1
  clear hz hi
  subst hk
  unfold fndV at HF1
  go_enter Tryd.func16, Tryd.ntmps16
  go_wp2_with fail
  refine (HCH.out _ HJ0.out).mono ?_
  rintro e w2 ⟨rfl, hb2⟩
  have HJ2 := Aside0.mk (HJ0.out.go hb2.out)
  clear HCH hb2 HJ0
  obtain ⟨c0, c1, c2, c3, c4⟩ := HJ2.out.cells
  go_wp2_with fail
  refine (clone_calls A c l _ HJ2.out.row (by omega)).mono ?_
  rintro e w3 ⟨v3, rfl, hv3, hb3⟩
  have HJ3 : Aside0 (SqJ w A l 6 sh a n nm w2.heap.size v3 l w3) := ⟨⟨HJ2.out.go hb3, blk_lt HJ2.out.box, hb3.size, hv3⟩⟩
  clear hv3 hb3 c0 c1 c2 c3 c4
  generalize w2.heap.size = B at *
  clear HJ2
  obtain ⟨c0, c1, c2, c3, c4⟩ := HJ3.out.j.cells
  go_wp2_with fail
  refine (HF1.out _ HJ3.out.j).mono ?_
  rintro e w4 ⟨rfl, hb4⟩
  have HJ4 := Aside0.mk (HJ3.out.go hb4.out)
  clear HJ3 HF1 hb4 c0 c1 c2 c3 c4
  obtain ⟨c0, c1, c2, c3, c4⟩ := HJ4.out.j.cells
  obtain ⟨A4, d4, rfl, hd4, _⟩ := Kd.R_reads HJ4.out.own
  go_wp2_with fail
  refine (del_calls B A4 d4 l i _ w4 HJ4.out.own hil rfl).mono ?_
  rintro e w5 ⟨rfl, hv5, hb5, _⟩
  have HS : Aside0 (SR w5 B (.slice A4 (l.length - 1) d4) (l.take i ++ l.drop (i + 1)) ∧ Below B w4 w5) := ⟨hv5, hb5⟩
  clear hv5 hb5
  go_wp2
  go_ret2
  exact ⟨_, rfl, Kd.R_lower HS.out.1 (Nat.le_of_lt HJ4.out.low), below_of HJ4.out.j.below HS.out.2 (Nat.le_of_lt HJ4.out.low)⟩
theorem sr_blk {w : World} {B n c : Nat} {A : Option Addr} {l : List ByteArray} (h : SR w B (.slice A n c) l) (hl : 0 < l.length) : ∃ g, A = some ⟨g, 0, none⟩ ∧ B ≤ g := by
  rcases (sr_own h).2 with ⟨h1, h2⟩ | ⟨g, cap, cur, h1, hg, _⟩
  · omega
  · injection h1 with h1 _ _
    exact ⟨g, h1, hg⟩
set_option maxRecDepth 100000 in
set_option maxHeartbeats 2000000 in
theorem sheets_nam (A : Option Addr) (c : Nat) (l : List ByteArray) (sh : ByteArray) (a n : Int) (nm : ByteArray) (w : World) (hC : ChW w) (hr : Kd.C Kd.string w A l.length l) (hl : l.length * 16 ≤ 140737488351232) (hG : Small l) (h1 : sh.size ≤ 140737488351232) (h2 : nm.size ≤ 140737488351232)
    (ha : -9223372036854775808 ≤ a ∧ a ≤ 9223372036854775807) (hn : -9223372036854775808 ≤ n ∧ n ≤ 9223372036854775807) (i : Nat) (hi : fnd l sh = some i) (hil : i < l.length) (hz : chkI 8 a n l.length (fnd l sh) (fnd l nm) (nmOK nm) = 0) :
    Calls Tryd.prog 16 #[.slice A l.length c, shA 8 sh a n nm] w fun e w' => ∃ u, e = .returned (.tuple #[u, .int .i64 (chkI 8 a n l.length (fnd l sh) (fnd l nm) (nmOK nm))]) ∧ SR w' w.heap.size u (l.set i nm) ∧ Below w.heap.size w w' := by
  obtain ⟨k, hk⟩ : ∃ k : Int, k = 8 := ⟨8, rfl⟩
  rw [← hk] at hz ⊢
  have HCH := Aside0.mk (ShJ.keep (w0 := w) (k := k) (sh := sh) (a := a) (n := n) (nm := nm) fun w' hj => check_calls A c l k sh a n nm w' hj.tabs hj.row (lenle hl) hG h1 h2 ha hn)
  have HF1 := Aside0.mk (ShJ.keep (w0 := w) (k := k) (sh := sh) (a := a) (n := n) (nm := nm) fun w' hj => find_calls A c l sh w' hj.row (lenle hl) hG h1)
  have HJ0 : Aside0 (ShJ w A l k sh a n nm (w.alloc (.cells (shC k sh a n nm) 24))) := ⟨ShJ.start hC hr⟩
  clear hC hr
  rw [hz] at HCH ⊢
  rw [hi] at HF1
  clear hz hi
  subst hk
  unfold fndV at HF1
  go_enter Tryd.func16, Tryd.ntmps16
  go_wp2_with fail
  refine (HCH.out _ HJ0.out).mono ?_
  rintro e w2 ⟨rfl, hb2⟩
  have HJ2 := Aside0.mk (HJ0.out.go hb2.out)
  clear HCH hb2 HJ0
  obtain ⟨c0, c1, c2, c3, c4⟩ := HJ2.out.cells
  go_wp2_with fail
  refine (clone_calls A c l _ HJ2.out.row (by omega)).mono ?_
  rintro e w3 ⟨v3, rfl, hv3, hb3⟩
  have HJ3 : Aside0 (SqJ w A l 8 sh a n nm w2.heap.size v3 l w3) := ⟨⟨HJ2.out.go hb3, blk_lt HJ2.out.box, hb3.size, hv3⟩⟩
  clear hv3 hb3 c0 c1 c2 c3 c4
  generalize w2.heap.size = B at *
  clear HJ2
  obtain ⟨c0, c1, c2, c3, c4⟩ := HJ3.out.j.cells
  go_wp2_with fail
  refine (HF1.out _ HJ3.out.j).mono ?_
  rintro e w4 ⟨rfl, hb4⟩
  have HJ4 := Aside0.mk (HJ3.out.go hb4.out)
  clear HJ3 HF1 hb4 c0 c1 c2 c3 c4
  obtain ⟨c0, c1, c2, c3, c4⟩ := HJ4.out.j.cells
  obtain ⟨A4, d4, rfl, hd4, _⟩ := Kd.R_reads HJ4.out.own
  obtain ⟨g, rfl, hg⟩ := sr_blk HJ4.out.own (by omega)
  obtain ⟨x1, x2⟩ := Kd.R_celln ByteArray.empty HJ4.out.own (i : Int) (by omega) (by omega)
  have HS : Aside0 (SR (w4.setCell ⟨g, i, none⟩ (.string nm)) B (.slice (some ⟨g, 0, none⟩) l.length d4) (l.set i nm) ∧ Below B w4 (w4.setCell ⟨g, i, none⟩ (.string nm))) := ⟨Kd.R_putn HJ4.out.own (i : Int) nm, (Below.refl _ _).setCell hg _⟩
  rw [Int.toNat_natCast] at x1 x2
  go_wp2
  go_ret2
  exact ⟨_, rfl, Kd.R_lower HS.out.1 (Nat.le_of_lt HJ4.out.low), below_of HJ4.out.j.below HS.out.2 (Nat.le_of_lt HJ4.out.low)⟩
theorem ob_eq (A : Option Addr) (n c m d : Nat) : (Value.slice A n c).ownBlock = (Value.slice A m d).ownBlock := by cases A <;> rfl
theorem below_alloc {B : Nat} {w w' : World} {o : Obj} (h1 : B ≤ w.heap.size) (h : Below B w w') : Below B w (w'.alloc o) := h.alloc (Nat.le_trans h1 h.size) _
set_option maxRecDepth 100000 in
set_option maxHeartbeats 4000000 in
theorem sheets_mov (A : Option Addr) (c : Nat) (l : List ByteArray) (sh : ByteArray) (a n : Int) (nm : ByteArray) (w : World) (hC : ChW w) (hr : Kd.C Kd.string w A l.length l) (hl : l.length * 16 ≤ 140737488351232) (hG : Small l) (h1 : sh.size ≤ 140737488351232) (h2 : nm.size ≤ 140737488351232)
    (ha : -9223372036854775808 ≤ a ∧ a ≤ 9223372036854775807) (hn : -9223372036854775808 ≤ n ∧ n ≤ 9223372036854775807) (i : Nat) (hi : fnd l sh = some i) (hil : i < l.length) (j : Nat) (hj : a = (j : Int)) (hjl : j < l.length) (hz : chkI 7 a n l.length (fnd l sh) (fnd l nm) (nmOK nm) = 0) :
    Calls Tryd.prog 16 #[.slice A l.length c, shA 7 sh a n nm] w fun e w' => ∃ u, e = .returned (.tuple #[u, .int .i64 (chkI 7 a n l.length (fnd l sh) (fnd l nm) (nmOK nm))]) ∧ SR w' w.heap.size u ((l.take i ++ l.drop (i + 1)).take j ++ l.getD i ByteArray.empty :: (l.take i ++ l.drop (i + 1)).drop j) ∧ Below w.heap.size w w' := by
  obtain ⟨k, hk⟩ : ∃ k : Int, k = 7 := ⟨7, rfl⟩
  rw [← hk] at hz ⊢
  obtain ⟨ad, e1, hx0⟩ := Kd.at_string hr (i : Int) (by omega) (by omega)
  subst e1
  rw [Int.toNat_natCast, show rdOf ByteArray.empty l (i : Int) = l.getD i ByteArray.empty from rfl] at hx0
  have HLT := Aside0.mk hx0
  clear hx0
  have HCH := Aside0.mk (ShJ.keep (w0 := w) (k := k) (sh := sh) (a := a) (n := n) (nm := nm) fun w' hj => check_calls (some ad) c l k sh a n nm w' hj.tabs hj.row (lenle hl) hG h1 h2 ha hn)
  have HF1 := Aside0.mk (ShJ.keep (w0 := w) (k := k) (sh := sh) (a := a) (n := n) (nm := nm) fun w' hj => find_calls (some ad) c l sh w' hj.row (lenle hl) hG h1)
  have HJ0 : Aside0 (ShJ w (some ad) l k sh a n nm (w.alloc (.cells (shC k sh a n nm) 24))) := ⟨ShJ.start hC hr⟩
  clear hC hr
  rw [hz] at HCH ⊢
  rw [hi] at HF1
  clear hz hi
  subst hk
  unfold fndV at HF1
  subst hj
  go_enter Tryd.func16, Tryd.ntmps16
  go_wp2_with fail
  refine (HCH.out _ HJ0.out).mono ?_
  rintro e w2 ⟨rfl, hb2⟩
  have HJ2 := Aside0.mk (HJ0.out.go hb2.out)
  clear HCH hb2 HJ0
  obtain ⟨c0, c1, c2, c3, c4⟩ := HJ2.out.cells
  go_wp2_with fail
  refine (clone_calls (some ad) c l _ HJ2.out.row (by omega)).mono ?_
  rintro e w3 ⟨v3, rfl, hv3, hb3⟩
  have HJ3 : Aside0 (SqJ w (some ad) l 7 sh (j : Int) n nm w2.heap.size v3 l w3) := ⟨⟨HJ2.out.go hb3, blk_lt HJ2.out.box, hb3.size, hv3⟩⟩
  clear hv3 hb3 c0 c1 c2 c3 c4
  generalize w2.heap.size = B at *
  clear HJ2
  obtain ⟨c0, c1, c2, c3, c4⟩ := HJ3.out.j.cells
  go_wp2_with fail
  refine (HF1.out _ HJ3.out.j).mono ?_
  rintro e w4 ⟨rfl, hb4⟩
  have HJ4 := Aside0.mk (HJ3.out.go hb4.out)
  clear HJ3 HF1 hb4 c0 c1 c2 c3 c4
  obtain ⟨c0, c1, c2, c3, c4⟩ := HJ4.out.j.cells
  obtain ⟨A4, d4, rfl, hd4, _⟩ := Kd.R_reads HJ4.out.own
  have hx := (HJ4.out.j.below.cell (p := ad.add i) (lt_of_cell HLT.out)).trans HLT.out
  have HLE : Aside0 ((l.take i ++ l.drop (i + 1)).length = l.length - 1) := ⟨by simp; omega⟩
  generalize hsi : l.getD i ByteArray.empty = si at *
  have HSI := Aside0.mk hsi
  clear hsi
  have HKS : Aside0 (∀ w', Below B w4 w' → w'.cell? ⟨w.heap.size, 2, none⟩ = some (.int .i64 (j : Int)) ∧ w'.cell? (ad.add i) = some (.string si) ∧ Aside0 (Below B w4 w')) := ⟨fun w' hb => ⟨(hb.cell HJ4.out.low).trans c2, (hb.cell (Nat.lt_trans (lt_of_cell HLT.out) HJ4.out.low)).trans hx, ⟨hb⟩⟩⟩
  generalize hml : l.take i ++ l.drop (i + 1) = m at *
  have HML := Aside0.mk hml
  clear hml
  have HWI : Aside0 (IntKind.i64.wrap ((i : Int) + 1) = (i : Int) + 1) := ⟨IntWalk.i64_in _ (by omega)⟩
  have HIN : Aside0 (∀ (W : World) (vb : Nat), B ≤ W.heap.size → SR W B (.slice A4 (l.length - 1) d4) m → W.heap[vb]? = some (.cells #[.string si] 9 (0, 0)) → some vb ≠ (Value.slice A4 (l.length - 1) d4).ownBlock → Calls Tryd.prog 42 #[.slice A4 (l.length - 1) d4, .int .i64 (j : Int), .slice (some ⟨vb, 0, none⟩) 1 1] W fun e w' => ∃ v, e = .returned v ∧ SR w' B v (m.take j ++ si :: m.drop j) ∧ Below B W w') := ⟨by
    have hle := HLE.out
    rw [← hle]
    exact fun W vb g1 g2 g3 g4 => ins_calls B A4 d4 m j si vb W g1 g2 (by omega) g3 g4 (by omega)⟩
  have q1 : (0 : Int) ≤ (i : Int) := by omega
  have q2 : (i : Int) < (l.length : Int) := by omega
  go_wp2
  go_region_held3 (fun w' => w'.cell? ⟨w.heap.size, 2, none⟩ = some (.int .i64 (j : Int)) ∧ w'.cell? (ad.add i) = some (.string si) ∧ Aside0 (Below B w4 w'))
    (first | exact HKS.out _ (Below.drew (Aside0.out (by assumption))) | exact HKS.out _ (Aside0.out (by assumption)) | exact HKS.out _ (below_alloc HJ4.out.high (Aside0.out (by assumption))) | exact HKS.out _ (Below.refl _ _) | exact HKS.out _ ((Below.refl _ _).drew) | exact HKS.out _ (Below.drew (below_alloc HJ4.out.high (Below.refl _ _))))
    (first
      | (go_at_call 43; rw [HWI.out]; refine (del_calls B A4 d4 l i _ _ (by first | exact HJ4.out.own | exact Kd.R_below HJ4.out.own (Below.drew (Below.refl _ _)) | exact Kd.R_below HJ4.out.own (((Below.refl _ _).alloc (Nat.le_refl _) _).drew)) hil rfl).mono ?_; rintro e w5 ⟨rfl, hv5, hb5, hk5⟩; rw [HML.out] at hv5; have HV5 := Aside0.mk hv5; have HK5 := Aside0.mk hk5; have HB5 : Aside0 (Below B w4 w5) := ⟨Below.trans (Aside0.out (And.right (And.right (by assumption)))) hb5⟩; clear hv5 hb5 hk5)
      | (go_at_call 42; refine (HIN.out _ _ (Nat.le_trans HJ4.out.high (Below.size (Aside0.out (And.right (And.right (by assumption)))))) (by first | exact Kd.R_below HV5.out ((Below.refl _ _).alloc (Nat.le_refl _) _) | exact HV5.out) (by first | exact heap_alloc_new w5 _ | exact (HK5.out _ (by simp) (fun h => absurd (Kd.R_lt HJ4.out.own _ h.symm) (Nat.lt_irrefl _))).trans (heap_alloc_new w4 _)) (by first | exact (fun h => absurd (Kd.R_lt HV5.out _ h.symm) (Nat.lt_irrefl _)) | exact (fun h => absurd (Kd.R_lt HJ4.out.own _ ((ob_eq _ _ _ _ _).trans h.symm)) (Nat.lt_irrefl _)))).mono ?_; rintro e w6 ⟨v6, rfl, hv6, hb6⟩; have HV6 := Aside0.mk hv6; have HB6 : Aside0 (Below B w4 w6) := ⟨Below.trans (Aside0.out (And.right (And.right (by assumption)))) hb6⟩; clear hv6 hb6))
  all_goals go_wp2
  all_goals go_ret2
  all_goals exact ⟨_, rfl, by have h := Kd.R_lower HV6.out (Nat.le_of_lt HJ4.out.low); rw [← HML.out, ← HSI.out] at h; exact h, below_of HJ4.out.j.below HB6.out (Nat.le_of_lt HJ4.out.low)⟩
end Go.Proofs.YtfkoiebnpgodmaaDoor.Hw
/- The names behind a shift, walked: the document's Sheets. -/
namespace Go.Proofs.YtfkoiebnpgodmaaDoor.Hw
open Go.RowKit Go.Proofs.YtfkoiebnpgodmaaDoorW.PrintWords Go.Proofs.YtfkoiebnpgodmaaDoorW.PrintLast Go.Proofs.YtfkoiebnpgodmaaDoorW.PrintMore Go.Proofs.YtfkoiebnpgodmaaDoor.PH Go.Proofs.YtfkoiebnpgodmaaDoor.CP
set_option linter.unusedVariables false
set_option linter.unusedSimpArgs false
theorem rwithout2 (A : Option Addr) (c : Nat) (l : List ByteArray) (k : Nat) (w : World) (hC : Kd.C Kd.string w A l.length l) (hc : l.length ≤ c) (hk : k < l.length) (hl : l.length * 16 ≤ 140737488355328) :
    Calls Tryd.prog 45 #[.slice A l.length c, .int .i64 k] w fun e w' => ∃ A5 c5, e = .returned (.slice A5 (l.length - 1) c5) ∧ l.length - 1 ≤ c5 ∧ SR w' w.heap.size (.slice A5 (l.length - 1) c5) (l.take k ++ l.drop (k + 1)) ∧ Below w.heap.size w w' :=
  (rwithout_calls A c l k w hC hc hk hl).mono fun e w' ⟨u, h1, h2, h3⟩ => by
    obtain ⟨A5, c5, rfl, hc5, _⟩ := Kd.R_reads h2
    have hle : (l.take k ++ l.drop (k + 1)).length = l.length - 1 := by simp; omega
    rw [hle] at h1 h2 hc5
    exact ⟨A5, c5, h1, hc5, h2, h3⟩
set_option maxRecDepth 100000 in
set_option maxHeartbeats 4000000 in
theorem rsheets_bad (A : Option Addr) (c : Nat) (l : List ByteArray) (k : Int) (sh : ByteArray) (a n : Int) (nm : ByteArray) (w : World) (hC : ChW w) (hr : Kd.C Kd.string w A l.length l) (hc : l.length ≤ c) (hl : l.length * 16 ≤ 140737488351232) (hG : Small l) (h1 : sh.size ≤ 140737488351232) (h2 : nm.size ≤ 140737488351232)
    (ha : -9223372036854775808 ≤ a ∧ a ≤ 9223372036854775807) (hn : -9223372036854775808 ≤ n ∧ n ≤ 9223372036854775807) (hb : ¬ chkI k a n l.length (fnd l sh) (fnd l nm) (nmOK nm) = 0) :
    Calls Tryd.prog 17 #[.slice A l.length c, shA k sh a n nm] w fun e w' => ∃ u, e = .returned (.tuple #[u, .int .i64 (chkI k a n l.length (fnd l sh) (fnd l nm) (nmOK nm))]) ∧ SR w' w.heap.size u [] ∧ Below w.heap.size w w' := by
  have HCH := Aside0.mk (ShJ.keep (w0 := w) (k := k) (sh := sh) (a := a) (n := n) (nm := nm) fun w' hj => rcheck_calls A c l k sh a n nm w' hj.tabs hj.row (lenle hl) hG h1 h2 ha hn)
  have HF1 := Aside0.mk (ShJ.keep (w0 := w) (k := k) (sh := sh) (a := a) (n := n) (nm := nm) fun w' hj => rfind_calls A c l sh w' hj.row (lenle hl) hG h1)
  have HJ0 : Aside0 (ShJ w A l k sh a n nm (w.alloc (.cells (shC k sh a n nm) 24))) := ⟨ShJ.start hC hr⟩
  clear hC hr
  generalize chkI k a n l.length (fnd l sh) (fnd l nm) (nmOK nm) = q at *
  have hq : (q == 0) = false := by simpa using hb
  have hq2 : (q != 0) = true := by simpa using hb
  go_enter Tryd.func17, Tryd.ntmps17
  go_wp2_with fail
  refine (HCH.out _ HJ0.out).mono ?_
  rintro e w2 ⟨rfl, hb2⟩
  have HJ2 := Aside0.mk (HJ0.out.go hb2.out)
  clear HCH hb2 HJ0
  obtain ⟨c0, c1, c2, c3, c4⟩ := HJ2.out.cells
  go_wp2_with fail
  go_ret2
  exact ⟨_, rfl, Kd.R_nil _ _ _ _ _, HJ2.out.below⟩
set_option maxRecDepth 100000 in
set_option maxHeartbeats 4000000 in
theorem rsheets_line (A : Option Addr) (c : Nat) (l : List ByteArray) (k : Int) (sh : ByteArray) (a n : Int) (nm : ByteArray) (w : World) (hC : ChW w) (hr : Kd.C Kd.string w A l.length l) (hc : l.length ≤ c) (hl : l.length * 16 ≤ 140737488351232) (hG : Small l) (h1 : sh.size ≤ 140737488351232) (h2 : nm.size ≤ 140737488351232)
    (ha : -9223372036854775808 ≤ a ∧ a ≤ 9223372036854775807) (hn : -9223372036854775808 ≤ n ∧ n ≤ 9223372036854775807) (i : Nat) (hi : fnd l sh = some i) (hk : 1 ≤ k ∧ k ≤ 4) (hz : chkI k a n l.length (fnd l sh) (fnd l nm) (nmOK nm) = 0) :
    Calls Tryd.prog 17 #[.slice A l.length c, shA k sh a n nm] w fun e w' => ∃ u, e = .returned (.tuple #[u, .int .i64 (chkI k a n l.length (fnd l sh) (fnd l nm) (nmOK nm))]) ∧ SR w' w.heap.size u l ∧ Below w.heap.size w w' := by
  have HCH := Aside0.mk (ShJ.keep (w0 := w) (k := k) (sh := sh) (a := a) (n := n) (nm := nm) fun w' hj => rcheck_calls A c l k sh a n nm w' hj.tabs hj.row (lenle hl) hG h1 h2 ha hn)
  have HF1 := Aside0.mk (ShJ.keep (w0 := w) (k := k) (sh := sh) (a := a) (n := n) (nm := nm) fun w' hj => rfind_calls A c l sh w' hj.row (lenle hl) hG h1)
  have HJ0 : Aside0 (ShJ w A l k sh a n nm (w.alloc (.cells (shC k sh a n nm) 24))) := ⟨ShJ.start hC hr⟩
  clear hC hr
  rw [hz] at HCH ⊢
  rw [hi] at HF1
  unfold fndV at HF1
  clear hz hi
  have k5 : (k == 5) = false := by simp; omega
  have k6 : (k == 6) = false := by simp; omega
  have k7 : (k == 7) = false := by simp; omega
  have k8 : (k == 8) = false := by simp; omega
  go_enter Tryd.func17, Tryd.ntmps17
  go_wp2_with fail
  refine (HCH.out _ HJ0.out).mono ?_
  rintro e w2 ⟨rfl, hb2⟩
  have HJ2 := Aside0.mk (HJ0.out.go hb2.out)
  clear HCH hb2 HJ0
  obtain ⟨c0, c1, c2, c3, c4⟩ := HJ2.out.cells
  go_wp2_with fail
  refine (HF1.out _ HJ2.out).mono ?_
  rintro e w4 ⟨rfl, hb4⟩
  have HJ4 := Aside0.mk (HJ2.out.go hb4.out)
  clear HJ2 HF1 hb4 c0 c1 c2 c3 c4
  obtain ⟨c0, c1, c2, c3, c4⟩ := HJ4.out.cells
  have HZ : Aside0 (w.heap.size < w4.heap.size) := ⟨blk_lt HJ4.out.box⟩
  go_wp2_with (refine Kd.R_append_row Value.string ByteArray.empty (w0 := w4) w4.heap.size rfl _ _ 22 9 (.string ⟨#[]⟩) 16 rfl Tryd.underlying22 infoS16 rfl (by decide) (.slice none 0 0) [] l A l.length c (fun _ => True) rfl rfl (fun _ _ => trivial) (Kd.R_nil _ _ _ _ _) HJ4.out.row (Below.refl _ _) (Nat.le_refl _) (by simp; omega) ?_; intro v1 w1 hv1 hb1 hg1 hat1; have HS : Aside0 (SR w1 w4.heap.size v1 l ∧ Below w4.heap.size w4 w1) := ⟨by rw [← List.nil_append l]; exact hv1, hb1⟩; clear hv1 hb1 hg1 hat1)
  go_ret2
  exact ⟨_, rfl, Kd.R_lower HS.out.1 (Nat.le_of_lt HZ.out), below_of HJ4.out.below HS.out.2 (Nat.le_of_lt HZ.out)⟩
set_option maxRecDepth 100000 in
set_option maxHeartbeats 4000000 in
theorem rsheets_ins (A : Option Addr) (c : Nat) (l : List ByteArray) (sh : ByteArray) (a n : Int) (nm : ByteArray) (w : World) (hC : ChW w) (hr : Kd.C Kd.string w A l.length l) (hc : l.length ≤ c) (hl : l.length * 16 ≤ 140737488351232) (hG : Small l) (h1 : sh.size ≤ 140737488351232) (h2 : nm.size ≤ 140737488351232)
    (ha : -9223372036854775808 ≤ a ∧ a ≤ 9223372036854775807) (hn : -9223372036854775808 ≤ n ∧ n ≤ 9223372036854775807) (o : Option Nat) (hi : fnd l sh = o) (j : Nat) (hj : a = (j : Int)) (hjl : j ≤ l.length) (hz : chkI 5 a n l.length (fnd l sh) (fnd l nm) (nmOK nm) = 0) :
    Calls Tryd.prog 17 #[.slice A l.length c, shA 5 sh a n nm] w fun e w' => ∃ u, e = .returned (.tuple #[u, .int .i64 (chkI 5 a n l.length (fnd l sh) (fnd l nm) (nmOK nm))]) ∧ SR w' w.heap.size u (l.take j ++ nm :: l.drop j) ∧ Below w.heap.size w w' := by
  obtain ⟨k, hk⟩ : ∃ k : Int, k = 5 := ⟨5, rfl⟩
  rw [← hk] at hz ⊢
  have HCH := Aside0.mk (ShJ.keep (w0 := w) (k := k) (sh := sh) (a := a) (n := n) (nm := nm) fun w' hj => rcheck_calls A c l k sh a n nm w' hj.tabs hj.row (lenle hl) hG h1 h2 ha hn)
  have HF1 := Aside0.mk (ShJ.keep (w0 := w) (k := k) (sh := sh) (a := a) (n := n) (nm := nm) fun w' hj => rfind_calls A c l sh w' hj.row (lenle hl) hG h1)
  have HJ0 : Aside0 (ShJ w A l k sh a n nm (w.alloc (.cells (shC k sh a n nm) 24))) := ⟨ShJ.start hC hr⟩
  clear hC hr
  rw [hz] at HCH ⊢
  rw [hi] at HF1
  clear hz hi
  subst hk
  subst hj
  obtain ⟨x1, x2, hx⟩ : ∃ x1 x2, fndV o = .tuple #[.int .i64 x1, .bool x2] := by cases o <;> exact ⟨_, _, rfl⟩
  rw [hx] at HF1
  clear hx
  go_enter Tryd.func17, Tryd.ntmps17
  go_wp2_with fail
  refine (HCH.out _ HJ0.out).mono ?_
  rintro e w2 ⟨rfl, hb2⟩
  have HJ2 := Aside0.mk (HJ0.out.go hb2.out)
  clear HCH hb2 HJ0
  obtain ⟨c0, c1, c2, c3, c4⟩ := HJ2.out.cells
  go_wp2_with fail
  refine (HF1.out _ HJ2.out).mono ?_
  rintro e w4 ⟨rfl, hb4⟩
  have HJ4 := Aside0.mk (HJ2.out.go hb4.out)
  clear HJ2 HF1 hb4 c0 c1 c2 c3 c4
  obtain ⟨c0, c1, c2, c3, c4⟩ := HJ4.out.cells
  have HZ : Aside0 (w.heap.size < w4.heap.size) := ⟨blk_lt HJ4.out.box⟩
  go_wp2_with fail
  refine (rput_calls A c l j nm w4 HJ4.out.row hc hjl (by omega)).mono ?_
  rintro e w5 ⟨v5, rfl, hv5, hb5⟩
  have HS := Aside0.mk (And.intro hv5 hb5)
  clear hv5 hb5
  go_wp2
  go_ret2
  exact ⟨_, rfl, Kd.R_lower HS.out.1 (Nat.le_of_lt HZ.out), below_of HJ4.out.below HS.out.2 (Nat.le_of_lt HZ.out)⟩
set_option maxRecDepth 100000 in
set_option maxHeartbeats 4000000 in
theorem rsheets_del (A : Option Addr) (c : Nat) (l : List ByteArray) (sh : ByteArray) (a n : Int) (nm : ByteArray) (w : World) (hC : ChW w) (hr : Kd.C Kd.string w A l.length l) (hc : l.length ≤ c) (hl : l.length * 16 ≤ 140737488351232) (hG : Small l) (h1 : sh.size ≤ 140737488351232) (h2 : nm.size ≤ 140737488351232)
    (ha : -9223372036854775808 ≤ a ∧ a ≤ 9223372036854775807) (hn : -9223372036854775808 ≤ n ∧ n ≤ 9223372036854775807) (i : Nat) (hi : fnd l sh = some i) (hil : i < l.length) (hz : chkI 6 a n l.length (fnd l sh) (fnd l nm) (nmOK nm) = 0) :
    Calls Tryd.prog 17 #[.slice A l.length c, shA 6 sh a n nm] w fun e w' => ∃ u, e = .returned (.tuple #[u, .int .i64 (chkI 6 a n l.length (fnd l sh) (fnd l nm) (nmOK nm))]) ∧ SR w' w.heap.size u (l.take i ++ l.drop (i + 1)) ∧ Below w.heap.size w w' := by
  obtain ⟨k, hk⟩ : ∃ k : Int, k = 6 := ⟨6, rfl⟩
  rw [← hk] at hz ⊢
  have HCH := Aside0.mk (ShJ.keep (w0 := w) (k := k) (sh := sh) (a := a) (n := n) (nm := nm) fun w' hj => rcheck_calls A c l k sh a n nm w' hj.tabs hj.row (lenle hl) hG h1 h2 ha hn)
  have HF1 := Aside0.mk (ShJ.keep (w0 := w) (k := k) (sh := sh) (a := a) (n := n) (nm := nm) fun w' hj => rfind_calls A c l sh w' hj.row (lenle hl) hG h1)
  have HJ0 : Aside0 (ShJ w A l k sh a n nm (w.alloc (.cells (shC k sh a n nm) 24))) := ⟨ShJ.start hC hr⟩
  clear hC hr
  rw [hz] at HCH ⊢
  rw [hi] at HF1
  clear hz hi
  subst hk
  unfold fndV at HF1
  go_enter Tryd.func17, Tryd.ntmps17
  go_wp2_with fail
  refine (HCH.out _ HJ0.out).mono ?_
  rintro e w2 ⟨rfl, hb2⟩
  have HJ2 := Aside0.mk (HJ0.out.go hb2.out)
  clear HCH hb2 HJ0
  obtain ⟨c0, c1, c2, c3, c4⟩ := HJ2.out.cells
  go_wp2_with fail
  refine (HF1.out _ HJ2.out).mono ?_
  rintro e w4 ⟨rfl, hb4⟩
  have HJ4 := Aside0.mk (HJ2.out.go hb4.out)
  clear HJ2 HF1 hb4 c0 c1 c2 c3 c4
  obtain ⟨c0, c1, c2, c3, c4⟩ := HJ4.out.cells
  have HZ : Aside0 (w.heap.size < w4.heap.size) := ⟨blk_lt HJ4.out.box⟩
  go_wp2_with fail
  refine (rwithout_calls A c l i w4 HJ4.out.row hc hil (by omega)).mono ?_
  rintro e w5 ⟨v5, rfl, hv5, hb5⟩
  have HS := Aside0.mk (And.intro hv5 hb5)
  clear hv5 hb5
  go_wp2
  go_ret2
  exact ⟨_, rfl, Kd.R_lower HS.out.1 (Nat.le_of_lt HZ.out), below_of HJ4.out.below HS.out.2 (Nat.le_of_lt HZ.out)⟩
set_option maxRecDepth 100000 in
set_option maxHeartbeats 4000000 in
theorem rsheets_nam (A : Option Addr) (c : Nat) (l : List ByteArray) (sh : ByteArray) (a n : Int) (nm : ByteArray) (w : World) (hC : ChW w) (hr : Kd.C Kd.string w A l.length l) (hc : l.length ≤ c) (hl : l.length * 16 ≤ 140737488351232) (hG : Small l) (h1 : sh.size ≤ 140737488351232) (h2 : nm.size ≤ 140737488351232)
    (ha : -9223372036854775808 ≤ a ∧ a ≤ 9223372036854775807) (hn : -9223372036854775808 ≤ n ∧ n ≤ 9223372036854775807) (i : Nat) (hi : fnd l sh = some i) (hil : i < l.length) (hz : chkI 8 a n l.length (fnd l sh) (fnd l nm) (nmOK nm) = 0) :
    Calls Tryd.prog 17 #[.slice A l.length c, shA 8 sh a n nm] w fun e w' => ∃ u, e = .returned (.tuple #[u, .int .i64 (chkI 8 a n l.length (fnd l sh) (fnd l nm) (nmOK nm))]) ∧ SR w' w.heap.size u ((l.take i ++ l.drop (i + 1)).take i ++ nm :: (l.take i ++ l.drop (i + 1)).drop i) ∧ Below w.heap.size w w' := by
  obtain ⟨k, hk⟩ : ∃ k : Int, k = 8 := ⟨8, rfl⟩
  rw [← hk] at hz ⊢
  have HCH := Aside0.mk (ShJ.keep (w0 := w) (k := k) (sh := sh) (a := a) (n := n) (nm := nm) fun w' hj => rcheck_calls A c l k sh a n nm w' hj.tabs hj.row (lenle hl) hG h1 h2 ha hn)
  have HF1 := Aside0.mk (ShJ.keep (w0 := w) (k := k) (sh := sh) (a := a) (n := n) (nm := nm) fun w' hj => rfind_calls A c l sh w' hj.row (lenle hl) hG h1)
  have HJ0 : Aside0 (ShJ w A l k sh a n nm (w.alloc (.cells (shC k sh a n nm) 24))) := ⟨ShJ.start hC hr⟩
  clear hC hr
  rw [hz] at HCH ⊢
  rw [hi] at HF1
  clear hz hi
  subst hk
  unfold fndV at HF1
  go_enter Tryd.func17, Tryd.ntmps17
  go_wp2_with fail
  refine (HCH.out _ HJ0.out).mono ?_
  rintro e w2 ⟨rfl, hb2⟩
  have HJ2 := Aside0.mk (HJ0.out.go hb2.out)
  clear HCH hb2 HJ0
  obtain ⟨c0, c1, c2, c3, c4⟩ := HJ2.out.cells
  go_wp2_with fail
  refine (HF1.out _ HJ2.out).mono ?_
  rintro e w4 ⟨rfl, hb4⟩
  have HJ4 := Aside0.mk (HJ2.out.go hb4.out)
  clear HJ2 HF1 hb4 c0 c1 c2 c3 c4
  obtain ⟨c0, c1, c2, c3, c4⟩ := HJ4.out.cells
  have HZ : Aside0 (w.heap.size < w4.heap.size) := ⟨blk_lt HJ4.out.box⟩
  have HLE : Aside0 ((l.take i ++ l.drop (i + 1)).length = l.length - 1) := ⟨by simp; omega⟩
  have HPT : Aside0 (∀ (A5 : Option Addr) (c5 : Nat) (W : World) (s : ByteArray) (q : Nat), q ≤ l.length - 1 → l.length - 1 ≤ c5 → SR W w4.heap.size (.slice A5 (l.length - 1) c5) (l.take i ++ l.drop (i + 1)) → Calls Tryd.prog 44 #[.slice A5 (l.length - 1) c5, .int .i64 (q : Int), .string s] W fun e w' => ∃ u, e = .returned u ∧ SR w' W.heap.size u ((l.take i ++ l.drop (i + 1)).take q ++ s :: (l.take i ++ l.drop (i + 1)).drop q) ∧ Below W.heap.size W w') := ⟨by
    have hle := HLE.out
    generalize l.take i ++ l.drop (i + 1) = m at *
    rw [← hle]
    intro A5 c5 W s q g1 g2 g3
    exact rput_calls A5 c5 m q s W (Kd.R_reads' g3).2.2 g2 g1 (by omega)⟩
  have HKS : Aside0 (∀ w', Below w4.heap.size w4 w' → w'.cell? ⟨w.heap.size, 4, none⟩ = some (.string nm) ∧ Aside0 (Below w4.heap.size w4 w')) := ⟨fun w' hb => ⟨(hb.cell HZ.out).trans c4, ⟨hb⟩⟩⟩
  generalize hml : l.take i ++ l.drop (i + 1) = m at *
  have HML := Aside0.mk hml
  clear hml
  go_wp2
  go_region_held3 (fun w' => w'.cell? ⟨w.heap.size, 4, none⟩ = some (.string nm) ∧ Aside0 (Below w4.heap.size w4 w'))
    (first | exact HKS.out _ (Below.drew (Aside0.out (by assumption))) | exact HKS.out _ (Aside0.out (by assumption)) | exact HKS.out _ (Below.refl _ _) | exact HKS.out _ ((Below.refl _ _).drew))
    (first
      | (go_at_call 45; refine (rwithout2 A c l i _ (Kd.C_below HJ4.out.row (Aside0.out (And.right (by assumption)))) hc hil (by omega)).mono ?_; rintro e w5 ⟨A5, c5, rfl, hc5, hv5, hb5⟩; rw [HML.out] at hv5; have HC5 := Aside0.mk hc5; have HV5 := Aside0.mk hv5; have HB5 : Aside0 (Below w4.heap.size w4 w5) := ⟨Below.trans (Aside0.out (And.right (by assumption))) hb5⟩; clear hv5 hb5 hc5)
      | (go_at_call 44; refine (HPT.out A5 c5 w5 nm i (by omega) HC5.out HV5.out).mono ?_; rintro e w6 ⟨v6, rfl, hv6, hb6⟩; have HV6 := Aside0.mk (Kd.R_lower hv6 HB5.out.size); have HB6 : Aside0 (Below w4.heap.size w4 w6) := ⟨HB5.out.trans (hb6.mono HB5.out.size)⟩; clear hv6 hb6))
  all_goals go_wp2
  all_goals go_ret2
  all_goals exact ⟨_, rfl, by have h := Kd.R_lower HV6.out (Nat.le_of_lt HZ.out); rw [← HML.out] at h; exact h, below_of HJ4.out.below HB6.out (Nat.le_of_lt HZ.out)⟩
set_option maxRecDepth 100000 in
set_option maxHeartbeats 4000000 in
theorem rsheets_mov (A : Option Addr) (c : Nat) (l : List ByteArray) (sh : ByteArray) (a n : Int) (nm : ByteArray) (w : World) (hC : ChW w) (hr : Kd.C Kd.string w A l.length l) (hc : l.length ≤ c) (hl : l.length * 16 ≤ 140737488351232) (hG : Small l) (h1 : sh.size ≤ 140737488351232) (h2 : nm.size ≤ 140737488351232)
    (ha : -9223372036854775808 ≤ a ∧ a ≤ 9223372036854775807) (hn : -9223372036854775808 ≤ n ∧ n ≤ 9223372036854775807) (i : Nat) (hi : fnd l sh = some i) (hil : i < l.length) (j : Nat) (hj : a = (j : Int)) (hjl : j < l.length) (hz : chkI 7 a n l.length (fnd l sh) (fnd l nm) (nmOK nm) = 0) :
    Calls Tryd.prog 17 #[.slice A l.length c, shA 7 sh a n nm] w fun e w' => ∃ u, e = .returned (.tuple #[u, .int .i64 (chkI 7 a n l.length (fnd l sh) (fnd l nm) (nmOK nm))]) ∧ SR w' w.heap.size u ((l.take i ++ l.drop (i + 1)).take j ++ l.getD i ByteArray.empty :: (l.take i ++ l.drop (i + 1)).drop j) ∧ Below w.heap.size w w' := by
  obtain ⟨k, hk⟩ : ∃ k : Int, k = 7 := ⟨7, rfl⟩
  rw [← hk] at hz ⊢
  have HCH := Aside0.mk (ShJ.keep (w0 := w) (k := k) (sh := sh) (a := a) (n := n) (nm := nm) fun w' hj => rcheck_calls A c l k sh a n nm w' hj.tabs hj.row (lenle hl) hG h1 h2 ha hn)
  have HF1 := Aside0.mk (ShJ.keep (w0 := w) (k := k) (sh := sh) (a := a) (n := n) (nm := nm) fun w' hj => rfind_calls A c l sh w' hj.row (lenle hl) hG h1)
  have HJ0 : Aside0 (ShJ w A l k sh a n nm (w.alloc (.cells (shC k sh a n nm) 24))) := ⟨ShJ.start hC hr⟩
  clear hC hr
  rw [hz] at HCH ⊢
  rw [hi] at HF1
  clear hz hi
  subst hk
  unfold fndV at HF1
  subst hj
  go_enter Tryd.func17, Tryd.ntmps17
  go_wp2_with fail
  refine (HCH.out _ HJ0.out).mono ?_
  rintro e w2 ⟨rfl, hb2⟩
  have HJ2 := Aside0.mk (HJ0.out.go hb2.out)
  clear HCH hb2 HJ0
  obtain ⟨c0, c1, c2, c3, c4⟩ := HJ2.out.cells
  go_wp2_with fail
  refine (HF1.out _ HJ2.out).mono ?_
  rintro e w4 ⟨rfl, hb4⟩
  have HJ4 := Aside0.mk (HJ2.out.go hb4.out)
  clear HJ2 HF1 hb4 c0 c1 c2 c3 c4
  obtain ⟨c0, c1, c2, c3, c4⟩ := HJ4.out.cells
  have HZ : Aside0 (w.heap.size < w4.heap.size) := ⟨blk_lt HJ4.out.box⟩
  have HLE : Aside0 ((l.take i ++ l.drop (i + 1)).length = l.length - 1) := ⟨by simp; omega⟩
  have HPT : Aside0 (∀ (A5 : Option Addr) (c5 : Nat) (W : World) (s : ByteArray) (q : Nat), q ≤ l.length - 1 → l.length - 1 ≤ c5 → SR W w4.heap.size (.slice A5 (l.length - 1) c5) (l.take i ++ l.drop (i + 1)) → Calls Tryd.prog 44 #[.slice A5 (l.length - 1) c5, .int .i64 (q : Int), .string s] W fun e w' => ∃ u, e = .returned u ∧ SR w' W.heap.size u ((l.take i ++ l.drop (i + 1)).take q ++ s :: (l.take i ++ l.drop (i + 1)).drop q) ∧ Below W.heap.size W w') := ⟨by
    have hle := HLE.out
    generalize l.take i ++ l.drop (i + 1) = m at *
    rw [← hle]
    intro A5 c5 W s q g1 g2 g3
    exact rput_calls A5 c5 m q s W (Kd.R_reads' g3).2.2 g2 g1 (by omega)⟩
  obtain ⟨ad, e1, hx⟩ := Kd.at_string HJ4.out.row (i : Int) (by omega) (by omega)
  subst e1
  rw [Int.toNat_natCast, show rdOf ByteArray.empty l (i : Int) = l.getD i ByteArray.empty from rfl] at hx
  generalize hsi : l.getD i ByteArray.empty = si at *
  have HSI := Aside0.mk hsi
  clear hsi
  have HX := Aside0.mk hx
  have HKS : Aside0 (∀ w', Below w4.heap.size w4 w' → w'.cell? ⟨w.heap.size, 2, none⟩ = some (.int .i64 (j : Int)) ∧ w'.cell? (ad.add i) = some (.string si) ∧ Aside0 (Below w4.heap.size w4 w')) := ⟨fun w' hb => ⟨(hb.cell HZ.out).trans c2, (hb.cell (lt_of_cell HX.out)).trans HX.out, ⟨hb⟩⟩⟩
  generalize hml : l.take i ++ l.drop (i + 1) = m at *
  have HML := Aside0.mk hml
  clear hml
  have q1 : (0 : Int) ≤ (i : Int) := by omega
  have q2 : (i : Int) < (l.length : Int) := by omega
  go_wp2
  go_region_held3 (fun w' => w'.cell? ⟨w.heap.size, 2, none⟩ = some (.int .i64 (j : Int)) ∧ w'.cell? (ad.add i) = some (.string si) ∧ Aside0 (Below w4.heap.size w4 w'))
    (first | exact HKS.out _ (Below.drew (Aside0.out (by assumption))) | exact HKS.out _ (Aside0.out (by assumption)) | exact HKS.out _ (Below.refl _ _) | exact HKS.out _ ((Below.refl _ _).drew))
    (first
      | (go_at_call 45; refine (rwithout2 _ c l i _ (Kd.C_below HJ4.out.row (Aside0.out (And.right (And.right (by assumption))))) hc hil (by omega)).mono ?_; rintro e w5 ⟨A5, c5, rfl, hc5, hv5, hb5⟩; rw [HML.out] at hv5; have HC5 := Aside0.mk hc5; have HV5 := Aside0.mk hv5; have HB5 : Aside0 (Below w4.heap.size w4 w5) := ⟨Below.trans (Aside0.out (And.right (And.right (by assumption)))) hb5⟩; clear hv5 hb5 hc5)
      | (go_at_call 44; refine (HPT.out A5 c5 w5 si j (by omega) HC5.out HV5.out).mono ?_; rintro e w6 ⟨v6, rfl, hv6, hb6⟩; have HV6 := Aside0.mk (Kd.R_lower hv6 HB5.out.size); have HB6 : Aside0 (Below w4.heap.size w4 w6) := ⟨HB5.out.trans (hb6.mono HB5.out.size)⟩; clear hv6 hb6))
  all_goals go_wp2
  all_goals go_ret2
  all_goals exact ⟨_, rfl, by have h := Kd.R_lower HV6.out (Nat.le_of_lt HZ.out); rw [← HML.out, ← HSI.out] at h; exact h, below_of HJ4.out.below HB6.out (Nat.le_of_lt HZ.out)⟩
end Go.Proofs.YtfkoiebnpgodmaaDoor.Hw
/- Which shifts may be, and which sheets there are then: the program and the document alike. -/
namespace Go.Proofs.YtfkoiebnpgodmaaDoor.Hw
open Go.RowKit Go.Proofs.YtfkoiebnpgodmaaDoorW.PrintWords Go.Proofs.YtfkoiebnpgodmaaDoorW.PrintLast Go.Proofs.YtfkoiebnpgodmaaDoorW.PrintMore Go.Proofs.YtfkoiebnpgodmaaDoor.PH Go.Proofs.YtfkoiebnpgodmaaDoor.CP Go.Proofs.YtfkoiebnpgodmaaDoor.Op
set_option linter.unusedVariables false
set_option linter.unusedSimpArgs false
def sheetsO (k a n : Int) (nm : ByteArray) (l : List ByteArray) (sh : ByteArray) : List ByteArray :=
  if chkI k a n l.length (fnd l sh) (fnd l nm) (nmOK nm) = 0 then sheetsI k a nm l ((fnd l sh).getD 0) else []
theorem set_at (l : List ByteArray) (s : ByteArray) (i : Nat) (hi : i < l.length) : (l.take i ++ l.drop (i + 1)).take i ++ s :: (l.take i ++ l.drop (i + 1)).drop i = l.set i s := by
  have h1 : (l.take i).length = i := by rw [List.length_take]; omega
  rw [List.set_eq_take_append_cons_drop, if_pos hi, List.take_append_of_le_length (by omega), List.drop_append_of_le_length (by omega), List.take_of_length_le (by omega), List.drop_of_length_le (by omega), List.nil_append]
section
variable (A : Option Addr) (c : Nat) (l : List ByteArray) (k : Int) (sh : ByteArray) (a n : Int) (nm : ByteArray) (w : World) (hC : ChW w) (hr : Kd.C Kd.string w A l.length l) (hc : l.length ≤ c) (hl : l.length * 16 ≤ 140737488351232) (hG : Small l) (h1 : sh.size ≤ 140737488351232) (h2 : nm.size ≤ 140737488351232)
    (ha : -9223372036854775808 ≤ a ∧ a ≤ 9223372036854775807) (hn : -9223372036854775808 ≤ n ∧ n ≤ 9223372036854775807)
include hC hr hl hG h1 h2 ha hn
theorem sheets_calls :
    Calls Tryd.prog 16 #[.slice A l.length c, shA k sh a n nm] w fun e w' => ∃ u, e = .returned (.tuple #[u, .int .i64 (chkI k a n l.length (fnd l sh) (fnd l nm) (nmOK nm))]) ∧ SR w' w.heap.size u (sheetsO k a n nm l sh) ∧ Below w.heap.size w w' := by
  by_cases hz : chkI k a n l.length (fnd l sh) (fnd l nm) (nmOK nm) = 0
  · obtain ⟨k1, k2, k3, k4, k5, k7⟩ := chk_ok hz
    have hO : sheetsO k a n nm l sh = sheetsI k a nm l ((fnd l sh).getD 0) := by unfold sheetsO; rw [if_pos hz]
    rw [hO]
    by_cases g5 : k = 5
    · subst g5
      have h := sheets_ins A c l sh a n nm w hC hr hl hG h1 h2 ha hn _ rfl a.toNat (by have := k5 rfl; omega) (by have := k5 rfl; omega) hz
      simpa [sheetsI] using h
    · obtain ⟨i, hi⟩ := k2 g5
      have hil := fnd_lt l sh i hi
      have hgd : (fnd l sh).getD 0 = i := by rw [hi]; rfl
      rw [hgd]
      by_cases g4 : k ≤ 4
      · have h := sheets_line A c l k sh a n nm w hC hr hl hG h1 h2 ha hn i hi (by omega) hz
        have e : sheetsI k a nm l i = l := by unfold sheetsI; rw [if_neg g5, if_neg (by omega), if_neg (by omega), if_neg (by omega)]
        rw [e]; exact h
      · by_cases g6 : k = 6
        · subst g6
          have h := sheets_del A c l sh a n nm w hC hr hl hG h1 h2 ha hn i hi hil hz
          simpa [sheetsI] using h
        · by_cases g7 : k = 7
          · subst g7
            have h := sheets_mov A c l sh a n nm w hC hr hl hG h1 h2 ha hn i hi hil a.toNat (by have := k7 rfl; omega) (by have := k7 rfl; omega) hz
            have e : sheetsI 7 a nm l i = (l.take i ++ l.drop (i + 1)).take a.toNat ++ l.getD i ByteArray.empty :: (l.take i ++ l.drop (i + 1)).drop a.toNat := by unfold sheetsI; rw [if_neg (by decide), if_neg (by decide), if_pos rfl]
            rw [e]; exact h
          · have g8 : k = 8 := by omega
            subst g8
            have h := sheets_nam A c l sh a n nm w hC hr hl hG h1 h2 ha hn i hi hil hz
            simpa [sheetsI] using h
  · have h := sheets_bad A c l k sh a n nm w hC hr hl hG h1 h2 ha hn hz
    have e : sheetsO k a n nm l sh = [] := by unfold sheetsO; rw [if_neg hz]
    rw [e]; exact h
include hc in
theorem rsheets_calls :
    Calls Tryd.prog 17 #[.slice A l.length c, shA k sh a n nm] w fun e w' => ∃ u, e = .returned (.tuple #[u, .int .i64 (chkI k a n l.length (fnd l sh) (fnd l nm) (nmOK nm))]) ∧ SR w' w.heap.size u (sheetsO k a n nm l sh) ∧ Below w.heap.size w w' := by
  by_cases hz : chkI k a n l.length (fnd l sh) (fnd l nm) (nmOK nm) = 0
  · obtain ⟨k1, k2, k3, k4, k5, k7⟩ := chk_ok hz
    have hO : sheetsO k a n nm l sh = sheetsI k a nm l ((fnd l sh).getD 0) := by unfold sheetsO; rw [if_pos hz]
    rw [hO]
    by_cases g5 : k = 5
    · subst g5
      have h := rsheets_ins A c l sh a n nm w hC hr hc hl hG h1 h2 ha hn _ rfl a.toNat (by have := k5 rfl; omega) (by have := k5 rfl; omega) hz
      simpa [sheetsI] using h
    · obtain ⟨i, hi⟩ := k2 g5
      have hil := fnd_lt l sh i hi
      have hgd : (fnd l sh).getD 0 = i := by rw [hi]; rfl
      rw [hgd]
      by_cases g4 : k ≤ 4
      · have h := rsheets_line A c l k sh a n nm w hC hr hc hl hG h1 h2 ha hn i hi (by omega) hz
        have e : sheetsI k a nm l i = l := by unfold sheetsI; rw [if_neg g5, if_neg (by omega), if_neg (by omega), if_neg (by omega)]
        rw [e]; exact h
      · by_cases g6 : k = 6
        · subst g6
          have h := rsheets_del A c l sh a n nm w hC hr hc hl hG h1 h2 ha hn i hi hil hz
          simpa [sheetsI] using h
        · by_cases g7 : k = 7
          · subst g7
            have h := rsheets_mov A c l sh a n nm w hC hr hc hl hG h1 h2 ha hn i hi hil a.toNat (by have := k7 rfl; omega) (by have := k7 rfl; omega) hz
            have e : sheetsI 7 a nm l i = (l.take i ++ l.drop (i + 1)).take a.toNat ++ l.getD i ByteArray.empty :: (l.take i ++ l.drop (i + 1)).drop a.toNat := by unfold sheetsI; rw [if_neg (by decide), if_neg (by decide), if_pos rfl]
            rw [e]; exact h
          · have g8 : k = 8 := by omega
            subst g8
            have h := rsheets_nam A c l sh a n nm w hC hr hc hl hG h1 h2 ha hn i hi hil hz
            have e : sheetsI 8 a nm l i = l.set i nm := by unfold sheetsI; rw [if_neg (by decide), if_neg (by decide), if_neg (by decide), if_pos rfl]
            rw [e, ← set_at l nm i hil]; exact h
  · have h := rsheets_bad A c l k sh a n nm w hC hr hc hl hG h1 h2 ha hn hz
    have e : sheetsO k a n nm l sh = [] := by unfold sheetsO; rw [if_neg hz]
    rw [e]; exact h
end
theorem eq_loop (l : List ByteArray) (hl : l.length ≤ 9223372036854775807) : ∀ (d i : Nat), l.length - i = d → i ≤ l.length → slices_Equal_string_string.l0 (d + 1) l l (l.length : Int) (i : Int) = some true
  | 0, i, hd, hi => by
    rw [slices_Equal_string_string.l0, if_neg (by omega)]
  | d + 1, i, hd, hi => by
    have w1 : wrap64 ((i : Int) + 1) = ((i + 1 : Nat) : Int) := by unfold wrap64; omega
    rw [slices_Equal_string_string.l0, if_pos (by omega), if_pos (by omega), if_pos (by omega), if_pos (by omega), if_pos rfl, w1]
    exact eq_loop l hl d (i + 1) (by omega) (by omega)
theorem eq_is (l : List ByteArray) (hl : l.length ≤ 9223372036854775807) : slices_Equal_string_string.f (l.length + 1) l l = some true := by
  unfold slices_Equal_string_string.f
  rw [if_pos rfl]
  exact eq_loop l hl l.length 0 (by omega) (by omega)
/-- Behind a law's begin: the case lies boxed; the names are read; the tables hold; the two answers are read. -/
structure QJ (w0 : World) (A : Option Addr) (l : List ByteArray) (c : Nat) (k : Int) (sh : ByteArray) (a n : Int) (nm own : ByteArray) (A7 A9 : Option Addr) (m7 m9 : List ByteArray) (w : World) : Prop where
  below : Below w0.heap.size w0 w
  box0 : w.heap[w0.heap.size]? = some (.cells #[.slice A l.length c, .int .i64 k, .string sh, .int .i64 a, .int .i64 n, .string nm, .string own] 26 (0, 0))
  row : Kd.C Kd.string w A l.length l
  tabs : ChW w
  r7 : Kd.C Kd.string w A7 m7.length m7
  r9 : Kd.C Kd.string w A9 m9.length m9
section
variable {w0 w w' : World} {A : Option Addr} {l : List ByteArray} {c : Nat} {k : Int} {sh : ByteArray} {a n : Int} {nm own : ByteArray} {A7 A9 : Option Addr} {m7 m9 : List ByteArray}
theorem QJ.go (h : QJ w0 A l c k sh a n nm own A7 A9 m7 m9 w) (hb : Below w.heap.size w w') : QJ w0 A l c k sh a n nm own A7 A9 m7 m9 w' :=
  ⟨h.below.trans (hb.mono h.below.size), (hb.block _ (blk_lt h.box0)).trans h.box0, Kd.C_below h.row hb, h.tabs.go hb, Kd.C_below h.r7 hb, Kd.C_below h.r9 hb⟩
theorem QJ.cells (h : QJ w0 A l c k sh a n nm own A7 A9 m7 m9 w) : w.cell? ⟨w0.heap.size, 0, none⟩ = some (.slice A l.length c) ∧ w.cell? ⟨w0.heap.size, 1, none⟩ = some (.int .i64 k) ∧ w.cell? ⟨w0.heap.size, 2, none⟩ = some (.string sh) ∧ w.cell? ⟨w0.heap.size, 3, none⟩ = some (.int .i64 a) ∧ w.cell? ⟨w0.heap.size, 4, none⟩ = some (.int .i64 n) ∧ w.cell? ⟨w0.heap.size, 5, none⟩ = some (.string nm) ∧ w.cell? ⟨w0.heap.size, 6, none⟩ = some (.string own) ∧ Aside0 (QJ w0 A l c k sh a n nm own A7 A9 m7 m9 w) :=
  ⟨(blk_cell h.box0 0).trans rfl, (blk_cell h.box0 1).trans rfl, (blk_cell h.box0 2).trans rfl, (blk_cell h.box0 3).trans rfl, (blk_cell h.box0 4).trans rfl, (blk_cell h.box0 5).trans rfl, (blk_cell h.box0 6).trans rfl, ⟨h⟩⟩
theorem QJ.drew (h : QJ w0 A l c k sh a n nm own A7 A9 m7 m9 w) : QJ w0 A l c k sh a n nm own A7 A9 m7 m9 w.drew := h.go ((Below.refl _ _).drew)
theorem c_nil (w : World) : Kd.C Kd.string w none ([] : List ByteArray).length [] := ⟨rfl, by simp, fun h => absurd h (Nat.lt_irrefl _)⟩
theorem QJ.start (hC : ChW w0) (hr : Kd.C Kd.string w0 A l.length l) : QJ w0 A l c k sh a n nm own none none [] [] (w0.alloc (.cells #[.slice A l.length c, .int .i64 k, .string sh, .int .i64 a, .int .i64 n, .string nm, .string own] 26)) := by
  have b := (Below.refl w0.heap.size w0).alloc (Nat.le_refl _) (.cells #[.slice A l.length c, .int .i64 k, .string sh, .int .i64 a, .int .i64 n, .string nm, .string own] 26)
  exact ⟨b, heap_alloc_new w0 _, Kd.C_below hr b, hC.go b, c_nil _, c_nil _⟩
theorem QJ.on {f : FuncId} {args : Array Value} {v : Ending} (h : ∀ w, QJ w0 A l c k sh a n nm own A7 A9 m7 m9 w → Calls Tryd.prog f args w fun e w' => e = v ∧ Below w.heap.size w w') :
    ∀ w, Aside0 (QJ w0 A l c k sh a n nm own A7 A9 m7 m9 w) → Calls Tryd.prog f args w fun e w' => e = v ∧ Aside0 (QJ w0 A l c k sh a n nm own A7 A9 m7 m9 w') := fun w hj =>
  (h w hj.out).mono fun e w' ⟨h1, h2⟩ => ⟨h1, ⟨hj.out.go h2⟩⟩
end
set_option maxRecDepth 100000 in
set_option maxHeartbeats 8000000 in
theorem shiftSheets_walk0 (A : Option Addr) (c : Nat) (l : List ByteArray) (k : Int) (sh : ByteArray) (a n : Int) (nm own p q : ByteArray) (w : World) (hC : ChW w) (hr : Kd.C Kd.string w A l.length l) (hc : l.length ≤ c) (hl : l.length * 16 ≤ 140737488351232) (hG : Small l) (h1 : sh.size ≤ 140737488351232) (h2 : nm.size ≤ 140737488351232) (hp : p.size ≤ 140737488351232) (hq : q.size ≤ 140737488351232)
    (ha : -9223372036854775808 ≤ a ∧ a ≤ 9223372036854775807) (hn : -9223372036854775808 ≤ n ∧ n ≤ 9223372036854775807) :
    Calls Tryd.prog 6 #[.agg #[.slice A l.length c, .int .i64 k, .string sh, .int .i64 a, .int .i64 n, .string nm, .string own], .string p, .string q] w fun e w' => e = .returned (.bool true) ∧ Below w.heap.size w w' := by
  have H16 : Aside0 (∀ w1, ChW w1 → Kd.C Kd.string w1 A l.length l → _) := ⟨fun w1 g1 g2 => sheets_calls A c l k sh a n nm w1 g1 g2 hl hG h1 h2 ha hn⟩
  have H17 : Aside0 (∀ w1, ChW w1 → Kd.C Kd.string w1 A l.length l → _) := ⟨fun w1 g1 g2 => rsheets_calls A c l k sh a n nm w1 g1 g2 hc hl hG h1 h2 ha hn⟩
  have HF : Aside0 (∀ w1, Kd.C Kd.string w1 A l.length l → _) := ⟨fun w1 g => find_calls A c l p w1 g (lenle hl) hG hp⟩
  have HR : Aside0 (∀ w1, Kd.C Kd.string w1 A l.length l → _) := ⟨fun w1 g => rfind_calls A c l p w1 g (lenle hl) hG hp⟩
  have HK1 : Aside0 (∀ w1, ChW w1 → Kd.C Kd.string w1 A l.length l → _) := ⟨fun w1 g1 g2 => check_calls A c l k sh a n nm w1 g1 g2 (lenle hl) hG h1 h2 ha hn⟩
  have HK2 : Aside0 (∀ w1, ChW w1 → Kd.C Kd.string w1 A l.length l → _) := ⟨fun w1 g1 g2 => rcheck_calls A c l k sh a n nm w1 g1 g2 (lenle hl) hG h1 h2 ha hn⟩
  have HA1 : Aside0 (∀ w1, _) := ⟨fun w1 => alike_calls p q w1 hp hq⟩
  have HA2 : Aside0 (∀ w1, _) := ⟨fun w1 => ralike_calls p q w1 hp hq⟩
  have HJ0 : Aside0 (QJ w A l c k sh a n nm own none none [] [] _) := ⟨QJ.start hC hr⟩
  clear hC hr hG
  generalize alk p q = al at *
  obtain ⟨x1, x2, hx⟩ : ∃ x1 x2, fndV (fnd l p) = .tuple #[.int .i64 x1, .bool x2] := by cases fnd l p <;> exact ⟨_, _, rfl⟩
  rw [hx] at HF HR
  clear hx
  generalize chkI k a n l.length (fnd l sh) (fnd l nm) (nmOK nm) = ch at *
  generalize sheetsO k a n nm l sh = out at *
  obtain ⟨c0, c1, c2, c3, c4, c5, c6, _⟩ := HJ0.out.cells
  go_enter Tryd.func6, Tryd.ntmps6
  go_wp2_with fail
  refine (H16.out _ HJ0.out.tabs HJ0.out.row).mono ?_
  rintro e w2 ⟨v7, rfl, hv, hb⟩
  obtain ⟨A7, c7, rfl, hc7, hr7⟩ := Kd.R_reads hv
  have HC7 := Aside0.mk hc7
  have HJ1 : Aside0 (QJ w A l c k sh a n nm own A7 none out [] w2) := ⟨have h := HJ0.out.go hb; ⟨h.below, h.box0, h.row, h.tabs, hr7, c_nil _⟩⟩
  clear HJ0 hv hb hr7 hc7 c0 c1 c2 c3 c4 c5 c6 H16
  obtain ⟨c0, c1, c2, c3, c4, c5, c6, _⟩ := HJ1.out.cells
  go_wp2_with fail
  refine (H17.out _ HJ1.out.tabs HJ1.out.row).mono ?_
  rintro e w3 ⟨v9, rfl, hv, hb⟩
  obtain ⟨A9, c9, rfl, hc9, hr9⟩ := Kd.R_reads hv
  have HC9 := Aside0.mk hc9
  have HJ2 : Aside0 (QJ w A l c k sh a n nm own A7 A9 out out w3) := ⟨have h := HJ1.out.go hb; ⟨h.below, h.box0, h.row, h.tabs, h.r7, hr9⟩⟩
  clear HJ1 hv hb hr9 hc9 c0 c1 c2 c3 c4 c5 c6 H17
  obtain ⟨c0, c1, c2, c3, c4, c5, c6, _⟩ := HJ2.out.cells
  go_wp2_with fail
  refine (HF.out _ HJ2.out.row).mono ?_
  rintro e w4 ⟨rfl, hb⟩
  have HJ3 := Aside0.mk (HJ2.out.go hb)
  clear HJ2 hb c0 c1 c2 c3 c4 c5 c6 HF
  obtain ⟨c0, c1, c2, c3, c4, c5, c6, _⟩ := HJ3.out.cells
  go_wp2_with fail
  refine (HR.out _ HJ3.out.row).mono ?_
  rintro e w5 ⟨rfl, hb⟩
  have HJ4 := Aside0.mk (HJ3.out.go hb)
  clear HJ3 hb c0 c1 c2 c3 c4 c5 c6 HR
  have G1 := Aside0.mk (QJ.on (w0 := w) (A := A) (l := l) (c := c) (k := k) (sh := sh) (a := a) (n := n) (nm := nm) (own := own) (A7 := A7) (A9 := A9) (m7 := out) (m9 := out) fun w1 hj => live15_calls w1 hj.tabs)
  have G2 := Aside0.mk (QJ.on (w0 := w) (A := A) (l := l) (c := c) (k := k) (sh := sh) (a := a) (n := n) (nm := nm) (own := own) (A7 := A7) (A9 := A9) (m7 := out) (m9 := out) fun w1 hj => HK1.out w1 hj.tabs hj.row)
  have G3 := Aside0.mk (QJ.on (w0 := w) (A := A) (l := l) (c := c) (k := k) (sh := sh) (a := a) (n := n) (nm := nm) (own := own) (A7 := A7) (A9 := A9) (m7 := out) (m9 := out) fun w1 hj => HK2.out w1 hj.tabs hj.row)
  have G4 := Aside0.mk (QJ.on (w0 := w) (A := A) (l := l) (c := c) (k := k) (sh := sh) (a := a) (n := n) (nm := nm) (own := own) (A7 := A7) (A9 := A9) (m7 := out) (m9 := out) fun w1 hj => (slices_Equal_string_string.calls _ A7 c7 out A9 c9 out true w1 hj.r7 HC7.out hj.r9 HC9.out (eq_is out hj.r7.2.1)).mono fun e w' h => ⟨h.1, by obtain ⟨q, rfl⟩ := h.2.out; exact pw_below_drewN (Below.refl _ _) _⟩)
  have G5 := Aside0.mk (QJ.on (w0 := w) (A := A) (l := l) (c := c) (k := k) (sh := sh) (a := a) (n := n) (nm := nm) (own := own) (A7 := A7) (A9 := A9) (m7 := out) (m9 := out) fun w1 hj => HA1.out w1)
  have G6 := Aside0.mk (QJ.on (w0 := w) (A := A) (l := l) (c := c) (k := k) (sh := sh) (a := a) (n := n) (nm := nm) (own := own) (A7 := A7) (A9 := A9) (m7 := out) (m9 := out) fun w1 hj => HA2.out w1)
  clear HK1 HK2 HA1 HA2
  have HS := HJ4.out.cells
  go_wp2
  go_region_held3 (fun w' => w'.cell? ⟨w.heap.size, 0, none⟩ = some (.slice A l.length c) ∧ w'.cell? ⟨w.heap.size, 1, none⟩ = some (.int .i64 k) ∧ w'.cell? ⟨w.heap.size, 2, none⟩ = some (.string sh) ∧ w'.cell? ⟨w.heap.size, 3, none⟩ = some (.int .i64 a) ∧ w'.cell? ⟨w.heap.size, 4, none⟩ = some (.int .i64 n) ∧ w'.cell? ⟨w.heap.size, 5, none⟩ = some (.string nm) ∧ w'.cell? ⟨w.heap.size, 6, none⟩ = some (.string own) ∧ Aside0 (QJ w A l c k sh a n nm own A7 A9 out out w'))
    (first | exact QJ.cells (QJ.drew (Aside0.out (by assumption))) | exact QJ.cells (Aside0.out (by assumption)))
    (first
      | (go_at_call 10; refine (G1.out _ (And.right (And.right (And.right (And.right (And.right (And.right (And.right (by assumption))))))))).mono ?_; rintro e w6 ⟨rfl, hb6⟩)
      | (go_at_call 11; refine (G2.out _ (And.right (And.right (And.right (And.right (And.right (And.right (And.right (by assumption))))))))).mono ?_; rintro e w6 ⟨rfl, hb6⟩)
      | (go_at_call 12; refine (G3.out _ (And.right (And.right (And.right (And.right (And.right (And.right (And.right (by assumption))))))))).mono ?_; rintro e w6 ⟨rfl, hb6⟩)
      | (go_at_call 20; refine (G4.out _ (And.right (And.right (And.right (And.right (And.right (And.right (And.right (by assumption))))))))).mono ?_; rintro e w6 ⟨rfl, hb6⟩)
      | (go_at_call 21; refine (G5.out _ (And.right (And.right (And.right (And.right (And.right (And.right (And.right (by assumption))))))))).mono ?_; rintro e w6 ⟨rfl, hb6⟩)
      | (go_at_call 22; refine (G6.out _ (And.right (And.right (And.right (And.right (And.right (And.right (And.right (by assumption))))))))).mono ?_; rintro e w6 ⟨rfl, hb6⟩))
  all_goals go_wp2
  all_goals go_ret
  all_goals exact ⟨rfl, QJ.below (Aside0.out (by assumption))⟩
theorem opens_case16 {H : Type} {enc : TypeId × Value → H} {w : World} : Opens enc Tryd.prog w 26 kdCase (fun x => GCase x ∧ x.1.length * 16 ≤ 140737488351232) := by
  refine (opens_struct Tryd.underlying26 (by kernel_rfl) (opensF_cons (opens_slice (B := 16) Tryd.underlying22 (opens_string Tryd.underlying9) (by kernel_rfl) (by kernel_rfl)) rfl (by kernel_rfl) rfl (opensF_cons opens_shift rfl (by kernel_rfl) rfl (opensF_one (opens_string Tryd.underlying9) rfl (by kernel_rfl))))).imp ?_
  rintro ⟨l, x, own⟩ ⟨⟨h1, h2, h3⟩, h4, h5⟩
  exact ⟨⟨by simp only [] at h1 ⊢; omega, h3, h4, h5⟩, h1⟩
theorem shiftSheets_walk (w : World) (hC : ChW w) (cs0 : Array Value) (x0 : List ByteArray × (Int × ByteArray × Int × Int × ByteArray) × ByteArray) (hK0 : kdCase.K w x0 cs0.toList) (hG0 : GCase x0 ∧ x0.1.length * 16 ≤ 140737488351232) (p : ByteArray) (hp : p.size ≤ 140737488351232) (q : ByteArray) (hq : q.size ≤ 140737488351232) :
    Calls Tryd.prog 6 #[.agg cs0, .string p, .string q] w fun e w' => e = .returned (.bool true) ∧ Below w.heap.size w w' := by
  obtain ⟨A, c, rfl, hc, hr⟩ := case_cells hK0
  obtain ⟨l, ⟨k, sh, a, n, nm⟩, own⟩ := x0
  obtain ⟨⟨hl, hG, ⟨_, h1, wa, wn, h2⟩, _⟩, hl16⟩ := hG0
  exact shiftSheets_walk0 A c l k sh a n nm own p q w hC hr hc hl16 hG h1 h2 hp hq (wf64 wa) (wf64 wn)
end Go.Proofs.YtfkoiebnpgodmaaDoor.Hw
