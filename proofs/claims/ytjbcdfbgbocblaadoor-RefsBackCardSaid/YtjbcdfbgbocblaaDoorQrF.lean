import Derived.Test.YtjbcdfbgbocblaaDoorQrC
/- The reader of references, walked: a reference. -/
namespace Go.Proofs.YtjbcdfbgbocblaaDoor.CP
/-- A reference. -/
structure Rf where
  s : ByteArray
  t : ByteArray
  f : Bool
  e : Bool
  r : Int
  q : Int
  u : Bool
  v : Bool
  r2 : Int
  q2 : Int
  u2 : Bool
  v2 : Bool
abbrev Rf.cs (x : Rf) : Array Value := #[.string x.s, .string x.t, .bool x.f, .bool x.e, .int .i64 x.r, .int .i64 x.q, .bool x.u, .bool x.v, .int .i64 x.r2, .int .i64 x.q2, .bool x.u2, .bool x.v2]
end Go.Proofs.YtjbcdfbgbocblaaDoor.CP
namespace Go.Proofs.YtjbcdfbgbocblaaDoor.Hw
open Go.RowKit Go.Proofs.YtjbcdfbgbocblaaDoorW.PrintWords Go.Proofs.YtjbcdfbgbocblaaDoorW.PrintLast Go.Proofs.YtjbcdfbgbocblaaDoorW.PrintMore Go.Proofs.YtjbcdfbgbocblaaDoor.PH Go.Proofs.YtjbcdfbgbocblaaDoor.CP
set_option linter.unusedVariables false
set_option linter.unusedSimpArgs false
abbrev es : ByteArray := ⟨#[]⟩
abbrev zR : Rf := ⟨es, es, false, false, 0, 0, false, false, 0, 0, false, false⟩
theorem rfc {w : World} {g : Nat} {x : Rf} {t : TypeId} (h : w.heap[g]? = some (.cells x.cs t (0, 0))) : w.cell? ⟨g, 0, none⟩ = some (.string x.s) ∧ w.cell? ⟨g, 1, none⟩ = some (.string x.t) ∧ w.cell? ⟨g, 2, none⟩ = some (.bool x.f) ∧ w.cell? ⟨g, 3, none⟩ = some (.bool x.e) ∧ w.cell? ⟨g, 4, none⟩ = some (.int .i64 x.r) ∧ w.cell? ⟨g, 5, none⟩ = some (.int .i64 x.q) ∧ w.cell? ⟨g, 6, none⟩ = some (.bool x.u) ∧ w.cell? ⟨g, 7, none⟩ = some (.bool x.v) ∧ w.cell? ⟨g, 8, none⟩ = some (.int .i64 x.r2) ∧ w.cell? ⟨g, 9, none⟩ = some (.int .i64 x.q2) ∧ w.cell? ⟨g, 10, none⟩ = some (.bool x.u2) ∧ w.cell? ⟨g, 11, none⟩ = some (.bool x.v2) :=
  ⟨(blk_cell h 0).trans rfl, (blk_cell h 1).trans rfl, (blk_cell h 2).trans rfl, (blk_cell h 3).trans rfl, (blk_cell h 4).trans rfl, (blk_cell h 5).trans rfl, (blk_cell h 6).trans rfl, (blk_cell h 7).trans rfl, (blk_cell h 8).trans rfl, (blk_cell h 9).trans rfl, (blk_cell h 10).trans rfl, (blk_cell h 11).trans rfl⟩
theorem rff {w : World} {g : Nat} {x : Rf} {t : TypeId} (h : w.heap[g]? = some (.cells x.cs t (0, 0))) : w.frozen? ⟨g, 0, none⟩ = false ∧ w.frozen? ⟨g, 1, none⟩ = false ∧ w.frozen? ⟨g, 2, none⟩ = false ∧ w.frozen? ⟨g, 3, none⟩ = false ∧ w.frozen? ⟨g, 4, none⟩ = false ∧ w.frozen? ⟨g, 5, none⟩ = false ∧ w.frozen? ⟨g, 6, none⟩ = false ∧ w.frozen? ⟨g, 7, none⟩ = false ∧ w.frozen? ⟨g, 8, none⟩ = false ∧ w.frozen? ⟨g, 9, none⟩ = false ∧ w.frozen? ⟨g, 10, none⟩ = false ∧ w.frozen? ⟨g, 11, none⟩ = false :=
  ⟨blk_frozen h 0, blk_frozen h 1, blk_frozen h 2, blk_frozen h 3, blk_frozen h 4, blk_frozen h 5, blk_frozen h 6, blk_frozen h 7, blk_frozen h 8, blk_frozen h 9, blk_frozen h 10, blk_frozen h 11⟩
/-- A sheet's name, or none, stands there. -/
def sheetAt (s : ByteArray) (k k' : Nat) (nm : ByteArray) : Prop := (nm = es ∧ stands s k 46 ∧ k' = k) ∨ (plainAt s k k' ∧ nm = s.extract k k') ∨ (∃ j, quotedAt s k j ∧ k' = j + 1 ∧ nm = s.extract (k + 1) j)
def cornerOf (s : ByteArray) (k k' : Nat) (u v : Bool) (r q : Nat) : Prop := ∃ ka kb kc, cornerAt s k k' u v r q ka kb kc
theorem sheet_read (g : Nat) (s : ByteArray) (k k' : Nat) (nm : ByteArray) (w0 w : World) (hw : 3 + 1 ≤ w0.heap.size) (hs : s.size ≤ 140737488351232) (hS : RS w0 g s k w) (h : sheetAt s k k' nm) :
    Calls Tryd.prog 47 #[.pointer (some ⟨g, 0, none⟩)] w fun e w' => e = .returned (.string nm) ∧ RS w0 g s k' w' ∧ KeepBut w w' g none := by
  rcases h with ⟨rfl, h, rfl⟩ | ⟨h, rfl⟩ | ⟨j, h, rfl, rfl⟩
  · exact sheet_none g s k' w0 w hw hs hS h
  · exact sheet_plain g s k k' w0 w hw hs hS h
  · exact sheet_quoted g s k j w0 w hw hs hS h
/-- Within reference: the reader's place, the result's box and the reference's. -/
structure RqS (w0 w : World) (g : Nat) (s : ByteArray) (k : Nat) (x : Rf) (w' : World) : Prop where
  rs : RS w0 g s k w'
  keep : KeepBut w w' g none
  far : g < w.heap.size
  res : w'.heap[w.heap.size]? = some (.cells zR.cs 32 (0, 0))
  box : w'.heap[w.heap.size + 1]? = some (.cells x.cs 32 (0, 0))
section
variable {w0 w w1 w2 : World} {g k k2 : Nat} {s : ByteArray} {x : Rf} {v : Value}
theorem RqS.call (h : RqS w0 w g s k x w1) (hr : RS w0 g s k2 w2) (hk : KeepBut w1 w2 g none) : RqS w0 w g s k2 x w2 :=
  ⟨hr, h.keep.trans hk (.inl rfl), h.far, hk.blk h.res (by have := h.far; omega) (by simp), hk.blk h.box (by have := h.far; omega) (by simp)⟩
theorem RqS.set (h : RqS w0 w g s k x w1) (hl : w0.heap.size ≤ w.heap.size) (i : Nat) (y : Rf) (hu : x.cs.setIfInBounds i v = y.cs) : RqS w0 w g s k y (w1.setCell ⟨w.heap.size + 1, i, none⟩ v) := by
  have hf := h.far
  refine ⟨⟨blk_far h.rs.box (by show g ≠ w.heap.size + 1; omega) _, h.rs.low, h.rs.below.setCell (by show _ ≤ w.heap.size + 1; omega) _, h.rs.start⟩, ⟨by rw [show (w1.setCell ⟨w.heap.size + 1, i, none⟩ v).heap.size = w1.heap.size from by simp [World.setCell]]; exact h.keep.1, fun j hj h1 h2 => (Below.heap_setCell w1 _ v j (by show j ≠ w.heap.size + 1; omega)).trans (h.keep.2 j hj h1 h2)⟩, hf, blk_far h.res (by show w.heap.size ≠ w.heap.size + 1; omega) _, blk_put h.box i v hu⟩
end
/-- A reference stands there, up to a point. -/
structure refAt (s : ByteArray) (k k' : Nat) (x : Rf) (k1 k2 k3 k4 : Nat) (r q r2 q2 : Nat) : Prop where
  dollar : if x.f then stands s k 36 ∧ k1 = k + 1 else ¬ stands s k 36 ∧ k1 = k
  sheet : sheetAt s k1 k2 x.s
  some1 : x.f = true → 0 < x.s.size
  dot : stands s k2 46
  a : cornerOf s (k2 + 1) k3 x.u x.v r q
  er : x.r = (r : Int)
  eq : x.q = (q : Int)
  colon : x.e = true → stands s k3 58 ∧ sheetAt s (k3 + 1) k4 x.t ∧ (0 < x.t.size → 0 < x.s.size) ∧ stands s k4 46 ∧ cornerOf s (k4 + 1) k' x.u2 x.v2 r2 q2 ∧ x.r2 = (r2 : Int) ∧ x.q2 = (q2 : Int)
  alone : x.e = false → ¬ stands s k3 58 ∧ k' = k3 ∧ x.t = es ∧ x.r2 = 0 ∧ x.q2 = 0 ∧ x.u2 = false ∧ x.v2 = false
set_option maxRecDepth 100000 in
set_option maxHeartbeats 16000000 in
theorem ref_fa (g : Nat) (s : ByteArray) (k k1 k2 k3 : Nat) (sn : ByteArray) (r q : Int) (u v : Bool) (w0 w : World) (hw : 3 + 1 ≤ w0.heap.size) (hs : s.size ≤ 140737488351232) (hS : RS w0 g s k w)
    (hM1 : (∀ w1, RS w0 g s k w1 → Calls Tryd.prog 46 #[.pointer (some ⟨g, 0, none⟩), .int .u8 36] w1 fun e w' => e = .returned (.bool true) ∧ RS w0 g s k1 w' ∧ KeepBut w1 w' g none))
    (hS1 : (∀ w1, RS w0 g s k1 w1 → Calls Tryd.prog 47 #[.pointer (some ⟨g, 0, none⟩)] w1 fun e w' => e = .returned (.string sn) ∧ RS w0 g s k2 w' ∧ KeepBut w1 w' g none))
    (hD1 : (∀ w1, RS w0 g s k2 w1 → Calls Tryd.prog 48 #[.pointer (some ⟨g, 0, none⟩), .int .u8 46] w1 fun e w' => e = .returned (.tuple #[]) ∧ RS w0 g s (k2 + 1) w' ∧ KeepBut w1 w' g none))
    (hC1 : (∀ w1, RS w0 g s (k2 + 1) w1 → Calls Tryd.prog 49 #[.pointer (some ⟨g, 0, none⟩)] w1 fun e w' => e = .returned (.agg #[.int .i64 r, .int .i64 q, .bool u, .bool v]) ∧ RS w0 g s k3 w' ∧ KeepBut w1 w' g none))
    (hM2 : (∀ w1, RS w0 g s k3 w1 → Calls Tryd.prog 46 #[.pointer (some ⟨g, 0, none⟩), .int .u8 58] w1 fun e w' => e = .returned (.bool false) ∧ RS w0 g s k3 w' ∧ KeepBut w1 w' g none))
    (hsn : 0 < sn.size)
    : Calls Tryd.prog 38 #[.pointer (some ⟨g, 0, none⟩)] w fun e w' => e = .returned (.agg (⟨sn, es, true, false, r, q, u, v, 0, 0, false, false⟩ : Rf).cs) ∧ RS w0 g s k3 w' ∧ KeepBut w w' g none := by
  have HM1 := Aside0.mk hM1
  clear hM1
  have HS1 := Aside0.mk hS1
  clear hS1
  have HD1 := Aside0.mk hD1
  clear hD1
  have HC1 := Aside0.mk hC1
  clear hC1
  have HM2 := Aside0.mk hM2
  clear hM2
  have e1 := toList_some hsn
  have z : ∀ (w : World) (o : Obj), (w.alloc o).heap.size = w.heap.size + 1 := fun w o => Array.size_push ..
  have hgw : g < w.heap.size := blk_lt hS.box
  have hww : w0.heap.size ≤ w.heap.size := Nat.le_trans hS.low (Nat.le_of_lt hgw)
  have HJ : Aside0 (RqS w0 w g s k zR ((w.alloc (.cells zR.cs 32)).alloc (.cells zR.cs 32))) := ⟨by
    have b := ((Below.refl w.heap.size w).alloc (Nat.le_refl _) (.cells zR.cs 32)).alloc (by rw [z]; omega) (.cells zR.cs 32)
    refine ⟨hS.go b, KeepBut.of_below b g none, hgw, blk_alloc (heap_alloc_new w _) _, ?_⟩
    rw [← z w (.cells zR.cs 32)]; exact heap_alloc_new _ _⟩
  have HSZ : Aside0 ((Tryd.prog.info? 32).map (·.size) = some (12 : Nat)) := ⟨by kernel_rfl⟩
  clear hS z
  go_enter Tryd.func38, Tryd.ntmps38
  go_wp2_with fail
  refine (HM1.out _ HJ.out.rs).mono ?_
  rintro e w1 ⟨rfl, h1, h2⟩
  have HK1 := Aside0.mk (HJ.out.call h1 h2)
  clear HJ h1 h2
  obtain ⟨c0, c1, c2, c3, c4, c5, c6, c7, c8, c9, c10, c11⟩ := rfc HK1.out.box
  obtain ⟨f0, f1, f2, f3, f4, f5, f6, f7, f8, f9, f10, f11⟩ := rff HK1.out.box
  obtain ⟨p0, p1, _⟩ := HK1.out.rs.cells
  have HK2 : Aside0 (RqS w0 w g s _ (⟨es, es, true, false, 0, 0, false, false, 0, 0, false, false⟩ : Rf) (w1.setCell ⟨w.heap.size + 1, 2, none⟩ (.bool true))) := ⟨HK1.out.set hww 2 (⟨es, es, true, false, 0, 0, false, false, 0, 0, false, false⟩ : Rf) (by rfl)⟩
  go_wp2_with fail
  clear c0 c1 c2 c3 c4 c5 c6 c7 c8 c9 c10 c11 f0 f1 f2 f3 f4 f5 f6 f7 f8 f9 f10 f11 p0 p1
  refine (HS1.out _ HK2.out.rs).mono ?_
  rintro e w2 ⟨rfl, h1, h2⟩
  have HK3 := Aside0.mk (HK2.out.call h1 h2)
  clear HK2 h1 h2
  obtain ⟨c0, c1, c2, c3, c4, c5, c6, c7, c8, c9, c10, c11⟩ := rfc HK3.out.box
  obtain ⟨f0, f1, f2, f3, f4, f5, f6, f7, f8, f9, f10, f11⟩ := rff HK3.out.box
  obtain ⟨p0, p1, _⟩ := HK3.out.rs.cells
  have HK4 : Aside0 (RqS w0 w g s _ (⟨sn, es, true, false, 0, 0, false, false, 0, 0, false, false⟩ : Rf) (w2.setCell ⟨w.heap.size + 1, 0, none⟩ (.string sn))) := ⟨HK3.out.set hww 0 (⟨sn, es, true, false, 0, 0, false, false, 0, 0, false, false⟩ : Rf) (by rfl)⟩
  go_wp2_with fail
  clear c0 c1 c2 c3 c4 c5 c6 c7 c8 c9 c10 c11 f0 f1 f2 f3 f4 f5 f6 f7 f8 f9 f10 f11 p0 p1
  refine (HD1.out _ HK4.out.rs).mono ?_
  rintro e w3 ⟨rfl, h1, h2⟩
  have HK5 := Aside0.mk (HK4.out.call h1 h2)
  clear HK4 h1 h2
  obtain ⟨c0, c1, c2, c3, c4, c5, c6, c7, c8, c9, c10, c11⟩ := rfc HK5.out.box
  obtain ⟨f0, f1, f2, f3, f4, f5, f6, f7, f8, f9, f10, f11⟩ := rff HK5.out.box
  obtain ⟨p0, p1, _⟩ := HK5.out.rs.cells
  go_wp2_with fail
  clear c0 c1 c2 c3 c4 c5 c6 c7 c8 c9 c10 c11 f0 f1 f2 f3 f4 f5 f6 f7 f8 f9 f10 f11 p0 p1
  refine (HC1.out _ HK5.out.rs).mono ?_
  rintro e w4 ⟨rfl, h1, h2⟩
  have HK6 := Aside0.mk (HK5.out.call h1 h2)
  clear HK5 h1 h2
  obtain ⟨c0, c1, c2, c3, c4, c5, c6, c7, c8, c9, c10, c11⟩ := rfc HK6.out.box
  obtain ⟨f0, f1, f2, f3, f4, f5, f6, f7, f8, f9, f10, f11⟩ := rff HK6.out.box
  obtain ⟨p0, p1, _⟩ := HK6.out.rs.cells
  have HK7 : Aside0 (RqS w0 w g s _ (⟨sn, es, true, false, r, q, u, v, 0, 0, false, false⟩ : Rf) ((((w4.setCell ⟨w.heap.size + 1, 4, none⟩ (.int .i64 r)).setCell ⟨w.heap.size + 1, 5, none⟩ (.int .i64 q)).setCell ⟨w.heap.size + 1, 6, none⟩ (.bool u)).setCell ⟨w.heap.size + 1, 7, none⟩ (.bool v))) := ⟨(((HK6.out.set hww 4 (⟨sn, es, true, false, r, 0, false, false, 0, 0, false, false⟩ : Rf) (by rfl)).set hww 5 (⟨sn, es, true, false, r, q, false, false, 0, 0, false, false⟩ : Rf) (by rfl)).set hww 6 (⟨sn, es, true, false, r, q, u, false, 0, 0, false, false⟩ : Rf) (by rfl)).set hww 7 (⟨sn, es, true, false, r, q, u, v, 0, 0, false, false⟩ : Rf) (by rfl)⟩
  go_wp2_with fail
  clear c0 c1 c2 c3 c4 c5 c6 c7 c8 c9 c10 c11 f0 f1 f2 f3 f4 f5 f6 f7 f8 f9 f10 f11 p0 p1
  refine (HM2.out _ HK7.out.rs).mono ?_
  rintro e w5 ⟨rfl, h1, h2⟩
  have HK8 := Aside0.mk (HK7.out.call h1 h2)
  clear HK7 h1 h2
  obtain ⟨c0, c1, c2, c3, c4, c5, c6, c7, c8, c9, c10, c11⟩ := rfc HK8.out.box
  obtain ⟨f0, f1, f2, f3, f4, f5, f6, f7, f8, f9, f10, f11⟩ := rff HK8.out.box
  obtain ⟨p0, p1, _⟩ := HK8.out.rs.cells
  go_wp2_with (refine wpList_store_row rfl 32 _ _ rfl w.heap.size (⟨sn, es, true, false, r, q, u, v, 0, 0, false, false⟩ : Rf).cs rfl rfl 32 _ (RqS.res HK8.out) HSZ.out rfl (by simp [Value.oneCell']) ?_)
  have hne : ∀ j, j < w.heap.size → j ≠ w.heap.size := fun j hj => by omega
  refine bodyPost_ret (v := .agg (⟨sn, es, true, false, r, q, u, v, 0, 0, false, false⟩ : Rf).cs) (results_c (p := 2) (ty := 32) (by kernel_rfl) _ _ w.heap.size 32 _ (0, 0) _ rfl (setRow_heap _ _ _ _ _ _ (RqS.res HK8.out)) Tryd.underlying32 rfl (by kernel_rfl)) rfl ⟨rfl, ?_, ?_⟩
  · exact ⟨(setRow_other _ _ _ _ (by have := HK8.out.far; omega)).trans HK8.out.rs.box, HK8.out.rs.low, bsr2 HK8.out.rs.below hww _, HK8.out.rs.start⟩
  · exact ⟨by rw [setRow_size]; exact HK8.out.keep.1, fun j hj h1 h2 => (setRow_other _ _ _ _ (hne j hj)).trans (HK8.out.keep.2 j hj h1 h2)⟩
set_option maxRecDepth 100000 in
set_option maxHeartbeats 16000000 in
theorem ref_a (g : Nat) (s : ByteArray) (k k1 k2 k3 : Nat) (sn : ByteArray) (r q : Int) (u v : Bool) (w0 w : World) (hw : 3 + 1 ≤ w0.heap.size) (hs : s.size ≤ 140737488351232) (hS : RS w0 g s k w)
    (hM1 : (∀ w1, RS w0 g s k w1 → Calls Tryd.prog 46 #[.pointer (some ⟨g, 0, none⟩), .int .u8 36] w1 fun e w' => e = .returned (.bool false) ∧ RS w0 g s k1 w' ∧ KeepBut w1 w' g none))
    (hS1 : (∀ w1, RS w0 g s k1 w1 → Calls Tryd.prog 47 #[.pointer (some ⟨g, 0, none⟩)] w1 fun e w' => e = .returned (.string sn) ∧ RS w0 g s k2 w' ∧ KeepBut w1 w' g none))
    (hD1 : (∀ w1, RS w0 g s k2 w1 → Calls Tryd.prog 48 #[.pointer (some ⟨g, 0, none⟩), .int .u8 46] w1 fun e w' => e = .returned (.tuple #[]) ∧ RS w0 g s (k2 + 1) w' ∧ KeepBut w1 w' g none))
    (hC1 : (∀ w1, RS w0 g s (k2 + 1) w1 → Calls Tryd.prog 49 #[.pointer (some ⟨g, 0, none⟩)] w1 fun e w' => e = .returned (.agg #[.int .i64 r, .int .i64 q, .bool u, .bool v]) ∧ RS w0 g s k3 w' ∧ KeepBut w1 w' g none))
    (hM2 : (∀ w1, RS w0 g s k3 w1 → Calls Tryd.prog 46 #[.pointer (some ⟨g, 0, none⟩), .int .u8 58] w1 fun e w' => e = .returned (.bool false) ∧ RS w0 g s k3 w' ∧ KeepBut w1 w' g none))
    : Calls Tryd.prog 38 #[.pointer (some ⟨g, 0, none⟩)] w fun e w' => e = .returned (.agg (⟨sn, es, false, false, r, q, u, v, 0, 0, false, false⟩ : Rf).cs) ∧ RS w0 g s k3 w' ∧ KeepBut w w' g none := by
  have HM1 := Aside0.mk hM1
  clear hM1
  have HS1 := Aside0.mk hS1
  clear hS1
  have HD1 := Aside0.mk hD1
  clear hD1
  have HC1 := Aside0.mk hC1
  clear hC1
  have HM2 := Aside0.mk hM2
  clear hM2
  have z : ∀ (w : World) (o : Obj), (w.alloc o).heap.size = w.heap.size + 1 := fun w o => Array.size_push ..
  have hgw : g < w.heap.size := blk_lt hS.box
  have hww : w0.heap.size ≤ w.heap.size := Nat.le_trans hS.low (Nat.le_of_lt hgw)
  have HJ : Aside0 (RqS w0 w g s k zR ((w.alloc (.cells zR.cs 32)).alloc (.cells zR.cs 32))) := ⟨by
    have b := ((Below.refl w.heap.size w).alloc (Nat.le_refl _) (.cells zR.cs 32)).alloc (by rw [z]; omega) (.cells zR.cs 32)
    refine ⟨hS.go b, KeepBut.of_below b g none, hgw, blk_alloc (heap_alloc_new w _) _, ?_⟩
    rw [← z w (.cells zR.cs 32)]; exact heap_alloc_new _ _⟩
  have HSZ : Aside0 ((Tryd.prog.info? 32).map (·.size) = some (12 : Nat)) := ⟨by kernel_rfl⟩
  clear hS z
  go_enter Tryd.func38, Tryd.ntmps38
  go_wp2_with fail
  refine (HM1.out _ HJ.out.rs).mono ?_
  rintro e w1 ⟨rfl, h1, h2⟩
  have HK1 := Aside0.mk (HJ.out.call h1 h2)
  clear HJ h1 h2
  obtain ⟨c0, c1, c2, c3, c4, c5, c6, c7, c8, c9, c10, c11⟩ := rfc HK1.out.box
  obtain ⟨f0, f1, f2, f3, f4, f5, f6, f7, f8, f9, f10, f11⟩ := rff HK1.out.box
  obtain ⟨p0, p1, _⟩ := HK1.out.rs.cells
  have HK2 : Aside0 (RqS w0 w g s _ (⟨es, es, false, false, 0, 0, false, false, 0, 0, false, false⟩ : Rf) (w1.setCell ⟨w.heap.size + 1, 2, none⟩ (.bool false))) := ⟨HK1.out.set hww 2 (⟨es, es, false, false, 0, 0, false, false, 0, 0, false, false⟩ : Rf) (by rfl)⟩
  go_wp2_with fail
  clear c0 c1 c2 c3 c4 c5 c6 c7 c8 c9 c10 c11 f0 f1 f2 f3 f4 f5 f6 f7 f8 f9 f10 f11 p0 p1
  refine (HS1.out _ HK2.out.rs).mono ?_
  rintro e w2 ⟨rfl, h1, h2⟩
  have HK3 := Aside0.mk (HK2.out.call h1 h2)
  clear HK2 h1 h2
  obtain ⟨c0, c1, c2, c3, c4, c5, c6, c7, c8, c9, c10, c11⟩ := rfc HK3.out.box
  obtain ⟨f0, f1, f2, f3, f4, f5, f6, f7, f8, f9, f10, f11⟩ := rff HK3.out.box
  obtain ⟨p0, p1, _⟩ := HK3.out.rs.cells
  have HK4 : Aside0 (RqS w0 w g s _ (⟨sn, es, false, false, 0, 0, false, false, 0, 0, false, false⟩ : Rf) (w2.setCell ⟨w.heap.size + 1, 0, none⟩ (.string sn))) := ⟨HK3.out.set hww 0 (⟨sn, es, false, false, 0, 0, false, false, 0, 0, false, false⟩ : Rf) (by rfl)⟩
  go_wp2_with fail
  clear c0 c1 c2 c3 c4 c5 c6 c7 c8 c9 c10 c11 f0 f1 f2 f3 f4 f5 f6 f7 f8 f9 f10 f11 p0 p1
  refine (HD1.out _ HK4.out.rs).mono ?_
  rintro e w3 ⟨rfl, h1, h2⟩
  have HK5 := Aside0.mk (HK4.out.call h1 h2)
  clear HK4 h1 h2
  obtain ⟨c0, c1, c2, c3, c4, c5, c6, c7, c8, c9, c10, c11⟩ := rfc HK5.out.box
  obtain ⟨f0, f1, f2, f3, f4, f5, f6, f7, f8, f9, f10, f11⟩ := rff HK5.out.box
  obtain ⟨p0, p1, _⟩ := HK5.out.rs.cells
  go_wp2_with fail
  clear c0 c1 c2 c3 c4 c5 c6 c7 c8 c9 c10 c11 f0 f1 f2 f3 f4 f5 f6 f7 f8 f9 f10 f11 p0 p1
  refine (HC1.out _ HK5.out.rs).mono ?_
  rintro e w4 ⟨rfl, h1, h2⟩
  have HK6 := Aside0.mk (HK5.out.call h1 h2)
  clear HK5 h1 h2
  obtain ⟨c0, c1, c2, c3, c4, c5, c6, c7, c8, c9, c10, c11⟩ := rfc HK6.out.box
  obtain ⟨f0, f1, f2, f3, f4, f5, f6, f7, f8, f9, f10, f11⟩ := rff HK6.out.box
  obtain ⟨p0, p1, _⟩ := HK6.out.rs.cells
  have HK7 : Aside0 (RqS w0 w g s _ (⟨sn, es, false, false, r, q, u, v, 0, 0, false, false⟩ : Rf) ((((w4.setCell ⟨w.heap.size + 1, 4, none⟩ (.int .i64 r)).setCell ⟨w.heap.size + 1, 5, none⟩ (.int .i64 q)).setCell ⟨w.heap.size + 1, 6, none⟩ (.bool u)).setCell ⟨w.heap.size + 1, 7, none⟩ (.bool v))) := ⟨(((HK6.out.set hww 4 (⟨sn, es, false, false, r, 0, false, false, 0, 0, false, false⟩ : Rf) (by rfl)).set hww 5 (⟨sn, es, false, false, r, q, false, false, 0, 0, false, false⟩ : Rf) (by rfl)).set hww 6 (⟨sn, es, false, false, r, q, u, false, 0, 0, false, false⟩ : Rf) (by rfl)).set hww 7 (⟨sn, es, false, false, r, q, u, v, 0, 0, false, false⟩ : Rf) (by rfl)⟩
  go_wp2_with fail
  clear c0 c1 c2 c3 c4 c5 c6 c7 c8 c9 c10 c11 f0 f1 f2 f3 f4 f5 f6 f7 f8 f9 f10 f11 p0 p1
  refine (HM2.out _ HK7.out.rs).mono ?_
  rintro e w5 ⟨rfl, h1, h2⟩
  have HK8 := Aside0.mk (HK7.out.call h1 h2)
  clear HK7 h1 h2
  obtain ⟨c0, c1, c2, c3, c4, c5, c6, c7, c8, c9, c10, c11⟩ := rfc HK8.out.box
  obtain ⟨f0, f1, f2, f3, f4, f5, f6, f7, f8, f9, f10, f11⟩ := rff HK8.out.box
  obtain ⟨p0, p1, _⟩ := HK8.out.rs.cells
  go_wp2_with (refine wpList_store_row rfl 32 _ _ rfl w.heap.size (⟨sn, es, false, false, r, q, u, v, 0, 0, false, false⟩ : Rf).cs rfl rfl 32 _ (RqS.res HK8.out) HSZ.out rfl (by simp [Value.oneCell']) ?_)
  have hne : ∀ j, j < w.heap.size → j ≠ w.heap.size := fun j hj => by omega
  refine bodyPost_ret (v := .agg (⟨sn, es, false, false, r, q, u, v, 0, 0, false, false⟩ : Rf).cs) (results_c (p := 2) (ty := 32) (by kernel_rfl) _ _ w.heap.size 32 _ (0, 0) _ rfl (setRow_heap _ _ _ _ _ _ (RqS.res HK8.out)) Tryd.underlying32 rfl (by kernel_rfl)) rfl ⟨rfl, ?_, ?_⟩
  · exact ⟨(setRow_other _ _ _ _ (by have := HK8.out.far; omega)).trans HK8.out.rs.box, HK8.out.rs.low, bsr2 HK8.out.rs.below hww _, HK8.out.rs.start⟩
  · exact ⟨by rw [setRow_size]; exact HK8.out.keep.1, fun j hj h1 h2 => (setRow_other _ _ _ _ (hne j hj)).trans (HK8.out.keep.2 j hj h1 h2)⟩
set_option maxRecDepth 100000 in
set_option maxHeartbeats 16000000 in
theorem ref_fb0 (g : Nat) (s : ByteArray) (k k1 k2 k3 k4 k' : Nat) (sn tn : ByteArray) (r q : Int) (u v : Bool) (r2 q2 : Int) (u2 v2 : Bool) (w0 w : World) (hw : 3 + 1 ≤ w0.heap.size) (hs : s.size ≤ 140737488351232) (hS : RS w0 g s k w)
    (hM1 : (∀ w1, RS w0 g s k w1 → Calls Tryd.prog 46 #[.pointer (some ⟨g, 0, none⟩), .int .u8 36] w1 fun e w' => e = .returned (.bool true) ∧ RS w0 g s k1 w' ∧ KeepBut w1 w' g none))
    (hS1 : (∀ w1, RS w0 g s k1 w1 → Calls Tryd.prog 47 #[.pointer (some ⟨g, 0, none⟩)] w1 fun e w' => e = .returned (.string sn) ∧ RS w0 g s k2 w' ∧ KeepBut w1 w' g none))
    (hD1 : (∀ w1, RS w0 g s k2 w1 → Calls Tryd.prog 48 #[.pointer (some ⟨g, 0, none⟩), .int .u8 46] w1 fun e w' => e = .returned (.tuple #[]) ∧ RS w0 g s (k2 + 1) w' ∧ KeepBut w1 w' g none))
    (hC1 : (∀ w1, RS w0 g s (k2 + 1) w1 → Calls Tryd.prog 49 #[.pointer (some ⟨g, 0, none⟩)] w1 fun e w' => e = .returned (.agg #[.int .i64 r, .int .i64 q, .bool u, .bool v]) ∧ RS w0 g s k3 w' ∧ KeepBut w1 w' g none))
    (hM2 : (∀ w1, RS w0 g s k3 w1 → Calls Tryd.prog 46 #[.pointer (some ⟨g, 0, none⟩), .int .u8 58] w1 fun e w' => e = .returned (.bool true) ∧ RS w0 g s (k3 + 1) w' ∧ KeepBut w1 w' g none))
    (hS2 : (∀ w1, RS w0 g s (k3 + 1) w1 → Calls Tryd.prog 47 #[.pointer (some ⟨g, 0, none⟩)] w1 fun e w' => e = .returned (.string tn) ∧ RS w0 g s k4 w' ∧ KeepBut w1 w' g none))
    (hD2 : (∀ w1, RS w0 g s k4 w1 → Calls Tryd.prog 48 #[.pointer (some ⟨g, 0, none⟩), .int .u8 46] w1 fun e w' => e = .returned (.tuple #[]) ∧ RS w0 g s (k4 + 1) w' ∧ KeepBut w1 w' g none))
    (hC2 : (∀ w1, RS w0 g s (k4 + 1) w1 → Calls Tryd.prog 49 #[.pointer (some ⟨g, 0, none⟩)] w1 fun e w' => e = .returned (.agg #[.int .i64 r2, .int .i64 q2, .bool u2, .bool v2]) ∧ RS w0 g s k' w' ∧ KeepBut w1 w' g none))
    (hsn : 0 < sn.size)
    (htn : tn.size = 0)
    : Calls Tryd.prog 38 #[.pointer (some ⟨g, 0, none⟩)] w fun e w' => e = .returned (.agg (⟨sn, tn, true, true, r, q, u, v, r2, q2, u2, v2⟩ : Rf).cs) ∧ RS w0 g s k' w' ∧ KeepBut w w' g none := by
  have HM1 := Aside0.mk hM1
  clear hM1
  have HS1 := Aside0.mk hS1
  clear hS1
  have HD1 := Aside0.mk hD1
  clear hD1
  have HC1 := Aside0.mk hC1
  clear hC1
  have HM2 := Aside0.mk hM2
  clear hM2
  have HS2 := Aside0.mk hS2
  clear hS2
  have HD2 := Aside0.mk hD2
  clear hD2
  have HC2 := Aside0.mk hC2
  clear hC2
  have e1 := toList_some hsn
  have e2 := toList_none htn
  have z : ∀ (w : World) (o : Obj), (w.alloc o).heap.size = w.heap.size + 1 := fun w o => Array.size_push ..
  have hgw : g < w.heap.size := blk_lt hS.box
  have hww : w0.heap.size ≤ w.heap.size := Nat.le_trans hS.low (Nat.le_of_lt hgw)
  have HJ : Aside0 (RqS w0 w g s k zR ((w.alloc (.cells zR.cs 32)).alloc (.cells zR.cs 32))) := ⟨by
    have b := ((Below.refl w.heap.size w).alloc (Nat.le_refl _) (.cells zR.cs 32)).alloc (by rw [z]; omega) (.cells zR.cs 32)
    refine ⟨hS.go b, KeepBut.of_below b g none, hgw, blk_alloc (heap_alloc_new w _) _, ?_⟩
    rw [← z w (.cells zR.cs 32)]; exact heap_alloc_new _ _⟩
  have HSZ : Aside0 ((Tryd.prog.info? 32).map (·.size) = some (12 : Nat)) := ⟨by kernel_rfl⟩
  clear hS z
  go_enter Tryd.func38, Tryd.ntmps38
  go_wp2_with fail
  refine (HM1.out _ HJ.out.rs).mono ?_
  rintro e w1 ⟨rfl, h1, h2⟩
  have HK1 := Aside0.mk (HJ.out.call h1 h2)
  clear HJ h1 h2
  obtain ⟨c0, c1, c2, c3, c4, c5, c6, c7, c8, c9, c10, c11⟩ := rfc HK1.out.box
  obtain ⟨f0, f1, f2, f3, f4, f5, f6, f7, f8, f9, f10, f11⟩ := rff HK1.out.box
  obtain ⟨p0, p1, _⟩ := HK1.out.rs.cells
  have HK2 : Aside0 (RqS w0 w g s _ (⟨es, es, true, false, 0, 0, false, false, 0, 0, false, false⟩ : Rf) (w1.setCell ⟨w.heap.size + 1, 2, none⟩ (.bool true))) := ⟨HK1.out.set hww 2 (⟨es, es, true, false, 0, 0, false, false, 0, 0, false, false⟩ : Rf) (by rfl)⟩
  go_wp2_with fail
  clear c0 c1 c2 c3 c4 c5 c6 c7 c8 c9 c10 c11 f0 f1 f2 f3 f4 f5 f6 f7 f8 f9 f10 f11 p0 p1
  refine (HS1.out _ HK2.out.rs).mono ?_
  rintro e w2 ⟨rfl, h1, h2⟩
  have HK3 := Aside0.mk (HK2.out.call h1 h2)
  clear HK2 h1 h2
  obtain ⟨c0, c1, c2, c3, c4, c5, c6, c7, c8, c9, c10, c11⟩ := rfc HK3.out.box
  obtain ⟨f0, f1, f2, f3, f4, f5, f6, f7, f8, f9, f10, f11⟩ := rff HK3.out.box
  obtain ⟨p0, p1, _⟩ := HK3.out.rs.cells
  have HK4 : Aside0 (RqS w0 w g s _ (⟨sn, es, true, false, 0, 0, false, false, 0, 0, false, false⟩ : Rf) (w2.setCell ⟨w.heap.size + 1, 0, none⟩ (.string sn))) := ⟨HK3.out.set hww 0 (⟨sn, es, true, false, 0, 0, false, false, 0, 0, false, false⟩ : Rf) (by rfl)⟩
  go_wp2_with fail
  clear c0 c1 c2 c3 c4 c5 c6 c7 c8 c9 c10 c11 f0 f1 f2 f3 f4 f5 f6 f7 f8 f9 f10 f11 p0 p1
  refine (HD1.out _ HK4.out.rs).mono ?_
  rintro e w3 ⟨rfl, h1, h2⟩
  have HK5 := Aside0.mk (HK4.out.call h1 h2)
  clear HK4 h1 h2
  obtain ⟨c0, c1, c2, c3, c4, c5, c6, c7, c8, c9, c10, c11⟩ := rfc HK5.out.box
  obtain ⟨f0, f1, f2, f3, f4, f5, f6, f7, f8, f9, f10, f11⟩ := rff HK5.out.box
  obtain ⟨p0, p1, _⟩ := HK5.out.rs.cells
  go_wp2_with fail
  clear c0 c1 c2 c3 c4 c5 c6 c7 c8 c9 c10 c11 f0 f1 f2 f3 f4 f5 f6 f7 f8 f9 f10 f11 p0 p1
  refine (HC1.out _ HK5.out.rs).mono ?_
  rintro e w4 ⟨rfl, h1, h2⟩
  have HK6 := Aside0.mk (HK5.out.call h1 h2)
  clear HK5 h1 h2
  obtain ⟨c0, c1, c2, c3, c4, c5, c6, c7, c8, c9, c10, c11⟩ := rfc HK6.out.box
  obtain ⟨f0, f1, f2, f3, f4, f5, f6, f7, f8, f9, f10, f11⟩ := rff HK6.out.box
  obtain ⟨p0, p1, _⟩ := HK6.out.rs.cells
  have HK7 : Aside0 (RqS w0 w g s _ (⟨sn, es, true, false, r, q, u, v, 0, 0, false, false⟩ : Rf) ((((w4.setCell ⟨w.heap.size + 1, 4, none⟩ (.int .i64 r)).setCell ⟨w.heap.size + 1, 5, none⟩ (.int .i64 q)).setCell ⟨w.heap.size + 1, 6, none⟩ (.bool u)).setCell ⟨w.heap.size + 1, 7, none⟩ (.bool v))) := ⟨(((HK6.out.set hww 4 (⟨sn, es, true, false, r, 0, false, false, 0, 0, false, false⟩ : Rf) (by rfl)).set hww 5 (⟨sn, es, true, false, r, q, false, false, 0, 0, false, false⟩ : Rf) (by rfl)).set hww 6 (⟨sn, es, true, false, r, q, u, false, 0, 0, false, false⟩ : Rf) (by rfl)).set hww 7 (⟨sn, es, true, false, r, q, u, v, 0, 0, false, false⟩ : Rf) (by rfl)⟩
  go_wp2_with fail
  clear c0 c1 c2 c3 c4 c5 c6 c7 c8 c9 c10 c11 f0 f1 f2 f3 f4 f5 f6 f7 f8 f9 f10 f11 p0 p1
  refine (HM2.out _ HK7.out.rs).mono ?_
  rintro e w5 ⟨rfl, h1, h2⟩
  have HK8 := Aside0.mk (HK7.out.call h1 h2)
  clear HK7 h1 h2
  obtain ⟨c0, c1, c2, c3, c4, c5, c6, c7, c8, c9, c10, c11⟩ := rfc HK8.out.box
  obtain ⟨f0, f1, f2, f3, f4, f5, f6, f7, f8, f9, f10, f11⟩ := rff HK8.out.box
  obtain ⟨p0, p1, _⟩ := HK8.out.rs.cells
  have HK9 : Aside0 (RqS w0 w g s _ (⟨sn, es, true, true, r, q, u, v, 0, 0, false, false⟩ : Rf) (w5.setCell ⟨w.heap.size + 1, 3, none⟩ (.bool true))) := ⟨HK8.out.set hww 3 (⟨sn, es, true, true, r, q, u, v, 0, 0, false, false⟩ : Rf) (by rfl)⟩
  go_wp2_with fail
  clear c0 c1 c2 c3 c4 c5 c6 c7 c8 c9 c10 c11 f0 f1 f2 f3 f4 f5 f6 f7 f8 f9 f10 f11 p0 p1
  refine (HS2.out _ HK9.out.rs).mono ?_
  rintro e w6 ⟨rfl, h1, h2⟩
  have HK10 := Aside0.mk (HK9.out.call h1 h2)
  clear HK9 h1 h2
  obtain ⟨c0, c1, c2, c3, c4, c5, c6, c7, c8, c9, c10, c11⟩ := rfc HK10.out.box
  obtain ⟨f0, f1, f2, f3, f4, f5, f6, f7, f8, f9, f10, f11⟩ := rff HK10.out.box
  obtain ⟨p0, p1, _⟩ := HK10.out.rs.cells
  have HK11 : Aside0 (RqS w0 w g s _ (⟨sn, tn, true, true, r, q, u, v, 0, 0, false, false⟩ : Rf) (w6.setCell ⟨w.heap.size + 1, 1, none⟩ (.string tn))) := ⟨HK10.out.set hww 1 (⟨sn, tn, true, true, r, q, u, v, 0, 0, false, false⟩ : Rf) (by rfl)⟩
  go_wp2_with fail
  clear c0 c1 c2 c3 c4 c5 c6 c7 c8 c9 c10 c11 f0 f1 f2 f3 f4 f5 f6 f7 f8 f9 f10 f11 p0 p1
  refine (HD2.out _ HK11.out.rs).mono ?_
  rintro e w7 ⟨rfl, h1, h2⟩
  have HK12 := Aside0.mk (HK11.out.call h1 h2)
  clear HK11 h1 h2
  obtain ⟨c0, c1, c2, c3, c4, c5, c6, c7, c8, c9, c10, c11⟩ := rfc HK12.out.box
  obtain ⟨f0, f1, f2, f3, f4, f5, f6, f7, f8, f9, f10, f11⟩ := rff HK12.out.box
  obtain ⟨p0, p1, _⟩ := HK12.out.rs.cells
  go_wp2_with fail
  clear c0 c1 c2 c3 c4 c5 c6 c7 c8 c9 c10 c11 f0 f1 f2 f3 f4 f5 f6 f7 f8 f9 f10 f11 p0 p1
  refine (HC2.out _ HK12.out.rs).mono ?_
  rintro e w8 ⟨rfl, h1, h2⟩
  have HK13 := Aside0.mk (HK12.out.call h1 h2)
  clear HK12 h1 h2
  obtain ⟨c0, c1, c2, c3, c4, c5, c6, c7, c8, c9, c10, c11⟩ := rfc HK13.out.box
  obtain ⟨f0, f1, f2, f3, f4, f5, f6, f7, f8, f9, f10, f11⟩ := rff HK13.out.box
  obtain ⟨p0, p1, _⟩ := HK13.out.rs.cells
  have HK14 : Aside0 (RqS w0 w g s _ (⟨sn, tn, true, true, r, q, u, v, r2, q2, u2, v2⟩ : Rf) ((((w8.setCell ⟨w.heap.size + 1, 8, none⟩ (.int .i64 r2)).setCell ⟨w.heap.size + 1, 9, none⟩ (.int .i64 q2)).setCell ⟨w.heap.size + 1, 10, none⟩ (.bool u2)).setCell ⟨w.heap.size + 1, 11, none⟩ (.bool v2))) := ⟨(((HK13.out.set hww 8 (⟨sn, tn, true, true, r, q, u, v, r2, 0, false, false⟩ : Rf) (by rfl)).set hww 9 (⟨sn, tn, true, true, r, q, u, v, r2, q2, false, false⟩ : Rf) (by rfl)).set hww 10 (⟨sn, tn, true, true, r, q, u, v, r2, q2, u2, false⟩ : Rf) (by rfl)).set hww 11 (⟨sn, tn, true, true, r, q, u, v, r2, q2, u2, v2⟩ : Rf) (by rfl)⟩
  go_wp2_with (refine wpList_store_row rfl 32 _ _ rfl w.heap.size (⟨sn, tn, true, true, r, q, u, v, r2, q2, u2, v2⟩ : Rf).cs rfl rfl 32 _ (RqS.res HK14.out) HSZ.out rfl (by simp [Value.oneCell']) ?_)
  have hne : ∀ j, j < w.heap.size → j ≠ w.heap.size := fun j hj => by omega
  refine bodyPost_ret (v := .agg (⟨sn, tn, true, true, r, q, u, v, r2, q2, u2, v2⟩ : Rf).cs) (results_c (p := 2) (ty := 32) (by kernel_rfl) _ _ w.heap.size 32 _ (0, 0) _ rfl (setRow_heap _ _ _ _ _ _ (RqS.res HK14.out)) Tryd.underlying32 rfl (by kernel_rfl)) rfl ⟨rfl, ?_, ?_⟩
  · exact ⟨(setRow_other _ _ _ _ (by have := HK14.out.far; omega)).trans HK14.out.rs.box, HK14.out.rs.low, bsr2 HK14.out.rs.below hww _, HK14.out.rs.start⟩
  · exact ⟨by rw [setRow_size]; exact HK14.out.keep.1, fun j hj h1 h2 => (setRow_other _ _ _ _ (hne j hj)).trans (HK14.out.keep.2 j hj h1 h2)⟩
set_option maxRecDepth 100000 in
set_option maxHeartbeats 16000000 in
theorem ref_b0 (g : Nat) (s : ByteArray) (k k1 k2 k3 k4 k' : Nat) (sn tn : ByteArray) (r q : Int) (u v : Bool) (r2 q2 : Int) (u2 v2 : Bool) (w0 w : World) (hw : 3 + 1 ≤ w0.heap.size) (hs : s.size ≤ 140737488351232) (hS : RS w0 g s k w)
    (hM1 : (∀ w1, RS w0 g s k w1 → Calls Tryd.prog 46 #[.pointer (some ⟨g, 0, none⟩), .int .u8 36] w1 fun e w' => e = .returned (.bool false) ∧ RS w0 g s k1 w' ∧ KeepBut w1 w' g none))
    (hS1 : (∀ w1, RS w0 g s k1 w1 → Calls Tryd.prog 47 #[.pointer (some ⟨g, 0, none⟩)] w1 fun e w' => e = .returned (.string sn) ∧ RS w0 g s k2 w' ∧ KeepBut w1 w' g none))
    (hD1 : (∀ w1, RS w0 g s k2 w1 → Calls Tryd.prog 48 #[.pointer (some ⟨g, 0, none⟩), .int .u8 46] w1 fun e w' => e = .returned (.tuple #[]) ∧ RS w0 g s (k2 + 1) w' ∧ KeepBut w1 w' g none))
    (hC1 : (∀ w1, RS w0 g s (k2 + 1) w1 → Calls Tryd.prog 49 #[.pointer (some ⟨g, 0, none⟩)] w1 fun e w' => e = .returned (.agg #[.int .i64 r, .int .i64 q, .bool u, .bool v]) ∧ RS w0 g s k3 w' ∧ KeepBut w1 w' g none))
    (hM2 : (∀ w1, RS w0 g s k3 w1 → Calls Tryd.prog 46 #[.pointer (some ⟨g, 0, none⟩), .int .u8 58] w1 fun e w' => e = .returned (.bool true) ∧ RS w0 g s (k3 + 1) w' ∧ KeepBut w1 w' g none))
    (hS2 : (∀ w1, RS w0 g s (k3 + 1) w1 → Calls Tryd.prog 47 #[.pointer (some ⟨g, 0, none⟩)] w1 fun e w' => e = .returned (.string tn) ∧ RS w0 g s k4 w' ∧ KeepBut w1 w' g none))
    (hD2 : (∀ w1, RS w0 g s k4 w1 → Calls Tryd.prog 48 #[.pointer (some ⟨g, 0, none⟩), .int .u8 46] w1 fun e w' => e = .returned (.tuple #[]) ∧ RS w0 g s (k4 + 1) w' ∧ KeepBut w1 w' g none))
    (hC2 : (∀ w1, RS w0 g s (k4 + 1) w1 → Calls Tryd.prog 49 #[.pointer (some ⟨g, 0, none⟩)] w1 fun e w' => e = .returned (.agg #[.int .i64 r2, .int .i64 q2, .bool u2, .bool v2]) ∧ RS w0 g s k' w' ∧ KeepBut w1 w' g none))
    (htn : tn.size = 0)
    : Calls Tryd.prog 38 #[.pointer (some ⟨g, 0, none⟩)] w fun e w' => e = .returned (.agg (⟨sn, tn, false, true, r, q, u, v, r2, q2, u2, v2⟩ : Rf).cs) ∧ RS w0 g s k' w' ∧ KeepBut w w' g none := by
  have HM1 := Aside0.mk hM1
  clear hM1
  have HS1 := Aside0.mk hS1
  clear hS1
  have HD1 := Aside0.mk hD1
  clear hD1
  have HC1 := Aside0.mk hC1
  clear hC1
  have HM2 := Aside0.mk hM2
  clear hM2
  have HS2 := Aside0.mk hS2
  clear hS2
  have HD2 := Aside0.mk hD2
  clear hD2
  have HC2 := Aside0.mk hC2
  clear hC2
  have e2 := toList_none htn
  have z : ∀ (w : World) (o : Obj), (w.alloc o).heap.size = w.heap.size + 1 := fun w o => Array.size_push ..
  have hgw : g < w.heap.size := blk_lt hS.box
  have hww : w0.heap.size ≤ w.heap.size := Nat.le_trans hS.low (Nat.le_of_lt hgw)
  have HJ : Aside0 (RqS w0 w g s k zR ((w.alloc (.cells zR.cs 32)).alloc (.cells zR.cs 32))) := ⟨by
    have b := ((Below.refl w.heap.size w).alloc (Nat.le_refl _) (.cells zR.cs 32)).alloc (by rw [z]; omega) (.cells zR.cs 32)
    refine ⟨hS.go b, KeepBut.of_below b g none, hgw, blk_alloc (heap_alloc_new w _) _, ?_⟩
    rw [← z w (.cells zR.cs 32)]; exact heap_alloc_new _ _⟩
  have HSZ : Aside0 ((Tryd.prog.info? 32).map (·.size) = some (12 : Nat)) := ⟨by kernel_rfl⟩
  clear hS z
  go_enter Tryd.func38, Tryd.ntmps38
  go_wp2_with fail
  refine (HM1.out _ HJ.out.rs).mono ?_
  rintro e w1 ⟨rfl, h1, h2⟩
  have HK1 := Aside0.mk (HJ.out.call h1 h2)
  clear HJ h1 h2
  obtain ⟨c0, c1, c2, c3, c4, c5, c6, c7, c8, c9, c10, c11⟩ := rfc HK1.out.box
  obtain ⟨f0, f1, f2, f3, f4, f5, f6, f7, f8, f9, f10, f11⟩ := rff HK1.out.box
  obtain ⟨p0, p1, _⟩ := HK1.out.rs.cells
  have HK2 : Aside0 (RqS w0 w g s _ (⟨es, es, false, false, 0, 0, false, false, 0, 0, false, false⟩ : Rf) (w1.setCell ⟨w.heap.size + 1, 2, none⟩ (.bool false))) := ⟨HK1.out.set hww 2 (⟨es, es, false, false, 0, 0, false, false, 0, 0, false, false⟩ : Rf) (by rfl)⟩
  go_wp2_with fail
  clear c0 c1 c2 c3 c4 c5 c6 c7 c8 c9 c10 c11 f0 f1 f2 f3 f4 f5 f6 f7 f8 f9 f10 f11 p0 p1
  refine (HS1.out _ HK2.out.rs).mono ?_
  rintro e w2 ⟨rfl, h1, h2⟩
  have HK3 := Aside0.mk (HK2.out.call h1 h2)
  clear HK2 h1 h2
  obtain ⟨c0, c1, c2, c3, c4, c5, c6, c7, c8, c9, c10, c11⟩ := rfc HK3.out.box
  obtain ⟨f0, f1, f2, f3, f4, f5, f6, f7, f8, f9, f10, f11⟩ := rff HK3.out.box
  obtain ⟨p0, p1, _⟩ := HK3.out.rs.cells
  have HK4 : Aside0 (RqS w0 w g s _ (⟨sn, es, false, false, 0, 0, false, false, 0, 0, false, false⟩ : Rf) (w2.setCell ⟨w.heap.size + 1, 0, none⟩ (.string sn))) := ⟨HK3.out.set hww 0 (⟨sn, es, false, false, 0, 0, false, false, 0, 0, false, false⟩ : Rf) (by rfl)⟩
  go_wp2_with fail
  clear c0 c1 c2 c3 c4 c5 c6 c7 c8 c9 c10 c11 f0 f1 f2 f3 f4 f5 f6 f7 f8 f9 f10 f11 p0 p1
  refine (HD1.out _ HK4.out.rs).mono ?_
  rintro e w3 ⟨rfl, h1, h2⟩
  have HK5 := Aside0.mk (HK4.out.call h1 h2)
  clear HK4 h1 h2
  obtain ⟨c0, c1, c2, c3, c4, c5, c6, c7, c8, c9, c10, c11⟩ := rfc HK5.out.box
  obtain ⟨f0, f1, f2, f3, f4, f5, f6, f7, f8, f9, f10, f11⟩ := rff HK5.out.box
  obtain ⟨p0, p1, _⟩ := HK5.out.rs.cells
  go_wp2_with fail
  clear c0 c1 c2 c3 c4 c5 c6 c7 c8 c9 c10 c11 f0 f1 f2 f3 f4 f5 f6 f7 f8 f9 f10 f11 p0 p1
  refine (HC1.out _ HK5.out.rs).mono ?_
  rintro e w4 ⟨rfl, h1, h2⟩
  have HK6 := Aside0.mk (HK5.out.call h1 h2)
  clear HK5 h1 h2
  obtain ⟨c0, c1, c2, c3, c4, c5, c6, c7, c8, c9, c10, c11⟩ := rfc HK6.out.box
  obtain ⟨f0, f1, f2, f3, f4, f5, f6, f7, f8, f9, f10, f11⟩ := rff HK6.out.box
  obtain ⟨p0, p1, _⟩ := HK6.out.rs.cells
  have HK7 : Aside0 (RqS w0 w g s _ (⟨sn, es, false, false, r, q, u, v, 0, 0, false, false⟩ : Rf) ((((w4.setCell ⟨w.heap.size + 1, 4, none⟩ (.int .i64 r)).setCell ⟨w.heap.size + 1, 5, none⟩ (.int .i64 q)).setCell ⟨w.heap.size + 1, 6, none⟩ (.bool u)).setCell ⟨w.heap.size + 1, 7, none⟩ (.bool v))) := ⟨(((HK6.out.set hww 4 (⟨sn, es, false, false, r, 0, false, false, 0, 0, false, false⟩ : Rf) (by rfl)).set hww 5 (⟨sn, es, false, false, r, q, false, false, 0, 0, false, false⟩ : Rf) (by rfl)).set hww 6 (⟨sn, es, false, false, r, q, u, false, 0, 0, false, false⟩ : Rf) (by rfl)).set hww 7 (⟨sn, es, false, false, r, q, u, v, 0, 0, false, false⟩ : Rf) (by rfl)⟩
  go_wp2_with fail
  clear c0 c1 c2 c3 c4 c5 c6 c7 c8 c9 c10 c11 f0 f1 f2 f3 f4 f5 f6 f7 f8 f9 f10 f11 p0 p1
  refine (HM2.out _ HK7.out.rs).mono ?_
  rintro e w5 ⟨rfl, h1, h2⟩
  have HK8 := Aside0.mk (HK7.out.call h1 h2)
  clear HK7 h1 h2
  obtain ⟨c0, c1, c2, c3, c4, c5, c6, c7, c8, c9, c10, c11⟩ := rfc HK8.out.box
  obtain ⟨f0, f1, f2, f3, f4, f5, f6, f7, f8, f9, f10, f11⟩ := rff HK8.out.box
  obtain ⟨p0, p1, _⟩ := HK8.out.rs.cells
  have HK9 : Aside0 (RqS w0 w g s _ (⟨sn, es, false, true, r, q, u, v, 0, 0, false, false⟩ : Rf) (w5.setCell ⟨w.heap.size + 1, 3, none⟩ (.bool true))) := ⟨HK8.out.set hww 3 (⟨sn, es, false, true, r, q, u, v, 0, 0, false, false⟩ : Rf) (by rfl)⟩
  go_wp2_with fail
  clear c0 c1 c2 c3 c4 c5 c6 c7 c8 c9 c10 c11 f0 f1 f2 f3 f4 f5 f6 f7 f8 f9 f10 f11 p0 p1
  refine (HS2.out _ HK9.out.rs).mono ?_
  rintro e w6 ⟨rfl, h1, h2⟩
  have HK10 := Aside0.mk (HK9.out.call h1 h2)
  clear HK9 h1 h2
  obtain ⟨c0, c1, c2, c3, c4, c5, c6, c7, c8, c9, c10, c11⟩ := rfc HK10.out.box
  obtain ⟨f0, f1, f2, f3, f4, f5, f6, f7, f8, f9, f10, f11⟩ := rff HK10.out.box
  obtain ⟨p0, p1, _⟩ := HK10.out.rs.cells
  have HK11 : Aside0 (RqS w0 w g s _ (⟨sn, tn, false, true, r, q, u, v, 0, 0, false, false⟩ : Rf) (w6.setCell ⟨w.heap.size + 1, 1, none⟩ (.string tn))) := ⟨HK10.out.set hww 1 (⟨sn, tn, false, true, r, q, u, v, 0, 0, false, false⟩ : Rf) (by rfl)⟩
  go_wp2_with fail
  clear c0 c1 c2 c3 c4 c5 c6 c7 c8 c9 c10 c11 f0 f1 f2 f3 f4 f5 f6 f7 f8 f9 f10 f11 p0 p1
  refine (HD2.out _ HK11.out.rs).mono ?_
  rintro e w7 ⟨rfl, h1, h2⟩
  have HK12 := Aside0.mk (HK11.out.call h1 h2)
  clear HK11 h1 h2
  obtain ⟨c0, c1, c2, c3, c4, c5, c6, c7, c8, c9, c10, c11⟩ := rfc HK12.out.box
  obtain ⟨f0, f1, f2, f3, f4, f5, f6, f7, f8, f9, f10, f11⟩ := rff HK12.out.box
  obtain ⟨p0, p1, _⟩ := HK12.out.rs.cells
  go_wp2_with fail
  clear c0 c1 c2 c3 c4 c5 c6 c7 c8 c9 c10 c11 f0 f1 f2 f3 f4 f5 f6 f7 f8 f9 f10 f11 p0 p1
  refine (HC2.out _ HK12.out.rs).mono ?_
  rintro e w8 ⟨rfl, h1, h2⟩
  have HK13 := Aside0.mk (HK12.out.call h1 h2)
  clear HK12 h1 h2
  obtain ⟨c0, c1, c2, c3, c4, c5, c6, c7, c8, c9, c10, c11⟩ := rfc HK13.out.box
  obtain ⟨f0, f1, f2, f3, f4, f5, f6, f7, f8, f9, f10, f11⟩ := rff HK13.out.box
  obtain ⟨p0, p1, _⟩ := HK13.out.rs.cells
  have HK14 : Aside0 (RqS w0 w g s _ (⟨sn, tn, false, true, r, q, u, v, r2, q2, u2, v2⟩ : Rf) ((((w8.setCell ⟨w.heap.size + 1, 8, none⟩ (.int .i64 r2)).setCell ⟨w.heap.size + 1, 9, none⟩ (.int .i64 q2)).setCell ⟨w.heap.size + 1, 10, none⟩ (.bool u2)).setCell ⟨w.heap.size + 1, 11, none⟩ (.bool v2))) := ⟨(((HK13.out.set hww 8 (⟨sn, tn, false, true, r, q, u, v, r2, 0, false, false⟩ : Rf) (by rfl)).set hww 9 (⟨sn, tn, false, true, r, q, u, v, r2, q2, false, false⟩ : Rf) (by rfl)).set hww 10 (⟨sn, tn, false, true, r, q, u, v, r2, q2, u2, false⟩ : Rf) (by rfl)).set hww 11 (⟨sn, tn, false, true, r, q, u, v, r2, q2, u2, v2⟩ : Rf) (by rfl)⟩
  go_wp2_with (refine wpList_store_row rfl 32 _ _ rfl w.heap.size (⟨sn, tn, false, true, r, q, u, v, r2, q2, u2, v2⟩ : Rf).cs rfl rfl 32 _ (RqS.res HK14.out) HSZ.out rfl (by simp [Value.oneCell']) ?_)
  have hne : ∀ j, j < w.heap.size → j ≠ w.heap.size := fun j hj => by omega
  refine bodyPost_ret (v := .agg (⟨sn, tn, false, true, r, q, u, v, r2, q2, u2, v2⟩ : Rf).cs) (results_c (p := 2) (ty := 32) (by kernel_rfl) _ _ w.heap.size 32 _ (0, 0) _ rfl (setRow_heap _ _ _ _ _ _ (RqS.res HK14.out)) Tryd.underlying32 rfl (by kernel_rfl)) rfl ⟨rfl, ?_, ?_⟩
  · exact ⟨(setRow_other _ _ _ _ (by have := HK14.out.far; omega)).trans HK14.out.rs.box, HK14.out.rs.low, bsr2 HK14.out.rs.below hww _, HK14.out.rs.start⟩
  · exact ⟨by rw [setRow_size]; exact HK14.out.keep.1, fun j hj h1 h2 => (setRow_other _ _ _ _ (hne j hj)).trans (HK14.out.keep.2 j hj h1 h2)⟩
set_option maxRecDepth 100000 in
set_option maxHeartbeats 16000000 in
theorem ref_fb1 (g : Nat) (s : ByteArray) (k k1 k2 k3 k4 k' : Nat) (sn tn : ByteArray) (r q : Int) (u v : Bool) (r2 q2 : Int) (u2 v2 : Bool) (w0 w : World) (hw : 3 + 1 ≤ w0.heap.size) (hs : s.size ≤ 140737488351232) (hS : RS w0 g s k w)
    (hM1 : (∀ w1, RS w0 g s k w1 → Calls Tryd.prog 46 #[.pointer (some ⟨g, 0, none⟩), .int .u8 36] w1 fun e w' => e = .returned (.bool true) ∧ RS w0 g s k1 w' ∧ KeepBut w1 w' g none))
    (hS1 : (∀ w1, RS w0 g s k1 w1 → Calls Tryd.prog 47 #[.pointer (some ⟨g, 0, none⟩)] w1 fun e w' => e = .returned (.string sn) ∧ RS w0 g s k2 w' ∧ KeepBut w1 w' g none))
    (hD1 : (∀ w1, RS w0 g s k2 w1 → Calls Tryd.prog 48 #[.pointer (some ⟨g, 0, none⟩), .int .u8 46] w1 fun e w' => e = .returned (.tuple #[]) ∧ RS w0 g s (k2 + 1) w' ∧ KeepBut w1 w' g none))
    (hC1 : (∀ w1, RS w0 g s (k2 + 1) w1 → Calls Tryd.prog 49 #[.pointer (some ⟨g, 0, none⟩)] w1 fun e w' => e = .returned (.agg #[.int .i64 r, .int .i64 q, .bool u, .bool v]) ∧ RS w0 g s k3 w' ∧ KeepBut w1 w' g none))
    (hM2 : (∀ w1, RS w0 g s k3 w1 → Calls Tryd.prog 46 #[.pointer (some ⟨g, 0, none⟩), .int .u8 58] w1 fun e w' => e = .returned (.bool true) ∧ RS w0 g s (k3 + 1) w' ∧ KeepBut w1 w' g none))
    (hS2 : (∀ w1, RS w0 g s (k3 + 1) w1 → Calls Tryd.prog 47 #[.pointer (some ⟨g, 0, none⟩)] w1 fun e w' => e = .returned (.string tn) ∧ RS w0 g s k4 w' ∧ KeepBut w1 w' g none))
    (hD2 : (∀ w1, RS w0 g s k4 w1 → Calls Tryd.prog 48 #[.pointer (some ⟨g, 0, none⟩), .int .u8 46] w1 fun e w' => e = .returned (.tuple #[]) ∧ RS w0 g s (k4 + 1) w' ∧ KeepBut w1 w' g none))
    (hC2 : (∀ w1, RS w0 g s (k4 + 1) w1 → Calls Tryd.prog 49 #[.pointer (some ⟨g, 0, none⟩)] w1 fun e w' => e = .returned (.agg #[.int .i64 r2, .int .i64 q2, .bool u2, .bool v2]) ∧ RS w0 g s k' w' ∧ KeepBut w1 w' g none))
    (hsn : 0 < sn.size)
    (htn : 0 < tn.size)
    : Calls Tryd.prog 38 #[.pointer (some ⟨g, 0, none⟩)] w fun e w' => e = .returned (.agg (⟨sn, tn, true, true, r, q, u, v, r2, q2, u2, v2⟩ : Rf).cs) ∧ RS w0 g s k' w' ∧ KeepBut w w' g none := by
  have HM1 := Aside0.mk hM1
  clear hM1
  have HS1 := Aside0.mk hS1
  clear hS1
  have HD1 := Aside0.mk hD1
  clear hD1
  have HC1 := Aside0.mk hC1
  clear hC1
  have HM2 := Aside0.mk hM2
  clear hM2
  have HS2 := Aside0.mk hS2
  clear hS2
  have HD2 := Aside0.mk hD2
  clear hD2
  have HC2 := Aside0.mk hC2
  clear hC2
  have e1 := toList_some hsn
  have e2 := toList_some htn
  have z : ∀ (w : World) (o : Obj), (w.alloc o).heap.size = w.heap.size + 1 := fun w o => Array.size_push ..
  have hgw : g < w.heap.size := blk_lt hS.box
  have hww : w0.heap.size ≤ w.heap.size := Nat.le_trans hS.low (Nat.le_of_lt hgw)
  have HJ : Aside0 (RqS w0 w g s k zR ((w.alloc (.cells zR.cs 32)).alloc (.cells zR.cs 32))) := ⟨by
    have b := ((Below.refl w.heap.size w).alloc (Nat.le_refl _) (.cells zR.cs 32)).alloc (by rw [z]; omega) (.cells zR.cs 32)
    refine ⟨hS.go b, KeepBut.of_below b g none, hgw, blk_alloc (heap_alloc_new w _) _, ?_⟩
    rw [← z w (.cells zR.cs 32)]; exact heap_alloc_new _ _⟩
  have HSZ : Aside0 ((Tryd.prog.info? 32).map (·.size) = some (12 : Nat)) := ⟨by kernel_rfl⟩
  clear hS z
  go_enter Tryd.func38, Tryd.ntmps38
  go_wp2_with fail
  refine (HM1.out _ HJ.out.rs).mono ?_
  rintro e w1 ⟨rfl, h1, h2⟩
  have HK1 := Aside0.mk (HJ.out.call h1 h2)
  clear HJ h1 h2
  obtain ⟨c0, c1, c2, c3, c4, c5, c6, c7, c8, c9, c10, c11⟩ := rfc HK1.out.box
  obtain ⟨f0, f1, f2, f3, f4, f5, f6, f7, f8, f9, f10, f11⟩ := rff HK1.out.box
  obtain ⟨p0, p1, _⟩ := HK1.out.rs.cells
  have HK2 : Aside0 (RqS w0 w g s _ (⟨es, es, true, false, 0, 0, false, false, 0, 0, false, false⟩ : Rf) (w1.setCell ⟨w.heap.size + 1, 2, none⟩ (.bool true))) := ⟨HK1.out.set hww 2 (⟨es, es, true, false, 0, 0, false, false, 0, 0, false, false⟩ : Rf) (by rfl)⟩
  go_wp2_with fail
  clear c0 c1 c2 c3 c4 c5 c6 c7 c8 c9 c10 c11 f0 f1 f2 f3 f4 f5 f6 f7 f8 f9 f10 f11 p0 p1
  refine (HS1.out _ HK2.out.rs).mono ?_
  rintro e w2 ⟨rfl, h1, h2⟩
  have HK3 := Aside0.mk (HK2.out.call h1 h2)
  clear HK2 h1 h2
  obtain ⟨c0, c1, c2, c3, c4, c5, c6, c7, c8, c9, c10, c11⟩ := rfc HK3.out.box
  obtain ⟨f0, f1, f2, f3, f4, f5, f6, f7, f8, f9, f10, f11⟩ := rff HK3.out.box
  obtain ⟨p0, p1, _⟩ := HK3.out.rs.cells
  have HK4 : Aside0 (RqS w0 w g s _ (⟨sn, es, true, false, 0, 0, false, false, 0, 0, false, false⟩ : Rf) (w2.setCell ⟨w.heap.size + 1, 0, none⟩ (.string sn))) := ⟨HK3.out.set hww 0 (⟨sn, es, true, false, 0, 0, false, false, 0, 0, false, false⟩ : Rf) (by rfl)⟩
  go_wp2_with fail
  clear c0 c1 c2 c3 c4 c5 c6 c7 c8 c9 c10 c11 f0 f1 f2 f3 f4 f5 f6 f7 f8 f9 f10 f11 p0 p1
  refine (HD1.out _ HK4.out.rs).mono ?_
  rintro e w3 ⟨rfl, h1, h2⟩
  have HK5 := Aside0.mk (HK4.out.call h1 h2)
  clear HK4 h1 h2
  obtain ⟨c0, c1, c2, c3, c4, c5, c6, c7, c8, c9, c10, c11⟩ := rfc HK5.out.box
  obtain ⟨f0, f1, f2, f3, f4, f5, f6, f7, f8, f9, f10, f11⟩ := rff HK5.out.box
  obtain ⟨p0, p1, _⟩ := HK5.out.rs.cells
  go_wp2_with fail
  clear c0 c1 c2 c3 c4 c5 c6 c7 c8 c9 c10 c11 f0 f1 f2 f3 f4 f5 f6 f7 f8 f9 f10 f11 p0 p1
  refine (HC1.out _ HK5.out.rs).mono ?_
  rintro e w4 ⟨rfl, h1, h2⟩
  have HK6 := Aside0.mk (HK5.out.call h1 h2)
  clear HK5 h1 h2
  obtain ⟨c0, c1, c2, c3, c4, c5, c6, c7, c8, c9, c10, c11⟩ := rfc HK6.out.box
  obtain ⟨f0, f1, f2, f3, f4, f5, f6, f7, f8, f9, f10, f11⟩ := rff HK6.out.box
  obtain ⟨p0, p1, _⟩ := HK6.out.rs.cells
  have HK7 : Aside0 (RqS w0 w g s _ (⟨sn, es, true, false, r, q, u, v, 0, 0, false, false⟩ : Rf) ((((w4.setCell ⟨w.heap.size + 1, 4, none⟩ (.int .i64 r)).setCell ⟨w.heap.size + 1, 5, none⟩ (.int .i64 q)).setCell ⟨w.heap.size + 1, 6, none⟩ (.bool u)).setCell ⟨w.heap.size + 1, 7, none⟩ (.bool v))) := ⟨(((HK6.out.set hww 4 (⟨sn, es, true, false, r, 0, false, false, 0, 0, false, false⟩ : Rf) (by rfl)).set hww 5 (⟨sn, es, true, false, r, q, false, false, 0, 0, false, false⟩ : Rf) (by rfl)).set hww 6 (⟨sn, es, true, false, r, q, u, false, 0, 0, false, false⟩ : Rf) (by rfl)).set hww 7 (⟨sn, es, true, false, r, q, u, v, 0, 0, false, false⟩ : Rf) (by rfl)⟩
  go_wp2_with fail
  clear c0 c1 c2 c3 c4 c5 c6 c7 c8 c9 c10 c11 f0 f1 f2 f3 f4 f5 f6 f7 f8 f9 f10 f11 p0 p1
  refine (HM2.out _ HK7.out.rs).mono ?_
  rintro e w5 ⟨rfl, h1, h2⟩
  have HK8 := Aside0.mk (HK7.out.call h1 h2)
  clear HK7 h1 h2
  obtain ⟨c0, c1, c2, c3, c4, c5, c6, c7, c8, c9, c10, c11⟩ := rfc HK8.out.box
  obtain ⟨f0, f1, f2, f3, f4, f5, f6, f7, f8, f9, f10, f11⟩ := rff HK8.out.box
  obtain ⟨p0, p1, _⟩ := HK8.out.rs.cells
  have HK9 : Aside0 (RqS w0 w g s _ (⟨sn, es, true, true, r, q, u, v, 0, 0, false, false⟩ : Rf) (w5.setCell ⟨w.heap.size + 1, 3, none⟩ (.bool true))) := ⟨HK8.out.set hww 3 (⟨sn, es, true, true, r, q, u, v, 0, 0, false, false⟩ : Rf) (by rfl)⟩
  go_wp2_with fail
  clear c0 c1 c2 c3 c4 c5 c6 c7 c8 c9 c10 c11 f0 f1 f2 f3 f4 f5 f6 f7 f8 f9 f10 f11 p0 p1
  refine (HS2.out _ HK9.out.rs).mono ?_
  rintro e w6 ⟨rfl, h1, h2⟩
  have HK10 := Aside0.mk (HK9.out.call h1 h2)
  clear HK9 h1 h2
  obtain ⟨c0, c1, c2, c3, c4, c5, c6, c7, c8, c9, c10, c11⟩ := rfc HK10.out.box
  obtain ⟨f0, f1, f2, f3, f4, f5, f6, f7, f8, f9, f10, f11⟩ := rff HK10.out.box
  obtain ⟨p0, p1, _⟩ := HK10.out.rs.cells
  have HK11 : Aside0 (RqS w0 w g s _ (⟨sn, tn, true, true, r, q, u, v, 0, 0, false, false⟩ : Rf) (w6.setCell ⟨w.heap.size + 1, 1, none⟩ (.string tn))) := ⟨HK10.out.set hww 1 (⟨sn, tn, true, true, r, q, u, v, 0, 0, false, false⟩ : Rf) (by rfl)⟩
  go_wp2_with fail
  clear c0 c1 c2 c3 c4 c5 c6 c7 c8 c9 c10 c11 f0 f1 f2 f3 f4 f5 f6 f7 f8 f9 f10 f11 p0 p1
  refine (HD2.out _ HK11.out.rs).mono ?_
  rintro e w7 ⟨rfl, h1, h2⟩
  have HK12 := Aside0.mk (HK11.out.call h1 h2)
  clear HK11 h1 h2
  obtain ⟨c0, c1, c2, c3, c4, c5, c6, c7, c8, c9, c10, c11⟩ := rfc HK12.out.box
  obtain ⟨f0, f1, f2, f3, f4, f5, f6, f7, f8, f9, f10, f11⟩ := rff HK12.out.box
  obtain ⟨p0, p1, _⟩ := HK12.out.rs.cells
  go_wp2_with fail
  clear c0 c1 c2 c3 c4 c5 c6 c7 c8 c9 c10 c11 f0 f1 f2 f3 f4 f5 f6 f7 f8 f9 f10 f11 p0 p1
  refine (HC2.out _ HK12.out.rs).mono ?_
  rintro e w8 ⟨rfl, h1, h2⟩
  have HK13 := Aside0.mk (HK12.out.call h1 h2)
  clear HK12 h1 h2
  obtain ⟨c0, c1, c2, c3, c4, c5, c6, c7, c8, c9, c10, c11⟩ := rfc HK13.out.box
  obtain ⟨f0, f1, f2, f3, f4, f5, f6, f7, f8, f9, f10, f11⟩ := rff HK13.out.box
  obtain ⟨p0, p1, _⟩ := HK13.out.rs.cells
  have HK14 : Aside0 (RqS w0 w g s _ (⟨sn, tn, true, true, r, q, u, v, r2, q2, u2, v2⟩ : Rf) ((((w8.setCell ⟨w.heap.size + 1, 8, none⟩ (.int .i64 r2)).setCell ⟨w.heap.size + 1, 9, none⟩ (.int .i64 q2)).setCell ⟨w.heap.size + 1, 10, none⟩ (.bool u2)).setCell ⟨w.heap.size + 1, 11, none⟩ (.bool v2))) := ⟨(((HK13.out.set hww 8 (⟨sn, tn, true, true, r, q, u, v, r2, 0, false, false⟩ : Rf) (by rfl)).set hww 9 (⟨sn, tn, true, true, r, q, u, v, r2, q2, false, false⟩ : Rf) (by rfl)).set hww 10 (⟨sn, tn, true, true, r, q, u, v, r2, q2, u2, false⟩ : Rf) (by rfl)).set hww 11 (⟨sn, tn, true, true, r, q, u, v, r2, q2, u2, v2⟩ : Rf) (by rfl)⟩
  go_wp2_with (refine wpList_store_row rfl 32 _ _ rfl w.heap.size (⟨sn, tn, true, true, r, q, u, v, r2, q2, u2, v2⟩ : Rf).cs rfl rfl 32 _ (RqS.res HK14.out) HSZ.out rfl (by simp [Value.oneCell']) ?_)
  have hne : ∀ j, j < w.heap.size → j ≠ w.heap.size := fun j hj => by omega
  refine bodyPost_ret (v := .agg (⟨sn, tn, true, true, r, q, u, v, r2, q2, u2, v2⟩ : Rf).cs) (results_c (p := 2) (ty := 32) (by kernel_rfl) _ _ w.heap.size 32 _ (0, 0) _ rfl (setRow_heap _ _ _ _ _ _ (RqS.res HK14.out)) Tryd.underlying32 rfl (by kernel_rfl)) rfl ⟨rfl, ?_, ?_⟩
  · exact ⟨(setRow_other _ _ _ _ (by have := HK14.out.far; omega)).trans HK14.out.rs.box, HK14.out.rs.low, bsr2 HK14.out.rs.below hww _, HK14.out.rs.start⟩
  · exact ⟨by rw [setRow_size]; exact HK14.out.keep.1, fun j hj h1 h2 => (setRow_other _ _ _ _ (hne j hj)).trans (HK14.out.keep.2 j hj h1 h2)⟩
set_option maxRecDepth 100000 in
set_option maxHeartbeats 16000000 in
theorem ref_b1 (g : Nat) (s : ByteArray) (k k1 k2 k3 k4 k' : Nat) (sn tn : ByteArray) (r q : Int) (u v : Bool) (r2 q2 : Int) (u2 v2 : Bool) (w0 w : World) (hw : 3 + 1 ≤ w0.heap.size) (hs : s.size ≤ 140737488351232) (hS : RS w0 g s k w)
    (hM1 : (∀ w1, RS w0 g s k w1 → Calls Tryd.prog 46 #[.pointer (some ⟨g, 0, none⟩), .int .u8 36] w1 fun e w' => e = .returned (.bool false) ∧ RS w0 g s k1 w' ∧ KeepBut w1 w' g none))
    (hS1 : (∀ w1, RS w0 g s k1 w1 → Calls Tryd.prog 47 #[.pointer (some ⟨g, 0, none⟩)] w1 fun e w' => e = .returned (.string sn) ∧ RS w0 g s k2 w' ∧ KeepBut w1 w' g none))
    (hD1 : (∀ w1, RS w0 g s k2 w1 → Calls Tryd.prog 48 #[.pointer (some ⟨g, 0, none⟩), .int .u8 46] w1 fun e w' => e = .returned (.tuple #[]) ∧ RS w0 g s (k2 + 1) w' ∧ KeepBut w1 w' g none))
    (hC1 : (∀ w1, RS w0 g s (k2 + 1) w1 → Calls Tryd.prog 49 #[.pointer (some ⟨g, 0, none⟩)] w1 fun e w' => e = .returned (.agg #[.int .i64 r, .int .i64 q, .bool u, .bool v]) ∧ RS w0 g s k3 w' ∧ KeepBut w1 w' g none))
    (hM2 : (∀ w1, RS w0 g s k3 w1 → Calls Tryd.prog 46 #[.pointer (some ⟨g, 0, none⟩), .int .u8 58] w1 fun e w' => e = .returned (.bool true) ∧ RS w0 g s (k3 + 1) w' ∧ KeepBut w1 w' g none))
    (hS2 : (∀ w1, RS w0 g s (k3 + 1) w1 → Calls Tryd.prog 47 #[.pointer (some ⟨g, 0, none⟩)] w1 fun e w' => e = .returned (.string tn) ∧ RS w0 g s k4 w' ∧ KeepBut w1 w' g none))
    (hD2 : (∀ w1, RS w0 g s k4 w1 → Calls Tryd.prog 48 #[.pointer (some ⟨g, 0, none⟩), .int .u8 46] w1 fun e w' => e = .returned (.tuple #[]) ∧ RS w0 g s (k4 + 1) w' ∧ KeepBut w1 w' g none))
    (hC2 : (∀ w1, RS w0 g s (k4 + 1) w1 → Calls Tryd.prog 49 #[.pointer (some ⟨g, 0, none⟩)] w1 fun e w' => e = .returned (.agg #[.int .i64 r2, .int .i64 q2, .bool u2, .bool v2]) ∧ RS w0 g s k' w' ∧ KeepBut w1 w' g none))
    (hsn : 0 < sn.size)
    (htn : 0 < tn.size)
    : Calls Tryd.prog 38 #[.pointer (some ⟨g, 0, none⟩)] w fun e w' => e = .returned (.agg (⟨sn, tn, false, true, r, q, u, v, r2, q2, u2, v2⟩ : Rf).cs) ∧ RS w0 g s k' w' ∧ KeepBut w w' g none := by
  have HM1 := Aside0.mk hM1
  clear hM1
  have HS1 := Aside0.mk hS1
  clear hS1
  have HD1 := Aside0.mk hD1
  clear hD1
  have HC1 := Aside0.mk hC1
  clear hC1
  have HM2 := Aside0.mk hM2
  clear hM2
  have HS2 := Aside0.mk hS2
  clear hS2
  have HD2 := Aside0.mk hD2
  clear hD2
  have HC2 := Aside0.mk hC2
  clear hC2
  have e1 := toList_some hsn
  have e2 := toList_some htn
  have z : ∀ (w : World) (o : Obj), (w.alloc o).heap.size = w.heap.size + 1 := fun w o => Array.size_push ..
  have hgw : g < w.heap.size := blk_lt hS.box
  have hww : w0.heap.size ≤ w.heap.size := Nat.le_trans hS.low (Nat.le_of_lt hgw)
  have HJ : Aside0 (RqS w0 w g s k zR ((w.alloc (.cells zR.cs 32)).alloc (.cells zR.cs 32))) := ⟨by
    have b := ((Below.refl w.heap.size w).alloc (Nat.le_refl _) (.cells zR.cs 32)).alloc (by rw [z]; omega) (.cells zR.cs 32)
    refine ⟨hS.go b, KeepBut.of_below b g none, hgw, blk_alloc (heap_alloc_new w _) _, ?_⟩
    rw [← z w (.cells zR.cs 32)]; exact heap_alloc_new _ _⟩
  have HSZ : Aside0 ((Tryd.prog.info? 32).map (·.size) = some (12 : Nat)) := ⟨by kernel_rfl⟩
  clear hS z
  go_enter Tryd.func38, Tryd.ntmps38
  go_wp2_with fail
  refine (HM1.out _ HJ.out.rs).mono ?_
  rintro e w1 ⟨rfl, h1, h2⟩
  have HK1 := Aside0.mk (HJ.out.call h1 h2)
  clear HJ h1 h2
  obtain ⟨c0, c1, c2, c3, c4, c5, c6, c7, c8, c9, c10, c11⟩ := rfc HK1.out.box
  obtain ⟨f0, f1, f2, f3, f4, f5, f6, f7, f8, f9, f10, f11⟩ := rff HK1.out.box
  obtain ⟨p0, p1, _⟩ := HK1.out.rs.cells
  have HK2 : Aside0 (RqS w0 w g s _ (⟨es, es, false, false, 0, 0, false, false, 0, 0, false, false⟩ : Rf) (w1.setCell ⟨w.heap.size + 1, 2, none⟩ (.bool false))) := ⟨HK1.out.set hww 2 (⟨es, es, false, false, 0, 0, false, false, 0, 0, false, false⟩ : Rf) (by rfl)⟩
  go_wp2_with fail
  clear c0 c1 c2 c3 c4 c5 c6 c7 c8 c9 c10 c11 f0 f1 f2 f3 f4 f5 f6 f7 f8 f9 f10 f11 p0 p1
  refine (HS1.out _ HK2.out.rs).mono ?_
  rintro e w2 ⟨rfl, h1, h2⟩
  have HK3 := Aside0.mk (HK2.out.call h1 h2)
  clear HK2 h1 h2
  obtain ⟨c0, c1, c2, c3, c4, c5, c6, c7, c8, c9, c10, c11⟩ := rfc HK3.out.box
  obtain ⟨f0, f1, f2, f3, f4, f5, f6, f7, f8, f9, f10, f11⟩ := rff HK3.out.box
  obtain ⟨p0, p1, _⟩ := HK3.out.rs.cells
  have HK4 : Aside0 (RqS w0 w g s _ (⟨sn, es, false, false, 0, 0, false, false, 0, 0, false, false⟩ : Rf) (w2.setCell ⟨w.heap.size + 1, 0, none⟩ (.string sn))) := ⟨HK3.out.set hww 0 (⟨sn, es, false, false, 0, 0, false, false, 0, 0, false, false⟩ : Rf) (by rfl)⟩
  go_wp2_with fail
  clear c0 c1 c2 c3 c4 c5 c6 c7 c8 c9 c10 c11 f0 f1 f2 f3 f4 f5 f6 f7 f8 f9 f10 f11 p0 p1
  refine (HD1.out _ HK4.out.rs).mono ?_
  rintro e w3 ⟨rfl, h1, h2⟩
  have HK5 := Aside0.mk (HK4.out.call h1 h2)
  clear HK4 h1 h2
  obtain ⟨c0, c1, c2, c3, c4, c5, c6, c7, c8, c9, c10, c11⟩ := rfc HK5.out.box
  obtain ⟨f0, f1, f2, f3, f4, f5, f6, f7, f8, f9, f10, f11⟩ := rff HK5.out.box
  obtain ⟨p0, p1, _⟩ := HK5.out.rs.cells
  go_wp2_with fail
  clear c0 c1 c2 c3 c4 c5 c6 c7 c8 c9 c10 c11 f0 f1 f2 f3 f4 f5 f6 f7 f8 f9 f10 f11 p0 p1
  refine (HC1.out _ HK5.out.rs).mono ?_
  rintro e w4 ⟨rfl, h1, h2⟩
  have HK6 := Aside0.mk (HK5.out.call h1 h2)
  clear HK5 h1 h2
  obtain ⟨c0, c1, c2, c3, c4, c5, c6, c7, c8, c9, c10, c11⟩ := rfc HK6.out.box
  obtain ⟨f0, f1, f2, f3, f4, f5, f6, f7, f8, f9, f10, f11⟩ := rff HK6.out.box
  obtain ⟨p0, p1, _⟩ := HK6.out.rs.cells
  have HK7 : Aside0 (RqS w0 w g s _ (⟨sn, es, false, false, r, q, u, v, 0, 0, false, false⟩ : Rf) ((((w4.setCell ⟨w.heap.size + 1, 4, none⟩ (.int .i64 r)).setCell ⟨w.heap.size + 1, 5, none⟩ (.int .i64 q)).setCell ⟨w.heap.size + 1, 6, none⟩ (.bool u)).setCell ⟨w.heap.size + 1, 7, none⟩ (.bool v))) := ⟨(((HK6.out.set hww 4 (⟨sn, es, false, false, r, 0, false, false, 0, 0, false, false⟩ : Rf) (by rfl)).set hww 5 (⟨sn, es, false, false, r, q, false, false, 0, 0, false, false⟩ : Rf) (by rfl)).set hww 6 (⟨sn, es, false, false, r, q, u, false, 0, 0, false, false⟩ : Rf) (by rfl)).set hww 7 (⟨sn, es, false, false, r, q, u, v, 0, 0, false, false⟩ : Rf) (by rfl)⟩
  go_wp2_with fail
  clear c0 c1 c2 c3 c4 c5 c6 c7 c8 c9 c10 c11 f0 f1 f2 f3 f4 f5 f6 f7 f8 f9 f10 f11 p0 p1
  refine (HM2.out _ HK7.out.rs).mono ?_
  rintro e w5 ⟨rfl, h1, h2⟩
  have HK8 := Aside0.mk (HK7.out.call h1 h2)
  clear HK7 h1 h2
  obtain ⟨c0, c1, c2, c3, c4, c5, c6, c7, c8, c9, c10, c11⟩ := rfc HK8.out.box
  obtain ⟨f0, f1, f2, f3, f4, f5, f6, f7, f8, f9, f10, f11⟩ := rff HK8.out.box
  obtain ⟨p0, p1, _⟩ := HK8.out.rs.cells
  have HK9 : Aside0 (RqS w0 w g s _ (⟨sn, es, false, true, r, q, u, v, 0, 0, false, false⟩ : Rf) (w5.setCell ⟨w.heap.size + 1, 3, none⟩ (.bool true))) := ⟨HK8.out.set hww 3 (⟨sn, es, false, true, r, q, u, v, 0, 0, false, false⟩ : Rf) (by rfl)⟩
  go_wp2_with fail
  clear c0 c1 c2 c3 c4 c5 c6 c7 c8 c9 c10 c11 f0 f1 f2 f3 f4 f5 f6 f7 f8 f9 f10 f11 p0 p1
  refine (HS2.out _ HK9.out.rs).mono ?_
  rintro e w6 ⟨rfl, h1, h2⟩
  have HK10 := Aside0.mk (HK9.out.call h1 h2)
  clear HK9 h1 h2
  obtain ⟨c0, c1, c2, c3, c4, c5, c6, c7, c8, c9, c10, c11⟩ := rfc HK10.out.box
  obtain ⟨f0, f1, f2, f3, f4, f5, f6, f7, f8, f9, f10, f11⟩ := rff HK10.out.box
  obtain ⟨p0, p1, _⟩ := HK10.out.rs.cells
  have HK11 : Aside0 (RqS w0 w g s _ (⟨sn, tn, false, true, r, q, u, v, 0, 0, false, false⟩ : Rf) (w6.setCell ⟨w.heap.size + 1, 1, none⟩ (.string tn))) := ⟨HK10.out.set hww 1 (⟨sn, tn, false, true, r, q, u, v, 0, 0, false, false⟩ : Rf) (by rfl)⟩
  go_wp2_with fail
  clear c0 c1 c2 c3 c4 c5 c6 c7 c8 c9 c10 c11 f0 f1 f2 f3 f4 f5 f6 f7 f8 f9 f10 f11 p0 p1
  refine (HD2.out _ HK11.out.rs).mono ?_
  rintro e w7 ⟨rfl, h1, h2⟩
  have HK12 := Aside0.mk (HK11.out.call h1 h2)
  clear HK11 h1 h2
  obtain ⟨c0, c1, c2, c3, c4, c5, c6, c7, c8, c9, c10, c11⟩ := rfc HK12.out.box
  obtain ⟨f0, f1, f2, f3, f4, f5, f6, f7, f8, f9, f10, f11⟩ := rff HK12.out.box
  obtain ⟨p0, p1, _⟩ := HK12.out.rs.cells
  go_wp2_with fail
  clear c0 c1 c2 c3 c4 c5 c6 c7 c8 c9 c10 c11 f0 f1 f2 f3 f4 f5 f6 f7 f8 f9 f10 f11 p0 p1
  refine (HC2.out _ HK12.out.rs).mono ?_
  rintro e w8 ⟨rfl, h1, h2⟩
  have HK13 := Aside0.mk (HK12.out.call h1 h2)
  clear HK12 h1 h2
  obtain ⟨c0, c1, c2, c3, c4, c5, c6, c7, c8, c9, c10, c11⟩ := rfc HK13.out.box
  obtain ⟨f0, f1, f2, f3, f4, f5, f6, f7, f8, f9, f10, f11⟩ := rff HK13.out.box
  obtain ⟨p0, p1, _⟩ := HK13.out.rs.cells
  have HK14 : Aside0 (RqS w0 w g s _ (⟨sn, tn, false, true, r, q, u, v, r2, q2, u2, v2⟩ : Rf) ((((w8.setCell ⟨w.heap.size + 1, 8, none⟩ (.int .i64 r2)).setCell ⟨w.heap.size + 1, 9, none⟩ (.int .i64 q2)).setCell ⟨w.heap.size + 1, 10, none⟩ (.bool u2)).setCell ⟨w.heap.size + 1, 11, none⟩ (.bool v2))) := ⟨(((HK13.out.set hww 8 (⟨sn, tn, false, true, r, q, u, v, r2, 0, false, false⟩ : Rf) (by rfl)).set hww 9 (⟨sn, tn, false, true, r, q, u, v, r2, q2, false, false⟩ : Rf) (by rfl)).set hww 10 (⟨sn, tn, false, true, r, q, u, v, r2, q2, u2, false⟩ : Rf) (by rfl)).set hww 11 (⟨sn, tn, false, true, r, q, u, v, r2, q2, u2, v2⟩ : Rf) (by rfl)⟩
  go_wp2_with (refine wpList_store_row rfl 32 _ _ rfl w.heap.size (⟨sn, tn, false, true, r, q, u, v, r2, q2, u2, v2⟩ : Rf).cs rfl rfl 32 _ (RqS.res HK14.out) HSZ.out rfl (by simp [Value.oneCell']) ?_)
  have hne : ∀ j, j < w.heap.size → j ≠ w.heap.size := fun j hj => by omega
  refine bodyPost_ret (v := .agg (⟨sn, tn, false, true, r, q, u, v, r2, q2, u2, v2⟩ : Rf).cs) (results_c (p := 2) (ty := 32) (by kernel_rfl) _ _ w.heap.size 32 _ (0, 0) _ rfl (setRow_heap _ _ _ _ _ _ (RqS.res HK14.out)) Tryd.underlying32 rfl (by kernel_rfl)) rfl ⟨rfl, ?_, ?_⟩
  · exact ⟨(setRow_other _ _ _ _ (by have := HK14.out.far; omega)).trans HK14.out.rs.box, HK14.out.rs.low, bsr2 HK14.out.rs.below hww _, HK14.out.rs.start⟩
  · exact ⟨by rw [setRow_size]; exact HK14.out.keep.1, fun j hj h1 h2 => (setRow_other _ _ _ _ (hne j hj)).trans (HK14.out.keep.2 j hj h1 h2)⟩
end Go.Proofs.YtjbcdfbgbocblaaDoor.Hw
