import Derived.Test.YtjbcdfbgbocblaaDoorQrM
import Derived.Lib.AtoiErrMem
/- The reader of references, walked: a corner. -/
namespace Go.Proofs.YtjbcdfbgbocblaaDoor.Hw
open Go.RowKit Go.Proofs.YtjbcdfbgbocblaaDoorW.PrintWords Go.Proofs.YtjbcdfbgbocblaaDoorW.PrintLast Go.Proofs.YtjbcdfbgbocblaaDoorW.PrintMore Go.Proofs.YtjbcdfbgbocblaaDoor.PH Go.Proofs.YtjbcdfbgbocblaaDoor.CP
set_option linter.unusedVariables false
set_option linter.unusedSimpArgs false
theorem results_c {P : Program} {fn : Func} {p : Tmp} {ty : TypeId} (h : fn.results = #[.cell p ty]) (tmps : Array Value) (w : World) (g : Nat) (t : TypeId) (cs : Array Value) (fr : Nat × Nat) (d : TypeDesc)
    (hp : tmps.getD p undef = .pointer (some ⟨g, 0, none⟩)) (hg : w.heap[g]? = some (.cells cs t fr))
    (hu : P.underlying ty = some d) (hd : (match d with | .struct _ | .array _ _ => true | _ => false) = true) (hi : (P.info? ty).map (·.size) = some cs.size) :
    (results fn tmps).run P w = .ok (.agg cs) w := by
  have hp' : tmps[p]?.getD undef = .pointer (some ⟨g, 0, none⟩) := by simpa using hp
  simp [results, h, hp', asAddr, run_loadVar_row w g t ty cs fr d hg hu hd hi]
/-- A corner stands there, up to a point. -/
structure cornerAt (s : ByteArray) (k k' : Nat) (u v : Bool) (r q : Nat) (ka kb kc : Nat) : Prop where
  col : if v then stands s k 36 ∧ ka = k + 1 else ¬ stands s k 36 ∧ ka = k
  caps : runEnd (fun c => decide (65 ≤ c.toNat ∧ c.toNat ≤ 90)) s ka kb
  num : ∃ K, refs_ParseColumn.f K (s.extract ka kb) = some ((q : Int), 0)
  row : if u then stands s kb 36 ∧ kc = kb + 1 else ¬ stands s kb 36 ∧ kc = kb
  digits : runEnd (fun c => isD c.toNat) s kc k'
  first : ∃ h : kc < s.size, kc < k' ∧ ¬ (s[kc]).toNat = 48
  short : k' ≤ kc + 18
  val : Lib.atoi (s.extract kc k').data.toList = some ((r + 1 : Nat) : Int)
  small : r < 1048576
/-- Within corner: the reader's place, the result's box and the corner's. -/
structure CqS (w0 w : World) (g : Nat) (s : ByteArray) (k : Nat) (v0 v1 v2 v3 : Value) (w' : World) : Prop where
  rs : RS w0 g s k w'
  keep : KeepBut w w' g none
  far : g < w.heap.size
  res : w'.heap[w.heap.size]? = some (.cells #[.int .i64 0, .int .i64 0, .bool false, .bool false] 30 (0, 0))
  box : w'.heap[w.heap.size + 1]? = some (.cells #[v0, v1, v2, v3] 30 (0, 0))
section
variable {w0 w w1 w2 : World} {g k k2 : Nat} {s : ByteArray} {v0 v1 v2 v3 v : Value}
theorem CqS.call (h : CqS w0 w g s k v0 v1 v2 v3 w1) (hr : RS w0 g s k2 w2) (hk : KeepBut w1 w2 g none) : CqS w0 w g s k2 v0 v1 v2 v3 w2 :=
  ⟨hr, h.keep.trans hk (.inl rfl), h.far, hk.blk h.res (by have := h.far; omega) (by simp), hk.blk h.box (by have := h.far; omega) (by simp)⟩
theorem CqS.pure (h : CqS w0 w g s k v0 v1 v2 v3 w1) (hb : Below w1.heap.size w1 w2) : CqS w0 w g s k v0 v1 v2 v3 w2 := h.call (h.rs.go hb) (KeepBut.of_below hb g none)
theorem CqS.cells (h : CqS w0 w g s k v0 v1 v2 v3 w1) : (w1.cell? ⟨w.heap.size + 1, 0, none⟩ = some v0 ∧ w1.cell? ⟨w.heap.size + 1, 1, none⟩ = some v1 ∧ w1.cell? ⟨w.heap.size + 1, 2, none⟩ = some v2 ∧ w1.cell? ⟨w.heap.size + 1, 3, none⟩ = some v3) ∧ (w1.frozen? ⟨w.heap.size + 1, 0, none⟩ = false ∧ w1.frozen? ⟨w.heap.size + 1, 1, none⟩ = false ∧ w1.frozen? ⟨w.heap.size + 1, 2, none⟩ = false ∧ w1.frozen? ⟨w.heap.size + 1, 3, none⟩ = false) ∧ w1.cell? ⟨g, 0, none⟩ = some (.string s) ∧ w1.cell? ⟨g, 1, none⟩ = some (.int .i64 (k : Int)) :=
  ⟨⟨(blk_cell h.box 0).trans rfl, (blk_cell h.box 1).trans rfl, (blk_cell h.box 2).trans rfl, (blk_cell h.box 3).trans rfl⟩, ⟨blk_frozen h.box 0, blk_frozen h.box 1, blk_frozen h.box 2, blk_frozen h.box 3⟩, h.rs.cells.1, h.rs.cells.2.1⟩
theorem CqS.set (h : CqS w0 w g s k v0 v1 v2 v3 w1) (hl : w0.heap.size ≤ w.heap.size) (i : Nat) {u0 u1 u2 u3 : Value} (hu : #[v0, v1, v2, v3].setIfInBounds i v = #[u0, u1, u2, u3]) : CqS w0 w g s k u0 u1 u2 u3 (w1.setCell ⟨w.heap.size + 1, i, none⟩ v) := by
  have hf := h.far
  refine ⟨⟨blk_far h.rs.box (by show g ≠ w.heap.size + 1; omega) _, h.rs.low, h.rs.below.setCell (by show _ ≤ w.heap.size + 1; omega) _, h.rs.start⟩, ⟨by rw [show (w1.setCell ⟨w.heap.size + 1, i, none⟩ v).heap.size = w1.heap.size from by simp [World.setCell]]; exact h.keep.1, fun j hj h1 h2 => (Below.heap_setCell w1 _ v j (by show j ≠ w.heap.size + 1; omega)).trans (h.keep.2 j hj h1 h2)⟩, hf, blk_far h.res (by show w.heap.size ≠ w.heap.size + 1; omega) _, blk_put h.box i v hu⟩
end
theorem bsr2 {B g : Nat} {w0 w : World} (hb : Below B w0 w) (hB : B ≤ g) (cs : Array Value) : Below B w0 (w.setRow g cs) :=
  ⟨hb.os, hb.tape, hb.output, by rw [setRow_size]; exact hb.size, fun b h => (setRow_other w g b cs (by omega)).trans (hb.block b h)⟩
set_option maxRecDepth 100000 in
set_option maxHeartbeats 8000000 in
theorem corner_read (g : Nat) (s : ByteArray) (k k' : Nat) (u v : Bool) (r q : Nat) (ka kb kc : Nat) (w0 w : World) (hw : 3 + 1 ≤ w0.heap.size) (hs : s.size ≤ 140737488351232) (hS : RS w0 g s k w) (h : cornerAt s k k' u v r q ka kb kc) :
    Calls Tryd.prog 49 #[.pointer (some ⟨g, 0, none⟩)] w fun e w' => e = .returned (.agg #[.int .i64 (r : Int), .int .i64 (q : Int), .bool u, .bool v]) ∧ RS w0 g s k' w' ∧ KeepBut w w' g none := by
  obtain ⟨hcol, hcaps, ⟨K, hnum⟩, hrow, hdig, ⟨hf0, hf1, hf2⟩, hsh, hval, hsm⟩ := h
  have z : ∀ (w : World) (o : Obj), (w.alloc o).heap.size = w.heap.size + 1 := fun w o => Array.size_push ..
  have hgw : g < w.heap.size := blk_lt hS.box
  have hww : w0.heap.size ≤ w.heap.size := Nat.le_trans hS.low (Nat.le_of_lt hgw)
  have HJ : Aside0 (CqS w0 w g s k (.int .i64 0) (.int .i64 0) (.bool false) (.bool false) ((w.alloc (.cells #[.int .i64 0, .int .i64 0, .bool false, .bool false] 30)).alloc (.cells #[.int .i64 0, .int .i64 0, .bool false, .bool false] 30))) := ⟨by
    have b := ((Below.refl w.heap.size w).alloc (Nat.le_refl _) (.cells #[.int .i64 0, .int .i64 0, .bool false, .bool false] 30)).alloc (by rw [z]; omega) (.cells #[.int .i64 0, .int .i64 0, .bool false, .bool false] 30)
    refine ⟨hS.go b, KeepBut.of_below b g none, hgw, blk_alloc (heap_alloc_new w _) _, ?_⟩
    rw [← z w (.cells #[.int .i64 0, .int .i64 0, .bool false, .bool false] 30)]; exact heap_alloc_new _ _⟩
  have HM1 : Aside0 (∀ w1, RS w0 g s k w1 → Calls Tryd.prog 46 #[.pointer (some ⟨g, 0, none⟩), .int .u8 36] w1 fun e w' => e = .returned (.bool v) ∧ RS w0 g s ka w' ∧ KeepBut w1 w' g none) := ⟨fun w1 h1 => by
    cases v with
    | true => rw [if_pos rfl] at hcol; rw [hcol.2]; exact may_yes g s k 36 w0 w1 hs h1 hcol.1
    | false => rw [if_neg (by decide)] at hcol; rw [hcol.2]; exact may_no g s k 36 w0 w1 hs h1 hcol.1⟩
  have HM2 : Aside0 (∀ w1, RS w0 g s kb w1 → Calls Tryd.prog 46 #[.pointer (some ⟨g, 0, none⟩), .int .u8 36] w1 fun e w' => e = .returned (.bool u) ∧ RS w0 g s kc w' ∧ KeepBut w1 w' g none) := ⟨fun w1 h1 => by
    cases u with
    | true => rw [if_pos rfl] at hrow; rw [hrow.2]; exact may_yes g s kb 36 w0 w1 hs h1 hrow.1
    | false => rw [if_neg (by decide)] at hrow; rw [hrow.2]; exact may_no g s kb 36 w0 w1 hs h1 hrow.1⟩
  have HR1 : Aside0 (∀ w1, RS w0 g s ka w1 → _) := ⟨fun w1 h1 => run_caps _ g s ka kb w0 w1 (fun j hj h2 h3 W _ => ask_caps _ W) hw hs h1 hcaps⟩
  have HR2 : Aside0 (∀ w1, RS w0 g s kc w1 → _) := ⟨fun w1 h1 => run_digits _ g s kc k' w0 w1 (fun j hj h2 h3 W _ => ask_digit _ W) hw hs h1 hdig⟩
  have HP : Aside0 (∀ w1, _) := ⟨fun w1 => refs_ParseColumn.calls K (s.extract ka kb) (q : Int) 0 w1 hnum⟩
  have hk' : k' ≤ s.size := hdig.2.1
  have hdsz : (s.extract kc k').size = k' - kc := ex_size s kc k' hk'
  have hd0 : 0 < (s.extract kc k').size := by omega
  have hd1 : ¬ ((s.extract kc k')[0]'hd0).toNat = 48 := by
    rw [ByteArray.getElem_extract]; simpa using hf2
  have HA : Aside0 (∀ w1, _) := ⟨fun w1 => Tryd.strconv_Atoi (s.extract kc k') ((r + 1 : Nat) : Int) (by omega) hval w1⟩
  generalize s.extract ka kb = cs at *
  generalize s.extract kc k' = ds at *
  have t1 : ((((ds[0]'hd0).toNat : Nat) : Int) == 48) = false := by simp; omega
  obtain ⟨n, hn⟩ : ∃ n : Int, n = ((r + 1 : Nat) : Int) := ⟨_, rfl⟩
  rw [← hn] at HA
  have HRR : Aside0 (n - 1 = (r : Int)) := ⟨by omega⟩
  have n1 : 1 ≤ n := by omega
  have n2 : n ≤ 1048576 := by omega
  have r1 : decide (n < 1) = false := decide_eq_false (by omega)
  have r2 : decide (1048576 < n) = false := decide_eq_false (by omega)
  clear hn hsm hS hcol hcaps hnum hrow hdig hf0 hf1 hf2 hsh hval hdsz hd1 hk' z
  go_enter Tryd.func49, Tryd.ntmps49
  go_wp2_with fail
  refine (HM1.out _ HJ.out.rs).mono ?_
  rintro e w1 ⟨rfl, h1, h2⟩
  have HJ1 := Aside0.mk (HJ.out.call h1 h2)
  clear HJ h1 h2
  obtain ⟨⟨b0, b1, b2, b3⟩, ⟨f0, f1, f2, f3⟩, c0, c1⟩ := HJ1.out.cells
  have HJ2 : Aside0 (CqS w0 w g s ka (.int .i64 0) (.int .i64 0) (.bool false) (.bool v) (w1.setCell ⟨w.heap.size + 1, 3, none⟩ (.bool v))) := ⟨HJ1.out.set hww 3 (by rfl)⟩
  go_wp2_with fail
  refine (HR1.out _ HJ2.out.rs).mono ?_
  rintro e w2 ⟨rfl, h1, h2⟩
  have HJ3 := Aside0.mk (HJ2.out.call h1 h2)
  clear HJ1 HJ2 h1 h2 b0 b1 b2 b3 f0 f1 f2 f3 c0 c1
  obtain ⟨⟨b0, b1, b2, b3⟩, ⟨f0, f1, f2, f3⟩, c0, c1⟩ := HJ3.out.cells
  go_wp2_with fail
  refine (HP.out _).mono ?_
  rintro e w3 ⟨rfl, h1⟩
  have HJ4 := Aside0.mk (HJ3.out.pure h1.below)
  clear HJ3 h1 b0 b1 b2 b3 f0 f1 f2 f3 c0 c1
  obtain ⟨⟨b0, b1, b2, b3⟩, ⟨f0, f1, f2, f3⟩, c0, c1⟩ := HJ4.out.cells
  have HJ5 : Aside0 (CqS w0 w g s kb (.int .i64 0) (.int .i64 (q : Int)) (.bool false) (.bool v) (w3.setCell ⟨w.heap.size + 1, 1, none⟩ (.int .i64 (q : Int)))) := ⟨HJ4.out.set hww 1 (by rfl)⟩
  go_wp2_with fail
  refine (HM2.out _ HJ5.out.rs).mono ?_
  rintro e w4 ⟨rfl, h1, h2⟩
  have HJ6 := Aside0.mk (HJ5.out.call h1 h2)
  clear HJ4 HJ5 h1 h2 b0 b1 b2 b3 f0 f1 f2 f3 c0 c1
  obtain ⟨⟨b0, b1, b2, b3⟩, ⟨f0, f1, f2, f3⟩, c0, c1⟩ := HJ6.out.cells
  have HJ7 : Aside0 (CqS w0 w g s kc (.int .i64 0) (.int .i64 (q : Int)) (.bool u) (.bool v) (w4.setCell ⟨w.heap.size + 1, 2, none⟩ (.bool u))) := ⟨HJ6.out.set hww 2 (by rfl)⟩
  go_wp2_with fail
  refine (HR2.out _ HJ7.out.rs).mono ?_
  rintro e w5 ⟨rfl, h1, h2⟩
  have HJ8 := Aside0.mk (HJ7.out.call h1 h2)
  clear HJ6 HJ7 h1 h2 b0 b1 b2 b3 f0 f1 f2 f3 c0 c1
  obtain ⟨⟨b0, b1, b2, b3⟩, ⟨f0, f1, f2, f3⟩, c0, c1⟩ := HJ8.out.cells
  go_wp2_with fail
  refine (HA.out _).mono ?_
  rintro e w6 ⟨rfl, t, rfl⟩
  have HJ9 := Aside0.mk (HJ8.out.pure (Lib.bytesWorld_below w5 5 t))
  clear HJ8 b0 b1 b2 b3 f0 f1 f2 f3 c0 c1
  generalize Lib.bytesWorld w5 5 t = w6 at *
  obtain ⟨⟨b0, b1, b2, b3⟩, ⟨f0, f1, f2, f3⟩, c0, c1⟩ := HJ9.out.cells
  have HJX : Aside0 (CqS w0 w g s k' (.int .i64 (n - 1)) (.int .i64 (q : Int)) (.bool u) (.bool v) (w6.setCell ⟨w.heap.size + 1, 0, none⟩ (.int .i64 (n - 1)))) := ⟨HJ9.out.set hww 0 (by rfl)⟩
  have HSZ : Aside0 ((Tryd.prog.info? 30).map (·.size) = some (4 : Nat)) := ⟨by kernel_rfl⟩
  go_wp2_with (refine wpList_store_row rfl 30 _ _ rfl w.heap.size #[.int .i64 (n - 1), .int .i64 (q : Int), .bool u, .bool v] rfl rfl 30 _ (CqS.res HJX.out) HSZ.out rfl (by simp [Value.oneCell']) ?_)
  rw [HRR.out] at HJX
  rw [HRR.out]
  have hne : ∀ j, j < w.heap.size → j ≠ w.heap.size := fun j hj => by omega
  refine bodyPost_ret (v := .agg #[.int .i64 (r : Int), .int .i64 (q : Int), .bool u, .bool v]) (results_c (p := 2) (ty := 30) (by kernel_rfl) _ _ w.heap.size 30 _ (0, 0) _ rfl (setRow_heap _ _ _ _ _ _ (CqS.res HJX.out)) Tryd.underlying30 rfl (by kernel_rfl)) rfl ⟨rfl, ?_, ?_⟩
  · exact ⟨(setRow_other _ _ _ _ (by have := HJX.out.far; omega)).trans HJX.out.rs.box, HJX.out.rs.low, bsr2 HJX.out.rs.below hww _, HJX.out.rs.start⟩
  · exact ⟨by rw [setRow_size]; exact HJX.out.keep.1, fun j hj h1 h2 => (setRow_other _ _ _ _ (hne j hj)).trans (HJX.out.keep.2 j hj h1 h2)⟩
end Go.Proofs.YtjbcdfbgbocblaaDoor.Hw
