import Derived.Test.YtjbcdfbgbocblaaDoorQrF
import Derived.Recover
import Derived.Defers
/- Parse of a text that says a reference, walked. -/
namespace Go.Proofs.YtjbcdfbgbocblaaDoor.Hw
open Go.RowKit Go.Proofs.YtjbcdfbgbocblaaDoorW.PrintWords Go.Proofs.YtjbcdfbgbocblaaDoorW.PrintLast Go.Proofs.YtjbcdfbgbocblaaDoorW.PrintMore Go.Proofs.YtjbcdfbgbocblaaDoor.PH Go.Proofs.YtjbcdfbgbocblaaDoor.CP
set_option linter.unusedVariables false
set_option linter.unusedSimpArgs false
theorem catch_idle (p q r : Value) (w : World) :
    CallsD Tryd.prog 37 #[p, q, r] .returning w fun e u' w' => e = .returned (.tuple #[]) ∧ u' = .returning ∧ w' = w := by
  refine callsD_of_wpS Tryd.func37 rfl fun c₀ cs hu => ?_
  apply wpS_seq
  apply wpS_region
  simp [wpOpsS, go_sem, recoverD, hu, Tryd.ntmps37, Exit.thenS]
  apply wpS_seq
  apply wpS_region
  simp [wpOpsS, go_sem, recoverD, hu, Exit.thenS]
  refine wpS_cond (t := false) (by simp [Act.eval, Array.replicate]) ?_
  simp only [Bool.false_eq_true, if_false]
  refine wpS_of_wp (wp_skip ?_)
  cases c₀
  simp_all [bodyPostS, results, Tryd.results37]
theorem results_c3 {P : Program} {fn : Func} {p u v : Tmp} {ty t1 t2 : TypeId} (h : fn.results = #[.cell p ty, .cell u t1, .cell v t2]) (tmps : Array Value) (w : World) (g g1 g2 : Nat) (t : TypeId) (cs : Array Value) (fr : Nat × Nat) (d : TypeDesc) (x y : Int) (T1 T2 : TypeId)
    (hp : tmps.getD p undef = .pointer (some ⟨g, 0, none⟩)) (hp1 : tmps.getD u undef = .pointer (some ⟨g1, 0, none⟩)) (hp2 : tmps.getD v undef = .pointer (some ⟨g2, 0, none⟩)) (hg : w.heap[g]? = some (.cells cs t fr))
    (hg1 : w.heap[g1]? = some (.cells #[.int .i64 x] T1 (0, 0))) (hg2 : w.heap[g2]? = some (.cells #[.int .i64 y] T2 (0, 0)))
    (hu : P.underlying ty = some d) (hd : (match d with | .struct _ | .array _ _ => true | _ => false) = true) (hi : (P.info? ty).map (·.size) = some cs.size)
    (ha1 : ∀ w, (isAgg t1).run P w = .ok false w) (ha2 : ∀ w, (isAgg t2).run P w = .ok false w) :
    (results fn tmps).run P w = .ok (.tuple #[.agg cs, .int .i64 x, .int .i64 y]) w := by
  have hp' : tmps[p]?.getD undef = .pointer (some ⟨g, 0, none⟩) := by simpa using hp
  have hp1' : tmps[u]?.getD undef = .pointer (some ⟨g1, 0, none⟩) := by simpa using hp1
  have hp2' : tmps[v]?.getD undef = .pointer (some ⟨g2, 0, none⟩) := by simpa using hp2
  have c1 : w.cell? ⟨g1, 0, none⟩ = some (.int .i64 x) := (blk_cell hg1 0).trans rfl
  have c2 : w.cell? ⟨g2, 0, none⟩ = some (.int .i64 y) := (blk_cell hg2 0).trans rfl
  have l1 : (loadVar t1 ⟨g1, 0, none⟩).run P w = .ok (.int .i64 x) w := by simp [go_sem, ha1, c1]
  have l2 : (loadVar t2 ⟨g2, 0, none⟩).run P w = .ok (.int .i64 y) w := by simp [go_sem, ha2, c2]
  simp [results, h, hp', hp1', hp2', asAddr, run_loadVar_row w g t ty cs fr d hg hu hd hi, l1, l2]
structure PJ (w : World) (s : ByteArray) (x : Rf) (k : Nat) (W : World) : Prop where
  below : Below w.heap.size w W
  box0 : W.heap[w.heap.size]? = some (.cells x.cs 32 (0, 0))
  box1 : W.heap[w.heap.size + 1]? = some (.cells #[.int .i64 0] 3 (0, 0))
  box2 : W.heap[w.heap.size + 1 + 1]? = some (.cells #[.int .i64 0] 22 (0, 0))
  rd : W.heap[w.heap.size + 1 + 1 + 1]? = some (.cells #[.string s, .int .i64 (k : Int)] 62 (0, 0))
set_option maxRecDepth 100000 in
set_option maxHeartbeats 8000000 in
theorem parse_ok (s : ByteArray) (y : Rf) (w : World) (hC : ChW w) (hs : s.size ≤ 140737488351232)
    (H : ∀ (g : Nat) (w1 : World), RS w g s 0 w1 → Calls Tryd.prog 38 #[.pointer (some ⟨g, 0, none⟩)] w1 fun e w' => e = .returned (.agg y.cs) ∧ RS w g s s.size w' ∧ KeepBut w1 w' g none) :
    Calls Tryd.prog 25 #[.string s] w fun e w' => e = .returned (.tuple #[.agg y.cs, .int .i64 0, .int .i64 0]) ∧ Below w.heap.size w w' := by
  have hmf : ∀ (fn : Fn) (first cap : Array Value) (w : World), (Instr.makeFunc fn first cap).run Tryd.prog w = .ok (.func fn first cap) w := fun _ _ _ _ => rfl
  go_enter_defers Tryd.func25, Tryd.ntmps25
  have z : ∀ (w : World) (o : Obj), (w.alloc o).heap.size = w.heap.size + 1 := fun w o => Array.size_push ..
  have b := ((((Below.refl w.heap.size w).alloc (Nat.le_refl _) (.cells zR.cs 32)).alloc (by rw [z]; omega) (.cells #[.int .i64 0] 3)).alloc (by rw [z, z]; omega) (.cells #[.int .i64 0] 22)).alloc (by rw [z, z, z]; omega) (.cells #[.string s, .int .i64 ((0 : Nat) : Int)] 62)
  have HP : Aside0 (PJ w s zR 0 ((((w.alloc (.cells zR.cs 32)).alloc (.cells #[.int .i64 0] 3)).alloc (.cells #[.int .i64 0] 22)).alloc (.cells #[.string s, .int .i64 ((0 : Nat) : Int)] 62))) := ⟨by
    refine ⟨b, blk_alloc (blk_alloc (blk_alloc (heap_alloc_new w _) _) _) _, blk_alloc (blk_alloc ?_ _) _, blk_alloc ?_ _, ?_⟩
    · rw [← z w (.cells zR.cs 32)]; exact heap_alloc_new _ _
    · rw [← z w (.cells zR.cs 32), ← z _ (.cells #[.int .i64 0] 3)]; exact heap_alloc_new _ _
    · rw [← z w (.cells zR.cs 32), ← z _ (.cells #[.int .i64 0] 3), ← z _ (.cells #[.int .i64 0] 22)]; exact heap_alloc_new _ _⟩
  have HC := Aside0.mk hC
  have HSZ : Aside0 ((Tryd.prog.info? 32).map (·.size) = some (12 : Nat)) := ⟨by kernel_rfl⟩
  have HH := Aside0.mk (H (w.heap.size + 1 + 1 + 1))
  clear H hC b z
  go_wp2_with fail
  refine (HH.out _ ⟨HP.out.rd, by omega, HP.out.below, HC.out⟩).mono ?_
  rintro e w1 ⟨rfl, h1, h2⟩
  have HP1 : Aside0 (PJ w s zR s.size w1) := ⟨⟨h1.below, h2.blk HP.out.box0 (by omega) (by simp), h2.blk HP.out.box1 (by omega) (by simp), h2.blk HP.out.box2 (by omega) (by simp), h1.box⟩⟩
  have HP2 : Aside0 (PJ w s y s.size (w1.setRow w.heap.size y.cs)) := ⟨⟨bsr2 HP1.out.below (Nat.le_refl _) _, setRow_heap _ _ _ _ _ _ HP1.out.box0, (setRow_other _ _ _ _ (by omega)).trans HP1.out.box1, (setRow_other _ _ _ _ (by omega)).trans HP1.out.box2, (setRow_other _ _ _ _ (by omega)).trans HP1.out.rd⟩⟩
  clear h1 h2 HP HH
  have g1 := (blk_cell HP2.out.rd 1).trans rfl
  obtain ⟨c0, c1, c2, c3, c4, c5, c6, c7, c8, c9, c10, c11⟩ := rfc HP2.out.box0
  obtain ⟨f0, f1, f2, f3, f4, f5, f6, f7, f8, f9, f10, f11⟩ := rff HP2.out.box0
  have b0 := (blk_cell HP2.out.box1 0).trans rfl
  have b1 := blk_frozen HP2.out.box1 0
  have b2 := (blk_cell HP2.out.box2 0).trans rfl
  have b3 := blk_frozen HP2.out.box2 0
  have hlt : decide ((s.size : Int) < (s.size : Int)) = false := decide_eq_false (by omega)
  have hltn : decide (s.size < s.size) = false := decide_eq_false (by omega)
  go_wp2_with (first | (refine wpList_store_row rfl 32 _ _ rfl w.heap.size y.cs rfl rfl 32 _ (PJ.box0 HP1.out) HSZ.out rfl (by simp [Value.oneCell']) ?_; generalize World.setRow w1 w.heap.size y.cs = W at *; clear HP1) | (refine wpList_store_row rfl 32 _ _ rfl w.heap.size y.cs rfl rfl 32 _ (PJ.box0 HP2.out) HSZ.out rfl (by simp [Value.oneCell']) ?_; have HP3 : Aside0 (PJ w s y s.size (W.setRow w.heap.size y.cs)) := ⟨⟨bsr2 HP2.out.below (Nat.le_refl _) _, setRow_heap _ _ _ _ _ _ HP2.out.box0, (setRow_other _ _ _ _ (by omega)).trans HP2.out.box1, (setRow_other _ _ _ _ (by omega)).trans HP2.out.box2, (setRow_other _ _ _ _ (by omega)).trans HP2.out.rd⟩⟩; clear c0 c1 c2 c3 c4 c5 c6 c7 c8 c9 c10 c11 f0 f1 f2 f3 f4 f5 f6 f7 f8 f9 f10 f11 b0 b1 b2 b3 g1 HP2; generalize World.setRow W w.heap.size y.cs = W3 at *; have b0 := (blk_cell HP3.out.box1 0).trans rfl; have b1 := blk_frozen HP3.out.box1 0; have b2 := (blk_cell HP3.out.box2 0).trans rfl; have b3 := blk_frozen HP3.out.box2 0))
  have HB0 := blk_far (blk_far HP3.out.box0 (show w.heap.size ≠ (⟨w.heap.size + 1, 0, none⟩ : Addr).block from by show w.heap.size ≠ w.heap.size + 1; omega) (.int .i64 0)) (show w.heap.size ≠ (⟨w.heap.size + 1 + 1, 0, none⟩ : Addr).block from by show w.heap.size ≠ w.heap.size + 1 + 1; omega) (.int .i64 0)
  have HB1 := blk_far (blk_put HP3.out.box1 0 (.int .i64 0) (cs' := #[.int .i64 0]) (by rfl)) (show w.heap.size + 1 ≠ (⟨w.heap.size + 1 + 1, 0, none⟩ : Addr).block from by show w.heap.size + 1 ≠ w.heap.size + 1 + 1; omega) (.int .i64 0)
  have HB2 := blk_put (blk_far HP3.out.box2 (show w.heap.size + 1 + 1 ≠ (⟨w.heap.size + 1, 0, none⟩ : Addr).block from by show w.heap.size + 1 + 1 ≠ w.heap.size + 1; omega) (.int .i64 0)) 0 (.int .i64 0) (cs' := #[.int .i64 0]) (by rfl)
  have HBB : Below w.heap.size w ((W3.setCell ⟨w.heap.size + 1, 0, none⟩ (.int .i64 0)).setCell ⟨w.heap.size + 1 + 1, 0, none⟩ (.int .i64 0)) := (HP3.out.below.setCell (by show _ ≤ w.heap.size + 1; omega) _).setCell (by show _ ≤ w.heap.size + 1 + 1; omega) _
  refine leaves_cons (f := 37) (args := #[.pointer (some ⟨w.heap.size, 0, none⟩), .pointer (some ⟨w.heap.size + 1, 0, none⟩), .pointer (some ⟨w.heap.size + 1 + 1, 0, none⟩)]) (by simp) (by simp [go_sem]) ?_
  refine (catch_idle _ _ _ _).mono ?_
  rintro e u' w'' ⟨rfl, rfl, rfl⟩
  simp [Leaves, settle]
  exact ⟨_, results_c3 (p := 2) (u := 3) (v := 4) (ty := 32) (t1 := 3) (t2 := 22) (by kernel_rfl) _ _ w.heap.size (w.heap.size + 1) (w.heap.size + 1 + 1) _ _ _ _ 0 0 _ _ rfl rfl rfl HB0 HB1 HB2 Tryd.underlying32 rfl (by kernel_rfl) Tryd.isAgg3 Tryd.isAgg22, rfl, HBB⟩
/-- Parse of a text that says a reference. -/
theorem parse_says (s : ByteArray) (x : Rf) (k1 k2 k3 k4 r q r2 q2 : Nat) (w : World) (hC : ChW w) (hs : s.size ≤ 140737488351232) (h : refAt s 0 s.size x k1 k2 k3 k4 r q r2 q2) :
    Calls Tryd.prog 25 #[.string s] w fun e w' => e = .returned (.tuple #[.agg x.cs, .int .i64 0, .int .i64 0]) ∧ Below w.heap.size w w' := by
  have hw := hC.2.2
  refine parse_ok s x w hC hs fun g W hS => ?_
  obtain ⟨hd, hsh, hs1, hdot, ⟨a1, a2, a3, hA⟩, er, eq, hcol, halo⟩ := h
  obtain ⟨sn, tn, f, e, xr, xq, u, v, xr2, xq2, u2, v2⟩ := x
  simp only [] at *
  subst er eq
  have S1 := fun w1 (h1 : RS w g s k1 w1) => sheet_read g s k1 k2 sn w w1 hw hs h1 hsh
  have D1 := fun w1 (h1 : RS w g s k2 w1) => must_yes g s k2 46 w w1 hs h1 hdot
  have C1 := fun w1 (h1 : RS w g s (k2 + 1) w1) => corner_read g s (k2 + 1) k3 u v r q a1 a2 a3 w w1 hw hs h1 hA
  cases e with
  | false =>
    obtain ⟨hn, hk, rfl, rfl, rfl, rfl, rfl⟩ := halo rfl
    have M2 := fun w1 (h1 : RS w g s k3 w1) => may_no g s k3 58 w w1 hs h1 hn
    rw [hk]
    cases f with
    | false =>
      rw [if_neg (by decide)] at hd
      obtain ⟨hd1, rfl⟩ := hd
      exact ref_a g s 0 0 k2 k3 sn r q u v w W hw hs hS (fun w1 h1 => may_no g s 0 36 w w1 hs h1 hd1) S1 D1 C1 M2
    | true =>
      rw [if_pos rfl] at hd
      obtain ⟨hd1, rfl⟩ := hd
      exact ref_fa g s 0 (0 + 1) k2 k3 sn r q u v w W hw hs hS (fun w1 h1 => may_yes g s 0 36 w w1 hs h1 hd1) S1 D1 C1 M2 (hs1 rfl)
  | true =>
    obtain ⟨hn, hsh2, hts, hdot2, ⟨b1, b2, b3, hB⟩, rfl, rfl⟩ := hcol rfl
    have M2 := fun w1 (h1 : RS w g s k3 w1) => may_yes g s k3 58 w w1 hs h1 hn
    have S2 := fun w1 (h1 : RS w g s (k3 + 1) w1) => sheet_read g s (k3 + 1) k4 tn w w1 hw hs h1 hsh2
    have D2 := fun w1 (h1 : RS w g s k4 w1) => must_yes g s k4 46 w w1 hs h1 hdot2
    have C2 := fun w1 (h1 : RS w g s (k4 + 1) w1) => corner_read g s (k4 + 1) s.size u2 v2 r2 q2 b1 b2 b3 w w1 hw hs h1 hB
    cases f with
    | false =>
      rw [if_neg (by decide)] at hd
      obtain ⟨hd1, rfl⟩ := hd
      by_cases ht : tn.size = 0
      · exact ref_b0 g s 0 0 k2 k3 k4 s.size sn tn r q u v r2 q2 u2 v2 w W hw hs hS (fun w1 h1 => may_no g s 0 36 w w1 hs h1 hd1) S1 D1 C1 M2 S2 D2 C2 ht
      · exact ref_b1 g s 0 0 k2 k3 k4 s.size sn tn r q u v r2 q2 u2 v2 w W hw hs hS (fun w1 h1 => may_no g s 0 36 w w1 hs h1 hd1) S1 D1 C1 M2 S2 D2 C2 (hts (by omega)) (by omega)
    | true =>
      rw [if_pos rfl] at hd
      obtain ⟨hd1, rfl⟩ := hd
      by_cases ht : tn.size = 0
      · exact ref_fb0 g s 0 (0 + 1) k2 k3 k4 s.size sn tn r q u v r2 q2 u2 v2 w W hw hs hS (fun w1 h1 => may_yes g s 0 36 w w1 hs h1 hd1) S1 D1 C1 M2 S2 D2 C2 (hs1 rfl) ht
      · exact ref_fb1 g s 0 (0 + 1) k2 k3 k4 s.size sn tn r q u v r2 q2 u2 v2 w W hw hs hS (fun w1 h1 => may_yes g s 0 36 w w1 hs h1 hd1) S1 D1 C1 M2 S2 D2 C2 (hs1 rfl) (by omega)
end Go.Proofs.YtjbcdfbgbocblaaDoor.Hw
