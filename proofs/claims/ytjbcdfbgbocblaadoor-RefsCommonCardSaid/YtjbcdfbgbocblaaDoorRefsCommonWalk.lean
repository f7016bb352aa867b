import Derived.Test.YtjbcdfbgbocblaaDoorQrN2
import Derived.Test.YtjbcdfbgbocblaaDoorQrO
/- What lies in both. -/
namespace Go.Proofs.YtjbcdfbgbocblaaDoor.Hw
open Go.RowKit Go.Proofs.YtjbcdfbgbocblaaDoorW.PrintWords Go.Proofs.YtjbcdfbgbocblaaDoorW.PrintLast Go.Proofs.YtjbcdfbgbocblaaDoorW.PrintMore Go.Proofs.YtjbcdfbgbocblaaDoor.PH Go.Proofs.YtjbcdfbgbocblaaDoor.CP Go.Proofs.YtjbcdfbgbocblaaDoor.Op
set_option linter.unusedVariables false
set_option linter.unusedSimpArgs false
theorem cef {w : World} {g : Nat} {a b : Value} {t : TypeId} (h : w.heap[g]? = some (.cells #[a, b] t (0, 0))) : w.cell? ⟨g, 0, none⟩ = some a ∧ w.cell? ⟨g, 1, none⟩ = some b := ⟨(blk_cell h 0).trans rfl, (blk_cell h 1).trans rfl⟩
set_option maxRecDepth 100000 in
set_option maxHeartbeats 8000000 in
theorem commonLaw (x y z : Rf) (a b : Int) (m p q r : Bool) (hm : (m && r) = (p && q)) (w : World)
    (h0 : ∀ w1, Calls Tryd.prog 13 #[.agg x.cs, .agg y.cs] w1 fun e w' => e = .returned (.tuple #[.agg z.cs, .bool m]) ∧ Below w1.heap.size w1 w')
    (h1 : ∀ w1, Calls Tryd.prog 14 #[.agg x.cs, .agg #[.int .i64 a, .int .i64 b]] w1 fun e w' => e = .returned (.bool p) ∧ Below w1.heap.size w1 w')
    (h2 : ∀ w1, Calls Tryd.prog 14 #[.agg y.cs, .agg #[.int .i64 a, .int .i64 b]] w1 fun e w' => e = .returned (.bool q) ∧ Below w1.heap.size w1 w')
    (h3 : ∀ w1, Calls Tryd.prog 14 #[.agg z.cs, .agg #[.int .i64 a, .int .i64 b]] w1 fun e w' => e = .returned (.bool r) ∧ Below w1.heap.size w1 w')
    (hL : ∀ L w1, BK w L w1 → Calls Tryd.prog 12 #[] w1 fun e w' => e = .returned (.bool true) ∧ Aside0 (BK w L w')) :
    Calls Tryd.prog 4 #[.agg x.cs, .agg y.cs, .agg #[.int .i64 a, .int .i64 b]] w fun e w' => e = .returned (.bool true) ∧ Below w.heap.size w w' := by
  have H0 := Aside0.mk (BK.on (w0 := w) h0)
  have H1 := Aside0.mk (BK.on (w0 := w) h1)
  have H2 := Aside0.mk (BK.on (w0 := w) h2)
  have H3 := Aside0.mk (BK.on (w0 := w) h3)
  have HL := Aside0.mk hL
  clear h0 h1 h2 h3 hL
  have SZ : Aside0 ((Tryd.prog.info? 32).map (·.size) = some (12 : Nat)) := ⟨by kernel_rfl⟩
  have SC : Aside0 ((Tryd.prog.info? 34).map (·.size) = some (2 : Nat)) := ⟨by kernel_rfl⟩
  have B := Aside0.mk (BK.start w)
  cases m <;> cases p <;> cases q <;> cases r <;> first
    | (exfalso; revert hm; decide)
    | (clear hm
       go_enter Tryd.func4, Tryd.ntmps4
       go_wp2_with (first
        | ((with_reducible refine gate_dst (N := 3) rfl ?_); refine box_event ?hg (N := 3) ?hd (cs := x.cs) (t := 32) ?hr ?_; (case hd => rfl); (case hg => rfl); (case hr => first | (go_simp; done) | (go_simp; rfl)); intro g3 hg w1 hbox hb; have B1 : Aside0 (BK w [(g3, x.cs, 32)] w1) := ⟨BK.new (L := []) (by repeat (first | exact B.out | refine BK.drewN ?_ _ | refine BK.drew ?_)) hg hbox hb⟩; clear B hb hbox hg; have B := B1; clear B1)
        | ((with_reducible refine gate_dst (N := 4) rfl ?_); refine box_event ?hg (N := 4) ?hd (cs := y.cs) (t := 32) ?hr ?_; (case hd => rfl); (case hg => rfl); (case hr => first | (go_simp; done) | (go_simp; rfl)); intro g4 hg w1 hbox hb; have B1 : Aside0 (BK w [(g3, x.cs, 32), (g4, y.cs, 32)] w1) := ⟨BK.new (L := [(g3, x.cs, 32)]) (by repeat (first | exact B.out | refine BK.drewN ?_ _ | refine BK.drew ?_)) hg hbox hb⟩; clear B hb hbox hg; have B := B1; clear B1)
        | ((with_reducible refine gate_dst (N := 5) rfl ?_); refine box_event ?hg (N := 5) ?hd (cs := #[.int .i64 a, .int .i64 b]) (t := 34) ?hr ?_; (case hd => rfl); (case hg => rfl); (case hr => first | (go_simp; done) | (go_simp; rfl)); intro g5 hg w1 hbox hb; have B1 : Aside0 (BK w [(g3, x.cs, 32), (g4, y.cs, 32), (g5, #[.int .i64 a, .int .i64 b], 34)] w1) := ⟨BK.new (L := [(g3, x.cs, 32), (g4, y.cs, 32)]) (by repeat (first | exact B.out | refine BK.drewN ?_ _ | refine BK.drew ?_)) hg hbox hb⟩; clear B hb hbox hg; have B := B1; clear B1)
        | ((with_reducible refine gate_dst (N := 11) rfl ?_); refine wpList_load_row rfl 32 _ rfl g3 rfl 32 _ _ _ (BK.at_ (w0 := w) (L := [(g3, x.cs, 32), (g4, y.cs, 32), (g5, #[.int .i64 a, .int .i64 b], 34)]) (by repeat (first | exact B.out | refine BK.drewN ?_ _ | refine BK.drew ?_)) 0 _ rfl).1 Tryd.underlying32 rfl SZ.out ?_)
        | ((with_reducible refine gate_dst (N := 12) rfl ?_); refine wpList_load_row rfl 32 _ rfl g4 rfl 32 _ _ _ (BK.at_ (w0 := w) (L := [(g3, x.cs, 32), (g4, y.cs, 32), (g5, #[.int .i64 a, .int .i64 b], 34)]) (by repeat (first | exact B.out | refine BK.drewN ?_ _ | refine BK.drew ?_)) 1 _ rfl).1 Tryd.underlying32 rfl SZ.out ?_)
        | (go_at_call 13; with_reducible refine (H0.out _ _ (by repeat (first | exact B.out | refine BK.drewN ?_ _ | refine BK.drew ?_))).mono ?_; rintro e w2 ⟨rfl, B1⟩; clear B; have B := B1; clear B1)
        | ((with_reducible refine gate_dst (N := 7) rfl ?_); refine box_event ?hg (N := 7) ?hd (cs := zRf) (t := 32) ?hr ?_; (case hd => rfl); (case hg => rfl); (case hr => first | (go_simp; done) | (go_simp; rfl)); intro g7 hg w1 hbox hb; have B1 : Aside0 (BK w [(g3, x.cs, 32), (g4, y.cs, 32), (g5, #[.int .i64 a, .int .i64 b], 34), (g7, zRf, 32)] w1) := ⟨BK.new (L := [(g3, x.cs, 32), (g4, y.cs, 32), (g5, #[.int .i64 a, .int .i64 b], 34)]) (by repeat (first | exact B.out | refine BK.drewN ?_ _ | refine BK.drew ?_)) hg hbox hb⟩; clear B hb hbox hg; have B := B1; clear B1)
        | ((with_reducible refine gate_store (p := 7) rfl ?_); refine wpList_store_row rfl 32 _ _ rfl g7 z.cs rfl rfl 32 _ (BK.at_ (w0 := w) (L := [(g3, x.cs, 32), (g4, y.cs, 32), (g5, #[.int .i64 a, .int .i64 b], 34), (g7, zRf, 32)]) (by repeat (first | exact B.out | refine BK.drewN ?_ _ | refine BK.drew ?_)) 3 _ rfl).1 SZ.out rfl (by simp [Value.oneCell']) ?_; have B1 := BK.set (w0 := w) (L := [(g3, x.cs, 32), (g4, y.cs, 32), (g5, #[.int .i64 a, .int .i64 b], 34), (g7, zRf, 32)]) (by repeat (first | exact B.out | refine BK.drewN ?_ _ | refine BK.drew ?_)) 3 g7 zRf z.cs _ rfl; clear B; have B : Aside0 (BK w [(g3, x.cs, 32), (g4, y.cs, 32), (g5, #[.int .i64 a, .int .i64 b], 34), (g7, z.cs, 32)] _) := ⟨B1⟩; clear B1; generalize World.setRow _ g7 z.cs = W at *)
        | ((with_reducible refine gate_dst (N := 16) rfl ?_); refine wpList_load_row rfl 32 _ rfl g3 rfl 32 _ _ _ (BK.at_ (w0 := w) (L := [(g3, x.cs, 32), (g4, y.cs, 32), (g5, #[.int .i64 a, .int .i64 b], 34), (g7, z.cs, 32)]) (by repeat (first | exact B.out | refine BK.drewN ?_ _ | refine BK.drew ?_)) 0 _ rfl).1 Tryd.underlying32 rfl SZ.out ?_)
        | ((with_reducible refine gate_dst (N := 17) rfl ?_); refine wpList_load_row rfl 34 _ rfl g5 rfl 34 _ _ _ (BK.at_ (w0 := w) (L := [(g3, x.cs, 32), (g4, y.cs, 32), (g5, #[.int .i64 a, .int .i64 b], 34), (g7, z.cs, 32)]) (by repeat (first | exact B.out | refine BK.drewN ?_ _ | refine BK.drew ?_)) 2 _ rfl).1 Tryd.underlying34 rfl SC.out ?_)
        | (go_at_call 14; with_reducible refine (H1.out _ _ (by repeat (first | exact B.out | refine BK.drewN ?_ _ | refine BK.drew ?_))).mono ?_; rintro e w2 ⟨rfl, B1⟩; clear B; have B := B1; clear B1; obtain ⟨y0, y1, y2, y3, y4, y5, y6, y7, y8, y9, y10, y11⟩ := rfc (x := y) (BK.at_ (w0 := w) (L := [(g3, x.cs, 32), (g4, y.cs, 32), (g5, #[.int .i64 a, .int .i64 b], 34), (g7, z.cs, 32)]) (by repeat (first | exact B.out | refine BK.drewN ?_ _ | refine BK.drew ?_)) 1 _ rfl).1; obtain ⟨c0, c1⟩ := cef (BK.at_ (w0 := w) (L := [(g3, x.cs, 32), (g4, y.cs, 32), (g5, #[.int .i64 a, .int .i64 b], 34), (g7, z.cs, 32)]) (by repeat (first | exact B.out | refine BK.drewN ?_ _ | refine BK.drew ?_)) 2 _ rfl).1)
        | (go_at_call 14; with_reducible refine (H2.out _ _ (by repeat (first | exact B.out | refine BK.drewN ?_ _ | refine BK.drew ?_))).mono ?_; rintro e w2 ⟨rfl, B1⟩; clear B; have B := B1; clear B1; clear y0 y1 y2 y3 y4 y5 y6 y7 y8 y9 y10 y11 c0 c1)
        | (go_at_call 12; with_reducible refine (HL.out _ _ (by repeat (first | exact B.out | refine BK.drewN ?_ _ | refine BK.drew ?_))).mono ?_; rintro e w2 ⟨rfl, B1⟩; clear B; have B := B1; clear B1; (try clear y0 y1 y2 y3 y4 y5 y6 y7 y8 y9 y10 y11 c0 c1); obtain ⟨z0, z1, z2, z3, z4, z5, z6, z7, z8, z9, z10, z11⟩ := rfc (x := z) (BK.at_ (w0 := w) (L := [(g3, x.cs, 32), (g4, y.cs, 32), (g5, #[.int .i64 a, .int .i64 b], 34), (g7, z.cs, 32)]) (by repeat (first | exact B.out | refine BK.drewN ?_ _ | refine BK.drew ?_)) 3 _ rfl).1; obtain ⟨d0, d1⟩ := cef (BK.at_ (w0 := w) (L := [(g3, x.cs, 32), (g4, y.cs, 32), (g5, #[.int .i64 a, .int .i64 b], 34), (g7, z.cs, 32)]) (by repeat (first | exact B.out | refine BK.drewN ?_ _ | refine BK.drew ?_)) 2 _ rfl).1)
        | (go_at_call 14; with_reducible refine (H3.out _ _ (by repeat (first | exact B.out | refine BK.drewN ?_ _ | refine BK.drew ?_))).mono ?_; rintro e w2 ⟨rfl, B1⟩; clear B; have B := B1; clear B1))
       have HB := B.out.below
       clear B H0 H1 H2 H3 HL SZ SC
       first | (go_ret; exact ⟨rfl, HB⟩) | (trace_state; sorry))
theorem refsCommon_walk (w : World) (hC : ChW w) (cs0 : Array Value) (x0 : TRef) (hK0 : kdRef.K w x0 cs0.toList) (hG0 : GRef x0) (cs1 : Array Value) (x1 : TRef) (hK1 : kdRef.K w x1 cs1.toList) (hG1 : GRef x1) (cs2 : Array Value) (x2 : Int × Int) (hK2 : kdCell.K w x2 cs2.toList) (hG2 : GCell x2) :
    Calls Tryd.prog 4 #[.agg cs0, .agg cs1, .agg cs2] w fun e w' => e = .returned (.bool true) ∧ Below w.heap.size w w' := by
  obtain rfl := ref_cells hK0
  obtain rfl := ref_cells hK1
  obtain rfl := cell_cells hK2
  exact commonLaw (rfOf x0) (rfOf x1) (comR (rfOf x0) (rfOf x1)) x2.1 x2.2 (comB (rfOf x0) (rfOf x1)) (inB (rfOf x0) x2.1 x2.2) (inB (rfOf x1) x2.1 x2.2) (inB (comR (rfOf x0) (rfOf x1)) x2.1 x2.2) (com_in _ _ _ _) w
    (common_calls _ _) (has_calls _ _ _) (has_calls _ _ _) (has_calls _ _ _) (fun L w1 hj => (live11_calls w1 (hC.go hj.below)).mono fun e w' h => ⟨h.1, ⟨hj.go h.2⟩⟩)
end Go.Proofs.YtjbcdfbgbocblaaDoor.Hw
