import Derived.Test.YtjbcdfbgbocblaaDoorQrV
import Derived.BigRegion
/- What is written of a reference is read as it was. Printed by gen_qrz.py. -/
namespace Go.Proofs.YtjbcdfbgbocblaaDoor.Hw
open Go.RowKit Go.Proofs.YtjbcdfbgbocblaaDoorW.PrintWords Go.Proofs.YtjbcdfbgbocblaaDoorW.PrintLast Go.Proofs.YtjbcdfbgbocblaaDoorW.PrintMore Go.Proofs.YtjbcdfbgbocblaaDoor.PH Go.Proofs.YtjbcdfbgbocblaaDoor.CP Go.Proofs.YtjbcdfbgbocblaaDoor.Op
set_option linter.unusedVariables false
set_option linter.unusedSimpArgs false
/-- A contract that asks the laid tables, behind what was made. -/
theorem onT {f : FuncId} {args : Array Value} {e0 : Ending} {w0 : World} (hC : ChW w0) (hT : TabW w0) (h : ∀ w1, ChW w1 → TabW w1 → Calls Tryd.prog f args w1 fun e w' => e = e0 ∧ Below w1.heap.size w1 w') :
    ∀ L w1, BK w0 L w1 → Calls Tryd.prog f args w1 fun e w' => e = e0 ∧ Aside0 (BK w0 L w') := fun L w1 hj => (h w1 (hC.go hj.below) (hT.go hj.below)).mono fun e w' hq => ⟨hq.1, ⟨hj.go hq.2⟩⟩
attribute [local go_sem high] eqRef
set_option maxRecDepth 100000 in
set_option maxHeartbeats 8000000 in
theorem backBad (x : Rf) (k : Int) (hk : ¬ k = 0) (w : World) (hC : ChW w) (hT : TabW w)
    (h0 : ∀ w1, ChW w1 → TabW w1 → Calls Tryd.prog 15 #[.agg x.cs] w1 fun e w' => e = .returned (.tuple #[.string ⟨#[]⟩, .int .i64 k]) ∧ Below w1.heap.size w1 w')
    (h1 : ∀ w1, ChW w1 → TabW w1 → Calls Tryd.prog 18 #[.agg x.cs] w1 fun e w' => e = .returned (.int .i64 k) ∧ Below w1.heap.size w1 w') :
    Calls Tryd.prog 7 #[.agg x.cs] w fun e w' => e = .returned (.bool true) ∧ Below w.heap.size w w' := by
  have H0 := Aside0.mk (onT hC hT h0)
  have H1 := Aside0.mk (onT hC hT h1)
  have HL := Aside0.mk (onT hC hT fun w1 h _ => live11_calls w1 h)
  clear h0 h1 hC hT
  have SZ : Aside0 ((Tryd.prog.info? 32).map (·.size) = some (12 : Nat)) := ⟨by kernel_rfl⟩
  have B := Aside0.mk (BK.start w)
  have t1 : (k != 0) = true := by simpa using hk
  have t2 : (k == 0) = false := by simpa using hk
  clear hk
  go_enter Tryd.func7, Tryd.ntmps7
  go_wp2_with (first
    | ((with_reducible refine gate_dst (N := 1) rfl ?_); refine box_event ?hg (N := 1) ?hd (cs := x.cs) (t := 32) ?hr ?_; (case hd => rfl); (case hg => rfl); (case hr => first | (go_simp; done) | (go_simp; rfl)); intro g1 hg w1 hbox hb; have B1 : Aside0 (BK w [(g1, x.cs, 32)] w1) := ⟨BK.new (L := []) (by repeat (first | exact B.out | refine BK.drewN ?_ _ | refine BK.drew ?_)) hg hbox hb⟩; clear B hb hbox hg; have B := B1; clear B1)
    | ((with_reducible refine gate_dst (N := 8) rfl ?_); refine wpList_load_row rfl 32 _ rfl g1 rfl 32 _ _ _ (BK.at_ (w0 := w) (L := [(g1, x.cs, 32)]) (by repeat (first | exact B.out | refine BK.drewN ?_ _ | refine BK.drew ?_)) 0 _ rfl).1 Tryd.underlying32 rfl SZ.out ?_)
    | (go_at_call 15; with_reducible refine (H0.out _ _ (by repeat (first | exact B.out | refine BK.drewN ?_ _ | refine BK.drew ?_))).mono ?_; rintro e w2 ⟨rfl, B1⟩; clear B; have B := B1; clear B1)
    | (go_at_call 12; with_reducible refine (HL.out _ _ (by repeat (first | exact B.out | refine BK.drewN ?_ _ | refine BK.drew ?_))).mono ?_; rintro e w2 ⟨rfl, B1⟩; clear B; have B := B1; clear B1; obtain ⟨y0, y1, y2, y3, y4, y5, y6, y7, y8, y9, y10, y11⟩ := rfc (x := x) (BK.at_ (w0 := w) (L := [(g1, x.cs, 32)]) (by repeat (first | exact B.out | refine BK.drewN ?_ _ | refine BK.drew ?_)) 0 _ rfl).1)
    | (go_at_call 18; with_reducible refine (H1.out _ _ (by repeat (first | exact B.out | refine BK.drewN ?_ _ | refine BK.drew ?_))).mono ?_; rintro e w2 ⟨rfl, B1⟩; clear B; have B := B1; clear B1))
  have HB := B.out.below
  clear B H0 H1 HL SZ t1 t2
  go_ret
  exact ⟨rfl, HB⟩
set_option maxRecDepth 100000 in
set_option maxHeartbeats 8000000 in
theorem backOk (x : Rf) (t : ByteArray) (w : World) (hC : ChW w) (hT : TabW w)
    (h0 : ∀ w1, ChW w1 → TabW w1 → Calls Tryd.prog 15 #[.agg x.cs] w1 fun e w' => e = .returned (.tuple #[.string t, .int .i64 0]) ∧ Below w1.heap.size w1 w')
    (h1 : ∀ w1, ChW w1 → TabW w1 → Calls Tryd.prog 25 #[.string t] w1 fun e w' => e = .returned (.tuple #[.agg x.cs, .int .i64 0, .int .i64 0]) ∧ Below w1.heap.size w1 w') :
    Calls Tryd.prog 7 #[.agg x.cs] w fun e w' => e = .returned (.bool true) ∧ Below w.heap.size w w' := by
  have H0 := Aside0.mk (onT hC hT h0)
  have H1 := Aside0.mk (onT hC hT h1)
  have HL := Aside0.mk (onT hC hT fun w1 h _ => live11_calls w1 h)
  clear h0 h1 hC hT
  have SZ : Aside0 ((Tryd.prog.info? 32).map (·.size) = some (12 : Nat)) := ⟨by kernel_rfl⟩
  have B := Aside0.mk (BK.start w)
  go_enter Tryd.func7, Tryd.ntmps7
  go_wp2_with (first
    | ((with_reducible refine gate_dst (N := 1) rfl ?_); refine box_event ?hg (N := 1) ?hd (cs := x.cs) (t := 32) ?hr ?_; (case hd => rfl); (case hg => rfl); (case hr => first | (go_simp; done) | (go_simp; rfl)); intro g1 hg w1 hbox hb; have B1 : Aside0 (BK w [(g1, x.cs, 32)] w1) := ⟨BK.new (L := []) (by repeat (first | exact B.out | refine BK.drewN ?_ _ | refine BK.drew ?_)) hg hbox hb⟩; clear B hb hbox hg; have B := B1; clear B1)
    | ((with_reducible refine gate_dst (N := 8) rfl ?_); refine wpList_load_row rfl 32 _ rfl g1 rfl 32 _ _ _ (BK.at_ (w0 := w) (L := [(g1, x.cs, 32)]) (by repeat (first | exact B.out | refine BK.drewN ?_ _ | refine BK.drew ?_)) 0 _ rfl).1 Tryd.underlying32 rfl SZ.out ?_)
    | (go_at_call 15; with_reducible refine (H0.out _ _ (by repeat (first | exact B.out | refine BK.drewN ?_ _ | refine BK.drew ?_))).mono ?_; rintro e w2 ⟨rfl, B1⟩; clear B; have B := B1; clear B1)
    | (go_at_call 12; with_reducible refine (HL.out _ _ (by repeat (first | exact B.out | refine BK.drewN ?_ _ | refine BK.drew ?_))).mono ?_; rintro e w2 ⟨rfl, B1⟩; clear B; have B := B1; clear B1)
    | (go_at_call 25; with_reducible refine (H1.out _ _ (by repeat (first | exact B.out | refine BK.drewN ?_ _ | refine BK.drew ?_))).mono ?_; rintro e w2 ⟨rfl, B1⟩; clear B; have B := B1; clear B1)
    | ((with_reducible refine gate_dst (N := 5) rfl ?_); refine box_event ?hg (N := 5) ?hd (cs := zRf) (t := 32) ?hr ?_; (case hd => rfl); (case hg => rfl); (case hr => first | (go_simp; done) | (go_simp; rfl)); intro g5 hg w1 hbox hb; have B1 : Aside0 (BK w [(g1, x.cs, 32), (g5, zRf, 32)] w1) := ⟨BK.new (L := [(g1, x.cs, 32)]) (by repeat (first | exact B.out | refine BK.drewN ?_ _ | refine BK.drew ?_)) hg hbox hb⟩; clear B hb hbox hg; have B := B1; clear B1)
    | ((with_reducible refine gate_store (p := 5) rfl ?_); refine wpList_store_row rfl 32 _ _ rfl g5 x.cs rfl rfl 32 _ (BK.at_ (w0 := w) (L := [(g1, x.cs, 32), (g5, zRf, 32)]) (by repeat (first | exact B.out | refine BK.drewN ?_ _ | refine BK.drew ?_)) 1 _ rfl).1 SZ.out rfl (by simp [Value.oneCell']) ?_; have B1 := BK.set (w0 := w) (L := [(g1, x.cs, 32), (g5, zRf, 32)]) (by repeat (first | exact B.out | refine BK.drewN ?_ _ | refine BK.drew ?_)) 1 g5 zRf x.cs _ rfl; clear B; have B : Aside0 (BK w [(g1, x.cs, 32), (g5, x.cs, 32)] _) := ⟨B1⟩; clear B1; generalize World.setRow _ g5 x.cs = W at *; obtain ⟨y0, y1, y2, y3, y4, y5, y6, y7, y8, y9, y10, y11⟩ := rfc (x := x) (BK.at_ (w0 := w) (L := [(g1, x.cs, 32), (g5, x.cs, 32)]) (by repeat (first | exact B.out | refine BK.drewN ?_ _ | refine BK.drew ?_)) 0 _ rfl).1; obtain ⟨z0, z1, z2, z3, z4, z5, z6, z7, z8, z9, z10, z11⟩ := rfc (x := x) (BK.at_ (w0 := w) (L := [(g1, x.cs, 32), (g5, x.cs, 32)]) (by repeat (first | exact B.out | refine BK.drewN ?_ _ | refine BK.drew ?_)) 1 _ rfl).1))
  have HB := B.out.below
  clear B H0 H1 HL SZ
  go_ret
  exact ⟨rfl, HB⟩
theorem refsBack_walk (w : World) (hC : ChW w ∧ TabW w) (cs0 : Array Value) (x0 : TRef) (hK0 : kdRef.K w x0 cs0.toList) (hG0 : GRef x0) :
    Calls Tryd.prog 7 #[.agg cs0] w fun e w' => e = .returned (.bool true) ∧ Below w.heap.size w w' := by
  obtain rfl := ref_cells hK0
  by_cases h : chkR (rfOf x0) = 0
  · obtain ⟨k1, k2, k3, k4, r, q, r2, q2, hr⟩ := text_says (rfOf x0) (chk_ok h)
    exact backOk (rfOf x0) (texS (rfOf x0)) w hC.1 hC.2 (fun w1 h1 h2 => text_ok _ w1 h1 h2 hG0.1 hG0.2.1 h) (fun w1 h1 _ => parse_says _ _ k1 k2 k3 k4 r q r2 q2 w1 h1 (tex_size _ (chk_ok h)) hr)
  · exact backBad (rfOf x0) (chkR (rfOf x0)) h w hC.1 hC.2 (fun w1 h1 h2 => text_bad _ w1 h1 h2 hG0.1 hG0.2.1 h) (fun w1 h1 _ => rcheck_calls11 _ w1 h1 hG0.1 hG0.2.1)
end Go.Proofs.YtjbcdfbgbocblaaDoor.Hw
