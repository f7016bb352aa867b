import Derived.Test.YtjbcdfbgbocblaaDoorQrV
import Derived.Deep.RegionHeld3
/- Any reference's text, or what is wrong with it. Printed by gen_qrz.py. -/
namespace Go.Proofs.YtjbcdfbgbocblaaDoor.Hw
open Go.RowKit Go.Proofs.YtjbcdfbgbocblaaDoorW.PrintWords Go.Proofs.YtjbcdfbgbocblaaDoorW.PrintLast Go.Proofs.YtjbcdfbgbocblaaDoorW.PrintMore Go.Proofs.YtjbcdfbgbocblaaDoor.PH Go.Proofs.YtjbcdfbgbocblaaDoor.CP Go.Proofs.YtjbcdfbgbocblaaDoor.Op
set_option linter.unusedVariables false
set_option linter.unusedSimpArgs false
/-- A contract that asks the laid tables, behind what was made. -/
theorem onT {f : FuncId} {args : Array Value} {e0 : Ending} {w0 : World} (hC : ChW w0) (hT : TabW w0) (h : ∀ w1, ChW w1 → TabW w1 → Calls Tryd.prog f args w1 fun e w' => e = e0 ∧ Below w1.heap.size w1 w') :
    ∀ L w1, BK w0 L w1 → Calls Tryd.prog f args w1 fun e w' => e = e0 ∧ Aside0 (BK w0 L w') := fun L w1 hj => (h w1 (hC.go hj.below) (hT.go hj.below)).mono fun e w' hq => ⟨hq.1, ⟨hj.go hq.2⟩⟩
/-- What Text says. -/
def txV (x : Rf) : ByteArray := if chkR x = 0 then texS x else ⟨#[]⟩
theorem text_calls (x : Rf) (hs : x.s.size ≤ 140737488351232) (ht : x.t.size ≤ 140737488351232) (w : World) (hC : ChW w) (hT : TabW w) : Calls Tryd.prog 15 #[.agg x.cs] w fun e w' => e = .returned (.tuple #[.string (txV x), .int .i64 (chkR x)]) ∧ Below w.heap.size w w' := by
  unfold txV
  by_cases h : chkR x = 0
  · rw [if_pos h]; have := text_ok x w hC hT hs ht h; rw [← h] at this; exact this
  · rw [if_neg h]; exact text_bad x w hC hT hs ht h
theorem rtext_calls (x : Rf) (hs : x.s.size ≤ 140737488351232) (ht : x.t.size ≤ 140737488351232) (w : World) (hC : ChW w) (hT : TabW w) : Calls Tryd.prog 16 #[.agg x.cs] w fun e w' => e = .returned (.tuple #[.string (txV x), .int .i64 (chkR x)]) ∧ Below w.heap.size w w' := by
  unfold txV
  by_cases h : chkR x = 0
  · rw [if_pos h]; have := rtext_ok x w hC hT hs ht h; rw [← h] at this; exact this
  · rw [if_neg h]; exact rtext_bad x w hC hT hs ht h
set_option maxRecDepth 100000 in
set_option maxHeartbeats 8000000 in
theorem textsLaw (x : Rf) (t : ByteArray) (k : Int) (w : World) (hC : ChW w) (hT : TabW w)
    (h0 : ∀ w1, ChW w1 → TabW w1 → Calls Tryd.prog 15 #[.agg x.cs] w1 fun e w' => e = .returned (.tuple #[.string t, .int .i64 k]) ∧ Below w1.heap.size w1 w')
    (h1 : ∀ w1, ChW w1 → TabW w1 → Calls Tryd.prog 16 #[.agg x.cs] w1 fun e w' => e = .returned (.tuple #[.string t, .int .i64 k]) ∧ Below w1.heap.size w1 w')
    (h2 : ∀ w1, ChW w1 → TabW w1 → Calls Tryd.prog 17 #[.agg x.cs] w1 fun e w' => e = .returned (.int .i64 k) ∧ Below w1.heap.size w1 w')
    (h3 : ∀ w1, ChW w1 → TabW w1 → Calls Tryd.prog 18 #[.agg x.cs] w1 fun e w' => e = .returned (.int .i64 k) ∧ Below w1.heap.size w1 w') :
    Calls Tryd.prog 5 #[.agg x.cs] w fun e w' => e = .returned (.bool true) ∧ Below w.heap.size w w' := by
  have H0 := Aside0.mk (onT hC hT h0)
  have H1 := Aside0.mk (onT hC hT h1)
  have H2 := Aside0.mk (onT hC hT h2)
  have H3 := Aside0.mk (onT hC hT h3)
  have HL := Aside0.mk (onT hC hT fun w1 h _ => live11_calls w1 h)
  clear h0 h1 h2 h3 hC hT
  have SZ : Aside0 ((Tryd.prog.info? 32).map (·.size) = some (12 : Nat)) := ⟨by kernel_rfl⟩
  have B := Aside0.mk (BK.start w)
  go_enter Tryd.func5, Tryd.ntmps5
  go_wp2_with (first
    | ((with_reducible refine gate_dst (N := 1) rfl ?_); refine box_event ?hg (N := 1) ?hd (cs := x.cs) (t := 32) ?hr ?_; (case hd => rfl); (case hg => rfl); (case hr => first | (go_simp; done) | (go_simp; rfl)); intro g1 hg w1 hbox hb; have B1 : Aside0 (BK w [(g1, x.cs, 32)] w1) := ⟨BK.new (L := []) (by repeat (first | exact B.out | refine BK.drewN ?_ _ | refine BK.drew ?_)) hg hbox hb⟩; clear B hb hbox hg; have B := B1; clear B1)
    | ((with_reducible refine gate_dst (N := 8) rfl ?_); refine wpList_load_row rfl 32 _ rfl g1 rfl 32 _ _ _ (BK.at_ (w0 := w) (L := [(g1, x.cs, 32)]) (by repeat (first | exact B.out | refine BK.drewN ?_ _ | refine BK.drew ?_)) 0 _ rfl).1 Tryd.underlying32 rfl SZ.out ?_)
    | (go_at_call 15; with_reducible refine (H0.out _ _ (by repeat (first | exact B.out | refine BK.drewN ?_ _ | refine BK.drew ?_))).mono ?_; rintro e w2 ⟨rfl, B1⟩; clear B; have B := B1; clear B1)
    | ((with_reducible refine gate_dst (N := 13) rfl ?_); refine wpList_load_row rfl 32 _ rfl g1 rfl 32 _ _ _ (BK.at_ (w0 := w) (L := [(g1, x.cs, 32)]) (by repeat (first | exact B.out | refine BK.drewN ?_ _ | refine BK.drew ?_)) 0 _ rfl).1 Tryd.underlying32 rfl SZ.out ?_)
    | (go_at_call 16; with_reducible refine (H1.out _ _ (by repeat (first | exact B.out | refine BK.drewN ?_ _ | refine BK.drew ?_))).mono ?_; rintro e w2 ⟨rfl, B1⟩; clear B; have B := B1; clear B1))
  have LS : Aside0 (∀ w', BK w [(g1, x.cs, 32)] w' → w'.cell? ⟨g1, 0, none⟩ = some (.string x.s) ∧ w'.cell? ⟨g1, 1, none⟩ = some (.string x.t) ∧ w'.cell? ⟨g1, 2, none⟩ = some (.bool x.f) ∧ w'.cell? ⟨g1, 3, none⟩ = some (.bool x.e) ∧ w'.cell? ⟨g1, 4, none⟩ = some (.int .i64 x.r) ∧ w'.cell? ⟨g1, 5, none⟩ = some (.int .i64 x.q) ∧ w'.cell? ⟨g1, 6, none⟩ = some (.bool x.u) ∧ w'.cell? ⟨g1, 7, none⟩ = some (.bool x.v) ∧ w'.cell? ⟨g1, 8, none⟩ = some (.int .i64 x.r2) ∧ w'.cell? ⟨g1, 9, none⟩ = some (.int .i64 x.q2) ∧ w'.cell? ⟨g1, 10, none⟩ = some (.bool x.u2) ∧ w'.cell? ⟨g1, 11, none⟩ = some (.bool x.v2) ∧ Aside0 (BK w [(g1, x.cs, 32)] w')) := ⟨fun w' h => by
    obtain ⟨p0, p1, p2, p3, p4, p5, p6, p7, p8, p9, p10, p11⟩ := rfc (x := x) (BK.at_ (w0 := w) (L := [(g1, x.cs, 32)]) h 0 _ rfl).1
    exact ⟨p0, p1, p2, p3, p4, p5, p6, p7, p8, p9, p10, p11, ⟨h⟩⟩⟩
  have HS := LS.out _ B.out
  clear H0 H1 SZ
  go_region_held3 (fun w' => w'.cell? ⟨g1, 0, none⟩ = some (.string x.s) ∧ w'.cell? ⟨g1, 1, none⟩ = some (.string x.t) ∧ w'.cell? ⟨g1, 2, none⟩ = some (.bool x.f) ∧ w'.cell? ⟨g1, 3, none⟩ = some (.bool x.e) ∧ w'.cell? ⟨g1, 4, none⟩ = some (.int .i64 x.r) ∧ w'.cell? ⟨g1, 5, none⟩ = some (.int .i64 x.q) ∧ w'.cell? ⟨g1, 6, none⟩ = some (.bool x.u) ∧ w'.cell? ⟨g1, 7, none⟩ = some (.bool x.v) ∧ w'.cell? ⟨g1, 8, none⟩ = some (.int .i64 x.r2) ∧ w'.cell? ⟨g1, 9, none⟩ = some (.int .i64 x.q2) ∧ w'.cell? ⟨g1, 10, none⟩ = some (.bool x.u2) ∧ w'.cell? ⟨g1, 11, none⟩ = some (.bool x.v2) ∧ Aside0 (BK w [(g1, x.cs, 32)] w'))
    (first | exact LS.out _ (BK.drew (Aside0.out (by assumption))) | exact LS.out _ (Aside0.out (by assumption)))
    (first
      | (go_at_call 12; refine (HL.out _ _ (Aside0.out (And.right (And.right (And.right (And.right (And.right (And.right (And.right (And.right (And.right (And.right (And.right (And.right (by assumption))))))))))))))).mono ?_; rintro e w6 ⟨rfl, hb6⟩)
      | (go_at_call 17; refine (H2.out _ _ (Aside0.out (And.right (And.right (And.right (And.right (And.right (And.right (And.right (And.right (And.right (And.right (And.right (And.right (by assumption))))))))))))))).mono ?_; rintro e w6 ⟨rfl, hb6⟩)
      | (go_at_call 18; refine (H3.out _ _ (Aside0.out (And.right (And.right (And.right (And.right (And.right (And.right (And.right (And.right (And.right (And.right (And.right (And.right (by assumption))))))))))))))).mono ?_; rintro e w6 ⟨rfl, hb6⟩))
  all_goals go_wp2
  all_goals go_ret
  all_goals exact ⟨rfl, BK.below (Aside0.out (by assumption))⟩
theorem refsTexts_walk (w : World) (hC : ChW w ∧ TabW w) (cs0 : Array Value) (x0 : TRef) (hK0 : kdRef.K w x0 cs0.toList) (hG0 : GRef x0) :
    Calls Tryd.prog 5 #[.agg cs0] w fun e w' => e = .returned (.bool true) ∧ Below w.heap.size w w' := by
  obtain rfl := ref_cells hK0
  exact textsLaw (rfOf x0) (txV (rfOf x0)) (chkR (rfOf x0)) w hC.1 hC.2 (text_calls _ hG0.1 hG0.2.1) (rtext_calls _ hG0.1 hG0.2.1) (fun w1 h _ => check_calls11 _ w1 h hG0.1 hG0.2.1) (fun w1 h _ => rcheck_calls11 _ w1 h hG0.1 hG0.2.1)
end Go.Proofs.YtjbcdfbgbocblaaDoor.Hw
