import Derived.Test.YtjepodcgbfejgaaDoorChC
/- The law CharsParts, walked. -/
namespace Go.Proofs.YtjepodcgbfejgaaDoor.Hw
open Go.RowKit Go.Proofs.YtjepodcgbfejgaaDoorW.PrintWords Go.Proofs.YtjepodcgbfejgaaDoorW.PrintLast Go.Proofs.YtjepodcgbfejgaaDoorW.PrintMore Go.Proofs.YtjepodcgbfejgaaDoor.PH Go.Proofs.YtjepodcgbfejgaaDoor.CP
set_option linter.unusedVariables false
set_option linter.unusedSimpArgs false
set_option maxRecDepth 100000 in
set_option maxHeartbeats 2000000 in
theorem charsParts_walk (w : World) (hC : ChW w) (s : ByteArray) (hs : s.size ≤ 140737488351232) (k : Int) (hk : (Lit.int .i64 k).wf = true) :
    Calls Tryd.prog 6 #[.string s, .int .i64 k] w fun e w' => e = .returned (.bool true) ∧ Below w.heap.size w w' := by
  have HC := Aside0.mk hC
  by_cases h0 : k < 0
  · have HL := Aside0.mk (live_calls w hC)
    clear hC
    go_enter Tryd.func6, Tryd.ntmps6
    go_wp2_with (go_at_call 9; refine HL.out.mono ?_; rintro e w1 ⟨rfl, hb1⟩; have HB1 := Aside0.mk hb1; clear hb1)
    go_ret
    exact ⟨rfl, HB1.out⟩
  · have HCT := Aside0.mk (cut_counts s k (by omega))
    have HJ := Aside0.mk (cut_join s k)
    have HSZ := Aside0.mk hs
    have hca := fun w => cutc_calls s 0 k w hs
    have hcb := fun w => cutc_calls s k (Lib.runeCount s : Int) w hs
    have hle : Lib.runeCount s ≤ s.size := Lib.runeCount_le s
    have hcs := fun w => count_calls s w (by omega)
    have ha : (cutV s 0 k).size ≤ 140737488351232 := by rw [cut_first]; have := sk_le s (max k 0).toNat; rw [size_piece s 0 _ (by omega) this]; omega
    have hb : (cutV s k (Lib.runeCount s : Int)).size ≤ 140737488351232 := by rw [cut_second]; have := sk_le s (max k 0).toNat; rw [size_piece s _ s.size this (Nat.le_refl _)]; omega
    generalize cutV s 0 k = a at *
    generalize cutV s k (Lib.runeCount s : Int) = b at *
    have hna := fun w => count_calls a w (by omega)
    have hnb := fun w => count_calls b w (by omega)
    have hla : Lib.runeCount a ≤ a.size := Lib.runeCount_le a
    have hlb : Lib.runeCount b ≤ b.size := Lib.runeCount_le b
    have htl : (a ++ b).toList = s.toList := by
      rw [Lib.toList_data, Lib.toList_data, ByteArray.data_append, Array.toList_append]
      exact HJ.out
    have hq : (a ++ b).size = s.size := by rw [Lib.size_eq, Lib.size_eq, ← Lib.toList_data, ← Lib.toList_data, htl]
    generalize Lib.runeCount s = n at *
    generalize Lib.runeCount a = n1 at *
    generalize Lib.runeCount b = n2 at *
    have HCA := Aside0.mk (onward (w0 := w) fun w1 _ => hca w1); have HCB := Aside0.mk (onward (w0 := w) fun w1 _ => hcb w1); have HCS := Aside0.mk (onward (w0 := w) fun w1 _ => hcs w1); have HNA := Aside0.mk (onward (w0 := w) fun w1 _ => hna w1); have HNB := Aside0.mk (onward (w0 := w) fun w1 _ => hnb w1)
    have HLV := Aside0.mk (onward (w0 := w) fun w1 hb => live_calls w1 (HC.out.go hb))
    have HB0 : Aside0 (Below w.heap.size w w) := ⟨Below.refl _ _⟩
    have t1 : ((a ++ b).toList == s.toList) = true := by rw [htl]; simp
    have hct := HCT.out
    have t2 : (((n1 : Int) + (n2 : Int)) == (n : Int)) = true := by simp; omega
    have t3 : decide ((n1 : Int) ≤ k) = true := decide_eq_true hct.2
    have HHH := Aside0.mk htl
    have HQ := Aside0.mk hq
    clear hC hca hcb hcs hna hnb htl hct hq
    go_enter Tryd.func6, Tryd.ntmps6
    go_wp2_with (first
      | (go_at_call 9; refine (HLV.out _ (by assumption)).mono ?_; rintro e w2 ⟨rfl, hb2⟩)
      | (go_at_call 27; first | ((with_reducible refine (HCA.out _ (by assumption)).mono ?_); rintro e w2 ⟨rfl, hb2⟩) | ((with_reducible refine (HCB.out _ (by assumption)).mono ?_); rintro e w2 ⟨rfl, hb2⟩))
      | (go_at_call 28; first | ((with_reducible refine (HCS.out _ (by assumption)).mono ?_); rintro e w2 ⟨rfl, hb2⟩) | ((with_reducible refine (HNA.out _ (by assumption)).mono ?_); rintro e w2 ⟨rfl, hb2⟩) | ((with_reducible refine (HNB.out _ (by assumption)).mono ?_); rintro e w2 ⟨rfl, hb2⟩)))
    go_ret
    exact ⟨rfl, Aside0.out (by assumption)⟩
end Go.Proofs.YtjepodcgbfejgaaDoor.Hw
