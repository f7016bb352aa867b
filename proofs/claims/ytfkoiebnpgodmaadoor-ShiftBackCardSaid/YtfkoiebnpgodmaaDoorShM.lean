import Derived.Test.YtfkoiebnpgodmaaDoorShK
/- Whether a shift may be, walked: the document's Check, whole. -/
namespace Go.Proofs.YtfkoiebnpgodmaaDoor.Hw
open Go.RowKit Go.Proofs.YtfkoiebnpgodmaaDoorW.PrintWords Go.Proofs.YtfkoiebnpgodmaaDoorW.PrintLast Go.Proofs.YtfkoiebnpgodmaaDoorW.PrintMore Go.Proofs.YtfkoiebnpgodmaaDoor.PH Go.Proofs.YtfkoiebnpgodmaaDoor.CP
set_option linter.unusedVariables false
set_option linter.unusedSimpArgs false
theorem rspan_is (k : Int) (sh : ByteArray) (a n : Int) (nm : ByteArray) (L : Int) (hL : 0 ≤ L ∧ L ≤ 1048576) (ha : -9223372036854775808 ≤ a ∧ a ≤ 9223372036854775807) : gridironref15_span.f k sh a n nm L = some (if n < 1 ∨ a < 0 ∨ L < a ∨ L - a < n then 150 else 0) := by
  unfold gridironref15_span.f
  by_cases h1 : n < 1
  · rw [if_pos h1, if_pos (by omega)]
  · rw [if_neg h1]
    by_cases h2 : a < 0
    · rw [if_pos h2, if_pos (by omega)]
    · rw [if_neg h2]
      by_cases h3 : a > L
      · rw [if_pos h3, if_pos (by omega)]
      · rw [if_neg h3]
        have w1 : wrap64 (L - a) = L - a := by unfold wrap64; omega
        rw [w1]
        by_cases h4 : n > L - a
        · rw [if_pos h4, if_pos (by omega)]
        · rw [if_neg h4, if_neg (by omega)]
set_option maxRecDepth 100000 in
set_option maxHeartbeats 16000000 in
theorem rcheck_calls (A : Option Addr) (c : Nat) (l : List ByteArray) (k : Int) (sh : ByteArray) (a n : Int) (nm : ByteArray) (w : World) (hC : ChW w) (hr : Kd.C Kd.string w A l.length l) (hl : l.length ≤ 140737488351232) (hG : Small l) (h1 : sh.size ≤ 140737488351232) (h2 : nm.size ≤ 140737488351232)
    (ha : -9223372036854775808 ≤ a ∧ a ≤ 9223372036854775807) (hn : -9223372036854775808 ≤ n ∧ n ≤ 9223372036854775807) :
    Calls Tryd.prog 12 #[.slice A l.length c, shA k sh a n nm] w fun e w' => e = .returned (.int .i64 (chkI k a n l.length (fnd l sh) (fnd l nm) (nmOK nm))) ∧ Below w.heap.size w w' := by
  have HJ0 : Aside0 (ShJ w A l k sh a n nm (w.alloc (.cells (shC k sh a n nm) 24))) := ⟨ShJ.start hC hr⟩
  have HF1 := Aside0.mk (ShJ.on (w0 := w) (k := k) (sh := sh) (a := a) (n := n) (nm := nm) fun w' hj => rfind_calls A c l sh w' hj.row hl hG h1)
  have HF2 := Aside0.mk (ShJ.on (w0 := w) (k := k) (sh := sh) (a := a) (n := n) (nm := nm) fun w' hj => rfind_calls A c l nm w' hj.row hl hG h2)
  have HN := Aside0.mk (ShJ.on (w0 := w) (A := A) (l := l) (k := k) (sh := sh) (a := a) (n := n) (nm := nm) fun w' hj => rsheet_calls nm w' hj.tabs (by unfold maxLen; omega))
  have HSP := Aside0.mk (fun L (hL : 0 ≤ L ∧ L ≤ 1048576) => ShJ.on (w0 := w) (A := A) (l := l) (k := k) (sh := sh) (a := a) (n := n) (nm := nm) fun w' hj => gridironref15_span.calls k sh a n nm L _ w' (rspan_is k sh a n nm L hL ha))
  have hk : (k < 1 ∨ 8 < k) ∨ ((k = 1 ∨ k = 2 ∨ k = 3 ∨ k = 4) ∨ k = 5 ∨ k = 6 ∨ k = 7 ∨ k = 8) := by omega
  generalize fnd l sh = oS at *
  generalize fnd l nm = oN at *
  generalize nmOK nm = ok at *
  clear hC hr hG
  rcases hk with h | hk
  · have HV : Aside0 (chkI k a n l.length oS oN ok = 150) := ⟨by unfold chkI; rw [if_pos h]⟩
    have d1 : decide (k < 1) = true ∨ (decide (k < 1) = false ∧ decide (8 < k) = true) := by simp only [decide_eq_true_eq, decide_eq_false_iff_not]; omega
    have HH := Aside0.mk h
    clear h
    rcases d1 with d1 | ⟨d1, d2⟩
    all_goals
      go_enter Tryd.func12, Tryd.ntmps12
      go_wp2
      go_ret
      exact ⟨ret_int HV.out.symm, ShJ.below HJ0.out⟩
  · cases oS <;> cases oN <;> cases ok <;> rcases hk with (rfl | rfl | rfl | rfl) | rfl | rfl | rfl | rfl
    all_goals
      unfold fndV at HF1 HF2
      have HS1 := Aside0.mk (HSP.out 1048576 (by omega))
      have HS2 := Aside0.mk (HSP.out 1024 (by omega))
      go_enter Tryd.func12, Tryd.ntmps12
      go_wp2_with (first
        | (go_at_call 19; first | ((with_reducible refine (HF1.out _ (by assumption)).mono ?_); rintro e w2 ⟨rfl, hb2⟩; obtain ⟨c0, c1, c2, c3, c4⟩ := hb2.out.cells) | ((with_reducible refine (HF2.out _ (by assumption)).mono ?_); rintro e w2 ⟨rfl, hb2⟩; obtain ⟨c0, c1, c2, c3, c4⟩ := hb2.out.cells))
        | (go_at_call 36; refine (HN.out _ (by assumption)).mono ?_; rintro e w2 ⟨rfl, hb2⟩; obtain ⟨c0, c1, c2, c3, c4⟩ := hb2.out.cells)
        | (go_at_call 35; first | ((with_reducible refine (HS1.out _ (by assumption)).mono ?_); rintro e w2 ⟨rfl, hb2⟩; obtain ⟨c0, c1, c2, c3, c4⟩ := hb2.out.cells) | ((with_reducible refine (HS2.out _ (by assumption)).mono ?_); rintro e w2 ⟨rfl, hb2⟩; obtain ⟨c0, c1, c2, c3, c4⟩ := hb2.out.cells)))
    all_goals (first | go_ret | go_outline)
    all_goals refine ⟨ret_int ?_, ShJ.below (Aside0.out (by assumption))⟩
    all_goals (clear HF1 HF2 HN HSP HS1 HS2 HJ0; go_light)
    all_goals (unfold chkI; first | rfl | (simp_all; done) | (simp_all; omega) | (simp_all))
end Go.Proofs.YtfkoiebnpgodmaaDoor.Hw
