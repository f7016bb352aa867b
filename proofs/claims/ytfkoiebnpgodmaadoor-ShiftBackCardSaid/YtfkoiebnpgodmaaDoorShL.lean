import Derived.Test.YtfkoiebnpgodmaaDoorShK
/- Whether a shift may be, walked: the program's Check, whole. -/
namespace Go.Proofs.YtfkoiebnpgodmaaDoor.Hw
open Go.RowKit Go.Proofs.YtfkoiebnpgodmaaDoorW.PrintWords Go.Proofs.YtfkoiebnpgodmaaDoorW.PrintLast Go.Proofs.YtfkoiebnpgodmaaDoorW.PrintMore Go.Proofs.YtfkoiebnpgodmaaDoor.PH Go.Proofs.YtfkoiebnpgodmaaDoor.CP
set_option linter.unusedVariables false
set_option linter.unusedSimpArgs false
set_option maxRecDepth 100000 in
set_option maxHeartbeats 16000000 in
theorem check_calls (A : Option Addr) (c : Nat) (l : List ByteArray) (k : Int) (sh : ByteArray) (a n : Int) (nm : ByteArray) (w : World) (hC : ChW w) (hr : Kd.C Kd.string w A l.length l) (hl : l.length ≤ 140737488351232) (hG : Small l) (h1 : sh.size ≤ 140737488351232) (h2 : nm.size ≤ 140737488351232)
    (ha : -9223372036854775808 ≤ a ∧ a ≤ 9223372036854775807) (hn : -9223372036854775808 ≤ n ∧ n ≤ 9223372036854775807) :
    Calls Tryd.prog 11 #[.slice A l.length c, shA k sh a n nm] w fun e w' => e = .returned (.int .i64 (chkI k a n l.length (fnd l sh) (fnd l nm) (nmOK nm))) ∧ Below w.heap.size w w' := by
  have hcl := check_lines A c l k sh a n nm w hC hr hl hG h1 h2 ha hn
  have HJ0 : Aside0 (ShJ w A l k sh a n nm (w.alloc (.cells (shC k sh a n nm) 24))) := ⟨ShJ.start hC hr⟩
  have HF1 := Aside0.mk (ShJ.on (w0 := w) (k := k) (sh := sh) (a := a) (n := n) (nm := nm) fun w' hj => find_calls A c l sh w' hj.row hl hG h1)
  have HF2 := Aside0.mk (ShJ.on (w0 := w) (k := k) (sh := sh) (a := a) (n := n) (nm := nm) fun w' hj => find_calls A c l nm w' hj.row hl hG h2)
  have HN := Aside0.mk (ShJ.on (w0 := w) (A := A) (l := l) (k := k) (sh := sh) (a := a) (n := n) (nm := nm) fun w' hj => sheet_calls nm w' hj.tabs (by unfold maxLen; omega))
  have hk : (k < 1 ∨ 8 < k) ∨ (1 ≤ k ∧ k ≤ 4) ∨ k = 5 ∨ k = 6 ∨ k = 7 ∨ k = 8 := by omega
  obtain ⟨oS, hS⟩ : ∃ oS, fnd l sh = oS := ⟨_, rfl⟩
  rw [hS] at HF1 ⊢
  have hcl2 : 1 ≤ k → k ≤ 4 → ∀ i, oS = some i → Calls Tryd.prog 11 #[.slice A l.length c, shA k sh a n nm] w fun e w' => e = .returned (.int .i64 (chkI k a n l.length oS (fnd l nm) (nmOK nm))) ∧ Below w.heap.size w w' := fun q1 q2 i q3 => by
    subst q3
    exact hcl q1 q2 i hS
  have HCL := Aside0.mk hcl2
  clear hcl hcl2
  generalize fnd l nm = oN at *
  generalize nmOK nm = ok at *
  clear hC hr hG hS
  rcases hk with h | ⟨hk1, hk4⟩ | hk
  · have HV : Aside0 (chkI k a n l.length oS oN ok = 150) := ⟨by unfold chkI; rw [if_pos h]⟩
    have d1 : decide (k < 1) = true ∨ (decide (k < 1) = false ∧ decide (8 < k) = true) := by simp only [decide_eq_true_eq, decide_eq_false_iff_not]; omega
    have HH := Aside0.mk h
    clear h
    cases oS <;> cases oN <;> rcases d1 with d1 | ⟨d1, d2⟩
    all_goals
      unfold fndV at HF1 HF2
      go_enter Tryd.func11, Tryd.ntmps11
      go_wp2_with (first
        | (go_at_call 18; first | ((with_reducible refine (HF1.out _ (by assumption)).mono ?_); rintro e w2 ⟨rfl, hb2⟩; obtain ⟨c0, c1, c2, c3, c4⟩ := hb2.out.cells) | ((with_reducible refine (HF2.out _ (by assumption)).mono ?_); rintro e w2 ⟨rfl, hb2⟩; obtain ⟨c0, c1, c2, c3, c4⟩ := hb2.out.cells)))
      go_ret
      exact ⟨ret_int HV.out.symm, ShJ.below (Aside0.out (by assumption))⟩
  · cases oS with
    | some i => exact HCL.out hk1 hk4 i rfl
    | none =>
      have HV : Aside0 (chkI k a n l.length none oN ok = 4) := ⟨by unfold chkI; rw [if_neg (by omega), if_pos ⟨by omega, rfl⟩]⟩
      have d1 : decide (k < 1) = false := decide_eq_false (by omega)
      have d2 : decide (8 < k) = false := decide_eq_false (by omega)
      have d3 : (k != 5) = true := by simp; omega
      cases oN
      all_goals
        unfold fndV at HF1 HF2
        go_enter Tryd.func11, Tryd.ntmps11
        go_wp2_with (first
          | (go_at_call 18; first | ((with_reducible refine (HF1.out _ (by assumption)).mono ?_); rintro e w2 ⟨rfl, hb2⟩; obtain ⟨c0, c1, c2, c3, c4⟩ := hb2.out.cells) | ((with_reducible refine (HF2.out _ (by assumption)).mono ?_); rintro e w2 ⟨rfl, hb2⟩; obtain ⟨c0, c1, c2, c3, c4⟩ := hb2.out.cells)))
        go_ret
        exact ⟨ret_int HV.out.symm, ShJ.below (Aside0.out (by assumption))⟩
  · have HCK : ∀ v, v = chkI k a n l.length oS oN ok → Aside0 (v = chkI k a n l.length oS oN ok) := fun _ h => ⟨h⟩
    have HKK := Aside0.mk HCK
    clear HCK HCL
    cases oS <;> cases oN <;> cases ok <;> rcases hk with rfl | rfl | rfl | rfl
    all_goals
      unfold fndV at HF1 HF2
      go_enter Tryd.func11, Tryd.ntmps11
      go_wp2_with (first
        | (go_at_call 18; first | ((with_reducible refine (HF1.out _ (by assumption)).mono ?_); rintro e w2 ⟨rfl, hb2⟩; obtain ⟨c0, c1, c2, c3, c4⟩ := hb2.out.cells) | ((with_reducible refine (HF2.out _ (by assumption)).mono ?_); rintro e w2 ⟨rfl, hb2⟩; obtain ⟨c0, c1, c2, c3, c4⟩ := hb2.out.cells))
        | (go_at_call 33; refine (HN.out _ (by assumption)).mono ?_; rintro e w2 ⟨rfl, hb2⟩; obtain ⟨c0, c1, c2, c3, c4⟩ := hb2.out.cells))
    all_goals go_ret
    all_goals refine ⟨ret_int ?_, ShJ.below (Aside0.out (by assumption))⟩
    all_goals (clear HF1 HF2 HN HKK HJ0; go_light)
    all_goals (unfold chkI; first | rfl | (simp_all; done) | (simp_all; omega) | simp_all)
end Go.Proofs.YtfkoiebnpgodmaaDoor.Hw
