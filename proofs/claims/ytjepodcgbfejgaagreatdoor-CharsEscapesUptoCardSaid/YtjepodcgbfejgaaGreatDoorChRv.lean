import Derived.Test.YtjepodcgbfejgaaGreatDoorChV
/- What is valid: the document's text, walked. -/
namespace Go.Proofs.YtjepodcgbfejgaaGreatDoor.Hw
open Go.RowKit Go.Proofs.YtjepodcgbfejgaaGreatDoorW.PrintWords Go.Proofs.YtjepodcgbfejgaaGreatDoorW.PrintLast Go.Proofs.YtjepodcgbfejgaaGreatDoorW.PrintMore Go.Proofs.YtjepodcgbfejgaaGreatDoor.PH Go.Proofs.YtjepodcgbfejgaaGreatDoor.CP
set_option linter.unusedVariables false
set_option linter.unusedSimpArgs false
theorem ret_v {a b : Value} (h : a = b) : Ending.returned a = .returned b := by rw [h]
theorem nb_false {R : Nat} {k : Int} (h : ¬ (R : Int) = k) : ((R : Int) == k) = false := by simpa using h
set_option maxHeartbeats 1000000 in
theorem rvalid_calls (s : ByteArray) (w : World) (hC : ChW w) (hs : s.size ≤ maxLen) :
    Calls Tryz.prog 12 #[.string s] w fun e w' => e = .returned (vldV (vld s)) ∧ Below w.heap.size w w' := by
  unfold maxLen at hs
  have HC := Aside0.mk hC
  clear hC
  go_enter Tryz.func12, Tryz.ntmps12
  go_wp2
  go_loopw [4] (fun i wr => ∃ (pos f : Nat), i = .int .i64 pos ∧ Aside0 (Below w.heap.size w wr) ∧ Aside0 (vldF s f pos = vld s) ∧ s.size ≤ pos + f ∧ pos ≤ s.size) (fun i wr => s.size - (intOf i).toNat)
  case atStart => exact ⟨0, s.size, rfl, ⟨Below.refl _ _⟩, ⟨rfl⟩, by omega, by omega⟩
  case round =>
    obtain ⟨pos, f, rfl, HB, HV, hf, hps⟩ := hrel
    by_cases hp : pos < s.size
    · have hwd := Lib.decode_width_pos s pos hp
      obtain ⟨g, rfl, hst, hg⟩ := vldF_step s f pos hp hf
      have HST := Aside0.mk hst
      have HC2 := Aside0.mk (HC.out.go HB.out)
      have hle : pos + (Utf8.decode s pos).2 ≤ s.size := decode_in s pos hp
      clear hst
      go_wp2_with fail
      refine (dec_calls s pos wr HC2.out hp).mono ?_
      rintro e w1 ⟨rfl, hb1⟩
      have HB1 := Aside0.mk (HB.out.trans (hb1.mono HB.out.size))
      clear hb1
      have hbe : badB s pos = ((decide (((Utf8.decode s pos).1 : Int) = 65533 ∧ ((Utf8.decode s pos).2 : Int) = 1)) || !xc ((Utf8.decode s pos).1 : Int)) := rfl
      have HBE := Aside0.mk hbe
      clear hbe
      generalize hR : (Utf8.decode s pos).1 = R at *
      generalize hK : (Utf8.decode s pos).2 = K at *
      have HR := Aside0.mk hR
      have HK := Aside0.mk hK
      clear hR hK
      by_cases h1 : (R : Int) = 65533 ∧ (K : Int) = 1
      · obtain ⟨h1, h2⟩ := h1
        have e1 : ((R : Int) == 65533) = true := by simpa using h1
        have e2 : ((K : Int) == 1) = true := by simpa using h2
        have H1 := Aside0.mk h1
        have H2 := Aside0.mk h2
        clear h1 h2
        go_wp2
        go_ret2
        have h3 := HST.out
        rw [HBE.out, decide_eq_true ⟨H1.out, H2.out⟩, if_pos (Bool.true_or _), HV.out] at h3
        exact ⟨by rw [h3]; rfl, HB1.out⟩
      · have H1 := Aside0.mk h1
        have hd : decide ((R : Int) = 65533 ∧ (K : Int) = 1) = false := decide_eq_false h1
        have HD := Aside0.mk hd
        have e1 : (((R : Int) == 65533) = false) ∨ (((R : Int) == 65533) = true ∧ ((K : Int) == 1) = false) := by
          simp only [beq_eq_false_iff_ne, beq_iff_eq, ne_eq]
          omega
        clear h1 hd
        rcases e1 with e1 | ⟨e1, e2⟩
        all_goals
          go_wp2_with fail
          refine (gridironref05_Char.calls 1001 (R : Int) (xc R) _ (rchar_is _)).mono ?_
          rintro e w2 ⟨rfl, hd2⟩
          have HB2 : Aside0 (Below w.heap.size w w2) := ⟨HB1.out.trans (hd2.mono HB1.out.size)⟩
          clear hd2
          cases hx : xc (R : Int) with
          | true =>
            go_wp2
            go_roundw
            case rel =>
              have h1 := HST.out
              rw [HBE.out, HD.out, hx, if_neg (by decide)] at h1
              exact ⟨pos + K, g, by go_num, HB2, ⟨by rw [← h1]; exact HV.out⟩, hg, hle⟩
            case measure =>
              simp only [intOf]
              omega
          | false =>
            go_wp2
            go_ret2
            have h3 := HST.out
            rw [HBE.out, HD.out, hx, if_pos (by decide), HV.out] at h3
            exact ⟨by rw [h3]; rfl, HB2.out⟩
    · go_wp2
      go_ret2
      rw [vldF_end s f pos hp] at HV
      exact ⟨by rw [← HV.out]; rfl, HB.out⟩
end Go.Proofs.YtjepodcgbfejgaaGreatDoor.Hw
