import Derived.Test.YtjepodcgbfejgaaDoorRpV
import Derived.Test.YtjepodcgbfejgaaDoorChL
import Derived.Test.YtjepodcgbfejgaaDoorChRv
/- The law CharsBack, walked. -/
namespace Go.Proofs.YtjepodcgbfejgaaDoor.Hw
open Go.RowKit Go.Proofs.YtjepodcgbfejgaaDoorW.PrintWords Go.Proofs.YtjepodcgbfejgaaDoorW.PrintLast Go.Proofs.YtjepodcgbfejgaaDoorW.PrintMore Go.Proofs.YtjepodcgbfejgaaDoor.PH Go.Proofs.YtjepodcgbfejgaaDoor.CP
set_option linter.unusedVariables false
set_option linter.unusedSimpArgs false
set_option maxRecDepth 100000 in
set_option maxHeartbeats 2000000 in
theorem charsBack_bad (w : World) (hC : ChW w) (s : ByteArray) (hs : s.size ≤ 1048576) (attr : Bool) (p : Nat) (hv : vld s = some p) :
    Calls Tryd.prog 8 #[.string s, .bool attr] w fun e w' => e = .returned (.bool true) ∧ Below w.heap.size w w' := by
  have H0 := onward (w0 := w) fun w1 hb => live_calls w1 (hC.go hb)
  have H1 := onward (w0 := w) fun w1 hb => rvalid_calls s w1 (hC.go hb) (by unfold maxLen; omega)
  have H2 := onward (w0 := w) fun w1 hb => escape_calls s attr w1 (hC.go hb) (by omega)
  rw [hv] at H1 H2
  unfold vldV at H1
  unfold escE at H2
  have HB0 : Aside0 (Below w.heap.size w w) := ⟨Below.refl _ _⟩
  have K0 := Aside0.mk H0; have K1 := Aside0.mk H1; have K2 := Aside0.mk H2
  clear H0 H1 H2 hC hv
  go_enter Tryd.func8, Tryd.ntmps8
  go_wp2_with (first
    | (go_at_call 9; refine (K0.out _ (by assumption)).mono ?_; rintro e w2 ⟨rfl, hb2⟩)
    | (go_at_call 22; refine (K1.out _ (by assumption)).mono ?_; rintro e w2 ⟨rfl, hb2⟩)
    | (go_at_call 37; refine (K2.out _ (by assumption)).mono ?_; rintro e w2 ⟨rfl, hb2⟩))
  go_ret
  exact ⟨rfl, Aside0.out (by assumption)⟩
set_option maxRecDepth 100000 in
set_option maxHeartbeats 2000000 in
theorem charsBack_good (w : World) (hC : ChW w) (s : ByteArray) (hs : s.size ≤ 1048576) (attr : Bool) (hv : vld s = none) :
    Calls Tryd.prog 8 #[.string s, .bool attr] w fun e w' => e = .returned (.bool true) ∧ Below w.heap.size w w' := by
  obtain ⟨t, ht⟩ : ∃ t : ByteArray, t = ⟨(escT attr s).toArray⟩ := ⟨_, rfl⟩
  have hback := esc_back attr s hv
  rw [← ht] at hback
  have htl : t.data.toList = escT attr s := by rw [ht]
  have hsz : t.size ≤ 200000000 := by
    rw [Lib.size_eq, htl]
    unfold escT
    have h1 := outB_len (escP attr).reverse (fun p hp => by have := esc_len attr p (by simpa using hp); omega) s.data.toList
    have h2 := add_le (escP attr).reverse (fun p hp => by have := esc_len attr p (by simpa using hp); omega) s.data.toList
    rw [← Lib.size_eq] at h1 h2
    omega
  have H0 := onward (w0 := w) fun w1 hb => live_calls w1 (hC.go hb)
  have H1 := onward (w0 := w) fun w1 hb => unescape_calls t w1 (hC.go hb) (by omega)
  have H2 := onward (w0 := w) fun w1 hb => escape_calls s attr w1 (hC.go hb) (by omega)
  rw [hback.1] at H1
  rw [hv] at H2
  unfold escE at H2
  rw [← ht] at H2
  have HM : Aside0 (∀ y ∈ t.data.toList, y.toNat ≠ 60 ∧ y.toNat ≠ 62 ∧ (attr = true → y.toNat ≠ 34 ∧ 32 ≤ y.toNat)) := ⟨by rw [htl]; exact hback.2⟩
  have HB0 : Aside0 (Below w.heap.size w w) := ⟨Below.refl _ _⟩
  have K0 := Aside0.mk H0; have K1 := Aside0.mk H1; have K2 := Aside0.mk H2
  have tss : (s.toList == s.toList) = true := by simp
  clear H0 H1 H2 hC hv hback htl ht
  go_enter Tryd.func8, Tryd.ntmps8
  go_wp2_with (first
    | (go_at_call 38; refine (K1.out _ (by assumption)).mono ?_; rintro e w2 ⟨rfl, hb2⟩)
    | (go_at_call 37; refine (K2.out _ (by assumption)).mono ?_; rintro e w2 ⟨rfl, hb2⟩))
  go_loopw [39] (fun iv wr => ∃ i : Nat, i ≤ t.size ∧ iv = .int .i64 (i : Int) ∧ Aside0 (Below w.heap.size w wr)) (fun iv _ => t.size - (intOf iv).toNat)
  case atStart => exact ⟨0, Nat.zero_le _, rfl, by assumption⟩
  case round =>
    obtain ⟨i, hi, rfl, HB⟩ := hrel
    by_cases hin : i < t.size
    · have ti : decide ((i : Int) < (t.size : Int)) = true := by simp; omega
      have wi : wrap64 ((i : Int) + 1) = (i : Int) + 1 := w64r2 (by omega) (by omega)
      have hil : i < t.data.toList.length := by rw [← Lib.size_eq]; exact hin
      obtain ⟨x, hxx⟩ : ∃ x, t.data.toList[i]'hil = x := ⟨_, rfl⟩
      have hsi : ∀ h, (t[i]'h) = x := fun h => by rw [← hxx]; show t.data[i] = _; simp
      have hm := HM.out x (by rw [← hxx]; exact List.getElem_mem hil)
      have t60 : ((x.toNat : Int) == 60) = false := by simp; omega
      have t62 : ((x.toNat : Int) == 62) = false := by simp; omega
      clear hxx hil
      cases attr with
      | false =>
        clear hm
        go_wp2
        refine ⟨⟨i + 1, by omega, by go_num, HB⟩, by simp [intOf]; omega⟩
      | true =>
        have h34 := hm.2.2 rfl
        have t34 : ((x.toNat : Int) == 34) = false := by simp; omega
        have t32 : decide ((x.toNat : Int) < 32) = false := by simp; omega
        have t32n : decide (x.toNat < 32) = false := by simp; omega
        clear hm h34
        go_wp2
        refine ⟨⟨i + 1, by omega, by go_num, HB⟩, by simp [intOf]; omega⟩
    · have ti : decide ((i : Int) < (t.size : Int)) = false := by simp; omega
      have tin : decide (i < t.size) = false := by simp; omega
      go_wp2_with (go_at_call 9; refine (K0.out _ HB).mono ?_; rintro e w2 ⟨rfl, hb2⟩)
      go_ret
      exact ⟨rfl, hb2.out⟩
theorem charsBack_walk (w : World) (hC : ChW w) (s : ByteArray) (hs : s.size ≤ 1048576) (attr : Bool) :
    Calls Tryd.prog 8 #[.string s, .bool attr] w fun e w' => e = .returned (.bool true) ∧ Below w.heap.size w w' := by
  cases hv : vld s with
  | some p => exact charsBack_bad w hC s hs attr p hv
  | none => exact charsBack_good w hC s hs attr hv
end Go.Proofs.YtjepodcgbfejgaaDoor.Hw
