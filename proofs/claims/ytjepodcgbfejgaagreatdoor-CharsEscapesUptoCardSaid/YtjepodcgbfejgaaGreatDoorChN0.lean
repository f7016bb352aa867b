import Derived.Test.YtjepodcgbfejgaaGreatDoorChR0
import Derived.Test.YtjepodcgbfejgaaGreatDoorChP0
/- Names, walked: the program's and the document's. -/
namespace Go.Proofs.YtjepodcgbfejgaaGreatDoor.CP
open Go.RowKit Go.Proofs.YtjepodcgbfejgaaGreatDoorW.PrintWords
/-- The runes of a name; the flag: they begin it. -/
def nmL : Bool → List Int → Bool
  | _, [] => true
  | b, r :: t => (nch r && (!b || nst r)) && nmL false t
def nameB (s : ByteArray) : Bool := (vld s).isNone && (decide (0 < s.size) && nmL true (runesL s))
theorem nameB_bad {s : ByteArray} {p : Nat} (h : vld s = some p) : nameB s = false := by unfold nameB; rw [h]; rfl
theorem nameB_none {s : ByteArray} (h : s.size = 0) : nameB s = false := by unfold nameB; rw [h]; simp
theorem nameB_else {s : ByteArray} (h : vld s = none) (h0 : 0 < s.size) : nameB s = nmL true (runesL s) := by unfold nameB; rw [h, decide_eq_true h0]; rfl
end Go.Proofs.YtjepodcgbfejgaaGreatDoor.CP
namespace Go.Proofs.YtjepodcgbfejgaaGreatDoor.Hw
open Go.RowKit Go.Proofs.YtjepodcgbfejgaaGreatDoorW.PrintWords Go.Proofs.YtjepodcgbfejgaaGreatDoorW.PrintLast Go.Proofs.YtjepodcgbfejgaaGreatDoorW.PrintMore Go.Proofs.YtjepodcgbfejgaaGreatDoor.PH Go.Proofs.YtjepodcgbfejgaaGreatDoor.CP
set_option linter.unusedVariables false
set_option linter.unusedSimpArgs false
set_option maxRecDepth 100000 in
set_option maxHeartbeats 2000000 in
theorem name_calls (s : ByteArray) (w : World) (hC : ChW w) (hs : s.size ≤ maxLen) :
    Calls Tryz.prog 21 #[.string s] w fun e w' => e = .returned (.bool (nameB s)) ∧ Below w.heap.size w w' := by
  have HC := Aside0.mk hC
  have HS := Aside0.mk hs
  unfold maxLen at hs
  clear hC
  cases hv : vld s with
  | some p =>
    have hb := nameB_bad hv
    have HBD := Aside0.mk hb
    have hcv := valid_calls s w HC.out HS.out
    rw [hv] at hcv
    have HCV := Aside0.mk hcv
    clear hb hcv hv
    go_enter Tryz.func21, Tryz.ntmps21
    go_wp2_with fail
    refine HCV.out.mono ?_
    rintro e w1 ⟨rfl, hb1⟩
    have HB1 := Aside0.mk hb1
    clear hb1
    unfold vldV
    go_wp2
    go_ret
    exact ⟨by rw [HBD.out]; rfl, HB1.out⟩
  | none =>
    have hcv := valid_calls s w HC.out HS.out
    rw [hv] at hcv
    have HCV := Aside0.mk hcv
    have HV := Aside0.mk hv
    clear hcv hv
    by_cases h0 : s.size = 0
    · have hne := toList_none h0
      have HBD := Aside0.mk (nameB_none h0)
      have H0 := Aside0.mk h0
      clear h0
      go_enter Tryz.func21, Tryz.ntmps21
      go_wp2_with fail
      refine HCV.out.mono ?_
      rintro e w1 ⟨rfl, hb1⟩
      have HB1 := Aside0.mk hb1
      clear hb1
      unfold vldV
      go_wp2
      go_ret
      exact ⟨by rw [HBD.out]; rfl, HB1.out⟩
    · have h0' : 0 < s.size := by omega
      have hne := toList_some h0'
      have HBD := Aside0.mk (nameB_else HV.out h0')
      clear h0
      go_enter Tryz.func21, Tryz.ntmps21
      go_wp2_with fail
      refine HCV.out.mono ?_
      rintro e w1 ⟨rfl, hb1⟩
      have HB1 := Aside0.mk hb1
      clear hb1
      unfold vldV
      go_wp2
      go_loopw [] (fun wr => ∃ (pos f : Nat), wr.heap[w1.heap.size]? = some (.stringIter s pos) ∧ Aside0 (Below w.heap.size w wr) ∧ Aside0 (nmL (decide (pos = 0)) (runesF s f pos) = nmL true (runesL s)) ∧ s.size ≤ pos + f) (fun wr => s.size - wr.iterPos w1.heap.size)
      case atStart => exact ⟨0, s.size, World.iter_heap w1 s 0, ⟨HB1.out.alloc HB1.out.size _⟩, ⟨rfl⟩, by omega⟩
      case round =>
        obtain ⟨pos, f, hit, HB, HN, hf⟩ := hrel
        have HIT := Aside0.mk hit
        have hsz : w1.heap.size < wr.heap.size := (Array.getElem?_eq_some_iff.1 hit).1
        by_cases hp : pos < s.size
        · have hnx : ∀ ty, (Instr.next (.pointer (some ⟨w1.heap.size, 0, none⟩)) true ty).run Tryz.prog wr = _ := fun ty => Lib.run_next_any_at wr w1.heap.size s pos ty hit hp
          have hwd := Lib.decode_width_pos s pos hp
          obtain ⟨g, rfl⟩ : ∃ g, f = g + 1 := ⟨f - 1, by omega⟩
          have HST : Aside0 (runesF s (g + 1) pos = ((Utf8.decode s pos).1 : Int) :: runesF s g (pos + (Utf8.decode s pos).2)) := ⟨by rw [runesF, if_pos hp]⟩
          have HIT2 := Aside0.mk (Lib.iterAt_heap wr w1.heap.size s pos (pos + (Utf8.decode s pos).2) hit)
          have HBW2 := Aside0.mk (Lib.below_iterAt HB.out (k := w1.heap.size) HB1.out.size s (pos + (Utf8.decode s pos).2))
          clear hit
          generalize hW : wr.iterAt w1.heap.size s (pos + (Utf8.decode s pos).2) = W at *
          generalize hR : (Utf8.decode s pos).1 = R at *
          generalize hK : (Utf8.decode s pos).2 = K at *
          have HR0 := Aside0.mk hR
          have HK0 := Aside0.mk hK
          clear hR hK hW
          have hend : ∀ n, Aside0 (nmL false (runesF s g (pos + K)) = nmL true (runesL s)) → (∃ (pos' f' : Nat), (W.drewN n).heap[w1.heap.size]? = some (.stringIter s pos') ∧ Aside0 (Below w.heap.size w (W.drewN n)) ∧ Aside0 (nmL (decide (pos' = 0)) (runesF s f' pos') = nmL true (runesL s)) ∧ s.size ≤ pos' + f') := fun n hh =>
            ⟨pos + K, g, HIT2.out, ⟨pw_below_drewN HBW2.out n⟩, ⟨by rw [decide_eq_false (by omega)]; exact hh.out⟩, by omega⟩
          have HEND := Aside0.mk hend
          clear hend
          by_cases hz : pos = 0
          · have t0 : ((pos : Int) == 0) = true := by simp [hz]
            have HZ := Aside0.mk (decide_eq_true hz)
            clear hz
            cases hn : nst (R : Int) with
            | false =>
              have HNS := Aside0.mk hn
              go_wp2_with ((go_at_call 34; refine (chars_NameStart.calls 12 (R : Int) (nst (R : Int)) _ (start_is _)).mono ?_; rintro e w2 ⟨rfl, hd2⟩; obtain ⟨n2, rfl⟩ := hd2.out; clear hd2))
              go_ret
              have h1 := HN.out
              rw [HST.out, HZ.out, nmL, HNS.out] at h1
              exact ⟨by rw [HBD.out, ← h1]; simp, pw_below_drewN HBW2.out n2⟩
            | true =>
              have HNS := Aside0.mk hn
              cases hc : nch (R : Int) with
              | false =>
                have HNC := Aside0.mk hc
                go_wp2_with (first
                  | (go_at_call 34; refine (chars_NameStart.calls 12 (R : Int) (nst (R : Int)) _ (start_is _)).mono ?_; rintro e w2 ⟨rfl, hd2⟩; obtain ⟨n2, rfl⟩ := hd2.out; clear hd2)
                  | (go_at_call 35; refine (chars_NameChar.calls 12 (R : Int) (nch (R : Int)) _ (nchar_is _)).mono ?_; rintro e w3 ⟨rfl, hd3⟩; obtain ⟨n3, rfl⟩ := hd3.out; clear hd3))
                go_ret
                have h1 := HN.out
                rw [HST.out, nmL, HNC.out] at h1
                exact ⟨by rw [HBD.out, ← h1]; simp, pw_below_drewN HBW2.out _⟩
              | true =>
                have HNC := Aside0.mk hc
                go_wp2_with (first
                  | (go_at_call 34; refine (chars_NameStart.calls 12 (R : Int) (nst (R : Int)) _ (start_is _)).mono ?_; rintro e w2 ⟨rfl, hd2⟩; obtain ⟨n2, rfl⟩ := hd2.out; clear hd2)
                  | (go_at_call 35; refine (chars_NameChar.calls 12 (R : Int) (nch (R : Int)) _ (nchar_is _)).mono ?_; rintro e w3 ⟨rfl, hd3⟩; obtain ⟨n3, rfl⟩ := hd3.out; clear hd3))
                go_roundw
                case rel =>
                  have h1 := HN.out
                  rw [HST.out, nmL, HNC.out, HNS.out] at h1
                  exact HEND.out _ ⟨by rw [← h1]; simp⟩
                case measure =>
                  simp only [World.iterPos, blk_drewN HIT2.out, HIT.out]
                  omega
          · have t0 : ((pos : Int) == 0) = false := by simp [hz]
            have HZ := Aside0.mk (decide_eq_false hz)
            clear hz
            cases hc : nch (R : Int) with
            | false =>
              have HNC := Aside0.mk hc
              go_wp2_with ((go_at_call 35; refine (chars_NameChar.calls 12 (R : Int) (nch (R : Int)) _ (nchar_is _)).mono ?_; rintro e w3 ⟨rfl, hd3⟩; obtain ⟨n3, rfl⟩ := hd3.out; clear hd3))
              go_ret
              have h1 := HN.out
              rw [HST.out, nmL, HNC.out] at h1
              exact ⟨by rw [HBD.out, ← h1]; simp, pw_below_drewN HBW2.out _⟩
            | true =>
              have HNC := Aside0.mk hc
              go_wp2_with ((go_at_call 35; refine (chars_NameChar.calls 12 (R : Int) (nch (R : Int)) _ (nchar_is _)).mono ?_; rintro e w3 ⟨rfl, hd3⟩; obtain ⟨n3, rfl⟩ := hd3.out; clear hd3))
              go_roundw
              case rel =>
                have h1 := HN.out
                rw [HST.out, nmL, HNC.out, HZ.out] at h1
                exact HEND.out _ ⟨by rw [← h1]; simp⟩
              case measure =>
                simp only [World.iterPos, blk_drewN HIT2.out, HIT.out]
                omega
        · have hnx : ∀ ty, (Instr.next (.pointer (some ⟨w1.heap.size, 0, none⟩)) true ty).run Tryz.prog wr = _ := fun ty => Lib.run_next_end_at wr w1.heap.size s pos ty hit hp
          clear hit
          go_wp2
          go_ret
          rw [runesF_end s f pos hp] at HN
          exact ⟨by rw [HBD.out, ← HN.out]; rfl, HB.out⟩
end Go.Proofs.YtjepodcgbfejgaaGreatDoor.Hw
