import Derived.Test.YtjbcdfbgbocblaaDoorShC
import Derived.Test.YtjbcdfbgbocblaaDoorChRv
import Derived.Lib.SlBytesConst
import Derived.Laws.IdiomStrings
/- A sheet's name, walked: the program's and the document's. -/
namespace Go.Proofs.YtjbcdfbgbocblaaDoor.Hw
open Go.RowKit Go.Proofs.YtjbcdfbgbocblaaDoorW.PrintWords Go.Proofs.YtjbcdfbgbocblaaDoorW.PrintLast Go.Proofs.YtjbcdfbgbocblaaDoorW.PrintMore Go.Proofs.YtjbcdfbgbocblaaDoor.PH Go.Proofs.YtjbcdfbgbocblaaDoor.CP
set_option linter.unusedVariables false
set_option linter.unusedSimpArgs false
theorem ixa_calls (s : ByteArray) (w : World) (hv : vld s = none) (hs : s.size ≤ 4000000000) : Calls Tryd.prog 53 #[.string s, .string Qs] w (SignOf (!s.data.toList.all (fun b => !qs.contains b)) w) := by
  by_cases h8 : s.size ≤ 8
  · have h := ixa_short s w h8
    rw [allR_bytes PQ PQ_far s s.size 0 (by omega) (by omega) hv, List.drop_zero, PQ_bytes] at h
    exact h
  · refine (Tryd.strings_IndexAny_long (fun w => by kernel_rfl) s Qs w (by decide) (by omega) (by omega) (by decide) ?_).mono ?_
    · intro j b hb
      have : b ∈ qs := List.mem_of_getElem? hb
      exact qs_low b this
    · rintro e w' ⟨rfl, rfl⟩
      refine ⟨⟨_, rfl, idxAny_all s.data.toList⟩, ?_⟩
      exact ((Below.refl _ w).alloc (Nat.le_refl _) _).alloc (by simp) _
set_option maxHeartbeats 1000000 in
theorem cont_calls (s : ByteArray) (w : World) (hv : vld s = none) (hs : s.size ≤ 4000000000) : Calls Tryd.prog 44 #[.string s, .string Qs] w fun e w' => e = .returned (.bool (!s.data.toList.all (fun b => !qs.contains b))) ∧ Below w.heap.size w w' := by
  have H := Aside0.mk (ixa_calls s w hv hs)
  clear hv
  generalize (!s.data.toList.all (fun b => !qs.contains b)) = b at *
  go_enter Tryd.func44, Tryd.ntmps44
  go_wp2_with fail
  refine H.out.mono ?_
  rintro e w1 ⟨⟨v, rfl, hv⟩, hb⟩
  have HB := Aside0.mk hb
  have HV := Aside0.mk hv
  clear hb hv
  go_wp2
  go_ret
  exact ⟨by rw [← HV.out]; rfl, HB.out⟩
/-- What is asked of a character of a sheet's name besides. -/
def P32 (r : Int) : Bool := decide (32 ≤ r)
theorem P32_bytes (l : List UInt8) : l.all (fun b => decide (128 ≤ b.toNat) || P32 (b.toNat : Int)) = l.all (fun b => decide (32 ≤ b.toNat)) := by
  congr 1
  funext b
  unfold P32
  by_cases h : 128 ≤ b.toNat
  · rw [decide_eq_true h, Bool.true_or]; symm; exact decide_eq_true (by omega)
  · rw [decide_eq_false h, Bool.false_or]
    congr 1
    exact propext ⟨fun h => by omega, fun h => by omega⟩
theorem all_and (l : List UInt8) (p q : UInt8 → Bool) : l.all (fun b => p b && q b) = (l.all p && l.all q) := by
  induction l with
  | nil => rfl
  | cons b l ih => simp only [List.all_cons, ih]; cases p b <;> cases q b <;> cases l.all p <;> cases l.all q <;> rfl
theorem nmOK_bad {s : ByteArray} {p : Nat} (h : vld s = some p) : nmOK s = false := by unfold nmOK; rw [h]; rfl
theorem nmOK_none {s : ByteArray} (h : s.size = 0) : nmOK s = false := by unfold nmOK; rw [h]; simp
theorem nmOK_long {s : ByteArray} (h : ¬ s.size ≤ 64) : nmOK s = false := by unfold nmOK; rw [decide_eq_false h]; simp
theorem nmOK_else {s : ByteArray} (h : vld s = none) (h0 : 0 < s.size) (h1 : s.size ≤ 64) : nmOK s = (s.data.toList.all (fun b => !qs.contains b) && allR P32 s s.size 0) := by
  unfold nmOK
  rw [h, decide_eq_true h0, decide_eq_true h1, all_and, allR_bytes P32 (fun r hr => decide_eq_true (by omega)) s s.size 0 (by omega) (by omega) h, List.drop_zero, P32_bytes]
  rfl
set_option maxRecDepth 100000 in
set_option maxHeartbeats 4000000 in
theorem sheet_calls (s : ByteArray) (w : World) (hC : ChW w) (hs : s.size ≤ maxLen) :
    Calls Tryd.prog 32 #[.string s] w fun e w' => e = .returned (.bool (nmOK s)) ∧ Below w.heap.size w w' := by
  have hcv := valid_calls s w hC hs
  unfold maxLen at hs
  have HC := Aside0.mk hC
  clear hC
  cases hv : vld s with
  | some p =>
    rw [hv] at hcv
    have HCV := Aside0.mk hcv
    have HBD := Aside0.mk (nmOK_bad hv)
    clear hcv hv
    go_enter Tryd.func32, Tryd.ntmps32
    go_wp2_with fail
    refine HCV.out.mono ?_
    rintro e w1 ⟨rfl, hb1⟩
    have HB1 := Aside0.mk hb1
    clear hb1
    unfold vldV
    go_wp2
    go_ret
    exact ⟨by rw [HBD.out]; rfl, HB1.out⟩
  | none =>
    rw [hv] at hcv
    have HCV := Aside0.mk hcv
    have HV := Aside0.mk hv
    clear hcv hv
    by_cases h0 : s.size < 1
    · have HBD := Aside0.mk (nmOK_none (s := s) (by omega))
      go_enter Tryd.func32, Tryd.ntmps32
      go_wp2_with fail
      refine HCV.out.mono ?_
      rintro e w1 ⟨rfl, hb1⟩
      have HB1 := Aside0.mk hb1
      clear hb1
      unfold vldV
      go_wp2
      go_ret
      exact ⟨by rw [HBD.out]; rfl, HB1.out⟩
    · by_cases h1 : s.size ≤ 64
      · have HBD := Aside0.mk (nmOK_else HV.out (by omega) h1)
        have hcc := fun w => cont_calls s w HV.out (by omega)
        cases hq : s.data.toList.all (fun b => !qs.contains b) with
        | false =>
          rw [hq] at hcc HBD
          have HCC := Aside0.mk hcc
          clear hcc hq
          go_enter Tryd.func32, Tryd.ntmps32
          go_wp2_with fail
          refine HCV.out.mono ?_
          rintro e w1 ⟨rfl, hb1⟩
          have HB1 := Aside0.mk hb1
          clear hb1
          unfold vldV
          go_wp2_with (go_at_call 44; refine (HCC.out _).mono ?_; rintro e w2 ⟨rfl, hb2⟩; have HB2 := Aside0.mk (HB1.out.trans (hb2.mono HB1.out.size)); clear hb2)
          go_ret
          exact ⟨by rw [HBD.out]; rfl, HB2.out⟩
        | true =>
          rw [hq] at hcc HBD
          rw [Bool.true_and] at HBD
          have HCC := Aside0.mk hcc
          clear hcc hq
          go_enter Tryd.func32, Tryd.ntmps32
          go_wp2_with fail
          refine HCV.out.mono ?_
          rintro e w1 ⟨rfl, hb1⟩
          have HB1 := Aside0.mk hb1
          clear hb1
          unfold vldV
          go_wp2_with (go_at_call 44; refine (HCC.out _).mono ?_; rintro e w2 ⟨rfl, hb2⟩; have HB2 := Aside0.mk (HB1.out.trans (hb2.mono HB1.out.size)); clear hb2)
          go_loopw [] (fun wr => ∃ (pos f : Nat), wr.heap[w2.heap.size]? = some (.stringIter s pos) ∧ Aside0 (Below w.heap.size w wr) ∧ Aside0 (allR P32 s f pos = allR P32 s s.size 0) ∧ s.size ≤ pos + f) (fun wr => s.size - wr.iterPos w2.heap.size)
          case atStart => exact ⟨0, s.size, World.iter_heap w2 s 0, ⟨HB2.out.alloc HB2.out.size _⟩, ⟨rfl⟩, by omega⟩
          case round =>
            obtain ⟨pos, f, hit, HB, HN, hf⟩ := hrel
            have HIT := Aside0.mk hit
            have hsz : w2.heap.size < wr.heap.size := (Array.getElem?_eq_some_iff.1 hit).1
            by_cases hp : pos < s.size
            · have hnx : ∀ ty, (Instr.next (.pointer (some ⟨w2.heap.size, 0, none⟩)) true ty).run Tryd.prog wr = _ := fun ty => Lib.run_next_any_at wr w2.heap.size s pos ty hit hp
              have hwd := Lib.decode_width_pos s pos hp
              obtain ⟨g, rfl, hst, hg⟩ := allR_step P32 s f pos hp hf
              have HST := Aside0.mk hst
              have HIT2 := Aside0.mk (Lib.iterAt_heap wr w2.heap.size s pos (pos + (Utf8.decode s pos).2) hit)
              have HBW2 := Aside0.mk (Lib.below_iterAt HB.out (k := w2.heap.size) HB2.out.size s (pos + (Utf8.decode s pos).2))
              clear hit hst
              generalize hW : wr.iterAt w2.heap.size s (pos + (Utf8.decode s pos).2) = W at *
              generalize hR : (Utf8.decode s pos).1 = R at *
              generalize hK : (Utf8.decode s pos).2 = K at *
              have HR0 := Aside0.mk hR
              have HK0 := Aside0.mk hK
              clear hR hK hW
              by_cases h32 : (R : Int) < 32
              · have t1 : decide ((R : Int) < 32) = true := decide_eq_true h32
                have h3 : P32 (R : Int) = false := decide_eq_false (by omega)
                have H3 := Aside0.mk h3
                clear h3
                go_wp2
                go_ret
                have h4 := HST.out
                rw [H3.out, Bool.false_and, HN.out] at h4
                exact ⟨by rw [HBD.out, h4]; rfl, HBW2.out⟩
              · have t1 : decide ((R : Int) < 32) = false := decide_eq_false h32
                have h3 : P32 (R : Int) = true := decide_eq_true (by omega)
                have H3 := Aside0.mk h3
                clear h3
                go_wp2
                go_roundw
                case rel =>
                  have h4 := HST.out
                  rw [H3.out, Bool.true_and, HN.out] at h4
                  exact ⟨pos + K, g, HIT2.out, HBW2, ⟨h4.symm⟩, hg⟩
                case measure =>
                  simp only [World.iterPos, HIT2.out, HIT.out]
                  omega
            · have hnx : ∀ ty, (Instr.next (.pointer (some ⟨w2.heap.size, 0, none⟩)) true ty).run Tryd.prog wr = _ := fun ty => Lib.run_next_end_at wr w2.heap.size s pos ty hit hp
              clear hit
              go_wp2
              go_ret
              exact ⟨by rw [HBD.out, ← HN.out, allR_end P32 s f pos hp]; rfl, HB.out⟩
      · have HBD := Aside0.mk (nmOK_long h1)
        have h1' : 64 < s.size := by omega
        go_enter Tryd.func32, Tryd.ntmps32
        go_wp2_with fail
        refine HCV.out.mono ?_
        rintro e w1 ⟨rfl, hb1⟩
        have HB1 := Aside0.mk hb1
        clear hb1
        unfold vldV
        go_wp2
        go_ret
        exact ⟨by rw [HBD.out]; rfl, HB1.out⟩
set_option maxRecDepth 100000 in
set_option maxHeartbeats 4000000 in
theorem rsheet_calls (s : ByteArray) (w : World) (hC : ChW w) (hs : s.size ≤ maxLen) :
    Calls Tryd.prog 34 #[.string s] w fun e w' => e = .returned (.bool (nmOK s)) ∧ Below w.heap.size w w' := by
  have hcv := rvalid_calls s w hC hs
  unfold maxLen at hs
  have HC := Aside0.mk hC
  clear hC
  cases hv : vld s with
  | some p =>
    rw [hv] at hcv
    have HCV := Aside0.mk hcv
    have HBD := Aside0.mk (nmOK_bad hv)
    clear hcv hv
    go_enter Tryd.func34, Tryd.ntmps34
    go_wp2_with fail
    refine HCV.out.mono ?_
    rintro e w1 ⟨rfl, hb1⟩
    have HB1 := Aside0.mk hb1
    clear hb1
    unfold vldV
    go_wp2
    go_ret
    exact ⟨by rw [HBD.out]; rfl, HB1.out⟩
  | none =>
    rw [hv] at hcv
    have HCV := Aside0.mk hcv
    have HV := Aside0.mk hv
    clear hcv hv
    by_cases h0 : s.size = 0
    · have hne := toList_none h0
      have HBD := Aside0.mk (nmOK_none h0)
      have H0 := Aside0.mk h0
      clear h0
      go_enter Tryd.func34, Tryd.ntmps34
      go_wp2_with fail
      refine HCV.out.mono ?_
      rintro e w1 ⟨rfl, hb1⟩
      have HB1 := Aside0.mk hb1
      clear hb1
      unfold vldV
      go_wp2
      go_ret
      exact ⟨by rw [HBD.out]; rfl, HB1.out⟩
    · have hne := toList_some (s := s) (by omega)
      by_cases h1 : s.size ≤ 64
      · have hkc := fun (w : World) (C : Array Value) (n c : Nat) => Lib.run_convert_bytes_const (P := Tryd.prog) w 47 5 C n c Tryd.underlying47 Tryd.underlying5
        go_enter Tryd.func34, Tryd.ntmps34
        go_wp2_with fail
        refine HCV.out.mono ?_
        rintro e w1 ⟨rfl, hb1⟩
        have HB1 := Aside0.mk hb1
        clear hb1
        unfold vldV
        have h1' : decide ((64 : Int) < (s.size : Int)) = false := decide_eq_false (by omega)
        have HBD : Aside0 (nmOK s = s.data.toList.all (fun b => !qs.contains b && decide (32 ≤ b.toNat))) := ⟨by unfold nmOK; rw [HV.out, decide_eq_true (by omega), decide_eq_true h1]; rfl⟩
        go_wp2
        go_loopw [5] (fun i wr => ∃ k : Nat, k ≤ s.size ∧ i = .int .i64 k ∧ Aside0 (Below w.heap.size w wr) ∧ Aside0 ((s.data.toList.drop k).all (fun b => !qs.contains b && decide (32 ≤ b.toNat)) = s.data.toList.all (fun b => !qs.contains b && decide (32 ≤ b.toNat)))) (fun i _ => s.size - (intOf i).toNat)
        case atStart => exact ⟨0, by omega, rfl, HB1, ⟨rfl⟩⟩
        case round =>
          obtain ⟨k, hk, rfl, HB, HN⟩ := hrel
          by_cases hlt : k < s.size
          · have HST : Aside0 ((s.data.toList.drop k).all (fun b => !qs.contains b && decide (32 ≤ b.toNat)) = ((!qs.contains s[k] && decide (32 ≤ s[k].toNat)) && (s.data.toList.drop (k + 1)).all (fun b => !qs.contains b && decide (32 ≤ b.toNat)))) := ⟨by rw [drop_byte s k hlt, List.all_cons]⟩
            generalize hx : s[k] = x at *
            have hsx : s[k] = x := hx
            clear hx
            go_wp2
            have HBW : Aside0 (∀ o : Obj, Below w.heap.size w (wr.alloc o)) := ⟨fun o => HB.out.alloc HB.out.size o⟩
            have HCELL : Aside0 (∀ (fr : Nat × Nat) n, (hn : n < 8) → (wr.alloc (.cells #[.int .u8 91, .int .u8 93, .int .u8 42, .int .u8 63, .int .u8 58, .int .u8 47, .int .u8 92, .int .u8 39] 5 fr)).cell? ⟨wr.heap.size, n, none⟩ = some (.int .u8 ((qs[n]'(by simpa [qs] using hn)).toNat : Int))) := ⟨fun fr n hn => by
              rw [World.cell?_alloc_mark]
              have h8 : n = 0 ∨ n = 1 ∨ n = 2 ∨ n = 3 ∨ n = 4 ∨ n = 5 ∨ n = 6 ∨ n = 7 := by omega
              rcases h8 with rfl | rfl | rfl | rfl | rfl | rfl | rfl | rfl <;> rfl⟩
            go_loopw [33] (fun j w3 => ∃ n : Nat, n ≤ 8 ∧ j = .int .i64 n ∧ w3 = wr.alloc (.cells #[.int .u8 91, .int .u8 93, .int .u8 42, .int .u8 63, .int .u8 58, .int .u8 47, .int .u8 92, .int .u8 39] 5 (8, 9)) ∧ Aside0 (∀ i, (hi : i < 8) → i < n → qs[i]'(by simpa [qs] using hi) ≠ x)) (fun j _ => 8 - (intOf j).toNat)
            case atStart => exact ⟨0, by omega, rfl, rfl, ⟨fun i _ hi => by omega⟩⟩
            case round =>
              obtain ⟨n, hn8, rfl, rfl, HNO⟩ := hrel
              by_cases hn : n < 8
              · have hcl := HCELL.out (8, 9) n hn
                have HY : Aside0 (∀ y, qs[n]'(by simpa [qs] using hn) = y → y ∈ qs) := ⟨fun y hy => by rw [← hy]; exact List.getElem_mem _⟩
                have HNX : Aside0 (qs[n]'(by simpa [qs] using hn) ≠ x → ∀ i, (hi : i < 8) → i < n + 1 → qs[i]'(by simpa [qs] using hi) ≠ x) := ⟨fun hne i hi hin => by
                  by_cases e : i = n
                  · subst e; exact hne
                  · exact HNO.out i hi (by omega)⟩
                generalize hyy : qs[n]'(by simpa [qs] using hn) = y at *
                have HYM := Aside0.mk (HY.out y rfl)
                clear hyy
                by_cases he : y = x
                · have t1 : ((x.toNat : Int) == (y.toNat : Int)) = true := by rw [he]; simp
                  have t2 : (x.toNat == y.toNat) = true := by rw [he]; simp
                  have HE := Aside0.mk he
                  clear he
                  go_wp2
                  go_ret
                  have h4 := HST.out
                  have h5 : qs.contains x = true := by rw [← HE.out]; simpa using HYM.out
                  rw [h5, HN.out] at h4
                  exact ⟨by rw [HBD.out, h4]; rfl, HBW.out _⟩
                · have hne : ¬ x.toNat = y.toNat := fun e => he (UInt8.toNat_inj.1 e.symm)
                  have t1 : ((x.toNat : Int) == (y.toNat : Int)) = false := by simp; omega
                  have t2 : (x.toNat == y.toNat) = false := by simp [hne]
                  have HE := Aside0.mk (HNX.out he)
                  clear he hne
                  go_wp2
                  go_roundw
                  case rel => exact ⟨n + 1, by omega, by go_num, by first | rfl | trivial, HE⟩
                  case measure =>
                    simp only [intOf]
                    omega
              · have h5 : qs.contains x = false := by
                  cases hc : qs.contains x with
                  | false => rfl
                  | true =>
                    obtain ⟨i, hi, he⟩ := List.getElem_of_mem (show x ∈ qs by simpa using hc)
                    exact absurd he (HNO.out i (by simpa [qs] using hi) (by have : i < 8 := by simpa [qs] using hi
                                                                            omega))
                have H5 := Aside0.mk h5
                clear h5
                by_cases h32 : (x.toNat : Int) < 32
                · have t1 : decide ((x.toNat : Int) < 32) = true := decide_eq_true h32
                  have t3 : decide (32 ≤ x.toNat) = false := decide_eq_false (by omega)
                  have H3 := Aside0.mk t3
                  clear t3
                  go_wp2
                  go_ret
                  have h4 := HST.out
                  rw [H5.out, H3.out, HN.out] at h4
                  exact ⟨by rw [HBD.out, h4]; rfl, HBW.out _⟩
                · have t1 : decide ((x.toNat : Int) < 32) = false := decide_eq_false h32
                  have t3 : decide (32 ≤ x.toNat) = true := decide_eq_true (by omega)
                  have H3 := Aside0.mk t3
                  clear t3
                  go_wp2
                  go_roundw
                  case rel =>
                    have h4 := HST.out
                    rw [H5.out, H3.out, HN.out] at h4
                    exact ⟨k + 1, by omega, by go_num, ⟨HBW.out _⟩, ⟨h4.symm⟩⟩
                  case measure =>
                    simp only [intOf]
                    omega
          · go_wp2
            go_ret
            have hz := Lib.size_eq s
            have h4 := HN.out
            rw [List.drop_eq_nil_of_le (by omega)] at h4
            exact ⟨by rw [HBD.out, ← h4]; rfl, HB.out⟩
      · have HBD := Aside0.mk (nmOK_long h1)
        have h1' : 64 < s.size := by omega
        go_enter Tryd.func34, Tryd.ntmps34
        go_wp2_with fail
        refine HCV.out.mono ?_
        rintro e w1 ⟨rfl, hb1⟩
        have HB1 := Aside0.mk hb1
        clear hb1
        unfold vldV
        go_wp2
        go_ret
        exact ⟨by rw [HBD.out]; rfl, HB1.out⟩
end Go.Proofs.YtjbcdfbgbocblaaDoor.Hw
