import Derived.Test.YtjbckpfhenogiaaFs
/- The document's Stored, walked. -/
namespace Go.Proofs.Ytjbckpfhenogiaa.Hw
open Go.RowKit Go.Proofs.YtjbckpfhenogiaaW.PrintWords Go.Proofs.YtjbckpfhenogiaaW.PrintLast Go.Proofs.YtjbckpfhenogiaaW.PrintMore Go.Proofs.Ytjbckpfhenogiaa.PH
set_option linter.unusedVariables false
set_option linter.unusedSimpArgs false
attribute [local go_sem] max2_int min2_int
theorem hdB_int (n : Nat) (h : n ≤ 65535) : hdB n 1 = [1, (n : Int) % 256, (n : Int) / 256, 255 - (n : Int) % 256, 255 - (n : Int) / 256] := by
  unfold hdB
  have e1 : ((n % 256 : Nat) : Int) = (n : Int) % 256 := by omega
  have e2 : ((n / 256 : Nat) : Int) = (n : Int) / 256 := by omega
  have e3 : ((255 - n % 256 : Nat) : Int) = 255 - (n : Int) % 256 := by omega
  have e4 : ((255 - n / 256 : Nat) : Int) = 255 - (n : Int) / 256 := by omega
  rw [e1, e2, e3, e4]; rfl
theorem hdB_more : hdB 65535 0 = [0, 255, 255, 0, 0] := by decide
/-- Between two rounds of the document's Stored. -/
def RtS (w wr : World) (bs : List Int) (k : Nat) (v : Value) (acc : List Int) : Prop :=
  Kd.R (Kd.int .u8) 5 wr w.heap.size (fun _ => True) v acc ∧ Below w.heap.size w wr ∧ acc ++ storedL (bs.drop k) = storedL bs
set_option maxRecDepth 100000 in
set_option maxHeartbeats 4000000 in
theorem rstored_calls (A0 : Option Addr) (c0 : Nat) (bs : List Int) (w : World) (hr0 : Kd.C (Kd.int .u8) w A0 bs.length bs) (hc0 : bs.length ≤ c0) (hb : IsBytes bs) (hl : bs.length ≤ 1048576) :
    Calls Try.prog 11 #[.slice A0 bs.length c0] w fun e w' => ∃ u, e = .returned u ∧ Kd.R (Kd.int .u8) 5 w' w.heap.size (fun _ => True) u (storedL bs) ∧ Below w.heap.size w w' := by
  have HR := Aside0.mk hr0
  have HB := Aside0.mk hb
  have HC := Aside0.mk hc0
  have HL := Aside0.mk hl
  have HS0 : Aside0 (RtS w w bs 0 (.slice none 0 0) []) := ⟨Kd.R_nil _ _ _ _ _, Below.refl _ _, by simp⟩
  clear hr0 hb hc0 hl
  go_enter Try.func11, Try.ntmps11
  go_wp2
  go_loopw [0, 3] (fun b o wr => ∃ (k : Nat) (A : Option Addr) (c : Nat) (Ao : Option Addr) (co : Nat) (acc : List Int), k ≤ bs.length ∧ b = .slice A (bs.length - k) c ∧ bs.length - k ≤ c ∧ o = .slice Ao acc.length co ∧ Aside0 (Kd.C (Kd.int .u8) w A (bs.drop k).length (bs.drop k)) ∧ Aside0 (RtS w wr bs k (.slice Ao acc.length co) acc)) (fun b _ _ => lenOf b)
  case atStart => exact ⟨0, A0, c0, none, 0, [], Nat.zero_le _, rfl, by have := HC.out; omega, rfl, ⟨by simpa using HR.out⟩, HS0⟩
  case round =>
    obtain ⟨k, A, c, Ao, co, acc, hk, rfl, hcc, rfl, HA, HS⟩ := hrel
    have hl := HL.out
    have hdl : (bs.drop k).length = bs.length - k := List.length_drop
    obtain ⟨n, hn⟩ : ∃ n, n = bs.length - k := ⟨_, rfl⟩
    rw [← hn] at hcc hdl ⊢
    rw [hdl] at HA
    obtain ⟨hv, hbw, hacc⟩ := HS.out
    have HW := Aside0.mk hv
    have HBW := Aside0.mk hbw
    have HAC := Aside0.mk hacc
    have HSZ : Aside0 (acc.length ≤ 6 * bs.length + 5) := ⟨by
      have h1 := congrArg List.length hacc
      rw [List.length_append] at h1
      have h2 := stored_length bs
      omega⟩
    have HD := Aside0.mk hdl
    have HN := Aside0.mk hn
    have HLE := Aside0.mk (hbw.size)
    have hsz := HSZ.out
    clear hv hbw hacc HS hn hdl hk
    by_cases hle : n ≤ 65535
    · have hnb : n ≤ bs.length := by have := HN.out; omega
      have m1 : min (n : Int) 65535 = n := by omega
      have HMN : Aside0 (n ≤ n ∧ n ≤ 65535) := ⟨Nat.le_refl _, hle⟩
      have HTOT : Aside0 (acc.length + 8 + n ≤ 16777216) := ⟨by omega⟩
      obtain ⟨i5, hi5, hsz5⟩ := infoS1
      have hcutT := cut_to (P := Try.prog) 22 5 .i64 Try.underlying22 hi5 A n c (n : Int) (by omega) (by omega) hcc
      have hcutF := cut_from (P := Try.prog) 22 5 .i64 Try.underlying22 hi5 1 hsz5 A n c (n : Int) (by omega) (by omega)
      rw [Int.toNat_natCast] at hcutT hcutF
      have HC0 : Aside0 (Kd.C (Kd.int .u8) w A (bs.drop k).length (bs.drop k)) := ⟨by rw [HD.out]; exact HA.out⟩
      have HT := Aside0.mk (Kd.C_take (m := n) HC0.out (by rw [HD.out]; omega))
      have HF := Aside0.mk (Kd.C_drop (m := n) HC0.out (by rw [HD.out]; omega) (by rw [HD.out]; exact hcc))
      rw [show Kd.sz (Kd.int .u8) = 1 from rfl] at HF
      have HLT : Aside0 (((bs.drop k).take n).length = n) := ⟨by rw [List.length_take, HD.out]; omega⟩
      have HLD : Aside0 (((bs.drop k).drop n).length = n - n) := ⟨by rw [List.length_drop, HD.out]⟩
      rw [HLT.out] at HT
      rw [HLD.out] at HF
      obtain ⟨r, hr⟩ : ∃ r, r = n - n := ⟨_, rfl⟩
      rw [← hr] at hcutF HF
      have HRR := Aside0.mk hr
      obtain ⟨AD, hAD⟩ : ∃ AD, AD = (if c = n then A else A.map (·.add (n * 1))) := ⟨_, rfl⟩
      rw [← hAD] at hcutF HF
      have HO1 : Aside0 (Kd.R (Kd.int .u8) 5 (wr.alloc (.cells #[Value.int .u8 (1), Value.int .u8 ((n : Int) % 256), Value.int .u8 ((n : Int) / 256), Value.int .u8 (255 - (n : Int) % 256), Value.int .u8 (255 - (n : Int) / 256)] 5)) w.heap.size (fun _ => True) (.slice Ao acc.length co) acc) := ⟨Kd.R_below HW.out ((Below.refl _ _).alloc (Nat.le_refl _) _)⟩
      have HC1 : Aside0 (Kd.C (Kd.int .u8) (wr.alloc (.cells #[Value.int .u8 (1), Value.int .u8 ((n : Int) % 256), Value.int .u8 ((n : Int) / 256), Value.int .u8 (255 - (n : Int) % 256), Value.int .u8 (255 - (n : Int) / 256)] 5)) (some ⟨wr.heap.size, 0, none⟩) 5 [1, (n : Int) % 256, (n : Int) / 256, 255 - (n : Int) % 256, 255 - (n : Int) / 256]) := ⟨(Arr.new wr 5 .u8 [1, (n : Int) % 256, (n : Int) / 256, 255 - (n : Int) % 256, 255 - (n : Int) / 256]).reads (by show 5 ≤ _; decide)⟩
      have HB1 : Aside0 (Below w.heap.size w (wr.alloc (.cells #[Value.int .u8 (1), Value.int .u8 ((n : Int) % 256), Value.int .u8 ((n : Int) / 256), Value.int .u8 (255 - (n : Int) % 256), Value.int .u8 (255 - (n : Int) / 256)] 5))) := ⟨HBW.out.alloc HLE.out _⟩
      have HL1 : Aside0 ((acc ++ ([1, (n : Int) % 256, (n : Int) / 256, 255 - (n : Int) % 256, 255 - (n : Int) / 256] : List Int)).length = acc.length + 5) := ⟨by rw [List.length_append]; rfl⟩
      have HL2 : Aside0 ((acc ++ ([1, (n : Int) % 256, (n : Int) / 256, 255 - (n : Int) % 256, 255 - (n : Int) / 256] : List Int) ++ (bs.drop k).take n).length = acc.length + 5 + n) := ⟨by rw [List.length_append, HL1.out, HLT.out]⟩
      clear hAD hi5 hsz5 hr hsz hl hnb HC0
      go_wp2_with (first
        | (refine Kd.R_append_row (Value.int .u8) 0 (w0 := w) w.heap.size rfl _ _ 22 5 (.int .u8 0) 1 rfl Try.underlying22 infoB8 rfl (by decide) (.slice Ao acc.length co) acc [1, (n : Int) % 256, (n : Int) / 256, 255 - (n : Int) % 256, 255 - (n : Int) / 256] (some ⟨wr.heap.size, 0, none⟩) 5 5 (fun _ => True) rfl rfl (fun _ _ => trivial) HO1.out HC1.out HB1.out HB1.out.size (by have := HTOT.out; omega) ?_; intro v1 w1 hv1 hb1 hg1 hat1; obtain ⟨A1, c1, rfl, hc1, _⟩ := Kd.R_reads hv1; rw [HL1.out] at hv1 hc1 ⊢; have HV1 := Aside0.mk hv1; have HB2 := Aside0.mk hb1; have HC2 : Aside0 (Kd.C (Kd.int .u8) w1 A n ((bs.drop k).take n)) := ⟨Kd.C_below HT.out hb1⟩; clear hv1 hb1 hg1 hat1 hc1 HO1 HC1 HB1)
        | (refine Kd.R_append_row (Value.int .u8) 0 (w0 := w) w.heap.size rfl _ _ 22 5 (.int .u8 0) 1 rfl Try.underlying22 infoB8 rfl (by decide) (.slice A1 (acc.length + 5) c1) (acc ++ [1, (n : Int) % 256, (n : Int) / 256, 255 - (n : Int) % 256, 255 - (n : Int) / 256]) ((bs.drop k).take n) A n c (fun _ => True) rfl rfl (fun _ _ => trivial) HV1.out HC2.out HB2.out HB2.out.size (by rw [HL1.out]; have := HTOT.out; omega) ?_; intro v2 w2 hv2 hb2 hg2 hat2; obtain ⟨A2, c2, rfl, hc2, _⟩ := Kd.R_reads hv2; rw [HL2.out] at hv2 hc2 ⊢; have HV2 := Aside0.mk hv2; have HB3 := Aside0.mk hb2; clear hv2 hb2 hg2 hat2 hc2 HV1 HB2 HC2))
      have HAA : Aside0 (acc ++ [1, (n : Int) % 256, (n : Int) / 256, 255 - (n : Int) % 256, 255 - (n : Int) / 256] ++ (bs.drop k).take n = storedL bs) := ⟨by
        have h := HAC.out
        rw [stored_last (by rw [HD.out]; exact HMN.out.2), HD.out, hdB_int n HMN.out.2] at h
        rw [List.take_of_length_le (by rw [HD.out]; exact Nat.le_refl _), List.append_assoc]; exact h⟩
      rw [HAA.out] at HV2
      go_ret
      exact ⟨_, rfl, HV2.out, HB3.out⟩
    · have hnb : n ≤ bs.length := by have := HN.out; omega
      have m1 : min (n : Int) 65535 = 65535 := by omega
      have t1 : ((65535 : Int) == (n : Int)) = false := by simp; omega
      have t2 : ((n : Int) == 65535) = false := by simp; omega
      have HMN : Aside0 (65535 ≤ n ∧ ¬ n ≤ 65535) := ⟨by omega, hle⟩
      have HTOT : Aside0 (acc.length + 8 + n ≤ 16777216) := ⟨by omega⟩
      obtain ⟨i5, hi5, hsz5⟩ := infoS1
      have hcutT := cut_to (P := Try.prog) 22 5 .i64 Try.underlying22 hi5 A n c (65535 : Int) (by omega) (by omega) hcc
      have hcutF := cut_from (P := Try.prog) 22 5 .i64 Try.underlying22 hi5 1 hsz5 A n c (65535 : Int) (by omega) (by omega)
      rw [show (65535 : Int).toNat = 65535 from rfl] at hcutT hcutF
      have HC0 : Aside0 (Kd.C (Kd.int .u8) w A (bs.drop k).length (bs.drop k)) := ⟨by rw [HD.out]; exact HA.out⟩
      have HT := Aside0.mk (Kd.C_take (m := 65535) HC0.out (by rw [HD.out]; omega))
      have HF := Aside0.mk (Kd.C_drop (m := 65535) HC0.out (by rw [HD.out]; omega) (by rw [HD.out]; exact hcc))
      rw [show Kd.sz (Kd.int .u8) = 1 from rfl] at HF
      have HLT : Aside0 (((bs.drop k).take 65535).length = 65535) := ⟨by rw [List.length_take, HD.out]; omega⟩
      have HLD : Aside0 (((bs.drop k).drop 65535).length = n - 65535) := ⟨by rw [List.length_drop, HD.out]⟩
      rw [HLT.out] at HT
      rw [HLD.out] at HF
      obtain ⟨r, hr⟩ : ∃ r, r = n - 65535 := ⟨_, rfl⟩
      rw [← hr] at hcutF HF
      have HRR := Aside0.mk hr
      obtain ⟨AD, hAD⟩ : ∃ AD, AD = (if c = 65535 then A else A.map (·.add (65535 * 1))) := ⟨_, rfl⟩
      rw [← hAD] at hcutF HF
      have HO1 : Aside0 (Kd.R (Kd.int .u8) 5 (wr.alloc (.cells #[Value.int .u8 (0), Value.int .u8 (255), Value.int .u8 (255), Value.int .u8 (0), Value.int .u8 (0)] 5)) w.heap.size (fun _ => True) (.slice Ao acc.length co) acc) := ⟨Kd.R_below HW.out ((Below.refl _ _).alloc (Nat.le_refl _) _)⟩
      have HC1 : Aside0 (Kd.C (Kd.int .u8) (wr.alloc (.cells #[Value.int .u8 (0), Value.int .u8 (255), Value.int .u8 (255), Value.int .u8 (0), Value.int .u8 (0)] 5)) (some ⟨wr.heap.size, 0, none⟩) 5 [0, 255, 255, 0, 0]) := ⟨(Arr.new wr 5 .u8 [0, 255, 255, 0, 0]).reads (by show 5 ≤ _; decide)⟩
      have HB1 : Aside0 (Below w.heap.size w (wr.alloc (.cells #[Value.int .u8 (0), Value.int .u8 (255), Value.int .u8 (255), Value.int .u8 (0), Value.int .u8 (0)] 5))) := ⟨HBW.out.alloc HLE.out _⟩
      have HL1 : Aside0 ((acc ++ ([0, 255, 255, 0, 0] : List Int)).length = acc.length + 5) := ⟨by rw [List.length_append]; rfl⟩
      have HL2 : Aside0 ((acc ++ ([0, 255, 255, 0, 0] : List Int) ++ (bs.drop k).take 65535).length = acc.length + 5 + 65535) := ⟨by rw [List.length_append, HL1.out, HLT.out]⟩
      clear hAD hi5 hsz5 hr hsz hl hnb HC0
      go_wp2_with (first
        | (refine Kd.R_append_row (Value.int .u8) 0 (w0 := w) w.heap.size rfl _ _ 22 5 (.int .u8 0) 1 rfl Try.underlying22 infoB8 rfl (by decide) (.slice Ao acc.length co) acc [0, 255, 255, 0, 0] (some ⟨wr.heap.size, 0, none⟩) 5 5 (fun _ => True) rfl rfl (fun _ _ => trivial) HO1.out HC1.out HB1.out HB1.out.size (by have := HTOT.out; omega) ?_; intro v1 w1 hv1 hb1 hg1 hat1; obtain ⟨A1, c1, rfl, hc1, _⟩ := Kd.R_reads hv1; rw [HL1.out] at hv1 hc1 ⊢; have HV1 := Aside0.mk hv1; have HB2 := Aside0.mk hb1; have HC2 : Aside0 (Kd.C (Kd.int .u8) w1 A 65535 ((bs.drop k).take 65535)) := ⟨Kd.C_below HT.out hb1⟩; clear hv1 hb1 hg1 hat1 hc1 HO1 HC1 HB1)
        | (refine Kd.R_append_row (Value.int .u8) 0 (w0 := w) w.heap.size rfl _ _ 22 5 (.int .u8 0) 1 rfl Try.underlying22 infoB8 rfl (by decide) (.slice A1 (acc.length + 5) c1) (acc ++ [0, 255, 255, 0, 0]) ((bs.drop k).take 65535) A 65535 c (fun _ => True) rfl rfl (fun _ _ => trivial) HV1.out HC2.out HB2.out HB2.out.size (by rw [HL1.out]; have := HTOT.out; omega) ?_; intro v2 w2 hv2 hb2 hg2 hat2; obtain ⟨A2, c2, rfl, hc2, _⟩ := Kd.R_reads hv2; rw [HL2.out] at hv2 hc2 ⊢; have HV2 := Aside0.mk hv2; have HB3 := Aside0.mk hb2; clear hv2 hb2 hg2 hat2 hc2 HV1 HB2 HC2))
      have HAA : Aside0 (acc ++ [0, 255, 255, 0, 0] ++ (bs.drop k).take 65535 ++ storedL (bs.drop (k + 65535)) = storedL bs) := ⟨by
        have h := HAC.out
        rw [stored_more (by rw [HD.out]; exact HMN.out.2), List.drop_drop, hdB_more] at h
        rw [← h]; simp only [List.append_assoc]⟩
      have HQ1 : Aside0 (k + 65535 ≤ bs.length) := ⟨by have := HN.out; have := HMN.out; omega⟩
      have HQ2 : Aside0 (bs.length - (k + 65535) = r) := ⟨by have := HN.out; have := HRR.out; omega⟩
      have HQ3 : Aside0 (r ≤ c - 65535) := ⟨by have := HRR.out; omega⟩
      have HQ4 : Aside0 (Kd.C (Kd.int .u8) w AD (bs.drop (k + 65535)).length (bs.drop (k + 65535))) := ⟨by
        have h := HF.out
        rw [List.drop_drop] at h
        rw [show (bs.drop (k + 65535)).length = r by rw [List.length_drop]; exact HQ2.out]
        exact h⟩
      go_roundw
      case rel => exact ⟨k + 65535, AD, _, A2, c2, acc ++ [0, 255, 255, 0, 0] ++ (bs.drop k).take 65535, HQ1.out, by rw [HQ2.out], by rw [HQ2.out]; exact HQ3.out, by rw [HL2.out], HQ4, ⟨by rw [HL2.out]; exact HV2.out, HB3.out, HAA.out⟩⟩
      case measure =>
        show r < n
        have := HRR.out
        have := HMN.out
        omega
end Go.Proofs.Ytjbckpfhenogiaa.Hw
