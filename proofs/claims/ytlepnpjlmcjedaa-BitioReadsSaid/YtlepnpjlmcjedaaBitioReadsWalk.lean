import Derived.Test.YtlepnpjlmcjedaaRf
import Derived.Test.YtlepnpjlmcjedaaOp
/- The law BitioReads, walked. -/
namespace Go.Proofs.Ytlepnpjlmcjedaa.Hw
open Go.RowKit Go.Proofs.YtlepnpjlmcjedaaW.PrintWords Go.Proofs.YtlepnpjlmcjedaaW.PrintLast Go.Proofs.YtlepnpjlmcjedaaW.PrintMore Go.Proofs.Ytlepnpjlmcjedaa.PH
set_option linter.unusedVariables false
set_option linter.unusedSimpArgs false
/-- Both readers stand at one bit. -/
def Two (w wr : World) (gr gf : Nat) (v : Value) (A : Option Addr) (c : Nat) (bs : List Int) (a : Nat) : Prop :=
  RdS w.heap.size wr gr v bs a ∧ RfS w wr gf A c bs a ∧ a ≤ 8 * bs.length ∧ gr ≠ gf ∧ (∀ j, v.ownBlock = some j → j ≠ gf)
section
variable {w wr w' : World} {gr gf c a : Nat} {v : Value} {A : Option Addr} {bs : List Int}
theorem Two.drewN (h : Two w wr gr gf v A c bs a) (n : Nat) : Two w (wr.drewN n) gr gf v A c bs a := ⟨h.1.drewN n, h.2.1.drewN n, h.2.2⟩
theorem Two.below (h : Two w wr gr gf v A c bs a) (hb : Below wr.heap.size wr w') : Two w w' gr gf v A c bs a := ⟨h.1.below hb, h.2.1.below hb, h.2.2⟩
theorem Two.fst (h : Two w wr gr gf v A c bs a) (ho : OnlyN gr wr w') : RfS w w' gf A c bs a := h.2.1.onlyN ho (fun e => h.2.2.2.1 e.symm) (by have := h.1.2.1; omega)
end
theorem bitsRes_at {bs : List Int} {a : Nat} (h : a ≤ 8 * bs.length) (n : Int) : (bitsRes bs a n).2.2 ≤ 8 * bs.length := by
  unfold bitsRes; split
  · exact h
  · split
    · exact h
    · show a + n.toNat ≤ _; omega
theorem bytesRes_at {bs : List Int} {a : Nat} (h : a ≤ 8 * bs.length) (n : Int) : (bytesRes bs a n).2.2 ≤ 8 * bs.length := by
  unfold bytesRes; split
  · exact h
  · split
    · exact h
    · show 8 * ((a + 7) / 8 + n.toNat) ≤ _; omega
theorem align_at {bs : List Int} {a : Nat} (h : a ≤ 8 * bs.length) : 8 * ((a + 7) / 8) ≤ 8 * bs.length := by omega
theorem op_kept {wr w3 : World} {a b c d : Value} {T gr : Nat} (h : OnlyN gr (wr.alloc (.cells #[a, b, c, d] T)) w3) (hg : gr ≠ wr.heap.size) : w3.cell? ⟨wr.heap.size, 1, none⟩ = some b :=
  (blk_cell (blk_kept (heap_alloc_new wr _) h.1 (fun e => hg e.symm)) 1).trans rfl
theorem u8_in {x : Int} (h : (Lit.int .u8 x).wf = true) : 0 ≤ x ∧ x ≤ 255 := by
  have h2 : IntKind.u8.min ≤ x ∧ x ≤ IntKind.u8.max := by simpa [Lit.wf] using h
  have e1 : IntKind.u8.min = 0 := by decide
  have e2 : IntKind.u8.max = 255 := by decide
  omega
set_option maxRecDepth 100000 in
set_option maxHeartbeats 8000000 in
theorem reads1_walk (w : World) (A0 : Option Addr) (c0 : Nat) (bs : List Int) (hr0 : Kd.C (Kd.int .u8) w A0 bs.length bs) (hc0 : bs.length ≤ c0) (hy0 : bs.length ≤ 140737488351232) (hb : IsBytes bs) (A1 : Option Addr) (c1 : Nat) (ss : List OpD) (hr1 : Kd.C kOp w A1 ss.length ss) (hl1 : ss.length ≤ 9223372036854775807) :
    Calls Try.prog 7 #[.slice A0 bs.length c0, .slice A1 ss.length c1] w fun e w' => e = .returned (.bool true) ∧ Below w.heap.size w w' := by
  have HR0 := Aside0.mk hr0
  have HR1 := Aside0.mk hr1
  have HB := Aside0.mk hb
  clear hr0 hr1 hb
  go_enter Try.func7, Try.ntmps7
  go_wp2_with fail
  refine (newRd_calls A0 c0 bs w HR0.out hc0 hy0).mono ?_
  rintro e w1 ⟨gr, vr, rfl, hR, hb1⟩
  have HRd1 := Aside0.mk hR
  have HB1 := Aside0.mk hb1
  clear hR hb1
  go_wp2_with fail
  refine (live1_calls _).mono ?_
  rintro e w2 ⟨rfl, hb2⟩
  have HT2 : Aside0 (Two w w2 gr w1.heap.size vr A0 c0 bs 0) := ⟨by
    refine ⟨?_, ⟨?_, hc0, HB1.out.size, HR0.out, ?_⟩, Nat.zero_le _, fun e => ?_, fun j hj e => ?_⟩
    · exact (HRd1.out.below (below_alloc (Below.refl _ _) _)).below hb2
    · exact (hb2.block _ (blk_lt (heap_alloc_new w1 _))).trans (heap_alloc_new w1 _)
    · exact below_step (below_alloc HB1.out _) hb2
    · have := blk_lt HRd1.out.1; omega
    · have := Kd.R_lt HRd1.out.2.2 j hj; omega⟩
  clear hb2
  go_wp2
  go_loopw [27] (fun i wr => ∃ k : Nat, k ≤ ss.length ∧ i = .int .i64 k ∧ Aside0 (∃ a, Two w wr gr w1.heap.size vr A0 c0 bs a)) (fun i _ => ss.length - (intOf i).toNat)
  case atStart => exact ⟨0, Nat.zero_le _, rfl, ⟨0, HT2.out⟩⟩
  case round =>
    clear HT2
    obtain ⟨k, hk, rfl, HT⟩ := hrel
    obtain ⟨wr, hwr⟩ : ∃ x, x = wr := ⟨_, rfl⟩
    subst hwr
    by_cases hlt : k < ss.length
    · obtain ⟨a, hT⟩ := HT.out
      have HT0 := Aside0.mk hT
      have hC := Kd.C_below HR1.out hT.2.1.2.2.2.2
      obtain ⟨ad, Ad, cd, e1, h0, h1, h2, h3, _, _⟩ := at_op hC (k : Int) (by omega) (by omega)
      subst e1
      rw [Int.toNat_natCast] at h0 h1 h2 h3
      generalize ss.getD k zOp = op at *
      obtain ⟨kind, n, v, data⟩ := op
      simp only at h0 h1 h2 h3
      clear hT HT hC
      have hkinds : kind = 0 ∨ kind = 1 ∨ kind = 2 ∨ kind = 3 ∨ (kind ≠ 0 ∧ kind ≠ 1 ∧ kind ≠ 2 ∧ kind ≠ 3) := by omega
      have HTa : Aside0 (∀ o, Two w (wr.alloc o) gr w1.heap.size vr A0 c0 bs a) := ⟨fun o => HT0.out.below (below_alloc (Below.refl _ _) o)⟩
      rcases hkinds with rfl | rfl | rfl | rfl | ⟨k0, k1, k2, k3⟩
      · go_wp2_with fail
        refine (rd_bits_all w.heap.size gr vr bs a n _ (HTa.out _).1 HB.out hy0 HT0.out.2.2.1).mono ?_
        rintro e w3 ⟨rfl, hr3, ho3⟩
        have HF3 := Aside0.mk ((HTa.out _).fst ho3)
        have HR3 := Aside0.mk hr3
        have HNE := Aside0.mk (HTa.out (.cells #[] 0)).2.2.2
        have HAT := Aside0.mk (bitsRes_at (HT0.out.2.2.1) n)
        have hop := op_kept ho3 (by have := blk_lt HT0.out.1.1; omega)
        clear hr3 ho3
        go_wp2_with fail
        refine (rf_bits_all w w1.heap.size A0 c0 bs a n _ HF3.out HB.out hy0 HT0.out.2.2.1).mono ?_
        rintro e W4 ⟨rfl, hf4, ho4⟩
        generalize hres : bitsRes bs a n = res at *
        obtain ⟨x, er, a'⟩ := res
        have HT4 : Aside0 (Two w W4 gr w1.heap.size vr A0 c0 bs a') := ⟨⟨HR3.out.onlyN ho4 HNE.out.1 HNE.out.2, hf4, HAT.out, HNE.out⟩⟩
        clear hf4 ho4 hres HF3 HR3 HAT
        have HXC : Aside0 ((Kd.int .u8).C W4 none 0 []) := ⟨Kd.C_nil _ _⟩
        have HYC : Aside0 ((Kd.int .u8).C W4 none 0 []) := ⟨Kd.C_nil _ _⟩
        have hEQ := bytes_Equal.calls none 0 [] none 0 [] true W4 HXC.out (Nat.le_refl _) HYC.out (Nat.le_refl _) (by simp [bytes_Equal.f])
        have HEQ := Aside0.mk hEQ
        clear hEQ
        go_wp2_with fail
        refine HEQ.out.mono ?_
        rintro e w5 ⟨rfl, ⟨n5, rfl⟩⟩
        clear HEQ
        go_wp2_with fail
        refine (rd_left w.heap.size gr vr bs a' _ (HT4.out.drewN _).1 hy0 HT4.out.2.2.1).mono ?_
        rintro e w6 ⟨rfl, ⟨n6, rfl⟩⟩
        go_wp2_with fail
        refine (rf_left w w1.heap.size A0 c0 bs a' _ (HT4.out.drewN _).2.1 hy0 HT4.out.2.2.1).mono ?_
        rintro e w7 ⟨rfl, ⟨n7, rfl⟩⟩
        go_wp2_with fail
        refine (rd_used w.heap.size gr vr bs a' _ (HT4.out.drewN _).1 (by have := HT4.out.2.2.1; omega)).mono ?_
        rintro e w8 ⟨rfl, ⟨n8, rfl⟩⟩
        go_wp2_with fail
        refine (rf_used w w1.heap.size A0 c0 bs a' _ (HT4.out.drewN _).2.1 (by have := HT4.out.2.2.1; omega)).mono ?_
        rintro e w9 ⟨rfl, ⟨n9, rfl⟩⟩
        go_wp2
        refine ⟨?rel, ?measure⟩
        case rel => exact ⟨k + 1, by omega, by go_num, ⟨a', HT4.out.drewN _⟩⟩
        case measure => simp [intOf]; omega
      · go_wp2_with fail
        refine (rd_peek_all w.heap.size gr vr bs a n _ (HTa.out _).1 HB.out hy0 HT0.out.2.2.1).mono ?_
        rintro e w3 ⟨rfl, ⟨n3, rfl⟩⟩
        go_wp2_with fail
        refine (rf_peek_all w w1.heap.size A0 c0 bs a n _ ((HTa.out _).drewN _).2.1 HB.out hy0 HT0.out.2.2.1).mono ?_
        rintro e W4 ⟨rfl, hq4⟩
        generalize hres : peekRes bs a n = res at *
        obtain ⟨x, er⟩ := res
        obtain ⟨a', ha'⟩ : ∃ a', a' = a := ⟨_, rfl⟩
        have HT4 : Aside0 (Two w W4 gr w1.heap.size vr A0 c0 bs a') := ⟨by obtain ⟨n4, rfl⟩ := hq4; rw [ha']; exact ((HTa.out _).drewN _).drewN _⟩
        clear hq4 hres ha'
        have HXC : Aside0 ((Kd.int .u8).C W4 none 0 []) := ⟨Kd.C_nil _ _⟩
        have HYC : Aside0 ((Kd.int .u8).C W4 none 0 []) := ⟨Kd.C_nil _ _⟩
        have hEQ := bytes_Equal.calls none 0 [] none 0 [] true W4 HXC.out (Nat.le_refl _) HYC.out (Nat.le_refl _) (by simp [bytes_Equal.f])
        have HEQ := Aside0.mk hEQ
        clear hEQ
        go_wp2_with fail
        refine HEQ.out.mono ?_
        rintro e w5 ⟨rfl, ⟨n5, rfl⟩⟩
        clear HEQ
        go_wp2_with fail
        refine (rd_left w.heap.size gr vr bs a' _ (HT4.out.drewN _).1 hy0 HT4.out.2.2.1).mono ?_
        rintro e w6 ⟨rfl, ⟨n6, rfl⟩⟩
        go_wp2_with fail
        refine (rf_left w w1.heap.size A0 c0 bs a' _ (HT4.out.drewN _).2.1 hy0 HT4.out.2.2.1).mono ?_
        rintro e w7 ⟨rfl, ⟨n7, rfl⟩⟩
        go_wp2_with fail
        refine (rd_used w.heap.size gr vr bs a' _ (HT4.out.drewN _).1 (by have := HT4.out.2.2.1; omega)).mono ?_
        rintro e w8 ⟨rfl, ⟨n8, rfl⟩⟩
        go_wp2_with fail
        refine (rf_used w w1.heap.size A0 c0 bs a' _ (HT4.out.drewN _).2.1 (by have := HT4.out.2.2.1; omega)).mono ?_
        rintro e w9 ⟨rfl, ⟨n9, rfl⟩⟩
        go_wp2
        refine ⟨?rel, ?measure⟩
        case rel => exact ⟨k + 1, by omega, by go_num, ⟨a', HT4.out.drewN _⟩⟩
        case measure => simp [intOf]; omega
      · go_wp2_with fail
        refine (rd_align_all w.heap.size gr vr bs a _ (HTa.out _).1 (by have := HT0.out.2.2.1; omega)).mono ?_
        rintro e w3 ⟨rfl, hr3, ho3⟩
        have HF3 := Aside0.mk ((HTa.out _).fst ho3)
        have HR3 := Aside0.mk hr3
        have HNE := Aside0.mk (HTa.out (.cells #[] 0)).2.2.2
        have HAT := Aside0.mk (align_at (HT0.out.2.2.1))
        clear hr3 ho3
        go_wp2_with fail
        refine (rf_align_all w w1.heap.size A0 c0 bs a _ HF3.out (by have := HT0.out.2.2.1; omega)).mono ?_
        rintro e W4 ⟨rfl, hf4, ho4⟩
        generalize hres : 8 * ((a + 7) / 8) = a' at *
        have HT4 : Aside0 (Two w W4 gr w1.heap.size vr A0 c0 bs a') := ⟨⟨HR3.out.onlyN ho4 HNE.out.1 HNE.out.2, hf4, HAT.out, HNE.out⟩⟩
        clear hf4 ho4 hres HF3 HR3 HAT
        have HXC : Aside0 ((Kd.int .u8).C W4 none 0 []) := ⟨Kd.C_nil _ _⟩
        have HYC : Aside0 ((Kd.int .u8).C W4 none 0 []) := ⟨Kd.C_nil _ _⟩
        have hEQ := bytes_Equal.calls none 0 [] none 0 [] true W4 HXC.out (Nat.le_refl _) HYC.out (Nat.le_refl _) (by simp [bytes_Equal.f])
        have HEQ := Aside0.mk hEQ
        clear hEQ
        go_wp2_with fail
        refine HEQ.out.mono ?_
        rintro e w5 ⟨rfl, ⟨n5, rfl⟩⟩
        clear HEQ
        go_wp2_with fail
        refine (rd_left w.heap.size gr vr bs a' _ (HT4.out.drewN _).1 hy0 HT4.out.2.2.1).mono ?_
        rintro e w6 ⟨rfl, ⟨n6, rfl⟩⟩
        go_wp2_with fail
        refine (rf_left w w1.heap.size A0 c0 bs a' _ (HT4.out.drewN _).2.1 hy0 HT4.out.2.2.1).mono ?_
        rintro e w7 ⟨rfl, ⟨n7, rfl⟩⟩
        go_wp2_with fail
        refine (rd_used w.heap.size gr vr bs a' _ (HT4.out.drewN _).1 (by have := HT4.out.2.2.1; omega)).mono ?_
        rintro e w8 ⟨rfl, ⟨n8, rfl⟩⟩
        go_wp2_with fail
        refine (rf_used w w1.heap.size A0 c0 bs a' _ (HT4.out.drewN _).2.1 (by have := HT4.out.2.2.1; omega)).mono ?_
        rintro e w9 ⟨rfl, ⟨n9, rfl⟩⟩
        go_wp2
        refine ⟨?rel, ?measure⟩
        case rel => exact ⟨k + 1, by omega, by go_num, ⟨a', HT4.out.drewN _⟩⟩
        case measure => simp [intOf]; omega
      · go_wp2_with fail
        refine (rd_bytes_all w.heap.size gr vr bs a n _ (HTa.out _).1 hy0 HT0.out.2.2.1).mono ?_
        rintro e w3 ⟨u3, rfl, hx3, hr3, ho3⟩
        have HF3 := Aside0.mk ((HTa.out _).fst ho3)
        have HR3 := Aside0.mk hr3
        have HX3 := Aside0.mk hx3
        have HNE := Aside0.mk (HTa.out (.cells #[] 0)).2.2.2
        have HAT := Aside0.mk (bytesRes_at (HT0.out.2.2.1) n)
        have HLO : Aside0 (w1.heap.size < wr.heap.size) := ⟨blk_lt HT0.out.2.1.1⟩
        have hop := op_kept ho3 (by have := blk_lt HT0.out.1.1; omega)
        clear hr3 ho3 hx3
        go_wp2_with fail
        refine (rf_bytes_all w w1.heap.size A0 c0 bs a n _ HF3.out hy0 HT0.out.2.2.1).mono ?_
        rintro e W4 ⟨u4, rfl, hy4, hf4, ho4⟩
        generalize hres : bytesRes bs a n = res at *
        obtain ⟨xs, er, a'⟩ := res
        have HT4 : Aside0 (Two w W4 gr w1.heap.size vr A0 c0 bs a') := ⟨⟨HR3.out.onlyN ho4 HNE.out.1 HNE.out.2, hf4, HAT.out, HNE.out⟩⟩
        have hx4 := R_kept1 HX3.out ho4.1 (fun j hj e => by have := Kd.R_base HX3.out j hj; have := HLO.out; simp at *; omega)
        obtain ⟨Ax, cx, rfl, hcx, hxc⟩ := Kd.R_reads hx4
        obtain ⟨Ay, cy, rfl, hcy, hyc⟩ := Kd.R_reads hy4
        have HXC := Aside0.mk hxc
        have HYC := Aside0.mk hyc
        clear hf4 ho4 hres HF3 HR3 HAT hx4 hy4 hxc hyc HX3
        have hEQ := bytes_Equal.calls Ax cx xs Ay cy xs true W4 HXC.out hcx HYC.out hcy (by simp [bytes_Equal.f])
        have HEQ := Aside0.mk hEQ
        clear hEQ
        go_wp2_with fail
        refine HEQ.out.mono ?_
        rintro e w5 ⟨rfl, ⟨n5, rfl⟩⟩
        clear HEQ
        go_wp2_with fail
        refine (rd_left w.heap.size gr vr bs a' _ (HT4.out.drewN _).1 hy0 HT4.out.2.2.1).mono ?_
        rintro e w6 ⟨rfl, ⟨n6, rfl⟩⟩
        go_wp2_with fail
        refine (rf_left w w1.heap.size A0 c0 bs a' _ (HT4.out.drewN _).2.1 hy0 HT4.out.2.2.1).mono ?_
        rintro e w7 ⟨rfl, ⟨n7, rfl⟩⟩
        go_wp2_with fail
        refine (rd_used w.heap.size gr vr bs a' _ (HT4.out.drewN _).1 (by have := HT4.out.2.2.1; omega)).mono ?_
        rintro e w8 ⟨rfl, ⟨n8, rfl⟩⟩
        go_wp2_with fail
        refine (rf_used w w1.heap.size A0 c0 bs a' _ (HT4.out.drewN _).2.1 (by have := HT4.out.2.2.1; omega)).mono ?_
        rintro e w9 ⟨rfl, ⟨n9, rfl⟩⟩
        go_wp2
        refine ⟨?rel, ?measure⟩
        case rel => exact ⟨k + 1, by omega, by go_num, ⟨a', HT4.out.drewN _⟩⟩
        case measure => simp [intOf]; omega
      · have t0 : (kind == 0) = false := by simpa using k0
        have t1 : (kind == 1) = false := by simpa using k1
        have t2 : (kind == 2) = false := by simpa using k2
        have t3 : (kind == 3) = false := by simpa using k3
        clear k0 k1 k2 k3
        obtain ⟨a', ha'⟩ : ∃ a', a' = a := ⟨_, rfl⟩
        obtain ⟨W4, hW4⟩ : ∃ W4, W4 = wr.alloc (.cells #[.int .i64 kind, .int .i64 n, .int .u32 v, .slice Ad data.length cd] 44) := ⟨_, rfl⟩
        have HT4 : Aside0 (Two w W4 gr w1.heap.size vr A0 c0 bs a') := ⟨by rw [hW4, ha']; exact HTa.out _⟩
        have HW4 := Aside0.mk hW4.symm
        clear hW4 ha'
        have HXC : Aside0 ((Kd.int .u8).C W4 none 0 []) := ⟨Kd.C_nil _ _⟩
        have HYC : Aside0 ((Kd.int .u8).C W4 none 0 []) := ⟨Kd.C_nil _ _⟩
        have hEQ := bytes_Equal.calls none 0 [] none 0 [] true W4 HXC.out (Nat.le_refl _) HYC.out (Nat.le_refl _) (by simp [bytes_Equal.f])
        have HEQ := Aside0.mk hEQ
        clear hEQ
        go_wp2_with fail
        rw [HW4.out]
        refine HEQ.out.mono ?_
        rintro e w5 ⟨rfl, ⟨n5, rfl⟩⟩
        clear HEQ
        go_wp2_with fail
        refine (rd_left w.heap.size gr vr bs a' _ (HT4.out.drewN _).1 hy0 HT4.out.2.2.1).mono ?_
        rintro e w6 ⟨rfl, ⟨n6, rfl⟩⟩
        go_wp2_with fail
        refine (rf_left w w1.heap.size A0 c0 bs a' _ (HT4.out.drewN _).2.1 hy0 HT4.out.2.2.1).mono ?_
        rintro e w7 ⟨rfl, ⟨n7, rfl⟩⟩
        go_wp2_with fail
        refine (rd_used w.heap.size gr vr bs a' _ (HT4.out.drewN _).1 (by have := HT4.out.2.2.1; omega)).mono ?_
        rintro e w8 ⟨rfl, ⟨n8, rfl⟩⟩
        go_wp2_with fail
        refine (rf_used w w1.heap.size A0 c0 bs a' _ (HT4.out.drewN _).2.1 (by have := HT4.out.2.2.1; omega)).mono ?_
        rintro e w9 ⟨rfl, ⟨n9, rfl⟩⟩
        go_wp2
        refine ⟨?rel, ?measure⟩
        case rel => exact ⟨k + 1, by omega, by go_num, ⟨a', HT4.out.drewN _⟩⟩
        case measure => simp [intOf]; omega
    · obtain rfl : k = ss.length := by omega
      obtain ⟨a, hT⟩ := HT.out
      go_wp2
      go_ret
      exact ⟨rfl, hT.2.1.2.2.2.2⟩
theorem bitioReads_walk (w : World) (A0 : Option Addr) (c0 : Nat) (bs : List Int) (hr0 : Kd.C (Kd.int .u8) w A0 bs.length bs) (hc0 : bs.length ≤ c0) (hy0 : bs.length * 1 ≤ 140737488351232) (hw0 : ∀ x ∈ bs, (Lit.int .u8 x).wf = true) (A1 : Option Addr) (c1 : Nat) (ss : List OpD) (hr1 : Kd.C kOp w A1 ss.length ss) (hc1 : ss.length ≤ c1) (hG : ss.length * 48 ≤ 140737488351232 ∧ ss.length ≤ 9223372036854775807 ∧ ∀ x ∈ ss, OpG x) :
    Calls Try.prog 7 #[.slice A0 bs.length c0, .slice A1 ss.length c1] w fun e w' => e = .returned (.bool true) ∧ Below w.heap.size w w' :=
  reads1_walk w A0 c0 bs hr0 hc0 (by omega) (fun x hx => u8_in (hw0 x hx)) A1 c1 ss hr1 hG.2.1
end Go.Proofs.Ytlepnpjlmcjedaa.Hw
