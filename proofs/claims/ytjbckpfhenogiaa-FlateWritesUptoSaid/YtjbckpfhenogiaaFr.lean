import Derived.Test.YtjbckpfhenogiaaRw
import Derived.Test.YtjbckpfhenogiaaFs
/- The document's Fixed, walked. -/
namespace Go.Proofs.Ytjbckpfhenogiaa.Hw
open Go.RowKit Go.Proofs.YtjbckpfhenogiaaW.PrintWords Go.Proofs.YtjbckpfhenogiaaW.PrintLast Go.Proofs.YtjbckpfhenogiaaW.PrintMore Go.Proofs.Ytjbckpfhenogiaa.PH
set_option linter.unusedVariables false
set_option linter.unusedSimpArgs false
set_option maxRecDepth 100000 in
theorem rev_lo_fin : ∀ b : Fin 144, gridironref01_Reverse.f 12 (48 + (b.val : Int)) 8 = some ((BP.rev (48 + b.val) 8 : Nat) : Int) := by decide +kernel
set_option maxRecDepth 100000 in
theorem rev_hi_fin : ∀ b : Fin 112, gridironref01_Reverse.f 12 (400 + ((144 + b.val : Nat) : Int) - 144) 9 = some ((BP.rev (400 + (144 + b.val) - 144) 9 : Nat) : Int) := by decide +kernel
theorem rev_lo (b : Nat) (h : b < 144) : gridironref01_Reverse.f 12 (48 + (b : Int)) 8 = some ((BP.rev (48 + b) 8 : Nat) : Int) := rev_lo_fin ⟨b, h⟩
theorem rev_hi (b : Nat) (h : ¬ b < 144) (h2 : b < 256) : gridironref01_Reverse.f 12 (400 + (b : Int) - 144) 9 = some ((BP.rev (400 + b - 144) 9 : Nat) : Int) := by
  have := rev_hi_fin ⟨b - 144, by omega⟩
  rw [show 144 + (b - 144) = b by omega] at this
  exact this
/-- Between two rounds of the document's Fixed. -/
def RxS (w wr : World) (bs : List Int) (k : Nat) (v : Value) : Prop :=
  RwS w.heap.size wr w.heap.size v (bitsN 3 3 ++ litsB (bs.take k)) ∧ Below w.heap.size w wr
theorem lits_len (bs : List Int) (k : Nat) (hl : bs.length ≤ 1048576) : (bitsN 3 3 ++ litsB (bs.take k)).length ≤ 16777216 := by
  rw [List.length_append, bitsN_length]
  have := litsB_length (bs.take k)
  rw [List.length_take] at this
  omega
set_option maxRecDepth 100000 in
set_option maxHeartbeats 4000000 in
theorem rfixed_calls (A0 : Option Addr) (c0 : Nat) (bs : List Int) (w : World) (hr0 : Kd.C (Kd.int .u8) w A0 bs.length bs) (hc0 : bs.length ≤ c0) (hb : IsBytes bs) (hl : bs.length ≤ 1048576) :
    Calls Try.prog 13 #[.slice A0 bs.length c0] w fun e w' => ∃ u, e = .returned u ∧ Kd.R (Kd.int .u8) 5 w' w.heap.size (fun _ => True) u (fixedL bs) ∧ Below w.heap.size w w' := by
  have HR := Aside0.mk hr0
  have HB := Aside0.mk hb
  have HL := Aside0.mk hl
  have HW0 : Aside0 (RwS w.heap.size (w.alloc (.cells #[.slice none 0 0] 49)) w.heap.size (.slice none 0 0) []) := ⟨heap_alloc_new w _, Nat.le_refl _, Kd.R_nil _ _ _ _ _⟩
  have HB0 : Aside0 (Below w.heap.size w (w.alloc (.cells #[.slice none 0 0] 49))) := ⟨(Below.refl _ _).alloc (Nat.le_refl _) _⟩
  clear hr0 hb hl
  go_enter Try.func13, Try.ntmps13
  go_wp2_with fail
  refine (rw_bits_ok w.heap.size w.heap.size (.slice none 0 0) [] _ 3 3 HW0.out HB0.out.size (by decide) (fun _ => by decide) (by decide) (by decide)).mono ?_
  rintro e w1 ⟨rfl, v1, hs1, hf1⟩
  have HS0 : Aside0 (RxS w w1 bs 0 v1) := ⟨by have h := hs1; rw [List.nil_append] at h; simpa [litsB] using h, HB0.out.trans hf1.2.1⟩
  clear hs1 hf1 HW0 HB0
  go_wp2
  go_loopw [4] (fun i wr => ∃ (k : Nat) (v : Value), k ≤ bs.length ∧ i = .int .i64 k ∧ Aside0 (RxS w wr bs k v)) (fun i _ => bs.length - (intOf i).toNat)
  case atStart => exact ⟨0, v1, Nat.zero_le _, rfl, HS0⟩
  case round =>
    obtain ⟨k, v, hk, rfl, HS⟩ := hrel
    have HLN := Aside0.mk (lits_len bs k HL.out)
    have HZ : Aside0 (w.heap.size ≤ wr.heap.size) := ⟨HS.out.2.size⟩
    by_cases hlt : k < bs.length
    · obtain ⟨ad, rfl, hx⟩ := Kd.at_int (Kd.C_below HR.out HS.out.2) (k : Int) (by omega) (by omega)
      have hbb := byte_range HB.out k
      obtain ⟨b, hb⟩ : ∃ b : Nat, bs.getD k 0 = (b : Int) := ⟨(bs.getD k 0).toNat, by omega⟩
      rw [rd_nat' bs k, hb, Int.toNat_natCast] at hx
      rw [hb] at hbb
      have HBB : Aside0 (b < 256) := ⟨by omega⟩
      have HT : Aside0 (litsB (bs.take (k + 1)) = litsB (bs.take k) ++ litB b) := ⟨by rw [litsB_take bs k hlt, hb]; rfl⟩
      have hl := HL.out
      clear hb hbb
      by_cases hlo : b < 144
      · have t1 : decide ((b : Int) < 144) = true := decide_eq_true (by omega)
        have HRV := Aside0.mk (rev_lo b hlo)
        have hbb := HBB.out
        have HLB : Aside0 (litB b = bitsN (BP.rev (48 + b) 8) 8) := ⟨by unfold litB; rw [if_pos hlo]⟩
        have HXL : Aside0 (BP.rev (48 + b) 8 < 2 ^ 8) := ⟨rev_lt _ _⟩
        clear hlo
        go_wp2_with fail
        refine (gridironref01_Reverse.calls 12 _ 8 _ wr HRV.out).mono ?_
        rintro e w2 ⟨rfl, ⟨q, rfl⟩⟩
        have HS2 : Aside0 (RxS w (wr.drewN q) bs k v) := ⟨HS.out.1.drewN q, pw_below_drewN HS.out.2 q⟩
        have HZ2 : Aside0 (w.heap.size ≤ (wr.drewN q).heap.size) := ⟨HS2.out.2.size⟩
        have hx2 : (wr.drewN q).cell? (ad.add k) = some (.int .u8 (b : Int)) := hx
        clear HS HZ hx
        generalize wr.drewN q = W at *
        generalize BP.rev (48 + b) 8 = z at *
        go_wp2_with fail
        refine (rw_bits_ok w.heap.size w.heap.size v (bitsN 3 3 ++ litsB (bs.take k)) W z 8 HS2.out.1 HZ2.out (by have := HXL.out; omega) (fun _ => HXL.out) (by decide) (by have := HLN.out; omega)).mono ?_
        rintro e w3 ⟨rfl, v3, hs3, hf3⟩
        have HS3 : Aside0 (RxS w w3 bs (k + 1) v3) := ⟨by rw [HT.out, HLB.out, ← List.append_assoc]; exact hs3, HS2.out.2.trans hf3.2.1⟩
        clear hs3 hf3 HS2 HZ2 hx2
        go_wp2
        go_roundw
        case rel => exact ⟨k + 1, v3, by omega, by go_num, HS3⟩
        case measure => simp only [intOf]; omega
      · have t1 : decide ((b : Int) < 144) = false := decide_eq_false (by omega)
        have HRV := Aside0.mk (rev_hi b hlo HBB.out)
        have hbb := HBB.out
        have HLB : Aside0 (litB b = bitsN (BP.rev (400 + b - 144) 9) 9) := ⟨by unfold litB; rw [if_neg hlo]⟩
        have HXL : Aside0 (BP.rev (400 + b - 144) 9 < 2 ^ 9) := ⟨rev_lt _ _⟩
        clear hlo
        go_wp2_with fail
        refine (gridironref01_Reverse.calls 12 _ 9 _ wr HRV.out).mono ?_
        rintro e w2 ⟨rfl, ⟨q, rfl⟩⟩
        have HS2 : Aside0 (RxS w (wr.drewN q) bs k v) := ⟨HS.out.1.drewN q, pw_below_drewN HS.out.2 q⟩
        have HZ2 : Aside0 (w.heap.size ≤ (wr.drewN q).heap.size) := ⟨HS2.out.2.size⟩
        have hx2 : (wr.drewN q).cell? (ad.add k) = some (.int .u8 (b : Int)) := hx
        clear HS HZ hx
        generalize wr.drewN q = W at *
        generalize BP.rev (400 + b - 144) 9 = z at *
        go_wp2_with fail
        refine (rw_bits_ok w.heap.size w.heap.size v (bitsN 3 3 ++ litsB (bs.take k)) W z 9 HS2.out.1 HZ2.out (by have := HXL.out; omega) (fun _ => HXL.out) (by decide) (by have := HLN.out; omega)).mono ?_
        rintro e w3 ⟨rfl, v3, hs3, hf3⟩
        have HS3 : Aside0 (RxS w w3 bs (k + 1) v3) := ⟨by rw [HT.out, HLB.out, ← List.append_assoc]; exact hs3, HS2.out.2.trans hf3.2.1⟩
        clear hs3 hf3 HS2 HZ2 hx2
        go_wp2
        go_roundw
        case rel => exact ⟨k + 1, v3, by omega, by go_num, HS3⟩
        case measure => simp only [intOf]; omega
    · obtain rfl : k = bs.length := by omega
      have HT : Aside0 (bs.take bs.length = bs) := ⟨List.take_length⟩
      rw [HT.out] at HLN
      have HS2 : Aside0 (RwS w.heap.size wr w.heap.size v (bitsN 3 3 ++ litsB bs)) := ⟨by have h := HS.out.1; rw [HT.out] at h; exact h⟩
      have HB2 := Aside0.mk HS.out.2
      clear HS HT hlt
      go_wp2_with fail
      refine (rw_bits_ok w.heap.size w.heap.size v (bitsN 3 3 ++ litsB bs) wr 0 7 HS2.out HZ.out (by decide) (fun _ => by decide) (by decide) (by have := HLN.out; omega)).mono ?_
      rintro e w3 ⟨rfl, v3, hs3, hf3⟩
      have HS3 := Aside0.mk hs3
      have HB3 : Aside0 (Below w.heap.size w w3) := ⟨HB2.out.trans hf3.2.1⟩
      have HZ3 : Aside0 (w.heap.size ≤ w3.heap.size) := ⟨HB3.out.size⟩
      clear hs3 hf3 HS2 HB2
      go_wp2_with fail
      refine (rw_out w.heap.size w.heap.size v3 _ w3 HS3.out HZ3.out (by rw [List.length_append, bitsN_length]; have := HLN.out; omega)).mono ?_
      rintro e w4 ⟨u, rfl, hu, hb4⟩
      have HU := Aside0.mk (Kd.R_lower hu HZ3.out)
      have HB4 : Aside0 (Below w.heap.size w w4) := ⟨HB3.out.trans (hb4.mono HZ3.out)⟩
      clear hu hb4
      go_wp2
      go_ret
      exact ⟨u, rfl, HU.out, HB4.out⟩
end Go.Proofs.Ytjbckpfhenogiaa.Hw
