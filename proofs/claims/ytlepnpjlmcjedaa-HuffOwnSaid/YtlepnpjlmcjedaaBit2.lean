import Derived.Test.YtlepnpjlmcjedaaWriter2
import Derived.Test.YtlepnpjlmcjedaaPHx5
/- What the document's Bit answers. -/
namespace Go.Proofs.Ytlepnpjlmcjedaa.Hw
open Go.RowKit Go.Proofs.YtlepnpjlmcjedaaW.PrintWords Go.Proofs.YtlepnpjlmcjedaaW.PrintLast Go.Proofs.YtlepnpjlmcjedaaW.PrintMore Go.Proofs.Ytlepnpjlmcjedaa.PH
set_option linter.unusedVariables false
set_option linter.unusedSimpArgs false
theorem ref_bit_is (bs : List Int) (hb : IsBytes bs) (hl : bs.length ≤ 140737488355328) (k : Nat) (hk : k < 8 * bs.length) : gridironref02_Bit.f bs (k : Int) = some ((((bitAt bs k).toNat : Nat) : Int), true) := by
  unfold gridironref02_Bit.f
  have w1 : wrap64 (8 * (bs.length : Int)) = ((8 * bs.length : Nat) : Int) := w64n (by omega) (by omega)
  have e1 : Int.tdiv (k : Int) 8 = ((k / 8 : Nat) : Int) := by rw [Int.tdiv_eq_ediv_of_nonneg (by omega)]; omega
  have e2 : Int.tmod (k : Int) 8 = ((k % 8 : Nat) : Int) := by rw [Int.tmod_eq_emod_of_nonneg (by omega)]; omega
  have w2 : wrap64 ((k / 8 : Nat) : Int) = ((k / 8 : Nat) : Int) := w64n rfl (by omega)
  have hr := byte_range hb (k / 8)
  have erd : rd bs ((k / 8 : Nat) : Int) = ((bs.getD (k / 8) 0).toNat : Int) := by unfold rd; rw [Int.toNat_natCast]; omega
  rw [w1, e1, e2, w2, if_neg (by omega), if_neg (by omega), if_pos (by omega), if_pos (by omega), if_pos (by omega), erd]
  unfold bitAt
  generalize hbv : (bs.getD (k / 8) 0).toNat = b at *
  have hb8 : b ≤ 255 := by omega
  have e3 : shr .u8 (b : Int) ((k % 8 : Nat) : Int) = ((b / 2 ^ (k % 8) : Nat) : Int) := by
    unfold shr
    rw [Int.toNat_natCast, Nat.min_eq_left (show k % 8 ≤ IntKind.u8.bits from (by show k % 8 ≤ 8; omega)), two_pow_cast]; rfl
  have hle : b / 2 ^ (k % 8) ≤ b := Nat.div_le_self _ _
  have p32 : (2 : Nat) ^ 32 = 4294967296 := rfl
  rw [e3, Nat.testBit_eq_decide_div_mod_eq]
  generalize b / 2 ^ (k % 8) = y at *
  have e4 : (y : Int) % 4294967296 = (y : Int) := by omega
  have := (bits_nat .u32 32 (by decide) u32_selfW y 1 (by omega) (by decide)).1
  rw [Int.natCast_one] at this
  rw [e4, this, Nat.and_one_is_mod]
  by_cases h : y % 2 = 1
  · simp [h]
  · have : y % 2 = 0 := by omega
    simp [this]
theorem bitsN_getD (x n i : Nat) (h : i < n) : (bitsN x n).getD i false = x.testBit i := by simp [bitsN, List.getD_eq_getElem?_getD, h]
theorem append_getD (A B : List Bool) (i : Nat) : (A ++ B).getD (A.length + i) false = B.getD i false := by
  rw [List.getD_eq_getElem?_getD, List.getD_eq_getElem?_getD, List.getElem?_append_right (by omega)]
  congr 2; omega
theorem WS.below2 {base : Nat} {w w' : World} {g : Nat} {v : Value} {L : List Bool} (h : WS base w g v L) (hb : Below w.heap.size w w') : WS base w' g v L := ⟨(hb.block g (blk_lt h.1)).trans h.1, h.2.1, Kd.R_below h.2.2 hb⟩
end Go.Proofs.Ytlepnpjlmcjedaa.Hw
