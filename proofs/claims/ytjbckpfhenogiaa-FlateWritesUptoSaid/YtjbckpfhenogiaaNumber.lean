import Derived.Test.YtjbckpfhenogiaaBits
import Derived.Test.YtjbckpfhenogiaaPHo
/- What the printed Reader.number answers. -/
namespace Go.Proofs.Ytjbckpfhenogiaa.Hw
open Go.RowKit Go.Proofs.YtjbckpfhenogiaaW.PrintWords Go.Proofs.YtjbckpfhenogiaaW.PrintLast Go.Proofs.YtjbckpfhenogiaaW.PrintMore Go.Proofs.Ytjbckpfhenogiaa.PH
set_option linter.unusedVariables false
set_option linter.unusedSimpArgs false
theorem u64_self (n : Int) (h0 : 0 ≤ n) (h1 : n < 18446744073709551616) : IntKind.u64.wrap n = n := by simp [IntKind.wrap, IntKind.bits, IntKind.signed]; omega
theorem u64_self' (n : Int) (h0 : 0 ≤ n) (h1 : n < 2 ^ 64) : IntKind.u64.wrap n = n := u64_self n h0 (by simpa using h1)
theorem two_pow_cast (n : Nat) : ((2 : Int) ^ n) = ((2 ^ n : Nat) : Int) := by simp
theorem shr_nat (v s : Nat) (hs : s ≤ 64) : shr .u64 (v : Int) (s : Int) = ((v / 2 ^ s : Nat) : Int) := by
  unfold shr
  rw [Int.toNat_natCast, Nat.min_eq_left (show s ≤ IntKind.u64.bits from hs), two_pow_cast]; rfl
theorem shl_nat (v s : Nat) (hs : s ≤ 64) (h : v * 2 ^ s < 18446744073709551616) : shl .u64 (v : Int) (s : Int) = ((v * 2 ^ s : Nat) : Int) := by
  unfold shl
  rw [Int.toNat_natCast, Nat.min_eq_left (show s ≤ IntKind.u64.bits from hs), two_pow_cast, ← Int.natCast_mul, u64_self _ (by omega) (by omega)]
theorem and_u64 (a b : Nat) (ha : a < 18446744073709551616) (hb : b < 18446744073709551616) : bits .and .u64 a b = ((a &&& b : Nat) : Int) := (bits_nat .u64 64 (by decide) u64_self' a b (by simpa using ha) (by simpa using hb)).1
theorem or_u64 (a b : Nat) (ha : a < 18446744073709551616) (hb : b < 18446744073709551616) : bits .or .u64 a b = ((a ||| b : Nat) : Int) := (bits_nat .u64 64 (by decide) u64_self' a b (by simpa using ha) (by simpa using hb)).2
theorem pow_le_32 (n : Nat) (h : n ≤ 32) : (2 : Nat) ^ n ≤ 4294967296 := Nat.le_trans (Nat.pow_le_pow_right (by omega) h) (by decide)
theorem pow_le_40 (n : Nat) (h : n ≤ 40) : (2 : Nat) ^ n ≤ 1099511627776 := Nat.le_trans (Nat.pow_le_pow_right (by omega) h) (by decide)
theorem mask_nat (n : Nat) (h : n ≤ 32) : IntKind.u64.wrap (shl .u64 1 (n : Int) - 1) = ((2 ^ n - 1 : Nat) : Int) := by
  have h1 := pow_le_32 n h
  have h0 : 0 < (2 : Nat) ^ n := Nat.two_pow_pos n
  have := shl_nat 1 n (by omega) (by omega)
  rw [Int.natCast_one] at this
  rw [this, Nat.one_mul, u64_self _ (by omega) (by omega)]; omega
theorem number_l0 (bs : List Int) (hb : IsBytes bs) (hlen : bs.length ≤ 140737488351232) (made : Bool) (first s n m : Nat) (hs : s < 8) (hn : n ≤ 32) (hm : m = (s + n + 7) / 8) (hf : first ≤ 140737488351232) :
    ∀ (d i k : Nat), i + d = m → d < k →
    bitio_Reader_number.l0 k n (BP.numb (fun k => bitAt bs (8 * first + k)) (8 * i) : Nat) first m i made bs ((8 * first + s : Nat) : Int) = some (((nbits bs (8 * first + s) n : Nat) : Int), made, ((8 * first + s : Nat) : Int)) := by
  have hm5 : m ≤ 5 := by omega
  intro d
  induction d with
  | zero =>
    intro i k hi hk
    obtain ⟨k, rfl⟩ : ∃ m, k = m + 1 := ⟨k - 1, by omega⟩
    obtain rfl : i = m := by omega
    have ht : Int.tmod ((8 * first + s : Nat) : Int) 8 = (s : Int) := by
      rw [Int.tmod_eq_emod_of_nonneg (by omega)]; omega
    rw [bitio_Reader_number.l0, if_neg (by omega), ht, if_pos (by omega), if_pos (by omega)]
    have hlt := BP.numb_lt (fun k => bitAt bs (8 * first + k)) (8 * i)
    have h40 := pow_le_40 (8 * i) (by omega)
    have hc := numb_cut bs first (8 * i) s n (by omega)
    have h32 := pow_le_32 n hn
    have hnb := nbits_lt bs (8 * first + s) n
    generalize BP.numb (fun k => bitAt bs (8 * first + k)) (8 * i) = v at *
    have hv : v / 2 ^ s ≤ v := Nat.div_le_self _ _
    rw [shr_nat v s (by omega), mask_nat n hn, and_u64 _ _ (by omega) (by omega), Nat.and_two_pow_sub_one_eq_mod, hc]
    have e4 : ((nbits bs (8 * first + s) n : Nat) : Int) % 4294967296 = (nbits bs (8 * first + s) n : Nat) := by omega
    rw [e4]
  | succ d ih =>
    intro i k hi hk
    obtain ⟨k, rfl⟩ : ∃ m, k = m + 1 := ⟨k - 1, by omega⟩
    have hi5 : i ≤ 5 := by omega
    clear hm
    have w1 : wrap64 ((i : Int) + 1) = ((i + 1 : Nat) : Int) := w64n (by omega) (by omega)
    have w2 : wrap64 ((first : Int) + (i : Int)) = ((first + i : Nat) : Int) := w64n (by omega) (by omega)
    rw [bitio_Reader_number.l0, if_pos (by omega), w1, w2]
    by_cases hlt : first + i < bs.length
    · have w3 : wrap64 (8 * (i : Int)) = ((8 * i : Nat) : Int) := w64n (by omega) (by omega)
      have hr := byte_range hb (first + i)
      rw [if_pos (by omega), if_pos (by omega), w3, if_pos (by omega)]
      have erd : rd bs ((first + i : Nat) : Int) = ((bs.getD (first + i) 0).toNat : Int) := by
        unfold rd; rw [Int.toNat_natCast]; omega
      have hnb := numb_byte bs hb first i
      have hlt2 := BP.numb_lt (fun k => bitAt bs (8 * first + k)) (8 * i)
      have hlt3 := BP.numb_lt (fun k => bitAt bs (8 * first + k)) (8 * (i + 1))
      have h40 := pow_le_40 (8 * (i + 1)) (by omega)
      have h40' := pow_le_32 (8 * i) (by omega)
      rw [erd]
      generalize hbv : (bs.getD (first + i) 0).toNat = b at *
      have hb8 : b ≤ 255 := by omega
      have h1 : b * 2 ^ (8 * i) ≤ 255 * 2 ^ (8 * i) := Nat.mul_le_mul_right _ hb8
      rw [u64_self (b : Int) (by omega) (by omega), shl_nat b (8 * i) (by omega) (by omega), or_u64 _ _ (by omega) (by omega), hnb]
      exact ih (i + 1) k (by omega) (by omega)
    · rw [if_neg (by omega), numb_none bs first i (by omega)]
      exact ih (i + 1) k (by omega) (by omega)
theorem number_is (bs : List Int) (hb : IsBytes bs) (hlen : bs.length ≤ 140737488351232) (made : Bool) (at_ n k : Nat) (hn : n ≤ 32) (ha : at_ ≤ 8 * 140737488351232) (hk : 5 < k) :
    bitio_Reader_number.f k made bs (at_ : Int) (n : Int) = some (((nbits bs at_ n : Nat) : Int), made, (at_ : Int)) := by
  have e : at_ = 8 * (at_ / 8) + at_ % 8 := by omega
  have h := number_l0 bs hb hlen made (at_ / 8) (at_ % 8) n ((at_ % 8 + n + 7) / 8) (by omega) hn rfl (by omega) ((at_ % 8 + n + 7) / 8) 0 k (by omega) (by omega)
  rw [← e] at h
  unfold bitio_Reader_number.f
  have e1 : Int.tdiv (at_ : Int) 8 = ((at_ / 8 : Nat) : Int) := by rw [Int.tdiv_eq_ediv_of_nonneg (by omega)]; omega
  have e2 : Int.tmod (at_ : Int) 8 = ((at_ % 8 : Nat) : Int) := by rw [Int.tmod_eq_emod_of_nonneg (by omega)]; omega
  have w1 : wrap64 ((at_ / 8 : Nat) : Int) = ((at_ / 8 : Nat) : Int) := w64n (by omega) (by omega)
  have w2 : wrap64 ((at_ % 8 : Nat) + (n : Int)) = ((at_ % 8 + n : Nat) : Int) := w64n (by omega) (by omega)
  have w3 : wrap64 (((at_ % 8 + n : Nat) : Int) + 8) = ((at_ % 8 + n + 8 : Nat) : Int) := w64n (by omega) (by omega)
  have w4 : wrap64 (((at_ % 8 + n + 8 : Nat) : Int) - 1) = ((at_ % 8 + n + 7 : Nat) : Int) := w64n (by omega) (by omega)
  have e3 : Int.tdiv ((at_ % 8 + n + 7 : Nat) : Int) 8 = (((at_ % 8 + n + 7) / 8 : Nat) : Int) := by rw [Int.tdiv_eq_ediv_of_nonneg (by omega)]; omega
  have w5 : wrap64 (((at_ % 8 + n + 7) / 8 : Nat) : Int) = (((at_ % 8 + n + 7) / 8 : Nat) : Int) := w64n (by omega) (by omega)
  rw [e1, e2, w1, w2, w3, w4, e3, w5]
  exact h
end Go.Proofs.Ytjbckpfhenogiaa.Hw
