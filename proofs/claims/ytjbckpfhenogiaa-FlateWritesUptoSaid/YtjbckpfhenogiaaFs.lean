import Derived.Test.YtjbckpfhenogiaaWriter2
import Derived.Test.YtjbckpfhenogiaaPut
import Derived.Test.YtjbckpfhenogiaaOwnKit
import Derived.Outline
/- Stored and fixed blocks, in plain Lean: their bytes and their bits. -/
namespace Go.Proofs.Ytjbckpfhenogiaa.Hw
open Go.RowKit Go.Proofs.YtjbckpfhenogiaaW.PrintWords Go.Proofs.YtjbckpfhenogiaaW.PrintLast Go.Proofs.YtjbckpfhenogiaaW.PrintMore
set_option linter.unusedVariables false
set_option linter.unusedSimpArgs false
theorem rd_nat' (l : List Int) (i : Nat) : rd l (i : Int) = l.getD i 0 := by simp [rd]
/-- The five bytes ahead of a stored block's own. -/
def hdB (n f : Nat) : List Int := [(f : Int), ((n % 256 : Nat) : Int), ((n / 256 : Nat) : Int), ((255 - n % 256 : Nat) : Int), ((255 - n / 256 : Nat) : Int)]
def storedF : Nat → List Int → List Int
  | 0, _ => []
  | k + 1, bs => if bs.length ≤ 65535 then hdB bs.length 1 ++ bs else hdB 65535 0 ++ bs.take 65535 ++ storedF k (bs.drop 65535)
/-- The bytes of stored blocks. -/
def storedL (bs : List Int) : List Int := storedF (bs.length + 1) bs
theorem storedF_more : ∀ (k m : Nat) (bs : List Int), bs.length < k → bs.length < m → storedF k bs = storedF m bs := by
  intro k
  induction k with
  | zero => intro m bs h; omega
  | succ k ih =>
    intro m bs h1 h2
    obtain ⟨m, rfl⟩ : ∃ q, m = q + 1 := ⟨m - 1, by omega⟩
    rw [storedF, storedF]
    by_cases h : bs.length ≤ 65535
    · rw [if_pos h, if_pos h]
    · rw [if_neg h, if_neg h, ih m (bs.drop 65535) (by rw [List.length_drop]; omega) (by rw [List.length_drop]; omega)]
theorem stored_last {bs : List Int} (h : bs.length ≤ 65535) : storedL bs = hdB bs.length 1 ++ bs := by unfold storedL; rw [storedF, if_pos h]
theorem stored_more {bs : List Int} (h : ¬ bs.length ≤ 65535) : storedL bs = hdB 65535 0 ++ bs.take 65535 ++ storedL (bs.drop 65535) := by
  unfold storedL
  rw [storedF, if_neg h, storedF_more _ ((bs.drop 65535).length + 1) (bs.drop 65535) (by rw [List.length_drop]; omega) (by omega)]
theorem hdB_length (n f : Nat) : (hdB n f).length = 5 := rfl
theorem storedF_length : ∀ (k : Nat) (bs : List Int), (storedF k bs).length ≤ bs.length + 5 * k := by
  intro k
  induction k with
  | zero => intro bs; simp [storedF]
  | succ k ih =>
    intro bs
    rw [storedF]
    split
    · rw [List.length_append, hdB_length]; omega
    · have := ih (bs.drop 65535)
      rw [List.length_append, List.length_append, hdB_length, List.length_take]
      rw [List.length_drop] at this
      omega
theorem stored_length (bs : List Int) : (storedL bs).length ≤ 6 * bs.length + 5 := by
  have := storedF_length (bs.length + 1) bs
  unfold storedL; omega
theorem hdB_bytes {n f : Nat} (hn : n ≤ 65535) (hf : f ≤ 1) : IsBytes (hdB n f) := by
  intro b hb
  simp only [hdB, List.mem_cons, List.not_mem_nil, or_false] at hb
  rcases hb with rfl | rfl | rfl | rfl | rfl <;> omega
theorem IsBytes.app {a b : List Int} (ha : IsBytes a) (hb : IsBytes b) : IsBytes (a ++ b) := fun x hx => (List.mem_append.1 hx).elim (ha x) (hb x)
/-! Bits. -/
theorem bitsOf_append (a b : List Int) : bitsOf (a ++ b) = bitsOf a ++ bitsOf b := by
  apply List.ext_getElem?
  intro i
  have key : ∀ (c : List Int) (i : Nat), (bitsOf c)[i]? = if i < 8 * c.length then some (bitAt c i) else none := by
    intro c i
    unfold bitsOf
    by_cases h : i < 8 * c.length
    · rw [if_pos h]; simp [h]
    · rw [if_neg h]; simp; omega
  rw [List.getElem?_append, key, key, key, bitsOf_length, List.length_append]
  by_cases h : i < 8 * a.length
  · rw [if_pos (by omega), if_pos h, if_pos h]
    congr 1
    unfold bitAt
    rw [List.getD_eq_getElem?_getD, List.getD_eq_getElem?_getD, List.getElem?_append_left (by omega)]
  · rw [if_neg h]
    by_cases h2 : i < 8 * (a.length + b.length)
    · rw [if_pos h2, if_pos (by omega)]
      congr 1
      unfold bitAt
      rw [List.getD_eq_getElem?_getD, List.getD_eq_getElem?_getD, List.getElem?_append_right (by omega)]
      rw [show i / 8 - a.length = (i - 8 * a.length) / 8 by omega, show i % 8 = (i - 8 * a.length) % 8 by omega]
    · rw [if_neg h2, if_neg (by omega)]
theorem bitsN_getD' (x n i : Nat) : (bitsN x n).getD i false = (decide (i < n) && x.testBit i) := by
  unfold bitsN
  rw [List.getD_eq_getElem?_getD]
  by_cases h : i < n
  · simp [h]
  · simp [h]
theorem bits_ext {a b : List Bool} (hl : a.length = b.length) (h : ∀ i, i < a.length → a.getD i false = b.getD i false) : a = b := by
  apply List.ext_getElem hl
  intro i h1 h2
  have := h i h1
  rw [List.getD_eq_getElem?_getD, List.getD_eq_getElem?_getD, List.getElem?_eq_getElem h1, List.getElem?_eq_getElem h2] at this
  exact this
theorem bitsOf_one (x : Nat) (h : x < 256) : bitsOf [(x : Int)] = bitsN x 8 := by
  refine bits_ext (by rw [bitsOf_length, bitsN_length]; rfl) fun i hi => ?_
  rw [bitsOf_length] at hi
  have hi8 : i < 8 := by simpa using hi
  rw [bitsOf_getD, bitsN_getD', decide_eq_true hi8, Bool.true_and]
  unfold bitAt
  rw [show i / 8 = 0 by omega, show i % 8 = i by omega]
  rfl
theorem bitsN_app (x k n : Nat) : bitsN x (k + n) = bitsN x k ++ bitsN (x / 2 ^ k) n := by
  refine bits_ext (by rw [List.length_append, bitsN_length, bitsN_length, bitsN_length]) fun i hi => ?_
  rw [bitsN_length] at hi
  rw [bitsN_getD', decide_eq_true hi, Bool.true_and]
  by_cases h : i < k
  · rw [List.getD_eq_getElem?_getD, List.getElem?_append_left (by rw [bitsN_length]; exact h), ← List.getD_eq_getElem?_getD, bitsN_getD', decide_eq_true h, Bool.true_and]
  · rw [List.getD_eq_getElem?_getD, List.getElem?_append_right (by rw [bitsN_length]; omega), ← List.getD_eq_getElem?_getD, bitsN_getD', bitsN_length, decide_eq_true (by omega), Bool.true_and, Nat.testBit_div_two_pow]
    congr 1; omega
theorem bitsN_mod (x n m : Nat) (h : n ≤ m) : bitsN (x % 2 ^ m) n = bitsN x n := by
  refine bits_ext (by rw [bitsN_length, bitsN_length]) fun i hi => ?_
  rw [bitsN_length] at hi
  rw [bitsN_getD', bitsN_getD', Nat.testBit_mod_two_pow, decide_eq_true hi, decide_eq_true (show i < m by omega)]
  simp
theorem bits16 (n : Nat) (h : n < 65536) : bitsN n 16 = bitsOf [((n % 256 : Nat) : Int), ((n / 256 : Nat) : Int)] := by
  rw [show [((n % 256 : Nat) : Int), ((n / 256 : Nat) : Int)] = [((n % 256 : Nat) : Int)] ++ [((n / 256 : Nat) : Int)] from rfl, bitsOf_append, bitsOf_one _ (by omega), bitsOf_one _ (by omega)]
  rw [show (16 : Nat) = 8 + 8 from rfl, bitsN_app]
  rw [show n % 256 = n % 2 ^ 8 from rfl, bitsN_mod _ _ _ (Nat.le_refl 8)]
theorem aligned_off {L : List Bool} (h : L.length % 8 = 0) : aligned L = L := by
  unfold aligned
  rw [show (8 - L.length % 8) % 8 = 0 by omega]; simp
theorem aligned_three {L : List Bool} (h : L.length % 8 = 0) (f : Nat) (hf : f ≤ 1) : aligned (L ++ bitsN f 3) = L ++ bitsOf [(f : Int)] := by
  unfold aligned
  rw [List.length_append, bitsN_length, show (8 - (L.length + 3) % 8) % 8 = 5 by omega, List.append_assoc, bitsOf_one f (by omega), show (8 : Nat) = 3 + 5 from rfl, bitsN_app]
  congr 2
  rw [show f / 2 ^ 3 = 0 by omega]
  rfl
/-- A stored block's bits. -/
theorem stored_bits (acc : List Int) (n f : Nat) (hn : n ≤ 65535) (hf : f ≤ 1) : aligned (bitsOf acc ++ bitsN f 3) ++ bitsN n 16 ++ bitsN (65535 - n) 16 = bitsOf (acc ++ hdB n f) := by
  rw [aligned_three (by rw [bitsOf_length]; omega) f hf, bits16 n (by omega), bits16 (65535 - n) (by omega), ← bitsOf_append, ← bitsOf_append, ← bitsOf_append]
  congr 1
  unfold hdB
  rw [show (65535 - n) % 256 = 255 - n % 256 by omega, show (65535 - n) / 256 = 255 - n / 256 by omega]
  simp
theorem off_bytes (acc : List Int) : aligned (bitsOf acc) = bitsOf acc := aligned_off (by rw [bitsOf_length]; omega)
/-! Fixed. -/
/-- A literal's bits in a fixed block. -/
def litB (x : Nat) : List Bool := if x < 144 then bitsN (BP.rev (48 + x) 8) 8 else bitsN (BP.rev (400 + x - 144) 9) 9
def litsB (bs : List Int) : List Bool := bs.flatMap fun b => litB b.toNat
/-- The bytes of a fixed block. -/
def fixedL (bs : List Int) : List Int := pack (bitsN 3 3 ++ litsB bs ++ bitsN 0 7)
theorem litB_length (x : Nat) : (litB x).length ≤ 9 := by unfold litB; split <;> rw [bitsN_length] <;> omega
theorem litsB_take (bs : List Int) (k : Nat) (h : k < bs.length) : litsB (bs.take (k + 1)) = litsB (bs.take k) ++ litB (bs.getD k 0).toNat := by
  unfold litsB
  rw [List.take_succ_eq_append_getElem h, List.flatMap_append, List.getD_eq_getElem?_getD, List.getElem?_eq_getElem h]
  simp
theorem litsB_length : ∀ bs : List Int, (litsB bs).length ≤ 9 * bs.length := by
  intro bs
  induction bs with
  | nil => simp [litsB]
  | cons b t ih =>
    have := litB_length b.toNat
    unfold litsB at ih ⊢
    rw [List.flatMap_cons, List.length_append, List.length_cons]; omega
/-- The lengths of a fixed block's codes. -/
def fixLit : List Int := List.replicate 144 8 ++ List.replicate 112 9 ++ List.replicate 24 7 ++ List.replicate 8 8
def fixDist : List Int := List.replicate 32 5
end Go.Proofs.Ytjbckpfhenogiaa.Hw
/- flate.Stored, walked. -/
namespace Go.Proofs.Ytjbckpfhenogiaa.Hw
open Go.RowKit Go.Proofs.YtjbckpfhenogiaaW.PrintWords Go.Proofs.YtjbckpfhenogiaaW.PrintLast Go.Proofs.YtjbckpfhenogiaaW.PrintMore Go.Proofs.Ytjbckpfhenogiaa.PH
set_option linter.unusedVariables false
set_option linter.unusedSimpArgs false
attribute [local go_sem] max2_int min2_int
theorem xor_ones (n : Nat) (h : n ≤ 65535) : n ^^^ 65535 = 65535 - n := by
  apply Nat.eq_of_testBit_eq
  intro i
  rw [Nat.testBit_xor, show 65535 - n = 2 ^ 16 - (n + 1) by omega, Nat.testBit_two_pow_sub_succ (by omega), show (65535 : Nat) = 2 ^ 16 - 1 from rfl, Nat.testBit_two_pow_sub_one]
  by_cases hi : i < 16
  · simp [hi]
  · rw [decide_eq_false hi, Nat.testBit_lt_two_pow (Nat.lt_of_lt_of_le (show n < 2 ^ 16 by omega) (Nat.pow_le_pow_right (by omega) (by omega)))]; rfl
theorem xor_i64 (n : Nat) (h : n ≤ 65535) : bits .xor .i64 (n : Int) 65535 = ((65535 - n : Nat) : Int) := by
  have e : bits .xor .i64 (n : Int) ((65535 : Nat) : Int) = IntKind.i64.wrap (((n ^^^ 65535 : Nat)) : Int) := by
    have hp : (65535 : Nat) < 2 ^ IntKind.i64.bits := by decide
    have ha' : n % 2 ^ IntKind.i64.bits = n := Nat.mod_eq_of_lt (by omega)
    have hb' : 65535 % 2 ^ IntKind.i64.bits = 65535 := Nat.mod_eq_of_lt hp
    simp only [bits, BitVec.ofInt_natCast, BitVec.toNat_xor, BitVec.toNat_ofNat, ha', hb']
  rw [show (65535 : Int) = ((65535 : Nat) : Int) from rfl, e, xor_ones n h]
  exact IntWalk.i64_in _ (by omega)
theorem slice_len (A : Option Addr) (n c : Nat) : (match (Value.slice A n c) with | .slice _ n _ => n | _ => 0) = n := rfl
def lenOf (v : Value) : Nat := match v with | .slice _ n _ => n | _ => 0
/-- Between two rounds of Stored. -/
def StS (w wr : World) (bs : List Int) (k : Nat) (v : Value) : Prop :=
  ∃ acc : List Int, WS w.heap.size wr w.heap.size v (bitsOf acc) ∧ Below w.heap.size w wr ∧ acc ++ storedL (bs.drop k) = storedL bs ∧ IsBytes acc
set_option maxRecDepth 100000 in
set_option maxHeartbeats 4000000 in
theorem stored_calls (A0 : Option Addr) (c0 : Nat) (bs : List Int) (w : World) (hr0 : Kd.C (Kd.int .u8) w A0 bs.length bs) (hc0 : bs.length ≤ c0) (hb : IsBytes bs) (hl : bs.length ≤ 1048576) :
    Calls Try.prog 10 #[.slice A0 bs.length c0] w fun e w' => ∃ u, e = .returned u ∧ Kd.R (Kd.int .u8) 5 w' w.heap.size (fun _ => True) u (storedL bs) ∧ Below w.heap.size w w' := by
  have HR := Aside0.mk hr0
  have HB := Aside0.mk hb
  have HC := Aside0.mk hc0
  have HL := Aside0.mk hl
  clear hr0 hb hc0 hl
  go_enter Try.func10, Try.ntmps10
  go_wp2_with fail
  refine (newWriter_calls w).mono ?_
  rintro e w1 ⟨rfl, hws, hbw, hsz⟩
  have HS0 : Aside0 (StS w w1 bs 0 (.slice none 0 0)) := ⟨[], hws, hbw, by simp, fun b h => by cases h⟩
  clear hws hbw hsz
  go_wp2
  go_loopw [0] (fun b wr => ∃ (k : Nat) (A : Option Addr) (c : Nat) (v : Value), k ≤ bs.length ∧ b = .slice A (bs.length - k) c ∧ bs.length - k ≤ c ∧ Aside0 (Kd.C (Kd.int .u8) w A (bs.drop k).length (bs.drop k)) ∧ Aside0 (StS w wr bs k v)) (fun b _ => lenOf b)
  case atStart => exact ⟨0, A0, c0, _, Nat.zero_le _, rfl, by have := HC.out; omega, ⟨by simpa using HR.out⟩, HS0⟩
  case round =>
    obtain ⟨k, A, c, v, hk, rfl, hcc, HA, HS⟩ := hrel
    have hl := HL.out
    have hdl : (bs.drop k).length = bs.length - k := List.length_drop
    obtain ⟨n, hn⟩ : ∃ n, n = bs.length - k := ⟨_, rfl⟩
    rw [← hn] at hcc hdl ⊢
    rw [hdl] at HA
    obtain ⟨acc, hws, hbw, hacc, hab⟩ := HS.out
    have HW := Aside0.mk hws
    have HBW := Aside0.mk hbw
    have HAB := Aside0.mk hab
    have HAC := Aside0.mk hacc
    have HSZ : Aside0 ((bitsOf acc).length ≤ 8 * (6 * bs.length + 5)) := ⟨by
      rw [bitsOf_length]
      have h1 := congrArg List.length hacc
      rw [List.length_append] at h1
      have h2 := stored_length bs
      omega⟩
    have HD := Aside0.mk hdl
    have HN := Aside0.mk hn
    have HLE := Aside0.mk (hbw.size)
    have hsz := HSZ.out
    clear hws hbw hacc hab HS hn hdl hk
    by_cases hle : n ≤ 65535
    · have hnb : n ≤ bs.length := by have := HN.out; omega
      have m1 : min (n : Int) 65535 = n := by omega
      have HX := Aside0.mk (xor_i64 n hle)
      have HW1 : Aside0 (IntKind.u32.wrap (n : Int) = n) := ⟨u32_selfW _ (by omega) (by omega)⟩
      have HW2 : Aside0 (IntKind.u32.wrap ((65535 - n : Nat) : Int) = ((65535 - n : Nat) : Int)) := ⟨u32_selfW _ (by omega) (by omega)⟩
      have HMN : Aside0 (n ≤ n ∧ n ≤ 65535) := ⟨Nat.le_refl _, hle⟩
      have HTOT : Aside0 ((bitsOf acc).length + 3 + 16 + 16 + 8 + 8 * n ≤ 1125899906809856) := ⟨by omega⟩
      obtain ⟨i5, hi5, hsz5⟩ := infoS1
      have hcutT := cut_to (P := Try.prog) 22 5 .i64 Try.underlying22 hi5 A n c (n : Int) (by omega) (by omega) hcc
      have hcutF := cut_from (P := Try.prog) 22 5 .i64 Try.underlying22 hi5 1 hsz5 A n c (n : Int) (by omega) (by omega)
      rw [Int.toNat_natCast] at hcutT hcutF
      have HC0 : Aside0 (Kd.C (Kd.int .u8) w A (bs.drop k).length (bs.drop k)) := ⟨by rw [HD.out]; exact HA.out⟩
      have HT := Aside0.mk (Kd.C_take (m := n) HC0.out (by rw [HD.out]; omega))
      have HF := Aside0.mk (Kd.C_drop (m := n) HC0.out (by rw [HD.out]; omega) (by rw [HD.out]; exact hcc))
      rw [show Kd.sz (Kd.int .u8) = 1 from rfl] at HF
      have HLT : Aside0 (((bs.drop k).take n).length = n) := ⟨by rw [List.length_take, HD.out]; omega⟩
      have HLD : Aside0 (((bs.drop k).drop n).length = n - n) := ⟨by rw [List.length_drop, HD.out]⟩
      rw [HLT.out] at HT
      rw [HLD.out] at HF
      have HIB : Aside0 (IsBytes ((bs.drop k).take n)) := ⟨fun x hx => HB.out x (List.mem_of_mem_drop (List.mem_of_mem_take hx))⟩
      obtain ⟨r, hr⟩ : ∃ r, r = n - n := ⟨_, rfl⟩
      rw [← hr] at hcutF HF
      have HRR := Aside0.mk hr
      obtain ⟨AD, hAD⟩ : ∃ AD, AD = (if c = n then A else A.map (·.add (n * 1))) := ⟨_, rfl⟩
      rw [← hAD] at hcutF HF
      clear hAD hi5 hsz5 hr hsz hl hnb HC0
      go_wp2_with fail
      refine (wbits_ok w.heap.size w.heap.size v (bitsOf acc) wr 1 3 HW.out HLE.out (by decide) (by decide) (by decide) (by have := HTOT.out; omega)).mono ?_
      rintro e w2 ⟨rfl, v2, hs2, hf2⟩
      have HS2 := Aside0.mk hs2
      have HF2 := Aside0.mk hf2
      have HZ2 : Aside0 (w.heap.size ≤ w2.heap.size) := ⟨Nat.le_trans HLE.out hf2.1.1⟩
      clear hs2 hf2
      go_wp2_with fail
      refine (walign_calls w.heap.size w.heap.size v2 (bitsOf acc ++ bitsN 1 3) w2 HS2.out HZ2.out (by have := HTOT.out; rw [List.length_append, bitsN_length]; omega)).mono ?_
      rintro e w3 ⟨rfl, hs3, hf3⟩
      have HS3 := Aside0.mk hs3
      have HF3 := Aside0.mk (HF2.out.trans hf3 HLE.out)
      have HZ3 : Aside0 (w.heap.size ≤ w3.heap.size) := ⟨Nat.le_trans HZ2.out hf3.1.1⟩
      have HL3 : Aside0 ((aligned (bitsOf acc ++ bitsN 1 3)).length ≤ (bitsOf acc).length + 11) := ⟨by rw [aligned_length, List.length_append, bitsN_length]; omega⟩
      clear hs3 hf3 HS2 HF2 HZ2
      have hw1 := HW1.out
      go_wp2_with fail
      clear hw1
      refine (wbits_ok w.heap.size w.heap.size v2 (aligned (bitsOf acc ++ bitsN 1 3)) w3 n 16 HS3.out HZ3.out (by decide) (by omega) (bitLen_le (by omega)) (by have := HTOT.out; have := HL3.out; omega)).mono ?_
      rintro e w4 ⟨rfl, v4, hs4, hf4⟩
      have HS4 := Aside0.mk hs4
      have HF4 := Aside0.mk (HF3.out.trans hf4 HLE.out)
      have HZ4 : Aside0 (w.heap.size ≤ w4.heap.size) := ⟨Nat.le_trans HZ3.out hf4.1.1⟩
      clear hs4 hf4 HS3 HF3 HZ3
      have hx := HX.out
      have hw2 := HW2.out
      go_wp2_with fail
      clear hx hw2
      refine (wbits_ok w.heap.size w.heap.size v4 (aligned (bitsOf acc ++ bitsN 1 3) ++ bitsN n 16) w4 (65535 - n) 16 HS4.out HZ4.out (by decide) (by omega) (bitLen_le (by omega)) (by have := HTOT.out; have := HL3.out; rw [List.length_append, bitsN_length]; omega)).mono ?_
      rintro e w5 ⟨rfl, v5, hs5, hf5⟩
      have e5 := stored_bits acc n 1 (by omega) (by decide)
      rw [e5] at hs5
      have HS5 := Aside0.mk hs5
      have HF5 := Aside0.mk (HF4.out.trans hf5 HLE.out)
      have HZ5 : Aside0 (w.heap.size ≤ w5.heap.size) := ⟨Nat.le_trans HZ4.out hf5.1.1⟩
      clear hs5 hf5 HS4 HF4 HZ4 e5
      have HC5 : Aside0 (Kd.C (Kd.int .u8) w5 A n ((bs.drop k).take n)) := ⟨Kd.C_below HT.out (HBW.out.trans HF5.out.2.1)⟩
      have HLB : Aside0 ((bitsOf (acc ++ hdB n 1)).length = (bitsOf acc).length + 40) := ⟨by rw [bitsOf_length, bitsOf_length, List.length_append, hdB_length]; omega⟩
      go_wp2_with fail
      have hwb := wbytes_calls w.heap.size w.heap.size v5 (bitsOf (acc ++ hdB n 1)) w5 A c ((bs.drop k).take n) HS5.out HZ5.out (by rw [HLT.out]; exact HC5.out) (by rw [HLT.out]; omega) HIB.out (by rw [HLB.out, HLT.out]; have := HTOT.out; omega)
      rw [HLT.out] at hwb
      have HWB := Aside0.mk hwb
      clear hwb
      refine HWB.out.mono ?_
      rintro e w6 ⟨rfl, v6, hs6, hf6⟩
      rw [off_bytes, ← bitsOf_append] at hs6
      have HS6 := Aside0.mk hs6
      have HF6 := Aside0.mk (HF5.out.trans hf6 HLE.out)
      have HZ6 : Aside0 (w.heap.size ≤ w6.heap.size) := ⟨Nat.le_trans HZ5.out hf6.1.1⟩
      clear hs6 hf6 HS5 HF5 HZ5 HWB HC5
      have HAA : Aside0 (acc ++ hdB n 1 ++ (bs.drop k).take n = storedL bs) := ⟨by
        have h := HAC.out
        rw [stored_last (by rw [HD.out]; exact HMN.out.2), HD.out] at h
        rw [List.take_of_length_le (by rw [HD.out]; exact Nat.le_refl _), List.append_assoc]; exact h⟩
      have HIA : Aside0 (IsBytes (storedL bs)) := ⟨by rw [← HAA.out]; exact IsBytes.app (IsBytes.app HAB.out (hdB_bytes HMN.out.2 (by decide))) HIB.out⟩
      rw [HAA.out] at HS6
      have HLS : Aside0 ((bitsOf (storedL bs)).length ≤ 1125899906809856) := ⟨by rw [bitsOf_length]; have := stored_length bs; have := HL.out; omega⟩
      go_wp2_with fail
      refine (wout_calls w.heap.size w.heap.size v6 (bitsOf (storedL bs)) w6 HS6.out HLS.out).mono ?_
      rintro e w7 ⟨u, rfl, hu, hb7⟩
      rw [pack_bitsOf HIA.out] at hu
      have HU := Aside0.mk hu
      have HB7 : Aside0 (Below w.heap.size w w7) := ⟨(HBW.out.trans HF6.out.2.1).trans (hb7.mono HZ6.out)⟩
      clear hu hb7
      go_wp2
      go_ret
      exact ⟨u, rfl, Kd.R_lower HU.out HZ6.out, HB7.out⟩
    · have hnb : n ≤ bs.length := by have := HN.out; omega
      have m1 : min (n : Int) 65535 = 65535 := by omega
      have t1 : ((65535 : Int) == (n : Int)) = false := by simp; omega
      have t2 : ((n : Int) == 65535) = false := by simp; omega
      have HMN : Aside0 (65535 ≤ n ∧ ¬ n ≤ 65535) := ⟨by omega, hle⟩
      have HTOT : Aside0 ((bitsOf acc).length + 3 + 16 + 16 + 8 + 8 * n ≤ 1125899906809856) := ⟨by omega⟩
      obtain ⟨i5, hi5, hsz5⟩ := infoS1
      have hcutT := cut_to (P := Try.prog) 22 5 .i64 Try.underlying22 hi5 A n c (65535 : Int) (by omega) (by omega) hcc
      have hcutF := cut_from (P := Try.prog) 22 5 .i64 Try.underlying22 hi5 1 hsz5 A n c (65535 : Int) (by omega) (by omega)
      rw [show (65535 : Int).toNat = 65535 from rfl] at hcutT hcutF
      have HC0 : Aside0 (Kd.C (Kd.int .u8) w A (bs.drop k).length (bs.drop k)) := ⟨by rw [HD.out]; exact HA.out⟩
      have HT := Aside0.mk (Kd.C_take (m := 65535) HC0.out (by rw [HD.out]; omega))
      have HF := Aside0.mk (Kd.C_drop (m := 65535) HC0.out (by rw [HD.out]; omega) (by rw [HD.out]; exact hcc))
      rw [show Kd.sz (Kd.int .u8) = 1 from rfl] at HF
      have HLT : Aside0 (((bs.drop k).take 65535).length = 65535) := ⟨by rw [List.length_take, HD.out]; omega⟩
      have HLD : Aside0 (((bs.drop k).drop 65535).length = n - 65535) := ⟨by rw [List.length_drop, HD.out]⟩
      rw [HLT.out] at HT
      rw [HLD.out] at HF
      have HIB : Aside0 (IsBytes ((bs.drop k).take 65535)) := ⟨fun x hx => HB.out x (List.mem_of_mem_drop (List.mem_of_mem_take hx))⟩
      obtain ⟨r, hr⟩ : ∃ r, r = n - 65535 := ⟨_, rfl⟩
      rw [← hr] at hcutF HF
      have HRR := Aside0.mk hr
      obtain ⟨AD, hAD⟩ : ∃ AD, AD = (if c = 65535 then A else A.map (·.add (65535 * 1))) := ⟨_, rfl⟩
      rw [← hAD] at hcutF HF
      clear hAD hi5 hsz5 hr hsz hl hnb HC0
      go_wp2_with fail
      refine (wbits_ok w.heap.size w.heap.size v (bitsOf acc) wr 0 3 HW.out HLE.out (by decide) (by decide) (by decide) (by have := HTOT.out; omega)).mono ?_
      rintro e w2 ⟨rfl, v2, hs2, hf2⟩
      have HS2 := Aside0.mk hs2
      have HF2 := Aside0.mk hf2
      have HZ2 : Aside0 (w.heap.size ≤ w2.heap.size) := ⟨Nat.le_trans HLE.out hf2.1.1⟩
      clear hs2 hf2
      go_wp2_with fail
      refine (walign_calls w.heap.size w.heap.size v2 (bitsOf acc ++ bitsN 0 3) w2 HS2.out HZ2.out (by have := HTOT.out; rw [List.length_append, bitsN_length]; omega)).mono ?_
      rintro e w3 ⟨rfl, hs3, hf3⟩
      have HS3 := Aside0.mk hs3
      have HF3 := Aside0.mk (HF2.out.trans hf3 HLE.out)
      have HZ3 : Aside0 (w.heap.size ≤ w3.heap.size) := ⟨Nat.le_trans HZ2.out hf3.1.1⟩
      have HL3 : Aside0 ((aligned (bitsOf acc ++ bitsN 0 3)).length ≤ (bitsOf acc).length + 11) := ⟨by rw [aligned_length, List.length_append, bitsN_length]; omega⟩
      clear hs3 hf3 HS2 HF2 HZ2
      go_wp2_with fail
      skip
      refine (wbits_ok w.heap.size w.heap.size v2 (aligned (bitsOf acc ++ bitsN 0 3)) w3 65535 16 HS3.out HZ3.out (by decide) (by decide) (by decide) (by have := HTOT.out; have := HL3.out; omega)).mono ?_
      rintro e w4 ⟨rfl, v4, hs4, hf4⟩
      have HS4 := Aside0.mk hs4
      have HF4 := Aside0.mk (HF3.out.trans hf4 HLE.out)
      have HZ4 : Aside0 (w.heap.size ≤ w4.heap.size) := ⟨Nat.le_trans HZ3.out hf4.1.1⟩
      clear hs4 hf4 HS3 HF3 HZ3
      have hx : bits .xor .i64 65535 65535 = 0 := by decide
      go_wp2_with fail
      clear hx
      refine (wbits_ok w.heap.size w.heap.size v4 (aligned (bitsOf acc ++ bitsN 0 3) ++ bitsN 65535 16) w4 0 16 HS4.out HZ4.out (by decide) (by decide) (by decide) (by have := HTOT.out; have := HL3.out; rw [List.length_append, bitsN_length]; omega)).mono ?_
      rintro e w5 ⟨rfl, v5, hs5, hf5⟩
      have e5 := stored_bits acc 65535 0 (by omega) (by decide)
      rw [show (65535 - 65535 : Nat) = 0 from rfl] at e5
      rw [e5] at hs5
      have HS5 := Aside0.mk hs5
      have HF5 := Aside0.mk (HF4.out.trans hf5 HLE.out)
      have HZ5 : Aside0 (w.heap.size ≤ w5.heap.size) := ⟨Nat.le_trans HZ4.out hf5.1.1⟩
      clear hs5 hf5 HS4 HF4 HZ4 e5
      have HC5 : Aside0 (Kd.C (Kd.int .u8) w5 A 65535 ((bs.drop k).take 65535)) := ⟨Kd.C_below HT.out (HBW.out.trans HF5.out.2.1)⟩
      have HLB : Aside0 ((bitsOf (acc ++ hdB 65535 0)).length = (bitsOf acc).length + 40) := ⟨by rw [bitsOf_length, bitsOf_length, List.length_append, hdB_length]; omega⟩
      go_wp2_with fail
      have hwb := wbytes_calls w.heap.size w.heap.size v5 (bitsOf (acc ++ hdB 65535 0)) w5 A c ((bs.drop k).take 65535) HS5.out HZ5.out (by rw [HLT.out]; exact HC5.out) (by rw [HLT.out]; omega) HIB.out (by rw [HLB.out, HLT.out]; have := HTOT.out; omega)
      rw [HLT.out] at hwb
      have HWB := Aside0.mk hwb
      clear hwb
      refine HWB.out.mono ?_
      rintro e w6 ⟨rfl, v6, hs6, hf6⟩
      rw [off_bytes, ← bitsOf_append] at hs6
      have HS6 := Aside0.mk hs6
      have HF6 := Aside0.mk (HF5.out.trans hf6 HLE.out)
      have HZ6 : Aside0 (w.heap.size ≤ w6.heap.size) := ⟨Nat.le_trans HZ5.out hf6.1.1⟩
      clear hs6 hf6 HS5 HF5 HZ5 HWB HC5
      have HAA : Aside0 (acc ++ hdB 65535 0 ++ (bs.drop k).take 65535 ++ storedL (bs.drop (k + 65535)) = storedL bs) := ⟨by
        have h := HAC.out
        rw [stored_more (by rw [HD.out]; exact HMN.out.2), List.drop_drop] at h
        rw [← h]; simp only [List.append_assoc]⟩
      have HIA : Aside0 (IsBytes (acc ++ hdB 65535 0 ++ (bs.drop k).take 65535)) := ⟨IsBytes.app (IsBytes.app HAB.out (hdB_bytes (by decide) (by decide))) HIB.out⟩
      have HQ1 : Aside0 (k + 65535 ≤ bs.length) := ⟨by have := HN.out; have := HMN.out; omega⟩
      have HQ2 : Aside0 (bs.length - (k + 65535) = r) := ⟨by have := HN.out; have := HRR.out; omega⟩
      have HQ3 : Aside0 (r ≤ c - 65535) := ⟨by have := HRR.out; omega⟩
      have HQ4 : Aside0 (Kd.C (Kd.int .u8) w AD (bs.drop (k + 65535)).length (bs.drop (k + 65535))) := ⟨by
        have h := HF.out
        rw [List.drop_drop] at h
        rw [show (bs.drop (k + 65535)).length = r by rw [List.length_drop]; exact HQ2.out]
        exact h⟩
      go_wp2
      go_roundw
      case rel => exact ⟨k + 65535, AD, _, v6, HQ1.out, by rw [HQ2.out], by rw [HQ2.out]; exact HQ3.out, HQ4, ⟨_, HS6.out, HBW.out.trans HF6.out.2.1, HAA.out, HIA.out⟩⟩
      case measure =>
        show r < n
        have := HRR.out
        have := HMN.out
        omega
end Go.Proofs.Ytjbckpfhenogiaa.Hw
