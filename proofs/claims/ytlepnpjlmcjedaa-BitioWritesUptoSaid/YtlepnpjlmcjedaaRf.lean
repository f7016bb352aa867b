import Derived.Test.YtlepnpjlmcjedaaDread
import Derived.Test.YtlepnpjlmcjedaaPHx4
/- The document's Reader, walked. -/
namespace Go.Proofs.Ytlepnpjlmcjedaa.Hw
open Go.RowKit Go.Proofs.YtlepnpjlmcjedaaW.PrintWords Go.Proofs.YtlepnpjlmcjedaaW.PrintLast Go.Proofs.YtlepnpjlmcjedaaW.PrintMore Go.Proofs.Ytlepnpjlmcjedaa.PH
set_option linter.unusedVariables false
set_option linter.unusedSimpArgs false
/-- A document's reader at block g, over bytes that came in, that stands at a bit. -/
def RfS (w0 w : World) (g : Nat) (A : Option Addr) (c : Nat) (bs : List Int) (at_ : Nat) : Prop :=
  w.heap[g]? = some (.cells #[.slice A bs.length c, .int .i64 (at_ : Int)] 42 (0, 0)) ∧ bs.length ≤ c ∧ w0.heap.size ≤ g ∧ Kd.C (Kd.int .u8) w0 A bs.length bs ∧ Below w0.heap.size w0 w
section
variable {w0 w w' : World} {g c at_ : Nat} {A : Option Addr} {bs : List Int}
theorem RfS.cells (h : RfS w0 w g A c bs at_) : w.cell? ⟨g, 0, none⟩ = some (.slice A bs.length c) ∧ w.cell? ⟨g, 1, none⟩ = some (.int .i64 (at_ : Int)) ∧ w.frozen? ⟨g, 1, none⟩ = false :=
  ⟨(blk_cell h.1 0).trans rfl, (blk_cell h.1 1).trans rfl, blk_frozen h.1 1⟩
theorem RfS.C (h : RfS w0 w g A c bs at_) : Kd.C (Kd.int .u8) w A bs.length bs := Kd.C_below h.2.2.2.1 h.2.2.2.2
theorem RfS.drewN (h : RfS w0 w g A c bs at_) (n : Nat) : RfS w0 (w.drewN n) g A c bs at_ := ⟨h.1, h.2.1, h.2.2.1, h.2.2.2.1, pw_below_drewN h.2.2.2.2 n⟩
theorem RfS.set (h : RfS w0 w g A c bs at_) (n : Nat) : RfS w0 (w.setCell ⟨g, 1, none⟩ (.int .i64 (n : Int))) g A c bs n := by
  refine ⟨?_, h.2.1, h.2.2.1, h.2.2.2.1, h.2.2.2.2.setCell h.2.2.1 _⟩
  have := blk_set h.1 1 (.int .i64 (n : Int))
  simpa using this
theorem RfS.only {gr : Nat} (h : RfS w0 w g A c bs at_) (hk : Only gr w w') (hne : g ≠ gr) (hg : w0.heap.size ≤ gr) : RfS w0 w' g A c bs at_ := ⟨blk_kept h.1 hk.1 hne, h.2.1, h.2.2.1, h.2.2.2.1, h.2.2.2.2.trans (hk.below hg)⟩
theorem RfS.below (h : RfS w0 w g A c bs at_) (hb : Below w.heap.size w w') : RfS w0 w' g A c bs at_ := ⟨(hb.block g (blk_lt h.1)).trans h.1, h.2.1, h.2.2.1, h.2.2.2.1, below_step h.2.2.2.2 hb⟩
end
theorem nbits_succ (bs : List Int) (a k : Nat) : nbits bs a (k + 1) = nbits bs a k + (bitAt bs (a + k)).toNat * 2 ^ k := by
  show BP.numb _ k + (if bitAt bs (a + k) = true then 2 ^ k else 0) = _
  cases bitAt bs (a + k) <;> simp [nbits]
theorem ref1_bit_is (bs : List Int) (hb : IsBytes bs) (hl : bs.length ≤ 140737488355328) (k : Nat) : gridironref01_bit.f bs (k : Int) = some (((bitAt bs k).toNat : Nat) : Int) := by
  unfold gridironref01_bit.f
  have w1 : wrap64 (8 * (bs.length : Int)) = ((8 * bs.length : Nat) : Int) := w64n (by omega) (by omega)
  rw [w1]
  by_cases hk : k < 8 * bs.length
  · have e1 : Int.tdiv (k : Int) 8 = ((k / 8 : Nat) : Int) := by rw [Int.tdiv_eq_ediv_of_nonneg (by omega)]; omega
    have e2 : Int.tmod (k : Int) 8 = ((k % 8 : Nat) : Int) := by rw [Int.tmod_eq_emod_of_nonneg (by omega)]; omega
    have w2 : wrap64 ((k / 8 : Nat) : Int) = ((k / 8 : Nat) : Int) := w64n rfl (by omega)
    have hr := byte_range hb (k / 8)
    have erd : rd bs ((k / 8 : Nat) : Int) = ((bs.getD (k / 8) 0).toNat : Int) := by unfold rd; rw [Int.toNat_natCast]; omega
    rw [e1, e2, w2, if_neg (by omega), if_pos (by omega), if_pos (by omega), if_pos (by omega), erd]
    unfold bitAt
    generalize hbv : (bs.getD (k / 8) 0).toNat = b at *
    have hb8 : b ≤ 255 := by omega
    have e3 : shr .u8 (b : Int) ((k % 8 : Nat) : Int) = ((b / 2 ^ (k % 8) : Nat) : Int) := by
      unfold shr
      rw [Int.toNat_natCast, Nat.min_eq_left (show k % 8 ≤ IntKind.u8.bits from (by show k % 8 ≤ 8; omega)), two_pow_cast]; rfl
    have hle : b / 2 ^ (k % 8) ≤ b := Nat.div_le_self _ _
    rw [e3, Nat.testBit_eq_decide_div_mod_eq]
    generalize b / 2 ^ (k % 8) = y at *
    by_cases h : y % 2 = 1
    · rw [decide_eq_true h]; congr 1; show _ = (1 : Int); omega
    · rw [decide_eq_false h]; congr 1; show _ = (0 : Int); omega
  · rw [if_pos (by omega), bitAt_end (by omega)]; rfl
set_option maxRecDepth 100000 in
set_option maxHeartbeats 2000000 in
theorem rf_number (w0 : World) (g : Nat) (A : Option Addr) (c : Nat) (bs : List Int) (at_ n : Nat) (w : World) (hI : RfS w0 w g A c bs at_) (hb : IsBytes bs) (hl : bs.length ≤ 140737488351232) (ha : at_ ≤ 8 * bs.length) (hn : n ≤ 32) :
    Calls Try.prog 66 #[.pointer (some ⟨g, 0, none⟩), .int .i64 (n : Int)] w fun e w' => e = .returned (.int .u32 (nbits bs at_ n : Nat)) ∧ Drawn0 w w' := by
  have HI := Aside0.mk hI
  obtain ⟨hc0, hc1, _⟩ := hI.cells
  have HB := Aside0.mk (fun k => ref1_bit_is bs hb (by omega) k)
  clear hI hb
  go_enter Try.func66, Try.ntmps66
  go_wp2
  go_loopw [5, 6] (fun v i wr => ∃ k : Nat, k ≤ n ∧ i = .int .i64 k ∧ v = .int .u32 (nbits bs at_ k : Nat) ∧ Drawn0 w wr) (fun _ i _ => n - (intOf i).toNat)
  case atStart => exact ⟨0, Nat.zero_le _, rfl, rfl, Drawn0.refl _⟩
  case round =>
    obtain ⟨k, hk, rfl, rfl, ⟨n1, rfl⟩⟩ := hrel
    by_cases hlt : k < n
    · have h2 := nbits_succ bs at_ k
      have hlt2 := nbits_lt bs at_ (k + 1)
      have hp := pow_le_32 (k + 1) (by omega)
      have HIW := Aside0.mk (HI.out.drewN n1)
      have HW0 : Aside0 (∀ m, Drawn0 w ((w.drewN n1).drewN m)) := ⟨fun m => (⟨⟨n1, rfl⟩⟩ : Drawn0 w (w.drewN n1)).step m⟩
      obtain ⟨hx0, hx1, _⟩ := HIW.out.cells
      generalize w.drewN n1 = W at *
      have hbit := fun m => gridironref01_bit.calls A c bs ((at_ + k : Nat) : Int) _ (W.drewN m) (HIW.out.drewN m).C HI.out.2.1 (HB.out (at_ + k))
      have HBIT := Aside0.mk hbit
      have HLT := Aside0.mk (And.intro h2 (Nat.lt_of_lt_of_le hlt2 hp))
      clear h2 hlt2 hp hbit
      have hs1 : IntKind.i64.wrap ((at_ : Int) + (k : Int)) = (at_ : Int) + (k : Int) := IntWalk.i64_in _ (by omega)
      have HS2 : Aside0 (((at_ : Int) + (k : Int)) = ((at_ + k : Nat) : Int)) := ⟨by omega⟩
      go_wp2
      go_quiet ((go_at_call 71; rw [HS2.out]; exact Calls.quiet_of ((HBIT.out _).mono (fun e w' h => ⟨h.1, h.2.out⟩))))
      go_wp2
      refine ⟨?rel, ?measure⟩
      case rel =>
        refine ⟨k + 1, by omega, by go_num, ?_, ?_⟩
        · obtain ⟨e1, e2⟩ := HLT.out
          rw [e1, two_pow_cast] at *
          have e3 : ((((bitAt bs (at_ + k)).toNat : Nat) : Int) * ((2 ^ k : Nat) : Int)) = (((bitAt bs (at_ + k)).toNat * 2 ^ k : Nat) : Int) := by rw [Int.natCast_mul]
          rw [e3]
          generalize (bitAt bs (at_ + k)).toNat * 2 ^ k = y at *
          generalize nbits bs at_ k = z at *
          have e4 : ((z : Int) + (y : Int) % 4294967296) % 4294967296 = ((z + y : Nat) : Int) := by omega
          rw [e4]
        · exact HW0.out _
      case measure => simp [intOf]; omega
    · obtain rfl : k = n := by omega
      go_wp2
      go_ret
      exact ⟨rfl, ⟨_, rfl⟩⟩
set_option maxHeartbeats 1000000 in
theorem rf_left (w0 : World) (g : Nat) (A : Option Addr) (c : Nat) (bs : List Int) (at_ : Nat) (w : World) (hI : RfS w0 w g A c bs at_) (hl : bs.length ≤ 140737488351232) (ha : at_ ≤ 8 * bs.length) :
    Calls Try.prog 40 #[.pointer (some ⟨g, 0, none⟩)] w fun e w' => e = .returned (.int .i64 (8 * (bs.length : Int) - (at_ : Int))) ∧ Drawn0 w w' := by
  obtain ⟨hc0, hc1, _⟩ := hI.cells
  clear hI
  go_enter Try.func40, Try.ntmps40
  go_wp2
  go_quiet (fail)
  go_wp2
  go_ret
  exact ⟨rfl, by repeat (first | exact Drawn0.refl _ | apply Drawn0.step)⟩
set_option maxHeartbeats 1000000 in
theorem rf_used (w0 : World) (g : Nat) (A : Option Addr) (c : Nat) (bs : List Int) (at_ : Nat) (w : World) (hI : RfS w0 w g A c bs at_) (ha : at_ ≤ 8 * 140737488351232) :
    Calls Try.prog 42 #[.pointer (some ⟨g, 0, none⟩)] w fun e w' => e = .returned (.int .i64 (((at_ + 7) / 8 : Nat) : Int)) ∧ Drawn0 w w' := by
  obtain ⟨hc0, hc1, _⟩ := hI.cells
  clear hI
  go_enter Try.func42, Try.ntmps42
  go_wp2
  go_ret
  refine ⟨?_, Drawn0.refl _⟩
  have e : ((at_ : Int) + 7) / 8 = (((at_ + 7) / 8 : Nat) : Int) := by omega
  show Ending.returned (.int .i64 (((at_ : Int) + 7) / 8)) = _
  rw [e]
/-- What Bits and Peek come to: the number, the error, where the reader stands then. -/
def bitsRes (bs : List Int) (a : Nat) (n : Int) : Nat × Int × Nat := if n < 0 ∨ 32 < n then (0, 10, a) else if 8 * bs.length < a + n.toNat then (0, 11, a) else (nbits bs a n.toNat, 0, a + n.toNat)
def peekRes (bs : List Int) (a : Nat) (n : Int) : Nat × Int := if n < 0 ∨ 32 < n then (0, 10) else (nbits bs a n.toNat, 0)
def bytesRes (bs : List Int) (a : Nat) (n : Int) : List Int × Int × Nat := if n < 0 then ([], 10, a) else if bs.length < n.toNat + (a + 7) / 8 then ([], 11, a) else ((bs.drop ((a + 7) / 8)).take n.toNat, 0, 8 * ((a + 7) / 8 + n.toNat))
/-- A call turns block g alone, and makes what is new. -/
def OnlyN (g : Nat) (w w' : World) : Prop := Kept w w' (fun k => k = g) ∧ Below g w w'
theorem Only.n {g : Nat} {w w' : World} (h : Only g w w') : OnlyN g w w' := ⟨h.1, h.2.1⟩
theorem OnlyN.quiet {w w' : World} (h : Drawn0 w w') (g : Nat) : OnlyN g w w' := by obtain ⟨n, rfl⟩ := h; exact ⟨(Kept.refl _ _).drewN n, pw_below_drewN (Below.refl _ _) n⟩
theorem OnlyN.of {g b : Nat} {w w' : World} (hk : Kept w w' (fun k => k = g)) (hb : Below b w w') (hg : g < w.heap.size) : OnlyN g w w' := ⟨hk, ⟨hb.os, hb.tape, hb.output, hb.size, fun i hi => hk.2 i (by omega) (fun e => by omega)⟩⟩
theorem RdS.onlyN {base : Nat} {w w' : World} {g gr : Nat} {v : Value} {bs : List Int} {at_ : Nat} (h : RdS base w g v bs at_) (hk : OnlyN gr w w') (hg : g ≠ gr) (hv : ∀ j, v.ownBlock = some j → j ≠ gr) : RdS base w' g v bs at_ := h.kept hk.1 hg hv
theorem RfS.onlyN {w0 w w' : World} {g c at_ gr : Nat} {A : Option Addr} {bs : List Int} (h : RfS w0 w g A c bs at_) (hk : OnlyN gr w w') (hne : g ≠ gr) (hg : w0.heap.size ≤ gr) : RfS w0 w' g A c bs at_ := ⟨blk_kept h.1 hk.1 hne, h.2.1, h.2.2.1, h.2.2.2.1, h.2.2.2.2.trans (Below.mono hk.2 hg)⟩
/-! the program's reader, for every number -/
theorem rd_bits_all (base g : Nat) (v : Value) (bs : List Int) (a : Nat) (n : Int) (w : World) (hI : RdS base w g v bs a) (hb : IsBytes bs) (hl : bs.length ≤ 140737488351232) (ha : a ≤ 8 * bs.length) :
    Calls Try.prog 30 #[.pointer (some ⟨g, 0, none⟩), .int .i64 n] w fun e w' => e = .returned (.tuple #[.int .u32 ((bitsRes bs a n).1 : Nat), .int .i64 (bitsRes bs a n).2.1]) ∧ RdS base w' g v bs (bitsRes bs a n).2.2 ∧ OnlyN g w w' := by
  unfold bitsRes
  by_cases h1 : n < 0 ∨ 32 < n
  · rw [if_pos h1]
    refine (rd_bits_bad base g v bs a n w hI h1).mono ?_
    rintro e w' ⟨rfl, hq⟩
    exact ⟨rfl, hI.quiet hq, OnlyN.quiet hq g⟩
  · rw [if_neg h1]
    obtain ⟨m, rfl⟩ : ∃ m : Nat, n = (m : Int) := ⟨n.toNat, by omega⟩
    rw [Int.toNat_natCast]
    by_cases h2 : 8 * bs.length < a + m
    · rw [if_pos h2]
      refine (rd_bits_ends base g v bs a m w hI hb hl ha (by omega) h2).mono ?_
      rintro e w' ⟨rfl, hq⟩
      exact ⟨rfl, hI.quiet hq, OnlyN.quiet hq g⟩
    · rw [if_neg h2]
      refine (rd_bits_ok base g v bs a m w hI hb hl (by omega) (by omega)).mono ?_
      rintro e w' ⟨rfl, k, rfl⟩
      exact ⟨rfl, (hI.drewN k).set (a + m), (((Only.refl _ _).drewN k).set (blk_lt hI.1) _ _).n⟩
theorem rd_peek_all (base g : Nat) (v : Value) (bs : List Int) (a : Nat) (n : Int) (w : World) (hI : RdS base w g v bs a) (hb : IsBytes bs) (hl : bs.length ≤ 140737488351232) (ha : a ≤ 8 * bs.length) :
    Calls Try.prog 32 #[.pointer (some ⟨g, 0, none⟩), .int .i64 n] w fun e w' => e = .returned (.tuple #[.int .u32 ((peekRes bs a n).1 : Nat), .int .i64 (peekRes bs a n).2]) ∧ Drawn0 w w' := by
  unfold peekRes
  by_cases h1 : n < 0 ∨ 32 < n
  · rw [if_pos h1]
    exact rd_peek_bad base g v bs a n w hI h1
  · rw [if_neg h1]
    obtain ⟨m, rfl⟩ : ∃ m : Nat, n = (m : Int) := ⟨n.toNat, by omega⟩
    rw [Int.toNat_natCast]
    exact rd_peek_ok base g v bs a m w hI hb hl ha (by omega)
theorem rd_bytes_all (base g : Nat) (v : Value) (bs : List Int) (a : Nat) (n : Int) (w : World) (hI : RdS base w g v bs a) (hl : bs.length ≤ 140737488351232) (ha : a ≤ 8 * bs.length) :
    Calls Try.prog 36 #[.pointer (some ⟨g, 0, none⟩), .int .i64 n] w fun e w' => ∃ u, e = .returned (.tuple #[u, .int .i64 (bytesRes bs a n).2.1]) ∧ Kd.R (Kd.int .u8) 5 w' w.heap.size (fun _ => True) u (bytesRes bs a n).1 ∧ RdS base w' g v bs (bytesRes bs a n).2.2 ∧ OnlyN g w w' := by
  unfold bytesRes
  by_cases h1 : n < 0
  · rw [if_pos h1]
    refine (rd_bytes_neg base g v bs a n w hI h1).mono ?_
    rintro e w' ⟨rfl, hq⟩
    exact ⟨_, rfl, Kd.R_nil _ _ _ _ _, hI.quiet hq, OnlyN.quiet hq g⟩
  · rw [if_neg h1]
    obtain ⟨m, rfl⟩ : ∃ m : Nat, n = (m : Int) := ⟨n.toNat, by omega⟩
    rw [Int.toNat_natCast]
    by_cases h2 : bs.length < m + (a + 7) / 8
    · rw [if_pos h2]
      refine (rd_bytes_ends base g v bs a m w hI (by omega) hl (by omega) (by omega)).mono ?_
      rintro e w' ⟨rfl, hq⟩
      exact ⟨_, rfl, Kd.R_nil _ _ _ _ _, hI.quiet hq, OnlyN.quiet hq g⟩
    · rw [if_neg h2]
      refine (rd_bytes_ok' base g v bs a m w hI hl (by omega)).mono ?_
      rintro e w' ⟨u, rfl, hr, hx, hk, hb⟩
      exact ⟨u, rfl, hx, hr, OnlyN.of hk hb (blk_lt hI.1)⟩
theorem rd_align_all (base g : Nat) (v : Value) (bs : List Int) (a : Nat) (w : World) (hI : RdS base w g v bs a) (ha : a ≤ 8 * 140737488351232) :
    Calls Try.prog 34 #[.pointer (some ⟨g, 0, none⟩)] w fun e w' => e = .returned (.tuple #[]) ∧ RdS base w' g v bs (8 * ((a + 7) / 8)) ∧ OnlyN g w w' := by
  refine (rd_align base g v bs a w hI ha).mono ?_
  rintro e w' ⟨rfl, k, rfl⟩
  exact ⟨rfl, (hI.drewN k).set _, (((Only.refl _ _).drewN k).set (blk_lt hI.1) _ _).n⟩
/-! the document's reader, for every number -/
set_option maxRecDepth 100000 in
set_option maxHeartbeats 2000000 in
theorem rf_bits_all (w0 : World) (g : Nat) (A : Option Addr) (c : Nat) (bs : List Int) (a : Nat) (n : Int) (w : World) (hI : RfS w0 w g A c bs a) (hb : IsBytes bs) (hl : bs.length ≤ 140737488351232) (ha : a ≤ 8 * bs.length) :
    Calls Try.prog 31 #[.pointer (some ⟨g, 0, none⟩), .int .i64 n] w fun e w' => e = .returned (.tuple #[.int .u32 ((bitsRes bs a n).1 : Nat), .int .i64 (bitsRes bs a n).2.1]) ∧ RfS w0 w' g A c bs (bitsRes bs a n).2.2 ∧ OnlyN g w w' := by
  unfold bitsRes
  have HI := Aside0.mk hI
  have HL := Aside0.mk (fun W (hW : RfS w0 W g A c bs a) => rf_left w0 g A c bs a W hW hl ha)
  have HN := Aside0.mk (fun m W (hW : RfS w0 W g A c bs a) hm => rf_number w0 g A c bs a m W hW hb hl ha hm)
  have HG := Aside0.mk (blk_lt hI.1)
  clear hI hb
  by_cases h1 : n < 0 ∨ 32 < n
  · rw [if_pos h1]
    have hd : (decide (n < 0) = true) ∨ (decide (n < 0) = false ∧ decide (32 < n) = true) := by simp; omega
    clear h1
    rcases hd with h1 | ⟨h1, h2⟩
    all_goals
      go_enter Try.func31, Try.ntmps31
      go_wp2
      go_ret2
      exact ⟨rfl, HI.out, OnlyN.quiet (Drawn0.refl _) g⟩
  · rw [if_neg h1]
    obtain ⟨m, rfl⟩ : ∃ m : Nat, n = (m : Int) := ⟨n.toNat, by omega⟩
    rw [Int.toNat_natCast]
    have t1 : decide ((m : Int) < 0) = false := by simp
    have t2 : decide (32 < (m : Int)) = false := by simp; omega
    have hm : m ≤ 32 := by omega
    clear h1
    by_cases h2 : 8 * bs.length < a + m
    · rw [if_pos h2]
      have t3 : decide (8 * (bs.length : Int) - (a : Int) < (m : Int)) = true := by simp; omega
      clear h2
      go_enter Try.func31, Try.ntmps31
      go_wp2_with fail
      refine (HL.out w HI.out).mono ?_
      rintro e w1 ⟨rfl, ⟨n1, rfl⟩⟩
      go_wp2
      go_ret2
      exact ⟨rfl, HI.out.drewN _, OnlyN.quiet ⟨_, rfl⟩ g⟩
    · rw [if_neg h2]
      have t3 : decide (8 * (bs.length : Int) - (a : Int) < (m : Int)) = false := by simp; omega
      have hfit : a + m ≤ 8 * bs.length := by omega
      clear h2
      go_enter Try.func31, Try.ntmps31
      go_wp2_with fail
      refine (HL.out w HI.out).mono ?_
      rintro e w1 ⟨rfl, ⟨n1, rfl⟩⟩
      go_wp2_with fail
      refine (HN.out m (w.drewN n1) (HI.out.drewN n1) hm).mono ?_
      rintro e w2 ⟨rfl, ⟨n2, rfl⟩⟩
      obtain ⟨_, hc1, hf1⟩ := HI.out.cells
      go_wp2
      go_ret2
      have hs : ∀ k, RfS w0 ((w.drewN k).setCell ⟨g, 1, none⟩ (.int .i64 ((a : Int) + (m : Int)))) g A c bs (a + m) := fun k => by
        have := (HI.out.drewN k).set (a + m)
        rw [Int.natCast_add] at this
        exact this
      exact ⟨rfl, hs _, (((Only.refl _ _).drewN _).set HG.out _ _).n⟩
set_option maxRecDepth 100000 in
set_option maxHeartbeats 2000000 in
theorem rf_peek_all (w0 : World) (g : Nat) (A : Option Addr) (c : Nat) (bs : List Int) (a : Nat) (n : Int) (w : World) (hI : RfS w0 w g A c bs a) (hb : IsBytes bs) (hl : bs.length ≤ 140737488351232) (ha : a ≤ 8 * bs.length) :
    Calls Try.prog 33 #[.pointer (some ⟨g, 0, none⟩), .int .i64 n] w fun e w' => e = .returned (.tuple #[.int .u32 ((peekRes bs a n).1 : Nat), .int .i64 (peekRes bs a n).2]) ∧ Drawn0 w w' := by
  unfold peekRes
  have HI := Aside0.mk hI
  have HN := Aside0.mk (fun m W (hW : RfS w0 W g A c bs a) hm => rf_number w0 g A c bs a m W hW hb hl ha hm)
  clear hI hb
  by_cases h1 : n < 0 ∨ 32 < n
  · rw [if_pos h1]
    have hd : (decide (n < 0) = true) ∨ (decide (n < 0) = false ∧ decide (32 < n) = true) := by simp; omega
    clear h1
    rcases hd with h1 | ⟨h1, h2⟩
    all_goals
      go_enter Try.func33, Try.ntmps33
      go_wp2
      go_ret2
      exact ⟨rfl, Drawn0.refl _⟩
  · rw [if_neg h1]
    obtain ⟨m, rfl⟩ : ∃ m : Nat, n = (m : Int) := ⟨n.toNat, by omega⟩
    rw [Int.toNat_natCast]
    have t1 : decide ((m : Int) < 0) = false := by simp
    have t2 : decide (32 < (m : Int)) = false := by simp; omega
    have hm : m ≤ 32 := by omega
    clear h1
    go_enter Try.func33, Try.ntmps33
    go_wp2_with fail
    refine (HN.out m w HI.out hm).mono ?_
    rintro e w2 ⟨rfl, ⟨n2, rfl⟩⟩
    go_wp2
    go_ret2
    exact ⟨rfl, ⟨_, rfl⟩⟩
set_option maxHeartbeats 1000000 in
theorem rf_align_all (w0 : World) (g : Nat) (A : Option Addr) (c : Nat) (bs : List Int) (a : Nat) (w : World) (hI : RfS w0 w g A c bs a) (ha : a ≤ 8 * 140737488351232) :
    Calls Try.prog 35 #[.pointer (some ⟨g, 0, none⟩)] w fun e w' => e = .returned (.tuple #[]) ∧ RfS w0 w' g A c bs (8 * ((a + 7) / 8)) ∧ OnlyN g w w' := by
  have HI := Aside0.mk hI
  have HU := Aside0.mk (fun W hI => rf_used w0 g A c bs a W hI ha)
  have HG := Aside0.mk (blk_lt hI.1)
  clear hI
  obtain ⟨q, hq⟩ : ∃ q, q = (a + 7) / 8 := ⟨_, rfl⟩
  have hu : q ≤ 140737488351232 := by omega
  rw [← hq] at HU ⊢
  clear hq
  go_enter Try.func35, Try.ntmps35
  go_wp2_with fail
  refine (HU.out _ HI.out).mono ?_
  rintro e w2 ⟨rfl, ⟨n2, rfl⟩⟩
  obtain ⟨_, hc1, hf1⟩ := HI.out.cells
  go_wp2
  refine bodyPost_end (results_none rfl _ _ _) rfl ?_
  have hs : ∀ k, RfS w0 ((w.drewN k).setCell ⟨g, 1, none⟩ (.int .i64 (8 * (q : Int)))) g A c bs (8 * q) := fun k => by
    have := (HI.out.drewN k).set (8 * q)
    rw [show ((8 * q : Nat) : Int) = 8 * (q : Int) from by omega] at this
    exact this
  exact ⟨rfl, hs _, (((Only.refl _ _).drewN _).set HG.out _ _).n⟩
set_option maxRecDepth 100000 in
set_option maxHeartbeats 2000000 in
theorem rf_bytes_all (w0 : World) (g : Nat) (A : Option Addr) (c : Nat) (bs : List Int) (a : Nat) (n : Int) (w : World) (hI : RfS w0 w g A c bs a) (hl : bs.length ≤ 140737488351232) (ha : a ≤ 8 * bs.length) :
    Calls Try.prog 37 #[.pointer (some ⟨g, 0, none⟩), .int .i64 n] w fun e w' => ∃ u, e = .returned (.tuple #[u, .int .i64 (bytesRes bs a n).2.1]) ∧ Kd.R (Kd.int .u8) 5 w' w.heap.size (fun _ => True) u (bytesRes bs a n).1 ∧ RfS w0 w' g A c bs (bytesRes bs a n).2.2 ∧ OnlyN g w w' := by
  unfold bytesRes
  have HI := Aside0.mk hI
  have HU := Aside0.mk (fun W hI => rf_used w0 g A c bs a W hI (by omega))
  have HG := Aside0.mk (blk_lt hI.1)
  obtain ⟨hc0, _, _⟩ := hI.cells
  obtain ⟨q, hq⟩ : ∃ q, q = (a + 7) / 8 := ⟨_, rfl⟩
  have hu : q ≤ 140737488351232 := by omega
  have hqb : q ≤ bs.length := by omega
  rw [← hq] at HU ⊢
  have hcc := hI.2.1
  clear hI hq
  by_cases h1 : n < 0
  · rw [if_pos h1]
    have t0 : decide (n < 0) = true := by simpa using h1
    clear h1
    go_enter Try.func37, Try.ntmps37
    go_wp2
    go_ret2
    exact ⟨_, rfl, Kd.R_nil _ _ _ _ _, HI.out, OnlyN.quiet (Drawn0.refl _) g⟩
  · rw [if_neg h1]
    obtain ⟨m, rfl⟩ : ∃ m : Nat, n = (m : Int) := ⟨n.toNat, by omega⟩
    rw [Int.toNat_natCast]
    have t0 : decide ((m : Int) < 0) = false := by simp
    clear h1
    by_cases h2 : bs.length < m + q
    · rw [if_pos h2]
      have t1 : decide ((bs.length : Int) - (q : Int) < (m : Int)) = true := by simp; omega
      clear h2
      go_enter Try.func37, Try.ntmps37
      go_wp2_with fail
      refine (HU.out w HI.out).mono ?_
      rintro e w1 ⟨rfl, ⟨n1, rfl⟩⟩
      go_wp2
      go_ret2
      exact ⟨_, rfl, Kd.R_nil _ _ _ _ _, HI.out.drewN _, OnlyN.quiet ⟨_, rfl⟩ g⟩
    · rw [if_neg h2]
      have t1 : decide ((bs.length : Int) - (q : Int) < (m : Int)) = false := by simp; omega
      obtain ⟨i5, hi5, h5⟩ := Option.map_eq_some_iff.1 infoB
      have hsz5 : i5.size = 1 := by simp only [Prod.mk.injEq] at h5; exact h5.2.1
      have hcut := cut_mid (P := Try.prog) 37 5 .i64 .i64 Try.underlying37 hi5 1 hsz5 A bs.length c (q : Int) ((q : Int) + (m : Int)) (by omega) (by omega) (by omega) hcc
      have e1 : ((q : Int)).toNat = q := Int.toNat_natCast q
      have e2 : ((q : Int) + (m : Int)).toNat = q + m := by omega
      rw [e1, e2, Nat.add_sub_cancel_left] at hcut
      have hll : ((bs.take (q + m)).drop q).length = m := by simp; omega
      have HM := Aside0.mk (fun (W : World) (hW : RfS w0 W g A c bs (8 * (q + m))) => Kd.C_mid (lo := q) (hi := q + m) (c := c) hW.C (by omega) (by omega) hcc)
      have hdt : (bs.drop q).take m = (bs.take (q + m)).drop q := by rw [List.drop_take, Nat.add_sub_cancel_left]
      rw [hdt]
      rw [show Kd.sz (Kd.int .u8) = 1 from rfl] at HM
      generalize (bs.take (q + m)).drop q = l at HM hll ⊢
      generalize (if c = q then A else A.map (·.add (q * 1))) = A' at HM hcut
      subst hll
      have hlb : l.length ≤ 140737488351232 := by omega
      clear e1 e2 hi5 h5 hsz5 hdt h2
      go_enter Try.func37, Try.ntmps37
      go_wp2_with fail
      refine (HU.out w HI.out).mono ?_
      rintro e w1 ⟨rfl, ⟨n1, rfl⟩⟩
      obtain ⟨hd0, hd1, hf1⟩ := HI.out.cells
      have hs : ∀ k, RfS w0 ((w.drewN k).setCell ⟨g, 1, none⟩ (.int .i64 (8 * ((q : Int) + (l.length : Int))))) g A c bs (8 * (q + l.length)) := fun k => by
        have := (HI.out.drewN k).set (8 * (q + l.length))
        rw [show ((8 * (q + l.length) : Nat) : Int) = 8 * ((q : Int) + (l.length : Int)) from by omega] at this
        exact this
      have HS := Aside0.mk (hs n1)
      clear hs
      generalize hWW : (w.drewN n1).setCell ⟨g, 1, none⟩ (.int .i64 (8 * ((q : Int) + (l.length : Int)))) = WW at HS
      have HWW := Aside0.mk hWW
      have HOO : Aside0 (OnlyN g w WW) := ⟨by rw [← hWW]; exact (((Only.refl _ _).drewN _).set HG.out _ _).n⟩
      clear hWW
      go_wp2_with (refine Kd.R_append_row (Value.int .u8) 0 (w0 := (w.drewN n1).setCell ⟨g, 1, none⟩ (.int .i64 (8 * ((q : Int) + (l.length : Int))))) ((w.drewN n1).setCell ⟨g, 1, none⟩ (.int .i64 (8 * ((q : Int) + (l.length : Int))))).heap.size rfl _ _ 37 5 (.int .u8 0) 1 rfl Try.underlying37 infoB rfl (by decide) (.slice none 0 0) [] l A' l.length (c - q) (fun _ => True) rfl rfl (fun _ _ => trivial) (Kd.R_nil _ _ _ _ _) (by rw [HWW.out]; exact HM.out _ HS.out) (Below.refl _ _) (Nat.le_refl _) (by simp; omega) ?_; intro v1 w1 hv1 hb1 _ _; rw [List.nil_append] at hv1; rw [HWW.out] at hv1 hb1; have HV1 := Aside0.mk hv1; have HB1 := Aside0.mk hb1; clear hv1 hb1)
      have hgl := HG.out
      have hsz : WW.heap.size = w.heap.size := by rw [← HWW.out]; simp [World.setCell, World.drewN]
      go_ret2
      refine ⟨_, rfl, ?_, HS.out.below HB1.out, ?_⟩
      · have := HV1.out
        rw [hsz] at this
        exact this
      · exact OnlyN.of (HOO.out.1.below HB1.out) (Below.trans HOO.out.2 (Below.mono HB1.out (by omega))) hgl
end Go.Proofs.Ytlepnpjlmcjedaa.Hw
