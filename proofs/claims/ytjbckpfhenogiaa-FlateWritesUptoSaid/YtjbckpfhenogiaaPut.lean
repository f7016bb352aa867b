import Derived.Test.YtjbckpfhenogiaaWriter2
import Derived.Test.YtjbckpfhenogiaaReverse
import Derived.Test.YtjbckpfhenogiaaWFoot
import Derived.Outline
/- huff.Put, walked. -/
namespace Go.Proofs.Ytjbckpfhenogiaa.Hw
open Go.RowKit Go.Proofs.YtjbckpfhenogiaaW.PrintWords Go.Proofs.YtjbckpfhenogiaaW.PrintLast Go.Proofs.YtjbckpfhenogiaaW.PrintMore Go.Proofs.Ytjbckpfhenogiaa.PH
set_option linter.unusedVariables false
set_option linter.unusedSimpArgs false
theorem bitLenAux_le (f : Nat) : ∀ (x n : Nat), x < 2 ^ n → Lib.bitLenAux f x ≤ n := by
  induction f with
  | zero => intro x n _; exact Nat.zero_le _
  | succ f ih =>
    intro x n h
    rw [Lib.bitLenAux]
    by_cases hx : x = 0
    · rw [if_pos hx]; exact Nat.zero_le _
    · rw [if_neg hx]
      cases n with
      | zero => simp at h; omega
      | succ n =>
        have := ih (x / 2) n (by rw [Nat.pow_succ] at h; omega)
        omega
theorem bitLen_le {x n : Nat} (h : x < 2 ^ n) : Lib.bitLen x ≤ n := bitLenAux_le 64 x n h
theorem bitLenAux_gt (f : Nat) : ∀ (x n : Nat), 2 ^ n ≤ x → n < f → n < Lib.bitLenAux f x := by
  induction f with
  | zero => intro x n _ h; omega
  | succ f ih =>
    intro x n h hf
    rw [Lib.bitLenAux]
    have hx : x ≠ 0 := by have := Nat.two_pow_pos n; omega
    rw [if_neg hx]
    cases n with
    | zero => omega
    | succ n =>
      have := ih (x / 2) n (by rw [Nat.pow_succ] at h; omega) (by omega)
      omega
theorem bitLen_gt {x n : Nat} (h : 2 ^ n ≤ x) (hn : n < 64) : n < Lib.bitLen x := bitLenAux_gt 64 x n h hn
theorem rev_lt (x n : Nat) : BP.rev x n < 2 ^ n := BP.numb_lt _ _
theorem wbits_none (base g : Nat) (v : Value) (L : List Bool) (w : World) (hI : WS base w g v L) (hB : base ≤ w.heap.size) (hlen : L.length ≤ 1125899906809856) :
    Calls Try.prog 19 #[.pointer (some ⟨g, 0, none⟩), .int .u32 0, .int .i64 0] w fun e w' => e = .returned (.int .i64 0) ∧ ∃ v', WS base w' g v' L ∧ WF base w w' g v v' := by
  have h := wbits_ok base g v L w 0 0 hI hB (by decide) (by decide) (by decide) (by omega)
  rw [Int.natCast_zero] at h
  have e : L ++ bitsN 0 0 = L := by simp [bitsN]
  rw [e] at h
  exact h
/-- What a writer's calls leave readable. -/
def Stays {α : Type} (d : Kd α) (w : World) (g : Nat) (v : Value) (A : Option Addr) (n : Nat) (xs : List α) : Prop := ∀ w', Kept w w' (fun k => k = g ∨ v.ownBlock = some k) → d.C w' A n xs
theorem Stays.now {α : Type} {d : Kd α} {w : World} {g : Nat} {v : Value} {A : Option Addr} {n : Nat} {xs : List α} (h : Stays d w g v A n xs) : d.C w A n xs := h w (Kept.refl _ _)
theorem Stays.next {α : Type} {d : Kd α} {base : Nat} {w w1 : World} {g : Nat} {v v1 : Value} {A : Option Addr} {n : Nat} {xs : List α} (h : Stays d w g v A n xs) (hw : WF base w w1 g v v1) : Stays d w1 g v1 A n xs := by
  intro w' hk
  refine h w' (hw.1.then_ hk ?_)
  intro j hj
  rcases hj with hj | hj
  · exact .inl (.inl hj)
  · rcases hw.2.2 with e | ⟨b, e, hb⟩
    · exact .inl (.inr (by rw [← e]; exact hj))
    · rw [e] at hj; injection hj with hj; exact .inr (by omega)
theorem Stays.drewN {α : Type} {d : Kd α} {w : World} {g : Nat} {v : Value} {A : Option Addr} {n : Nat} {xs : List α} (h : Stays d w g v A n xs) (m : Nat) : Stays d (w.drewN m) g v A n xs := h
theorem Stays.of {α : Type} {d : Kd α} (hd : Kd.Heap d) {w0 w : World} {g : Nat} {v : Value} {L : List Bool} {A : Option Addr} {n : Nat} {xs : List α} (hC : d.C w0 A n xs) (hB : Below w0.heap.size w0 w) (hI : WS w0.heap.size w g v L) : Stays d w g v A n xs := by
  intro w' hk
  refine Kd.Heap.C hd (fun k hlt => ?_) hC
  have h1 := hB.block k hlt
  have hs := hB.size
  rw [← h1]
  refine hk.2 k (by omega) (fun h => ?_)
  rcases h with h | h
  · have := hI.2.1; omega
  · have := Kd.R_base hI.2.2 k h; omega
theorem shl_le (cd n : Nat) (hn : n ≤ 15) (h : cd < 2 ^ n) : decide ((2 : Int) ^ n % 4294967296 ≤ (cd : Int)) = false := by
  have h1 : 2 ^ n ≤ 32768 := Nat.le_trans (Nat.pow_le_pow_right (by omega) hn) (by decide)
  rw [two_pow_cast]
  generalize 2 ^ n = p at *
  simp; omega
theorem shl_gt (cd n : Nat) (hn : n ≤ 15) (h : ¬ cd < 2 ^ n) : decide ((2 : Int) ^ n % 4294967296 ≤ (cd : Int)) = true := by
  have h1 : 2 ^ n ≤ 32768 := Nat.le_trans (Nat.pow_le_pow_right (by omega) hn) (by decide)
  rw [two_pow_cast]
  generalize 2 ^ n = p at *
  simp; omega
/-- The symbol has a code that can be written. -/
def putOk (l m : List Int) (s : Int) : Prop := l.length = m.length ∧ 0 ≤ s ∧ s < l.length ∧ 1 ≤ rd l s ∧ rd l s ≤ 15 ∧ rd m s < 2 ^ (rd l s).toNat
instance (l m : List Int) (s : Int) : Decidable (putOk l m s) := by unfold putOk; infer_instance
set_option maxRecDepth 100000 in
set_option maxHeartbeats 1000000 in
theorem put_ok (base g : Nat) (v : Value) (L : List Bool) (w : World) (A0 A1 : Option Addr) (c0 c1 : Nat) (l m : List Int) (s : Nat) (n cd : Nat) (hI : WS base w g v L) (hB : base ≤ w.heap.size) (hlen : L.length + 32 ≤ 1125899906809856)
    (hl : Stays (Kd.int .i64) w g v A0 l.length l) (hc0 : l.length ≤ c0) (hm : Stays (Kd.int .u32) w g v A1 m.length m) (hc1 : m.length ≤ c1) (hlm : l.length = m.length) (hs : s < l.length) (hn : rd l (s : Int) = (n : Int)) (hcd : rd m (s : Int) = (cd : Int)) (hn1 : 1 ≤ n) (hn15 : n ≤ 15) (hcn : cd < 2 ^ n) :
    Calls Try.prog 46 #[.pointer (some ⟨g, 0, none⟩), .slice A0 l.length c0, .slice A1 m.length c1, .int .i64 (s : Int)] w fun e w' => e = .returned (.int .i64 0) ∧ ∃ v', WS base w' g v' (L ++ bitsN (BP.rev cd n) n) ∧ WF base w w' g v v' := by
  have HI := Aside0.mk hI
  have HL := Aside0.mk hl
  have HM := Aside0.mk hm
  have HN := Aside0.mk hn
  have HC := Aside0.mk hcd
  have HLM := Aside0.mk hlm
  have hlb : decide ((s : Int) < (l.length : Int)) = true := by simp; omega
  clear hI hl hm hn hcd
  go_enter Try.func46, Try.ntmps46
  go_wp2_with fail
  refine (wbits_none base g v L w HI.out hB (by omega)).mono ?_
  rintro e w1 ⟨rfl, v1, hi1, hw1⟩
  have HI1 := Aside0.mk hi1
  have HW1 := Aside0.mk hw1
  have HL1 := Aside0.mk (HL.out.next hw1)
  have HM1 := Aside0.mk (HM.out.next hw1)
  clear hi1 hw1
  obtain ⟨ad, rfl, hx⟩ := Kd.at_int HL1.out.now (s : Int) (by omega) (by omega)
  obtain ⟨ad2, rfl, hx2⟩ := Kd.at_int HM1.out.now (s : Int) (by omega) (by omega)
  rw [Int.toNat_natCast] at hx hx2
  rw [HN.out] at hx
  rw [HC.out] at hx2
  have hlmb : ((l.length : Int) == (m.length : Int)) = true := by simp; omega
  have hlmn : (l.length == m.length) = true := by simp; omega
  have t1 : decide (m.length ≤ s) = false := by simp; omega
  have t2 : decide ((s : Int) < 0) = false := by simp
  have t3 : decide ((n : Int) < 1) = false := by simp; omega
  have t4 : decide (15 < (n : Int)) = false := by simp; omega
  have t4n : decide (15 < n) = false := by simp; omega
  have t5 : decide ((2 : Int) ^ n % 4294967296 ≤ (cd : Int)) = false := shl_le cd n hn15 hcn
  have hcd32 : cd < 4294967296 := by have := pow_le_32 n (by omega); omega
  have hrv : BP.rev cd n < 4294967296 := by have := pow_le_32 n (by omega); have := rev_lt cd n; omega
  have HRV := Aside0.mk (reverse_is cd hcd32 (n : Int))
  rw [if_pos (by omega), Int.toNat_natCast] at HRV
  have HBL : Aside0 (Lib.bitLen (BP.rev cd n) ≤ n) := ⟨bitLen_le (rev_lt cd n)⟩
  have HSZ : Aside0 (base ≤ w1.heap.size) := ⟨Nat.le_trans hB HW1.out.1.1⟩
  go_wp2
  go_quiet (fail)
  go_wp2_with fail
  have HIQ := Aside0.mk (HI1.out.drewN nq)
  have HWQ := Aside0.mk (HW1.out.drewN nq)
  have HSQ : Aside0 (base ≤ (w1.drewN nq).heap.size) := HSZ
  clear hx hx2
  generalize w1.drewN nq = W at *
  refine (bitio_Reverse.calls (cd : Int) (n : Int) _ W HRV.out).mono ?_
  rintro e w2 ⟨rfl, ⟨n2, rfl⟩⟩
  have HI2 := Aside0.mk (HIQ.out.drewN n2)
  have HW2 := Aside0.mk (HWQ.out.drewN n2)
  have HS2 : Aside0 (base ≤ (W.drewN n2).heap.size) := HSQ
  go_wp2_with fail
  refine (wbits_ok base g v1 L _ (BP.rev cd n) n HI2.out HS2.out (by omega) hrv HBL.out (by omega)).mono ?_
  rintro e w3 ⟨rfl, v3, hi3, hw3⟩
  have H3 := Aside0.mk (And.intro hi3 (WF.trans HW2.out hw3 hB))
  clear hi3 hw3
  go_wp2
  go_ret
  exact ⟨rfl, v3, H3.out⟩
set_option maxRecDepth 100000 in
set_option maxHeartbeats 1000000 in
theorem put_bad1 (base g : Nat) (v : Value) (L : List Bool) (w : World) (A0 A1 : Option Addr) (c0 c1 : Nat) (l m : List Int) (s : Int) (hI : WS base w g v L) (hB : base ≤ w.heap.size) (hlen : L.length + 32 ≤ 1125899906809856)
    (hl : Stays (Kd.int .i64) w g v A0 l.length l) (hc0 : l.length ≤ c0) (hm : Stays (Kd.int .u32) w g v A1 m.length m) (hc1 : m.length ≤ c1) (hmax : m.length ≤ 9223372036854775807) (hne : l.length ≠ m.length) :
    Calls Try.prog 46 #[.pointer (some ⟨g, 0, none⟩), .slice A0 l.length c0, .slice A1 m.length c1, .int .i64 s] w fun e w' => e = .returned (.int .i64 1) ∧ ∃ v', WS base w' g v' L ∧ WF base w w' g v v' := by
  have HI := Aside0.mk hI
  have HL := Aside0.mk hl
  have HM := Aside0.mk hm
  have t1 : ((l.length : Int) == (m.length : Int)) = false := by simp; omega
  have t1n : (l.length == m.length) = false := by simp; omega
  clear hI hl hm
  go_enter Try.func46, Try.ntmps46
  go_wp2_with fail
  refine (wbits_none base g v L w HI.out hB (by omega)).mono ?_
  rintro e w1 ⟨rfl, v1, hi1, hw1⟩
  have HI1 := Aside0.mk hi1
  have HW1 := Aside0.mk hw1
  have HL1 := Aside0.mk (HL.out.next hw1)
  have HM1 := Aside0.mk (HM.out.next hw1)
  clear hi1 hw1
  go_wp2
  go_ret
  exact ⟨rfl, v1, HI1.out, HW1.out⟩
set_option maxRecDepth 100000 in
set_option maxHeartbeats 1000000 in
theorem put_bad2 (base g : Nat) (v : Value) (L : List Bool) (w : World) (A0 A1 : Option Addr) (c0 c1 : Nat) (l m : List Int) (s : Int) (hI : WS base w g v L) (hB : base ≤ w.heap.size) (hlen : L.length + 32 ≤ 1125899906809856)
    (hl : Stays (Kd.int .i64) w g v A0 l.length l) (hc0 : l.length ≤ c0) (hm : Stays (Kd.int .u32) w g v A1 m.length m) (hc1 : m.length ≤ c1) (hmax : m.length ≤ 9223372036854775807) (hlm : l.length = m.length) (hs : s < 0) :
    Calls Try.prog 46 #[.pointer (some ⟨g, 0, none⟩), .slice A0 l.length c0, .slice A1 m.length c1, .int .i64 s] w fun e w' => e = .returned (.int .i64 1) ∧ ∃ v', WS base w' g v' L ∧ WF base w w' g v v' := by
  have HI := Aside0.mk hI
  have HL := Aside0.mk hl
  have HM := Aside0.mk hm
  have t2 : decide (s < 0) = true := by simp; omega
  have hlmn : (l.length == m.length) = true := by simp; omega
  clear hI hl hm
  go_enter Try.func46, Try.ntmps46
  go_wp2_with fail
  refine (wbits_none base g v L w HI.out hB (by omega)).mono ?_
  rintro e w1 ⟨rfl, v1, hi1, hw1⟩
  have HI1 := Aside0.mk hi1
  have HW1 := Aside0.mk hw1
  have HL1 := Aside0.mk (HL.out.next hw1)
  have HM1 := Aside0.mk (HM.out.next hw1)
  clear hi1 hw1
  go_wp2
  go_ret
  exact ⟨rfl, v1, HI1.out, HW1.out⟩
set_option maxRecDepth 100000 in
set_option maxHeartbeats 1000000 in
theorem put_bad3 (base g : Nat) (v : Value) (L : List Bool) (w : World) (A0 A1 : Option Addr) (c0 c1 : Nat) (l m : List Int) (s : Int) (hI : WS base w g v L) (hB : base ≤ w.heap.size) (hlen : L.length + 32 ≤ 1125899906809856)
    (hl : Stays (Kd.int .i64) w g v A0 l.length l) (hc0 : l.length ≤ c0) (hm : Stays (Kd.int .u32) w g v A1 m.length m) (hc1 : m.length ≤ c1) (hmax : m.length ≤ 9223372036854775807) (hlm : l.length = m.length) (hs : 0 ≤ s) (hs2 : (m.length : Int) ≤ s) :
    Calls Try.prog 46 #[.pointer (some ⟨g, 0, none⟩), .slice A0 l.length c0, .slice A1 m.length c1, .int .i64 s] w fun e w' => e = .returned (.int .i64 1) ∧ ∃ v', WS base w' g v' L ∧ WF base w w' g v v' := by
  have HI := Aside0.mk hI
  have HL := Aside0.mk hl
  have HM := Aside0.mk hm
  have t2 : decide (s < 0) = false := by simp; omega
  have t3 : decide ((m.length : Int) ≤ s) = true := by simp; omega
  have hlmn : (l.length == m.length) = true := by simp; omega
  clear hI hl hm
  go_enter Try.func46, Try.ntmps46
  go_wp2_with fail
  refine (wbits_none base g v L w HI.out hB (by omega)).mono ?_
  rintro e w1 ⟨rfl, v1, hi1, hw1⟩
  have HI1 := Aside0.mk hi1
  have HW1 := Aside0.mk hw1
  have HL1 := Aside0.mk (HL.out.next hw1)
  have HM1 := Aside0.mk (HM.out.next hw1)
  clear hi1 hw1
  go_wp2
  go_ret
  exact ⟨rfl, v1, HI1.out, HW1.out⟩
set_option maxRecDepth 100000 in
set_option maxHeartbeats 1000000 in
theorem put_bad4 (base g : Nat) (v : Value) (L : List Bool) (w : World) (A0 A1 : Option Addr) (c0 c1 : Nat) (l m : List Int) (s : Int) (hI : WS base w g v L) (hB : base ≤ w.heap.size) (hlen : L.length + 32 ≤ 1125899906809856)
    (hl : Stays (Kd.int .i64) w g v A0 l.length l) (hc0 : l.length ≤ c0) (hm : Stays (Kd.int .u32) w g v A1 m.length m) (hc1 : m.length ≤ c1) (hmax : m.length ≤ 9223372036854775807) (hlm : l.length = m.length) (hs : 0 ≤ s) (hs2 : s < m.length) (n : Int) (cd : Nat) (hn : rd l s = n) (hcd : rd m s = (cd : Int)) (hn1 : n < 1) :
    Calls Try.prog 46 #[.pointer (some ⟨g, 0, none⟩), .slice A0 l.length c0, .slice A1 m.length c1, .int .i64 s] w fun e w' => e = .returned (.int .i64 1) ∧ ∃ v', WS base w' g v' L ∧ WF base w w' g v v' := by
  have HI := Aside0.mk hI
  have HL := Aside0.mk hl
  have HM := Aside0.mk hm
  obtain ⟨k, rfl⟩ := Int.eq_ofNat_of_zero_le hs
  have HN := Aside0.mk hn
  have HC := Aside0.mk hcd
  have t1 : decide (m.length ≤ k) = false := by simp; omega
  have t2 : decide ((k : Int) < 0) = false := by simp
  have hlmn : (l.length == m.length) = true := by simp; omega
  have t3 : decide (n < 1) = true := by simp; omega
  clear hn hcd
  clear hI hl hm
  go_enter Try.func46, Try.ntmps46
  go_wp2_with fail
  refine (wbits_none base g v L w HI.out hB (by omega)).mono ?_
  rintro e w1 ⟨rfl, v1, hi1, hw1⟩
  have HI1 := Aside0.mk hi1
  have HW1 := Aside0.mk hw1
  have HL1 := Aside0.mk (HL.out.next hw1)
  have HM1 := Aside0.mk (HM.out.next hw1)
  clear hi1 hw1
  obtain ⟨ad, rfl, hx⟩ := Kd.at_int HL1.out.now (k : Int) (by omega) (by omega)
  obtain ⟨ad2, rfl, hx2⟩ := Kd.at_int HM1.out.now (k : Int) (by omega) (by omega)
  rw [Int.toNat_natCast] at hx hx2
  rw [HN.out] at hx
  rw [HC.out] at hx2
  go_wp2
  go_quiet (fail)
  go_wp2
  go_ret
  exact ⟨rfl, v1, HI1.out.drewN nq, HW1.out.drewN nq⟩
set_option maxRecDepth 100000 in
set_option maxHeartbeats 1000000 in
theorem put_bad5 (base g : Nat) (v : Value) (L : List Bool) (w : World) (A0 A1 : Option Addr) (c0 c1 : Nat) (l m : List Int) (s : Int) (hI : WS base w g v L) (hB : base ≤ w.heap.size) (hlen : L.length + 32 ≤ 1125899906809856)
    (hl : Stays (Kd.int .i64) w g v A0 l.length l) (hc0 : l.length ≤ c0) (hm : Stays (Kd.int .u32) w g v A1 m.length m) (hc1 : m.length ≤ c1) (hmax : m.length ≤ 9223372036854775807) (hlm : l.length = m.length) (hs : 0 ≤ s) (hs2 : s < m.length) (n : Int) (cd : Nat) (hn : rd l s = n) (hcd : rd m s = (cd : Int)) (hn1 : 15 < n) :
    Calls Try.prog 46 #[.pointer (some ⟨g, 0, none⟩), .slice A0 l.length c0, .slice A1 m.length c1, .int .i64 s] w fun e w' => e = .returned (.int .i64 1) ∧ ∃ v', WS base w' g v' L ∧ WF base w w' g v v' := by
  have HI := Aside0.mk hI
  have HL := Aside0.mk hl
  have HM := Aside0.mk hm
  obtain ⟨k, rfl⟩ := Int.eq_ofNat_of_zero_le hs
  have HN := Aside0.mk hn
  have HC := Aside0.mk hcd
  have t1 : decide (m.length ≤ k) = false := by simp; omega
  have t2 : decide ((k : Int) < 0) = false := by simp
  have hlmn : (l.length == m.length) = true := by simp; omega
  have t3 : decide (n < 1) = false := by simp; omega
  have t4 : decide (15 < n) = true := by simp; omega
  clear hn hcd
  clear hI hl hm
  go_enter Try.func46, Try.ntmps46
  go_wp2_with fail
  refine (wbits_none base g v L w HI.out hB (by omega)).mono ?_
  rintro e w1 ⟨rfl, v1, hi1, hw1⟩
  have HI1 := Aside0.mk hi1
  have HW1 := Aside0.mk hw1
  have HL1 := Aside0.mk (HL.out.next hw1)
  have HM1 := Aside0.mk (HM.out.next hw1)
  clear hi1 hw1
  obtain ⟨ad, rfl, hx⟩ := Kd.at_int HL1.out.now (k : Int) (by omega) (by omega)
  obtain ⟨ad2, rfl, hx2⟩ := Kd.at_int HM1.out.now (k : Int) (by omega) (by omega)
  rw [Int.toNat_natCast] at hx hx2
  rw [HN.out] at hx
  rw [HC.out] at hx2
  go_wp2
  go_quiet (fail)
  go_wp2
  go_ret
  exact ⟨rfl, v1, HI1.out.drewN nq, HW1.out.drewN nq⟩
set_option maxRecDepth 100000 in
set_option maxHeartbeats 1000000 in
theorem put_bad6 (base g : Nat) (v : Value) (L : List Bool) (w : World) (A0 A1 : Option Addr) (c0 c1 : Nat) (l m : List Int) (s : Int) (hI : WS base w g v L) (hB : base ≤ w.heap.size) (hlen : L.length + 32 ≤ 1125899906809856)
    (hl : Stays (Kd.int .i64) w g v A0 l.length l) (hc0 : l.length ≤ c0) (hm : Stays (Kd.int .u32) w g v A1 m.length m) (hc1 : m.length ≤ c1) (hmax : m.length ≤ 9223372036854775807) (hlm : l.length = m.length) (hs : 0 ≤ s) (hs2 : s < m.length) (n cd : Nat) (hn : rd l s = (n : Int)) (hcd : rd m s = (cd : Int)) (hn1 : 1 ≤ n) (hn15 : n ≤ 15) (hcn : ¬ cd < 2 ^ n) :
    Calls Try.prog 46 #[.pointer (some ⟨g, 0, none⟩), .slice A0 l.length c0, .slice A1 m.length c1, .int .i64 s] w fun e w' => e = .returned (.int .i64 1) ∧ ∃ v', WS base w' g v' L ∧ WF base w w' g v v' := by
  have HI := Aside0.mk hI
  have HL := Aside0.mk hl
  have HM := Aside0.mk hm
  obtain ⟨k, rfl⟩ := Int.eq_ofNat_of_zero_le hs
  have HN := Aside0.mk hn
  have HC := Aside0.mk hcd
  have t1 : decide (m.length ≤ k) = false := by simp; omega
  have t2 : decide ((k : Int) < 0) = false := by simp
  have hlmn : (l.length == m.length) = true := by simp; omega
  have t3 : decide ((n : Int) < 1) = false := by simp; omega
  have t4 : decide (15 < (n : Int)) = false := by simp; omega
  have t4n : decide (15 < n) = false := by simp; omega
  have t5 := shl_gt cd n hn15 hcn
  clear hn hcd
  clear hI hl hm
  go_enter Try.func46, Try.ntmps46
  go_wp2_with fail
  refine (wbits_none base g v L w HI.out hB (by omega)).mono ?_
  rintro e w1 ⟨rfl, v1, hi1, hw1⟩
  have HI1 := Aside0.mk hi1
  have HW1 := Aside0.mk hw1
  have HL1 := Aside0.mk (HL.out.next hw1)
  have HM1 := Aside0.mk (HM.out.next hw1)
  clear hi1 hw1
  obtain ⟨ad, rfl, hx⟩ := Kd.at_int HL1.out.now (k : Int) (by omega) (by omega)
  obtain ⟨ad2, rfl, hx2⟩ := Kd.at_int HM1.out.now (k : Int) (by omega) (by omega)
  rw [Int.toNat_natCast] at hx hx2
  rw [HN.out] at hx
  rw [HC.out] at hx2
  go_wp2
  go_quiet (fail)
  go_wp2
  go_ret
  exact ⟨rfl, v1, HI1.out.drewN nq, HW1.out.drewN nq⟩
theorem put_bad (base g : Nat) (v : Value) (L : List Bool) (w : World) (A0 A1 : Option Addr) (c0 c1 : Nat) (l m : List Int) (s : Int) (hI : WS base w g v L) (hB : base ≤ w.heap.size) (hlen : L.length + 32 ≤ 1125899906809856)
    (hl : Stays (Kd.int .i64) w g v A0 l.length l) (hc0 : l.length ≤ c0) (hm : Stays (Kd.int .u32) w g v A1 m.length m) (hc1 : m.length ≤ c1) (hmax : m.length ≤ 9223372036854775807) (hmw : ∀ x ∈ m, 0 ≤ x) (h : ¬ putOk l m s) :
    Calls Try.prog 46 #[.pointer (some ⟨g, 0, none⟩), .slice A0 l.length c0, .slice A1 m.length c1, .int .i64 s] w fun e w' => e = .returned (.int .i64 1) ∧ ∃ v', WS base w' g v' L ∧ WF base w w' g v v' := by
  by_cases h1 : l.length = m.length
  · by_cases h2 : s < 0
    · exact put_bad2 base g v L w A0 A1 c0 c1 l m s hI hB hlen hl hc0 hm hc1 hmax h1 h2
    · by_cases h3 : (m.length : Int) ≤ s
      · exact put_bad3 base g v L w A0 A1 c0 c1 l m s hI hB hlen hl hc0 hm hc1 hmax h1 (by omega) h3
      · obtain ⟨k, rfl⟩ := Int.eq_ofNat_of_zero_le (show 0 ≤ s by omega)
        have hcd0 : 0 ≤ rd m (k : Int) := by
          have hk : k < m.length := by omega
          have e : rd m (k : Int) = m[k] := by simp [rd, List.getD_eq_getElem?_getD, hk]
          rw [e]; exact hmw _ (List.getElem_mem hk)
        obtain ⟨cd, hcd⟩ := Int.eq_ofNat_of_zero_le hcd0
        by_cases h4 : rd l (k : Int) < 1
        · exact put_bad4 base g v L w A0 A1 c0 c1 l m _ hI hB hlen hl hc0 hm hc1 hmax h1 (by omega) (by omega) _ cd rfl hcd h4
        · by_cases h5 : 15 < rd l (k : Int)
          · exact put_bad5 base g v L w A0 A1 c0 c1 l m _ hI hB hlen hl hc0 hm hc1 hmax h1 (by omega) (by omega) _ cd rfl hcd h5
          · obtain ⟨n, hn⟩ := Int.eq_ofNat_of_zero_le (show 0 ≤ rd l (k : Int) by omega)
            refine put_bad6 base g v L w A0 A1 c0 c1 l m _ hI hB hlen hl hc0 hm hc1 hmax h1 (by omega) (by omega) n cd hn hcd (by omega) (by omega) (fun hlt => h ⟨h1, by omega, by omega, by omega, by omega, ?_⟩)
            rw [hcd, hn, Int.toNat_natCast, two_pow_cast]; omega
  · exact put_bad1 base g v L w A0 A1 c0 c1 l m s hI hB hlen hl hc0 hm hc1 hmax h1
end Go.Proofs.Ytjbckpfhenogiaa.Hw
