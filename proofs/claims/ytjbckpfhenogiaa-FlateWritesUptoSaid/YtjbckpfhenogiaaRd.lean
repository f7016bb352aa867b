import Derived.Test.YtjbckpfhenogiaaNumber2
import Derived.Test.YtjbckpfhenogiaaReader
import Derived.Test.YtjbckpfhenogiaaWKept
import Derived.Test.YtjbckpfhenogiaaWApart
import Derived.Handy
import Derived.Outline
/- bitio's Reader, walked: every call either only reads, or sets the one number. -/
namespace Go.Proofs.Ytjbckpfhenogiaa.Hw
open Go.RowKit Go.Proofs.YtjbckpfhenogiaaW.PrintWords Go.Proofs.YtjbckpfhenogiaaW.PrintLast Go.Proofs.YtjbckpfhenogiaaW.PrintMore Go.Proofs.Ytjbckpfhenogiaa.PH
set_option linter.unusedVariables false
set_option linter.unusedSimpArgs false
/-- A reader at block g of the bytes bs (a row of its own), that stands at a bit. -/
def RdS (base : Nat) (w : World) (g : Nat) (v : Value) (bs : List Int) (at_ : Nat) : Prop :=
  w.heap[g]? = some (.cells #[.bool true, v, .int .i64 (at_ : Int)] 91 (0, 0)) ∧ base ≤ g ∧ Kd.R (Kd.int .u8) 5 w base (fun _ => True) v bs
section
variable {base : Nat} {w w' : World} {g : Nat} {v : Value} {bs : List Int} {at_ : Nat}
theorem RdS.cells (h : RdS base w g v bs at_) : w.cell? ⟨g, 0, none⟩ = some (.bool true) ∧ w.cell? ⟨g, 1, none⟩ = some v ∧ w.cell? ⟨g, 2, none⟩ = some (.int .i64 (at_ : Int)) ∧ w.frozen? ⟨g, 2, none⟩ = false :=
  ⟨(blk_cell h.1 0).trans rfl, (blk_cell h.1 1).trans rfl, (blk_cell h.1 2).trans rfl, blk_frozen h.1 2⟩
theorem RdS.drewN (h : RdS base w g v bs at_) (n : Nat) : RdS base (w.drewN n) g v bs at_ := ⟨h.1, h.2.1, Kd.R_drewN h.2.2 n⟩
theorem RdS.quiet (h : RdS base w g v bs at_) (hq : Drawn0 w w') : RdS base w' g v bs at_ := by obtain ⟨n, rfl⟩ := hq; exact h.drewN n
theorem RdS.set (h : RdS base w g v bs at_) (n : Nat) : RdS base (w.setCell ⟨g, 2, none⟩ (.int .i64 (n : Int))) g v bs n := by
  refine ⟨?_, h.2.1, ?_⟩
  · have := blk_set h.1 2 (.int .i64 (n : Int))
    simpa using this
  · exact Kd.R_set h.2.2 h.1 (by intro q hq; have : q = 5 := by simpa [Kd.int, Kd.scalar] using hq
                                 subst this; decide) 2 _
theorem RdS.below (h : RdS base w g v bs at_) (hb : Below w.heap.size w w') : RdS base w' g v bs at_ := ⟨(hb.block g (blk_lt h.1)).trans h.1, h.2.1, Kd.R_below h.2.2 hb⟩
theorem RdS.kept {S : Nat → Prop} (h : RdS base w g v bs at_) (hk : Kept w w' S) (hg : ¬ S g) (hv : ∀ j, v.ownBlock = some j → ¬ S j) : RdS base w' g v bs at_ := by
  refine ⟨blk_kept h.1 hk hg, h.2.1, ?_⟩
  have h2 := Kd.R_step (Kd.R_tight rfl h.2.2) (w1 := w') (fun k ho hlt => hk.2 k hlt (hv k ho.symm))
  exact Kd.R_mono h2 (fun _ _ => trivial)
theorem RdS.C {A : Option Addr} {c : Nat} (h : RdS base w g (.slice A bs.length c) bs at_) : Kd.C (Kd.int .u8) w A bs.length bs := by
  obtain ⟨A', c', e, hc, hC⟩ := Kd.R_reads h.2.2
  simp only [Value.slice.injEq] at e
  obtain ⟨rfl, _, rfl⟩ := e
  exact hC
theorem RdS.rdI (h : RdS base w g v bs at_) : RdI w g true bs (at_ : Int) := by
  obtain ⟨A, c, rfl, hc, hC⟩ := Kd.R_reads h.2.2
  exact ⟨A, c, h.1, trivial, hC⟩
end
set_option maxHeartbeats 1000000 in
theorem newRd_calls (A0 : Option Addr) (c0 : Nat) (l : List Int) (w : World) (hr0 : Kd.C (Kd.int .u8) w A0 l.length l) (hc0 : l.length ≤ c0) (hy : l.length ≤ 140737488351232) :
    Calls Try.prog 29 #[.slice A0 l.length c0] w fun e w' => ∃ g v, e = .returned (.pointer (some ⟨g, 0, none⟩)) ∧ RdS w.heap.size w' g v l 0 ∧ Below w.heap.size w w' := by
  have HR0 := Aside0.mk hr0
  clear hr0
  go_enter Try.func29, Try.ntmps29
  go_wp2_with fail
  refine (clone_calls A0 c0 l w HR0.out hc0 hy).mono ?_
  rintro e w1 ⟨v, rfl, hv, hb⟩
  obtain ⟨A, c, rfl, hc, hC⟩ := Kd.R_reads hv
  have HB := Aside0.mk hb
  have HV := Aside0.mk hv
  clear hC hb hv
  go_wp2
  go_ret
  exact ⟨_, _, rfl, ⟨heap_alloc_new w1 _, HB.out.size, Kd.R_alloc HV.out _⟩, below_alloc HB.out _⟩
set_option maxHeartbeats 1000000 in
theorem rd_none (base g : Nat) (v : Value) (bs : List Int) (at_ : Nat) (w : World) (hI : RdS base w g v bs at_) :
    Calls Try.prog 51 #[.pointer (some ⟨g, 0, none⟩)] w fun e w' => e = .returned (.bool false) ∧ Drawn0 w w' := by
  have hc0 := hI.cells.1
  clear hI
  go_enter Try.func51, Try.ntmps51
  go_wp2
  go_ret
  exact ⟨rfl, Drawn0.refl _⟩
set_option maxHeartbeats 1000000 in
theorem rd_left (base g : Nat) (v : Value) (bs : List Int) (at_ : Nat) (w : World) (hI : RdS base w g v bs at_) (hl : bs.length ≤ 140737488351232) (ha : at_ ≤ 8 * bs.length) :
    Calls Try.prog 81 #[.pointer (some ⟨g, 0, none⟩)] w fun e w' => e = .returned (.int .i64 (8 * (bs.length : Int) - (at_ : Int))) ∧ Drawn0 w w' := by
  have HI := Aside0.mk hI
  obtain ⟨A, c, rfl, _, _⟩ := Kd.R_reads hI.2.2
  obtain ⟨_, hc1, hc2, _⟩ := hI.cells
  clear hI
  go_enter Try.func81, Try.ntmps81
  go_wp2_with fail
  refine (rd_none base g _ bs at_ w HI.out).mono ?_
  rintro e w1 ⟨rfl, ⟨n1, rfl⟩⟩
  go_wp2
  go_quiet (fail)
  go_wp2
  go_ret
  exact ⟨rfl, by repeat (first | exact Drawn0.refl _ | apply Drawn0.step)⟩
set_option maxHeartbeats 1000000 in
theorem rd_used (base g : Nat) (v : Value) (bs : List Int) (at_ : Nat) (w : World) (hI : RdS base w g v bs at_) (ha : at_ ≤ 8 * 140737488351232) :
    Calls Try.prog 32 #[.pointer (some ⟨g, 0, none⟩)] w fun e w' => e = .returned (.int .i64 (((at_ + 7) / 8 : Nat) : Int)) ∧ Drawn0 w w' := by
  have HI := Aside0.mk hI
  obtain ⟨_, _, hc2, _⟩ := hI.cells
  clear hI
  go_enter Try.func32, Try.ntmps32
  go_wp2_with fail
  refine (rd_none base g _ bs at_ w HI.out).mono ?_
  rintro e w1 ⟨rfl, ⟨n1, rfl⟩⟩
  go_wp2
  go_ret
  refine ⟨?_, ⟨_, rfl⟩⟩
  have e : ((at_ : Int) + 8 - 1) / 8 = (((at_ + 7) / 8 : Nat) : Int) := by omega
  show Ending.returned (.int .i64 (((at_ : Int) + 8 - 1) / 8)) = _
  rw [e]
set_option maxHeartbeats 1000000 in
theorem rd_peek_bad (base g : Nat) (v : Value) (bs : List Int) (at_ : Nat) (n : Int) (w : World) (hI : RdS base w g v bs at_) (hn : n < 0 ∨ 32 < n) :
    Calls Try.prog 80 #[.pointer (some ⟨g, 0, none⟩), .int .i64 n] w fun e w' => e = .returned (.tuple #[.int .u32 0, .int .i64 10]) ∧ Drawn0 w w' := by
  have HI := Aside0.mk hI
  have hd : (decide (n < 0) = true) ∨ (decide (n < 0) = false ∧ decide (32 < n) = true) := by simp; omega
  clear hI hn
  rcases hd with h1 | ⟨h1, h2⟩
  all_goals
    go_enter Try.func80, Try.ntmps80
    go_wp2_with fail
    refine (rd_none base g _ bs at_ w HI.out).mono ?_
    rintro e w1 ⟨rfl, ⟨n1, rfl⟩⟩
    go_wp2
    go_ret2
    exact ⟨rfl, ⟨_, rfl⟩⟩
set_option maxHeartbeats 1000000 in
theorem rd_peek_ok (base g : Nat) (v : Value) (bs : List Int) (at_ : Nat) (n : Nat) (w : World) (hI : RdS base w g v bs at_) (hb : IsBytes bs) (hl : bs.length ≤ 140737488351232) (ha : at_ ≤ 8 * bs.length) (hn : n ≤ 32) :
    Calls Try.prog 80 #[.pointer (some ⟨g, 0, none⟩), .int .i64 (n : Int)] w fun e w' => e = .returned (.tuple #[.int .u32 (nbits bs at_ n : Nat), .int .i64 0]) ∧ Drawn0 w w' := by
  have HI := Aside0.mk hI
  have HN := Aside0.mk (number_is bs hb hl true at_ n 6 hn (by omega) (by omega))
  clear hI
  have h1 : decide ((n : Int) < 0) = false := by simp
  have h2 : decide (32 < (n : Int)) = false := by simp; omega
  go_enter Try.func80, Try.ntmps80
  go_wp2_with fail
  refine (rd_none base g _ bs at_ w HI.out).mono ?_
  rintro e w1 ⟨rfl, ⟨n1, rfl⟩⟩
  go_wp2_with fail
  have h3 := rnumber_quiet 6 g true bs (at_ : Int) (n : Int) _ _ _ (w.drewN n1) (HI.out.drewN n1).rdI HN.out
  refine h3.mono ?_
  rintro e w2 ⟨rfl, ⟨n2, rfl⟩⟩
  clear h3
  go_wp2
  go_ret2
  exact ⟨rfl, by repeat (first | exact Drawn0.refl _ | apply Drawn0.step)⟩
set_option maxHeartbeats 1000000 in
theorem rd_bits_bad (base g : Nat) (v : Value) (bs : List Int) (at_ : Nat) (n : Int) (w : World) (hI : RdS base w g v bs at_) (hn : n < 0 ∨ 32 < n) :
    Calls Try.prog 66 #[.pointer (some ⟨g, 0, none⟩), .int .i64 n] w fun e w' => e = .returned (.tuple #[.int .u32 0, .int .i64 10]) ∧ Drawn0 w w' := by
  have HP := Aside0.mk (rd_peek_bad base g v bs at_ n w hI hn)
  clear hI hn
  go_enter Try.func66, Try.ntmps66
  go_wp2_with fail
  refine HP.out.mono ?_
  rintro e w1 ⟨rfl, ⟨n1, rfl⟩⟩
  go_wp2
  go_ret2
  exact ⟨rfl, ⟨_, rfl⟩⟩
set_option maxHeartbeats 1000000 in
theorem rd_bits_ends (base g : Nat) (v : Value) (bs : List Int) (at_ : Nat) (n : Nat) (w : World) (hI : RdS base w g v bs at_) (hb : IsBytes bs) (hl : bs.length ≤ 140737488351232) (ha : at_ ≤ 8 * bs.length) (hn : n ≤ 32) (hend : 8 * bs.length < at_ + n) :
    Calls Try.prog 66 #[.pointer (some ⟨g, 0, none⟩), .int .i64 (n : Int)] w fun e w' => e = .returned (.tuple #[.int .u32 0, .int .i64 11]) ∧ Drawn0 w w' := by
  have HP := Aside0.mk (rd_peek_ok base g v bs at_ n w hI hb hl ha hn)
  have HI := Aside0.mk hI
  clear hI
  have ht : decide (8 * (bs.length : Int) - (at_ : Int) < (n : Int)) = true := by simp; omega
  go_enter Try.func66, Try.ntmps66
  go_wp2_with fail
  refine HP.out.mono ?_
  rintro e w1 ⟨rfl, ⟨n1, rfl⟩⟩
  go_wp2_with fail
  refine (rd_left base g v bs at_ _ (HI.out.drewN n1) hl ha).mono ?_
  rintro e w2 ⟨rfl, ⟨n2, rfl⟩⟩
  go_wp2
  go_ret2
  exact ⟨rfl, by repeat (first | exact Drawn0.refl _ | apply Drawn0.step)⟩
set_option maxHeartbeats 1000000 in
theorem rd_bits_ok (base g : Nat) (v : Value) (bs : List Int) (at_ : Nat) (n : Nat) (w : World) (hI : RdS base w g v bs at_) (hb : IsBytes bs) (hl : bs.length ≤ 140737488351232) (ha : at_ + n ≤ 8 * bs.length) (hn : n ≤ 32) :
    Calls Try.prog 66 #[.pointer (some ⟨g, 0, none⟩), .int .i64 (n : Int)] w fun e w' => e = .returned (.tuple #[.int .u32 (nbits bs at_ n : Nat), .int .i64 0]) ∧ ∃ k, w' = (w.drewN k).setCell ⟨g, 2, none⟩ (.int .i64 ((at_ + n : Nat) : Int)) := by
  have HP := Aside0.mk (rd_peek_ok base g v bs at_ n w hI hb hl (by omega) hn)
  have HI := Aside0.mk hI
  clear hI
  have ht : decide (8 * (bs.length : Int) - (at_ : Int) < (n : Int)) = false := by simp; omega
  go_enter Try.func66, Try.ntmps66
  go_wp2_with fail
  refine HP.out.mono ?_
  rintro e w1 ⟨rfl, ⟨n1, rfl⟩⟩
  go_wp2_with fail
  refine (rd_left base g v bs at_ _ (HI.out.drewN n1) hl (by omega)).mono ?_
  rintro e w2 ⟨rfl, ⟨n2, rfl⟩⟩
  obtain ⟨_, _, hc2, hf2⟩ := HI.out.cells
  go_wp2
  go_ret2
  exact ⟨rfl, n1 + n2, by rw [Int.natCast_add]⟩
set_option maxHeartbeats 1000000 in
theorem rd_align (base g : Nat) (v : Value) (bs : List Int) (at_ : Nat) (w : World) (hI : RdS base w g v bs at_) (ha : at_ ≤ 8 * 140737488351232) :
    Calls Try.prog 67 #[.pointer (some ⟨g, 0, none⟩)] w fun e w' => e = .returned (.tuple #[]) ∧ ∃ k, w' = (w.drewN k).setCell ⟨g, 2, none⟩ (.int .i64 ((8 * ((at_ + 7) / 8) : Nat) : Int)) := by
  have HI := Aside0.mk hI
  have HU := Aside0.mk (fun W hI => rd_used base g v bs at_ W hI ha)
  clear hI
  obtain ⟨q, hq⟩ : ∃ q, q = (at_ + 7) / 8 := ⟨_, rfl⟩
  have hu : q ≤ 140737488351232 := by omega
  rw [← hq] at HU ⊢
  clear hq
  go_enter Try.func67, Try.ntmps67
  go_wp2_with fail
  refine (rd_none base g _ bs at_ w HI.out).mono ?_
  rintro e w1 ⟨rfl, ⟨n1, rfl⟩⟩
  go_wp2_with fail
  refine (HU.out _ (HI.out.drewN n1)).mono ?_
  rintro e w2 ⟨rfl, ⟨n2, rfl⟩⟩
  obtain ⟨_, _, hc2, hf2⟩ := HI.out.cells
  go_wp2
  refine bodyPost_end (results_none rfl _ _ _) rfl ?_
  exact ⟨rfl, n1 + n2, by rw [show ((8 * q : Nat) : Int) = 8 * (q : Int) from by omega]⟩
set_option maxHeartbeats 1000000 in
theorem rd_bytes_neg (base g : Nat) (v : Value) (bs : List Int) (at_ : Nat) (n : Int) (w : World) (hI : RdS base w g v bs at_) (hn : n < 0) :
    Calls Try.prog 68 #[.pointer (some ⟨g, 0, none⟩), .int .i64 n] w fun e w' => e = .returned (.tuple #[.slice none 0 0, .int .i64 10]) ∧ Drawn0 w w' := by
  have HI := Aside0.mk hI
  have t0 : decide (n < 0) = true := by simpa using hn
  clear hI
  go_enter Try.func68, Try.ntmps68
  go_wp2_with fail
  refine (rd_none base g _ bs at_ w HI.out).mono ?_
  rintro e w1 ⟨rfl, ⟨n1, rfl⟩⟩
  go_wp2
  go_ret2
  exact ⟨rfl, ⟨_, rfl⟩⟩
set_option maxHeartbeats 1000000 in
theorem rd_bytes_ends (base g : Nat) (v : Value) (bs : List Int) (at_ : Nat) (n : Int) (w : World) (hI : RdS base w g v bs at_) (ha : at_ ≤ 8 * 140737488351232) (hl : bs.length ≤ 140737488351232) (hn0 : 0 ≤ n) (hn : (bs.length : Int) < n + ((at_ + 7) / 8 : Nat)) :
    Calls Try.prog 68 #[.pointer (some ⟨g, 0, none⟩), .int .i64 n] w fun e w' => e = .returned (.tuple #[.slice none 0 0, .int .i64 11]) ∧ Drawn0 w w' := by
  have HI := Aside0.mk hI
  obtain ⟨A, c, rfl, _, _⟩ := Kd.R_reads hI.2.2
  obtain ⟨_, hc1, _, _⟩ := hI.cells
  have HU := Aside0.mk (fun W hI => rd_used base g (.slice A bs.length c) bs at_ W hI ha)
  obtain ⟨q, hq⟩ : ∃ q, q = (at_ + 7) / 8 := ⟨_, rfl⟩
  have hu : q ≤ 140737488351232 := by omega
  rw [← hq] at HU hn
  clear hI hq
  have t0 : decide (n < 0) = false := by simp; omega
  have t1 : decide ((bs.length : Int) - (q : Int) < n) = true := by simp; omega
  go_enter Try.func68, Try.ntmps68
  go_wp2_with fail
  refine (rd_none base g _ bs at_ w HI.out).mono ?_
  rintro e w1 ⟨rfl, ⟨n1, rfl⟩⟩
  go_wp2_with fail
  refine (HU.out _ (HI.out.drewN n1)).mono ?_
  rintro e w2 ⟨rfl, ⟨n2, rfl⟩⟩
  go_wp2
  go_ret2
  exact ⟨rfl, by repeat (first | exact Drawn0.refl _ | apply Drawn0.step)⟩
set_option maxHeartbeats 1000000 in
theorem rd_bytes_ok (base g : Nat) (v : Value) (bs : List Int) (at_ : Nat) (n : Nat) (w : World) (hI : RdS base w g v bs at_) (hl : bs.length ≤ 140737488351232) (hn : n + (at_ + 7) / 8 ≤ bs.length) :
    Calls Try.prog 68 #[.pointer (some ⟨g, 0, none⟩), .int .i64 (n : Int)] w fun e w' => ∃ u w2, e = .returned (.tuple #[u, .int .i64 0]) ∧ (∃ k, w2 = (w.drewN k).setCell ⟨g, 2, none⟩ (.int .i64 ((8 * ((at_ + 7) / 8 + n) : Nat) : Int))) ∧ Kd.R (Kd.int .u8) 5 w' w.heap.size (fun _ => True) u ((bs.drop ((at_ + 7) / 8)).take n) ∧ Below w2.heap.size w2 w' := by
  have HI := Aside0.mk hI
  obtain ⟨A, c, rfl, hc, hC⟩ := Kd.R_reads hI.2.2
  have HU := Aside0.mk (fun W hI => rd_used base g (.slice A bs.length c) bs at_ W hI (by omega))
  obtain ⟨q, hq⟩ : ∃ q, q = (at_ + 7) / 8 := ⟨_, rfl⟩
  rw [← hq] at hn HU ⊢
  clear hI hq hC
  have t0 : decide ((n : Int) < 0) = false := by simp
  have t1 : decide ((bs.length : Int) - (q : Int) < (n : Int)) = false := by simp; omega
  obtain ⟨i5, hi5, h5⟩ := Option.map_eq_some_iff.1 infoB
  have hsz5 : i5.size = 1 := by simp only [Prod.mk.injEq] at h5; exact h5.2.1
  have hcut := cut_mid (P := Try.prog) 22 5 .i64 .i64 Try.underlying22 hi5 1 hsz5 A bs.length c (q : Int) ((q : Int) + (n : Int)) (by omega) (by omega) (by omega) hc
  have e1 : ((q : Int)).toNat = q := Int.toNat_natCast q
  have e2 : ((q : Int) + (n : Int)).toNat = q + n := by omega
  rw [e1, e2, Nat.add_sub_cancel_left] at hcut
  have hll : ((bs.take (q + n)).drop q).length = n := by simp; omega
  have HM := Aside0.mk (fun (W : World) (hW : RdS base W g (.slice A bs.length c) bs (8 * (q + n))) => Kd.C_mid (lo := q) (hi := q + n) (c := c) hW.C (by omega) (by omega) hc)
  have hdt : (bs.drop q).take n = (bs.take (q + n)).drop q := by rw [List.drop_take, Nat.add_sub_cancel_left]
  rw [hdt]
  rw [show Kd.sz (Kd.int .u8) = 1 from rfl] at HM
  generalize (bs.take (q + n)).drop q = l at HM hll ⊢
  generalize (if c = q then A else A.map (·.add (q * 1))) = A' at HM hcut
  subst hll
  clear e1 e2 hi5 h5 hsz5 hdt
  go_enter Try.func68, Try.ntmps68
  go_wp2_with fail
  refine (rd_none base g _ bs at_ w HI.out).mono ?_
  rintro e w1 ⟨rfl, ⟨n1, rfl⟩⟩
  go_wp2_with fail
  refine (HU.out _ (HI.out.drewN n1)).mono ?_
  rintro e w2 ⟨rfl, ⟨n2, rfl⟩⟩
  obtain ⟨_, hc1, hc2, hf2⟩ := HI.out.cells
  go_wp2_with fail
  have hs : ∀ k, ((8 * (q + l.length) : Nat) : Int) = 8 * ((q : Int) + (l.length : Int)) → RdS base ((w.drewN k).setCell ⟨g, 2, none⟩ (.int .i64 (8 * ((q : Int) + (l.length : Int))))) g (.slice A bs.length c) bs (8 * (q + l.length)) := fun k hk => by rw [← hk]; exact (HI.out.drewN k).set _
  have hsz : ∀ k, ((w.drewN k).setCell ⟨g, 2, none⟩ (.int .i64 (8 * ((q : Int) + (l.length : Int))))).heap.size = w.heap.size := fun k => by simp [World.setCell, World.drewN]
  refine (clone_calls A' (c - q) l _ (HM.out _ (hs _ (by omega))) (by omega) (by omega)).mono ?_
  rintro e w3 ⟨v, rfl, hv, hb⟩
  rw [hsz] at hv
  have HV := Aside0.mk hv
  have HB := Aside0.mk hb
  clear hv hb
  go_wp2
  go_ret2
  exact ⟨_, _, rfl, ⟨n1 + n2, by rw [show ((8 * (q + l.length) : Nat) : Int) = 8 * ((q : Int) + (l.length : Int)) from by omega]⟩, HV.out, HB.out⟩
end Go.Proofs.Ytjbckpfhenogiaa.Hw
