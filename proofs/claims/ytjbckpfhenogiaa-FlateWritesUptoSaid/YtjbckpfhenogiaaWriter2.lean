import Derived.Test.YtjbckpfhenogiaaWriter
import Derived.Test.YtjbckpfhenogiaaReader
import Derived.Handy
import Derived.Outline
/- bitio's Writer, walked: Len, Out, Align, Bytes, and what Bits refuses. -/
namespace Go.Proofs.Ytjbckpfhenogiaa.Hw
open Go.RowKit Go.Proofs.YtjbckpfhenogiaaW.PrintWords Go.Proofs.YtjbckpfhenogiaaW.PrintLast Go.Proofs.YtjbckpfhenogiaaW.PrintMore Go.Proofs.Ytjbckpfhenogiaa.PH
set_option linter.unusedVariables false
set_option linter.unusedSimpArgs false
/-- A writer's block with whatever bytes and number. -/
def GS (base : Nat) (w : World) (g : Nat) (v : Value) (xs : List Int) (n : Int) : Prop :=
  w.heap[g]? = some (.cells #[.bool true, v, .int .i64 n] 65 (0, 0)) ∧ base ≤ g ∧ Kd.R (Kd.int .u8) 5 w base (fun _ => True) v xs
theorem GS.of {base : Nat} {w : World} {g : Nat} {v : Value} {L : List Bool} (h : WS base w g v L) : GS base w g v (pack L) (L.length : Int) := h
theorem GS.to {base : Nat} {w : World} {g : Nat} {v : Value} {L : List Bool} {xs : List Int} {n : Int} (h : GS base w g v xs n) (hx : xs = pack L) (hn : n = (L.length : Int)) : WS base w g v L := by subst hx hn; exact h
theorem GS.drewN {base : Nat} {w : World} {g : Nat} {v : Value} {xs : List Int} {n : Int} (h : GS base w g v xs n) (k : Nat) : GS base (w.drewN k) g v xs n := ⟨h.1, h.2.1, Kd.R_drewN h.2.2 k⟩
theorem GS.cells {base : Nat} {w : World} {g : Nat} {v : Value} {xs : List Int} {n : Int} (h : GS base w g v xs n) : w.cell? ⟨g, 0, none⟩ = some (.bool true) ∧ w.cell? ⟨g, 1, none⟩ = some v ∧ w.cell? ⟨g, 2, none⟩ = some (.int .i64 n) :=
  ⟨(blk_cell h.1 0).trans rfl, (blk_cell h.1 1).trans rfl, (blk_cell h.1 2).trans rfl⟩
theorem GS.set2 {base : Nat} {w : World} {g : Nat} {v : Value} {xs : List Int} {n : Int} (h : GS base w g v xs n) (k : Int) : GS base (w.setCell ⟨g, 2, none⟩ (.int .i64 k)) g v xs k := by
  refine ⟨?_, h.2.1, ?_⟩
  · have := blk_set h.1 2 (.int .i64 k)
    simpa using this
  · exact Kd.R_set h.2.2 h.1 (by intro q hq; have : q = 5 := by simpa [Kd.int, Kd.scalar] using hq
                                 subst this; decide) 2 _
set_option maxHeartbeats 1000000 in
theorem wnone_calls' (base : Nat) (g : Nat) (v : Value) (xs : List Int) (n : Int) (w : World) (hI : GS base w g v xs n) :
    Calls Try.prog 36 #[.pointer (some ⟨g, 0, none⟩)] w fun e w' => e = .returned (.bool false) ∧ Drawn0 w w' := by
  have hc0 := hI.cells.1
  clear hI
  go_enter Try.func36, Try.ntmps36
  go_wp2
  go_ret
  exact ⟨rfl, Drawn0.refl _⟩
set_option maxHeartbeats 1000000 in
theorem wout_calls (base g : Nat) (v : Value) (L : List Bool) (w : World) (hI : WS base w g v L) (hl : L.length ≤ 1125899906809856) :
    Calls Try.prog 22 #[.pointer (some ⟨g, 0, none⟩)] w fun e w' => ∃ u, e = .returned u ∧ Kd.R (Kd.int .u8) 5 w' w.heap.size (fun _ => True) u (pack L) ∧ Below w.heap.size w w' := by
  have HI := Aside0.mk hI
  obtain ⟨A, c, rfl, hc, hC⟩ := Kd.R_reads hI.2.2
  have HC := Aside0.mk hC
  have hc1 := hI.cells.2.1
  have hpl : (pack L).length ≤ 140737488351232 := by rw [pack_length]; omega
  clear hI hC
  go_enter Try.func22, Try.ntmps22
  go_wp2_with fail
  refine (wnone_calls base g _ L w HI.out).mono ?_
  rintro e w1 ⟨rfl, ⟨n1, rfl⟩⟩
  go_wp2_with fail
  refine (clone_calls A c (pack L) _ (Kd.C_drewN HC.out n1) hc hpl).mono ?_
  rintro e w2 ⟨u, rfl, hu, hb⟩
  have HU := Aside0.mk (And.intro hu hb)
  clear hu hb
  go_wp2
  go_ret
  exact ⟨_, rfl, HU.out.1, below_step (pw_below_drewN (Below.refl _ _) n1) HU.out.2⟩
set_option maxHeartbeats 1000000 in
theorem walign_g (base g : Nat) (v : Value) (xs : List Int) (n : Int) (w : World) (hI : GS base w g v xs n) (hl : xs.length ≤ 140737488355328) :
    Calls Try.prog 20 #[.pointer (some ⟨g, 0, none⟩)] w fun e w' => e = .returned (.tuple #[]) ∧ ∃ k, w' = (w.drewN k).setCell ⟨g, 2, none⟩ (.int .i64 (8 * (xs.length : Int))) := by
  have HI := Aside0.mk hI
  obtain ⟨A, c, rfl, hc, hC⟩ := Kd.R_reads hI.2.2
  have hc1 := hI.cells.2.1
  have hc2 := hI.cells.2.2
  have hf2 := blk_frozen hI.1 2
  clear hI hC
  go_enter Try.func20, Try.ntmps20
  go_wp2_with fail
  refine (wnone_calls' base g _ xs n w HI.out).mono ?_
  rintro e w1 ⟨rfl, ⟨n1, rfl⟩⟩
  go_wp2
  refine bodyPost_end (results_none rfl _ _ _) rfl ?_
  exact ⟨rfl, n1, rfl⟩
theorem walign_calls (base g : Nat) (v : Value) (L : List Bool) (w : World) (hI : WS base w g v L) (hB : base ≤ w.heap.size) (hl : L.length ≤ 1125899906809856) :
    Calls Try.prog 20 #[.pointer (some ⟨g, 0, none⟩)] w fun e w' => e = .returned (.tuple #[]) ∧ WS base w' g v (aligned L) ∧ WF base w w' g v v := by
  refine (walign_g base g v (pack L) _ w hI (by rw [pack_length]; omega)).mono ?_
  rintro e w' ⟨rfl, k, rfl⟩
  refine ⟨rfl, GS.to ((GS.drewN hI k).set2 _) (pack_aligned L).symm (by rw [pack_length, aligned_length]; omega), ?_, ?_, .inl rfl⟩
  · exact Kept.setCell ((Kept.refl _ _).drewN k) (.inl (.inl rfl)) _
  · exact (pw_below_drewN (Below.refl _ _) k).setCell hI.2.1 _
set_option maxHeartbeats 1000000 in
theorem wbytes_calls (base g : Nat) (v : Value) (L : List Bool) (w : World) (A1 : Option Addr) (c1 : Nat) (bs : List Int) (hI : WS base w g v L) (hB : base ≤ w.heap.size) (hr : Kd.C (Kd.int .u8) w A1 bs.length bs) (hc1 : bs.length ≤ c1) (hb : IsBytes bs) (hl : L.length + 8 * bs.length ≤ 1125899906809856) :
    Calls Try.prog 21 #[.pointer (some ⟨g, 0, none⟩), .slice A1 bs.length c1] w fun e w' => e = .returned (.int .i64 0) ∧ ∃ v', WS base w' g v' (aligned L ++ bitsOf bs) ∧ WF base w w' g v v' := by
  have HI := Aside0.mk hI
  have HR := Aside0.mk hr
  obtain ⟨A, c, rfl, hc, hC⟩ := Kd.R_reads hI.2.2
  have hcl1 := hI.cells.2.1
  have hf1 := blk_frozen hI.1 1
  have hpl : (pack L).length + bs.length ≤ 140737488351232 := by rw [pack_length]; omega
  clear hI hr hC
  go_enter Try.func21, Try.ntmps21
  go_wp2_with fail
  refine (wnone_calls base g _ L w HI.out).mono ?_
  rintro e w1 ⟨rfl, ⟨n1, rfl⟩⟩
  have HO : Aside0 ((Kd.int .u8).R 5 (w.drewN n1) base (fun _ => True) (.slice A (pack L).length c) (pack L)) := ⟨Kd.R_drewN HI.out.2.2 _⟩
  have HC1 : Aside0 ((Kd.int .u8).C (w.drewN n1) A1 bs.length bs) := ⟨Kd.C_drewN HR.out _⟩
  have HG : Aside0 ((w.drewN n1).heap[g]? = some (.cells #[.bool true, .slice A (pack L).length c, .int .i64 (L.length : Int)] 65 (0, 0))) := ⟨HI.out.1⟩
  have HBW : Aside0 (base ≤ (w.drewN n1).heap.size) := ⟨hB⟩
  have HD : Aside0 (WF base w (w.drewN n1) g (.slice A (pack L).length c) (.slice A (pack L).length c)) := ⟨(WF.refl _ _ _ _).drewN n1⟩
  have hcl1' : (w.drewN n1).cell? ⟨g, 1, none⟩ = some (.slice A (pack L).length c) := hcl1
  have hf1' : (w.drewN n1).frozen? ⟨g, 1, none⟩ = false := hf1
  clear hcl1 hf1
  generalize w.drewN n1 = W at *
  go_wp2_with (refine Kd.R_append_row (Value.int .u8) 0 (w0 := W) base rfl _ _ 22 5 (.int .u8 0) 1 rfl Try.underlying22 infoB8 rfl (by decide) (.slice A (pack L).length c) (pack L) bs A1 bs.length c1 (fun _ => True) rfl rfl (fun _ _ => trivial) HO.out HC1.out (Below.refl _ _) HBW.out (by omega) ?_; intro v1 w1 hv1 hb1 hg1 hat1; obtain ⟨A2, c2, rfl, hc2, _⟩ := Kd.R_reads hv1; have HG1 := Aside0.mk (blk_grown HG.out hg1 (Kd.R_ne HO.out HG.out (by decide))); have hc1' := ws_cell1 HG1.out; have hf1'' := blk_frozen HG1.out 1; have HV1 := Aside0.mk hv1; have HX1 := Aside0.mk (And.intro hb1 (And.intro hg1 hat1)); clear hv1 hb1 hg1 hat1)
  have hgs : GS base (w1.setCell ⟨g, 1, none⟩ (.slice A2 (pack L ++ bs).length c2)) g (.slice A2 (pack L ++ bs).length c2) (pack L ++ bs) (L.length : Int) := by
    refine ⟨?_, HI.out.2.1, Kd.R_set HV1.out HG1.out (by intro q hq; have : q = 5 := by simpa [Kd.int, Kd.scalar] using hq
                                                         subst this; decide) 1 _⟩
    have := blk_set HG1.out 1 (.slice A2 (pack L ++ bs).length c2)
    simpa using this
  have hwf : WF base w (w1.setCell ⟨g, 1, none⟩ (.slice A2 (pack L ++ bs).length c2)) g (.slice A (pack L).length c) (.slice A2 (pack L ++ bs).length c2) := by
    refine WF.trans HD.out ⟨?_, HX1.out.1.setCell HI.out.2.1 _, HX1.out.2.2⟩ hB
    exact Kept.setCell (Kept.of_grown HX1.out.2.1 (Kept.refl _ _) (fun k hk => .inl (.inr hk))) (.inl (.inl rfl)) _
  have hlen : (pack L ++ bs).length ≤ 140737488355328 := by rw [List.length_append]; omega
  have hal := walign_g base g _ _ _ _ hgs hlen
  have HGS := Aside0.mk (And.intro hgs hwf)
  clear hgs hwf hlen
  rw [List.length_append] at hal HGS
  refine hal.mono ?_
  rintro e w2 ⟨rfl, n2, rfl⟩
  clear hal hc1' hf1''
  go_wp2
  go_ret
  refine ⟨rfl, _, GS.to ((GS.drewN HGS.out.1 n2).set2 _) (pack_append L bs hb).symm (by rw [List.length_append, aligned_length, bitsOf_length, pack_length]; omega), ?_⟩
  refine WF.trans HGS.out.2 ⟨?_, ?_, .inl rfl⟩ hB
  · exact Kept.setCell ((Kept.refl _ _).drewN n2) (.inl (.inl rfl)) _
  · exact (pw_below_drewN (Below.refl _ _) n2).setCell HI.out.2.1 _
set_option maxHeartbeats 1000000 in
theorem wbits_bad (base g : Nat) (v : Value) (L : List Bool) (w : World) (x : Nat) (n : Int) (hI : WS base w g v L) (hx : x < 4294967296) (hn : n < 0 ∨ 32 < n ∨ n < (Lib.bitLen x : Int)) :
    Calls Try.prog 19 #[.pointer (some ⟨g, 0, none⟩), .int .u32 (x : Int), .int .i64 n] w fun e w' => e = .returned (.int .i64 10) ∧ Drawn0 w w' := by
  have HI := Aside0.mk hI
  clear hI
  have HL := Aside0.mk (Len32_calls (x : Int))
  have hd : (decide (n < 0) = true) ∨ (decide (n < 0) = false ∧ decide (32 < n) = true) ∨ (decide (n < 0) = false ∧ decide (32 < n) = false ∧ decide (n < (Lib.bitLen x : Int)) = true) := by simp; omega
  clear hn
  rcases hd with h0 | ⟨h0, h1⟩ | ⟨h0, h1, h2⟩
  · go_enter Try.func19, Try.ntmps19
    go_wp2_with fail
    refine (wnone_calls base g v L w HI.out).mono ?_
    rintro e w1 ⟨rfl, ⟨n1, rfl⟩⟩
    go_wp2
    go_ret
    exact ⟨rfl, ⟨_, rfl⟩⟩
  · go_enter Try.func19, Try.ntmps19
    go_wp2_with fail
    refine (wnone_calls base g v L w HI.out).mono ?_
    rintro e w1 ⟨rfl, ⟨n1, rfl⟩⟩
    go_wp2
    go_ret
    exact ⟨rfl, ⟨_, rfl⟩⟩
  · go_enter Try.func19, Try.ntmps19
    go_wp2_with fail
    refine (wnone_calls base g v L w HI.out).mono ?_
    rintro e w1 ⟨rfl, ⟨n1, rfl⟩⟩
    go_wp2_with fail
    refine (HL.out _ (by omega) (by omega)).mono ?_
    rintro e w2 ⟨rfl, rfl⟩
    rw [Int.toNat_natCast]
    go_wp2
    go_ret
    exact ⟨rfl, ⟨_, rfl⟩⟩
end Go.Proofs.Ytjbckpfhenogiaa.Hw
