import Derived.Test.YtjbckpfhenogiaaNumber
import Derived.BigRegion
import Derived.Test.YtjbckpfhenogiaaLen32
import Derived.Outline
/- bitio's Writer, walked. -/
namespace Go.Proofs.Ytjbckpfhenogiaa.Hw
open Go.RowKit Go.Proofs.YtjbckpfhenogiaaW.PrintWords Go.Proofs.YtjbckpfhenogiaaW.PrintLast Go.Proofs.YtjbckpfhenogiaaW.PrintMore Go.Proofs.Ytjbckpfhenogiaa.PH
set_option linter.unusedVariables false
set_option linter.unusedSimpArgs false
theorem infoB8 : (Try.prog.info? 5).map (fun i => (i.zero, i.size, i.bytes)) = some (some (.int .u8 0), 1, 1) := by kernel_rfl
/-- A writer at block g that has the bits L; its bytes lie in v's row. -/
def WS (base : Nat) (w : World) (g : Nat) (v : Value) (L : List Bool) : Prop :=
  w.heap[g]? = some (.cells #[.bool true, v, .int .i64 (L.length : Int)] 65 (0, 0)) ∧ base ≤ g ∧ Kd.R (Kd.int .u8) 5 w base (fun _ => True) v (pack L)
/-- What a writer's call may touch: its block, its row, what is new. -/
def WF (base : Nat) (w w' : World) (g : Nat) (v v' : Value) : Prop :=
  Kept w w' (fun k => k = g ∨ v.ownBlock = some k) ∧ Below base w w' ∧ (v'.ownBlock = v.ownBlock ∨ ∃ b, v'.ownBlock = some b ∧ w.heap.size ≤ b)
theorem WF.refl (base : Nat) (w : World) (g : Nat) (v : Value) : WF base w w g v v := ⟨Kept.refl _ _, Below.refl _ _, .inl rfl⟩
theorem WF.drewN {base : Nat} {w w' : World} {g : Nat} {v v' : Value} (h : WF base w w' g v v') (n : Nat) : WF base w (w'.drewN n) g v v' := ⟨h.1.drewN n, pw_below_drewN h.2.1 n, h.2.2⟩
theorem WF.trans {base : Nat} {w w1 w2 : World} {g : Nat} {v v1 v2 : Value} (h : WF base w w1 g v v1) (k : WF base w1 w2 g v1 v2) (hB : base ≤ w.heap.size) : WF base w w2 g v v2 := by
  have hs := h.1.1
  refine ⟨h.1.then_ k.1 ?_, h.2.1.trans k.2.1, ?_⟩
  · intro j hj
    rcases hj with hj | hj
    · exact .inl (.inl hj)
    · rcases h.2.2 with e | ⟨b, e, hb⟩
      · exact .inl (.inr (by rw [← e]; exact hj))
      · rw [e] at hj; injection hj with hj; exact .inr (by omega)
  · rcases k.2.2 with e | ⟨b, e, hb⟩
    · rw [e]; exact h.2.2
    · exact .inr ⟨b, e, by omega⟩
theorem WS.cells {base : Nat} {w : World} {g : Nat} {v : Value} {L : List Bool} (h : WS base w g v L) : w.cell? ⟨g, 0, none⟩ = some (.bool true) ∧ w.cell? ⟨g, 1, none⟩ = some v ∧ w.cell? ⟨g, 2, none⟩ = some (.int .i64 (L.length : Int)) :=
  ⟨(blk_cell h.1 0).trans rfl, (blk_cell h.1 1).trans rfl, (blk_cell h.1 2).trans rfl⟩
theorem WS.drewN {base : Nat} {w : World} {g : Nat} {v : Value} {L : List Bool} (h : WS base w g v L) (n : Nat) : WS base (w.drewN n) g v L := ⟨h.1, h.2.1, Kd.R_drewN h.2.2 n⟩
set_option maxHeartbeats 1000000 in
theorem newWriter_calls (w : World) : Calls Try.prog 18 #[] w fun e w' => e = .returned (.pointer (some ⟨w.heap.size, 0, none⟩)) ∧ WS w.heap.size w' w.heap.size (.slice none 0 0) [] ∧ Below w.heap.size w w' ∧ w'.heap.size = w.heap.size + 1 := by
  go_enter Try.func18, Try.ntmps18
  go_wp2
  go_ret
  exact ⟨rfl, ⟨heap_alloc_new w _, Nat.le_refl _, Kd.R_nil _ _ _ _ _⟩, below_alloc (Below.refl _ _) _, by simp⟩
set_option maxHeartbeats 1000000 in
theorem wnone_calls (base : Nat) (g : Nat) (v : Value) (L : List Bool) (w : World) (hI : WS base w g v L) :
    Calls Try.prog 36 #[.pointer (some ⟨g, 0, none⟩)] w fun e w' => e = .returned (.bool false) ∧ Drawn0 w w' := by
  have hc0 := hI.cells.1
  clear hI
  go_enter Try.func36, Try.ntmps36
  go_wp2
  go_ret
  exact ⟨rfl, Drawn0.refl _⟩
theorem WS.grown {base : Nat} {w w1 : World} {g : Nat} {v : Value} {L : List Bool} {o : Obj} (h : WS base w g v L) (hg : (w.alloc o).grownBy w1 v.ownBlock) : w1.heap[g]? = some (.cells #[.bool true, v, .int .i64 (L.length : Int)] 65 (0, 0)) :=
  blk_grown (((below_alloc (Below.refl _ _) o).block g (blk_lt h.1)).trans h.1) hg (Kd.R_ne h.2.2 h.1 (by decide))
theorem ws_cell1 {w : World} {g : Nat} {v : Value} {m : Int} (h : w.heap[g]? = some (.cells #[.bool true, v, .int .i64 m] 65 (0, 0))) : w.cell? ⟨g, 1, none⟩ = some v := (blk_cell h 1).trans rfl
/-- A writer in the middle of a bit: there is room for it. -/
def PS (base : Nat) (wr W : World) (g gr n cap : Nat) (M : List Bool) (v' : Value) : Prop :=
  W.heap[g]? = some (.cells #[.bool true, .slice (some ⟨gr, 0, none⟩) n cap, .int .i64 (M.length : Int)] 65 (0, 0)) ∧ base ≤ g ∧ Kd.R (Kd.int .u8) 5 W base (fun _ => True) (.slice (some ⟨gr, 0, none⟩) n cap) (room1 M) ∧ WF base wr W g v' (.slice (some ⟨gr, 0, none⟩) n cap)
theorem PS.mkA {base : Nat} {wr w1 : World} {g gr cap : Nat} {M : List Bool} {v' : Value} {o : Obj} (hI : WS base wr g v' M) (h8 : M.length % 8 = 0) (hBw : base ≤ wr.heap.size)
    (hv : Kd.R (Kd.int .u8) 5 w1 base (fun _ => True) (.slice (some ⟨gr, 0, none⟩) (pack M ++ [0]).length cap) (pack M ++ [0])) (hg1 : w1.heap[g]? = some (.cells #[.bool true, v', .int .i64 (M.length : Int)] 65 (0, 0)))
    (hb : Below base wr w1) (hgr : (wr.alloc o).grownBy w1 v'.ownBlock) (hat : (Value.slice (some ⟨gr, 0, none⟩) (pack M ++ [0]).length cap).ownBlock = v'.ownBlock ∨ ∃ b, (Value.slice (some ⟨gr, 0, none⟩) (pack M ++ [0]).length cap).ownBlock = some b ∧ (wr.alloc o).heap.size ≤ b) :
    PS base wr (w1.setCell ⟨g, 1, none⟩ (.slice (some ⟨gr, 0, none⟩) ((pack M).length + 1) cap)) g gr ((pack M).length + 1) cap M v' := by
  have e : (pack M ++ [0]).length = (pack M).length + 1 := by simp
  have er : room1 M = pack M ++ [0] := by unfold room1; rw [if_pos h8]
  rw [e] at hv hat
  refine ⟨?_, hI.2.1, ?_, ?_, hb.setCell hI.2.1 _, ?_⟩
  · simpa using blk_set hg1 1 (.slice (some ⟨gr, 0, none⟩) ((pack M).length + 1) cap)
  · rw [er]; exact Kd.R_set hv hg1 (by intro q hq; have : q = 5 := by simpa [Kd.int, Kd.scalar] using hq
                                       subst this; decide) 1 _
  · refine Kept.setCell (Kept.of_grown hgr ((Kept.refl _ _).alloc o) (fun k hk => .inl (.inr hk))) (.inl (.inl rfl)) _
  · rcases hat with h | ⟨b, h, hb⟩
    · exact .inl h
    · exact .inr ⟨b, h, by simp at hb; omega⟩
theorem PS.mkB {base : Nat} {wr : World} {g : Nat} {M : List Bool} {v' : Value} (hI : WS base wr g v' M) (h8 : ¬ M.length % 8 = 0) : ∃ gr cap, v' = .slice (some ⟨gr, 0, none⟩) (pack M).length cap ∧ PS base wr wr g gr (pack M).length cap M v' := by
  have hp : 0 < (pack M).length := by rw [pack_length]; omega
  obtain ⟨gr, cap, rfl, h1, h2, _⟩ := Kd.R_form hI.2.2 hp
  refine ⟨gr, cap, rfl, hI.1, hI.2.1, ?_, WF.refl _ _ _ _⟩
  have er : room1 M = pack M := by unfold room1; rw [if_neg h8]
  rw [er]; exact hI.2.2
theorem PS.facts {base : Nat} {wr W : World} {g gr n cap : Nat} {M : List Bool} {v' : Value} (h : PS base wr W g gr n cap M v') :
    W.cell? ⟨g, 1, none⟩ = some (.slice (some ⟨gr, 0, none⟩) n cap) ∧ W.cell? ⟨g, 2, none⟩ = some (.int .i64 (M.length : Int)) ∧ M.length / 8 < n ∧ W.cell? ⟨gr, M.length / 8, none⟩ = some (.int .u8 ((((room1 M).getD (M.length / 8) 0).toNat : Nat) : Int)) ∧ W.frozen? ⟨gr, M.length / 8, none⟩ = false ∧ gr ≠ g := by
  have hl := room1_length M
  have hn : n = (room1 M).length := (Kd.R_reads' h.2.2.1).1
  have hlt : M.length / 8 < n := by omega
  have hc := Kd.R_celln 0 h.2.2.1 ((M.length / 8 : Nat) : Int) (by omega) (by omega)
  rw [Int.toNat_natCast] at hc
  have hr := byte_range (room1_bytes M) (M.length / 8)
  have he : rdOf 0 (room1 M) ((M.length / 8 : Nat) : Int) = ((((room1 M).getD (M.length / 8) 0).toNat : Nat) : Int) := by
    unfold rdOf; rw [Int.toNat_natCast]; omega
  rw [he] at hc
  have hne := Kd.R_ne h.2.2.1 h.1 (by decide)
  refine ⟨(blk_cell h.1 1).trans rfl, (blk_cell h.1 2).trans rfl, hlt, hc.1, hc.2, fun e => hne ?_⟩
  rw [← e]; rfl
theorem PS.done {base : Nat} {wr W : World} {g gr n cap : Nat} {M : List Bool} {v' : Value} (h : PS base wr W g gr n cap M v') (hB : base ≤ wr.heap.size) (b : Bool) (y : Int) (hy : y = ((((room1 M).getD (M.length / 8) 0).toNat ||| (b.toNat * 2 ^ (M.length % 8)) : Nat) : Int)) :
    WS base ((W.setCell ⟨gr, M.length / 8, none⟩ (.int .u8 y)).setCell ⟨g, 2, none⟩ (.int .i64 ((M.length : Int) + 1))) g (.slice (some ⟨gr, 0, none⟩) n cap) (M ++ [b]) ∧ WF base wr ((W.setCell ⟨gr, M.length / 8, none⟩ (.int .u8 y)).setCell ⟨g, 2, none⟩ (.int .i64 ((M.length : Int) + 1))) g v' (.slice (some ⟨gr, 0, none⟩) n cap) := by
  have hf := h.facts
  have hput := Kd.R_putg h.2.2.1 ((M.length / 8 : Nat) : Int) y
  rw [Int.toNat_natCast] at hput
  have hgb := hput.2
  have hfar : (W.setCell ⟨gr, M.length / 8, none⟩ (.int .u8 y)).heap[g]? = some (.cells #[.bool true, .slice (some ⟨gr, 0, none⟩) n cap, .int .i64 (M.length : Int)] 65 (0, 0)) := blk_far h.1 (fun e => hf.2.2.2.2.2 e.symm) _
  have hgr : base ≤ gr := Kd.R_base h.2.2.1 gr rfl
  refine ⟨⟨?_, h.2.1, ?_⟩, ?_, ?_, h.2.2.2.2.2⟩
  · have := blk_set hfar 2 (.int .i64 ((M.length : Int) + 1))
    simpa using this
  · have h2 := Kd.R_set hput.1 hfar (by intro q hq; have : q = 5 := by simpa [Kd.int, Kd.scalar] using hq
                                        subst this; decide) 2 (.int .i64 ((M.length : Int) + 1))
    rw [pack_snoc, ← hy]; exact h2
  · refine Kept.setCell (Kept.setCell h.2.2.2.1 ?_ _) (.inl (.inl rfl)) _
    rcases h.2.2.2.2.2 with e | ⟨b, e, hb⟩
    · exact .inl (.inr (by rw [← e]; rfl))
    · simp only [Value.ownBlock, Option.some.injEq] at e
      subst e; exact .inr hb
  · exact (h.2.2.2.2.1.setCell hgr _).setCell h.2.1 _
theorem WS.drew {base : Nat} {w : World} {g : Nat} {v : Value} {L : List Bool} (h : WS base w g v L) : WS base w.drew g v L := ⟨h.1, h.2.1, Kd.R_drew h.2.2⟩
theorem WF.drew {base : Nat} {w w' : World} {g : Nat} {v v' : Value} (h : WF base w w' g v v') : WF base w w'.drew g v v' := ⟨h.1.drew, below_drew h.2.1, h.2.2⟩
theorem u8_self (n : Int) (h0 : 0 ≤ n) (h1 : n < 2 ^ 8) : IntKind.u8.wrap n = n := by
  have : (2 : Int) ^ 8 = 256 := rfl
  simp [IntKind.wrap, IntKind.bits, IntKind.signed]; omega
theorem u32_selfW (n : Int) (h0 : 0 ≤ n) (h1 : n < 2 ^ 32) : IntKind.u32.wrap n = n := by
  have : (2 : Int) ^ 32 = 4294967296 := rfl
  simp [IntKind.wrap, IntKind.bits, IntKind.signed]; omega
theorem bit_and (x k : Nat) (hx : x < 4294967296) : bits .and .u32 ((x : Int) / 2 ^ k) 1 % 256 = (((x.testBit k).toNat : Nat) : Int) := by
  have e : ((x : Int) / 2 ^ k) = ((x / 2 ^ k : Nat) : Int) := by rw [two_pow_cast]; rfl
  have hle : x / 2 ^ k ≤ x := Nat.div_le_self _ _
  have h32 : (2 : Nat) ^ 32 = 4294967296 := rfl
  have := (bits_nat .u32 32 (by decide) u32_selfW (x / 2 ^ k) 1 (by omega) (by omega)).1
  rw [Int.natCast_one] at this
  rw [e, this, Nat.and_one_is_mod, Nat.testBit_eq_decide_div_mod_eq]
  generalize x / 2 ^ k = y
  by_cases h : y % 2 = 1
  · simp [h]
  · have : y % 2 = 0 := by omega
    simp [this]
theorem bit_or (y0 m : Nat) (b : Bool) (hy : y0 < 256) : bits .or .u8 (y0 : Int) (((b.toNat : Nat) : Int) * 2 ^ (m % 8) % 256) = ((y0 ||| (b.toNat * 2 ^ (m % 8)) : Nat) : Int) := by
  have hb : b.toNat * 2 ^ (m % 8) < 256 := by
    have h7 : (2 : Nat) ^ (m % 8) ≤ 2 ^ 7 := Nat.pow_le_pow_right (by omega) (by omega)
    have e7 : (2 : Nat) ^ 7 = 128 := rfl
    cases b <;> simp <;> omega
  have h8 : (2 : Nat) ^ 8 = 256 := rfl
  have e : (((b.toNat : Nat) : Int) * 2 ^ (m % 8) % 256) = ((b.toNat * 2 ^ (m % 8) : Nat) : Int) := by
    rw [two_pow_cast, ← Int.natCast_mul]; omega
  rw [e, (bits_nat .u8 8 (by decide) u8_self y0 _ (by omega) (by omega)).2]
theorem bit_or0 (y0 m : Nat) (b : Bool) (hy : y0 < 256) (hm : m % 8 = 0) : bits .or .u8 (y0 : Int) ((b.toNat : Nat) : Int) = ((y0 ||| (b.toNat * 2 ^ (m % 8)) : Nat) : Int) := by
  have := bit_or y0 m b hy
  rw [← this, hm]
  have hb : ((b.toNat : Nat) : Int) * 2 ^ 0 % 256 = ((b.toNat : Nat) : Int) := by cases b <;> rfl
  rw [hb]
def bitsN (x n : Nat) : List Bool := (List.range n).map x.testBit
theorem bitsN_succ (x n : Nat) : bitsN x (n + 1) = bitsN x n ++ [x.testBit n] := by simp [bitsN, List.range_succ]
theorem bitsN_length (x n : Nat) : (bitsN x n).length = n := by simp [bitsN]
set_option maxRecDepth 100000 in
set_option maxHeartbeats 2000000 in
theorem wbits_ok (base g : Nat) (v : Value) (L : List Bool) (w : World) (x n : Nat) (hI : WS base w g v L) (hB : base ≤ w.heap.size) (hn : n ≤ 32) (hx : x < 4294967296) (hxn : Lib.bitLen x ≤ n) (hlen : L.length + n ≤ 1125899906809856) :
    Calls Try.prog 19 #[.pointer (some ⟨g, 0, none⟩), .int .u32 (x : Int), .int .i64 (n : Int)] w fun e w' => e = .returned (.int .i64 0) ∧ ∃ v', WS base w' g v' (L ++ bitsN x n) ∧ WF base w w' g v v' := by
  have HI := Aside0.mk hI
  clear hI
  have h1 : decide ((n : Int) < 0) = false := by simp
  have h2 : decide (32 < (n : Int)) = false := by simp; omega
  have h2n : decide (32 < n) = false := by simp; omega
  have h3 : decide ((n : Int) < (Lib.bitLen x : Int)) = false := by simp; omega
  have h3n : decide (n < Lib.bitLen x) = false := by simp; omega
  have HL := Aside0.mk (Len32_calls (x : Int))
  go_enter Try.func19, Try.ntmps19
  go_wp2_with fail
  refine (wnone_calls base g v L w HI.out).mono ?_
  rintro e w1 ⟨rfl, ⟨n1, rfl⟩⟩
  go_wp2_with fail
  refine (HL.out _ (by omega) (by omega)).mono ?_
  rintro e w2 ⟨rfl, rfl⟩
  rw [Int.toNat_natCast]
  go_wp2
  clear h1 h2 h2n h3 h3n HL
  have HI1 := Aside0.mk (HI.out.drewN n1)
  have HW1 : Aside0 (WF base w (w.drewN n1) g v v) := ⟨(WF.refl base w g v).drewN n1⟩
  clear HI
  generalize w.drewN n1 = W at *
  go_loopw [25] (fun i wr => ∃ (k : Nat) (v' : Value), k ≤ n ∧ i = .int .i64 k ∧ Aside0 (WS base wr g v' (L ++ bitsN x k)) ∧ Aside0 (WF base w wr g v v')) (fun i _ => n - (intOf i).toNat)
  case atStart => exact ⟨0, v, Nat.zero_le _, rfl, ⟨by simpa [bitsN] using HI1.out⟩, HW1⟩
  case round =>
    clear HI1 HW1
    obtain ⟨k, v', hk, rfl, HI, HW⟩ := hrel
    by_cases hlt : k < n
    · have hml : (L ++ bitsN x k).length = L.length + k := by simp [bitsN_length]
      obtain ⟨M, hM⟩ : ∃ M, M = L ++ bitsN x k := ⟨_, rfl⟩
      rw [← hM] at HI hml
      have HM := Aside0.mk hM
      clear hM
      have HS := HI.out
      obtain ⟨A, c, rfl, hc, hC⟩ := Kd.R_reads HS.2.2
      obtain ⟨hc0, hc1, hc2⟩ := HS.cells
      have hf1 := blk_frozen HS.1 1
      have hf2 := blk_frozen HS.1 2
      have hbg := HS.2.1
      have hpl0 : (pack M).length ≤ 140737488351232 := by rw [pack_length]; omega
      have HPL := Aside0.mk (pack_length M)
      have HC := Aside0.mk hC
      clear HS hC
      have hm : M.length ≤ 1125899906809856 := by omega
      have HML := Aside0.mk hml
      clear hml
      generalize hmm : M.length = m at *
      have HMM := Aside0.mk hmm
      clear hmm
      by_cases h8 : m % 8 = 0
      · have t1 : ((m : Int) % 8 == 0) = true := by simp; omega
        have HO : Aside0 ((Kd.int .u8).R 5 (wr.alloc (.cells #[.int .u8 0] 5)) base (fun _ => True) (.slice A (pack M).length c) (pack M)) := ⟨Kd.R_alloc HI.out.2.2 _⟩
        have HL0 : Aside0 ((Kd.int .u8).C (wr.alloc (.cells #[.int .u8 0] 5)) (some ⟨wr.heap.size, 0, none⟩) 1 [0]) := ⟨(Arr.new wr 5 .u8 [0]).reads (by decide)⟩
        have HBW : Aside0 (base ≤ wr.heap.size) := ⟨Nat.le_trans hB HW.out.1.1⟩
        go_wp2_with (refine Kd.R_append_row (Value.int .u8) 0 (w0 := wr) base rfl _ _ 22 5 (.int .u8 0) 1 rfl Try.underlying22 infoB8 rfl (by decide) (.slice A (pack M).length c) (pack M) [0] (some ⟨wr.heap.size, 0, none⟩) 1 1 (fun _ => True) rfl rfl (fun _ _ => trivial) HO.out HL0.out ((Below.refl _ _).alloc HBW.out _) (by have := HBW.out; simp; omega) (by simp; omega) ?_; intro v1 w1 hv1 hb1 hg1 hat1; obtain ⟨gr, cap, rfl, hbgr, hgr, _⟩ := Kd.R_form hv1 (by simp); have HG1 := Aside0.mk (HI.out.grown hg1); have hc1' := ws_cell1 HG1.out; have hf1' := blk_frozen HG1.out 1; have HV1 := Aside0.mk hv1; have HX1 := Aside0.mk (And.intro hb1 (And.intro hg1 hat1)); clear hv1 hb1 hg1 hat1)
        have HPS := Aside0.mk (PS.mkA HI.out (by rw [HMM.out]; exact h8) HBW.out HV1.out HG1.out HX1.out.1 HX1.out.2.1 HX1.out.2.2)
        clear hc1' hf1' HV1 HG1 HX1 HO HL0
        generalize w1.setCell ⟨g, 1, none⟩ (.slice (some ⟨gr, 0, none⟩) ((pack M).length + 1) cap) = W2 at *
        obtain ⟨f1, f2, f3, f4, f5, f6⟩ := HPS.out.facts
        rw [HMM.out] at f2 f3 f4 f5
        clear hc0 hc1 hc2 hf1 hf2
        have f7 := blk_frozen HPS.out.1 2
        obtain ⟨y0, hy0⟩ : ∃ y0, y0 = ((room1 M).getD (m / 8) 0).toNat := ⟨_, rfl⟩
        rw [← hy0] at f4
        have HY0 := Aside0.mk hy0
        clear hy0
        go_region
        go_wp2
        refine ⟨?rel, ?measure⟩
        case rel =>
          have hy : (room1 M).getD (M.length / 8) 0 ≤ 255 := (byte_range (room1_bytes M) _).2
          have hy2 : y0 < 256 := by rw [HY0.out]; rw [HMM.out] at hy; omega
          have hd := HPS.out.done (Nat.le_trans hB HW.out.1.1) (x.testBit k) (y := bits .or .u8 (y0 : Int) (bits .and .u32 ((x : Int) / 2 ^ k) 1 % 256)) (by rw [HMM.out, ← HY0.out, bit_and x k hx]; exact bit_or0 y0 m _ hy2 h8)
          have hMb : M ++ [x.testBit k] = L ++ bitsN x (k + 1) := by rw [HM.out, List.append_assoc, ← bitsN_succ]
          rw [HMM.out, hMb] at hd
          exact ⟨k + 1, _, by omega, by go_num, ⟨hd.1.drew⟩, ⟨HW.out.trans hd.2.drew hB⟩⟩
        case measure => simp [intOf]; omega
      · have t1 : ((m : Int) % 8 == 0) = false := by simp; omega
        obtain ⟨gr, cap, hv', hps⟩ := PS.mkB HI.out (by rw [HMM.out]; exact h8)
        cases hv'
        have HPS := Aside0.mk hps
        clear hps
        go_wp2
        obtain ⟨f1, f2, f3, f4, f5, f6⟩ := HPS.out.facts
        rw [HMM.out] at f2 f3 f4 f5
        clear hc0 hc1 hc2 hf1 hf2
        have f7 := blk_frozen HPS.out.1 2
        obtain ⟨y0, hy0⟩ : ∃ y0, y0 = ((room1 M).getD (m / 8) 0).toNat := ⟨_, rfl⟩
        rw [← hy0] at f4
        have HY0 := Aside0.mk hy0
        clear hy0
        go_region
        go_wp2
        refine ⟨?rel, ?measure⟩
        case rel =>
          have hy : (room1 M).getD (M.length / 8) 0 ≤ 255 := (byte_range (room1_bytes M) _).2
          have hy2 : y0 < 256 := by rw [HY0.out]; rw [HMM.out] at hy; omega
          have hd := HPS.out.done (Nat.le_trans hB HW.out.1.1) (x.testBit k) (y := bits .or .u8 (y0 : Int) (bits .and .u32 ((x : Int) / 2 ^ k) 1 % 256 * 2 ^ (m % 8) % 256)) (by rw [HMM.out, ← HY0.out, bit_and x k hx]; exact bit_or y0 m _ hy2)
          have hMb : M ++ [x.testBit k] = L ++ bitsN x (k + 1) := by rw [HM.out, List.append_assoc, ← bitsN_succ]
          rw [HMM.out, hMb] at hd
          exact ⟨k + 1, _, by omega, by go_num, ⟨hd.1.drew⟩, ⟨HW.out.trans hd.2.drew hB⟩⟩
        case measure => simp [intOf]; omega
    · obtain rfl : k = n := by omega
      go_wp2
      go_ret
      exact ⟨rfl, v', HI.out, HW.out⟩
end Go.Proofs.Ytjbckpfhenogiaa.Hw
