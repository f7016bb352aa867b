import Derived.Test.YtlepnpjlmcjedaaRw
import Derived.Test.YtlepnpjlmcjedaaOp
import Derived.Test.YtlepnpjlmcjedaaPut
/- The law BitioWrites, walked: where what comes in is of bounded bulk. -/
namespace Go.Proofs.Ytlepnpjlmcjedaa.Hw
open Go.RowKit Go.Proofs.YtlepnpjlmcjedaaW.PrintWords Go.Proofs.YtlepnpjlmcjedaaW.PrintLast Go.Proofs.YtlepnpjlmcjedaaW.PrintMore Go.Proofs.Ytlepnpjlmcjedaa.PH
set_option linter.unusedVariables false
set_option linter.unusedSimpArgs false
/-- What Bits comes to: the error, and the bits then. -/
def wres (L : List Bool) (x : Nat) (n : Int) : Int × List Bool := if n < 0 ∨ 32 < n ∨ n < (Lib.bitLen x : Int) then (10, L) else (0, L ++ bitsN x n.toNat)
theorem wres_le (L : List Bool) (x : Nat) (n : Int) : (wres L x n).2.length ≤ L.length + 32 := by
  unfold wres; split
  · show L.length ≤ _; omega
  · show (L ++ bitsN x n.toNat).length ≤ _; rw [List.length_append, bitsN_length]; omega
theorem wbits_all (base g : Nat) (v : Value) (L : List Bool) (w : World) (x : Nat) (n : Int) (hI : WS base w g v L) (hB : base ≤ w.heap.size) (hx : x < 4294967296) (hlen : L.length + 32 ≤ 1125899906809856) :
    Calls Try.prog 44 #[.pointer (some ⟨g, 0, none⟩), .int .u32 (x : Int), .int .i64 n] w fun e w' => e = .returned (.int .i64 (wres L x n).1) ∧ ∃ v', WS base w' g v' (wres L x n).2 ∧ WF base w w' g v v' := by
  unfold wres
  by_cases h : n < 0 ∨ 32 < n ∨ n < (Lib.bitLen x : Int)
  · rw [if_pos h]
    refine (wbits_bad base g v L w x n hI hx h).mono ?_
    rintro e w' ⟨rfl, m, rfl⟩
    exact ⟨rfl, v, hI.drewN m, (WF.refl _ _ _ _).drewN m⟩
  · rw [if_neg h]
    obtain ⟨m, rfl⟩ : ∃ m : Nat, n = (m : Int) := ⟨n.toNat, by omega⟩
    rw [Int.toNat_natCast]
    exact wbits_ok base g v L w x m hI hB (by omega) hx (by omega) (by omega)
set_option maxHeartbeats 2000000 in
theorem rw_bits_bad (base g : Nat) (v : Value) (L : List Bool) (w : World) (x : Nat) (n : Int) (hx : x < 4294967296) (hn : n < 0 ∨ 32 < n ∨ n < (Lib.bitLen x : Int)) :
    Calls Try.prog 47 #[.pointer (some ⟨g, 0, none⟩), .int .u32 (x : Int), .int .i64 n] w fun e w' => e = .returned (.int .i64 10) ∧ w' = w := by
  by_cases h0 : n < 0
  · have h0d : decide (n < 0) = true := by simpa using h0
    clear hn
    go_enter Try.func47, Try.ntmps47
    go_wp2
    go_ret
    exact ⟨rfl, rfl⟩
  · obtain ⟨m, rfl⟩ : ∃ m : Nat, n = (m : Int) := ⟨n.toNat, by omega⟩
    have h0d : decide ((m : Int) < 0) = false := by simp
    by_cases h1 : 32 < m
    · have h1d : decide ((32 : Int) < (m : Int)) = true := by simp; omega
      have h1e : decide (32 < m) = true := by simp; omega
      clear hn
      go_enter Try.func47, Try.ntmps47
      go_wp2
      go_ret
      exact ⟨rfl, rfl⟩
    · have h1d : decide ((32 : Int) < (m : Int)) = false := by simp; omega
      have h1e : decide (32 < m) = false := by simp; omega
      have hbl := bitLen_le (n := 32) (show x < 2 ^ 32 from hx)
      have h2 : m < 32 := by omega
      have h2d : decide ((m : Int) < 32) = true := by simp; omega
      have h2e : decide (m < 32) = true := by simp; omega
      have h3 : ((x : Int) / 2 ^ m != 0) = true := by
        rw [two_pow_cast, ← Int.natCast_ediv]
        simp only [bne_iff_ne, ne_eq]
        intro he
        have he2 : x / 2 ^ m = 0 := by omega
        have hlt : x < 2 ^ m := (Nat.div_eq_zero_iff.1 he2).resolve_left (Nat.ne_of_gt (Nat.two_pow_pos m))
        have := bitLen_le hlt
        omega
      clear hn hbl
      go_enter Try.func47, Try.ntmps47
      go_wp2
      go_ret
      exact ⟨rfl, rfl⟩
theorem rw_bits_all (base g : Nat) (v : Value) (L : List Bool) (w : World) (x : Nat) (n : Int) (hI : RwS base w g v L) (hB : base ≤ w.heap.size) (hx : x < 4294967296) (hlen : L.length + 32 ≤ 140737488351232) :
    Calls Try.prog 47 #[.pointer (some ⟨g, 0, none⟩), .int .u32 (x : Int), .int .i64 n] w fun e w' => e = .returned (.int .i64 (wres L x n).1) ∧ ∃ v', RwS base w' g v' (wres L x n).2 ∧ WF base w w' g v v' := by
  unfold wres
  by_cases h : n < 0 ∨ 32 < n ∨ n < (Lib.bitLen x : Int)
  · rw [if_pos h]
    refine (rw_bits_bad base g v L w x n hx h).mono ?_
    rintro e w' ⟨rfl, rfl⟩
    exact ⟨rfl, v, hI, WF.refl _ _ _ _⟩
  · rw [if_neg h]
    obtain ⟨m, rfl⟩ : ∃ m : Nat, n = (m : Int) := ⟨n.toNat, by omega⟩
    rw [Int.toNat_natCast]
    refine rw_bits_ok base g v L w x m hI hB hx (fun hm => ?_) (by omega) (by omega)
    apply Decidable.byContradiction
    intro hc
    have := bitLen_gt (Nat.not_lt.mp hc) (by omega)
    omega
/-- The program's writer and the document's, side by side. -/
def Wr3 (w0 wr : World) (gf : Nat) (v u : Value) (L M : List Bool) : Prop :=
  WS w0.heap.size wr w0.heap.size v L ∧ RwS w0.heap.size wr gf u M ∧ gf ≠ w0.heap.size ∧ (∀ j, v.ownBlock = some j → u.ownBlock ≠ some j) ∧ Below w0.heap.size w0 wr
section
variable {w0 W w1 : World} {gf : Nat} {v u v1 : Value} {L M L1 : List Bool}
theorem Wr3.ws (h : Wr3 w0 W gf v u L M) : WS w0.heap.size W w0.heap.size v L := h.1
theorem Wr3.rws (h : Wr3 w0 W gf v u L M) : RwS w0.heap.size W gf u M := h.2.1
theorem Wr3.drew (h : Wr3 w0 W gf v u L M) : Wr3 w0 W.drew gf v u L M := ⟨h.1.drew, ⟨h.2.1.1, h.2.1.2.1, Kd.R_drew h.2.1.2.2⟩, h.2.2.1, h.2.2.2.1, below_drew h.2.2.2.2⟩
theorem Wr3.le (h : Wr3 w0 W gf v u L M) : w0.heap.size ≤ W.heap.size := h.2.2.2.2.size
theorem Wr3.drewN (h : Wr3 w0 W gf v u L M) (n : Nat) : Wr3 w0 (W.drewN n) gf v u L M := ⟨h.1.drewN n, h.2.1.drewN n, h.2.2.1, h.2.2.2.1, pw_below_drewN h.2.2.2.2 n⟩
theorem Wr3.below (h : Wr3 w0 W gf v u L M) (hb : Below W.heap.size W w1) : Wr3 w0 w1 gf v u L M := ⟨h.1.below hb, h.2.1.below hb, h.2.2.1, h.2.2.2.1, below_step h.2.2.2.2 hb⟩
theorem Wr3.fst (h : Wr3 w0 W gf v u L M) (hw : WS w0.heap.size w1 w0.heap.size v1 L1) (hf : WF w0.heap.size W w1 w0.heap.size v v1) : Wr3 w0 w1 gf v1 u L1 M := by
  refine ⟨hw, h.2.1.kept hf.1 ?_ ?_, h.2.2.1, ?_, h.2.2.2.2.trans hf.2.1⟩
  · rintro (e | e)
    · exact h.2.2.1 e
    · exact Kd.R_ne h.1.2.2 h.2.1.1 (by decide) e.symm
  · rintro j hj (e | e)
    · subst e; exact Kd.R_ne h.2.1.2.2 h.1.1 (by decide) hj.symm
    · exact h.2.2.2.1 j e hj
  · intro j hj hu
    rcases hf.2.2 with e | ⟨b, e, hb⟩
    · rw [e] at hj; exact h.2.2.2.1 j hj hu
    · rw [e] at hj; injection hj with hj; have := Kd.R_lt h.2.1.2.2 j hu; omega
theorem Wr3.snd (h : Wr3 w0 W gf v u L M) (hw : RwS w0.heap.size w1 gf v1 L1) (hf : WF w0.heap.size W w1 gf u v1) : Wr3 w0 w1 gf v v1 L L1 := by
  refine ⟨h.1.kept hf.1 ?_ ?_, hw, h.2.2.1, ?_, h.2.2.2.2.trans hf.2.1⟩
  · rintro (e | e)
    · exact h.2.2.1 e.symm
    · exact Kd.R_ne h.2.1.2.2 h.1.1 (by decide) e.symm
  · rintro j hj (e | e)
    · subst e; exact Kd.R_ne h.1.2.2 h.2.1.1 (by decide) hj.symm
    · exact h.2.2.2.1 j hj e
  · intro j hj hu
    rcases hf.2.2 with e | ⟨b, e, hb⟩
    · rw [e] at hu; exact h.2.2.2.1 j hj hu
    · rw [e] at hu; injection hu with hu; have := Kd.R_lt h.1.2.2 j hj; omega
theorem Wr3.opF {b : Nat} {cs : Array Value} (h : Wr3 w0 W gf v u L M) (ho : W.heap[b]? = some (.cells cs 44 (0, 0))) (hf : WF w0.heap.size W w1 w0.heap.size v v1) : w1.heap[b]? = some (.cells cs 44 (0, 0)) := by
  refine blk_kept ho hf.1 ?_
  rintro (e | e)
  · exact blk_ne ho h.1.1 (by decide) e
  · exact Kd.R_ne h.1.2.2 ho (by decide) e.symm
theorem Wr3.opG {b : Nat} {cs : Array Value} (h : Wr3 w0 W gf v u L M) (ho : W.heap[b]? = some (.cells cs 44 (0, 0))) (hf : WF w0.heap.size W w1 gf u v1) : w1.heap[b]? = some (.cells cs 44 (0, 0)) := by
  refine blk_kept ho hf.1 ?_
  rintro (e | e)
  · exact blk_ne ho h.2.1.1 (by decide) e
  · exact Kd.R_ne h.2.1.2.2 ho (by decide) e.symm
end
/-- How many bits the script may come to. -/
def cost (l : List OpD) : Nat := (l.map (fun x => 8 * x.data.length + 40)).sum
theorem cost_take (l : List OpD) (k : Nat) (hk : k < l.length) : cost (l.take (k + 1)) = cost (l.take k) + (8 * (l.getD k zOp).data.length + 40) := by
  unfold cost
  rw [List.take_succ_eq_append_getElem hk, List.map_append, List.sum_append, List.getD_eq_getElem?_getD, List.getElem?_eq_getElem hk]
  simp
theorem cost_le (l : List OpD) (k : Nat) : cost (l.take k) ≤ cost l := by
  have h : cost l = cost (l.take k) + cost (l.drop k) := by
    show _ = _
    unfold cost
    rw [← List.sum_append, ← List.map_append, List.take_append_drop]
  omega
theorem u32_bdw {x : Int} (h : (Lit.int .u32 x).wf = true) : ∃ n : Nat, x = (n : Int) ∧ n < 4294967296 := by
  have h2 : IntKind.u32.min ≤ x ∧ x ≤ IntKind.u32.max := by simpa [Lit.wf] using h
  have e1 : IntKind.u32.min = 0 := by decide
  have e2 : IntKind.u32.max = 4294967295 := by decide
  exact ⟨x.toNat, by omega, by omega⟩
theorem u8_inw {x : Int} (h : (Lit.int .u8 x).wf = true) : 0 ≤ x ∧ x ≤ 255 := by
  have h2 : IntKind.u8.min ≤ x ∧ x ≤ IntKind.u8.max := by simpa [Lit.wf] using h
  have e1 : IntKind.u8.min = 0 := by decide
  have e2 : IntKind.u8.max = 255 := by decide
  omega
set_option maxRecDepth 100000 in
set_option maxHeartbeats 8000000 in
theorem writes1_walk (w : World) (A1 : Option Addr) (c1 : Nat) (ss : List OpD) (hr1 : Kd.C kOp w A1 ss.length ss) (hl1 : ss.length * 48 ≤ 140737488351232) (hG : ∀ x ∈ ss, OpG x) (hcost : cost ss ≤ 16777216) :
    Calls Try.prog 10 #[.slice A1 ss.length c1] w fun e w' => e = .returned (.bool true) ∧ Below w.heap.size w w' := by
  have HR1 := Aside0.mk hr1
  have HG := Aside0.mk hG
  clear hr1 hG
  go_enter Try.func10, Try.ntmps10
  go_wp2_with fail
  refine (newWriter_calls w).mono ?_
  rintro e w5 ⟨rfl, hw5, hb5, hs5⟩
  have HW5 := Aside0.mk hw5
  have HB5 := Aside0.mk hb5
  have HS5 := Aside0.mk hs5
  clear hw5 hb5 hs5
  go_wp2_with fail
  refine (live1_calls _).mono ?_
  rintro e w2 ⟨rfl, hb2⟩
  have hblk : w2.heap[w5.heap.size]? = some (.cells #[.slice none 0 0] 60 (0, 0)) := by
    exact (hb2.block _ (blk_lt (heap_alloc_new w5 _))).trans (heap_alloc_new w5 _)
  have HT0 : Aside0 (Wr3 w w2 w5.heap.size (.slice none 0 0) (.slice none 0 0) [] []) := ⟨by
    refine ⟨(HW5.out.below (below_alloc (Below.refl _ _) _)).below hb2, ⟨hblk, by have := HS5.out; omega, Kd.R_nil _ _ _ _ _⟩, by have := HS5.out; omega, fun j hj => by simp [Value.ownBlock] at hj, below_step (below_alloc HB5.out _) hb2⟩⟩
  clear hb2 hblk
  go_wp2
  go_loopw [16] (fun i wr => ∃ k : Nat, k ≤ ss.length ∧ i = .int .i64 k ∧ Aside0 (∃ v u L, Wr3 w wr w5.heap.size v u L L ∧ L.length ≤ cost (ss.take k))) (fun i _ => ss.length - (intOf i).toNat)
  case atStart => exact ⟨0, Nat.zero_le _, rfl, ⟨_, _, [], HT0.out, Nat.zero_le _⟩⟩
  case round =>
    clear HT0
    obtain ⟨k, hk, rfl, HT⟩ := hrel
    obtain ⟨wr, hwr⟩ : ∃ x, x = wr := ⟨_, rfl⟩
    subst hwr
    by_cases hlt : k < ss.length
    · obtain ⟨v, u, L, hT, hL⟩ := HT.out
      have HT0 := Aside0.mk hT
      obtain ⟨ad, Ad, cd, e1, h0', h1', h2', h3', hcd, hD⟩ := at_op HR1.out (k : Int) (by omega) (by omega)
      subst e1
      rw [Int.toNat_natCast] at h0' h1' h2' h3' hD hcd
      have hbw := HT0.out.2.2.2.2
      have h0 := pw_cell_below hbw h0'
      have h1 := pw_cell_below hbw h1'
      have h2 := pw_cell_below hbw h2'
      have h3 := pw_cell_below hbw h3'
      have hmem : ss.getD k zOp ∈ ss := by rw [List.getD_eq_getElem?_getD, List.getElem?_eq_getElem hlt]; exact List.getElem_mem hlt
      have hg := HG.out _ hmem
      have hct := cost_take ss k hlt
      have hcl := cost_le ss (k + 1)
      generalize ss.getD k zOp = op at *
      obtain ⟨kind, n, v0, data⟩ := op
      simp only at h0 h1 h2 h3 hD hcd hct
      obtain ⟨x, rfl, hx32⟩ := u32_bdw hg.2.2.1
      have HD := Aside0.mk hD
      have HBY : Aside0 (IsBytes data) := ⟨fun y hy => u8_inw (hg.2.2.2.2.2 y hy)⟩
      have hLb : L.length + 8 * data.length + 40 ≤ 16777216 := by omega
      have HLB : Aside0 (L.length + (8 * data.length + 40) ≤ cost (ss.take (k + 1))) := ⟨by omega⟩
      clear hT HT h0' h1' h2' h3' hD hbw hmem hg hct hcl hL
      have hkinds : kind = 0 ∨ kind = 2 ∨ kind = 3 ∨ kind = 4 ∨ (kind ≠ 0 ∧ kind ≠ 2 ∧ kind ≠ 3 ∧ kind ≠ 4) := by omega
      rcases hkinds with rfl | rfl | rfl | rfl | ⟨k0, k2, k3, k4⟩
      · go_wp2_with fail
        obtain ⟨W, hW⟩ : ∃ W, W = wr.alloc (.cells #[.int .i64 0, .int .i64 n, .int .u32 (x : Nat), .slice Ad data.length cd] 44) := ⟨_, rfl⟩
        rw [← hW]
        obtain ⟨b, hb⟩ : ∃ b, b = wr.heap.size := ⟨_, rfl⟩
        try rw [← hb]
        have HOP : Aside0 (W.heap[b]? = some (.cells #[.int .i64 0, .int .i64 n, .int .u32 (x : Nat), .slice Ad data.length cd] 44 (0, 0))) := ⟨by rw [hW, hb]; exact heap_alloc_new wr _⟩
        have HT : Aside0 (Wr3 w W w5.heap.size v u L L) := ⟨by rw [hW]; exact HT0.out.below (below_alloc (Below.refl _ _) _)⟩
        have HBW : Aside0 (w.heap.size ≤ W.heap.size) := ⟨HT.out.2.2.2.2.size⟩
        clear hW hb
        have o1 := (blk_cell HOP.out 1).trans rfl
        have o2 := (blk_cell HOP.out 2).trans rfl
        refine start_ (n := 12) (S := fun w' => w'.cell? ⟨b, 1, none⟩ = some (.int .i64 n) ∧ w'.cell? ⟨b, 2, none⟩ = some (.int .u32 (x : Nat))) (ds := []) #[false, false, false, false, false, false, false, false, false, false, false, false] (by kernel_rfl) rfl rfl ⟨o1, o2⟩ (fun hHeld => ?_)
        refine pure_ (i := 0) (N := some 24) (v := ?_) (a' := ?_) #[true, false, false, false, false, false, false, false, false, false, false, false] rfl rfl (by kernel_rfl) (fun _ _ _ h => h) (Or.inl ⟨by rfl, ?_⟩) ?_ ?_
        rotate_left
        · intro w'
          go_simp
          with_reducible rfl
        rotate_left
        · simp only [Act.put, List.setIfInBounds_toArray, List.set_cons_zero, List.set_cons_succ, i64_w, i32_w]
          rfl
        refine pure_ (i := 1) (N := some 25) (v := ?_) (a' := ?_) #[true, true, false, false, false, false, false, false, false, false, false, false] rfl rfl (by kernel_rfl) (fun _ _ _ h => h) (Or.inl ⟨by rfl, ?_⟩) ?_ ?_
        rotate_left
        · intro w'
          go_simp
          with_reducible rfl
        rotate_left
        · simp only [Act.put, List.setIfInBounds_toArray, List.set_cons_zero, List.set_cons_succ, i64_w, i32_w]
          rfl
        refine pure_ (i := 3) (N := some 27) (v := ?_) (a' := ?_) #[true, true, false, true, false, false, false, false, false, false, false, false] rfl rfl (by kernel_rfl) (fun _ _ _ h => h) (Or.inl ⟨by rfl, ?_⟩) ?_ ?_
        rotate_left
        · intro w'
          go_simp
          with_reducible rfl
        rotate_left
        · simp only [Act.put, List.setIfInBounds_toArray, List.set_cons_zero, List.set_cons_succ, i64_w, i32_w]
          rfl
        refine pure_ (i := 6) (N := some 30) (v := ?_) (a' := ?_) #[true, true, false, true, false, false, true, false, false, false, false, false] rfl rfl (by kernel_rfl) (fun _ _ _ h => h) (Or.inl ⟨by rfl, ?_⟩) ?_ ?_
        rotate_left
        · intro w'
          go_simp
          with_reducible rfl
        rotate_left
        · simp only [Act.put, List.setIfInBounds_toArray, List.set_cons_zero, List.set_cons_succ, i64_w, i32_w]
          rfl
        refine pure_ (i := 8) (N := some 32) (v := ?_) (a' := ?_) #[true, true, false, true, false, false, true, false, true, false, false, false] rfl rfl (by kernel_rfl) (fun _ _ _ h => h) (Or.inl ⟨by rfl, ?_⟩) ?_ ?_
        rotate_left
        · intro w'
          go_simp
          with_reducible rfl
        rotate_left
        · simp only [Act.put, List.setIfInBounds_toArray, List.set_cons_zero, List.set_cons_succ, i64_w, i32_w]
          rfl
        refine take_ (i := 2) (N := some 26) (v := ?_) (a' := ?_) #[true, true, true, true, false, false, true, false, true, false, false, false] rfl rfl (by kernel_rfl) (fun _ _ _ h => h) (Or.inl ⟨by rfl, ?_⟩) hHeld ?_ ?_
        rotate_left
        · rintro w' ⟨s0, s1⟩
          go_simp
          with_reducible rfl
        rotate_left
        · simp only [Act.put, List.setIfInBounds_toArray, List.set_cons_zero, List.set_cons_succ, i64_w, i32_w]
          rfl
        refine take_ (i := 4) (N := some 28) (v := ?_) (a' := ?_) #[true, true, true, true, true, false, true, false, true, false, false, false] rfl rfl (by kernel_rfl) (fun _ _ _ h => h) (Or.inl ⟨by rfl, ?_⟩) hHeld ?_ ?_
        rotate_left
        · rintro w' ⟨s0, s1⟩
          go_simp
          with_reducible rfl
        rotate_left
        · simp only [Act.put, List.setIfInBounds_toArray, List.set_cons_zero, List.set_cons_succ, i64_w, i32_w]
          rfl
        refine take_ (i := 7) (N := some 31) (v := ?_) (a' := ?_) #[true, true, true, true, true, false, true, true, true, false, false, false] rfl rfl (by kernel_rfl) (fun _ _ _ h => h) (Or.inl ⟨by rfl, ?_⟩) hHeld ?_ ?_
        rotate_left
        · rintro w' ⟨s0, s1⟩
          go_simp
          with_reducible rfl
        rotate_left
        · simp only [Act.put, List.setIfInBounds_toArray, List.set_cons_zero, List.set_cons_succ, i64_w, i32_w]
          rfl
        refine take_ (i := 9) (N := some 33) (v := ?_) (a' := ?_) #[true, true, true, true, true, false, true, true, true, true, false, false] rfl rfl (by kernel_rfl) (fun _ _ _ h => h) (Or.inl ⟨by rfl, ?_⟩) hHeld ?_ ?_
        rotate_left
        · rintro w' ⟨s0, s1⟩
          go_simp
          with_reducible rfl
        rotate_left
        · simp only [Act.put, List.setIfInBounds_toArray, List.set_cons_zero, List.set_cons_succ, i64_w, i32_w]
          rfl
        refine one_ (i := 5) (N := some 29) #[true, true, true, true, true, true, true, true, true, true, false, false] rfl rfl (by kernel_rfl) (by decide) (fun K hK => ?_)
        refine goes_ Try.func44 (by kernel_rfl) rfl #[.pointer (some ⟨w.heap.size, 0, none⟩), .int .u32 (x : Nat), .int .i64 n] (by rfl) rfl rfl (by simp only [List.map_toArray, List.map_cons, List.map_nil]; rfl) ?_
        with_reducible refine (wbits_all w.heap.size w.heap.size v L _ x n (HT.out.drew).ws (HT.out.drew).le hx32 (by omega)).mono ?_
        rintro e w3 ⟨rfl, v4, hw3, hf3⟩
        refine ⟨_, rfl, ?_⟩
        have HT3 := Aside0.mk ((HT.out.drew).fst hw3 hf3)
        have HO3 := Aside0.mk ((HT.out.drew).opF HOP.out hf3)
        have HBW3 : Aside0 (w.heap.size ≤ w3.heap.size) := ⟨HT3.out.2.2.2.2.size⟩
        clear hw3 hf3
        refine hK.out _ _ ⟨(blk_cell HO3.out 1).trans rfl, (blk_cell HO3.out 2).trans rfl⟩ (fun hHeld => ?_)
        clear hK K
        refine norm_ (a' := ?_) ?_ ?_
        rotate_left
        · show Act.put _ (some 29) _ = _
          simp only [Act.put, List.setIfInBounds_toArray, List.set_cons_zero, List.set_cons_succ, i64_w, i32_w]
          rfl
        refine one_ (i := 10) (N := some 34) #[true, true, true, true, true, true, true, true, true, true, true, false] rfl rfl (by kernel_rfl) (by decide) (fun K hK => ?_)
        refine goes_ Try.func47 (by kernel_rfl) rfl #[.pointer (some ⟨w5.heap.size, 0, none⟩), .int .u32 (x : Nat), .int .i64 n] (by rfl) rfl rfl (by simp only [List.map_toArray, List.map_cons, List.map_nil]; rfl) ?_
        with_reducible refine (rw_bits_all w.heap.size w5.heap.size u L _ x n HT3.out.rws HBW3.out hx32 (by omega)).mono ?_
        rintro e w4 ⟨rfl, u4, hw4, hf4⟩
        refine ⟨_, rfl, ?_⟩
        have HT4 := Aside0.mk (HT3.out.snd hw4 hf4)
        have HO4 := Aside0.mk (HT3.out.opG HO3.out hf4)
        clear hw4 hf4
        refine hK.out _ _ ⟨(blk_cell HO4.out 1).trans rfl, (blk_cell HO4.out 2).trans rfl⟩ (fun hHeld => ?_)
        clear hK K
        refine norm_ (a' := ?_) ?_ ?_
        rotate_left
        · show Act.put _ (some 34) _ = _
          simp only [Act.put, List.setIfInBounds_toArray, List.set_cons_zero, List.set_cons_succ, i64_w, i32_w]
          rfl
        refine pure_ (i := 11) (N := some 35) (v := ?_) (a' := ?_) #[true, true, true, true, true, true, true, true, true, true, true, true] rfl rfl (by kernel_rfl) (fun _ _ _ h => h) (Or.inl ⟨by rfl, ?_⟩) ?_ ?_
        rotate_left
        · intro w'
          go_simp
          with_reducible rfl
        rotate_left
        · simp only [Act.put, List.setIfInBounds_toArray, List.set_cons_zero, List.set_cons_succ, i64_w, i32_w]
          rfl
        refine done_ (by kernel_rfl) ?_
        have HLE : Aside0 ((wres L x n).2.length ≤ cost (ss.take (k + 1))) := ⟨by have := wres_le L x n; have := HLB.out; omega⟩
        have hne : ((wres L x n).1 != (wres L x n).1) = false := by simp
        generalize wres L x n = res at *
        obtain ⟨er, L'⟩ := res
        simp only at hne
        obtain ⟨A, c, hu4, hc4, _⟩ := Kd.R_reads HT4.out.2.1.2.2
        subst hu4
        have hzl : (((L'.length : Nat) : Int) != ((zo L').length : Int)) = false := by rw [zo_length]; simp
        have hzn : (L'.length != (zo L').length) = false := by rw [zo_length]; simp
        go_wp2_with fail
        refine start_ (n := 6) (S := fun w' => w'.cell? ⟨w5.heap.size, 0, none⟩ = some (.slice A (zo L').length c)) (ds := []) #[false, false, false, false, false, false] (by kernel_rfl) rfl rfl ((HT4.out.drew).rws.cell) (fun hHeld => ?_)
        refine pure_ (i := 0) (N := some 58) (v := ?_) (a' := ?_) #[true, false, false, false, false, false] rfl rfl (by kernel_rfl) (fun _ _ _ h => h) (Or.inl ⟨by rfl, ?_⟩) ?_ ?_
        rotate_left
        · intro w'
          go_simp
          with_reducible rfl
        rotate_left
        · simp only [Act.put, List.setIfInBounds_toArray, List.set_cons_zero, List.set_cons_succ, i64_w, i32_w]
          rfl
        refine pure_ (i := 2) (N := some 60) (v := ?_) (a' := ?_) #[true, false, true, false, false, false] rfl rfl (by kernel_rfl) (fun _ _ _ h => h) (Or.inl ⟨by rfl, ?_⟩) ?_ ?_
        rotate_left
        · intro w'
          go_simp
          with_reducible rfl
        rotate_left
        · simp only [Act.put, List.setIfInBounds_toArray, List.set_cons_zero, List.set_cons_succ, i64_w, i32_w]
          rfl
        refine take_ (i := 3) (N := some 61) (v := ?_) (a' := ?_) #[true, false, true, true, false, false] rfl rfl (by kernel_rfl) (fun _ _ _ h => h) (Or.inl ⟨by rfl, ?_⟩) hHeld ?_ ?_
        rotate_left
        · intro w' s0
          go_simp
          with_reducible rfl
        rotate_left
        · simp only [Act.put, List.setIfInBounds_toArray, List.set_cons_zero, List.set_cons_succ, i64_w, i32_w]
          rfl
        refine pure_ (i := 4) (N := some 62) (v := ?_) (a' := ?_) #[true, false, true, true, true, false] rfl rfl (by kernel_rfl) (fun _ _ _ h => h) (Or.inl ⟨by rfl, ?_⟩) ?_ ?_
        rotate_left
        · intro w'
          go_simp
          with_reducible rfl
        rotate_left
        · simp only [Act.put, List.setIfInBounds_toArray, List.set_cons_zero, List.set_cons_succ, i64_w, i32_w]
          rfl
        refine one_ (i := 1) (N := some 59) #[true, true, true, true, true, false] rfl rfl (by kernel_rfl) (by decide) (fun K hK => ?_)
        refine goes_ Try.func52 (by kernel_rfl) rfl #[.pointer (some ⟨w.heap.size, 0, none⟩)] (by rfl) rfl rfl (by simp only [List.map_toArray, List.map_cons, List.map_nil]; rfl) ?_
        with_reducible refine (wlen_calls w.heap.size w.heap.size v4 L' _ (HT4.out.drew).ws).mono ?_
        rintro e w6 ⟨rfl, ⟨m6, rfl⟩⟩
        refine ⟨_, rfl, ?_⟩
        refine hK.out _ _ ((((HT4.out.drew).drewN m6).rws).cell) (fun hHeld => ?_)
        clear hK K
        refine norm_ (a' := ?_) ?_ ?_
        rotate_left
        · show Act.put _ (some 59) _ = _
          simp only [Act.put, List.setIfInBounds_toArray, List.set_cons_zero, List.set_cons_succ, i64_w, i32_w]
          rfl
        refine pure_ (i := 5) (N := some 63) (v := ?_) (a' := ?_) #[true, true, true, true, true, true] rfl rfl (by kernel_rfl) (fun _ _ _ h => h) (Or.inl ⟨by rfl, ?_⟩) ?_ ?_
        rotate_left
        · intro w'
          go_simp
          with_reducible rfl
        rotate_left
        · simp only [Act.put, List.setIfInBounds_toArray, List.set_cons_zero, List.set_cons_succ, i64_w, i32_w]
          rfl
        refine done_ (by kernel_rfl) ?_
        go_wp2
        refine ⟨?rel, ?measure⟩
        case rel => exact ⟨k + 1, by omega, by go_num, ⟨_, _, L', HT4.out.drewN _, HLE.out⟩⟩
        case measure => simp [intOf]; omega
      · go_wp2_with fail
        obtain ⟨W, hW⟩ : ∃ W, W = wr.alloc (.cells #[.int .i64 2, .int .i64 n, .int .u32 (x : Nat), .slice Ad data.length cd] 44) := ⟨_, rfl⟩
        rw [← hW]
        obtain ⟨b, hb⟩ : ∃ b, b = wr.heap.size := ⟨_, rfl⟩
        try rw [← hb]
        have HOP : Aside0 (W.heap[b]? = some (.cells #[.int .i64 2, .int .i64 n, .int .u32 (x : Nat), .slice Ad data.length cd] 44 (0, 0))) := ⟨by rw [hW, hb]; exact heap_alloc_new wr _⟩
        have HT : Aside0 (Wr3 w W w5.heap.size v u L L) := ⟨by rw [hW]; exact HT0.out.below (below_alloc (Below.refl _ _) _)⟩
        have HBW : Aside0 (w.heap.size ≤ W.heap.size) := ⟨HT.out.2.2.2.2.size⟩
        clear hW hb
        refine (walign_calls w.heap.size w.heap.size v L W HT.out.1 HBW.out (by omega)).mono ?_
        rintro e w3 ⟨rfl, hw3, hf3⟩
        have HT3 := Aside0.mk (HT.out.fst hw3 hf3)
        clear hw3 hf3
        go_wp2_with fail
        refine (rw_align w.heap.size w5.heap.size u L w3 HT3.out.2.1 HT3.out.2.2.2.2.size (by omega)).mono ?_
        rintro e w4 ⟨rfl, u4, hw4, hf4⟩
        have HT4 := Aside0.mk (HT3.out.snd hw4 hf4)
        clear hw4 hf4
        have HLE : Aside0 ((aligned L).length ≤ cost (ss.take (k + 1))) := ⟨by have := aligned_length L; have := HLB.out; omega⟩
        obtain ⟨v4, hv4⟩ : ∃ v4, v4 = v := ⟨_, rfl⟩
        rw [← hv4] at HT4
        generalize aligned L = L' at *
        obtain ⟨A, c, hu4, hc4, _⟩ := Kd.R_reads HT4.out.2.1.2.2
        subst hu4
        have hzl : (((L'.length : Nat) : Int) != ((zo L').length : Int)) = false := by rw [zo_length]; simp
        have hzn : (L'.length != (zo L').length) = false := by rw [zo_length]; simp
        go_wp2_with fail
        refine start_ (n := 6) (S := fun w' => w'.cell? ⟨w5.heap.size, 0, none⟩ = some (.slice A (zo L').length c)) (ds := []) #[false, false, false, false, false, false] (by kernel_rfl) rfl rfl ((HT4.out.drew).rws.cell) (fun hHeld => ?_)
        refine pure_ (i := 0) (N := some 58) (v := ?_) (a' := ?_) #[true, false, false, false, false, false] rfl rfl (by kernel_rfl) (fun _ _ _ h => h) (Or.inl ⟨by rfl, ?_⟩) ?_ ?_
        rotate_left
        · intro w'
          go_simp
          with_reducible rfl
        rotate_left
        · simp only [Act.put, List.setIfInBounds_toArray, List.set_cons_zero, List.set_cons_succ, i64_w, i32_w]
          rfl
        refine pure_ (i := 2) (N := some 60) (v := ?_) (a' := ?_) #[true, false, true, false, false, false] rfl rfl (by kernel_rfl) (fun _ _ _ h => h) (Or.inl ⟨by rfl, ?_⟩) ?_ ?_
        rotate_left
        · intro w'
          go_simp
          with_reducible rfl
        rotate_left
        · simp only [Act.put, List.setIfInBounds_toArray, List.set_cons_zero, List.set_cons_succ, i64_w, i32_w]
          rfl
        refine take_ (i := 3) (N := some 61) (v := ?_) (a' := ?_) #[true, false, true, true, false, false] rfl rfl (by kernel_rfl) (fun _ _ _ h => h) (Or.inl ⟨by rfl, ?_⟩) hHeld ?_ ?_
        rotate_left
        · intro w' s0
          go_simp
          with_reducible rfl
        rotate_left
        · simp only [Act.put, List.setIfInBounds_toArray, List.set_cons_zero, List.set_cons_succ, i64_w, i32_w]
          rfl
        refine pure_ (i := 4) (N := some 62) (v := ?_) (a' := ?_) #[true, false, true, true, true, false] rfl rfl (by kernel_rfl) (fun _ _ _ h => h) (Or.inl ⟨by rfl, ?_⟩) ?_ ?_
        rotate_left
        · intro w'
          go_simp
          with_reducible rfl
        rotate_left
        · simp only [Act.put, List.setIfInBounds_toArray, List.set_cons_zero, List.set_cons_succ, i64_w, i32_w]
          rfl
        refine one_ (i := 1) (N := some 59) #[true, true, true, true, true, false] rfl rfl (by kernel_rfl) (by decide) (fun K hK => ?_)
        refine goes_ Try.func52 (by kernel_rfl) rfl #[.pointer (some ⟨w.heap.size, 0, none⟩)] (by rfl) rfl rfl (by simp only [List.map_toArray, List.map_cons, List.map_nil]; rfl) ?_
        with_reducible refine (wlen_calls w.heap.size w.heap.size v4 L' _ (HT4.out.drew).ws).mono ?_
        rintro e w6 ⟨rfl, ⟨m6, rfl⟩⟩
        refine ⟨_, rfl, ?_⟩
        refine hK.out _ _ ((((HT4.out.drew).drewN m6).rws).cell) (fun hHeld => ?_)
        clear hK K
        refine norm_ (a' := ?_) ?_ ?_
        rotate_left
        · show Act.put _ (some 59) _ = _
          simp only [Act.put, List.setIfInBounds_toArray, List.set_cons_zero, List.set_cons_succ, i64_w, i32_w]
          rfl
        refine pure_ (i := 5) (N := some 63) (v := ?_) (a' := ?_) #[true, true, true, true, true, true] rfl rfl (by kernel_rfl) (fun _ _ _ h => h) (Or.inl ⟨by rfl, ?_⟩) ?_ ?_
        rotate_left
        · intro w'
          go_simp
          with_reducible rfl
        rotate_left
        · simp only [Act.put, List.setIfInBounds_toArray, List.set_cons_zero, List.set_cons_succ, i64_w, i32_w]
          rfl
        refine done_ (by kernel_rfl) ?_
        go_wp2
        refine ⟨?rel, ?measure⟩
        case rel => exact ⟨k + 1, by omega, by go_num, ⟨_, _, L', HT4.out.drewN _, HLE.out⟩⟩
        case measure => simp [intOf]; omega
      · go_wp2_with fail
        obtain ⟨W, hW⟩ : ∃ W, W = wr.alloc (.cells #[.int .i64 3, .int .i64 n, .int .u32 (x : Nat), .slice Ad data.length cd] 44) := ⟨_, rfl⟩
        rw [← hW]
        obtain ⟨b, hb⟩ : ∃ b, b = wr.heap.size := ⟨_, rfl⟩
        try rw [← hb]
        have HOP : Aside0 (W.heap[b]? = some (.cells #[.int .i64 3, .int .i64 n, .int .u32 (x : Nat), .slice Ad data.length cd] 44 (0, 0))) := ⟨by rw [hW, hb]; exact heap_alloc_new wr _⟩
        have HT : Aside0 (Wr3 w W w5.heap.size v u L L) := ⟨by rw [hW]; exact HT0.out.below (below_alloc (Below.refl _ _) _)⟩
        have HBW : Aside0 (w.heap.size ≤ W.heap.size) := ⟨HT.out.2.2.2.2.size⟩
        clear hW hb
        have o3 := (blk_cell HOP.out 3).trans rfl
        refine (wbytes_calls w.heap.size w.heap.size v L W Ad cd data HT.out.1 HBW.out (Kd.C_below HD.out HT.out.2.2.2.2) hcd HBY.out (by omega)).mono ?_
        rintro e w3 ⟨rfl, v4, hw3, hf3⟩
        have HT3 := Aside0.mk (HT.out.fst hw3 hf3)
        have HO3 := Aside0.mk (HT.out.opF HOP.out hf3)
        have o3' := (blk_cell HO3.out 3).trans rfl
        clear hw3 hf3 o3
        go_wp2_with fail
        refine (rw_bytes w.heap.size w5.heap.size u L w3 Ad cd data HT3.out.2.1 HT3.out.2.2.2.2.size (fun w' hb' => Kd.C_below HD.out (HT3.out.2.2.2.2.trans hb')) hcd HBY.out (by omega)).mono ?_
        rintro e w4 ⟨rfl, u4, hw4, hf4⟩
        have HT4 := Aside0.mk (HT3.out.snd hw4 hf4)
        clear hw4 hf4
        have HLE : Aside0 ((aligned L ++ bitsOf data).length ≤ cost (ss.take (k + 1))) := ⟨by rw [List.length_append, bitsOf_length]; have := aligned_length L; have := HLB.out; omega⟩
        generalize aligned L ++ bitsOf data = L' at *
        obtain ⟨A, c, hu4, hc4, _⟩ := Kd.R_reads HT4.out.2.1.2.2
        subst hu4
        have hzl : (((L'.length : Nat) : Int) != ((zo L').length : Int)) = false := by rw [zo_length]; simp
        have hzn : (L'.length != (zo L').length) = false := by rw [zo_length]; simp
        go_wp2_with fail
        refine start_ (n := 6) (S := fun w' => w'.cell? ⟨w5.heap.size, 0, none⟩ = some (.slice A (zo L').length c)) (ds := []) #[false, false, false, false, false, false] (by kernel_rfl) rfl rfl ((HT4.out.drew).rws.cell) (fun hHeld => ?_)
        refine pure_ (i := 0) (N := some 58) (v := ?_) (a' := ?_) #[true, false, false, false, false, false] rfl rfl (by kernel_rfl) (fun _ _ _ h => h) (Or.inl ⟨by rfl, ?_⟩) ?_ ?_
        rotate_left
        · intro w'
          go_simp
          with_reducible rfl
        rotate_left
        · simp only [Act.put, List.setIfInBounds_toArray, List.set_cons_zero, List.set_cons_succ, i64_w, i32_w]
          rfl
        refine pure_ (i := 2) (N := some 60) (v := ?_) (a' := ?_) #[true, false, true, false, false, false] rfl rfl (by kernel_rfl) (fun _ _ _ h => h) (Or.inl ⟨by rfl, ?_⟩) ?_ ?_
        rotate_left
        · intro w'
          go_simp
          with_reducible rfl
        rotate_left
        · simp only [Act.put, List.setIfInBounds_toArray, List.set_cons_zero, List.set_cons_succ, i64_w, i32_w]
          rfl
        refine take_ (i := 3) (N := some 61) (v := ?_) (a' := ?_) #[true, false, true, true, false, false] rfl rfl (by kernel_rfl) (fun _ _ _ h => h) (Or.inl ⟨by rfl, ?_⟩) hHeld ?_ ?_
        rotate_left
        · intro w' s0
          go_simp
          with_reducible rfl
        rotate_left
        · simp only [Act.put, List.setIfInBounds_toArray, List.set_cons_zero, List.set_cons_succ, i64_w, i32_w]
          rfl
        refine pure_ (i := 4) (N := some 62) (v := ?_) (a' := ?_) #[true, false, true, true, true, false] rfl rfl (by kernel_rfl) (fun _ _ _ h => h) (Or.inl ⟨by rfl, ?_⟩) ?_ ?_
        rotate_left
        · intro w'
          go_simp
          with_reducible rfl
        rotate_left
        · simp only [Act.put, List.setIfInBounds_toArray, List.set_cons_zero, List.set_cons_succ, i64_w, i32_w]
          rfl
        refine one_ (i := 1) (N := some 59) #[true, true, true, true, true, false] rfl rfl (by kernel_rfl) (by decide) (fun K hK => ?_)
        refine goes_ Try.func52 (by kernel_rfl) rfl #[.pointer (some ⟨w.heap.size, 0, none⟩)] (by rfl) rfl rfl (by simp only [List.map_toArray, List.map_cons, List.map_nil]; rfl) ?_
        with_reducible refine (wlen_calls w.heap.size w.heap.size v4 L' _ (HT4.out.drew).ws).mono ?_
        rintro e w6 ⟨rfl, ⟨m6, rfl⟩⟩
        refine ⟨_, rfl, ?_⟩
        refine hK.out _ _ ((((HT4.out.drew).drewN m6).rws).cell) (fun hHeld => ?_)
        clear hK K
        refine norm_ (a' := ?_) ?_ ?_
        rotate_left
        · show Act.put _ (some 59) _ = _
          simp only [Act.put, List.setIfInBounds_toArray, List.set_cons_zero, List.set_cons_succ, i64_w, i32_w]
          rfl
        refine pure_ (i := 5) (N := some 63) (v := ?_) (a' := ?_) #[true, true, true, true, true, true] rfl rfl (by kernel_rfl) (fun _ _ _ h => h) (Or.inl ⟨by rfl, ?_⟩) ?_ ?_
        rotate_left
        · intro w'
          go_simp
          with_reducible rfl
        rotate_left
        · simp only [Act.put, List.setIfInBounds_toArray, List.set_cons_zero, List.set_cons_succ, i64_w, i32_w]
          rfl
        refine done_ (by kernel_rfl) ?_
        go_wp2
        refine ⟨?rel, ?measure⟩
        case rel => exact ⟨k + 1, by omega, by go_num, ⟨_, _, L', HT4.out.drewN _, HLE.out⟩⟩
        case measure => simp [intOf]; omega
      · go_wp2_with fail
        obtain ⟨W, hW⟩ : ∃ W, W = wr.alloc (.cells #[.int .i64 4, .int .i64 n, .int .u32 (x : Nat), .slice Ad data.length cd] 44) := ⟨_, rfl⟩
        rw [← hW]
        obtain ⟨b, hb⟩ : ∃ b, b = wr.heap.size := ⟨_, rfl⟩
        try rw [← hb]
        have HOP : Aside0 (W.heap[b]? = some (.cells #[.int .i64 4, .int .i64 n, .int .u32 (x : Nat), .slice Ad data.length cd] 44 (0, 0))) := ⟨by rw [hW, hb]; exact heap_alloc_new wr _⟩
        have HT : Aside0 (Wr3 w W w5.heap.size v u L L) := ⟨by rw [hW]; exact HT0.out.below (below_alloc (Below.refl _ _) _)⟩
        have HBW : Aside0 (w.heap.size ≤ W.heap.size) := ⟨HT.out.2.2.2.2.size⟩
        clear hW hb
        refine (wout_calls w.heap.size w.heap.size v L W HT.out.1 (by omega)).mono ?_
        rintro e w3 ⟨x3, rfl, hx3, hb3⟩
        have HT3 := Aside0.mk (HT.out.below hb3)
        have HX3 := Aside0.mk hx3
        clear hx3 hb3
        go_wp2_with fail
        refine (rw_out w.heap.size w5.heap.size u L w3 HT3.out.2.1 HT3.out.2.2.2.2.size (by omega)).mono ?_
        rintro e w6 ⟨y3, rfl, hy3, hb6⟩
        have HT6 := Aside0.mk (HT3.out.below hb6)
        obtain ⟨Ax, cx, rfl, hcx, hxc⟩ := Kd.R_reads (Kd.R_below HX3.out hb6)
        obtain ⟨Ay, cy, rfl, hcy, hyc⟩ := Kd.R_reads hy3
        have HXC := Aside0.mk hxc
        have HYC := Aside0.mk hyc
        clear hy3 hb6 hxc hyc HX3
        have HEQ := Aside0.mk (bytes_Equal.calls Ax cx (pack L) Ay cy (pack L) true w6 HXC.out hcx HYC.out hcy (by simp [bytes_Equal.f]))
        go_wp2_with fail
        refine HEQ.out.mono ?_
        rintro e w8 ⟨rfl, ⟨m8, rfl⟩⟩
        clear HEQ
        have HT4 := Aside0.mk (HT6.out.drewN m8)
        have HLE : Aside0 (L.length ≤ cost (ss.take (k + 1))) := ⟨by have := HLB.out; omega⟩
        obtain ⟨L', hL'⟩ : ∃ L', L' = L := ⟨_, rfl⟩
        obtain ⟨v4, hv4⟩ : ∃ v4, v4 = v := ⟨_, rfl⟩
        rw [← hv4, ← hL'] at HT4
        rw [← hL'] at HLE
        clear hL' hv4
        clear HXC HYC HT6 HT3
        generalize w6.drewN m8 = W9 at *
        obtain ⟨A, c, hu4, hc4, _⟩ := Kd.R_reads HT4.out.2.1.2.2
        subst hu4
        have hzl : (((L'.length : Nat) : Int) != ((zo L').length : Int)) = false := by rw [zo_length]; simp
        have hzn : (L'.length != (zo L').length) = false := by rw [zo_length]; simp
        go_wp2_with fail
        refine start_ (n := 6) (S := fun w' => w'.cell? ⟨w5.heap.size, 0, none⟩ = some (.slice A (zo L').length c)) (ds := []) #[false, false, false, false, false, false] (by kernel_rfl) rfl rfl ((HT4.out.drew).rws.cell) (fun hHeld => ?_)
        refine pure_ (i := 0) (N := some 58) (v := ?_) (a' := ?_) #[true, false, false, false, false, false] rfl rfl (by kernel_rfl) (fun _ _ _ h => h) (Or.inl ⟨by rfl, ?_⟩) ?_ ?_
        rotate_left
        · intro w'
          go_simp
          with_reducible rfl
        rotate_left
        · simp only [Act.put, List.setIfInBounds_toArray, List.set_cons_zero, List.set_cons_succ, i64_w, i32_w]
          rfl
        refine pure_ (i := 2) (N := some 60) (v := ?_) (a' := ?_) #[true, false, true, false, false, false] rfl rfl (by kernel_rfl) (fun _ _ _ h => h) (Or.inl ⟨by rfl, ?_⟩) ?_ ?_
        rotate_left
        · intro w'
          go_simp
          with_reducible rfl
        rotate_left
        · simp only [Act.put, List.setIfInBounds_toArray, List.set_cons_zero, List.set_cons_succ, i64_w, i32_w]
          rfl
        refine take_ (i := 3) (N := some 61) (v := ?_) (a' := ?_) #[true, false, true, true, false, false] rfl rfl (by kernel_rfl) (fun _ _ _ h => h) (Or.inl ⟨by rfl, ?_⟩) hHeld ?_ ?_
        rotate_left
        · intro w' s0
          go_simp
          with_reducible rfl
        rotate_left
        · simp only [Act.put, List.setIfInBounds_toArray, List.set_cons_zero, List.set_cons_succ, i64_w, i32_w]
          rfl
        refine pure_ (i := 4) (N := some 62) (v := ?_) (a' := ?_) #[true, false, true, true, true, false] rfl rfl (by kernel_rfl) (fun _ _ _ h => h) (Or.inl ⟨by rfl, ?_⟩) ?_ ?_
        rotate_left
        · intro w'
          go_simp
          with_reducible rfl
        rotate_left
        · simp only [Act.put, List.setIfInBounds_toArray, List.set_cons_zero, List.set_cons_succ, i64_w, i32_w]
          rfl
        refine one_ (i := 1) (N := some 59) #[true, true, true, true, true, false] rfl rfl (by kernel_rfl) (by decide) (fun K hK => ?_)
        refine goes_ Try.func52 (by kernel_rfl) rfl #[.pointer (some ⟨w.heap.size, 0, none⟩)] (by rfl) rfl rfl (by simp only [List.map_toArray, List.map_cons, List.map_nil]; rfl) ?_
        with_reducible refine (wlen_calls w.heap.size w.heap.size v4 L' _ (HT4.out.drew).ws).mono ?_
        rintro e w6 ⟨rfl, ⟨m6, rfl⟩⟩
        refine ⟨_, rfl, ?_⟩
        refine hK.out _ _ ((((HT4.out.drew).drewN m6).rws).cell) (fun hHeld => ?_)
        clear hK K
        refine norm_ (a' := ?_) ?_ ?_
        rotate_left
        · show Act.put _ (some 59) _ = _
          simp only [Act.put, List.setIfInBounds_toArray, List.set_cons_zero, List.set_cons_succ, i64_w, i32_w]
          rfl
        refine pure_ (i := 5) (N := some 63) (v := ?_) (a' := ?_) #[true, true, true, true, true, true] rfl rfl (by kernel_rfl) (fun _ _ _ h => h) (Or.inl ⟨by rfl, ?_⟩) ?_ ?_
        rotate_left
        · intro w'
          go_simp
          with_reducible rfl
        rotate_left
        · simp only [Act.put, List.setIfInBounds_toArray, List.set_cons_zero, List.set_cons_succ, i64_w, i32_w]
          rfl
        refine done_ (by kernel_rfl) ?_
        go_wp2
        refine ⟨?rel, ?measure⟩
        case rel => exact ⟨k + 1, by omega, by go_num, ⟨_, _, L', HT4.out.drewN _, HLE.out⟩⟩
        case measure => simp [intOf]; omega
      · have t0 : (kind == 0) = false := by simpa using k0
        have t2 : (kind == 2) = false := by simpa using k2
        have t3 : (kind == 3) = false := by simpa using k3
        have t4 : (kind == 4) = false := by simpa using k4
        clear k0 k2 k3 k4
        obtain ⟨W, hW⟩ : ∃ W, W = wr.alloc (.cells #[.int .i64 kind, .int .i64 n, .int .u32 (x : Nat), .slice Ad data.length cd] 44) := ⟨_, rfl⟩
        have HW := Aside0.mk hW.symm
        have HT4 : Aside0 (Wr3 w W w5.heap.size v u L L) := ⟨by rw [hW]; exact HT0.out.below (below_alloc (Below.refl _ _) _)⟩
        clear hW
        have HLE : Aside0 (L.length ≤ cost (ss.take (k + 1))) := ⟨by have := HLB.out; omega⟩
        obtain ⟨L', hL'⟩ : ∃ L', L' = L := ⟨_, rfl⟩
        obtain ⟨v4, hv4⟩ : ∃ v4, v4 = v := ⟨_, rfl⟩
        rw [← hv4, ← hL'] at HT4
        rw [← hL'] at HLE
        clear hL' hv4
        obtain ⟨A, c, hu4, hc4, _⟩ := Kd.R_reads HT4.out.2.1.2.2
        subst hu4
        have hzl : (((L'.length : Nat) : Int) != ((zo L').length : Int)) = false := by rw [zo_length]; simp
        have hzn : (L'.length != (zo L').length) = false := by rw [zo_length]; simp
        go_wp2_with fail
        rw [HW.out]
        refine start_ (n := 6) (S := fun w' => w'.cell? ⟨w5.heap.size, 0, none⟩ = some (.slice A (zo L').length c)) (ds := []) #[false, false, false, false, false, false] (by kernel_rfl) rfl rfl ((HT4.out.drew).rws.cell) (fun hHeld => ?_)
        refine pure_ (i := 0) (N := some 58) (v := ?_) (a' := ?_) #[true, false, false, false, false, false] rfl rfl (by kernel_rfl) (fun _ _ _ h => h) (Or.inl ⟨by rfl, ?_⟩) ?_ ?_
        rotate_left
        · intro w'
          go_simp
          with_reducible rfl
        rotate_left
        · simp only [Act.put, List.setIfInBounds_toArray, List.set_cons_zero, List.set_cons_succ, i64_w, i32_w]
          rfl
        refine pure_ (i := 2) (N := some 60) (v := ?_) (a' := ?_) #[true, false, true, false, false, false] rfl rfl (by kernel_rfl) (fun _ _ _ h => h) (Or.inl ⟨by rfl, ?_⟩) ?_ ?_
        rotate_left
        · intro w'
          go_simp
          with_reducible rfl
        rotate_left
        · simp only [Act.put, List.setIfInBounds_toArray, List.set_cons_zero, List.set_cons_succ, i64_w, i32_w]
          rfl
        refine take_ (i := 3) (N := some 61) (v := ?_) (a' := ?_) #[true, false, true, true, false, false] rfl rfl (by kernel_rfl) (fun _ _ _ h => h) (Or.inl ⟨by rfl, ?_⟩) hHeld ?_ ?_
        rotate_left
        · intro w' s0
          go_simp
          with_reducible rfl
        rotate_left
        · simp only [Act.put, List.setIfInBounds_toArray, List.set_cons_zero, List.set_cons_succ, i64_w, i32_w]
          rfl
        refine pure_ (i := 4) (N := some 62) (v := ?_) (a' := ?_) #[true, false, true, true, true, false] rfl rfl (by kernel_rfl) (fun _ _ _ h => h) (Or.inl ⟨by rfl, ?_⟩) ?_ ?_
        rotate_left
        · intro w'
          go_simp
          with_reducible rfl
        rotate_left
        · simp only [Act.put, List.setIfInBounds_toArray, List.set_cons_zero, List.set_cons_succ, i64_w, i32_w]
          rfl
        refine one_ (i := 1) (N := some 59) #[true, true, true, true, true, false] rfl rfl (by kernel_rfl) (by decide) (fun K hK => ?_)
        refine goes_ Try.func52 (by kernel_rfl) rfl #[.pointer (some ⟨w.heap.size, 0, none⟩)] (by rfl) rfl rfl (by simp only [List.map_toArray, List.map_cons, List.map_nil]; rfl) ?_
        with_reducible refine (wlen_calls w.heap.size w.heap.size v4 L' _ (HT4.out.drew).ws).mono ?_
        rintro e w6 ⟨rfl, ⟨m6, rfl⟩⟩
        refine ⟨_, rfl, ?_⟩
        refine hK.out _ _ ((((HT4.out.drew).drewN m6).rws).cell) (fun hHeld => ?_)
        clear hK K
        refine norm_ (a' := ?_) ?_ ?_
        rotate_left
        · show Act.put _ (some 59) _ = _
          simp only [Act.put, List.setIfInBounds_toArray, List.set_cons_zero, List.set_cons_succ, i64_w, i32_w]
          rfl
        refine pure_ (i := 5) (N := some 63) (v := ?_) (a' := ?_) #[true, true, true, true, true, true] rfl rfl (by kernel_rfl) (fun _ _ _ h => h) (Or.inl ⟨by rfl, ?_⟩) ?_ ?_
        rotate_left
        · intro w'
          go_simp
          with_reducible rfl
        rotate_left
        · simp only [Act.put, List.setIfInBounds_toArray, List.set_cons_zero, List.set_cons_succ, i64_w, i32_w]
          rfl
        refine done_ (by kernel_rfl) ?_
        go_wp2
        refine ⟨?rel, ?measure⟩
        case rel => exact ⟨k + 1, by omega, by go_num, ⟨_, _, L', HT4.out.drewN _, HLE.out⟩⟩
        case measure => simp [intOf]; omega
    · obtain rfl : k = ss.length := by omega
      obtain ⟨v, u, L, hT, hL⟩ := HT.out
      have hcl := cost_le ss ss.length
      have hLb : L.length ≤ 16777216 := by omega
      have HT1 := Aside0.mk hT
      clear hT hL hcl HT
      go_wp2_with fail
      refine (wout_calls w.heap.size w.heap.size v L wr HT1.out.1 (by omega)).mono ?_
      rintro e w3 ⟨x3, rfl, hx3, hb3⟩
      have HT3 := Aside0.mk (HT1.out.below hb3)
      have HX3 := Aside0.mk hx3
      clear hx3 hb3
      go_wp2_with fail
      refine (rw_out w.heap.size w5.heap.size u L w3 HT3.out.2.1 HT3.out.2.2.2.2.size (by omega)).mono ?_
      rintro e w6 ⟨y3, rfl, hy3, hb6⟩
      have HT6 := Aside0.mk (HT3.out.below hb6)
      obtain ⟨Ax, cx, rfl, hcx, hxc⟩ := Kd.R_reads (Kd.R_below HX3.out hb6)
      obtain ⟨Ay, cy, rfl, hcy, hyc⟩ := Kd.R_reads hy3
      have HXC := Aside0.mk hxc
      have HYC := Aside0.mk hyc
      clear hy3 hb6 hxc hyc HX3
      have HEQ := Aside0.mk (bytes_Equal.calls Ax cx (pack L) Ay cy (pack L) true w6 HXC.out hcx HYC.out hcy (by simp [bytes_Equal.f]))
      go_wp2_with fail
      refine HEQ.out.mono ?_
      rintro e w8 ⟨rfl, ⟨m8, rfl⟩⟩
      go_wp2
      go_ret
      exact ⟨rfl, (HT6.out.drewN m8).2.2.2.2⟩
theorem bitioWrites_walk (w : World) (A1 : Option Addr) (c1 : Nat) (ss : List OpD) (hr1 : Kd.C kOp w A1 ss.length ss) (hG : ss.length * 48 ≤ 140737488351232 ∧ ss.length ≤ 9223372036854775807 ∧ ∀ x ∈ ss, OpG x) (hk : (ss.map (fun x => x.data.length + 5)).sum + 1 ≤ 1048576) :
    Calls Try.prog 10 #[.slice A1 ss.length c1] w fun e w' => e = .returned (.bool true) ∧ Below w.heap.size w w' := by
  refine writes1_walk w A1 c1 ss hr1 hG.1 hG.2.2 ?_
  have h : ∀ l : List OpD, cost l = 8 * (l.map (fun x => x.data.length + 5)).sum := by
    intro l
    unfold cost
    induction l with
    | nil => rfl
    | cons x l ih => simp only [List.map_cons, List.sum_cons, ih]; omega
  rw [h]; omega
end Go.Proofs.Ytlepnpjlmcjedaa.Hw
