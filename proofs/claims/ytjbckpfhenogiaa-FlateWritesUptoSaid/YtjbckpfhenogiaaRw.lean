import Derived.Test.YtjbckpfhenogiaaWriter2
import Derived.Test.YtjbckpfhenogiaaOwnKit
/- The document's Writer (gridironref01), walked. -/
namespace Go.Proofs.Ytjbckpfhenogiaa.Hw
open Go.RowKit Go.Proofs.YtjbckpfhenogiaaW.PrintWords Go.Proofs.YtjbckpfhenogiaaW.PrintLast Go.Proofs.YtjbckpfhenogiaaW.PrintMore Go.Proofs.Ytjbckpfhenogiaa.PH
set_option linter.unusedVariables false
set_option linter.unusedSimpArgs false
/-- Bits as bytes 0 and 1. -/
def zo (L : List Bool) : List Int := L.map (fun b => ((b.toNat : Nat) : Int))
theorem zo_length (L : List Bool) : (zo L).length = L.length := by simp [zo]
theorem zo_append (L M : List Bool) : zo (L ++ M) = zo L ++ zo M := by simp [zo]
/-- A document's writer at block g that has the bits L. -/
def RwS (base : Nat) (w : World) (g : Nat) (v : Value) (L : List Bool) : Prop :=
  w.heap[g]? = some (.cells #[v] 49 (0, 0)) ∧ base ≤ g ∧ Kd.R (Kd.int .u8) 5 w base (fun _ => True) v (zo L)
section
variable {base : Nat} {w w' : World} {g : Nat} {v : Value} {L : List Bool}
theorem RwS.cell (h : RwS base w g v L) : w.cell? ⟨g, 0, none⟩ = some v := (blk_cell h.1 0).trans rfl
theorem RwS.drewN (h : RwS base w g v L) (n : Nat) : RwS base (w.drewN n) g v L := ⟨h.1, h.2.1, Kd.R_drewN h.2.2 n⟩
theorem RwS.kept {S : Nat → Prop} (h : RwS base w g v L) (hk : Kept w w' S) (hg : ¬ S g) (hv : ∀ j, v.ownBlock = some j → ¬ S j) : RwS base w' g v L :=
  ⟨blk_kept h.1 hk hg, h.2.1, R_kept1 h.2.2 hk hv⟩
theorem RwS.below (h : RwS base w g v L) (hb : Below w.heap.size w w') : RwS base w' g v L := ⟨(hb.block g (blk_lt h.1)).trans h.1, h.2.1, Kd.R_below h.2.2 hb⟩
theorem RwS.alloced (h : RwS base w g v L) (o : Obj) : (w.drew.alloc o).heap[g]? = some (.cells #[v] 49 (0, 0)) := ((below_alloc (Below.refl w.drew.heap.size w.drew) o).block g (blk_lt (w := w.drew) h.1)).trans h.1
/-- One bit more: what append gives and the store lays. -/
theorem RwS.app {w1 : World} {A : Option Addr} {c : Nat} {v2 : Value} {y : Int} {b : Bool} (h : RwS base w g (.slice A (zo L).length c) L) (hv : Kd.R (Kd.int .u8) 5 w1 base (fun _ => True) v2 (zo L ++ [y])) (hb : Below base w w1) (hg : w.grownBy w1 (Value.slice A (zo L).length c).ownBlock)
    (hat : v2.ownBlock = (Value.slice A (zo L).length c).ownBlock ∨ ∃ k, v2.ownBlock = some k ∧ w.heap.size ≤ k) (hy : y = ((b.toNat : Nat) : Int)) :
    w1.frozen? ⟨g, 0, none⟩ = false ∧ w1.cell? ⟨g, 0, none⟩ = some (.slice A (zo L).length c) ∧ RwS base (w1.setCell ⟨g, 0, none⟩ v2) g v2 (L ++ [b]) ∧ WF base w (w1.setCell ⟨g, 0, none⟩ v2) g (.slice A (zo L).length c) v2 := by
  have hne := Kd.R_ne h.2.2 h.1 (by decide)
  have h1 : w1.heap[g]? = some (.cells #[.slice A (zo L).length c] 49 (0, 0)) := blk_grown h.1 hg hne
  refine ⟨blk_frozen h1 0, (blk_cell h1 0).trans rfl, ⟨?_, h.2.1, ?_⟩, ?_, hb.setCell h.2.1 _, hat⟩
  · simpa using blk_set h1 0 v2
  · rw [zo_append, show zo [b] = [y] by rw [hy]; rfl]
    exact Kd.R_set hv h1 (by intro q hq; have : q = 5 := by simpa [Kd.int, Kd.scalar] using hq
                             subst this; decide) 0 _
  · exact Kept.setCell (Kept.of_grown hg (Kept.refl _ _) (fun k hk => .inl (.inr hk))) (.inl (.inl rfl)) _
/-- The same behind draws. -/
theorem RwS.appN {w1 : World} {A : Option Addr} {c n : Nat} {v2 : Value} {y : Int} {b : Bool} (h : RwS base w g (.slice A (zo L).length c) L) (hB : base ≤ w.heap.size) (hv : Kd.R (Kd.int .u8) 5 w1 base (fun _ => True) v2 (zo L ++ [y])) (hb : Below base w w1) (hg : (w.drewN n).grownBy w1 (Value.slice A (zo L).length c).ownBlock)
    (hat : v2.ownBlock = (Value.slice A (zo L).length c).ownBlock ∨ ∃ k, v2.ownBlock = some k ∧ (w.drewN n).heap.size ≤ k) (hy : y = ((b.toNat : Nat) : Int)) :
    w1.frozen? ⟨g, 0, none⟩ = false ∧ w1.cell? ⟨g, 0, none⟩ = some (.slice A (zo L).length c) ∧ RwS base (w1.setCell ⟨g, 0, none⟩ v2) g v2 (L ++ [b]) ∧ WF base w (w1.setCell ⟨g, 0, none⟩ v2) g (.slice A (zo L).length c) v2 := by
  obtain ⟨h1, h2, h3, h4⟩ := (h.drewN n).app hv ⟨hb.os, hb.tape, hb.output, hb.size, hb.block⟩ hg hat hy
  exact ⟨h1, h2, h3, ((WF.refl base w g _).drewN n).trans h4 hB⟩
end
theorem rem2 (x k : Nat) (hx : x < 4294967296) : Int.tmod ((x : Int) / 2 ^ k % 256) 2 = (((x.testBit k).toNat : Nat) : Int) := by
  have e : ((x : Int) / 2 ^ k) = ((x / 2 ^ k : Nat) : Int) := by rw [two_pow_cast]; rfl
  rw [e, Int.tmod_eq_emod_of_nonneg (by omega), Nat.testBit_eq_decide_div_mod_eq]
  generalize x / 2 ^ k = y
  by_cases h : y % 2 = 1
  · rw [decide_eq_true h]; show _ = (1 : Int); omega
  · rw [decide_eq_false h]; show _ = (0 : Int); omega
set_option maxRecDepth 100000 in
set_option maxHeartbeats 4000000 in
theorem rw_bits_ok (base g : Nat) (v : Value) (L : List Bool) (w : World) (x : Nat) (n : Nat) (hI : RwS base w g v L) (hB : base ≤ w.heap.size) (hx : x < 4294967296) (hxn : n < 32 → x < 2 ^ n) (hn : n ≤ 32) (hl : L.length + n ≤ 140737488351232) :
    Calls Try.prog 24 #[.pointer (some ⟨g, 0, none⟩), .int .u32 (x : Int), .int .i64 (n : Int)] w fun e w' => e = .returned (.int .i64 0) ∧ ∃ v', RwS base w' g v' (L ++ bitsN x n) ∧ WF base w w' g v v' := by
  have HI := Aside0.mk hI
  have hc0 := hI.cell
  have HP : Aside0 (n < 32 → ((x : Int) / 2 ^ n) = 0) := ⟨fun h => by rw [two_pow_cast]; have := hxn h; rw [← Int.natCast_ediv, Nat.div_eq_of_lt this]; rfl⟩
  have hd0 : decide ((n : Int) < 0) = false := by simp
  have hd1 : decide ((32 : Int) < (n : Int)) = false := by simp; omega
  clear hI hxn
  have HD : Aside0 (n < 32 ∨ ¬ n < 32) := ⟨by omega⟩
  go_enter Try.func24, Try.ntmps24
  have HDD : Aside0 ((decide ((n : Int) < 32) = true ∧ ((x : Int) / 2 ^ n) = 0) ∨ (decide ((n : Int) < 32) = false ∧ True)) := ⟨by
    rcases HD.out with hd | hd
    · exact .inl ⟨by simp; omega, HP.out hd⟩
    · exact .inr ⟨by simp; omega, trivial⟩⟩
  rcases HDD.out with ⟨hd2, hp⟩ | ⟨hd2, hp⟩
  all_goals
    go_wp2
    go_loopw [7] (fun i wr => ∃ k : Nat, k ≤ n ∧ i = .int .i64 k ∧ Aside0 (∃ v', RwS base wr g v' (L ++ bitsN x k) ∧ WF base w wr g v v')) (fun i _ => n - (intOf i).toNat)
    case atStart => exact ⟨0, Nat.zero_le _, rfl, ⟨v, by rw [show bitsN x 0 = [] from rfl, List.append_nil]; exact HI.out, WF.refl _ _ _ _⟩⟩
    case round =>
      obtain ⟨k, hk, rfl, HS0⟩ := hrel
      by_cases hlt : k < n
      · obtain ⟨v', hS, hF⟩ := HS0.out
        obtain ⟨A, c, hv', hc, hC⟩ := Kd.R_reads hS.2.2
        obtain ⟨M, hM⟩ : ∃ M, M = L ++ bitsN x k := ⟨_, rfl⟩
        have HMS : Aside0 (M.length = L.length + k ∧ L ++ bitsN x (k + 1) = M ++ [x.testBit k]) := ⟨by rw [hM]; exact ⟨by rw [List.length_append, bitsN_length], by rw [bitsN_succ, List.append_assoc]⟩⟩
        rw [← hM] at hS hv' hC
        have HM := Aside0.mk hM
        clear hM HS0 hC
        subst hv'
        have HS := Aside0.mk hS
        have HF := Aside0.mk hF
        have HY : Aside0 (Int.tmod ((x : Int) / 2 ^ k % 256) 2 = (((x.testBit k).toNat : Nat) : Int)) := ⟨rem2 x k hx⟩
        have HLN : Aside0 ((M.length + 1) * 1 ≤ 140737488355328) := ⟨by have := HMS.out.1; omega⟩
        have HBW : Aside0 (base ≤ wr.heap.size) := ⟨Nat.le_trans HS.out.2.1 (Nat.le_of_lt (blk_lt HS.out.1))⟩
        clear hS hF
        obtain ⟨W, hW⟩ : ∃ x, x = wr := ⟨_, rfl⟩
        subst hW
        go_wp2_with fail
        refine start_ (n := 15) (S := fun w' => w'.cell? ⟨g, 0, none⟩ = some (.slice A (zo M).length c)) (ds := [14]) #[false, false, false, false, false, false, false, false, false, false, false, false, false, false, false] (by kernel_rfl) rfl rfl ((HS.out.drewN 1).cell) (fun hHeld => ?_)
        refine pure_ (i := 0) (N := some 29) (v := ?_) (a' := ?_) #[true, false, false, false, false, false, false, false, false, false, false, false, false, false, false] rfl rfl (by kernel_rfl) (fun _ _ _ h => h) (Or.inl ⟨by rfl, ?_⟩) ?_ ?_
        rotate_left
        · intro w'
          go_simp
          with_reducible rfl
        rotate_left
        · simp only [Act.put, List.setIfInBounds_toArray, List.set_cons_zero, List.set_cons_succ, i64_w, i32_w]
          rfl
        refine pure_ (i := 1) (N := some 30) (v := ?_) (a' := ?_) #[true, true, false, false, false, false, false, false, false, false, false, false, false, false, false] rfl rfl (by kernel_rfl) (fun _ _ _ h => h) (Or.inl ⟨by rfl, ?_⟩) ?_ ?_
        rotate_left
        · intro w'
          go_simp
          with_reducible rfl
        rotate_left
        · simp only [Act.put, List.setIfInBounds_toArray, List.set_cons_zero, List.set_cons_succ, i64_w, i32_w]
          rfl
        refine pure_ (i := 2) (N := some 31) (v := ?_) (a' := ?_) #[true, true, true, false, false, false, false, false, false, false, false, false, false, false, false] rfl rfl (by kernel_rfl) (fun _ _ _ h => h) (Or.inl ⟨by rfl, ?_⟩) ?_ ?_
        rotate_left
        · intro w'
          go_simp
          with_reducible rfl
        rotate_left
        · simp only [Act.put, List.setIfInBounds_toArray, List.set_cons_zero, List.set_cons_succ, i64_w, i32_w]
          rfl
        refine pure_ (i := 3) (N := some 32) (v := ?_) (a' := ?_) #[true, true, true, true, false, false, false, false, false, false, false, false, false, false, false] rfl rfl (by kernel_rfl) (fun _ _ _ h => h) (Or.inl ⟨by rfl, ?_⟩) ?_ ?_
        rotate_left
        · intro w'
          go_simp
          with_reducible rfl
        rotate_left
        · simp only [Act.put, List.setIfInBounds_toArray, List.set_cons_zero, List.set_cons_succ, i64_w, i32_w]
          rfl
        refine pure_ (i := 5) (N := some 34) (v := ?_) (a' := ?_) #[true, true, true, true, false, true, false, false, false, false, false, false, false, false, false] rfl rfl (by kernel_rfl) (fun _ _ _ h => h) (Or.inl ⟨by rfl, ?_⟩) ?_ ?_
        rotate_left
        · intro w'
          go_simp
          with_reducible rfl
        rotate_left
        · simp only [Act.put, List.setIfInBounds_toArray, List.set_cons_zero, List.set_cons_succ, i64_w, i32_w]
          rfl
        refine pure_ (i := 6) (N := some 35) (v := ?_) (a' := ?_) #[true, true, true, true, false, true, true, false, false, false, false, false, false, false, false] rfl rfl (by kernel_rfl) (fun _ _ _ h => h) (Or.inl ⟨by rfl, ?_⟩) ?_ ?_
        rotate_left
        · intro w'
          go_simp
          with_reducible rfl
        rotate_left
        · simp only [Act.put, List.setIfInBounds_toArray, List.set_cons_zero, List.set_cons_succ, i64_w, i32_w]
          rfl
        refine pure_ (i := 7) (N := some 36) (v := ?_) (a' := ?_) #[true, true, true, true, false, true, true, true, false, false, false, false, false, false, false] rfl rfl (by kernel_rfl) (fun _ _ _ h => h) (Or.inl ⟨by rfl, ?_⟩) ?_ ?_
        rotate_left
        · intro w'
          go_simp
          with_reducible rfl
        rotate_left
        · simp only [Act.put, List.setIfInBounds_toArray, List.set_cons_zero, List.set_cons_succ, i64_w, i32_w]
          rfl
        refine pure_ (i := 8) (N := some 37) (v := ?_) (a' := ?_) #[true, true, true, true, false, true, true, true, true, false, false, false, false, false, false] rfl rfl (by kernel_rfl) (fun _ _ _ h => h) (Or.inl ⟨by rfl, ?_⟩) ?_ ?_
        rotate_left
        · intro w'
          go_simp
          with_reducible rfl
        rotate_left
        · simp only [Act.put, List.setIfInBounds_toArray, List.set_cons_zero, List.set_cons_succ, i64_w, i32_w]
          rfl
        refine pure_ (i := 9) (N := some 38) (v := ?_) (a' := ?_) #[true, true, true, true, false, true, true, true, true, true, false, false, false, false, false] rfl rfl (by kernel_rfl) (fun _ _ _ h => h) (Or.inl ⟨by rfl, ?_⟩) ?_ ?_
        rotate_left
        · intro w'
          go_simp
          with_reducible rfl
        rotate_left
        · simp only [Act.put, List.setIfInBounds_toArray, List.set_cons_zero, List.set_cons_succ, i64_w, i32_w]
          rfl
        refine take_ (i := 4) (N := some 33) (v := ?_) (a' := ?_) #[true, true, true, true, true, true, true, true, true, true, false, false, false, false, false] rfl rfl (by kernel_rfl) (fun _ _ _ h => h) (Or.inl ⟨by rfl, ?_⟩) hHeld ?_ ?_
        rotate_left
        · intro w' s0
          go_simp
          with_reducible rfl
        rotate_left
        · simp only [Act.put, List.setIfInBounds_toArray, List.set_cons_zero, List.set_cons_succ, i64_w, i32_w]
          rfl
        refine one_ (i := 10) (N := some 39) #[true, true, true, true, true, true, true, true, true, true, true, false, false, false, false] rfl rfl (by kernel_rfl) (by decide) (fun K hK => ?_)
        refine value_ (w1 := ?_) (v := ?_) (by rfl) rfl ?_ ?_
        rotate_left 2
        · go_simp
          constructor
          · rfl
          · rfl
        refine hK.out _ _ ((blk_cell (HS.out.alloced _) 0).trans rfl) (fun hHeld => ?_)
        clear hK K
        refine norm_ (a' := ?_) ?_ ?_
        rotate_left
        · show Act.put _ (some 39) _ = _
          simp only [Act.put, List.setIfInBounds_toArray, List.set_cons_zero, List.set_cons_succ, i64_w, i32_w]
          rfl
        refine one_ (i := 11) (N := some 40) #[true, true, true, true, true, true, true, true, true, true, true, true, false, false, false] rfl rfl (by kernel_rfl) (by decide) (fun K hK => ?_)
        refine Kd.R_append_step (Kd.int .u8) (w0 := W) base (by rfl) _ _ 22 5 (.int .u8 0) 1 rfl Try.underlying22 infoB8 rfl (by decide) (by decide) (.slice A (zo M).length c) (zo M) _ [_] (fun _ => True) (fun _ => False) rfl rfl rfl (fun _ h => h.elim) (fun _ _ => trivial) (Kd.R_drew HS.out.2.2) (below_drew (Below.refl _ _)) HBW.out (by have := HLN.out; rw [zo_length]; omega) ?_
        intro v1 w1 hv1 hb1 hg1 hat1
        obtain ⟨A2, c2, rfl, hc2, _⟩ := Kd.R_reads hv1
        have HX1 := Aside0.mk (HS.out.appN (n := 1) HBW.out hv1 hb1 hg1 hat1 HY.out)
        have hf1 := HX1.out.1
        clear hv1 hb1 hg1 hat1 hc2
        refine hK.out _ _ (HX1.out.2.1) (fun hHeld => ?_)
        clear hK K
        refine norm_ (a' := ?_) ?_ ?_
        rotate_left
        · show Act.put _ (some 40) _ = _
          simp only [Act.put, List.setIfInBounds_toArray, List.set_cons_zero, List.set_cons_succ, i64_w, i32_w]
          rfl
        refine pure_ (i := 12) (N := some 41) (v := ?_) (a' := ?_) #[true, true, true, true, true, true, true, true, true, true, true, true, true, false, false] rfl rfl (by kernel_rfl) (fun _ _ _ h => h) (Or.inl ⟨by rfl, ?_⟩) ?_ ?_
        rotate_left
        · intro w'
          go_simp
          with_reducible rfl
        rotate_left
        · simp only [Act.put, List.setIfInBounds_toArray, List.set_cons_zero, List.set_cons_succ, i64_w, i32_w]
          rfl
        refine pure_ (i := 13) (N := some 42) (v := ?_) (a' := ?_) #[true, true, true, true, true, true, true, true, true, true, true, true, true, true, false] rfl rfl (by kernel_rfl) (fun _ _ _ h => h) (Or.inl ⟨by rfl, ?_⟩) ?_ ?_
        rotate_left
        · intro w'
          go_simp
          with_reducible rfl
        rotate_left
        · simp only [Act.put, List.setIfInBounds_toArray, List.set_cons_zero, List.set_cons_succ, i64_w, i32_w]
          rfl
        refine last_ (i := 14) (N := none) #[true, true, true, true, true, true, true, true, true, true, true, true, true, true, true] rfl rfl (by kernel_rfl) (by decide) (fun K hK => ?_)
        refine skip_ (w1 := ?_) (by rfl) rfl ?_ ?_
        rotate_left
        · go_simp
          rfl
        refine hK.out _ _ ?_
        clear hK K
        refine done_ (by kernel_rfl) ?_
        go_wp2
        have hx1 := HX1.out.2.2
        simp only [List.length_append, List.length_cons, List.length_nil, Nat.zero_add] at hx1
        refine ⟨⟨k + 1, by omega, by go_num, ⟨_, by rw [HMS.out.2]; exact hx1.1, HF.out.trans hx1.2 hB⟩⟩, ?_⟩
        simp [intOf]; omega
      · obtain rfl : k = n := by omega
        obtain ⟨v', hS⟩ := HS0.out
        go_wp2
        go_ret
        exact ⟨rfl, v', hS⟩
theorem take_snoc (l : List Bool) (k : Nat) (h : k < l.length) : l.take (k + 1) = l.take k ++ [l.getD k false] := by
  rw [List.take_succ_eq_append_getElem h, List.getD_eq_getElem?_getD, List.getElem?_eq_getElem h]; rfl
theorem numb_lo (f : Nat → Bool) (r n : Nat) (h : ∀ k, r ≤ k → f k = false) : BP.numb f n < 2 ^ r := by
  induction n with
  | zero => exact Nat.two_pow_pos r
  | succ n ih =>
    show BP.numb f n + (if f n = true then 2 ^ n else 0) < _
    by_cases hn : r ≤ n
    · rw [h n hn]; simpa using ih
    · have h1 := BP.numb_lt f n
      have h2 : (2 : Nat) ^ (n + 1) ≤ 2 ^ r := Nat.pow_le_pow_right (by omega) (by omega)
      have h3 : (2 : Nat) ^ (n + 1) = 2 ^ n + 2 ^ n := by rw [Nat.pow_succ]; omega
      split <;> omega
theorem room1_lo (M : List Bool) : ((room1 M).getD (M.length / 8) 0).toNat < 2 ^ (M.length % 8) := by
  unfold room1
  by_cases h : M.length % 8 = 0
  · rw [if_pos h, List.getD_eq_getElem?_getD, List.getElem?_append_right (by rw [pack_length]; omega)]
    rw [show M.length / 8 - (pack M).length = 0 by rw [pack_length]; omega]
    exact Nat.two_pow_pos _
  · rw [if_neg h, pack_getD _ _ (by omega)]
    rw [Int.toNat_natCast]
    exact numb_lo _ _ _ (fun k hk => by
      rw [List.getD_eq_getElem?_getD, List.getElem?_eq_none (by omega)]; rfl)
theorem room1_add (M : List Bool) (b : Bool) : pack (M ++ [b]) = (room1 M).set (M.length / 8) (((((room1 M).getD (M.length / 8) 0).toNat + b.toNat * 2 ^ (M.length % 8) : Nat)) : Int) := by
  rw [pack_snoc]
  congr 2
  have h := room1_lo M
  cases b
  · simp
  · rw [show true.toNat = 1 from rfl, Nat.one_mul, Nat.or_comm, Nat.add_comm]
    exact (Nat.two_pow_add_eq_or_of_lt h 1 |> fun e => by rw [Nat.mul_one] at e; exact e.symm)
theorem out_mid {base : Nat} {W : World} {gr n cap : Nat} {M : List Bool} (h : Kd.R (Kd.int .u8) 5 W base (fun _ => True) (.slice (some ⟨gr, 0, none⟩) n cap) (room1 M)) :
    M.length / 8 < n ∧ W.cell? ⟨gr, M.length / 8, none⟩ = some (.int .u8 ((((room1 M).getD (M.length / 8) 0).toNat : Nat) : Int)) ∧ W.frozen? ⟨gr, M.length / 8, none⟩ = false ∧ base ≤ gr := by
  have hl := room1_length M
  have hn : n = (room1 M).length := (Kd.R_reads' h).1
  have hlt : M.length / 8 < n := by omega
  have hc := Kd.R_celln 0 h ((M.length / 8 : Nat) : Int) (by omega) (by omega)
  rw [Int.toNat_natCast] at hc
  have hr := byte_range (room1_bytes M) (M.length / 8)
  have he : rdOf 0 (room1 M) ((M.length / 8 : Nat) : Int) = ((((room1 M).getD (M.length / 8) 0).toNat : Nat) : Int) := by
    unfold rdOf; rw [Int.toNat_natCast]; omega
  rw [he] at hc
  exact ⟨hlt, hc.1, hc.2, Kd.R_base h gr rfl⟩
theorem out_done {base : Nat} {w W : World} {gr n cap : Nat} {M : List Bool} (h : Kd.R (Kd.int .u8) 5 W base (fun _ => True) (.slice (some ⟨gr, 0, none⟩) n cap) (room1 M)) (hb : Below base w W) (b : Bool) (y : Int) (hy : y = ((((room1 M).getD (M.length / 8) 0).toNat + b.toNat * 2 ^ (M.length % 8) : Nat) : Int)) :
    Kd.R (Kd.int .u8) 5 (W.setCell ⟨gr, M.length / 8, none⟩ (.int .u8 y)) base (fun _ => True) (.slice (some ⟨gr, 0, none⟩) n cap) (pack (M ++ [b])) ∧ Below base w (W.setCell ⟨gr, M.length / 8, none⟩ (.int .u8 y)) := by
  have hput := Kd.R_putg h ((M.length / 8 : Nat) : Int) y
  rw [Int.toNat_natCast] at hput
  refine ⟨?_, hb.setCell (Kd.R_base h gr rfl) _⟩
  rw [room1_add, ← hy]; exact hput.1
theorem zo_at {w : World} {A : Option Addr} {L : List Bool} (h : (Kd.int .u8).C w A (zo L).length (zo L)) (k : Nat) (hk : k < L.length) : ∃ ad, A = some ad ∧ w.cell? (ad.add k) = some (.int .u8 ((((L.getD k false).toNat : Nat)) : Int)) := by
  obtain ⟨ad, e, hc⟩ := (Kd.reads_of_C (d := 0) h).2.2 (by rw [zo_length]; omega)
  refine ⟨ad, e, ?_⟩
  have := hc k (by rw [zo_length]; exact hk)
  rw [this]
  simp [zo, List.getD_eq_getElem?_getD, hk]
theorem add_byte (y0 k : Nat) (b : Bool) (h : y0 < 2 ^ (k % 8)) : ((y0 : Int) + ((b.toNat : Nat) : Int) * 2 ^ (k % 8)) % 256 = ((y0 + b.toNat * 2 ^ (k % 8) : Nat) : Int) := by
  have h1 : (2 : Nat) ^ (k % 8) ≤ 2 ^ 7 := Nat.pow_le_pow_right (by omega) (by omega)
  have e7 : (2 : Nat) ^ 7 = 128 := rfl
  rw [two_pow_cast]
  generalize (2 : Nat) ^ (k % 8) = p at *
  cases b
  · simp; omega
  · simp; omega
set_option maxRecDepth 100000 in
set_option maxHeartbeats 4000000 in
theorem rw_out (base g : Nat) (v : Value) (L : List Bool) (w : World) (hI : RwS base w g v L) (hB : base ≤ w.heap.size) (hl : L.length ≤ 140737488351232) :
    Calls Try.prog 26 #[.pointer (some ⟨g, 0, none⟩)] w fun e w' => ∃ u, e = .returned u ∧ Kd.R (Kd.int .u8) 5 w' w.heap.size (fun _ => True) u (pack L) ∧ Below w.heap.size w w' := by
  have HI := Aside0.mk hI
  clear hI
  go_enter Try.func26, Try.ntmps26
  go_wp2
  go_loopw [3, 4] (fun o i wr => ∃ k : Nat, k ≤ L.length ∧ i = .int .i64 k ∧ Aside0 (Kd.R (Kd.int .u8) 5 wr w.heap.size (fun _ => True) o (pack (L.take k)) ∧ Below w.heap.size w wr)) (fun _ i _ => L.length - (intOf i).toNat)
  case atStart => exact ⟨0, Nat.zero_le _, rfl, ⟨by rw [List.take_zero, pack_nil]; exact Kd.R_nil _ _ _ _ _, Below.refl _ _⟩⟩
  case round =>
    obtain ⟨k, hk, rfl, HS⟩ := hrel
    obtain ⟨M, hM⟩ : ∃ M, M = L.take k := ⟨_, rfl⟩
    rw [← hM] at HS
    have HM := Aside0.mk hM
    clear hM
    have HV : Aside0 (RwS base wr g v L) := ⟨HI.out.below HS.out.2⟩
    obtain ⟨A, c, rfl, hc, hC⟩ := Kd.R_reads HV.out.2.2
    obtain ⟨Ao, co, hu3, hco, hCo⟩ := Kd.R_reads HS.out.1
    subst hu3
    have hc0 := HV.out.cell
    have hzl := zo_length L
    have HZ := Aside0.mk hzl
    clear hzl
    obtain ⟨W, hW⟩ : ∃ x, x = wr := ⟨_, rfl⟩
    subst hW
    by_cases hlt : k < L.length
    · have hd : decide ((k : Int) < ((zo L).length : Int)) = true := by rw [HZ.out]; simp; exact hlt
      have hdn : decide (k < (zo L).length) = true := by rw [HZ.out]; simp; exact hlt
      have HMk : Aside0 (M.length = k) := ⟨by rw [HM.out, List.length_take]; omega⟩
      obtain ⟨b, hb⟩ : ∃ b, b = L.getD k false := ⟨_, rfl⟩
      have HMS : Aside0 (L.take (k + 1) = M ++ [b]) := ⟨by rw [HM.out, hb]; exact take_snoc L k hlt⟩
      have HBL := Aside0.mk hb
      clear hb
      have HP : Aside0 ((pack M).length ≤ 140737488351232) := ⟨by rw [pack_length, HMk.out]; omega⟩
      clear hC hCo
      by_cases h8 : k % 8 = 0
      · have ht : (((k : Int) % 8) == 0) = true := by simp; omega
        have HR1 : Aside0 (room1 M = pack M ++ [0]) := ⟨by unfold room1; rw [if_pos (by rw [HMk.out]; exact h8)]⟩
        go_wp2_with (refine Kd.R_append (Kd.int .u8) (w0 := w) w.heap.size rfl _ _ 22 5 (.int .u8 0) 1 rfl Try.underlying22 infoB8 rfl (by decide) (by decide) (.slice Ao (pack M).length co) (pack M) 0 [.int .u8 0] (fun _ => True) (fun _ => False) rfl rfl rfl (fun _ h => h.elim) (fun _ _ => trivial) HS.out.1 HS.out.2 HS.out.2.size (by have := HP.out; omega) ?_; intro v1 w1 hv1 hb1 hg1 hat1; obtain ⟨gr, c2, rfl, _, _, _⟩ := Kd.R_form hv1 (by simp); have hmt : Kd.R (Kd.int .u8) 5 w1 w.heap.size (fun _ => True) (.slice (some ⟨gr, 0, none⟩) ((pack M).length + 1) c2) (room1 M) := (by have hx := hv1; rw [List.length_append] at hx; rw [HR1.out]; exact hx); have hV1 := HI.out.below hb1; have hc1 := hV1.cell; clear hv1 hg1 hat1)
        have HMT := Aside0.mk hmt
        have HWW := Aside0.mk hV1
        have HBB := Aside0.mk hb1
        clear hmt hV1 hc1 hb1
        obtain ⟨f1, f2, f3, f4⟩ := out_mid HMT.out
        rw [HMk.out] at f1 f2 f3
        obtain ⟨ad, ea, fL⟩ := zo_at (Kd.R_reads' HWW.out.2.2).2.2 k hlt
        subst ea
        rw [← HBL.out] at fL
        try simp only [List.length_append, List.length_cons, List.length_nil, Nat.zero_add] at f1
        have fw : IntKind.i64.wrap ((k : Int) / 8) = (k : Int) / 8 := IntWalk.i64_in _ (by omega)
        have fw0 : (0 : Int) ≤ (k : Int) / 8 := by omega
        have fw1 : (k : Int) / 8 < ((pack M).length : Int) + 1 := by omega
        have fc := HWW.out.cell
        have fl : (k : Int) < ((zo L).length : Int) := by rw [HZ.out]; omega
        obtain ⟨y0, hy0⟩ : ∃ y0, y0 = ((room1 M).getD (k / 8) 0).toNat := ⟨_, rfl⟩
        rw [← hy0] at f2
        have HY0 := Aside0.mk hy0
        clear hy0 f4
        go_region
        go_wp2
        refine ⟨?rel, ?measure⟩
        case rel =>
          have hlo := room1_lo M
          rw [HMk.out, ← HY0.out] at hlo
          have hab := add_byte y0 k b hlo
          rw [h8, Nat.pow_zero, Nat.mul_one, Int.pow_zero, Int.mul_one] at hab
          have hd := out_done HMT.out HBB.out b (((y0 : Int) + ((b.toNat : Nat) : Int)) % 256) (by rw [HMk.out, ← HY0.out, h8, Nat.pow_zero, Nat.mul_one]; exact hab)
          rw [HMk.out, ← HMS.out] at hd
          try simp only [List.length_append, List.length_cons, List.length_nil, Nat.zero_add] at hd
          exact ⟨k + 1, by omega, by go_num, ⟨Kd.R_drew hd.1, below_drew hd.2⟩⟩
        case measure => simp [intOf]; omega
      · have ht : (((k : Int) % 8) == 0) = false := by simp; omega
        have HR1 : Aside0 (room1 M = pack M) := ⟨by unfold room1; rw [if_neg (by rw [HMk.out]; exact h8)]⟩
        have hpp : 0 < (pack M).length := by rw [pack_length, HMk.out]; omega
        obtain ⟨gr, c2, e2, _, _, _⟩ := Kd.R_form HS.out.1 hpp
        cases e2
        have HMT : Aside0 (Kd.R (Kd.int .u8) 5 W w.heap.size (fun _ => True) (.slice (some ⟨gr, 0, none⟩) (pack M).length co) (room1 M)) := ⟨by rw [HR1.out]; exact HS.out.1⟩
        have HWW := HV
        have HBB := Aside0.mk HS.out.2
        go_wp2
        obtain ⟨f1, f2, f3, f4⟩ := out_mid HMT.out
        rw [HMk.out] at f1 f2 f3
        obtain ⟨ad, ea, fL⟩ := zo_at (Kd.R_reads' HWW.out.2.2).2.2 k hlt
        subst ea
        rw [← HBL.out] at fL
        try simp only [List.length_append, List.length_cons, List.length_nil, Nat.zero_add] at f1
        have fw : IntKind.i64.wrap ((k : Int) / 8) = (k : Int) / 8 := IntWalk.i64_in _ (by omega)
        have fw0 : (0 : Int) ≤ (k : Int) / 8 := by omega
        have fw1 : (k : Int) / 8 < ((pack M).length : Int) + 1 := by omega
        have fc := HWW.out.cell
        have fl : (k : Int) < ((zo L).length : Int) := by rw [HZ.out]; omega
        obtain ⟨y0, hy0⟩ : ∃ y0, y0 = ((room1 M).getD (k / 8) 0).toNat := ⟨_, rfl⟩
        rw [← hy0] at f2
        have HY0 := Aside0.mk hy0
        clear hy0 f4
        go_region
        go_wp2
        refine ⟨?rel, ?measure⟩
        case rel =>
          have hlo := room1_lo M
          rw [HMk.out, ← HY0.out] at hlo
          have hd := out_done HMT.out HBB.out b (((y0 : Int) + ((b.toNat : Nat) : Int) * 2 ^ (k % 8)) % 256) (by rw [HMk.out, ← HY0.out]; exact add_byte y0 k b hlo)
          rw [HMk.out, ← HMS.out] at hd
          try simp only [List.length_append, List.length_cons, List.length_nil, Nat.zero_add] at hd
          exact ⟨k + 1, by omega, by go_num, ⟨Kd.R_drew hd.1, below_drew hd.2⟩⟩
        case measure => simp [intOf]; omega
    · obtain rfl : k = L.length := by omega
      have hd : decide ((L.length : Int) < ((zo L).length : Int)) = false := by rw [HZ.out]; simp
      have hdn : decide (L.length < (zo L).length) = false := by rw [HZ.out]; simp
      go_wp2
      go_ret
      have e := HM.out
      rw [List.take_length] at e
      subst e
      exact ⟨_, rfl, HS.out.1, HS.out.2⟩
end Go.Proofs.Ytjbckpfhenogiaa.Hw
