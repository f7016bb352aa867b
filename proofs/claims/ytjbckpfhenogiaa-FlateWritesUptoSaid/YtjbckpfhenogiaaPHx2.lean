-- Ytjbckpfhenogiaa: printed for this claim (all functions at once)
import Derived.Test.YtjbckpfhenogiaaPHx0
namespace Go.Proofs.Ytjbckpfhenogiaa.PH
open Go.RowKit Go.Proofs.YtjbckpfhenogiaaW.PrintWords Go.Proofs.YtjbckpfhenogiaaW.PrintLast Go.Proofs.YtjbckpfhenogiaaW.PrintMore
attribute [local go_sem] max2_int min2_int max_two min_two max_three min_three max_four min_four   -- for this text's walks alone
set_option linter.unusedVariables false
set_option linter.unusedSimpArgs false

/-- A state of type 91 at block g of W; what its slices lead to came in by w0. -/
def IsS91 (w0 W : World) (g : Nat) (f0 : Bool) (f1 : List Int) (f2 : Int) : Prop := ∃ A1 c1, W.heap[g]? = some (.cells #[.bool f0, .slice A1 f1.length c1, .int .i64 f2] 91 (0, 0)) ∧ w0.heap.size ≤ g ∧ Kd.C (Kd.int .u8) w0 A1 f1.length f1
theorem IsS91.grown {w0 W : World} {g : Nat} {f0 : Bool} {f1 : List Int} {f2 : Int} {W1 : World} {row : Option Nat} (h : IsS91 w0 W g f0 f1 f2) (hw : W.grownBy W1 row) (hne : some g ≠ row) : IsS91 w0 W1 g f0 f1 f2 := by
  obtain ⟨A1, c1, hb, hg, hr1⟩ := h
  exact ⟨A1, c1, blk_grown hb hw hne, hg, hr1⟩
theorem IsS91.own_neN {w0 W : World} {g : Nat} {f0 : Bool} {f1 : List Int} {f2 : Int} {α : Type} {d : Kd α} {e : Nat} {base : Nat} {ok : Nat → Prop} {v : Value} {xs : List α} (h : IsS91 w0 W g f0 f1 f2) (ho : Kd.N d e W base ok v xs) (ht : e ≠ 91) : some g ≠ v.ownBlock := by
  obtain ⟨A1, c1, hb, hg, hr1⟩ := h
  exact Kd.N_ne ho hb ht
theorem IsS91.fresh {w0 W : World} {g : Nat} {f0 : Bool} {f1 : List Int} {f2 : Int} (h : IsS91 w0 W g f0 f1 f2) : ∀ k, W.heap.size ≤ k → k ≠ g := by
  obtain ⟨A1, c1, hb, hg, hr1⟩ := h
  exact Kd.freshB hb
theorem IsS91.kept {w0 W : World} {g : Nat} {f0 : Bool} {f1 : List Int} {f2 : Int} {W1 : World} {S : Nat → Prop} (h : IsS91 w0 W g f0 f1 f2) (hk : Kept W W1 S) (hne : ¬ S g) : IsS91 w0 W1 g f0 f1 f2 := by
  obtain ⟨A1, c1, hb, hg, hr1⟩ := h
  exact ⟨A1, c1, blk_kept hb hk hne, hg, hr1⟩
theorem IsS91.below {w0 W : World} {g : Nat} {f0 : Bool} {f1 : List Int} {f2 : Int} {W1 : World} (h : IsS91 w0 W g f0 f1 f2) (hw : Below W.heap.size W W1) : IsS91 w0 W1 g f0 f1 f2 := h.grown (grown_of_below hw none) (by simp)
theorem IsS91.alloc {w0 W : World} {g : Nat} {f0 : Bool} {f1 : List Int} {f2 : Int} (h : IsS91 w0 W g f0 f1 f2) (o : Obj) : IsS91 w0 (W.alloc o) g f0 f1 f2 := h.below (below_alloc (Below.refl _ _) o)
theorem IsS91.drewN {w0 W : World} {g : Nat} {f0 : Bool} {f1 : List Int} {f2 : Int} (h : IsS91 w0 W g f0 f1 f2) (m : Nat) : IsS91 w0 (W.drewN m) g f0 f1 f2 := h
theorem IsS91.drew {w0 W : World} {g : Nat} {f0 : Bool} {f1 : List Int} {f2 : Int} (h : IsS91 w0 W g f0 f1 f2) : IsS91 w0 W.drew g f0 f1 f2 := h
theorem IsS91.at_ {w0 W : World} {g : Nat} {f0 : Bool} {f1 : List Int} {f2 : Int} {w' : World} {m : Nat} (hq : W.drewN m = w') (h : IsS91 w0 W g f0 f1 f2) : IsS91 w0 w' g f0 f1 f2 := by subst hq; exact IsS91.drewN h m
theorem IsS91.apart {w0 W : World} {g : Nat} {f0 : Bool} {f1 : List Int} {f2 : Int} {α : Type} {d : Kd α} {e : Nat} {base : Nat} {ok : Nat → Prop} {v : Value} {xs : List α} (h : IsS91 w0 W g f0 f1 f2) (ho : d.R e W base ok v xs) (ht : ∀ q, q ∈ e :: d.E → q ≠ 91) : d.R e W base (fun k => ok k ∧ k ≠ g) v xs := by
  obtain ⟨A1, c1, hb, hg, hr1⟩ := h
  exact Kd.R_types ho hb ht
theorem IsS91.own_ne {w0 W : World} {g : Nat} {f0 : Bool} {f1 : List Int} {f2 : Int} {α : Type} {d : Kd α} {e : Nat} {base : Nat} {ok : Nat → Prop} {v : Value} {xs : List α} (h : IsS91 w0 W g f0 f1 f2) (ho : d.R e W base ok v xs) (ht : e ≠ 91) : some g ≠ v.ownBlock := by
  obtain ⟨A1, c1, hb, hg, hr1⟩ := h
  exact Kd.R_ne ho hb ht
theorem IsS91.apartQ {w0 W : World} {g : Nat} {f0 : Bool} {f1 : List Int} {f2 : Int} {α : Type} {d : Kd α} {e : Nat} {base : Nat} {ok : Nat → Prop} {v : Value} {xs : List α} (h : IsS91 w0 W g f0 f1 f2) (ho : d.Q e W base ok v xs) (ht : ∀ q, q ∈ e :: d.E → q ≠ 91) : d.Q e W base (fun k => ok k ∧ k ≠ g) v xs := by
  obtain ⟨A1, c1, hb, hg, hr1⟩ := h
  exact Kd.Q_types ho hb ht
theorem IsS91.own_neQ {w0 W : World} {g : Nat} {f0 : Bool} {f1 : List Int} {f2 : Int} {α : Type} {d : Kd α} {e : Nat} {base : Nat} {ok : Nat → Prop} {v : Value} {xs : List α} (h : IsS91 w0 W g f0 f1 f2) (ho : d.Q e W base ok v xs) (ht : e ≠ 91) : some g ≠ v.ownBlock := by
  obtain ⟨A1, c1, hb, hg, hr1⟩ := h
  exact Kd.Q_ne ho hb ht
theorem IsS91.apartS {w0 W : World} {g : Nat} {f0 : Bool} {f1 : List Int} {f2 : Int} {α : Type} {d : Kd α} {e : Nat} {base : Nat} {ok : Nat → Prop} {v : Value} {xs : List α} (h : IsS91 w0 W g f0 f1 f2) (ho : d.S e W base ok v xs) (ht : ∀ q, q ∈ e :: d.E → q ≠ 91) : d.S e W base (fun k => ok k ∧ k ≠ g) v xs := by
  obtain ⟨A1, c1, hb, hg, hr1⟩ := h
  exact Kd.S_types ho hb ht
theorem IsS91.own_neS {w0 W : World} {g : Nat} {f0 : Bool} {f1 : List Int} {f2 : Int} {α : Type} {d : Kd α} {e : Nat} {base : Nat} {ok : Nat → Prop} {v : Value} {xs : List α} (h : IsS91 w0 W g f0 f1 f2) (ho : d.S e W base ok v xs) (ht : e ≠ 91) : some g ≠ v.ownBlock := by
  obtain ⟨A1, c1, hb, hg, hr1⟩ := h
  exact Kd.S_ne ho hb ht
theorem IsS91.lt {w0 W : World} {g : Nat} {f0 : Bool} {f1 : List Int} {f2 : Int} (h : IsS91 w0 W g f0 f1 f2) : g < W.heap.size := by
  obtain ⟨A1, c1, hb, hg, hr1⟩ := h
  exact blk_lt hb
theorem IsS91.ge {w0 W : World} {g : Nat} {f0 : Bool} {f1 : List Int} {f2 : Int} (h : IsS91 w0 W g f0 f1 f2) : w0.heap.size ≤ g := by
  obtain ⟨A1, c1, hb, hg, hr1⟩ := h
  exact hg
theorem IsS91.ne_blk {w0 W : World} {g : Nat} {f0 : Bool} {f1 : List Int} {f2 : Int} {a : Nat} {cs : Array Value} {t : TypeId} {fr : Nat × Nat} (h : IsS91 w0 W g f0 f1 f2) (hb2 : W.heap[a]? = some (.cells cs t fr)) (ht : t ≠ 91) : g ≠ a := by
  obtain ⟨A1, c1, hb, hg, hr1⟩ := h
  rintro rfl
  rw [hb] at hb2
  injection hb2 with hb2
  injection hb2 with _ ht2
  exact ht ht2.symm
theorem IsS91.far {w0 W : World} {g : Nat} {f0 : Bool} {f1 : List Int} {f2 : Int} {p : Addr} (h : IsS91 w0 W g f0 f1 f2) (hne : g ≠ p.block) (u : Value) : IsS91 w0 (W.setCell p u) g f0 f1 f2 := by
  obtain ⟨A1, c1, hb, hg, hr1⟩ := h
  exact ⟨A1, c1, blk_far hb hne u, hg, hr1⟩
theorem cellS91_0 {W : World} {g : Nat} {A1 : Option Addr} {c1 : Nat} {f0 : Bool} {f1 : List Int} {f2 : Int} (h : W.heap[g]? = some (.cells #[.bool f0, .slice A1 f1.length c1, .int .i64 f2] 91 (0, 0))) : W.cell? ⟨g, 0, none⟩ = some (.bool f0) := (blk_cell h 0).trans rfl
theorem IsS91.set_0 {w0 W : World} {g : Nat} {f0 : Bool} {f1 : List Int} {f2 : Int} (h : IsS91 w0 W g f0 f1 f2) (x : Bool) : IsS91 w0 (W.setCell ⟨g, 0, none⟩ (.bool x)) g x f1 f2 := by
  obtain ⟨A1, c1, hb, hg, hr1⟩ := h
  exact ⟨A1, c1, by simpa using blk_set hb 0 (.bool x), hg, hr1⟩
theorem cellS91_1 {W : World} {g : Nat} {A1 : Option Addr} {c1 : Nat} {f0 : Bool} {f1 : List Int} {f2 : Int} (h : W.heap[g]? = some (.cells #[.bool f0, .slice A1 f1.length c1, .int .i64 f2] 91 (0, 0))) : W.cell? ⟨g, 1, none⟩ = some (.slice A1 f1.length c1) := (blk_cell h 1).trans rfl
theorem cellS91_2 {W : World} {g : Nat} {A1 : Option Addr} {c1 : Nat} {f0 : Bool} {f1 : List Int} {f2 : Int} (h : W.heap[g]? = some (.cells #[.bool f0, .slice A1 f1.length c1, .int .i64 f2] 91 (0, 0))) : W.cell? ⟨g, 2, none⟩ = some (.int .i64 f2) := (blk_cell h 2).trans rfl
theorem IsS91.set_2 {w0 W : World} {g : Nat} {f0 : Bool} {f1 : List Int} {f2 : Int} (h : IsS91 w0 W g f0 f1 f2) (x : Int) : IsS91 w0 (W.setCell ⟨g, 2, none⟩ (.int .i64 x)) g f0 f1 x := by
  obtain ⟨A1, c1, hb, hg, hr1⟩ := h
  exact ⟨A1, c1, by simpa using blk_set hb 2 (.int .i64 x), hg, hr1⟩
theorem IsS91.new (w0 W : World) (A1 : Option Addr) (c1 : Nat) (f0 : Bool) (f1 : List Int) (f2 : Int) (hB : Below w0.heap.size w0 W) (hr1 : Kd.C (Kd.int .u8) w0 A1 f1.length f1) : IsS91 w0 (W.alloc (.cells #[.bool f0, .slice A1 f1.length c1, .int .i64 f2] 91)) W.heap.size f0 f1 f2 := ⟨A1, c1, by simpa using heap_alloc_new W _, hB.size, hr1⟩

/-! ### bitio_Reader_number: function 87 -/
def bitio_Reader_number.l0 : Nat → Int → Int → Int → Int → Int → Bool → List Int → Int → Option (Int × Bool × Int)
  | 0, _, _, _, _, _, _, _, _ => none
  | k + 1, x1, x5, x6, x22, x23, x1000, x1001, x1002 => if x23 < x22 then (if (wrap64 (x6 + x23)) < (x1001.length : Int) then (if 0 ≤ (wrap64 (x6 + x23)) then (if 0 ≤ (wrap64 (8 * x23)) then (bitio_Reader_number.l0 k x1 (Go.bits .or .u64 x5 (shl .u64 (IntKind.u64.wrap (rd x1001 (wrap64 (x6 + x23)))) (wrap64 (8 * x23)))) x6 x22 (wrap64 (x23 + 1)) x1000 x1001 x1002) else (none)) else (none)) else (bitio_Reader_number.l0 k x1 x5 x6 x22 (wrap64 (x23 + 1)) x1000 x1001 x1002)) else (if 0 ≤ (Int.tmod x1002 8) then (if 0 ≤ x1 then (some ((Go.bits .and .u64 (shr .u64 x5 (Int.tmod x1002 8)) (IntKind.u64.wrap ((shl .u64 1 x1) - 1))) % 4294967296, x1000, x1002)) else (none)) else (none))
def bitio_Reader_number.f (k : Nat) (s0_0 : Bool) (s0_1 : List Int) (s0_2 : Int) (a1 : Int) : Option (Int × Bool × Int) := bitio_Reader_number.l0 k a1 0 (wrap64 (Int.tdiv s0_2 8)) (wrap64 (Int.tdiv (wrap64 ((wrap64 ((wrap64 ((Int.tmod s0_2 8) + a1)) + 8)) - 1)) 8)) 0 s0_0 s0_1 s0_2
theorem bitio_Reader_number.mono_l : ∀ k, (∀ y0 y1 y2 y3 y4 y5 y6 y7, LeO (bitio_Reader_number.l0 k y0 y1 y2 y3 y4 y5 y6 y7) (bitio_Reader_number.l0 (k + 1) y0 y1 y2 y3 y4 y5 y6 y7))
  | 0 => fun _ _ _ _ _ _ _ _ r h => by simp [bitio_Reader_number.l0] at h
  | k + 1 => by
    have ih0 := bitio_Reader_number.mono_l k
    · intro y0 y1 y2 y3 y4 y5 y6 y7
      unfold bitio_Reader_number.l0
      repeat' first
      | (with_reducible exact ih0 _ _ _ _ _ _ _ _)
      | (with_reducible exact LeO.refl _)
      | (with_reducible exact LeO.none _)
      | (with_reducible refine LeO.ite ?_ ?_)
      | (with_reducible refine LeO.bind ?_ (fun _ => ?_))
      | exact ih0 _ _ _ _ _ _ _ _
      | exact LeO.none _
      | refine LeO.ite ?_ ?_
      | refine LeO.bind ?_ (fun _ => ?_)
theorem bitio_Reader_number.mono : ∀ a0 a1 a2 a3 k, LeO (bitio_Reader_number.f k a0 a1 a2 a3) (bitio_Reader_number.f (k + 1) a0 a1 a2 a3) := by
  intro a0 a1 a2 a3 k
  have ih0 := bitio_Reader_number.mono_l k
  unfold bitio_Reader_number.f
  repeat' first
      | (with_reducible exact ih0 _ _ _ _ _ _ _ _)
      | (with_reducible exact LeO.refl _)
      | (with_reducible exact LeO.none _)
      | (with_reducible refine LeO.ite ?_ ?_)
      | (with_reducible refine LeO.bind ?_ (fun _ => ?_))
      | exact ih0 _ _ _ _ _ _ _ _
      | exact LeO.none _
      | refine LeO.ite ?_ ?_
      | refine LeO.bind ?_ (fun _ => ?_)
set_option maxHeartbeats 8000000 in
set_option maxRecDepth 100000 in
theorem bitio_Reader_number.calls (k : Nat) (g : Nat) (s0_0 : Bool) (s0_1 : List Int) (s0_2 : Int) (a1 : Int) (r1 : Int) (r2 : Bool) (r3 : Int) (w0 w : World) (hI : IsS91 w0 w g s0_0 s0_1 s0_2) (hB : Below w0.heap.size w0 w) (h : bitio_Reader_number.f k s0_0 s0_1 s0_2 a1 = some (r1, r2, r3)) :
    Calls Try.prog 87 #[.pointer (some ⟨g, 0, none⟩), .int .i64 a1] w fun e w' => e = .returned (.int .u32 r1) ∧ IsS91 w0 w' g r2 s0_1 r3 ∧ Below w0.heap.size w0 w' ∧ KeepBut w w' g none := by
  have HI0 := Aside0.mk hI
  have HK := Aside0.mk (KeepBut.refl w g none)
  have HL := Aside0.mk hB.size
  clear hI
  have HW0 := Aside0.mk hB.size
  have HB := Aside0.mk hB
  clear hB
  have H : (bitio_Reader_number.l0 k a1 0 (wrap64 (Int.tdiv s0_2 8)) (wrap64 (Int.tdiv (wrap64 ((wrap64 ((wrap64 ((Int.tmod s0_2 8) + a1)) + 8)) - 1)) 8)) 0 s0_0 s0_1 s0_2) = some (r1, r2, r3) := h
  clear h
  have H' := Aside0.mk H
  clear H
  obtain ⟨ASz3_1, cSz3_1, HGz3, hgz3, HSz3_1⟩ := HI0.out
  have hcz3_0 := cellS91_0 HGz3
  have hcz3_1 := cellS91_1 HGz3
  have hcz3_2 := cellS91_2 HGz3
  have hfz3_0 := blk_frozen HGz3 0
  have hfz3_2 := blk_frozen HGz3 2
  clear HGz3 hgz3
  go_enter Try.func87, Try.ntmps87
  go_wp2
  repeat (go_quiet (fail); try go_wp2)
  go_loopg [5, 23] k (fun kq v5 v23 w' => ∃ (x5_1 : Int) (x23_1 : Int), v5 = .int .u64 x5_1 ∧ v23 = .int .i64 x23_1 ∧ Aside0 (bitio_Reader_number.l0 kq a1 x5_1 (wrap64 (Int.tdiv s0_2 8)) (wrap64 (Int.tdiv (wrap64 ((wrap64 ((wrap64 ((Int.tmod s0_2 8) + a1)) + 8)) - 1)) 8)) x23_1 s0_0 s0_1 s0_2 = some (r1, r2, r3)) ∧ Aside0 (kq ≤ k) ∧ Aside0 (IsS91 w0 w' g s0_0 s0_1 s0_2) ∧ Aside0 (KeepBut w w' g none) ∧ Aside0 (Below w0.heap.size w0 w'))
  case atStart => exact ⟨(0), (0), (by first | rfl | (simp; done) | (simp [*]; done)), (by first | rfl | (simp; done) | (simp [*]; done)), H', ⟨Nat.le_refl _⟩, ⟨by repeat (first | (with_reducible first | exact HI0.out | apply IsS91.alloc | apply IsS91.drewN | apply IsS91.drew | apply IsS91.set_0 | apply IsS91.set_2) | exact HI0.out)⟩, ⟨by repeat (first | (with_reducible first | exact HK.out | apply KeepBut.set_ | apply keep_drewN | apply keep_drew | apply keep_alloc) | exact HK.out)⟩, ⟨by repeat (first | (with_reducible first | exact HB.out | apply below_alloc | apply pw_below_drewN | apply below_drew1 | refine below_set ?_ (IsS91.ge HI0.out)) | exact HB.out)⟩⟩
  case round =>
    clear H'
    try clear p2
    try clear hcz3_0
    try clear hcz3_1
    try clear hcz3_2
    try clear hfz3_0
    try clear hfz3_2
    obtain ⟨x5_1, x23_1, rfl, rfl, HA, HK1, HI0, HK, HB⟩ := hrel
    cases gk with
    | zero => exact absurd HA.out (by simp [bitio_Reader_number.l0])
    | succ k1 =>
      have H := HA.out
      clear HA
      simp only [bitio_Reader_number.l0] at H
      by_cases c4 : x23_1 < (wrap64 (Int.tdiv (wrap64 ((wrap64 ((wrap64 ((Int.tmod s0_2 8) + a1)) + 8)) - 1)) 8))
      · rw [if_pos c4] at H
        have c4b0 : decide (x23_1 < (wrap64 (Int.tdiv (wrap64 ((wrap64 ((wrap64 ((Int.tmod s0_2 8) + a1)) + 8)) - 1)) 8))) = true := decide_eq_true c4
        clear c4
        by_cases c5 : (wrap64 ((wrap64 (Int.tdiv s0_2 8)) + x23_1)) < (s0_1.length : Int)
        · rw [if_pos c5] at H
          have c5b0 : decide ((wrap64 ((wrap64 (Int.tdiv s0_2 8)) + x23_1)) < (s0_1.length : Int)) = true := decide_eq_true c5
          clear c5
          obtain ⟨ji6, hji6⟩ : ∃ j_ : Int, (wrap64 ((wrap64 (Int.tdiv s0_2 8)) + x23_1)) = j_ := ⟨_, rfl⟩
          replace H : (if 0 ≤ (ji6) then (if 0 ≤ (wrap64 (8 * x23_1)) then (bitio_Reader_number.l0 k1 a1 (Go.bits .or .u64 x5_1 (shl .u64 (IntKind.u64.wrap (rd s0_1 (ji6))) (wrap64 (8 * x23_1)))) (wrap64 (Int.tdiv s0_2 8)) (wrap64 (Int.tdiv (wrap64 ((wrap64 ((wrap64 ((Int.tmod s0_2 8) + a1)) + 8)) - 1)) 8)) (wrap64 (x23_1 + 1)) s0_0 s0_1 s0_2) else (none)) else (none)) = some (r1, r2, r3) := by first | (rw [hji6] at H; exact H) | (simp only [hji6] at H ⊢; exact H)
          (try rw [hji6] at c5b0)
          have hji6w : (IntKind.i64.wrap ((wrap64 (Int.tdiv s0_2 8)) + x23_1)) = ji6 := (i64_w _).trans hji6
          by_cases c7 : 0 ≤ (ji6)
          · rw [if_pos c7] at H
            have c7b0 : decide (0 ≤ (ji6)) = true := decide_eq_true c7
            clear c7
            obtain ⟨ji8, hji8⟩ : ∃ j_ : Int, (wrap64 (8 * x23_1)) = j_ := ⟨_, rfl⟩
            replace H : (if 0 ≤ (ji8) then (bitio_Reader_number.l0 k1 a1 (Go.bits .or .u64 x5_1 (shl .u64 (IntKind.u64.wrap (rd s0_1 (ji6))) (ji8))) (wrap64 (Int.tdiv s0_2 8)) (wrap64 (Int.tdiv (wrap64 ((wrap64 ((wrap64 ((Int.tmod s0_2 8) + a1)) + 8)) - 1)) 8)) (wrap64 (x23_1 + 1)) s0_0 s0_1 s0_2) else (none)) = some (r1, r2, r3) := by first | (rw [hji8] at H; exact H) | (simp only [hji8] at H ⊢; exact H)
            have hji8w : (IntKind.i64.wrap (8 * x23_1)) = ji8 := (i64_w _).trans hji8
            by_cases c9 : 0 ≤ (ji8)
            · rw [if_pos c9] at H
              have c9b0 := eq_true c9
              have c9b1 : decide (0 ≤ (ji8)) = true := decide_eq_true c9
              clear c9
              obtain ⟨ji10, hji10⟩ : ∃ j_ : Int, (shl .u64 (IntKind.u64.wrap (rd s0_1 (ji6))) (ji8)) = j_ := ⟨_, rfl⟩
              replace H : (bitio_Reader_number.l0 k1 a1 (Go.bits .or .u64 x5_1 (ji10)) (wrap64 (Int.tdiv s0_2 8)) (wrap64 (Int.tdiv (wrap64 ((wrap64 ((wrap64 ((Int.tmod s0_2 8) + a1)) + 8)) - 1)) 8)) (wrap64 (x23_1 + 1)) s0_0 s0_1 s0_2) = some (r1, r2, r3) := by first | (rw [hji10] at H; exact H) | (simp only [hji10] at H ⊢; exact H)
              have hji10_ : (IntKind.u64.wrap ((IntKind.u64.wrap (rd s0_1 (ji6))) * 2 ^ min (ji8).toNat 64)) = ji10 := hji10
              have hji10z : (ji8) ≤ 64 → (IntKind.u64.wrap ((IntKind.u64.wrap (rd s0_1 (ji6))) * 2 ^ (ji8).toNat)) = ji10 := shl_small hji10
              have H' := Aside0.mk H
              clear H
              obtain ⟨ASz11_1, cSz11_1, HGz11, hgz11, HSz11_1⟩ := HI0.out
              have hcz11_0 := cellS91_0 HGz11
              have hcz11_1 := cellS91_1 HGz11
              have hcz11_2 := cellS91_2 HGz11
              have hfz11_0 := blk_frozen HGz11 0
              have hfz11_2 := blk_frozen HGz11 2
              clear HGz11 hgz11
              have p120 : 0 ≤ ((ji6) : Int) := of_decide_eq_true (by first | (with_reducible assumption) | assumption)
              have q120 : (ji6) < (s0_1.length : Int) := of_decide_eq_true (by first | (with_reducible assumption) | assumption)
              obtain ⟨ad120, e120, hx120_0⟩ := Kd.at_int HSz11_1 (ji6) p120 q120
              cases e120
              replace hx120_0 := pw_cell_below HB.out hx120_0
              replace p120 := eq_true p120
              replace q120 := eq_true q120
              go_wp2
              repeat (go_quiet (fail); try go_wp2)
              go_roundg k1
              case measure => have := HK1.out; omega
              case rel => exact ⟨(Go.bits .or .u64 x5_1 (ji10)), (wrap64 (x23_1 + 1)), (by first | rfl | (simp; done) | (simp only [← hji10] <;> (first | rfl | simp)) | (simp [*]; done)), (by first | rfl | (simp; done) | (simp [*]; done)), H', ⟨by have := HK1.out; omega⟩, ⟨by repeat (first | (with_reducible first | exact HI0.out | apply IsS91.alloc | apply IsS91.drewN | apply IsS91.drew | apply IsS91.set_0 | apply IsS91.set_2) | exact HI0.out)⟩, ⟨by repeat (first | (with_reducible first | exact HK.out | apply KeepBut.set_ | apply keep_drewN | apply keep_drew | apply keep_alloc) | exact HK.out)⟩, ⟨by repeat (first | (with_reducible first | exact HB.out | apply below_alloc | apply pw_below_drewN | apply below_drew1 | refine below_set ?_ (IsS91.ge HI0.out)) | exact HB.out)⟩⟩
            · rw [if_neg c9] at H
              exact absurd H (by simp)
          · rw [if_neg c7] at H
            exact absurd H (by simp)
        · rw [if_neg c5] at H
          have c5b0 : decide ((wrap64 ((wrap64 (Int.tdiv s0_2 8)) + x23_1)) < (s0_1.length : Int)) = false := decide_eq_false c5
          clear c5
          have H' := Aside0.mk H
          clear H
          obtain ⟨ASz12_1, cSz12_1, HGz12, hgz12, HSz12_1⟩ := HI0.out
          have hcz12_0 := cellS91_0 HGz12
          have hcz12_1 := cellS91_1 HGz12
          have hcz12_2 := cellS91_2 HGz12
          have hfz12_0 := blk_frozen HGz12 0
          have hfz12_2 := blk_frozen HGz12 2
          clear HGz12 hgz12
          go_wp2
          repeat (go_quiet (fail); try go_wp2)
          go_roundg k1
          case measure => have := HK1.out; omega
          case rel => exact ⟨(x5_1), (wrap64 (x23_1 + 1)), (by first | rfl | (simp; done) | (simp [*]; done)), (by first | rfl | (simp; done) | (simp [*]; done)), H', ⟨by have := HK1.out; omega⟩, ⟨by repeat (first | (with_reducible first | exact HI0.out | apply IsS91.alloc | apply IsS91.drewN | apply IsS91.drew | apply IsS91.set_0 | apply IsS91.set_2) | exact HI0.out)⟩, ⟨by repeat (first | (with_reducible first | exact HK.out | apply KeepBut.set_ | apply keep_drewN | apply keep_drew | apply keep_alloc) | exact HK.out)⟩, ⟨by repeat (first | (with_reducible first | exact HB.out | apply below_alloc | apply pw_below_drewN | apply below_drew1 | refine below_set ?_ (IsS91.ge HI0.out)) | exact HB.out)⟩⟩
      · rw [if_neg c4] at H
        have c4b0 : decide (x23_1 < (wrap64 (Int.tdiv (wrap64 ((wrap64 ((wrap64 ((Int.tmod s0_2 8) + a1)) + 8)) - 1)) 8))) = false := decide_eq_false c4
        clear c4
        obtain ⟨ji13, hji13⟩ : ∃ j_ : Int, (Int.tmod s0_2 8) = j_ := ⟨_, rfl⟩
        replace H : (if 0 ≤ (ji13) then (if 0 ≤ a1 then (some ((Go.bits .and .u64 (shr .u64 x5_1 (ji13)) (IntKind.u64.wrap ((shl .u64 1 a1) - 1))) % 4294967296, s0_0, s0_2)) else (none)) else (none)) = some (r1, r2, r3) := by first | (rw [hji13] at H; exact H) | (simp only [hji13] at H ⊢; exact H)
        (try rw [hji13] at c4b0)
        by_cases c14 : 0 ≤ (ji13)
        · rw [if_pos c14] at H
          have c14b0 := eq_true c14
          have c14b1 : decide (0 ≤ (ji13)) = true := decide_eq_true c14
          clear c14
          obtain ⟨ji15, hji15⟩ : ∃ j_ : Int, (shr .u64 x5_1 (ji13)) = j_ := ⟨_, rfl⟩
          replace H : (if 0 ≤ a1 then (some ((Go.bits .and .u64 (ji15) (IntKind.u64.wrap ((shl .u64 1 a1) - 1))) % 4294967296, s0_0, s0_2)) else (none)) = some (r1, r2, r3) := by first | (rw [hji15] at H; exact H) | (simp only [hji15] at H ⊢; exact H)
          have hji15_ : (x5_1 / 2 ^ min (ji13).toNat 64) = ji15 := hji15
          have hji15z : (ji13) ≤ 64 → (x5_1 / 2 ^ (ji13).toNat) = ji15 := shr_small hji15
          by_cases c16 : 0 ≤ a1
          · rw [if_pos c16] at H
            have c16b0 := eq_true c16
            have c16b1 : decide (0 ≤ a1) = true := decide_eq_true c16
            clear c16
            obtain ⟨ji17, hji17⟩ : ∃ j_ : Int, (shl .u64 1 a1) = j_ := ⟨_, rfl⟩
            replace H : (some ((Go.bits .and .u64 (ji15) (IntKind.u64.wrap ((ji17) - 1))) % 4294967296, s0_0, s0_2)) = some (r1, r2, r3) := by first | (rw [hji17] at H; exact H) | (simp only [hji17] at H ⊢; exact H)
            have hji17_ : (IntKind.u64.wrap (1 * 2 ^ min a1.toNat 64)) = ji17 := hji17
            have hji17z : a1 ≤ 64 → (IntKind.u64.wrap (1 * 2 ^ a1.toNat)) = ji17 := shl_small hji17
            have hji17u : (IntKind.u64.wrap (2 ^ min a1.toNat 64)) = ji17 := by have h_ := hji17_; rw [Int.one_mul] at h_; exact h_
            have hji17v : a1 ≤ 64 → (IntKind.u64.wrap (2 ^ a1.toNat)) = ji17 := fun hle_ => by have h_ := hji17z hle_; rw [Int.one_mul] at h_; exact h_
            simp only [Option.some.injEq, Prod.mk.injEq] at H
            obtain ⟨rfl, rfl, rfl⟩ := H
            obtain ⟨ASz18_1, cSz18_1, HGz18, hgz18, HSz18_1⟩ := HI0.out
            have hcz18_0 := cellS91_0 HGz18
            have hcz18_1 := cellS91_1 HGz18
            have hcz18_2 := cellS91_2 HGz18
            have hfz18_0 := blk_frozen HGz18 0
            have hfz18_2 := blk_frozen HGz18 2
            clear HGz18 hgz18
            go_wp2
            repeat (go_quiet (fail); try go_wp2)
            go_ret
            exact ⟨by first | rfl | (simp [errW_none, errW_some] <;> rfl) | (simp only [← hji13, ← hji15, ← hji17]; first | rfl | (simp [errW_none, errW_some] <;> rfl)) | (simp [*, errW_none, errW_some] <;> rfl), by repeat (first | (with_reducible first | exact HI0.out | apply IsS91.alloc | apply IsS91.drewN | apply IsS91.drew | apply IsS91.set_0 | apply IsS91.set_2) | exact HI0.out), by repeat (first | (with_reducible first | exact HB.out | apply below_alloc | apply pw_below_drewN | apply below_drew1 | refine below_set ?_ (IsS91.ge HI0.out)) | exact HB.out), by repeat (first | (with_reducible first | exact HK.out | apply KeepBut.set_ | apply keep_drewN | apply keep_drew | apply keep_alloc) | exact HK.out)⟩
          · rw [if_neg c16] at H
            exact absurd H (by simp)
        · rw [if_neg c14] at H
          exact absurd H (by simp)

-- NOT PRINTED: function 80 (bitio_Reader_Peek)

-- NOT PRINTED: function 81 (bitio_Reader_Left)

-- NOT PRINTED: function 66 (bitio_Reader_Bits)

-- NOT PRINTED: function 47 (flate_inflater_bits)

-- NOT PRINTED: function 32 (bitio_Reader_Used)

-- NOT PRINTED: function 67 (bitio_Reader_Align)

-- NOT PRINTED: function 68 (bitio_Reader_Bytes)

-- NOT PRINTED: function 48 (flate_inflater_stored)

-- NOT PRINTED: function 69 (huff_NewDecoder)

-- NOT PRINTED: function 82 (huff_Decoder_Read)

-- NOT PRINTED: function 70 (flate_inflater_symbol)

-- NOT PRINTED: function 71 (flate_inflater_match)

-- NOT PRINTED: function 49 (flate_inflater_coded)

-- NOT PRINTED: function 45 (flate_order)

-- NOT PRINTED: function 72 (flate_inflater_lengths)

-- NOT PRINTED: function 50 (flate_inflater_dynamic)

-- NOT PRINTED: function 30 (flate_inflater_block)

-- NOT PRINTED: function 15 (flate_Inflate)

-- NOT PRINTED: function 8 (gridironlaw03_live)

-- NOT PRINTED: function 20 (bitio_Writer_Align)

-- NOT PRINTED: function 21 (bitio_Writer_Bytes)

-- NOT PRINTED: function 10 (flate_Stored)

/-! ### gridironref01_Reverse: function 25 -/
mutual
def gridironref01_Reverse.j0 : Nat → Int → Int → Int → Bool → Option (Int)
  | 0, _, _, _, _ => none
  | k + 1, x0, x1, x5, x12 => if x12 = true then (some 0) else (gridironref01_Reverse.l0 k x0 x1 x5 0)
def gridironref01_Reverse.l0 : Nat → Int → Int → Int → Int → Option (Int)
  | 0, _, _, _, _ => none
  | k + 1, x0, x1, x5, x6 => if x6 < x1 then (if 0 ≤ x6 then (if 0 ≤ (wrap64 ((wrap64 (x1 - 1)) - x6)) then (gridironref01_Reverse.l0 k x0 x1 ((x5 + (shl .u32 (Int.tmod (shr .u32 x0 x6) 2) (wrap64 ((wrap64 (x1 - 1)) - x6)))) % 4294967296) (wrap64 (x6 + 1))) else (none)) else (none)) else (some x5)
end
def gridironref01_Reverse.f (k : Nat) (a0 : Int) (a1 : Int) : Option (Int) := if a1 < 0 then (gridironref01_Reverse.j0 k a0 a1 0 true) else (gridironref01_Reverse.j0 k a0 a1 0 (decide (a1 > 32)))
theorem gridironref01_Reverse.mono_l : ∀ k, (∀ y0 y1 y2 y3, LeO (gridironref01_Reverse.j0 k y0 y1 y2 y3) (gridironref01_Reverse.j0 (k + 1) y0 y1 y2 y3)) ∧ (∀ y0 y1 y2 y3, LeO (gridironref01_Reverse.l0 k y0 y1 y2 y3) (gridironref01_Reverse.l0 (k + 1) y0 y1 y2 y3))
  | 0 => ⟨fun _ _ _ _ r h => by simp [gridironref01_Reverse.j0] at h, fun _ _ _ _ r h => by simp [gridironref01_Reverse.l0] at h⟩
  | k + 1 => by
    obtain ⟨ih0, ih1⟩ := gridironref01_Reverse.mono_l k
    refine ⟨?_, ?_⟩
    · intro y0 y1 y2 y3
      unfold gridironref01_Reverse.j0
      repeat' first
      | (with_reducible exact ih0 _ _ _ _)
      | (with_reducible exact ih1 _ _ _ _)
      | (with_reducible exact LeO.refl _)
      | (with_reducible exact LeO.none _)
      | (with_reducible refine LeO.ite ?_ ?_)
      | (with_reducible refine LeO.bind ?_ (fun _ => ?_))
      | exact ih0 _ _ _ _
      | exact ih1 _ _ _ _
      | exact LeO.none _
      | refine LeO.ite ?_ ?_
      | refine LeO.bind ?_ (fun _ => ?_)
    · intro y0 y1 y2 y3
      unfold gridironref01_Reverse.l0
      repeat' first
      | (with_reducible exact ih0 _ _ _ _)
      | (with_reducible exact ih1 _ _ _ _)
      | (with_reducible exact LeO.refl _)
      | (with_reducible exact LeO.none _)
      | (with_reducible refine LeO.ite ?_ ?_)
      | (with_reducible refine LeO.bind ?_ (fun _ => ?_))
      | exact ih0 _ _ _ _
      | exact ih1 _ _ _ _
      | exact LeO.none _
      | refine LeO.ite ?_ ?_
      | refine LeO.bind ?_ (fun _ => ?_)
theorem gridironref01_Reverse.mono : ∀ a0 a1 k, LeO (gridironref01_Reverse.f k a0 a1) (gridironref01_Reverse.f (k + 1) a0 a1) := by
  intro a0 a1 k
  obtain ⟨ih0, ih1⟩ := gridironref01_Reverse.mono_l k
  unfold gridironref01_Reverse.f
  repeat' first
      | (with_reducible exact ih0 _ _ _ _)
      | (with_reducible exact ih1 _ _ _ _)
      | (with_reducible exact LeO.refl _)
      | (with_reducible exact LeO.none _)
      | (with_reducible refine LeO.ite ?_ ?_)
      | (with_reducible refine LeO.bind ?_ (fun _ => ?_))
      | exact ih0 _ _ _ _
      | exact ih1 _ _ _ _
      | exact LeO.none _
      | refine LeO.ite ?_ ?_
      | refine LeO.bind ?_ (fun _ => ?_)
set_option maxHeartbeats 8000000 in
set_option maxRecDepth 100000 in
theorem gridironref01_Reverse.calls (k : Nat) (a0 : Int) (a1 : Int) (r : Int) (w : World) (h : gridironref01_Reverse.f k a0 a1 = some r) :
    Calls Try.prog 25 #[.int .u32 a0, .int .i64 a1] w fun e w' => e = .returned (.int .u32 r) ∧ Drawn0 w w' := by
  have H : (if a1 < 0 then (gridironref01_Reverse.j0 k a0 a1 0 true) else (gridironref01_Reverse.j0 k a0 a1 0 (decide (a1 > 32)))) = some r := h
  clear h
  have HC3 := Aside0.mk H
  clear H
  go_enter Try.func25, Try.ntmps25
  go_upto_region 2 with (fail)
  go_cut [12] (fun v12 wc => ∃ (kq : Nat) (x12_2 : Bool), v12 = .bool x12_2 ∧ Aside0 (gridironref01_Reverse.j0 kq a0 a1 0 x12_2 = some r) ∧ Aside0 (kq ≤ k) ∧ Drawn0 w wc)
  case first =>
    have H := HC3.out
    clear HC3
    by_cases c4 : a1 < 0
    · rw [if_pos c4] at H
      have c4b0 : decide (a1 < 0) = true := decide_eq_true c4
      clear c4
      (first | rw [c4b0] | (simp only [i64_w, i32_w]; rw [c4b0]) | skip)
      have H' := Aside0.mk H
      clear H
      go_wp2
      go_meet
      case rel => exact ⟨_, (true), (by first | rfl | (simp; done) | (simp [*]; done)), H', ⟨by first | omega | exact Nat.le_refl _⟩, by repeat (first | exact Drawn0.refl _ | apply Drawn0.step)⟩
    · rw [if_neg c4] at H
      have c4b0 : decide (a1 < 0) = false := decide_eq_false c4
      clear c4
      (first | rw [c4b0] | (simp only [i64_w, i32_w]; rw [c4b0]) | skip)
      have H' := Aside0.mk H
      clear H
      go_wp2
      go_meet
      case rel => exact ⟨_, (decide (a1 > 32)), (by first | rfl | (simp; done) | (simp [*]; done)), H', ⟨by first | omega | exact Nat.le_refl _⟩, by repeat (first | exact Drawn0.refl _ | apply Drawn0.step)⟩
  case rest =>
    clear HC3
    try clear c2
    try clear p2
    try clear c4
    try clear c4b0
    obtain ⟨kq, x12_2, rfl, HA, HJ2, ⟨mc2, rfl⟩⟩ := hcut
    cases kq with
    | zero => exact absurd HA.out (by simp [gridironref01_Reverse.j0])
    | succ kj2 =>
      have H := HA.out
      clear HA
      simp only [gridironref01_Reverse.j0] at H
      by_cases c5 : x12_2 = true
      · subst c5
        have H1 : (some 0) = some r := by rw [if_pos rfl] at H; exact H
        clear H
        have H := H1
        clear H1
        obtain rfl := Option.some.inj H
        go_wp2
        go_ret
        exact ⟨by first | rfl | (simp; done) | (simp [*]; done), by repeat (first | exact Drawn0.refl _ | apply Drawn0.step)⟩
      · replace c5 := Bool.eq_false_iff.mpr c5
        subst c5
        have H1 : (gridironref01_Reverse.l0 kj2 a0 a1 0 0) = some r := by rw [if_neg (show ¬ (false = true) by decide)] at H; exact H
        clear H
        have H := H1
        clear H1
        have H' := Aside0.mk H
        clear H
        go_wp2
        go_loopg [5, 6] kj2 (fun kq v5 v6 w' => ∃ (x5_2 : Int) (x6_2 : Int), v5 = .int .u32 x5_2 ∧ v6 = .int .i64 x6_2 ∧ Aside0 (gridironref01_Reverse.l0 kq a0 a1 x5_2 x6_2 = some r) ∧ Aside0 (kq ≤ kj2) ∧ Drawn0 w w')
        case atStart => exact ⟨(0), (0), (by first | rfl | (simp; done) | (simp [*]; done)), (by first | rfl | (simp; done) | (simp [*]; done)), H', ⟨Nat.le_refl _⟩, by repeat (first | exact Drawn0.refl _ | apply Drawn0.step)⟩
        case round =>
          clear H'
          try clear c2
          try clear p2
          try clear c4
          try clear c4b0
          try clear c5
          try clear p2
          obtain ⟨x5_2, x6_2, rfl, rfl, HA, HK2, ⟨m2, rfl⟩⟩ := hrel
          cases gk with
          | zero => exact absurd HA.out (by simp [gridironref01_Reverse.l0])
          | succ k2 =>
            have H := HA.out
            clear HA
            simp only [gridironref01_Reverse.l0] at H
            by_cases c6 : x6_2 < a1
            · rw [if_pos c6] at H
              have c6b0 : decide (x6_2 < a1) = true := decide_eq_true c6
              clear c6
              by_cases c7 : 0 ≤ x6_2
              · rw [if_pos c7] at H
                have c7b0 := eq_true c7
                have c7b1 : decide (0 ≤ x6_2) = true := decide_eq_true c7
                clear c7
                obtain ⟨ji8, hji8⟩ : ∃ j_ : Int, (shr .u32 a0 x6_2) = j_ := ⟨_, rfl⟩
                replace H : (if 0 ≤ (wrap64 ((wrap64 (a1 - 1)) - x6_2)) then (gridironref01_Reverse.l0 k2 a0 a1 ((x5_2 + (shl .u32 (Int.tmod (ji8) 2) (wrap64 ((wrap64 (a1 - 1)) - x6_2)))) % 4294967296) (wrap64 (x6_2 + 1))) else (none)) = some r := by first | (rw [hji8] at H; exact H) | (simp only [hji8] at H ⊢; exact H)
                have hji8_ : (a0 / 2 ^ min x6_2.toNat 32) = ji8 := hji8
                have hji8z : x6_2 ≤ 32 → (a0 / 2 ^ x6_2.toNat) = ji8 := shr_small hji8
                obtain ⟨ji9, hji9⟩ : ∃ j_ : Int, (wrap64 ((wrap64 (a1 - 1)) - x6_2)) = j_ := ⟨_, rfl⟩
                replace H : (if 0 ≤ (ji9) then (gridironref01_Reverse.l0 k2 a0 a1 ((x5_2 + (shl .u32 (Int.tmod (ji8) 2) (ji9))) % 4294967296) (wrap64 (x6_2 + 1))) else (none)) = some r := by first | (rw [hji9] at H; exact H) | (simp only [hji9] at H ⊢; exact H)
                have hji9w : (IntKind.i64.wrap ((wrap64 (a1 - 1)) - x6_2)) = ji9 := (i64_w _).trans hji9
                by_cases c10 : 0 ≤ (ji9)
                · rw [if_pos c10] at H
                  have c10b0 := eq_true c10
                  have c10b1 : decide (0 ≤ (ji9)) = true := decide_eq_true c10
                  clear c10
                  obtain ⟨ji11, hji11⟩ : ∃ j_ : Int, (shl .u32 (Int.tmod (ji8) 2) (ji9)) = j_ := ⟨_, rfl⟩
                  replace H : (gridironref01_Reverse.l0 k2 a0 a1 ((x5_2 + (ji11)) % 4294967296) (wrap64 (x6_2 + 1))) = some r := by first | (rw [hji11] at H; exact H) | (simp only [hji11] at H ⊢; exact H)
                  have hji11_ : (IntKind.u32.wrap ((Int.tmod (ji8) 2) * 2 ^ min (ji9).toNat 32)) = ji11 := hji11
                  have hji11z : (ji9) ≤ 32 → (IntKind.u32.wrap ((Int.tmod (ji8) 2) * 2 ^ (ji9).toNat)) = ji11 := shl_small hji11
                  have H' := Aside0.mk H
                  clear H
                  go_wp2
                  go_roundg k2
                  case measure => have := HJ2.out; have := HK2.out; omega
                  case rel => exact ⟨((x5_2 + (ji11)) % 4294967296), (wrap64 (x6_2 + 1)), (by first | rfl | (simp; done) | (simp only [← hji11] <;> (first | rfl | simp)) | (simp [*]; done)), (by first | rfl | (simp; done) | (simp [*]; done)), H', ⟨by have := HJ2.out; have := HK2.out; omega⟩, by repeat (first | exact Drawn0.refl _ | apply Drawn0.step)⟩
                · rw [if_neg c10] at H
                  exact absurd H (by simp)
              · rw [if_neg c7] at H
                exact absurd H (by simp)
            · rw [if_neg c6] at H
              have c6b0 : decide (x6_2 < a1) = false := decide_eq_false c6
              clear c6
              obtain rfl := Option.some.inj H
              go_wp2
              go_ret
              exact ⟨by first | rfl | (simp; done) | (simp [*]; done), by repeat (first | exact Drawn0.refl _ | apply Drawn0.step)⟩

-- NOT PRINTED: function 26 (gridironref01_Writer_Out)

-- NOT PRINTED: function 13 (gridironref03_Fixed)

-- NOT PRINTED: function 3 (gridironlaw03_FlateWrites)

end Go.Proofs.Ytjbckpfhenogiaa.PH
