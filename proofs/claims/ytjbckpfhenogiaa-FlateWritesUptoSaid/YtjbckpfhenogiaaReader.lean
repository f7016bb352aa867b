import Derived.Test.YtjbckpfhenogiaaNumber
import Derived.WalkSpells
import Derived.Outline
/- bitio's Reader, walked. -/
namespace Go.Proofs.Ytjbckpfhenogiaa.Hw
open Go.RowKit Go.Proofs.YtjbckpfhenogiaaW.PrintWords Go.Proofs.YtjbckpfhenogiaaW.PrintLast Go.Proofs.YtjbckpfhenogiaaW.PrintMore Go.Proofs.Ytjbckpfhenogiaa.PH
set_option linter.unusedVariables false
set_option linter.unusedSimpArgs false
theorem infoB : (Try.prog.info? 5).map (fun i => (i.zero, i.size, i.bytes)) = some (some (.int .u8 0), 1, 1) := by kernel_rfl
set_option maxHeartbeats 1000000 in
theorem clone_calls (A0 : Option Addr) (c0 : Nat) (l : List Int) (w : World) (hr0 : Kd.C (Kd.int .u8) w A0 l.length l) (hc0 : l.length ≤ c0) (hy : l.length ≤ 140737488351232) :
    Calls Try.prog 31 #[.slice A0 l.length c0] w fun e w' => ∃ v, e = .returned v ∧ Kd.R (Kd.int .u8) 5 w' w.heap.size (fun _ => True) v l ∧ Below w.heap.size w w' := by
  have HR0 := Aside0.mk hr0
  have hnil := fun (W : World) (n c : Nat) => Lib.run_eql_slice_nil (P := Try.prog) W 22 5 A0 n c 0 0 Try.underlying22
  rcases A0 with _ | ad
  · have h0 : l = [] := by
      rcases l with _ | ⟨x, l⟩
      · rfl
      · obtain ⟨ad, h, _⟩ := hr0.2.2 (by simp)
        cases h
    subst h0
    clear hr0
    go_enter Try.func31, Try.ntmps31
    go_wp2
    go_ret
    exact ⟨_, rfl, Kd.R_nil _ _ _ _ _, Below.refl _ _⟩
  · clear hr0
    go_enter Try.func31, Try.ntmps31
    have HO : Aside0 ((Kd.int .u8).R 5 (w.alloc (.cells #[] 5)) w.heap.size (fun _ => True) (.slice (some ⟨w.heap.size, 0, none⟩) 0 0) []) := ⟨(Arr.new w 5 .u8 []).own (Nat.le_refl _) (by decide) _ trivial⟩
    go_wp2_with (refine Kd.R_append_row (Value.int .u8) 0 (w0 := w) w.heap.size rfl _ _ 22 5 (.int .u8 0) 1 rfl Try.underlying22 infoB rfl (by decide) (.slice (some ⟨w.heap.size, 0, none⟩) 0 0) [] l (some ad) l.length c0 (fun _ => True) rfl rfl (fun _ _ => trivial) HO.out (Kd.C_alloc HR0.out _) (below_alloc (Below.refl _ _) _) (by simp) (by simp; omega) ?_; intro v1 w1 hv hb hg hat)
    go_ret
    exact ⟨_, rfl, hv, hb⟩
set_option maxHeartbeats 1000000 in
/-- A reader that stands at bit 0 of l; the bytes lie in a world w0 that the reader's block lies behind. -/
theorem newReader_calls (A0 : Option Addr) (c0 : Nat) (l : List Int) (w : World) (hr0 : Kd.C (Kd.int .u8) w A0 l.length l) (hc0 : l.length ≤ c0) (hy : l.length ≤ 140737488351232) :
    Calls Try.prog 29 #[.slice A0 l.length c0] w fun e w' => ∃ g w0, e = .returned (.pointer (some ⟨g, 0, none⟩)) ∧ IsS91 w0 w' g true l 0 ∧ Below w.heap.size w w0 ∧ Below w0.heap.size w0 w' ∧ Below w.heap.size w w' := by
  have HR0 := Aside0.mk hr0
  clear hr0
  go_enter Try.func29, Try.ntmps29
  go_wp2_with fail
  refine (clone_calls A0 c0 l w HR0.out hc0 hy).mono ?_
  rintro e w1 ⟨v, rfl, hv, hb⟩
  obtain ⟨A, c, rfl, hc, hC⟩ := Kd.R_reads hv
  have HC := Aside0.mk hC
  have HB := Aside0.mk hb
  clear hC hb hv
  go_wp2
  go_ret
  exact ⟨_, w1, rfl, IsS91.new w1 w1 A c true l 0 (Below.refl _ _) HC.out, HB.out, below_alloc (Below.refl _ _) _, below_alloc HB.out _⟩
set_option maxHeartbeats 1000000 in
theorem rnone_calls (g : Nat) (m : Bool) (bs : List Int) (at_ : Int) (w0 w : World) (hI : IsS91 w0 w g m bs at_) :
    Calls Try.prog 51 #[.pointer (some ⟨g, 0, none⟩)] w fun e w' => e = .returned (.bool (!m)) ∧ Drawn0 w w' := by
  obtain ⟨AS, cS, HG, hg, HS⟩ := hI
  have hc0 := cellS91_0 HG
  clear HG HS
  go_enter Try.func51, Try.ntmps51
  go_wp2
  go_ret
  exact ⟨rfl, Drawn0.refl _⟩
set_option maxHeartbeats 1000000 in
theorem rleft_calls (g : Nat) (bs : List Int) (at_ : Nat) (w0 w : World) (hI : IsS91 w0 w g true bs (at_ : Int)) (hl : bs.length ≤ 140737488351232) (ha : at_ ≤ 8 * bs.length) :
    Calls Try.prog 81 #[.pointer (some ⟨g, 0, none⟩)] w fun e w' => e = .returned (.int .i64 (8 * (bs.length : Int) - (at_ : Int))) ∧ Drawn0 w w' := by
  have HI := Aside0.mk hI
  obtain ⟨AS, cS, HG, hg, HS⟩ := hI
  have hc1 := cellS91_1 HG
  have hc2 := cellS91_2 HG
  clear HG HS
  go_enter Try.func81, Try.ntmps81
  go_wp2_with fail
  refine (rnone_calls g true bs _ w0 w HI.out).mono ?_
  rintro e w1 ⟨rfl, ⟨n1, rfl⟩⟩
  go_wp2
  go_quiet (fail)
  go_wp2
  go_ret
  exact ⟨rfl, Drawn0.step ⟨⟨_, rfl⟩⟩ _⟩
/-- A reader's call leaves the rest as it was. -/
def RS (w0 w w' : World) (g : Nat) (bs : List Int) (at_ : Int) : Prop := IsS91 w0 w' g true bs at_ ∧ Below w0.heap.size w0 w' ∧ KeepBut w w' g none
theorem RS.quiet {w0 w w' : World} {g : Nat} {bs : List Int} {at_ : Int} (hI : IsS91 w0 w g true bs at_) (hB : Below w0.heap.size w0 w) (h : Drawn0 w w') : RS w0 w w' g bs at_ := by
  obtain ⟨n, rfl⟩ := h
  exact ⟨hI.drewN _, pw_below_drewN hB _, KeepBut.of_below (pw_below_drewN (Below.refl _ _) _) _ _⟩
theorem RS.drewN {w0 w w' : World} {g : Nat} {bs : List Int} {at_ : Int} (h : RS w0 w w' g bs at_) (n : Nat) : RS w0 w (w'.drewN n) g bs at_ := ⟨h.1.drewN _, pw_below_drewN h.2.1 _, keep_drewN h.2.2 _⟩
theorem RS.start {w0 w w' : World} {g : Nat} {bs : List Int} {at_ : Int} {n : Nat} (h : RS w0 (w.drewN n) w' g bs at_) : RS w0 w w' g bs at_ := ⟨h.1, h.2.1, h.2.2⟩
set_option maxHeartbeats 1000000 in
theorem rpeek_bad (g : Nat) (bs : List Int) (at_ : Nat) (n : Int) (w0 w : World) (hI : IsS91 w0 w g true bs (at_ : Int)) (hn : n < 0 ∨ 32 < n) :
    Calls Try.prog 80 #[.pointer (some ⟨g, 0, none⟩), .int .i64 n] w fun e w' => e = .returned (.tuple #[.int .u32 0, .int .i64 10]) ∧ Drawn0 w w' := by
  have HI := Aside0.mk hI
  clear hI
  rcases hn with hn | hn
  · have h1 : decide (n < 0) = true := by simpa using hn
    go_enter Try.func80, Try.ntmps80
    go_wp2_with fail
    refine (rnone_calls g true bs _ w0 w HI.out).mono ?_
    rintro e w1 ⟨rfl, ⟨n1, rfl⟩⟩
    go_wp2
    go_ret2
    exact ⟨rfl, ⟨_, rfl⟩⟩
  · have h1 : decide (n < 0) = false := by simp; omega
    have h2 : decide (32 < n) = true := by simpa using hn
    go_enter Try.func80, Try.ntmps80
    go_wp2_with fail
    refine (rnone_calls g true bs _ w0 w HI.out).mono ?_
    rintro e w1 ⟨rfl, ⟨n1, rfl⟩⟩
    go_wp2
    go_ret2
    exact ⟨rfl, ⟨_, rfl⟩⟩
set_option maxHeartbeats 1000000 in
theorem rpeek_ok (g : Nat) (bs : List Int) (at_ n : Nat) (w0 w : World) (hI : IsS91 w0 w g true bs (at_ : Int)) (hB : Below w0.heap.size w0 w) (hb : IsBytes bs) (hl : bs.length ≤ 140737488351232) (ha : at_ ≤ 8 * bs.length) (hn : n ≤ 32) :
    Calls Try.prog 80 #[.pointer (some ⟨g, 0, none⟩), .int .i64 (n : Int)] w fun e w' => e = .returned (.tuple #[.int .u32 (nbits bs at_ n : Nat), .int .i64 0]) ∧ RS w0 w w' g bs (at_ : Int) := by
  have HI := Aside0.mk hI
  have HB := Aside0.mk hB
  have HN := Aside0.mk (number_is bs hb hl true at_ n 6 hn (by omega) (by omega))
  clear hI hB
  have h1 : decide ((n : Int) < 0) = false := by simp
  have h2 : decide (32 < (n : Int)) = false := by simp; omega
  go_enter Try.func80, Try.ntmps80
  go_wp2_with fail
  refine (rnone_calls g true bs _ w0 w HI.out).mono ?_
  rintro e w1 ⟨rfl, ⟨n1, rfl⟩⟩
  go_wp2_with fail
  have h3 := bitio_Reader_number.calls 6 g true bs (at_ : Int) (n : Int) _ _ _ w0 (w.drewN n1) (HI.out.drewN _) (pw_below_drewN HB.out _) HN.out
  refine h3.mono ?_
  rintro e w2 ⟨rfl, hi2, hb2, hk2⟩
  have H2 : Aside0 (RS w0 w w2 g bs (at_ : Int)) := ⟨RS.start ⟨hi2, hb2, hk2⟩⟩
  clear h3 hi2 hb2 hk2
  go_wp2
  go_ret2
  exact ⟨rfl, H2.out⟩
set_option maxHeartbeats 1000000 in
theorem rbits_bad (g : Nat) (bs : List Int) (at_ : Nat) (n : Int) (w0 w : World) (hI : IsS91 w0 w g true bs (at_ : Int)) (hn : n < 0 ∨ 32 < n) :
    Calls Try.prog 66 #[.pointer (some ⟨g, 0, none⟩), .int .i64 n] w fun e w' => e = .returned (.tuple #[.int .u32 0, .int .i64 10]) ∧ Drawn0 w w' := by
  have HP := Aside0.mk (rpeek_bad g bs at_ n w0 w hI hn)
  clear hI hn
  go_enter Try.func66, Try.ntmps66
  go_wp2_with fail
  refine HP.out.mono ?_
  rintro e w1 ⟨rfl, ⟨n1, rfl⟩⟩
  go_wp2
  go_ret2
  exact ⟨rfl, ⟨_, rfl⟩⟩
set_option maxHeartbeats 1000000 in
theorem rbits_ends (g : Nat) (bs : List Int) (at_ n : Nat) (w0 w : World) (hI : IsS91 w0 w g true bs (at_ : Int)) (hB : Below w0.heap.size w0 w) (hb : IsBytes bs) (hl : bs.length ≤ 140737488351232) (ha : at_ ≤ 8 * bs.length) (hn : n ≤ 32) (hend : 8 * bs.length < at_ + n) :
    Calls Try.prog 66 #[.pointer (some ⟨g, 0, none⟩), .int .i64 (n : Int)] w fun e w' => e = .returned (.tuple #[.int .u32 0, .int .i64 11]) ∧ RS w0 w w' g bs (at_ : Int) := by
  have HP := Aside0.mk (rpeek_ok g bs at_ n w0 w hI hB hb hl ha hn)
  clear hI hB
  have ht : decide (8 * (bs.length : Int) - (at_ : Int) < (n : Int)) = true := by simp; omega
  go_enter Try.func66, Try.ntmps66
  go_wp2_with fail
  refine HP.out.mono ?_
  rintro e w1 ⟨rfl, h1⟩
  have H1 := Aside0.mk h1
  clear h1 HP
  go_wp2_with fail
  refine (rleft_calls g bs at_ w0 w1 H1.out.1 hl ha).mono ?_
  rintro e w2 ⟨rfl, ⟨n2, rfl⟩⟩
  go_wp2
  go_ret2
  exact ⟨rfl, H1.out.drewN _⟩
theorem RS.set {w0 w w' : World} {g : Nat} {bs : List Int} {x : Int} (h : RS w0 w w' g bs x) (a n : Nat) : RS w0 w (w'.setCell ⟨g, 2, none⟩ (.int .i64 ((a : Int) + (n : Int)))) g bs ((a + n : Nat) : Int) := by
  have := h.1.set_2 ((a : Int) + (n : Int))
  exact ⟨by rw [Int.natCast_add]; exact this, h.2.1.setCell h.1.ge _, h.2.2.set_ 2 _⟩
set_option maxHeartbeats 1000000 in
theorem rbits_ok (g : Nat) (bs : List Int) (at_ n : Nat) (w0 w : World) (hI : IsS91 w0 w g true bs (at_ : Int)) (hB : Below w0.heap.size w0 w) (hb : IsBytes bs) (hl : bs.length ≤ 140737488351232) (ha : at_ + n ≤ 8 * bs.length) (hn : n ≤ 32) :
    Calls Try.prog 66 #[.pointer (some ⟨g, 0, none⟩), .int .i64 (n : Int)] w fun e w' => e = .returned (.tuple #[.int .u32 (nbits bs at_ n : Nat), .int .i64 0]) ∧ RS w0 w w' g bs ((at_ + n : Nat) : Int) := by
  have HP := Aside0.mk (rpeek_ok g bs at_ n w0 w hI hB hb hl (by omega) hn)
  clear hI hB
  have ht : decide (8 * (bs.length : Int) - (at_ : Int) < (n : Int)) = false := by simp; omega
  go_enter Try.func66, Try.ntmps66
  go_wp2_with fail
  refine HP.out.mono ?_
  rintro e w1 ⟨rfl, h1⟩
  have H1 := Aside0.mk h1
  clear h1 HP
  go_wp2_with fail
  refine (rleft_calls g bs at_ w0 w1 H1.out.1 hl (by omega)).mono ?_
  rintro e w2 ⟨rfl, ⟨n2, rfl⟩⟩
  have H2 := Aside0.mk (H1.out.drewN n2)
  obtain ⟨AS, cS, HG, hg, HS⟩ := H2.out.1
  have hc2 := cellS91_2 HG
  have hf2 := blk_frozen HG 2
  clear HG HS hg H1
  generalize w1.drewN n2 = W at *
  go_wp2
  go_ret2
  exact ⟨rfl, H2.out.set at_ n⟩
end Go.Proofs.Ytjbckpfhenogiaa.Hw
