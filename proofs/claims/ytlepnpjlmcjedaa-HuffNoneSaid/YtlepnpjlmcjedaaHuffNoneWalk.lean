import Derived.Test.YtlepnpjlmcjedaaBitioNoneWalk
import Derived.Test.YtlepnpjlmcjedaaDread
import Derived.Test.YtlepnpjlmcjedaaBegun
/- The law HuffNone, walked. -/
namespace Go.Proofs.Ytlepnpjlmcjedaa.Hw
open Go.RowKit Go.Proofs.YtlepnpjlmcjedaaW.PrintWords Go.Proofs.YtlepnpjlmcjedaaW.PrintLast Go.Proofs.YtlepnpjlmcjedaaW.PrintMore Go.Proofs.Ytlepnpjlmcjedaa.PH
set_option linter.unusedVariables false
set_option linter.unusedSimpArgs false
/-- A decoder that no call made. -/
def UnmadeD (w : World) (p : Option Addr) : Prop := p = none ∨ ∃ g, p = some ⟨g, 0, none⟩ ∧ w.cell? ⟨g, 2, none⟩ = some (.bool false)
theorem UnmadeD.drewN {w : World} {p : Option Addr} (h : UnmadeD w p) (n : Nat) : UnmadeD (w.drewN n) p := h
theorem UnmadeD.below {w w' : World} {p : Option Addr} (h : UnmadeD w p) (hb : Below w.heap.size w w') : UnmadeD w' p := by
  rcases h with h | ⟨g, h1, h2⟩
  · exact .inl h
  · exact .inr ⟨g, h1, pw_cell_below hb h2⟩
set_option maxHeartbeats 1000000 in
theorem dec_read0 (p : Option Addr) (r : Value) (w : World) (h : UnmadeD w p) :
    Calls Try.prog 54 #[.pointer p, r] w fun e w' => e = .returned (.tuple #[.int .i64 0, .int .i64 2]) ∧ Drawn0 w w' := by
  rcases h with rfl | ⟨g, rfl, hc⟩
  · go_enter Try.func54, Try.ntmps54
    go_wp2
    go_ret2
    exact ⟨rfl, by repeat (first | exact Drawn0.refl _ | apply Drawn0.step)⟩
  · go_enter Try.func54, Try.ntmps54
    go_wp2
    go_ret2
    exact ⟨rfl, by repeat (first | exact Drawn0.refl _ | apply Drawn0.step)⟩
set_option maxHeartbeats 1000000 in
theorem dec_read1 (base gd b : Nat) (l : List Int) (p : Option Addr) (w : World) (hD : DecS base w gd b l l.length) (h : Unmade w p) :
    Calls Try.prog 54 #[.pointer (some ⟨gd, 0, none⟩), .pointer p] w fun e w' => e = .returned (.tuple #[.int .i64 0, .int .i64 2]) ∧ Drawn0 w w' := by
  obtain ⟨_, _, hc2, _⟩ := hD.cells
  have HB := Aside0.mk (rd_bits0 p 0 w h)
  clear hD h
  go_enter Try.func54, Try.ntmps54
  go_wp2_with fail
  refine HB.out.mono ?_
  rintro e w1 ⟨rfl, ⟨n1, rfl⟩⟩
  go_wp2
  go_ret2
  exact ⟨rfl, by repeat (first | exact Drawn0.refl _ | apply Drawn0.step)⟩
set_option maxHeartbeats 1000000 in
theorem put_none0 (p : Option Addr) (a b c : Value) (w : World) (h : Unmade w p) :
    Calls Try.prog 56 #[.pointer p, a, b, c] w fun e w' => e = .returned (.int .i64 2) ∧ Drawn0 w w' := by
  have HB := Aside0.mk (wr_bits0 p 0 0 w h)
  clear h
  go_enter Try.func56, Try.ntmps56
  go_wp2_with fail
  refine HB.out.mono ?_
  rintro e w1 ⟨rfl, ⟨n1, rfl⟩⟩
  go_wp2
  go_ret
  exact ⟨rfl, by repeat (first | exact Drawn0.refl _ | apply Drawn0.step)⟩
/-- Two pointers at decoders that no call made. -/
def ND (w wr : World) (g : Nat) : Prop := (∀ k, k < 2 → ∃ p, wr.cell? ⟨g, k, none⟩ = some (.pointer p) ∧ UnmadeD wr p) ∧ Below w.heap.size w wr
theorem ND.drewN {w wr : World} {g : Nat} (h : ND w wr g) (n : Nat) : ND w (wr.drewN n) g := ⟨h.1, pw_below_drewN h.2 n⟩
theorem ND.below {w wr w' : World} {g : Nat} (h : ND w wr g) (hb : Below wr.heap.size wr w') : ND w w' g :=
  ⟨fun k hk => by obtain ⟨p, h1, h2⟩ := h.1 k hk; exact ⟨p, pw_cell_below hb h1, h2.below hb⟩, below_step h.2 hb⟩
theorem ND.mk {w0 w : World} (h : Below w0.heap.size w0 w) (T U : Nat) (b c : Value) :
    ND w0 ((w.alloc (.cells #[b, c, .bool false] T)).alloc (.cells #[.pointer none, .pointer (some ⟨w.heap.size, 0, none⟩)] U)) (w.heap.size + 1) := by
  have h1 : (w.alloc (.cells #[b, c, .bool false] T)).heap[w.heap.size]? = some (.cells #[b, c, .bool false] T) := heap_alloc_new w _
  have h2 : ((w.alloc (.cells #[b, c, .bool false] T)).alloc (.cells #[.pointer none, .pointer (some ⟨w.heap.size, 0, none⟩)] U)).heap[w.heap.size + 1]? = some (.cells #[.pointer none, .pointer (some ⟨w.heap.size, 0, none⟩)] U) := by
    have := heap_alloc_new (w.alloc (.cells #[b, c, .bool false] T)) (.cells #[.pointer none, .pointer (some ⟨w.heap.size, 0, none⟩)] U)
    simpa using this
  have h3 : ((w.alloc (.cells #[b, c, .bool false] T)).alloc (.cells #[.pointer none, .pointer (some ⟨w.heap.size, 0, none⟩)] U)).heap[w.heap.size]? = some (.cells #[b, c, .bool false] T) := by
    have hb := below_alloc (Below.refl (w.alloc (.cells #[b, c, .bool false] T)).heap.size (w.alloc (.cells #[b, c, .bool false] T))) (.cells #[.pointer none, .pointer (some ⟨w.heap.size, 0, none⟩)] U)
    exact (hb.block w.heap.size (blk_lt h1)).trans h1
  refine ⟨fun k hk => ?_, below_alloc (below_alloc h _) _⟩
  obtain rfl | rfl : k = 0 ∨ k = 1 := by omega
  · exact ⟨none, (blk_cell h2 0).trans rfl, .inl rfl⟩
  · exact ⟨_, (blk_cell h2 1).trans rfl, .inr ⟨_, rfl, (blk_cell h3 2).trans rfl⟩⟩
theorem NS.below {w wr w' : World} {g : Nat} (h : NS w wr g) (hb : Below wr.heap.size wr w') : NS w w' g :=
  ⟨fun k hk => by
    obtain ⟨p, h1, h2⟩ := h.1 k hk
    refine ⟨p, pw_cell_below hb h1, ?_⟩
    rcases h2 with h | ⟨g, h3, h4⟩
    · exact .inl h
    · exact .inr ⟨g, h3, pw_cell_below hb h4⟩, below_step h.2 hb⟩
set_option maxRecDepth 100000 in
set_option maxHeartbeats 4000000 in
theorem hnone_walk (w : World) (A1 : Option Addr) (c1 : Nat) (bs : List Int) (hr1 : Kd.C (Kd.int .u8) w A1 bs.length bs) (hc1 : bs.length ≤ c1) (hy1 : bs.length ≤ 140737488351232) :
    Calls Try.prog 15 #[.slice A1 bs.length c1] w fun e w' => e = .returned (.bool true) ∧ Below w.heap.size w w' := by
  have hT : ((2 : Int) == 2) = true := rfl
  have HR1 := Aside0.mk hr1
  clear hr1
  go_enter Try.func15, Try.ntmps15
  go_wp2_with fail
  refine (begun_calls w).mono ?_
  rintro e w1 ⟨rfl, hb1⟩
  have HB1 := Aside0.mk hb1
  clear hb1
  go_wp2_with fail
  refine (newDec_ok (some ⟨w1.heap.size, 0, none⟩) 2 [1, 1] _ (lit w1 3 .i64 [1, 1] (by decide)) (by decide) (by decide)).mono ?_
  rintro e w2 ⟨gd, b, rfl, hD, hb2⟩
  have HD2 : Aside0 (DecS 0 w2 gd b [1, 1] 2) := ⟨⟨hD.1, Nat.zero_le _, Nat.zero_le _, hD.2.2.2⟩⟩
  have HB2 : Aside0 (Below w.heap.size w w2) := ⟨below_step (below_alloc HB1.out _) hb2⟩
  clear hD hb2
  go_wp2
  have H0 := Aside0.mk (fun T U => And.intro (ND.mk HB2.out T U (.map none) (.int .i64 0)) (HD2.out.below (below_alloc (below_alloc (Below.refl _ _) (.cells #[.map none, .int .i64 0, .bool false] T)) (.cells #[.pointer none, .pointer (some ⟨w2.heap.size, 0, none⟩)] U))))
  go_loopw [26] (fun i wr => ∃ k : Nat, k ≤ 2 ∧ i = .int .i64 k ∧ Aside0 (ND w wr (w2.heap.size + 1) ∧ DecS 0 wr gd b [1, 1] 2)) (fun i _ => 2 - (intOf i).toNat)
  case atStart => exact ⟨0, Nat.zero_le _, rfl, ⟨H0.out _ _⟩⟩
  case round =>
    clear H0
    obtain ⟨k, hk, rfl, H⟩ := hrel
    by_cases hlt : k < 2
    · obtain ⟨p, hc, hp⟩ := H.out.1.1 k hlt
      have HP := Aside0.mk hp
      clear hp
      go_wp2_with fail
      refine (newRd_calls A1 c1 bs wr (Kd.C_below HR1.out H.out.1.2) hc1 hy1).mono ?_
      rintro e w3 ⟨gr, vr, rfl, _, hb3⟩
      have HB3 := Aside0.mk hb3
      clear hb3
      go_wp2_with fail
      refine (dec_read0 p _ w3 (HP.out.below HB3.out)).mono ?_
      rintro e w4 ⟨rfl, ⟨n4, rfl⟩⟩
      go_wp2
      refine ⟨?rel, ?measure⟩
      case rel => exact ⟨k + 1, by omega, by go_num, ⟨(H.out.1.below HB3.out).drewN _, (H.out.2.below HB3.out).drewN _⟩⟩
      case measure => simp [intOf]; omega
    · obtain rfl : k = 2 := by omega
      obtain ⟨wp, hwp⟩ : ∃ x, x = wr := ⟨_, rfl⟩
      subst hwp
      rw [show ((2 : Nat) : Int) = 2 from rfl]
      have HB := Aside0.mk H.out.1.2
      have HDp := Aside0.mk H.out.2
      clear H
      go_wp2
      have H0 := Aside0.mk (fun T U => And.intro (NS.mk HB.out T U (.slice none 0 0) (.int .i64 0)) (HDp.out.below (below_alloc (below_alloc (Below.refl _ _) (.cells #[.bool false, .slice none 0 0, .int .i64 0] T)) (.cells #[.pointer none, .pointer (some ⟨wp.heap.size, 0, none⟩)] U))))
      go_loopw [48] (fun i wr => ∃ k : Nat, k ≤ 2 ∧ i = .int .i64 k ∧ Aside0 (NS w wr (wp.heap.size + 1) ∧ DecS 0 wr gd b [1, 1] 2)) (fun i _ => 2 - (intOf i).toNat)
      case atStart => exact ⟨0, Nat.zero_le _, rfl, ⟨H0.out _ _⟩⟩
      case round =>
        clear H0
        obtain ⟨k, hk, rfl, H⟩ := hrel
        by_cases hlt : k < 2
        · obtain ⟨p, hc, hp⟩ := H.out.1.1 k hlt
          have HP := Aside0.mk hp
          clear hp
          go_wp2_with fail
          refine (dec_read1 _ gd b [1, 1] p wr H.out.2 HP.out).mono ?_
          rintro e w4 ⟨rfl, ⟨n4, rfl⟩⟩
          go_wp2
          refine ⟨?rel, ?measure⟩
          case rel => exact ⟨k + 1, by omega, by go_num, ⟨H.out.1.drewN _, H.out.2.drewN _⟩⟩
          case measure => simp [intOf]; omega
        · obtain rfl : k = 2 := by omega
          obtain ⟨wq, hwq⟩ : ∃ x, x = wr := ⟨_, rfl⟩
          subst hwq
          rw [show ((2 : Nat) : Int) = 2 from rfl]
          have HBq := Aside0.mk H.out.1.2
          clear H
          go_wp2
          have H0 := Aside0.mk (fun T U => NS.mk HBq.out T U (.slice none 0 0) (.int .i64 0))
          go_loopw [69] (fun i wr => ∃ k : Nat, k ≤ 2 ∧ i = .int .i64 k ∧ Aside0 (NS w wr (wq.heap.size + 1))) (fun i _ => 2 - (intOf i).toNat)
          case atStart => exact ⟨0, Nat.zero_le _, rfl, ⟨H0.out _ _⟩⟩
          case round =>
            clear H0
            obtain ⟨k, hk, rfl, H⟩ := hrel
            by_cases hlt : k < 2
            · obtain ⟨p, hc, hp⟩ := H.out.1 k hlt
              have HP := Aside0.mk hp
              have HBA := Aside0.mk (fun T U o1 o2 => below_alloc (below_alloc (Below.refl wr.heap.size wr) (.cells o1 T)) (.cells o2 U))
              clear hp
              go_wp2_with fail
              have hH := (H.out.below (HBA.out 3 31 #[.int .i64 1, .int .i64 1] #[.int .u32 0, .int .u32 1]))
              refine (put_none0 p _ _ _ _ (by
                rcases HP.out with h | ⟨g, h3, h4⟩
                · exact .inl h
                · exact .inr ⟨g, h3, pw_cell_below (HBA.out _ _ _ _) h4⟩)).mono ?_
              rintro e w4 ⟨rfl, ⟨n4, rfl⟩⟩
              have HH := Aside0.mk hH
              clear hH
              go_wp2
              refine ⟨?rel, ?measure⟩
              case rel => exact ⟨k + 1, by omega, by go_num, ⟨HH.out.drewN _⟩⟩
              case measure => simp [intOf]; omega
            · obtain rfl : k = 2 := by omega
              go_wp2
              go_ret
              exact ⟨rfl, H.out.2⟩
theorem huffNone_walk (w : World) (A1 : Option Addr) (c1 : Nat) (bs : List Int) (hr1 : Kd.C (Kd.int .u8) w A1 bs.length bs) (hc1 : bs.length ≤ c1) (hy1 : bs.length * 1 ≤ 140737488351232) (hw1 : ∀ x ∈ bs, (Lit.int .u8 x).wf = true) :
    Calls Try.prog 15 #[.slice A1 bs.length c1] w fun e w' => e = .returned (.bool true) ∧ Below w.heap.size w w' := hnone_walk w A1 c1 bs hr1 hc1 (by omega)
end Go.Proofs.Ytlepnpjlmcjedaa.Hw
