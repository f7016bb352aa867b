import Derived.Test.YtlepnpjlmcjedaaNone
import Derived.BigRegion
/- BitioNone, walked. -/
namespace Go.Proofs.Ytlepnpjlmcjedaa.Hw
open Go.RowKit Go.Proofs.YtlepnpjlmcjedaaW.PrintWords Go.Proofs.YtlepnpjlmcjedaaW.PrintLast Go.Proofs.YtlepnpjlmcjedaaW.PrintMore Go.Proofs.Ytlepnpjlmcjedaa.PH
set_option linter.unusedVariables false
set_option linter.unusedSimpArgs false
/-- Two pointers at what no call made, in block g + 1. -/
def NS (w wr : World) (g : Nat) : Prop := (∀ k, k < 2 → ∃ p, wr.cell? ⟨g, k, none⟩ = some (.pointer p) ∧ Unmade wr p) ∧ Below w.heap.size w wr
theorem NS.drewN {w wr : World} {g : Nat} (h : NS w wr g) (n : Nat) : NS w (wr.drewN n) g := ⟨h.1, pw_below_drewN h.2 n⟩
theorem NS.mk {w0 w : World} (h : Below w0.heap.size w0 w) (T U : Nat) (b c : Value) :
    NS w0 ((w.alloc (.cells #[.bool false, b, c] T)).alloc (.cells #[.pointer none, .pointer (some ⟨w.heap.size, 0, none⟩)] U)) (w.heap.size + 1) := by
  have h1 : (w.alloc (.cells #[.bool false, b, c] T)).heap[w.heap.size]? = some (.cells #[.bool false, b, c] T) := heap_alloc_new w _
  have h2 : ((w.alloc (.cells #[.bool false, b, c] T)).alloc (.cells #[.pointer none, .pointer (some ⟨w.heap.size, 0, none⟩)] U)).heap[w.heap.size + 1]? = some (.cells #[.pointer none, .pointer (some ⟨w.heap.size, 0, none⟩)] U) := by
    have := heap_alloc_new (w.alloc (.cells #[.bool false, b, c] T)) (.cells #[.pointer none, .pointer (some ⟨w.heap.size, 0, none⟩)] U)
    simpa using this
  have h3 : ((w.alloc (.cells #[.bool false, b, c] T)).alloc (.cells #[.pointer none, .pointer (some ⟨w.heap.size, 0, none⟩)] U)).heap[w.heap.size]? = some (.cells #[.bool false, b, c] T) := by
    have hb := below_alloc (Below.refl (w.alloc (.cells #[.bool false, b, c] T)).heap.size (w.alloc (.cells #[.bool false, b, c] T))) (.cells #[.pointer none, .pointer (some ⟨w.heap.size, 0, none⟩)] U)
    exact (hb.block w.heap.size (blk_lt h1)).trans h1
  refine ⟨fun k hk => ?_, below_alloc (below_alloc h _) _⟩
  obtain rfl | rfl : k = 0 ∨ k = 1 := by omega
  · exact ⟨none, (blk_cell h2 0).trans rfl, .inl rfl⟩
  · exact ⟨_, (blk_cell h2 1).trans rfl, .inr ⟨_, rfl, (blk_cell h3 0).trans rfl⟩⟩
set_option maxRecDepth 100000 in
set_option maxHeartbeats 2000000 in
theorem none_walk (w : World) (n x : Int) (b : Value) :
    Calls Try.prog 14 #[.int .i64 n, .int .u32 x, b] w fun e w' => e = .returned (.bool true) ∧ Below w.heap.size w w' := by
  have hT : ((2 : Int) == 2) = true := rfl
  go_enter Try.func14, Try.ntmps14
  go_wp2
  have H0 := Aside0.mk (fun T U => NS.mk (Below.refl w.heap.size w) T U (.slice none 0 0) (.int .i64 0))
  go_loopw [21] (fun i wr => ∃ k : Nat, k ≤ 2 ∧ i = .int .i64 k ∧ Aside0 (NS w wr (w.heap.size + 1))) (fun i _ => 2 - (intOf i).toNat)
  case atStart => exact ⟨0, Nat.zero_le _, rfl, ⟨H0.out _ _⟩⟩
  case round =>
    clear H0
    obtain ⟨k, hk, rfl, H⟩ := hrel
    by_cases hlt : k < 2
    · obtain ⟨p, hc, hp⟩ := H.out.1 k hlt
      have HP := Aside0.mk hp
      clear hp
      go_wp2_with fail
      refine (rd_bits0 p n _ HP.out).mono ?_
      rintro e w1 ⟨rfl, ⟨n1, rfl⟩⟩
      go_wp2_with fail
      refine (rd_peek0 p n (wr.drewN _) (HP.out.drewN _)).mono ?_
      rintro e w2 ⟨rfl, ⟨n2, rfl⟩⟩
      go_wp2_with fail
      refine (rd_bytes0 p n (wr.drewN _) (HP.out.drewN _)).mono ?_
      rintro e w3 ⟨rfl, ⟨n3, rfl⟩⟩
      go_wp2_with fail
      refine (rd_align0 p (wr.drewN _) (HP.out.drewN _)).mono ?_
      rintro e w4 ⟨rfl, ⟨n4, rfl⟩⟩
      go_wp2_with fail
      refine (rd_left0 p (wr.drewN _) (HP.out.drewN _)).mono ?_
      rintro e w5 ⟨rfl, ⟨n5, rfl⟩⟩
      go_wp2_with fail
      refine (rd_used0 p (wr.drewN _) (HP.out.drewN _)).mono ?_
      rintro e w6 ⟨rfl, ⟨n6, rfl⟩⟩
      go_wp2
      refine ⟨?rel, ?measure⟩
      case rel => exact ⟨k + 1, by omega, by go_num, ⟨H.out.drewN _⟩⟩
      case measure => simp [intOf]; omega
    · obtain rfl : k = 2 := by omega
      obtain ⟨wp, hwp⟩ : ∃ x, x = wr := ⟨_, rfl⟩
      subst hwp
      rw [show ((2 : Nat) : Int) = 2 from rfl]
      have HB := Aside0.mk H.out.2
      clear H
      go_wp2
      have H0 := Aside0.mk (fun T U => NS.mk HB.out T U (.slice none 0 0) (.int .i64 0))
      go_loopw [83] (fun i wr => ∃ k : Nat, k ≤ 2 ∧ i = .int .i64 k ∧ Aside0 (NS w wr (wp.heap.size + 1))) (fun i _ => 2 - (intOf i).toNat)
      case atStart => exact ⟨0, Nat.zero_le _, rfl, ⟨H0.out _ _⟩⟩
      case round =>
        clear H0
        obtain ⟨k, hk, rfl, H⟩ := hrel
        by_cases hlt : k < 2
        · obtain ⟨p, hc, hp⟩ := H.out.1 k hlt
          have HP := Aside0.mk hp
          clear hp
          go_wp2_with fail
          refine (wr_align0 p _ HP.out).mono ?_
          rintro e w1 ⟨rfl, ⟨n1, rfl⟩⟩
          go_wp2_with fail
          refine (wr_bits0 p x n (wr.drewN _) (HP.out.drewN _)).mono ?_
          rintro e w2 ⟨rfl, ⟨n2, rfl⟩⟩
          go_wp2_with fail
          refine (wr_bytes0 p b (wr.drewN _) (HP.out.drewN _)).mono ?_
          rintro e w3 ⟨rfl, ⟨n3, rfl⟩⟩
          go_wp2_with fail
          refine (wr_len0 p (wr.drewN _) (HP.out.drewN _)).mono ?_
          rintro e w4 ⟨rfl, ⟨n4, rfl⟩⟩
          go_wp2_with fail
          refine (wr_out0 p (wr.drewN _) (HP.out.drewN _)).mono ?_
          rintro e w5 ⟨rfl, ⟨n5, rfl⟩⟩
          go_wp2
          refine ⟨?rel, ?measure⟩
          case rel => exact ⟨k + 1, by omega, by go_num, ⟨H.out.drewN _⟩⟩
          case measure => simp [intOf]; omega
        · obtain rfl : k = 2 := by omega
          have HB2 := Aside0.mk H.out.2
          clear H
          go_wp2_with fail
          refine (live1_calls _).mono ?_
          rintro e w1 ⟨rfl, hb⟩
          have HB3 := Aside0.mk (below_step HB2.out hb)
          clear hb
          go_wp2
          go_ret
          exact ⟨rfl, HB3.out⟩
theorem bitioNone_walk (w : World) (n : Int) (wn : (Lit.int .i64 n).wf = true) (x : Int) (wx : (Lit.int .u32 x).wf = true) (A0 : Option Addr) (c0 : Nat) (l : List Int) (hr0 : Kd.C (Kd.int .u8) w A0 l.length l) (hc0 : l.length ≤ c0) (hy0 : l.length * 1 ≤ 140737488351232) (hw0 : ∀ x ∈ l, (Lit.int .u8 x).wf = true) :
    Calls Try.prog 14 #[.int .i64 n, .int .u32 x, .slice A0 l.length c0] w fun e w' => e = .returned (.bool true) ∧ Below w.heap.size w w' := none_walk w n x _
end Go.Proofs.Ytlepnpjlmcjedaa.Hw
