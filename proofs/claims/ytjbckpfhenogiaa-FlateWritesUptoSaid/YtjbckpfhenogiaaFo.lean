import Derived.Test.YtjbckpfhenogiaaOwnKit
import Derived.Test.YtjbckpfhenogiaaFm
import Derived.Test.YtjbckpfhenogiaaFe
import Derived.Test.YtjbckpfhenogiaaPHo
import Derived.Test.YtjbckpfhenogiaaWords
import Derived.Deep.QuietTactic
import Derived.BigQuiet
import Derived.Test.YtjbckpfhenogiaaFs
import Derived.Test.YtjbckpfhenogiaaFt
import Derived.Test.YtjbckpfhenogiaaFr
/- The law's own sample, walked. -/
namespace Go.Proofs.Ytjbckpfhenogiaa.Hw
open Go.RowKit Go.Proofs.YtjbckpfhenogiaaW.PrintWords Go.Proofs.YtjbckpfhenogiaaW.PrintLast Go.Proofs.YtjbckpfhenogiaaW.PrintMore Go.Proofs.Ytjbckpfhenogiaa.PH
set_option linter.unusedVariables false
set_option linter.unusedSimpArgs false
theorem row_lit (L : List Int) (w : World) (hL : L.length ≤ 100) : Kd.C (Kd.int .u8) (w.alloc (.cells (L.map (Value.int .u8)).toArray 5)) (some ⟨w.heap.size, 0, none⟩) L.length L := by
  have hb := heap_alloc_new w (.cells (L.map (Value.int .u8)).toArray 5)
  refine Kd.C_of_reads (d := 0) ⟨rfl, by omega, fun _ => ⟨_, rfl, fun j hj => ?_⟩⟩
  have := blk_cell hb j
  rw [Addr.add_lit, Nat.zero_add, this]
  simp [List.getD_eq_getElem?_getD, hj]
set_option maxRecDepth 100000 in
set_option maxHeartbeats 4000000 in
theorem live_calls (w : World) :
    Calls Try.prog 8 #[] w fun e w' => e = .returned (.bool true) ∧ Below w.heap.size w w' := by
  go_enter Try.func8, Try.ntmps8
  go_wp2_with fail
  have hal : Below w.heap.size w (w.alloc (.cells #[.int .u8 1, .int .u8 1, .int .u8 0, .int .u8 254, .int .u8 255, .int .u8 97, .int .u8 9] 5)) := (Below.refl _ _).alloc (Nat.le_refl _) _
  have hrow : Kd.C (Kd.int .u8) (w.alloc (.cells #[.int .u8 1, .int .u8 1, .int .u8 0, .int .u8 254, .int .u8 255, .int .u8 97, .int .u8 9] 5)) (some ⟨w.heap.size, 0, none⟩) 7 [1, 1, 0, 254, 255, 97, 9] :=
    row_lit [1, 1, 0, 254, 255, 97, 9] w (by decide)
  have HI := Aside0.mk (xinflate_first (some ⟨w.heap.size, 0, none⟩) 7 5 [1, 1, 0, 254, 255, 97, 9] _ 1 hrow (by decide) (by unfold IsBytes; decide) (by decide) (by decide) (by decide) (by decide) (by decide) (by decide) (by decide) (by decide) (by decide))
  have HB1 := Aside0.mk hal
  clear hal hrow
  refine HI.out.mono ?_
  rintro e w1 ⟨u, rfl, hu, hb1⟩
  have HB2 : Aside0 (Below w.heap.size w w1) := ⟨HB1.out.trans (hb1.mono HB1.out.size)⟩
  obtain ⟨A, c, rfl, hc, hC⟩ := Kd.R_reads hu
  have hC1 : Kd.C (Kd.int .u8) w1 A 1 [97] := hC
  have HC1 := Aside0.mk hC1
  obtain ⟨ad, rfl, hcell⟩ := hC1.2.2 (by decide)
  have hcv : (convert 22 9 (.slice (some ad) 1 c)).run Try.prog w1 = .ok (.string ⟨[(97 : UInt8)].toArray⟩) w1 :=
    run_convert_bytes_back (P := Try.prog) w1 22 9 5 ad c [97] Try.underlying22 Try.underlying5 Try.underlying9 (fun j hj => by
      have hj0 : j = 0 := by simp at hj; omega
      subst hj0
      obtain ⟨cc, hcs, hk, hcl⟩ := hcell 0 97 rfl
      have hk' : cc = [Value.int .u8 97] := hk
      subst hk'
      exact hcl 0 _ rfl)
  clear hu hb1 HI HB1 hC hC1 hcell
  have HC1 := trivial
  go_wp2_with fail
  refine (fixedB_calls none 0 [] w1 (Kd.C_nil _ _) (by decide) (by unfold IsBytes; decide) (by decide)).mono ?_
  rintro e w2 ⟨u2, rfl, hu2, hb2⟩
  rw [show fixedL [] = [3, 0] by decide] at hu2
  obtain ⟨A2, c2, rfl, hc2, hC2⟩ := Kd.R_reads hu2
  have HC2 : Aside0 (Kd.C (Kd.int .u8) w2 A2 2 [3, 0]) := ⟨hC2⟩
  have HN2 : Aside0 (2 ≤ c2) := ⟨hc2⟩
  have HB3 : Aside0 (Below w.heap.size w w2) := ⟨HB2.out.trans (hb2.mono HB2.out.size)⟩
  clear hu2 hb2 hc2 hC2 HB2 hcv
  go_wp2_with fail
  have hal2 : Below w2.heap.size w2 (w2.alloc (.cells #[.int .u8 3, .int .u8 0] 5)) := (Below.refl _ _).alloc (Nat.le_refl _) _
  have hrow2 : Kd.C (Kd.int .u8) (w2.alloc (.cells #[.int .u8 3, .int .u8 0] 5)) (some ⟨w2.heap.size, 0, none⟩) 2 [3, 0] := row_lit [3, 0] w2 (by decide)
  have HE := Aside0.mk (bytes_Equal.calls A2 c2 [3, 0] (some ⟨w2.heap.size, 0, none⟩) 2 [3, 0] true _ (Kd.C_below HC2.out hal2) HN2.out hrow2 (by decide) (by unfold bytes_Equal.f; simp))
  have HB4 : Aside0 (Below w.heap.size w (w2.alloc (.cells #[.int .u8 3, .int .u8 0] 5))) := ⟨HB3.out.trans (hal2.mono HB3.out.size)⟩
  clear hal2 hrow2 HC2 HN2
  refine HE.out.mono ?_
  generalize w2.alloc (.cells #[.int .u8 3, .int .u8 0] 5) = W at *
  rintro e w3 ⟨rfl, ⟨n3, rfl⟩⟩
  clear HE
  go_wp2
  go_ret
  exact ⟨rfl, pw_below_drewN HB4.out n3⟩
end Go.Proofs.Ytjbckpfhenogiaa.Hw
/- The law FlateWrites, walked. -/
namespace Go.Proofs.Ytjbckpfhenogiaa.Hw
open Go.RowKit Go.Proofs.YtjbckpfhenogiaaW.PrintWords Go.Proofs.YtjbckpfhenogiaaW.PrintLast Go.Proofs.YtjbckpfhenogiaaW.PrintMore Go.Proofs.Ytjbckpfhenogiaa.PH
set_option linter.unusedVariables false
set_option linter.unusedSimpArgs false
theorem equal_same (A0 : Option Addr) (c0 : Nat) (A1 : Option Addr) (c1 : Nat) (l : List Int) (w : World) (h0 : Kd.C (Kd.int .u8) w A0 l.length l) (hc0 : l.length ≤ c0) (h1 : Kd.C (Kd.int .u8) w A1 l.length l) (hc1 : l.length ≤ c1) :
    Calls Try.prog 9 #[.slice A0 l.length c0, .slice A1 l.length c1] w fun e w' => e = .returned (.bool true) ∧ Drawn0 w w' :=
  bytes_Equal.calls A0 c0 l A1 c1 l true w h0 hc0 h1 hc1 (by unfold bytes_Equal.f; simp)
set_option maxRecDepth 100000 in
set_option maxHeartbeats 4000000 in
theorem flateWrites_walk (A0 : Option Addr) (c0 : Nat) (bs : List Int) (w : World) (hr0 : Kd.C (Kd.int .u8) w A0 bs.length bs) (hc0 : bs.length ≤ c0) (hb : IsBytes bs) (hl : bs.length ≤ 1048576) :
    Calls Try.prog 3 #[.slice A0 bs.length c0] w fun e w' => e = .returned (.bool true) ∧ Below w.heap.size w w' := by
  have HR := Aside0.mk hr0
  have HN := Aside0.mk hc0
  have HIB := Aside0.mk hb
  have HL := Aside0.mk hl
  clear hr0 hc0 hb hl
  go_enter Try.func3, Try.ntmps3
  go_wp2_with fail
  refine (live_calls w).mono ?_
  rintro e w1 ⟨rfl, hb1⟩
  have HB1 := Aside0.mk hb1
  clear hb1
  go_wp2_with fail
  refine (stored_calls A0 c0 bs w1 (Kd.C_below HR.out HB1.out) HN.out HIB.out HL.out).mono ?_
  rintro e w2 ⟨u2, rfl, hu2, hb2⟩
  obtain ⟨A2, c2, rfl, hc2, hC2⟩ := Kd.R_reads hu2
  have HC2 := Aside0.mk hC2
  have HN2 := Aside0.mk hc2
  have HB2 : Aside0 (Below w.heap.size w w2) := ⟨HB1.out.trans (hb2.mono HB1.out.size)⟩
  clear hu2 hb2 hC2 hc2 HB1
  go_wp2_with fail
  refine (rstored_calls A0 c0 bs w2 (Kd.C_below HR.out HB2.out) HN.out HIB.out HL.out).mono ?_
  rintro e w3 ⟨u3, rfl, hu3, hb3⟩
  obtain ⟨A3, c3, rfl, hc3, hC3⟩ := Kd.R_reads hu3
  have HE3 := Aside0.mk (equal_same A2 c2 A3 c3 (storedL bs) w3 (Kd.C_below HC2.out hb3) HN2.out hC3 hc3)
  have HB3 : Aside0 (Below w.heap.size w w3) := ⟨HB2.out.trans (hb3.mono HB2.out.size)⟩
  clear hu3 hb3 hC3 hc3 HB2 HC2 HN2
  go_wp2_with fail
  refine HE3.out.mono ?_
  rintro e w4 ⟨rfl, hq4⟩
  have HB4 : Aside0 (Below w.heap.size w w4) := ⟨HB3.out.trans (hq4.below.mono HB3.out.size)⟩
  clear hq4 HB3 HE3
  go_wp2_with fail
  refine (fixedB_calls A0 c0 bs w4 (Kd.C_below HR.out HB4.out) HN.out HIB.out HL.out).mono ?_
  rintro e w5 ⟨u5, rfl, hu5, hb5⟩
  obtain ⟨A5, c5, rfl, hc5, hC5⟩ := Kd.R_reads hu5
  have HC5 := Aside0.mk hC5
  have HN5 := Aside0.mk hc5
  have HB5 : Aside0 (Below w.heap.size w w5) := ⟨HB4.out.trans (hb5.mono HB4.out.size)⟩
  clear hu5 hb5 hC5 hc5 HB4
  go_wp2_with fail
  refine (rfixed_calls A0 c0 bs w5 (Kd.C_below HR.out HB5.out) HN.out HIB.out HL.out).mono ?_
  rintro e w6 ⟨u6, rfl, hu6, hb6⟩
  obtain ⟨A6, c6, rfl, hc6, hC6⟩ := Kd.R_reads hu6
  have HE6 := Aside0.mk (equal_same A5 c5 A6 c6 (fixedL bs) w6 (Kd.C_below HC5.out hb6) HN5.out hC6 hc6)
  have HB6 : Aside0 (Below w.heap.size w w6) := ⟨HB5.out.trans (hb6.mono HB5.out.size)⟩
  clear hu6 hb6 hC6 hc6 HB5 HC5 HN5
  go_wp2_with fail
  refine HE6.out.mono ?_
  rintro e w7 ⟨rfl, hq7⟩
  have HB7 : Aside0 (Below w.heap.size w w7) := ⟨HB6.out.trans (hq7.below.mono HB6.out.size)⟩
  clear hq7 HB6 HE6
  go_wp2
  go_ret
  exact ⟨rfl, HB7.out⟩
end Go.Proofs.Ytjbckpfhenogiaa.Hw
