import Derived.Test.YtlepnpjlmcjedaaWriter2
import Derived.Test.YtlepnpjlmcjedaaRd
import Derived.Test.YtlepnpjlmcjedaaTurns
/- Readers and writers that no call made. -/
namespace Go.Proofs.Ytlepnpjlmcjedaa.Hw
open Go.RowKit Go.Proofs.YtlepnpjlmcjedaaW.PrintWords Go.Proofs.YtlepnpjlmcjedaaW.PrintLast Go.Proofs.YtlepnpjlmcjedaaW.PrintMore Go.Proofs.Ytlepnpjlmcjedaa.PH
set_option linter.unusedVariables false
set_option linter.unusedSimpArgs false
/-- A pointer at nothing, or at something whose first field says no. -/
def Unmade (w : World) (p : Option Addr) : Prop := p = none ∨ ∃ g, p = some ⟨g, 0, none⟩ ∧ w.cell? ⟨g, 0, none⟩ = some (.bool false)
theorem Unmade.drewN {w : World} {p : Option Addr} (h : Unmade w p) (n : Nat) : Unmade (w.drewN n) p := h
theorem Unmade.quiet {w w' : World} {p : Option Addr} (h : Unmade w p) (hq : Drawn0 w w') : Unmade w' p := by obtain ⟨n, rfl⟩ := hq; exact h
set_option maxHeartbeats 1000000 in
theorem rd_none0 (p : Option Addr) (w : World) (h : Unmade w p) :
    Calls Try.prog 67 #[.pointer p] w fun e w' => e = .returned (.bool true) ∧ Drawn0 w w' := by
  rcases h with rfl | ⟨g, rfl, hc⟩
  all_goals
    go_enter Try.func67, Try.ntmps67
    go_wp2
    go_ret
    exact ⟨rfl, Drawn0.refl _⟩
set_option maxHeartbeats 1000000 in
theorem wr_none0 (p : Option Addr) (w : World) (h : Unmade w p) :
    Calls Try.prog 69 #[.pointer p] w fun e w' => e = .returned (.bool true) ∧ Drawn0 w w' := by
  rcases h with rfl | ⟨g, rfl, hc⟩
  all_goals
    go_enter Try.func69, Try.ntmps69
    go_wp2
    go_ret
    exact ⟨rfl, Drawn0.refl _⟩
set_option maxHeartbeats 1000000 in
theorem rd_peek0 (p : Option Addr) (n : Int) (w : World) (h : Unmade w p) :
    Calls Try.prog 32 #[.pointer p, .int .i64 n] w fun e w' => e = .returned (.tuple #[.int .u32 0, .int .i64 2]) ∧ Drawn0 w w' := by
  have H := Aside0.mk h
  clear h
  go_enter Try.func32, Try.ntmps32
  go_wp2_with fail
  refine (rd_none0 p w H.out).mono ?_
  rintro e w1 ⟨rfl, ⟨n1, rfl⟩⟩
  go_wp2
  first | go_ret2 | go_ret
  exact ⟨rfl, ⟨_, rfl⟩⟩
set_option maxHeartbeats 1000000 in
theorem rd_bits0 (p : Option Addr) (n : Int) (w : World) (h : Unmade w p) :
    Calls Try.prog 30 #[.pointer p, .int .i64 n] w fun e w' => e = .returned (.tuple #[.int .u32 0, .int .i64 2]) ∧ Drawn0 w w' := by
  have H := Aside0.mk h
  clear h
  go_enter Try.func30, Try.ntmps30
  go_wp2_with fail
  refine (rd_peek0 p n w H.out).mono ?_
  rintro e w1 ⟨rfl, ⟨n1, rfl⟩⟩
  go_wp2
  first | go_ret2 | go_ret
  exact ⟨rfl, ⟨_, rfl⟩⟩
set_option maxHeartbeats 1000000 in
theorem rd_bytes0 (p : Option Addr) (n : Int) (w : World) (h : Unmade w p) :
    Calls Try.prog 36 #[.pointer p, .int .i64 n] w fun e w' => e = .returned (.tuple #[.slice none 0 0, .int .i64 2]) ∧ Drawn0 w w' := by
  have H := Aside0.mk h
  clear h
  go_enter Try.func36, Try.ntmps36
  go_wp2_with fail
  refine (rd_none0 p w H.out).mono ?_
  rintro e w1 ⟨rfl, ⟨n1, rfl⟩⟩
  go_wp2
  first | go_ret2 | go_ret
  exact ⟨rfl, ⟨_, rfl⟩⟩
set_option maxHeartbeats 1000000 in
theorem rd_align0 (p : Option Addr) (w : World) (h : Unmade w p) :
    Calls Try.prog 34 #[.pointer p] w fun e w' => e = .returned (.tuple #[]) ∧ Drawn0 w w' := by
  have H := Aside0.mk h
  clear h
  go_enter Try.func34, Try.ntmps34
  go_wp2_with fail
  refine (rd_none0 p w H.out).mono ?_
  rintro e w1 ⟨rfl, ⟨n1, rfl⟩⟩
  go_wp2
  refine bodyPost_end (results_none rfl _ _ _) rfl ?_
  exact ⟨rfl, ⟨_, rfl⟩⟩
set_option maxHeartbeats 1000000 in
theorem rd_left0 (p : Option Addr) (w : World) (h : Unmade w p) :
    Calls Try.prog 39 #[.pointer p] w fun e w' => e = .returned (.int .i64 0) ∧ Drawn0 w w' := by
  have H := Aside0.mk h
  clear h
  go_enter Try.func39, Try.ntmps39
  go_wp2_with fail
  refine (rd_none0 p w H.out).mono ?_
  rintro e w1 ⟨rfl, ⟨n1, rfl⟩⟩
  go_wp2
  first | go_ret2 | go_ret
  exact ⟨rfl, ⟨_, rfl⟩⟩
set_option maxHeartbeats 1000000 in
theorem rd_used0 (p : Option Addr) (w : World) (h : Unmade w p) :
    Calls Try.prog 41 #[.pointer p] w fun e w' => e = .returned (.int .i64 0) ∧ Drawn0 w w' := by
  have H := Aside0.mk h
  clear h
  go_enter Try.func41, Try.ntmps41
  go_wp2_with fail
  refine (rd_none0 p w H.out).mono ?_
  rintro e w1 ⟨rfl, ⟨n1, rfl⟩⟩
  go_wp2
  first | go_ret2 | go_ret
  exact ⟨rfl, ⟨_, rfl⟩⟩
set_option maxHeartbeats 1000000 in
theorem wr_bits0 (p : Option Addr) (x n : Int) (w : World) (h : Unmade w p) :
    Calls Try.prog 44 #[.pointer p, .int .u32 x, .int .i64 n] w fun e w' => e = .returned (.int .i64 2) ∧ Drawn0 w w' := by
  have H := Aside0.mk h
  clear h
  go_enter Try.func44, Try.ntmps44
  go_wp2_with fail
  refine (wr_none0 p w H.out).mono ?_
  rintro e w1 ⟨rfl, ⟨n1, rfl⟩⟩
  go_wp2
  first | go_ret2 | go_ret
  exact ⟨rfl, ⟨_, rfl⟩⟩
set_option maxHeartbeats 1000000 in
theorem wr_align0 (p : Option Addr) (w : World) (h : Unmade w p) :
    Calls Try.prog 48 #[.pointer p] w fun e w' => e = .returned (.tuple #[]) ∧ Drawn0 w w' := by
  have H := Aside0.mk h
  clear h
  go_enter Try.func48, Try.ntmps48
  go_wp2_with fail
  refine (wr_none0 p w H.out).mono ?_
  rintro e w1 ⟨rfl, ⟨n1, rfl⟩⟩
  go_wp2
  refine bodyPost_end (results_none rfl _ _ _) rfl ?_
  exact ⟨rfl, ⟨_, rfl⟩⟩
set_option maxHeartbeats 1000000 in
theorem wr_bytes0 (p : Option Addr) (b : Value) (w : World) (h : Unmade w p) :
    Calls Try.prog 46 #[.pointer p, b] w fun e w' => e = .returned (.int .i64 2) ∧ Drawn0 w w' := by
  have H := Aside0.mk h
  clear h
  go_enter Try.func46, Try.ntmps46
  go_wp2_with fail
  refine (wr_none0 p w H.out).mono ?_
  rintro e w1 ⟨rfl, ⟨n1, rfl⟩⟩
  go_wp2
  first | go_ret2 | go_ret
  exact ⟨rfl, ⟨_, rfl⟩⟩
set_option maxHeartbeats 1000000 in
theorem wr_len0 (p : Option Addr) (w : World) (h : Unmade w p) :
    Calls Try.prog 52 #[.pointer p] w fun e w' => e = .returned (.int .i64 0) ∧ Drawn0 w w' := by
  have H := Aside0.mk h
  clear h
  go_enter Try.func52, Try.ntmps52
  go_wp2_with fail
  refine (wr_none0 p w H.out).mono ?_
  rintro e w1 ⟨rfl, ⟨n1, rfl⟩⟩
  go_wp2
  first | go_ret2 | go_ret
  exact ⟨rfl, ⟨_, rfl⟩⟩
set_option maxHeartbeats 1000000 in
theorem wr_out0 (p : Option Addr) (w : World) (h : Unmade w p) :
    Calls Try.prog 45 #[.pointer p] w fun e w' => e = .returned (.slice none 0 0) ∧ Drawn0 w w' := by
  have H := Aside0.mk h
  clear h
  go_enter Try.func45, Try.ntmps45
  go_wp2_with fail
  refine (wr_none0 p w H.out).mono ?_
  rintro e w1 ⟨rfl, ⟨n1, rfl⟩⟩
  go_wp2
  first | go_ret2 | go_ret
  exact ⟨rfl, ⟨_, rfl⟩⟩
end Go.Proofs.Ytlepnpjlmcjedaa.Hw
