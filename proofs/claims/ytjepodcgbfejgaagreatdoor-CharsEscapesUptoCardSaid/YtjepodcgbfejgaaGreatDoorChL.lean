import Derived.Test.YtjepodcgbfejgaaGreatDoorChU
import Derived.KernelRfl
/- The characters' live: an answer that the document fixes. And: how many characters there are. -/
namespace Go.Proofs.YtjepodcgbfejgaaGreatDoor.Hw
open Go.RowKit Go.Proofs.YtjepodcgbfejgaaGreatDoorW.PrintWords Go.Proofs.YtjepodcgbfejgaaGreatDoorW.PrintLast Go.Proofs.YtjepodcgbfejgaaGreatDoorW.PrintMore Go.Proofs.YtjepodcgbfejgaaGreatDoor.PH Go.Proofs.YtjepodcgbfejgaaGreatDoor.CP
set_option linter.unusedVariables false
set_option linter.unusedSimpArgs false
theorem unescape_calls (s : ByteArray) (w : World) (hC : ChW w) (hs : s.size ≤ 4000000000) :
    Calls Tryz.prog 6 #[.string s] w fun e w' => e = .returned (unV s) ∧ Below w.heap.size w w' := by
  cases hv : vld s with
  | none => exact unescape_good s w hC hs hv
  | some p => exact unescape_bad s p w hC hs hv
set_option maxHeartbeats 1000000 in
theorem count_calls (s : ByteArray) (w : World) (hs : s.size < 9223372036854775807) :
    Calls Tryz.prog 20 #[.string s] w fun e w' => e = .returned (.int .i64 (Lib.runeCount s)) ∧ Below w.heap.size w w' := by
  have HC := Aside0.mk (Tryz.utf8_RuneCountInString s w hs)
  clear hs
  go_enter Tryz.func20, Tryz.ntmps20
  go_wp2_with fail
  refine HC.out.mono ?_
  rintro e w1 ⟨rfl, pos, rfl⟩
  go_wp2
  go_ret
  exact ⟨rfl, (Below.refl _ w).alloc (Nat.le_refl _) _⟩
theorem live_un : unV ⟨#[38, 35, 120, 52, 49, 59, 38, 97, 109, 112, 59]⟩ = .tuple #[.string ⟨#[65, 38]⟩, .int .i64 0, .int .i64 0] := by kernel_rfl
theorem live_count : Lib.runeCount ⟨#[97, 98]⟩ = 2 := by kernel_rfl
theorem live_name : nameB ⟨#[97, 45, 49]⟩ = true := by kernel_rfl
set_option maxRecDepth 100000 in
set_option maxHeartbeats 1000000 in
theorem live_calls (w : World) (hC : ChW w) : Calls Tryz.prog 8 #[] w fun e w' => e = .returned (.bool true) ∧ Below w.heap.size w w' := by
  have HC := Aside0.mk hC
  have hu := unescape_calls ⟨#[38, 35, 120, 52, 49, 59, 38, 97, 109, 112, 59]⟩ w hC (by decide)
  rw [live_un] at hu
  have HU := Aside0.mk hu
  have hcn : ∀ w : World, Calls Tryz.prog 20 #[.string ⟨#[97, 98]⟩] w fun e w' => e = .returned (.int .i64 2) ∧ Below w.heap.size w w' := fun w => by
    have := count_calls ⟨#[97, 98]⟩ w (by decide)
    rw [live_count] at this
    exact this
  have HCN := Aside0.mk hcn
  have hnm : ∀ w : World, ChW w → Calls Tryz.prog 21 #[.string ⟨#[97, 45, 49]⟩] w fun e w' => e = .returned (.bool true) ∧ Below w.heap.size w w' := fun w hw => by
    have := name_calls ⟨#[97, 45, 49]⟩ w hw (by decide)
    rw [live_name] at this
    exact this
  have HNM := Aside0.mk hnm
  clear hC hu hcn hnm
  go_enter Tryz.func8, Tryz.ntmps8
  go_wp2_with (first
    | (go_at_call 6; refine HU.out.mono ?_; rintro e w1 ⟨rfl, hb1⟩; have HB1 := Aside0.mk hb1; clear hb1)
    | (go_at_call 20; refine (HCN.out _).mono ?_; rintro e w2 ⟨rfl, hb2⟩; have HB2 := Aside0.mk (HB1.out.trans (hb2.mono HB1.out.size)); clear hb2)
    | (go_at_call 21; refine (HNM.out _ (HC.out.go HB2.out)).mono ?_; rintro e w3 ⟨rfl, hb3⟩; have HB3 := Aside0.mk (HB2.out.trans (hb3.mono HB2.out.size)); clear hb3))
  go_ret
  exact ⟨rfl, HB3.out⟩
end Go.Proofs.YtjepodcgbfejgaaGreatDoor.Hw
