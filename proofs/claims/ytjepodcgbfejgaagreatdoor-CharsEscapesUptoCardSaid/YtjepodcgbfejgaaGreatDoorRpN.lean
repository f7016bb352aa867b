import Derived.Test.YtjepodcgbfejgaaGreatDoorRpO
import Derived.Test.YtjepodcgbfejgaaGreatDoorWMore
/- strings.NewReplacer, walked. -/
namespace Go.Proofs.YtjepodcgbfejgaaGreatDoor.Hw
open Go.RowKit Go.Proofs.YtjepodcgbfejgaaGreatDoorW.PrintWords Go.Proofs.YtjepodcgbfejgaaGreatDoorW.PrintLast Go.Proofs.YtjepodcgbfejgaaGreatDoorW.PrintMore Go.Proofs.YtjepodcgbfejgaaGreatDoor.PH Go.Proofs.YtjepodcgbfejgaaGreatDoor.CP
set_option linter.unusedVariables false
set_option linter.unusedSimpArgs false
theorem infoS9 : (Tryz.prog.info? 9).map (fun i => (i.zero, i.size, i.bytes)) = some (some (.string ByteArray.empty), 1, 16) := by kernel_rfl
set_option maxRecDepth 100000 in
set_option maxHeartbeats 2000000 in
theorem newrep_calls (A : Option Addr) (c : Nat) (ss : List ByteArray) (w : World) (hC : Kd.C Kd.string w A ss.length ss) (k : Nat) (hk : ss.length = 2 * k) (hk1 : 1 ≤ k) (hk2 : k ≤ 100) :
    Calls Tryz.prog 10 #[.slice A ss.length c] w fun e w' => ∃ g b0 c2 W1, e = .returned (.pointer (some ⟨g, 0, none⟩)) ∧ w.heap.size ≤ g ∧ RpB w' g 0 0 .nilIface (.slice (some ⟨b0, 0, none⟩) ss.length c2) ∧ W1.heap.size = g ∧ Kd.C Kd.string W1 (some ⟨b0, 0, none⟩) ss.length ss ∧ Below g W1 w' ∧ Below w.heap.size w w' := by
  have HC := Aside0.mk hC
  have hr0 : Kd.R Kd.string 9 w w.heap.size (fun _ => True) (.slice none 0 0) [] := Kd.R_nil _ _ _ _ _
  have hrem : Int.tmod ((ss.length : Nat) : Int) 2 = 0 := by rw [hk]; simp [Int.mul_tmod_right]
  have HR0 := Aside0.mk hr0
  have HL : Aside0 (ss.length ≤ 200) := ⟨by omega⟩
  generalize hn : ss.length = n at *
  have HN := Aside0.mk hn
  have HK := Aside0.mk hk
  clear hC hr0 hn hk
  go_enter Tryz.func10, Tryz.ntmps10
  go_wp2_with (refine Kd.R_append_row (Value.string) ByteArray.empty (w0 := w) w.heap.size rfl _ _ 31 9 (.string ByteArray.empty) 16 rfl Tryz.underlying31 infoS9 rfl (by decide) (.slice none 0 0) [] ss A n c (fun _ => True) rfl rfl (fun _ _ => trivial) HR0.out HC.out (Below.refl _ _) (Nat.le_refl _) (by have := HL.out; simp only [List.length_nil]; omega) ?_; intro v1 w1 hv1 hb1 hg1 hat1; obtain ⟨A1, c1, rfl, hc1, _⟩ := Kd.R_reads hv1; have HV1 := Aside0.mk hv1; have HB1 := Aside0.mk hb1; clear hv1 hb1 hg1 hat1)
  go_ret
  have hb2 : Below w.heap.size w (w1.alloc (.cells #[.int .u32 0, .int .i32 0, .int .u32 0, .nilIface, .slice A1 n c1] 72)) := HB1.out.alloc HB1.out.size _
  have hR := Kd.R_reads' HV1.out
  have hR1 : Kd.C Kd.string w1 A1 n ss := by have := hR.2.2; simp only [List.nil_append, HN.out] at this; exact this
  have hN := HN.out
  subst hN
  obtain ⟨b0, cap0, hEq, _⟩ := Kd.R_form HV1.out (by have := HK.out; simp; omega)
  injection hEq with hA _ _
  subst hA
  exact ⟨w1.heap.size, b0, c1, w1, rfl, HB1.out.size, (by unfold RpB; show (w1.heap.push _)[w1.heap.size]? = _; simp), rfl, hR1, (Below.refl _ _).alloc (Nat.le_refl _) _, hb2⟩
end Go.Proofs.YtjepodcgbfejgaaGreatDoor.Hw
