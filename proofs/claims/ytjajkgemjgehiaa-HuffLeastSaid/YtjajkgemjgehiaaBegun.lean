import Derived.Test.YtjajkgemjgehiaaHuffRefA
import Derived.Test.YtjajkgemjgehiaaCodes
namespace Go.Proofs.Ytjajkgemjgehiaa.Hw
open Go.RowKit Go.Proofs.YtjajkgemjgehiaaW.PrintWords Go.Proofs.YtjajkgemjgehiaaW.PrintLast Go.Proofs.YtjajkgemjgehiaaW.PrintMore Go.Proofs.Ytjajkgemjgehiaa.PH
set_option linter.unusedVariables false
set_option linter.unusedSimpArgs false
theorem check11 : HP.check [1, 1] = 0 := by decide
theorem codes11 : HP.codes [1, 1] = [0, 1] := by decide
theorem same01 : gridironlaw02_sameCodes.f 3 [0, 1] [0, 1] = some true := by rw [same_is _ _ (by decide) _ (by decide)]; rfl
theorem check111 : HP.check [1, 1, 1] = 20 := by decide
set_option maxRecDepth 100000 in
set_option maxHeartbeats 1000000 in
theorem begun_calls (w : World) : Calls Try.prog 6 #[] w fun e w' => e = .returned (.bool true) ∧ Below w.heap.size w w' := by
  go_enter Try.func6, Try.ntmps6
  go_wp2_with fail
  refine (codes_ok _ 2 [1, 1] _ ((Arr.new w 3 .i64 [1, 1]).reads (by decide)) (by decide) check11).mono ?_
  rintro e w1 ⟨v, rfl, hv, hb⟩
  rw [codes11] at hv
  obtain ⟨A, c, rfl, hc, hC⟩ := Kd.R_reads hv
  have HC := Aside0.mk hC
  have HB : Aside0 (Below w.heap.size w w1) := ⟨below_step (below_alloc (Below.refl _ _) _) hb⟩
  clear hC hb hv
  go_wp2_with fail
  have h1 := lit w1 44 .u32 [0, 1] (by decide)
  simp only [nums, List.map_cons, List.map_nil, List.length_cons, List.length_nil, Nat.zero_add, Nat.reduceAdd] at h1
  have h2 := gridironlaw02_sameCodes.calls 3 A c [0, 1] _ 2 [0, 1] true _ (Kd.C_alloc HC.out _) hc h1 (by decide) same01
  refine h2.mono ?_
  rintro e w2 ⟨rfl, ⟨nd, rfl⟩⟩
  clear h1 h2
  go_wp2_with fail
  have h3 := lit ((w1.alloc (.cells #[.int .u32 0, .int .u32 1] 44)).drewN nd) 3 .i64 [1, 1, 1] (by decide)
  simp [nums] at h3
  have h4 := huff_Check.calls 7 _ 3 [1, 1, 1] (HP.check [1, 1, 1]) _ h3 (by decide) (huff_check_is _ _ (by decide))
  rw [check111] at h4
  refine h4.mono ?_
  rintro e w3 ⟨rfl, ⟨nd3, rfl⟩⟩
  clear h3 h4
  go_wp2
  go_ret
  exact ⟨rfl, pw_below_drewN (below_alloc (pw_below_drewN (below_alloc HB.out _) _) _) _⟩
end Go.Proofs.Ytjajkgemjgehiaa.Hw
