import Derived.Test.YtjajkgemjgehiaaPHo
import Derived.Outline
/- slices.Grow of nil, slices.Concat of lists of numbers, walked. -/
set_option linter.unusedVariables false
set_option linter.unusedSimpArgs false
namespace Go.Proofs.Ytjajkgemjgehiaa.Ct
open Go.RowKit Go.Proofs.YtjajkgemjgehiaaW.PrintWords Go.Proofs.YtjajkgemjgehiaaW.PrintLast Go.Proofs.YtjajkgemjgehiaaW.PrintMore Go.Proofs.Ytjajkgemjgehiaa.PH
theorem infoN8 : (Try.prog.info? 3).map (fun i => (i.zero, i.size, i.bytes)) = some (some (.int .i64 0), 1, 8) := by kernel_rfl
set_option maxRecDepth 100000 in
set_option maxHeartbeats 2000000 in
theorem grow_calls (n : Nat) (w : World) (hn : n ≤ 17592186044416) :
    Calls Try.prog 26 #[.slice none 0 0, .int .i64 (n : Int)] w fun e w' => ∃ A c, e = .returned (.slice A 0 c) ∧ Kd.R (Kd.int .i64) 3 w' w.heap.size (fun _ => True) (.slice A 0 c) [] ∧ Below w.heap.size w w' := by
  have h1 : ¬ ((n : Int) < 0) := by omega
  by_cases h0 : n = 0
  · subst h0
    go_enter Try.func26, Try.ntmps26
    go_wp2
    go_ret
    exact ⟨none, 0, rfl, Kd.R_nil _ _ _ _ _, Below.refl _ _⟩
  · have hp : 0 < n := by omega
    have hpz : (0 : Int) < (n : Int) := by omega
    have hel : (([] : List Int) ++ List.replicate ((n : Int)).toNat 0).length = n := by simp
    have HE := Aside0.mk hel
    clear hel
    go_enter Try.func26, Try.ntmps26
    go_wp2_with (at_builtin; refine Kd.R_append_zeros (Kd.int .i64) (w0 := w) w.heap.size rfl _ _ 22 3 3 (.int .i64 0) 8 rfl Try.underlying22 Try.underlying3 infoN8 rfl (by decide) (by decide) (.slice none 0 0) [] 0 (n : Int) (fun _ => True) rfl rfl rfl (fun _ _ => trivial) (Kd.R_nil _ _ _ _ _) (by omega) (Below.refl _ _) (Nat.le_refl _) (by simp; omega) ?_; intro v1 w1 hv hb2 hg2 hat2; obtain ⟨A2, c2, rfl, hc2, _⟩ := Kd.R_reads hv; rw [HE.out] at hv hc2 ⊢; obtain ⟨g2, cap2, hf2, _⟩ := Kd.R_form hv (by rw [HE.out]; exact hp); rw [HE.out] at hf2; injection hf2 with hA2 _ hC2; subst hA2; subst hC2; have HV := Aside0.mk hv; have HB := Aside0.mk hb2; clear hv hb2 hg2 hat2)
    go_ret
    have h3 := Kd.R_take (m := 0) HV.out (Nat.zero_le _)
    exact ⟨_, _, rfl, h3, HB.out⟩
/-- How many numbers the lists have in all. -/
def sumLen (L : List (List Int)) : Nat := L.flatten.length
/-- The lists one behind the other. -/
theorem flatten_take_succ (L : List (List Int)) (k : Nat) (h : k < L.length) : (L.take (k + 1)).flatten = (L.take k).flatten ++ L.getD k [] := by
  rw [List.take_succ_eq_append_getElem h, List.flatten_append]
  simp [List.getD_eq_getElem?_getD, h]
theorem flatten_take_le (L : List (List Int)) (k : Nat) : (L.take k).flatten.length ≤ L.flatten.length := by
  conv => rhs; rw [← List.take_append_drop k L, List.flatten_append, List.length_append]
  omega
set_option maxRecDepth 100000 in
set_option maxHeartbeats 4000000 in
theorem concat_calls (A : Option Addr) (c : Nat) (L : List (List Int)) (w : World) (hC : Kd.C (Kd.slice 3 (Kd.int .i64)) w A L.length L) (hc : L.length ≤ c) (hL : L.length ≤ 4294967296) (hn : L.flatten.length ≤ 17592186044416) :
    Calls Try.prog 22 #[.slice A L.length c] w fun e w' => ∃ v, e = .returned v ∧ Kd.R (Kd.int .i64) 3 w' w.heap.size (fun _ => True) v L.flatten ∧ Below w.heap.size w w' := by
  have HC := Aside0.mk hC
  clear hC
  go_enter Try.func22, Try.ntmps22
  go_wp2
  go_loopw [3, 11] (fun s i wr => ∃ k : Nat, k ≤ L.length ∧ i = .int .i64 k ∧ s = .int .i64 (sumLen (L.take k) : Nat) ∧ Aside0 (w = wr)) (fun _ i _ => L.length - (intOf i).toNat)
  case atStart => exact ⟨0, Nat.zero_le _, rfl, rfl, ⟨rfl⟩⟩
  case round =>
    obtain ⟨k, hk, rfl, rfl, hw⟩ := hrel
    have hw2 := hw.out
    subst hw2
    clear hw
    by_cases hlt : k < L.length
    · obtain ⟨ad, A0, c0, e1, hx, hl0, hc0⟩ := at_L1 HC.out (k : Int) (by omega) (by omega)
      subst e1
      have hrd : rd_L1 L (k : Int) = L.getD k [] := by unfold rd_L1; rw [Int.toNat_natCast]
      rw [Int.toNat_natCast, hrd] at hx
      rw [hrd] at hl0 hc0
      clear hrd
      have hsum : Aside0 (sumLen (L.take (k + 1)) = sumLen (L.take k) + (L.getD k []).length) := ⟨by unfold sumLen; rw [flatten_take_succ L k hlt, List.length_append]⟩
      have hle : sumLen (L.take (k + 1)) ≤ 17592186044416 := Nat.le_trans (flatten_take_le L (k + 1)) hn
      rw [hsum.out] at hle
      have HL0 := Aside0.mk hl0
      have HC0 := Aside0.mk hc0
      clear hl0 hc0
      obtain ⟨q, hq⟩ : ∃ q, q = L.getD k [] := ⟨_, rfl⟩
      rw [← hq] at hx hsum hle HL0 HC0
      obtain ⟨m, hm⟩ : ∃ m, m = sumLen (L.take k) := ⟨_, rfl⟩
      rw [← hm] at hle ⊢
      have HM := Aside0.mk hm
      have HQ := Aside0.mk hq
      clear hm hq
      have hnn : ¬ ((m : Int) + (q.length : Int) < 0) := by omega
      go_wp2
      refine ⟨?rel, ?measure⟩
      case rel => exact ⟨k + 1, by omega, by go_num, by rw [hsum.out, ← HM.out]; go_num, by first | exact ⟨rfl⟩ | exact ⟨trivial⟩⟩
      case measure => simp [intOf]; omega
    · obtain rfl : k = L.length := by omega
      rw [List.take_length]
      clear hlt hk
      have hg := Aside0.mk (grow_calls (sumLen L) w hn)
      have hn' := Aside0.mk hn
      clear hn
      go_wp2_with (go_at_call 26; refine hg.out.mono ?_; rintro e w1 ⟨A1, c1, rfl, hr1, hb1⟩; have HR1 := Aside0.mk hr1; have HB1 := Aside0.mk hb1; clear hr1 hb1)
      go_loopw [6, 27] (fun v i wr => ∃ k : Nat, k ≤ L.length ∧ i = .int .i64 k ∧ Aside0 (Kd.R (Kd.int .i64) 3 wr w.heap.size (fun _ => True) v (L.take k).flatten ∧ Below w.heap.size w wr)) (fun _ i _ => L.length - (intOf i).toNat)
      case atStart => exact ⟨0, Nat.zero_le _, rfl, ⟨HR1.out, HB1.out⟩⟩
      case round =>
        clear HR1 HB1
        obtain ⟨k, hk, rfl, HS⟩ := hrel
        by_cases hlt : k < L.length
        · obtain ⟨ad, A0, c0, e1, hx, hl0, hc0⟩ := at_L1 (Kd.C_below HC.out HS.out.2) (k : Int) (by omega) (by omega)
          subst e1
          have hrd : rd_L1 L (k : Int) = L.getD k [] := by unfold rd_L1; rw [Int.toNat_natCast]
          rw [Int.toNat_natCast, hrd] at hx
          rw [hrd] at hl0 hc0
          clear hrd
          have hsum := Aside0.mk (flatten_take_succ L k hlt)
          have hle : Aside0 (((L.take k).flatten.length + (L.getD k []).length) ≤ 17592186044416) := ⟨by have := flatten_take_le L (k + 1); rw [hsum.out, List.length_append] at this; exact Nat.le_trans this hn'.out⟩
          have HL0 := Aside0.mk hl0
          have HC0 := Aside0.mk hc0
          clear hl0 hc0
          obtain ⟨q, hq⟩ : ∃ q, q = L.getD k [] := ⟨_, rfl⟩
          rw [← hq] at hx hsum hle HL0 HC0
          obtain ⟨xs, hxs⟩ : ∃ xs, xs = (L.take k).flatten := ⟨_, rfl⟩
          rw [← hxs] at HS hsum hle
          clear hq hxs
          obtain ⟨Av, cv, hve, hcv, _⟩ := Kd.R_reads HS.out.1
          subst hve
          go_wp2_with (at_builtin; refine Kd.R_append_row (Value.int .i64) 0 (w0 := w) w.heap.size rfl _ _ 22 3 (.int .i64 0) 8 rfl Try.underlying22 infoN8 rfl (by decide) (.slice Av xs.length cv) xs q A0 q.length c0 (fun _ => True) rfl rfl (fun _ _ => trivial) HS.out.1 HC0.out HS.out.2 HS.out.2.size (by have := hle.out; omega) ?_; intro v2 w2 hv hb2 hg2 hat2; have HV := Aside0.mk (And.intro hv hb2); obtain ⟨A2, c2, hve2, hc2, _⟩ := Kd.R_reads hv; clear hv hb2 hg2 hat2 hc2; subst hve2)
          refine ⟨?rel, ?measure⟩
          case rel => exact ⟨k + 1, by omega, by go_num, ⟨by have h1 := HV.out.1; rw [List.length_append] at h1; rw [hsum.out]; exact h1, HV.out.2⟩⟩
          case measure => simp [intOf]; omega
        · obtain rfl : k = L.length := by omega
          rw [List.take_length] at HS
          clear hlt hk
          obtain ⟨xs, hxs⟩ : ∃ xs, xs = L.flatten := ⟨_, rfl⟩
          rw [← hxs] at HS
          have HXS := Aside0.mk hxs
          obtain ⟨Av, cv, hve, hcv, _⟩ := Kd.R_reads HS.out.1
          subst hve
          clear hcv hxs
          go_wp2
          go_ret
          exact ⟨_, rfl, by rw [← HXS.out]; exact HS.out.1, HS.out.2⟩
end Go.Proofs.Ytjajkgemjgehiaa.Ct
