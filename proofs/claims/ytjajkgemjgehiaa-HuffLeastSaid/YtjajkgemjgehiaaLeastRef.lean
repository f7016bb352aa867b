import Derived.Test.YtjajkgemjgehiaaAllR
import Derived.Test.YtjajkgemjgehiaaHuffFns
import Derived.Test.YtjajkgemjgehiaaPm2
/- The document's answers for HuffLeast, walked: CheckCounts, put, merged, Least. -/
namespace Go.Proofs.Ytjajkgemjgehiaa.Hw
open Go.RowKit Go.Proofs.YtjajkgemjgehiaaW.PrintWords Go.Proofs.YtjajkgemjgehiaaW.PrintLast Go.Proofs.YtjajkgemjgehiaaW.PrintMore Go.Proofs.Ytjajkgemjgehiaa.PH
set_option linter.unusedVariables false
set_option linter.unusedSimpArgs false
/-- What is wrong with counts, and how many are above 0. -/
def cc (cs : List Int) (most : Int) : Int × Int := if 512 < cs.length then (0, 3) else if ¬ allR cs then (0, 1) else if most < 1 ∨ 15 < most then (0, 1) else if 2 ^ most.toNat < HP.many cs then (0, 20) else (((HP.many cs : Nat) : Int), 0)
theorem many_take (cs : List Int) (k : Nat) (hk : k < cs.length) : HP.many (cs.take (k + 1)) = HP.many (cs.take k) + (if cs.getD k 0 > 0 then 1 else 0) := by
  have happ : ∀ (l : List Int) (x : Int), HP.many (l ++ [x]) = HP.many l + (if x > 0 then 1 else 0) := by
    intro l x
    induction l with
    | nil => simp [HP.many]
    | cons y l ih => simp only [List.cons_append, HP.many, ih]; omega
  rw [List.take_succ_eq_append_getElem hk, List.getD_eq_getElem?_getD, List.getElem?_eq_getElem hk]
  exact happ _ _
theorem allR_take (cs : List Int) (k : Nat) (hk : k < cs.length) (h : allR (cs.take k)) (hx : inR (cs.getD k 0)) : allR (cs.take (k + 1)) := by
  rw [List.take_succ_eq_append_getElem hk]
  rw [List.getD_eq_getElem?_getD, List.getElem?_eq_getElem hk] at hx
  intro x hx'
  rcases List.mem_append.1 hx' with h1 | h1
  · exact h x h1
  · rw [List.mem_singleton.1 h1]; exact hx
theorem allR_not (cs : List Int) (k : Nat) (hk : k < cs.length) (hx : ¬ inR (cs.getD k 0)) : ¬ allR cs := fun h => hx (by
  rw [List.getD_eq_getElem?_getD, List.getElem?_eq_getElem hk]; exact h _ (List.getElem_mem hk))
set_option maxRecDepth 100000 in
set_option maxHeartbeats 4000000 in
theorem cc_calls (A : Option Addr) (c : Nat) (cs : List Int) (most : Int) (w : World) (hC : Kd.C (Kd.int .i64) w A cs.length cs) (hc : cs.length ≤ c) (hy : cs.length ≤ 140737488351232) :
    Calls Try.prog 5 #[.slice A cs.length c, .int .i64 most] w fun e w' => e = .returned (.tuple #[.int .i64 (cc cs most).1, .int .i64 (cc cs most).2]) ∧ Drawn0 w w' := by
  have HC := Aside0.mk hC
  clear hC
  by_cases hl : 512 < cs.length
  · have e : cc cs most = (0, 3) := by unfold cc; rw [if_pos hl]
    rw [e]
    clear e
    have hd : decide ((512 : Int) < (cs.length : Int)) = true := by simp; omega
    have hdn : decide (512 < cs.length) = true := by simp; omega
    go_enter Try.func5, Try.ntmps5
    go_wp2
    go_ret2
    exact ⟨rfl, Drawn0.refl _⟩
  · have hd : decide ((512 : Int) < (cs.length : Int)) = false := by simp; omega
    have hdn : decide (512 < cs.length) = false := by simp; omega
    go_enter Try.func5, Try.ntmps5
    go_wp2
    go_loopw [6, 7] (fun m i wr => ∃ k : Nat, k ≤ cs.length ∧ i = .int .i64 k ∧ m = .int .i64 (HP.many (cs.take k) : Nat) ∧ allR (cs.take k) ∧ Drawn0 w wr) (fun _ i _ => cs.length - (intOf i).toNat)
    case atStart => exact ⟨0, Nat.zero_le _, rfl, rfl, (by intro x hx; simp at hx), Drawn0.refl _⟩
    case round =>
      obtain ⟨k, hk, rfl, rfl, hr, hq⟩ := hrel
      have HRR := Aside0.mk hr
      have HQ := Aside0.mk hq
      clear hr hq
      by_cases hlt : k < cs.length
      · have hxd : cs.getD k 0 = cs.getD k 0 := rfl
        have HX := Aside0.mk (many_take cs k hlt)
        have HY := Aside0.mk (allR_take cs k hlt HRR.out)
        have HZ := Aside0.mk (allR_not cs k hlt)
        have HM : Aside0 (HP.many (cs.take k) ≤ 512) := ⟨by have := HP.many_le (cs.take k); have := List.length_take_le k cs; omega⟩
        obtain ⟨n0, rfl⟩ := HQ.out
        obtain ⟨ad, e1, hx⟩ := Kd.at_int (Kd.C_drewN HC.out n0) (k : Int) (by omega) (by omega)
        subst e1
        have hrd : rd cs (k : Int) = cs.getD k 0 := by unfold rd; rw [Int.toNat_natCast]
        rw [Int.toNat_natCast, hrd] at hx
        clear hrd
        generalize cs.getD k 0 = x at *
        have hq2 : ∀ n, Drawn0 w ((w.drewN n0).drewN n) := fun n => (⟨⟨n0, rfl⟩⟩ : Drawn0 w (w.drewN n0)).step n
        have HQ2 := Aside0.mk hq2
        clear hq2
        have hwr : ∃ W, W = w.drewN n0 := ⟨_, rfl⟩
        by_cases h0 : x < 0
        · have t0 : decide (x < 0) = true := by simpa using h0
          have hb := HZ.out (fun h => by unfold inR at h; omega)
          have e : cc cs most = (0, 1) := by unfold cc; rw [if_neg hl, if_pos hb]
          have HE := Aside0.mk e
          clear hb e h0 hwr
          go_wp2
          go_ret2
          exact ⟨by rw [HE.out]; rfl, ⟨_, rfl⟩⟩
        · have t0 : decide (x < 0) = false := by simpa using h0
          by_cases h1 : 2147483648 < x
          · have t1 : decide (2147483648 < x) = true := by simpa using h1
            have hb := HZ.out (fun h => by unfold inR at h; omega)
            have e : cc cs most = (0, 1) := by unfold cc; rw [if_neg hl, if_pos hb]
            have HE := Aside0.mk e
            clear hb e h0 h1 hwr
            go_wp2
            go_ret2
            exact ⟨by rw [HE.out]; rfl, ⟨_, rfl⟩⟩
          · have t1 : decide (2147483648 < x) = false := by simpa using h1
            have HY2 := Aside0.mk (HY.out (by unfold inR; omega))
            clear hwr
            by_cases h2 : 0 < x
            · have t2 : decide (0 < x) = true := by simpa using h2
              have HX2 : Aside0 (HP.many (cs.take (k + 1)) = HP.many (cs.take k) + 1) := ⟨by rw [HX.out, if_pos h2]⟩
              clear h0 h1 h2 HX
              have hmb := HM.out
              go_wp2
              refine ⟨?rel, ?measure⟩
              case rel => exact ⟨k + 1, by omega, by go_num, by rw [HX2.out]; go_num, HY2.out, HQ.out⟩
              case measure => simp [intOf]; omega
            · have t2 : decide (0 < x) = false := by simpa using h2
              have HX2 : Aside0 (HP.many (cs.take (k + 1)) = HP.many (cs.take k)) := ⟨by rw [HX.out, if_neg h2]; omega⟩
              clear h0 h1 h2 HX
              have hmb := HM.out
              go_wp2
              refine ⟨?rel, ?measure⟩
              case rel => exact ⟨k + 1, by omega, by go_num, by rw [HX2.out], HY2.out, HQ.out⟩
              case measure => simp [intOf]; omega
      · obtain rfl : k = cs.length := by omega
        have hr := HRR.out
        rw [List.take_length] at hr
        have HM : Aside0 (HP.many cs ≤ 512) := ⟨by have := HP.many_le cs; omega⟩
        obtain ⟨n0, rfl⟩ := HQ.out
        by_cases hm : most < 1 ∨ 15 < most
        · have e : cc cs most = (0, 1) := by unfold cc; rw [if_neg hl, if_neg (fun h => h hr), if_pos hm]
          have HE := Aside0.mk e
          have hd3 : decide (most < 1) = true ∨ (decide (most < 1) = false ∧ decide (15 < most) = true) := by simp; omega
          clear e hm hr
          rcases hd3 with h1 | ⟨h1, h2⟩
          · go_wp2
            go_ret2
            exact ⟨by rw [HE.out]; rfl, ⟨_, rfl⟩⟩
          · go_wp2
            go_ret2
            exact ⟨by rw [HE.out]; rfl, ⟨_, rfl⟩⟩
        · have h1 : decide (most < 1) = false := by simp; omega
          have h2 : decide (15 < most) = false := by simp; omega
          obtain ⟨m, rfl⟩ : ∃ m : Nat, most = (m : Int) := ⟨most.toNat, by omega⟩
          have hm15 : m ≤ 15 := by omega
          have hp : (2 : Nat) ^ m ≤ 2 ^ 15 := Nat.pow_le_pow_right (by omega) hm15
          have e15 : (2 : Nat) ^ 15 = 32768 := rfl
          obtain ⟨p, hpe⟩ : ∃ p : Nat, p = 2 ^ m := ⟨_, rfl⟩
          have hwr : wrap64 ((2 : Int) ^ m) = (p : Int) := by rw [show ∀ n : Nat, ((2 : Int) ^ n) = ((2 ^ n : Nat) : Int) from fun n => by simp, hpe]; exact w64n rfl (by omega)
          have HPE := Aside0.mk hpe
          have hp9 : p ≤ 32768 := by omega
          clear hpe
          by_cases hb : p < HP.many cs
          · have e : cc cs (m : Int) = (0, 20) := by unfold cc; rw [if_neg hl, if_neg (fun h => h hr), if_neg hm, Int.toNat_natCast, ← HPE.out, if_pos hb]
            have HE := Aside0.mk e
            have h3 : decide ((p : Int) < ((HP.many cs : Nat) : Int)) = true := by simp; omega
            have h3n : decide (p < HP.many cs) = true := by simp; omega
            clear e hm hr hb hp e15
            go_wp2
            go_ret2
            exact ⟨by rw [HE.out]; rfl, ⟨_, rfl⟩⟩
          · have e : cc cs (m : Int) = (((HP.many cs : Nat) : Int), 0) := by unfold cc; rw [if_neg hl, if_neg (fun h => h hr), if_neg hm, Int.toNat_natCast, ← HPE.out, if_neg hb]
            have HE := Aside0.mk e
            have h3 : decide ((p : Int) < ((HP.many cs : Nat) : Int)) = false := by simp; omega
            have h3n : decide (p < HP.many cs) = false := by simp; omega
            clear e hm hr hb hp e15
            go_wp2
            go_ret2
            exact ⟨by rw [HE.out, List.take_length]; rfl, ⟨_, rfl⟩⟩
end Go.Proofs.Ytjajkgemjgehiaa.Hw
