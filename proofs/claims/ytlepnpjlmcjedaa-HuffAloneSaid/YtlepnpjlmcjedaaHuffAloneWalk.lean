import Derived.Test.YtlepnpjlmcjedaaBegun
/- The law HuffAlone, walked. -/
namespace Go.Proofs.Ytlepnpjlmcjedaa.Hw
open Go.RowKit Go.Proofs.YtlepnpjlmcjedaaW.PrintWords Go.Proofs.YtlepnpjlmcjedaaW.PrintLast Go.Proofs.YtlepnpjlmcjedaaW.PrintMore Go.Proofs.Ytlepnpjlmcjedaa.PH
set_option linter.unusedVariables false
set_option linter.unusedSimpArgs false
theorem room_take_succ (l : List Int) (i : Nat) (h : i < l.length) : HP.room (l.take (i + 1)) = HP.room (l.take i) + (if l.getD i 0 > 0 then 2 ^ (15 - (l.getD i 0).toNat) else 0) := by
  have ha : ∀ a b : List Int, HP.room (a ++ b) = HP.room a + HP.room b := by
    intro a b
    induction a with
    | nil => simp [HP.room]
    | cons x a ih => simp only [List.cons_append, HP.room, ih]; omega
  rw [List.take_succ_eq_append_getElem h, ha]
  simp [HP.room, List.getD_eq_getElem?_getD, h]
theorem room_take_le (l : List Int) (i : Nat) : HP.room (l.take i) ≤ HP.room l := by
  have ha : ∀ a b : List Int, HP.room (a ++ b) = HP.room a + HP.room b := by
    intro a b
    induction a with
    | nil => simp [HP.room]
    | cons x a ih => simp only [List.cons_append, HP.room, ih]; omega
  have := ha (l.take i) (l.drop i)
  rw [List.take_append_drop] at this
  omega
theorem pow_int (n : Nat) : ((2 : Int) ^ n) = ((2 ^ n : Nat) : Int) := by simp
theorem room_step (l : List Int) (k n : Nat) (h : k < l.length) (hn : l.getD k 0 = (n : Int)) (h0 : n ≠ 0) (hn15 : n ≤ 15) (hr : HP.room l ≤ 32768) :
    wrap64 ((HP.room (l.take k) : Int) + wrap64 ((2 : Int) ^ (15 - n))) = (HP.room (l.take (k + 1)) : Int) := by
  have h1 := room_take_succ l k h
  have h2 := room_take_le l (k + 1)
  have h3 : l.getD k 0 > 0 := by omega
  rw [if_pos h3, hn, Int.toNat_natCast] at h1
  rw [pow_int]
  generalize 2 ^ (15 - n) = p at *
  have e1 : wrap64 (p : Int) = (p : Int) := w64 (by omega) (by omega)
  rw [e1, h1]
  have e2 : wrap64 ((HP.room (l.take k) : Int) + (p : Int)) = (HP.room (l.take k) : Int) + (p : Int) := w64 (by omega) (by omega)
  rw [e2]; omega
set_option maxRecDepth 100000 in
set_option maxHeartbeats 1000000 in
theorem huffAlone_ok (w : World) (A0 : Option Addr) (c0 : Nat) (l : List Int) (hr0 : Kd.C (Kd.int .i64) w A0 l.length l) (hc0 : l.length ≤ c0) (h : HP.check l = 0) :
    Calls Try.prog 4 #[.slice A0 l.length c0] w fun e w' => e = .returned (.bool true) ∧ Below w.heap.size w w' := by
  have HR0 := Aside0.mk hr0
  have HO := Aside0.mk (codes_ok A0 c0 l w HR0.out hc0 h)
  have HK2 := Aside0.mk (ref_check_is l (2 * l.length + 3) (by omega))
  rw [h] at HK2
  obtain ⟨hl, hf, hroom, hend⟩ := HP.check_ok h
  have HF := Aside0.mk hf
  have HE := Aside0.mk hend
  clear hr0 h hf hend
  go_enter Try.func4, Try.ntmps4
  go_wp2_with fail
  refine HO.out.mono ?_
  rintro e w1 ⟨v, rfl, hv, hb⟩
  obtain ⟨A, c, hv', hc, hC⟩ := Kd.R_reads hv
  rw [codes_length] at hv' hc hC
  subst hv'
  have HC := Aside0.mk hC
  have HB := Aside0.mk hb
  clear hC hb hv HO
  go_wp2_with fail
  refine (begun_calls _).mono ?_
  rintro e w2 ⟨rfl, hb2⟩
  have HB2 := Aside0.mk (below_step HB.out hb2)
  have HC2 := Aside0.mk (Kd.C_below HC.out hb2)
  clear hb2 HB HC
  go_wp2_with fail
  have h3 := gridironref02_Check.calls _ A0 c0 l 0 _ (Kd.C_below HR0.out HB2.out) hc0 HK2.out
  refine h3.mono ?_
  rintro e w3 ⟨rfl, ⟨n3, rfl⟩⟩
  clear h3
  go_wp2
  have HR3 : Aside0 (Kd.C (Kd.int .i64) (w2.drewN n3) A0 l.length l) := ⟨Kd.C_drewN (Kd.C_below HR0.out HB2.out) _⟩
  have HC3 : Aside0 (Kd.C (Kd.int .u32) (w2.drewN n3) A l.length (HP.codes l)) := ⟨Kd.C_drewN HC2.out _⟩
  have HB3 : Aside0 (Below w.heap.size w (w2.drewN n3)) := ⟨pw_below_drewN HB2.out _⟩
  clear HB2 HC2 HR0
  generalize w2.drewN n3 = W at *
  go_loopw [5, 36] (fun s i wr => ∃ k : Nat, k ≤ l.length ∧ i = .int .i64 k ∧ s = .int .i64 (HP.room (l.take k) : Int) ∧ Drawn0 W wr) (fun _ i _ => l.length - (intOf i).toNat)
  case atStart => exact ⟨0, Nat.zero_le _, rfl, rfl, Drawn0.refl _⟩
  case round =>
    obtain ⟨k, hk, rfl, rfl, ⟨n1, rfl⟩⟩ := hrel
    by_cases hlt : k < l.length
    · have hfk := rd_fits hlt HF.out
      obtain ⟨ad, hadd, hx⟩ := Kd.at_int HR3.out (k : Int) (by omega) (by omega)
      obtain ⟨ad2, hadd2, hx2⟩ := Kd.at_int HC3.out (k : Int) (by omega) (by omega)
      subst hadd hadd2
      rw [Int.toNat_natCast] at hx hx2
      rw [codes_rd _ _ hlt] at hx2
      obtain ⟨n, hn⟩ : ∃ n : Nat, rd l (k : Int) = (n : Int) := ⟨(rd l (k : Int)).toNat, by omega⟩
      rw [hn] at hx hfk
      have HN : Aside0 (l.getD k 0 = (n : Int)) := ⟨by rw [rd_nat] at hn; exact hn⟩
      clear hn
      have hn15 : n ≤ 15 := by omega
      clear hfk
      by_cases h0 : n = 0
      · have hz : ((n : Int) == 0) = true := by simp; omega
        have hca : HP.codeAt l k = 0 := by unfold HP.codeAt; rw [if_neg (by rw [HN.out]; omega)]
        have hcz : ((HP.codeAt l k : Int) != 0) = false := by rw [hca]; rfl
        clear hca
        go_wp2
        go_roundw
        case rel =>
          refine ⟨k + 1, by omega, by go_num, ?_, ⟨⟨_, rfl⟩⟩⟩
          rw [room_take_succ l k hlt, if_neg (by rw [HN.out]; omega)]; rfl
        case measure => simp [intOf]; omega
      · have hz : ((n : Int) == 0) = false := by simp; omega
        have hw := room_step l k n hlt HN.out h0 hn15 hroom
        have HW := Aside0.mk hw
        clear hw
        go_wp2
        have HR4 : Aside0 (Kd.C (Kd.int .i64) (W.drewN n1) (some ad) l.length l) := ⟨Kd.C_drewN HR3.out n1⟩
        have HC4 : Aside0 (Kd.C (Kd.int .u32) (W.drewN n1) (some ad2) l.length (HP.codes l)) := ⟨Kd.C_drewN HC3.out n1⟩
        have HD : Aside0 (Drawn0 W (W.drewN n1)) := ⟨⟨_, rfl⟩⟩
        have hx4 : (W.drewN n1).cell? (ad.add k) = some (.int .i64 (n : Int)) := hx
        clear hx hx2
        generalize W.drewN n1 = W1 at *
        go_loopw [58] (fun i wr => ∃ j : Nat, j ≤ l.length ∧ i = .int .i64 j ∧ Drawn0 W1 wr) (fun i _ => l.length - (intOf i).toNat)
        case atStart => exact ⟨0, Nat.zero_le _, rfl, Drawn0.refl _⟩
        case round =>
          obtain ⟨j, hj, rfl, ⟨n2, rfl⟩⟩ := hrel
          by_cases hltj : j < l.length
          · have hfj := rd_fits hltj HF.out
            obtain ⟨ad', hadd, hxj⟩ := Kd.at_int HR4.out (j : Int) (by omega) (by omega)
            obtain ⟨ad2', hadd2, hxj2⟩ := Kd.at_int HC4.out (j : Int) (by omega) (by omega)
            cases hadd
            cases hadd2
            rw [Int.toNat_natCast] at hxj hxj2
            rw [codes_rd _ _ hltj] at hxj2
            obtain ⟨m, hm⟩ : ∃ m : Nat, rd l (j : Int) = (m : Int) := ⟨(rd l (j : Int)).toNat, by omega⟩
            rw [hm] at hxj hfj
            have HM : Aside0 (l.getD j 0 = (m : Int)) := ⟨by rw [rd_nat] at hm; exact hm⟩
            clear hm
            have hm15 : m ≤ 15 := by omega
            clear hfj
            by_cases hjk : j = k
            · subst hjk
              clear hx4
              go_wp2
              go_quiet (fail)
              go_wp2
              go_roundw
              case rel => exact ⟨j + 1, by omega, by go_num, ⟨_, rfl⟩⟩
              case measure => simp [intOf]; omega
            · have hb1 : ((j : Int) == (k : Int)) = false := by simp; omega
              have hb1n : (j == k) = false := by simp; omega
              by_cases hm0 : m = 0
              · have hb2 : ((m : Int) == 0) = true := by simp; omega
                go_wp2
                go_quiet (fail)
                go_wp2
                go_roundw
                case rel => exact ⟨j + 1, by omega, by go_num, ⟨_, rfl⟩⟩
                case measure => simp [intOf]; omega
              · have hb2 : ((m : Int) == 0) = false := by simp; omega
                by_cases hmn : m < n
                · have hb3 : decide ((m : Int) < (n : Int)) = true := by simp; omega
                  have hb3n : decide (m < n) = true := by simp; omega
                  go_wp2
                  go_quiet (fail)
                  go_wp2
                  go_roundw
                  case rel => exact ⟨j + 1, by omega, by go_num, ⟨_, rfl⟩⟩
                  case measure => simp [intOf]; omega
                · have hb3 : decide ((m : Int) < (n : Int)) = false := by simp; omega
                  have hb3n : decide (m < n) = false := by simp; omega
                  go_wp2
                  go_quiet (fail)
                  go_wp2
                  go_quiet (fail)
                  go_wp2
                  have hal := HP.alone l k j hlt hltj (fun h => hjk h) (by rw [HN.out]; omega) (by rw [HN.out, HM.out]; omega)
                  rw [HN.out, HM.out, Int.toNat_natCast, Int.toNat_natCast] at hal
                  have hdiv : ((HP.codeAt l j : Int) / 2 ^ (m - n)) = ((HP.codeAt l j / 2 ^ (m - n) : Nat) : Int) := by rw [pow_int]; rfl
                  rw [hdiv]
                  clear hdiv
                  generalize HP.codeAt l j / 2 ^ (m - n) = cut at *
                  have t1 : ((cut : Int) == (HP.codeAt l k : Int)) = false := by simp; omega
                  have t1n : (cut == HP.codeAt l k) = false := by simp; omega
                  by_cases hmn2 : m = n
                  · have hab := hal.2.1 (by omega)
                    have t2 : ((m : Int) == (n : Int)) = true := by simp; omega
                    have t2n : (m == n) = true := by simp; omega
                    have t4 : decide (n < m) = false := by simp; omega
                    have t3 : (decide (HP.codeAt l k < HP.codeAt l j) == decide (k < j)) = true := by
                      rw [beq_iff_eq, decide_eq_decide]; exact hab
                    clear hal hab t2 t2n
                    subst hmn2
                    go_quiet (fail)
                    go_wp2
                    go_roundw
                    case rel => exact ⟨j + 1, by omega, by go_num, ⟨_, rfl⟩⟩
                    case measure => simp [intOf]; omega
                  · have t2 : ((m : Int) == (n : Int)) = false := by simp; omega
                    have t2n : (m == n) = false := by simp; omega
                    have t4 : decide (n < m) = true := by simp; omega
                    have t5 : decide (cut < HP.codeAt l k) = false := by have := hal.2.2 (by omega); simp; omega
                    clear hal
                    go_quiet (fail)
                    go_wp2
                    go_roundw
                    case rel => exact ⟨j + 1, by omega, by go_num, ⟨_, rfl⟩⟩
                    case measure => simp [intOf]; omega
          · obtain rfl : j = l.length := by omega
            go_wp2
            go_roundw
            case rel =>
              refine ⟨k + 1, by omega, by go_num, ?_, HD.out.step _⟩
              rw [HW.out]
            case measure => simp [intOf]; omega
    · obtain rfl : k = l.length := by omega
      rw [List.take_length]
      have hb25 : ((HP.room l : Int) = 32768) ∨ ((HP.room l : Int) = 16384) ∨ ((HP.room l : Int) = 0) := by
        rcases HE.out with h | h | ⟨_, h⟩
        · have := (HP.many_zero h).1; omega
        · omega
        · omega
      rcases hb25 with h | h | h <;> rw [h] <;> clear h <;> go_wp2 <;> go_ret <;> exact ⟨rfl, pw_below_drewN HB3.out _⟩
set_option maxRecDepth 100000 in
set_option maxHeartbeats 1000000 in
theorem huffAlone_bad (w : World) (A0 : Option Addr) (c0 : Nat) (l : List Int) (hr0 : Kd.C (Kd.int .i64) w A0 l.length l) (hc0 : l.length ≤ c0) (h : HP.check l ≠ 0) :
    Calls Try.prog 4 #[.slice A0 l.length c0] w fun e w' => e = .returned (.bool true) ∧ Below w.heap.size w w' := by
  have HR0 := Aside0.mk hr0
  have HO := Aside0.mk (codes_bad A0 c0 l w HR0.out hc0 h)
  have HK2 := Aside0.mk (ref_check_is l (2 * l.length + 3) (by omega))
  have heq : (HP.check l != HP.check l) = false := by simp
  have hne : (HP.check l != 0) = true := by simpa using h
  clear hr0 h
  go_enter Try.func4, Try.ntmps4
  go_wp2_with fail
  refine HO.out.mono ?_
  rintro e w1 ⟨rfl, ⟨n1, rfl⟩⟩
  clear HO
  go_wp2_with fail
  refine (begun_calls _).mono ?_
  rintro e w2 ⟨rfl, hb2⟩
  have HB2 := Aside0.mk (below_step (pw_below_drewN (Below.refl _ w) n1) hb2)
  clear hb2
  go_wp2_with fail
  have h3 := gridironref02_Check.calls _ A0 c0 l (HP.check l) _ (Kd.C_below HR0.out HB2.out) hc0 HK2.out
  refine h3.mono ?_
  rintro e w3 ⟨rfl, ⟨n3, rfl⟩⟩
  clear h3
  go_wp2
  go_ret
  exact ⟨rfl, pw_below_drewN HB2.out _⟩
theorem huffAlone_walk (w : World) (A0 : Option Addr) (c0 : Nat) (l : List Int) (hr0 : Kd.C (Kd.int .i64) w A0 l.length l) (hc0 : l.length ≤ c0) (hy : l.length * 8 ≤ 140737488351232) (hw : ∀ x ∈ l, (Lit.int .i64 x).wf = true) :
    Calls Try.prog 4 #[.slice A0 l.length c0] w fun e w' => e = .returned (.bool true) ∧ Below w.heap.size w w' := by
  by_cases h : HP.check l = 0
  · exact huffAlone_ok w A0 c0 l hr0 hc0 h
  · exact huffAlone_bad w A0 c0 l hr0 hc0 h
end Go.Proofs.Ytlepnpjlmcjedaa.Hw
