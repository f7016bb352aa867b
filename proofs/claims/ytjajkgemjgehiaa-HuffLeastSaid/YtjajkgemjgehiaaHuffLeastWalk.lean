import Derived.Test.YtjajkgemjgehiaaLn
import Derived.Test.YtjajkgemjgehiaaBegun
/- The law HuffLeast, walked. -/
set_option linter.unusedVariables false
set_option linter.unusedSimpArgs false
namespace Go.Proofs.Ytjajkgemjgehiaa.Hw
open Go.RowKit Go.Proofs.YtjajkgemjgehiaaW.PrintWords Go.Proofs.YtjajkgemjgehiaaW.PrintLast Go.Proofs.YtjajkgemjgehiaaW.PrintMore Go.Proofs.Ytjajkgemjgehiaa.PH Go.Proofs.Ytjajkgemjgehiaa.St
def totUp (a b : List Int) (k : Nat) : Int := ((List.range k).map fun i => a.getD i 0 * b.getD i 0).sum
theorem totUp_succ (a b : List Int) (k : Nat) : totUp a b (k + 1) = totUp a b k + a.getD k 0 * b.getD k 0 := by
  unfold totUp
  rw [List.range_succ, List.map_append, List.sum_append]
  simp
theorem totUp_bd {a b : List Int} (ha : ∀ i, 0 ≤ a.getD i 0 ∧ a.getD i 0 ≤ 15) (hb : ∀ i, 0 ≤ b.getD i 0 ∧ b.getD i 0 ≤ 2147483648) : ∀ k : Nat, 0 ≤ totUp a b k ∧ totUp a b k ≤ 34359738368 * (k : Int)
  | 0 => by simp [totUp]
  | k + 1 => by
    have ih := totUp_bd ha hb k
    rw [totUp_succ]
    obtain ⟨a1, a2⟩ := ha k
    obtain ⟨b1, b2⟩ := hb k
    have h1 : 0 ≤ a.getD k 0 * b.getD k 0 := Int.mul_nonneg a1 b1
    have h2 : a.getD k 0 * b.getD k 0 ≤ 15 * 2147483648 := Int.le_trans (Int.mul_le_mul_of_nonneg_right a2 b1) (Int.mul_le_mul_of_nonneg_left b2 (by decide))
    omega
theorem getD_all {P : Int → Prop} {l : List Int} (h : ∀ x ∈ l, P x) (h0 : P 0) (i : Nat) : P (l.getD i 0) := by
  rw [List.getD_eq_getElem?_getD]
  by_cases hi : i < l.length
  · rw [List.getElem?_eq_getElem hi]; exact h _ (List.getElem_mem hi)
  · rw [List.getElem?_eq_none (by omega)]; exact h0
theorem cc_ok {cs : List Int} {most : Int} (h : (cc cs most).2 = 0) : cs.length ≤ 512 ∧ allR cs ∧ 1 ≤ most ∧ most ≤ 15 ∧ (cc cs most).1 = ((HP.many cs : Nat) : Int) := by
  unfold cc at h ⊢
  by_cases h1 : 512 < cs.length
  · rw [if_pos h1] at h; exact absurd h (by decide)
  · rw [if_neg h1] at h ⊢
    by_cases h2 : ¬ allR cs
    · rw [if_pos h2] at h; exact absurd h (by decide)
    · rw [if_neg h2] at h ⊢
      by_cases h3 : most < 1 ∨ 15 < most
      · rw [if_pos h3] at h; exact absurd h (by decide)
      · rw [if_neg h3] at h ⊢
        by_cases h4 : 2 ^ most.toNat < HP.many cs
        · rw [if_pos h4] at h; exact absurd h (by decide)
        · rw [if_neg h4] at h ⊢
          exact ⟨by omega, Decidable.not_not.1 h2, by omega, by omega, rfl⟩
set_option maxRecDepth 100000 in
set_option maxHeartbeats 2000000 in
theorem huffLeast_walk (w : World) (A0 : Option Addr) (c0 : Nat) (l : List Int) (hr0 : Kd.C (Kd.int .i64) w A0 l.length l) (hc0 : l.length ≤ c0) (hy : l.length * 8 ≤ 140737488351232) (hw : ∀ x ∈ l, (Lit.int .i64 x).wf = true) (a : Int) (wa : (Lit.int .i64 a).wf = true) :
    Calls Try.prog 3 #[.slice A0 l.length c0, .int .i64 a] w fun e w' => e = .returned (.bool true) ∧ Below w.heap.size w w' := by
  have HR0 := Aside0.mk hr0
  have HL := Aside0.mk (lengths_calls A0 c0 l a w hr0 hc0 (by omega))
  clear hr0 hw wa
  go_enter Try.func3, Try.ntmps3
  go_wp2_with fail
  refine HL.out.mono ?_
  rintro e w1 ⟨hb1, ⟨hne, rfl⟩ | ⟨heq, gt, ls, rfl, hg, hA, hok⟩⟩
  · have HB1 := Aside0.mk hb1
    have HCC := Aside0.mk (cc_calls A0 c0 l a w1 (Kd.C_below HR0.out hb1) hc0 (by omega))
    generalize cc l a = z at *
    obtain ⟨mn, er⟩ := z
    dsimp only at hne HCC
    clear hb1 HL
    go_wp2_with fail
    refine HCC.out.mono ?_
    rintro e w2 ⟨rfl, ⟨n2, rfl⟩⟩
    go_wp2_with fail
    refine (begun_calls _).mono ?_
    rintro e w3 ⟨rfl, hb3⟩
    have HB3 := Aside0.mk (below_step (pw_below_drewN HB1.out n2) hb3)
    clear hb3
    have t1 : (er == 0) = false := by simpa using hne
    clear hne
    go_wp2
    go_ret
    exact ⟨rfl, HB3.out⟩
  · obtain ⟨h512, hall, ha1, ha15, hmn⟩ := cc_ok heq
    obtain ⟨hls, hchk, hsym, htot⟩ := hok
    have HB1 := Aside0.mk hb1
    have HA := Aside0.mk hA
    have HCC := Aside0.mk (cc_calls A0 c0 l a w1 (Kd.C_below HR0.out hb1) hc0 (by omega))
    rw [heq, hmn] at HCC
    have HMN : Aside0 (HP.many l ≤ l.length) := ⟨HP.many_le l⟩
    have hfit : HP.fits ls := (HP.check_ok hchk).2.1
    have HXY : Aside0 ((∀ i, 0 ≤ ls.getD i 0 ∧ ls.getD i 0 ≤ 15) ∧ (∀ i, 0 ≤ l.getD i 0 ∧ l.getD i 0 ≤ 2147483648)) := ⟨getD_all (P := fun x => 0 ≤ x ∧ x ≤ 15) hfit (by decide), getD_all (P := fun x => 0 ≤ x ∧ x ≤ 2147483648) hall (by decide)⟩
    have HALL := Aside0.mk hall
    have HSYM := Aside0.mk hsym
    have HTOT := Aside0.mk htot
    have HLS := Aside0.mk hls
    have HK2 := Aside0.mk (ref_check_is ls (2 * ls.length + 3) (by omega))
    rw [hchk] at HK2
    have hcc : HP.many l ≤ 512 := Nat.le_trans HMN.out h512
    obtain ⟨m, rfl⟩ : ∃ m : Nat, a = (m : Int) := ⟨a.toNat, by omega⟩
    clear hb1 HL heq hmn hfit hall hsym htot hchk hls hA
    go_wp2_with fail
    refine HCC.out.mono ?_
    rintro e w2 ⟨rfl, ⟨n2, rfl⟩⟩
    go_wp2_with fail
    refine (begun_calls _).mono ?_
    rintro e w3 ⟨rfl, hb3⟩
    have HB3 := Aside0.mk (below_step (pw_below_drewN HB1.out n2) hb3)
    have HA3 : Aside0 (Arr 3 .i64 w3 gt ls) := ⟨Arr.below (HA.out.drewN n2) hb3⟩
    clear hb3 HCC HA
    go_wp2_with fail
    have h4 := gridironref02_Check.calls _ (some ⟨gt, 0, none⟩) ls.length ls 0 w3 (HA3.out.reads (by rw [HLS.out]; omega)) (Nat.le_refl _) HK2.out
    rw [HLS.out] at h4
    refine h4.mono ?_
    rintro e w4 ⟨rfl, ⟨n4, rfl⟩⟩
    clear h4 HK2
    generalize hW4 : w3.drewN n4 = W at *
    have HAW : Aside0 (Arr 3 .i64 W gt ls) := ⟨by rw [← hW4]; exact HA3.out.drewN n4⟩
    have HBW : Aside0 (Below w.heap.size w W) := ⟨by rw [← hW4]; exact pw_below_drewN HB3.out n4⟩
    clear hW4
    go_wp2
    go_loopw [9, 47] (fun tot i wr => ∃ k : Nat, k ≤ l.length ∧ i = .int .i64 k ∧ tot = .int .i64 (totUp ls l k) ∧ Drawn0 W wr) (fun _ i _ => l.length - (intOf i).toNat)
    case atStart => exact ⟨0, Nat.zero_le _, rfl, rfl, Drawn0.refl _⟩
    case round =>
      obtain ⟨k, hk, rfl, rfl, hq⟩ := hrel
      obtain ⟨n0, rfl⟩ := hq
      by_cases hlt : k < l.length
      · obtain ⟨ad, e1, hx⟩ := Kd.at_int (Kd.C_below HR0.out HBW.out) (k : Int) (by omega) (by omega)
        subst e1
        have hrd : rd l (k : Int) = l.getD k 0 := by unfold rd; rw [Int.toNat_natCast]
        rw [Int.toNat_natCast, hrd] at hx
        have hz := HAW.out.cell (i := k) (by rw [HLS.out]; exact hlt)
        have hbd := totUp_bd HXY.out.1 HXY.out.2 k
        have hbd2 := totUp_bd HXY.out.1 HXY.out.2 (k + 1)
        rw [totUp_succ] at hbd2
        have HNX := Aside0.mk (totUp_succ ls l k)
        have hx0 := HXY.out.1 k
        have hy0 := HXY.out.2 k
        obtain ⟨hs1, hs2⟩ := HSYM.out k hlt
        rw [Int.toNat_natCast] at hs2
        clear hrd
        generalize totUp ls l k = T at *
        generalize ls.getD k 0 = x at *
        generalize l.getD k 0 = y at *
        obtain ⟨b, hb1, hb2⟩ : ∃ b : Bool, decide (0 < x) = b ∧ decide (0 < y) = b := ⟨decide (0 < y), decide_eq_decide.2 hs1, rfl⟩
        have hb3 : decide ((m : Int) < x) = false := by simp; omega
        obtain ⟨q, hq⟩ : ∃ q, q = x * y := ⟨_, rfl⟩
        rw [← hq] at hbd2
        have hxy : 0 ≤ x * y := Int.mul_nonneg hx0.1 hy0.1
        have hw1 : wrap64 (x * y) = q := by rw [← hq]; exact w64 (by omega) (by omega)
        have hw2 : wrap64 (T + q) = T + q := w64 (by omega) (by omega)
        have HQ := Aside0.mk hq
        rw [← hq] at HNX
        have hkz : (k : Int) < (l.length : Int) := by omega
        clear hs1 hs2 hx0 hy0 hbd hbd2 hxy hq
        have hx' : (W.drewN n0).cell? (ad.add k) = some (.int .i64 y) := hx
        have hz' : (W.drewN n0).cell? ⟨gt, k, none⟩ = some (.int .i64 x) := hz
        have HDV : Aside0 (∀ n, Drawn0 W ((W.drewN n0).drewN n)) := ⟨fun n => (⟨⟨n0, rfl⟩⟩ : Drawn0 W (W.drewN n0)).step n⟩
        generalize W.drewN n0 = V at *
        clear hx hz
        go_wp2_with fail
        go_quiet (fail)
        go_wp2_with fail
        have hx2 : (V.drewN nq).cell? (ad.add k) = some (.int .i64 y) := hx'
        have hz2 : (V.drewN nq).cell? ⟨gt, k, none⟩ = some (.int .i64 x) := hz'
        have HDV2 : Aside0 (∀ n, Drawn0 W ((V.drewN nq).drewN n)) := ⟨fun n => (HDV.out nq).step n⟩
        clear hx' hz' HDV
        generalize V.drewN nq = U at *
        go_quiet (fail)
        go_wp2
        refine ⟨?rel, ?measure⟩
        case rel => exact ⟨k + 1, by omega, by go_num, by rw [HNX.out, hw2], HDV2.out _⟩
        case measure => simp [intOf]; omega
      · obtain rfl : k = l.length := by omega
        have htl : totUp ls l l.length = leastI l m := by
          have := HTOT.out
          unfold PM.total at this
          rw [HLS.out, Int.toNat_natCast] at this
          exact this
        rw [htl]
        have HBV : Aside0 (Below w.heap.size w (W.drewN n0)) := ⟨pw_below_drewN HBW.out n0⟩
        have HLC := Aside0.mk (least_calls A0 c0 l m (W.drewN n0) (Kd.C_below HR0.out HBV.out) hc0 h512 HALL.out (by omega) (by omega))
        generalize leastI l m = z at *
        have hmz : ((HP.many l : Nat) : Int) ≤ (l.length : Int) := by have := HMN.out; omega
        clear htl
        go_wp2_with (go_at_call 8; refine HLC.out.mono ?_; rintro e w6 ⟨rfl, hb6⟩; have HB6 := Aside0.mk (below_step HBV.out hb6); clear hb6)
        go_ret
        exact ⟨by simp [hmz], HB6.out⟩
end Go.Proofs.Ytjajkgemjgehiaa.Hw
