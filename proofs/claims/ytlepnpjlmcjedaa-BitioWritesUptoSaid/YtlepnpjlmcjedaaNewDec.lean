import Derived.Test.YtlepnpjlmcjedaaDec
import Derived.Test.YtlepnpjlmcjedaaBegun
/- huff.NewDecoder, walked. -/
namespace Go.Proofs.Ytlepnpjlmcjedaa.Hw
open Go.RowKit Go.Proofs.YtlepnpjlmcjedaaW.PrintWords Go.Proofs.YtlepnpjlmcjedaaW.PrintLast Go.Proofs.YtlepnpjlmcjedaaW.PrintMore Go.Proofs.Ytlepnpjlmcjedaa.PH
set_option linter.unusedVariables false
set_option linter.unusedSimpArgs false
theorem wf_u32 {x : Int} (h0 : 0 ≤ x) (h1 : x ≤ 4294967295) : (Lit.int .u32 x).wf = true := by
  have e1 : IntKind.u32.min = 0 := by decide
  have e2 : IntKind.u32.max = 4294967295 := by decide
  simp [Lit.wf, e1, e2, h0, h1]
theorem wf_i64 {x : Int} (h0 : -9223372036854775808 ≤ x) (h1 : x ≤ 9223372036854775807) : (Lit.int .i64 x).wf = true := by
  have e1 : IntKind.i64.min = -9223372036854775808 := by decide
  have e2 : IntKind.i64.max = 9223372036854775807 := by decide
  simp [Lit.wf, e1, e2, h0, h1]
set_option maxRecDepth 100000 in
set_option maxHeartbeats 2000000 in
theorem newDec_bad (A0 : Option Addr) (c0 : Nat) (l : List Int) (w : World) (hr0 : Kd.C (Kd.int .i64) w A0 l.length l) (hc0 : l.length ≤ c0) (h : HP.check l ≠ 0) :
    Calls Try.prog 53 #[.slice A0 l.length c0] w fun e w' => e = .returned (.tuple #[.pointer none, .int .i64 (HP.check l)]) ∧ Drawn0 w w' := by
  have HR0 := Aside0.mk hr0
  clear hr0
  have hne : ((HP.check l) != 0) = true := by simpa using h
  have HN := Aside0.mk h
  clear h
  go_enter Try.func53, Try.ntmps53
  go_wp2_with fail
  refine (codes_bad A0 c0 l w HR0.out hc0 HN.out).mono ?_
  rintro e w1 ⟨rfl, ⟨n1, rfl⟩⟩
  go_wp2
  go_ret2
  exact ⟨rfl, ⟨_, rfl⟩⟩
set_option maxRecDepth 100000 in
set_option maxHeartbeats 2000000 in
theorem newDec_ok (A0 : Option Addr) (c0 : Nat) (l : List Int) (w : World) (hr0 : Kd.C (Kd.int .i64) w A0 l.length l) (hc0 : l.length ≤ c0) (h : HP.check l = 0) :
    Calls Try.prog 53 #[.slice A0 l.length c0] w fun e w' => ∃ g b, e = .returned (.tuple #[.pointer (some ⟨g, 0, none⟩), .int .i64 0]) ∧ DecS w.heap.size w' g b l l.length ∧ Below w.heap.size w w' := by
  obtain ⟨hl, hf, hroom, _⟩ := HP.check_ok h
  have HF := Aside0.mk hf
  have HR0 := Aside0.mk hr0
  have HH := Aside0.mk h
  have hmm := @run_makeMap Try.prog
  have hcl : (HP.codes l).length = l.length := by simp [HP.codes]
  have HCL := Aside0.mk hcl
  clear hf hr0 h hcl
  go_enter Try.func53, Try.ntmps53
  go_wp2_with fail
  refine (codes_ok A0 c0 l w HR0.out hc0 HH.out).mono ?_
  rintro e w1 ⟨v, rfl, hv, hb⟩
  obtain ⟨Av, cv, rfl, hcv, _⟩ := Kd.R_reads hv
  have HV := Aside0.mk hv
  have HB := Aside0.mk hb
  clear hv hb
  go_wp2
  clear hmm
  have HD : Aside0 (DecS w.heap.size ((w1.alloc (.map #[] 0)).alloc (.cells #[.map (some w1.heap.size), .int .i64 0, .bool true] 83)) (w1.heap.size + 1) w1.heap.size l 0) := by
    refine ⟨⟨?_, by have := HB.out.size; omega, HB.out.size, ?_⟩⟩
    · have := heap_alloc_new (w1.alloc (.map #[] 0)) (.cells #[.map (some w1.heap.size), .int .i64 0, .bool true] 83)
      simpa [lng] using this
    · exact ⟨.map [], (World.ownsMap_made w1 _ _ _).alloc _, Tells.start _ _⟩
  have HB0 : Aside0 (Below w1.heap.size w1 ((w1.alloc (.map #[] 0)).alloc (.cells #[.map (some w1.heap.size), .int .i64 0, .bool true] 83))) := ⟨below_alloc (below_alloc (Below.refl _ _) _) _⟩
  generalize (w1.alloc (.map #[] 0)).alloc (.cells #[.map (some w1.heap.size), .int .i64 0, .bool true] 83) = W at *
  generalize hg : w1.heap.size + 1 = g at *
  generalize hbb : w1.heap.size = b at *
  have HG := Aside0.mk hg
  have HBB := Aside0.mk hbb
  clear hg hbb
  go_loopw [22] (fun i wr => ∃ k : Nat, k ≤ l.length ∧ i = .int .i64 k ∧ Aside0 (DecS w.heap.size wr g b l k) ∧ Aside0 (Below b w1 wr)) (fun i _ => l.length - (intOf i).toNat)
  case atStart => exact ⟨0, Nat.zero_le _, rfl, HD, HB0⟩
  case round =>
    clear HD HB0
    obtain ⟨k, hk, rfl, HD, HB0⟩ := hrel
    by_cases hlt : k < l.length
    · have hfk := rd_fits hlt HF.out
      obtain ⟨ad, rfl, hx⟩ := Kd.at_int (Kd.C_below HR0.out (below_weaken HB.out (by have := HBB.out; have := HB.out.size; omega) HB0.out)) (k : Int) (by omega) (by omega)
      rw [Int.toNat_natCast] at hx
      obtain ⟨n, hn⟩ : ∃ n : Nat, rd l (k : Int) = (n : Int) := ⟨(rd l (k : Int)).toNat, by omega⟩
      rw [hn] at hx hfk
      have HN : Aside0 (l.getD k 0 = (n : Int)) := ⟨by rw [rd_nat] at hn; exact hn⟩
      clear hn
      have hn15 : n ≤ 15 := by omega
      clear hfk
      by_cases h0 : n = 0
      · have hd : ((n : Int) > 0) = False := by simp; omega
        have hd2 : decide (0 < (n : Int)) = false := by simp; omega
        go_wp2
        refine ⟨?rel, ?measure⟩
        case rel =>
          refine ⟨k + 1, by omega, by go_num, ⟨?_⟩, HB0⟩
          obtain ⟨d1, d2, d3, D, d4, d5⟩ := HD.out
          have hn0 : ¬ 0 < l.getD k 0 := by rw [HN.out]; omega
          refine ⟨?_, d2, d3, D, d4.mono (Nat.le_succ _), d5.skip hn0⟩
          rw [d1]; unfold lng; rw [if_neg hn0]; cases k <;> rfl
        case measure => simp [intOf]; omega
      · have hd : decide (0 < (n : Int)) = true := by simp; omega
        have hbw : Below w1.heap.size w1 wr := by rw [HBB.out]; exact HB0.out
        obtain ⟨adc, hadc, hxc⟩ := Kd.at_int (A := Av) (Kd.R_reads' (Kd.R_below HV.out hbw)).2.2 (k : Int) (by omega) (by rw [HCL.out]; omega)
        subst hadc
        rw [Int.toNat_natCast] at hxc
        obtain ⟨c, hc⟩ : ∃ c, c = rd (HP.codes l) (k : Int) := ⟨_, rfl⟩
        rw [← hc] at hxc
        have HC := Aside0.mk hc
        have HBW := Aside0.mk hbw
        clear hc hbw
        obtain ⟨f0, f1, f2, f3⟩ := HD.out.cells
        have hlc := HCL.out
        obtain ⟨d1, d2, d3, D, d4, d5⟩ := HD.out
        have hck : c = ((HP.codeAt l k : Nat) : Int) := by rw [HC.out]; exact codes_rd l k hlt
        have hpw := HP.code_lt_pow HF.out hroom k hlt (by rw [HN.out]; omega)
        rw [HN.out, Int.toNat_natCast] at hpw
        have hp2 : 2 ^ n ≤ 32768 := Nat.le_trans (Nat.pow_le_pow_right (by omega) (show n ≤ 15 by omega)) (by decide)
        have hcw : (Lit.int .u32 c).wf = true := wf_u32 (by omega) (by omega)
        have hnw : (Lit.int .i64 (n : Int)).wf = true := wf_i64 (by omega) (by omega)
        have hkw : (Lit.int .i64 (k : Int)).wf = true := wf_i64 (by omega) (by omega)
        obtain ⟨wu, hrun, hu1, hu2⟩ := (d4.drew).update keyed Try.underlying81 (by unfold maxLen; omega) (key_is hcw hnw) (Go.plainElem_int Try.underlying3 hkw)
        have HU := Aside0.mk (And.intro hu1 hu2)
        have HT := Aside0.mk d5
        have HDM := Aside0.mk d4.isMap
        have HGu : Aside0 (wu.heap[g]? = some (.cells #[.map (some b), .int .i64 (lng l k), .bool true] 83 (0, 0))) := ⟨blk_grown (w := wr.drew) d1 hu2 (by have := HG.out; have := HBB.out; intro e; injection e with e; omega)⟩
        have g1 : wu.cell? ⟨g, 1, none⟩ = some (.int .i64 (lng l k)) := (blk_cell HGu.out 1).trans rfl
        have g2 := blk_frozen HGu.out 1
        have HP1 := Aside0.mk (And.intro hck (And.intro d2 d3))
        clear hu1 hu2 d1 d2 d3 d4 d5 hck hpw hp2
        have hlr := lng_range HF.out k
        have hmx : max (lng l k) (n : Int) = lng l (k + 1) := by
          show _ = (if 0 < l.getD k 0 then max (lng l k) (l.getD k 0) else lng l k)
          rw [if_pos (by rw [HN.out]; omega), HN.out]
        go_wp2
        go_region
        go_wp2
        refine ⟨?rel, ?measure⟩
        case rel =>
          have hn0 : 0 < l.getD k 0 := by rw [HN.out]; omega
          have hlg : (if lng l k < (n : Int) then (n : Int) else lng l k) = lng l (k + 1) := by rw [← hmx]; omega
          rw [hlg]
          have hsz : Below b w1 wu := (below_drew HB0.out).trans ⟨HU.out.2.os, HU.out.2.tape, HU.out.2.output, HU.out.2.size, fun i hi => HU.out.2.block i (show i < wr.heap.size by have := HB0.out.size; have := HBB.out; omega) (by intro e; injection e with e; omega)⟩
          refine ⟨k + 1, by omega, by go_num, ⟨?_, HP1.out.2.1, HP1.out.2.2, ?_⟩, ⟨hsz.setCell (by have := HG.out; have := HBB.out; show b ≤ g; omega) _⟩⟩
          · have := blk_set HGu.out 1 (.int .i64 (lng l (k + 1)))
            simpa using this
          · have hcg : (HP.codes l).getD k 0 = c := by rw [← rd_nat, ← HC.out]
            have hput := HT.out.put HDM.out hn0 (by rw [hcg]; exact hcw) (by rw [HN.out]; exact hnw)
            rw [hcg, HN.out] at hput
            have hms : MapS wu b (k + 1) (sym l (HP.codes l) (k + 1)) := ⟨_, HU.out.1, hput⟩
            exact hms.same (Below.heap_setCell wu ⟨g, 1, none⟩ _ b (by have := HG.out; have := HBB.out; show b ≠ g; omega))
        case measure => simp [intOf]; omega
    · obtain rfl : k = l.length := by omega
      go_wp2
      go_ret2
      exact ⟨_, _, rfl, HD.out, below_weaken HB.out (by have := HBB.out; have := HB.out.size; omega) HB0.out⟩
end Go.Proofs.Ytlepnpjlmcjedaa.Hw
