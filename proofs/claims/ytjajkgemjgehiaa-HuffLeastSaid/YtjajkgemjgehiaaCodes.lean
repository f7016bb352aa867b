import Derived.Test.YtjajkgemjgehiaaFirsts
import Derived.Outline
namespace Go.Proofs.Ytjajkgemjgehiaa.Hw
open Go.RowKit Go.Proofs.YtjajkgemjgehiaaW.PrintWords Go.Proofs.YtjajkgemjgehiaaW.PrintLast Go.Proofs.YtjajkgemjgehiaaW.PrintMore Go.Proofs.Ytjajkgemjgehiaa.PH
set_option linter.unusedVariables false
set_option linter.unusedSimpArgs false
/-- The next code of each length, with i symbols dealt. -/
def nextL (l : List Int) (i : Nat) : List Int := (List.range 17).map fun n : Nat => if n = 0 then 0 else ((HP.fst l n + HP.cnt (l.take i) (n : Int) : Nat) : Int)
/-- The codes of the first i symbols. -/
def outL (l : List Int) (i : Nat) : List Int := (List.range l.length).map fun j : Nat => if j < i then (HP.codeAt l j : Int) else 0
theorem nextL_len (l : List Int) (i : Nat) : (nextL l i).length = 17 := by simp [nextL]
theorem outL_len (l : List Int) (i : Nat) : (outL l i).length = l.length := by simp [outL]
theorem nextL_zero (l : List Int) : nextL l 0 = firstL l 16 := by
  apply List.ext_getElem (by simp [nextL, firstL])
  intro j h1 h2
  have hj : j < 17 := by rw [nextL_len] at h1; exact h1
  simp only [nextL, firstL, List.getElem_map, List.getElem_range, List.take_zero, HP.cnt_nil]
  rw [if_pos (show j ≤ 16 by omega)]
  by_cases h : j = 0
  · rw [if_pos h, h]; rfl
  · rw [if_neg h]; rfl
theorem outL_zero (l : List Int) : outL l 0 = List.replicate l.length 0 := by
  apply List.ext_getElem (by simp [outL])
  intro j h1 h2
  simp [outL]
theorem outL_full (l : List Int) : outL l l.length = HP.codes l := by
  unfold outL HP.codes
  apply List.map_congr_left
  intro j hj
  rw [List.mem_range] at hj
  rw [if_pos hj]
theorem nextL_rd (l : List Int) (i n : Nat) (h0 : 0 < n) (hn : n < 17) : (nextL l i).getD n 0 = ((HP.fst l n + HP.cnt (l.take i) (n : Int) : Nat) : Int) := by
  simp [nextL, List.getD_eq_getElem?_getD, hn]; omega
theorem nextL_set (l : List Int) (i : Nat) (hi : i < l.length) (n : Nat) (h0 : 0 < n) (hn : n < 17) (hx : l.getD i 0 = (n : Int)) : (nextL l i).set n (((HP.fst l n + HP.cnt (l.take i) (n : Int) : Nat) : Int) + 1) = nextL l (i + 1) := by
  apply List.ext_getElem (by simp [nextL])
  intro j h1 h2
  have hc := HP.cnt_take_succ l i hi (j : Int)
  rw [List.getElem_set]
  simp only [nextL, List.getElem_map, List.getElem_range]
  rw [hx] at hc
  by_cases hj : n = j
  · subst hj
    rw [if_pos rfl, if_neg (by omega), hc, if_pos rfl]; omega
  · rw [if_neg hj]
    by_cases hz : j = 0
    · rw [if_pos hz, if_pos hz]
    · rw [if_neg hz, if_neg hz, hc, if_neg (by omega)]; rfl
theorem nextL_same (l : List Int) (i : Nat) (hi : i < l.length) (hx : l.getD i 0 = 0) : nextL l i = nextL l (i + 1) := by
  apply List.ext_getElem (by simp [nextL])
  intro j h1 h2
  have hc := HP.cnt_take_succ l i hi (j : Int)
  simp only [nextL, List.getElem_map, List.getElem_range]
  by_cases hz : j = 0
  · rw [if_pos hz, if_pos hz]
  · rw [if_neg hz, if_neg hz, hc, if_neg (by omega)]; rfl
theorem outL_set (l : List Int) (i : Nat) : (outL l i).set i (HP.codeAt l i : Int) = outL l (i + 1) := by
  apply List.ext_getElem (by simp [outL])
  intro j h1 h2
  rw [List.getElem_set]
  simp only [outL, List.getElem_map, List.getElem_range]
  by_cases hj : i = j
  · subst hj; rw [if_pos rfl, if_pos (by omega)]
  · rw [if_neg hj]
    by_cases hlt : j < i
    · rw [if_pos hlt, if_pos (by omega)]
    · rw [if_neg hlt, if_neg (by omega)]
theorem outL_same (l : List Int) (i : Nat) (hx : l.getD i 0 = 0) : outL l i = outL l (i + 1) := by
  apply List.ext_getElem (by simp [outL])
  intro j h1 h2
  simp only [outL, List.getElem_map, List.getElem_range]
  by_cases hj : i = j
  · subst hj; rw [if_neg (by omega), if_pos (by omega)]; unfold HP.codeAt; rw [if_neg (by omega)]; rfl
  · by_cases hlt : j < i
    · rw [if_pos hlt, if_pos (by omega)]
    · rw [if_neg hlt, if_neg (by omega)]
set_option maxRecDepth 100000 in
set_option maxHeartbeats 1000000 in
theorem codes_bad (A0 : Option Addr) (c0 : Nat) (l : List Int) (w : World) (hr0 : Kd.C (Kd.int .i64) w A0 l.length l) (hc0 : l.length ≤ c0) (h : HP.check l ≠ 0) :
    Calls Try.prog 14 #[.slice A0 l.length c0] w fun e w' => e = .returned (.tuple #[.slice none 0 0, .int .i64 (HP.check l)]) ∧ Drawn0 w w' := by
  have HR0 := Aside0.mk hr0
  clear hr0
  have hne : ((HP.check l) != 0) = true := by simpa using h
  have HC := huff_Check.calls (2 * l.length + 1) A0 c0 l (HP.check l) w HR0.out hc0 (huff_check_is l _ (by omega))
  have HC2 := Aside0.mk HC
  clear HC h
  go_enter Try.func14, Try.ntmps14
  go_wp2_with fail
  refine HC2.out.mono ?_
  rintro e w' ⟨rfl, ⟨nd, rfl⟩⟩
  go_wp2
  go_ret2
  exact ⟨rfl, ⟨_, rfl⟩⟩
set_option maxRecDepth 100000 in
set_option maxHeartbeats 1000000 in
theorem codes_ok (A0 : Option Addr) (c0 : Nat) (l : List Int) (w : World) (hr0 : Kd.C (Kd.int .i64) w A0 l.length l) (hc0 : l.length ≤ c0) (h : HP.check l = 0) :
    Calls Try.prog 14 #[.slice A0 l.length c0] w fun e w' => ∃ v, e = .returned (.tuple #[v, .int .i64 0]) ∧ Kd.R (Kd.int .u32) 44 w' w.heap.size (fun _ => True) v (HP.codes l) ∧ Below w.heap.size w w' := by
  obtain ⟨hl, hf, hroom, _⟩ := HP.check_ok h
  have HF := Aside0.mk hf
  clear hf
  have HR0 := Aside0.mk hr0
  clear hr0
  have HC := huff_Check.calls (2 * l.length + 1) A0 c0 l (HP.check l) w HR0.out hc0 (huff_check_is l _ (by omega))
  rw [h] at HC
  have HC2 := Aside0.mk HC
  clear HC h
  have hmk := print_make (P := Try.prog) 40 44 .u32 4 Try.underlying40 (by kernel_rfl) (by decide) l.length (by omega)
  have hsz : (Try.prog.info? 52).map (·.size) = some (nums .u32 (firstL l 16)).toArray.size := by
    rw [show (nums .u32 (firstL l 16)).toArray.size = 17 from by simp [nums, firstL_len]]; exact info17
  have HS := Aside0.mk hsz
  clear hsz
  go_enter Try.func14, Try.ntmps14
  go_wp2_with fail
  refine HC2.out.mono ?_
  rintro e w' ⟨rfl, ⟨nd, rfl⟩⟩
  go_wp2_with fail
  refine (firsts_calls A0 c0 l _ (Kd.C_drewN HR0.out nd) hc0 hl HF.out hroom).mono ?_
  rintro e w1 ⟨rfl, hb1⟩
  have HB1 : Aside0 (Below w.heap.size w w1) := ⟨below_step (pw_below_drewN (Below.refl _ _) nd) hb1⟩
  clear hb1 HC2
  have H1 := Aside0.mk (heap_alloc_new w1 (.cells #[Value.int .u32 0, .int .u32 0, .int .u32 0, .int .u32 0, .int .u32 0, .int .u32 0, .int .u32 0, .int .u32 0, .int .u32 0, .int .u32 0, .int .u32 0, .int .u32 0, .int .u32 0, .int .u32 0, .int .u32 0, .int .u32 0, .int .u32 0] 52))
  go_wp2_with (refine wpList_store_row rfl 52 _ _ rfl w1.heap.size (nums .u32 (firstL l 16)).toArray rfl rfl 52 _ H1.out HS.out (by simp [nums, firstL_len]) (by simp [nums, Value.oneCell']) ?_)
  have HA : Aside0 (Arr 52 .u32 (((w1.alloc (.cells #[Value.int .u32 0, .int .u32 0, .int .u32 0, .int .u32 0, .int .u32 0, .int .u32 0, .int .u32 0, .int .u32 0, .int .u32 0, .int .u32 0, .int .u32 0, .int .u32 0, .int .u32 0, .int .u32 0, .int .u32 0, .int .u32 0, .int .u32 0] 52)).setRow w1.heap.size (nums .u32 (firstL l 16)).toArray).alloc (.cells (madeCells #[.int .u32 0] l.length) 44)) w1.heap.size (nextL l 0)) := ⟨by rw [nextL_zero]; exact (Arr.setRow (fr := (0, 0)) H1.out _).alloc _⟩
  have HO : Aside0 (Arr 44 .u32 (((w1.alloc (.cells #[Value.int .u32 0, .int .u32 0, .int .u32 0, .int .u32 0, .int .u32 0, .int .u32 0, .int .u32 0, .int .u32 0, .int .u32 0, .int .u32 0, .int .u32 0, .int .u32 0, .int .u32 0, .int .u32 0, .int .u32 0, .int .u32 0, .int .u32 0] 52)).setRow w1.heap.size (nums .u32 (firstL l 16)).toArray).alloc (.cells (madeCells #[.int .u32 0] l.length) 44)) (w1.heap.size + 1) (outL l 0)) := ⟨by rw [outL_zero]; have := Arr.made ((w1.alloc (.cells #[Value.int .u32 0, .int .u32 0, .int .u32 0, .int .u32 0, .int .u32 0, .int .u32 0, .int .u32 0, .int .u32 0, .int .u32 0, .int .u32 0, .int .u32 0, .int .u32 0, .int .u32 0, .int .u32 0, .int .u32 0, .int .u32 0, .int .u32 0] 52)).setRow w1.heap.size (nums .u32 (firstL l 16)).toArray) 44 .u32 l.length; simpa using this⟩
  have HB : Aside0 (Below w.heap.size w (((w1.alloc (.cells #[Value.int .u32 0, .int .u32 0, .int .u32 0, .int .u32 0, .int .u32 0, .int .u32 0, .int .u32 0, .int .u32 0, .int .u32 0, .int .u32 0, .int .u32 0, .int .u32 0, .int .u32 0, .int .u32 0, .int .u32 0, .int .u32 0, .int .u32 0] 52)).setRow w1.heap.size (nums .u32 (firstL l 16)).toArray).alloc (.cells (madeCells #[.int .u32 0] l.length) 44))) := ⟨below_alloc (below_setRow (below_alloc HB1.out _) HB1.out.size _) _⟩
  generalize (((w1.alloc (.cells #[Value.int .u32 0, .int .u32 0, .int .u32 0, .int .u32 0, .int .u32 0, .int .u32 0, .int .u32 0, .int .u32 0, .int .u32 0, .int .u32 0, .int .u32 0, .int .u32 0, .int .u32 0, .int .u32 0, .int .u32 0, .int .u32 0, .int .u32 0] 52)).setRow w1.heap.size (nums .u32 (firstL l 16)).toArray).alloc (.cells (madeCells #[.int .u32 0] l.length) 44)) = W at *
  clear H1 HS hmk
  have hg0 : w.heap.size ≤ w1.heap.size := HB1.out.size
  clear HB1
  generalize w1.heap.size = g at *
  clear w1
  go_loopw [21] (fun i wr => ∃ k : Nat, k ≤ l.length ∧ i = .int .i64 k ∧ Aside0 (Below w.heap.size w wr) ∧ Aside0 (Arr 52 .u32 wr g (nextL l k)) ∧ Aside0 (Arr 44 .u32 wr (g + 1) (outL l k))) (fun i _ => l.length - (intOf i).toNat)
  case atStart => exact ⟨0, Nat.zero_le _, rfl, HB, HA, HO⟩
  case round =>
    clear HB HA HO
    obtain ⟨k, hk, rfl, HB, HA, HO⟩ := hrel
    by_cases hlt : k < l.length
    · have hfk := rd_fits hlt HF.out
      obtain ⟨ad, rfl, hx⟩ := Kd.at_int (Kd.C_below HR0.out HB.out) (k : Int) (by omega) (by omega)
      rw [Int.toNat_natCast] at hx
      obtain ⟨n, hn⟩ : ∃ n : Nat, rd l (k : Int) = (n : Int) := ⟨(rd l (k : Int)).toNat, by omega⟩
      rw [hn] at hx hfk
      have HN : Aside0 (l.getD k 0 = (n : Int)) := ⟨by rw [rd_nat] at hn; exact hn⟩
      clear hn
      have hn15 : n ≤ 15 := by omega
      clear hfk
      by_cases h0 : n = 0
      · have hd : ((n : Int) > 0) = False := by simp; omega
        go_wp2
        go_roundw
        case rel =>
          refine ⟨k + 1, by omega, by go_num, HB, ⟨?_⟩, ⟨?_⟩⟩
          · rw [← nextL_same l k hlt (by have := HN.out; omega)]; exact HA.out
          · rw [← outL_same l k (by have := HN.out; omega)]; exact HO.out
        case measure => simp [intOf]; omega
      · have c1 := HA.out.cell (i := n) (by rw [nextL_len]; omega)
        rw [nextL_rd _ _ _ (by omega) (by omega)] at c1
        have f1 := HA.out.frozen n
        have c2 := HO.out.cell (i := k) (by rw [outL_len]; omega)
        have f2 := HO.out.frozen k
        have hd : decide (0 < (n : Int)) = true := by simp; omega
        have hfl := HP.fst_le HF.out hroom n (by omega)
        have hct := HP.cnt_take_le l k (n : Int)
        have hp : 2 ^ n ≤ 32768 := Nat.le_trans (Nat.pow_le_pow_right (by omega) (show n ≤ 15 by omega)) (by decide)
        have hcode : HP.codeAt l k = HP.fst l n + HP.cnt (l.take k) (n : Int) := by
          unfold HP.codeAt; rw [if_pos (by rw [HN.out]; omega), HN.out]; rfl
        have HCO := Aside0.mk hcode
        clear hcode
        have hco : HP.fst l n + HP.cnt (l.take k) (n : Int) ≤ 33280 := by omega
        clear hp hfl hct
        generalize hcv : HP.fst l n + HP.cnt (l.take k) (n : Int) = cv at *
        have HCV := Aside0.mk hcv
        clear hcv
        go_wp2
        go_roundw
        case rel =>
          refine ⟨k + 1, by omega, by go_num, ⟨?_⟩, ⟨?_⟩, ⟨?_⟩⟩
          · exact ((HB.out.setCell (by simp; omega) _).setCell (by simp; omega) _)
          · rw [← nextL_set l k hlt n (by omega) (by omega) HN.out, HCV.out]
            have := (HA.out.far (p := ⟨g + 1, k, none⟩) (by simp) (.int .u32 (cv : Int))).set n ((cv : Int) + 1)
            simpa using this
          · rw [← outL_set l k, HCO.out]
            have := (HO.out.set k (cv : Int)).far (p := ⟨g, n, none⟩) (by simp) (.int .u32 ((cv : Int) + 1))
            simpa using this
        case measure => simp [intOf]; omega
    · obtain rfl : k = l.length := by omega
      have ho := HO.out
      rw [outL_full] at ho
      have hlen : (HP.codes l).length = l.length := by simp [HP.codes]
      have hown := ho.own (base := w.heap.size) (by omega) (by omega) (fun _ => True) trivial
      rw [hlen] at hown
      have HOW := Aside0.mk hown
      clear ho hlen hown
      go_wp2
      go_ret2
      exact ⟨_, rfl, HOW.out, HB.out⟩
theorem codes_length (l : List Int) : (HP.codes l).length = l.length := by simp [HP.codes]
theorem codes_rd (l : List Int) (i : Nat) (h : i < l.length) : rd (HP.codes l) (i : Int) = (HP.codeAt l i : Int) := by
  simp [rd, HP.codes, List.getD_eq_getElem?_getD, h]
theorem lit (w : World) (T : Nat) (k : IntKind) (L : List Int) (hm : L.length ≤ 281474976710656) : (Kd.int k).C (w.alloc (.cells (nums k L).toArray T)) (some ⟨w.heap.size, 0, none⟩) L.length L := (Arr.new w T k L).reads hm
end Go.Proofs.Ytjajkgemjgehiaa.Hw
