import Derived.Test.YtjajkgemjgehiaaHuffFns
namespace Go.Proofs.Ytjajkgemjgehiaa.Hw
open Go.RowKit Go.Proofs.YtjajkgemjgehiaaW.PrintWords Go.Proofs.YtjajkgemjgehiaaW.PrintLast Go.Proofs.YtjajkgemjgehiaaW.PrintMore
set_option linter.unusedVariables false
set_option linter.unusedSimpArgs false
/-- How many of the first i lengths are n, for n from 0 on (not of 0). -/
def manyL (l : List Int) (i : Nat) : List Int := (List.range 17).map fun n : Nat => if n = 0 then 0 else (HP.cnt (l.take i) (n : Int) : Int)
def firstL (l : List Int) (m : Nat) : List Int := (List.range 17).map fun n : Nat => if n ≤ m then (HP.fst l n : Int) else 0
def zeros17 : List Int := List.replicate 17 0
theorem manyL_len (l : List Int) (i : Nat) : (manyL l i).length = 17 := by simp [manyL]
theorem firstL_len (l : List Int) (i : Nat) : (firstL l i).length = 17 := by simp [firstL]
theorem manyL_zero (l : List Int) : manyL l 0 = zeros17 := by
  apply List.ext_getElem (by simp [manyL, zeros17])
  intro j h1 h2
  simp only [manyL, zeros17, List.getElem_map, List.getElem_range, List.getElem_replicate, List.take_zero, HP.cnt_nil]
  split <;> rfl
theorem firstL_one (l : List Int) : firstL l 1 = zeros17 := by
  apply List.ext_getElem (by simp [firstL, zeros17])
  intro j h1 h2
  simp only [firstL, zeros17, List.getElem_map, List.getElem_range, List.getElem_replicate]
  match j with
  | 0 => rfl
  | 1 => rfl
  | j + 2 => rw [if_neg (by omega)]
theorem manyL_rd (l : List Int) (i n : Nat) (h0 : 0 < n) (hn : n < 17) : (manyL l i).getD n 0 = (HP.cnt (l.take i) (n : Int) : Int) := by
  simp [manyL, List.getD_eq_getElem?_getD, hn]; omega
theorem firstL_rd (l : List Int) (m n : Nat) (h : n ≤ m) (hn : n < 17) : (firstL l m).getD n 0 = (HP.fst l n : Int) := by
  simp [firstL, List.getD_eq_getElem?_getD, hn, h]
theorem manyL_set (l : List Int) (i : Nat) (hi : i < l.length) (n : Nat) (h0 : 0 < n) (hn : n < 17) (hx : l.getD i 0 = (n : Int)) : (manyL l i).set n ((HP.cnt (l.take i) (n : Int) : Int) + 1) = manyL l (i + 1) := by
  apply List.ext_getElem (by simp [manyL])
  intro j h1 h2
  have hc := HP.cnt_take_succ l i hi (j : Int)
  rw [List.getElem_set]
  simp only [manyL, List.getElem_map, List.getElem_range]
  rw [hx] at hc
  by_cases hj : n = j
  · subst hj
    rw [if_pos rfl, if_neg (by omega), hc, if_pos rfl]; omega
  · rw [if_neg hj]
    by_cases hz : j = 0
    · rw [if_pos hz, if_pos hz]
    · rw [if_neg hz, if_neg hz, hc, if_neg (by omega)]; rfl
theorem manyL_same (l : List Int) (i : Nat) (hi : i < l.length) (hx : l.getD i 0 = 0) : manyL l i = manyL l (i + 1) := by
  apply List.ext_getElem (by simp [manyL])
  intro j h1 h2
  have hc := HP.cnt_take_succ l i hi (j : Int)
  simp only [manyL, List.getElem_map, List.getElem_range]
  by_cases hz : j = 0
  · rw [if_pos hz, if_pos hz]
  · rw [if_neg hz, if_neg hz, hc, if_neg (by omega)]; rfl
theorem firstL_set (l : List Int) (m : Nat) (h1 : 1 ≤ m) (hm : m < 16) : (firstL l m).set (m + 1) (((HP.fst l m + HP.cnt l (m : Int)) * 2 : Nat) : Int) = firstL l (m + 1) := by
  apply List.ext_getElem (by simp [firstL])
  intro j h2 h3
  rw [List.getElem_set]
  simp only [firstL, List.getElem_map, List.getElem_range]
  by_cases hj : m + 1 = j
  · subst hj
    rw [if_pos rfl, if_pos (by omega)]
    obtain ⟨m, rfl⟩ : ∃ z, m = z + 1 := ⟨m - 1, by omega⟩
    show _ = ((HP.fst l (m + 2) : Nat) : Int)
    rw [HP.fst]; omega
  · rw [if_neg hj]
    by_cases hle : j ≤ m
    · rw [if_pos hle, if_pos (by omega)]
    · rw [if_neg hle, if_neg (by omega)]
theorem nums_zeros : #[Value.int .u32 0, .int .u32 0, .int .u32 0, .int .u32 0, .int .u32 0, .int .u32 0, .int .u32 0, .int .u32 0, .int .u32 0, .int .u32 0, .int .u32 0, .int .u32 0, .int .u32 0, .int .u32 0, .int .u32 0, .int .u32 0, .int .u32 0] = (nums .u32 zeros17).toArray := rfl
theorem info17 : (Try.prog.info? 52).map (·.size) = some 17 := by kernel_rfl
set_option maxRecDepth 100000 in
set_option maxHeartbeats 1000000 in
theorem firsts_calls (A0 : Option Addr) (c0 : Nat) (l : List Int) (w : World) (hr0 : Kd.C (Kd.int .i64) w A0 l.length l) (hc0 : l.length ≤ c0) (hl : l.length ≤ 512) (hf : HP.fits l) (hroom : HP.room l ≤ 32768) :
    Calls Try.prog 23 #[.slice A0 l.length c0] w fun e w' => e = .returned (.agg (nums .u32 (firstL l 16)).toArray) ∧ Below w.heap.size w w' := by
  have HR0 := Aside0.mk hr0
  clear hr0
  have HF := Aside0.mk hf
  clear hf
  go_enter Try.func23, Try.ntmps23
  go_wp2
  rw [nums_zeros]
  have HB0 : Aside0 (Below w.heap.size w (((w.alloc (.cells (nums .u32 zeros17).toArray 52)).alloc (.cells (nums .u32 zeros17).toArray 52)).alloc (.cells (nums .u32 zeros17).toArray 52))) := ⟨below_alloc (below_alloc (below_alloc (Below.refl _ _) _) _) _⟩
  have HA0 : Aside0 (Arr 52 .u32 (((w.alloc (.cells (nums .u32 zeros17).toArray 52)).alloc (.cells (nums .u32 zeros17).toArray 52)).alloc (.cells (nums .u32 zeros17).toArray 52)) w.heap.size zeros17) := ⟨((Arr.new _ _ _ _).alloc _).alloc _⟩
  have HA1 : Aside0 (Arr 52 .u32 (((w.alloc (.cells (nums .u32 zeros17).toArray 52)).alloc (.cells (nums .u32 zeros17).toArray 52)).alloc (.cells (nums .u32 zeros17).toArray 52)) (w.heap.size + 1) (manyL l 0)) := ⟨by rw [manyL_zero]; have := (Arr.new (w.alloc (.cells (nums .u32 zeros17).toArray 52)) 52 .u32 zeros17).alloc (.cells (nums .u32 zeros17).toArray 52); simpa using this⟩
  have HA2 : Aside0 (Arr 52 .u32 (((w.alloc (.cells (nums .u32 zeros17).toArray 52)).alloc (.cells (nums .u32 zeros17).toArray 52)).alloc (.cells (nums .u32 zeros17).toArray 52)) (w.heap.size + 1 + 1) (firstL l 1)) := ⟨by rw [firstL_one]; have := (Arr.new ((w.alloc (.cells (nums .u32 zeros17).toArray 52)).alloc (.cells (nums .u32 zeros17).toArray 52)) 52 .u32 zeros17); simpa using this⟩
  generalize (((w.alloc (.cells (nums .u32 zeros17).toArray 52)).alloc (.cells (nums .u32 zeros17).toArray 52)).alloc (.cells (nums .u32 zeros17).toArray 52)) = w1 at *
  go_loopw [10] (fun i wr => ∃ k : Nat, k ≤ l.length ∧ i = .int .i64 k ∧ Aside0 (Below w.heap.size w wr) ∧ Aside0 (Arr 52 .u32 wr w.heap.size zeros17) ∧ Aside0 (Arr 52 .u32 wr (w.heap.size + 1) (manyL l k)) ∧ Aside0 (Arr 52 .u32 wr (w.heap.size + 1 + 1) (firstL l 1))) (fun i _ => l.length - (intOf i).toNat)
  case atStart => exact ⟨0, Nat.zero_le _, rfl, HB0, HA0, HA1, HA2⟩
  case round =>
    obtain ⟨k, hk, rfl, HB, HA0, HA1, HA2⟩ := hrel
    by_cases hlt : k < l.length
    · have hfk := rd_fits hlt HF.out
      obtain ⟨ad, rfl, hx⟩ := Kd.at_int (Kd.C_below HR0.out HB.out) (k : Int) (by omega) (by omega)
      rw [Int.toNat_natCast] at hx
      obtain ⟨n, hn⟩ : ∃ n : Nat, rd l (k : Int) = (n : Int) := ⟨(rd l (k : Int)).toNat, by omega⟩
      rw [hn] at hx hfk
      have HN := Aside0.mk hn
      clear hn
      have hn15 : n ≤ 15 := by omega
      clear hfk
      have hcnt := HP.cnt_le (l.take k) (n : Int)
      have htl : (l.take k).length ≤ k := List.length_take_le _ _
      by_cases h0 : n = 0
      · have hd : ((n : Int) > 0) = False := by simp; omega
        go_wp2
        go_roundw
        case rel =>
          refine ⟨k + 1, by omega, by go_num, HB, HA0, ⟨?_⟩, HA2⟩
          rw [← manyL_same l k hlt (by have := HN.out; rw [rd_nat] at this; omega)]
          exact HA1.out
        case measure => simp [intOf]; omega
      · have c1 := HA1.out.cell (i := n) (by rw [manyL_len]; omega)
        rw [manyL_rd _ _ _ (by omega) (by omega)] at c1
        have f1 := HA1.out.frozen n
        have hd : decide (0 < (n : Int)) = true := by simp; omega
        go_wp2
        go_roundw
        case rel =>
          have hb := HB.out.size
          refine ⟨k + 1, by omega, by go_num, ⟨HB.out.setCell (by simp) _⟩, ⟨HA0.out.far (by simp) _⟩, ⟨?_⟩, ⟨HA2.out.far (by simp) _⟩⟩
          rw [← manyL_set l k hlt n (by omega) (by omega) (by have := HN.out; rw [rd_nat] at this; omega)]
          have := HA1.out.set n ((HP.cnt (l.take k) (n : Int) : Int) + 1)
          simpa using this
        case measure => simp [intOf]; omega
    · obtain rfl : k = l.length := by omega
      go_wp2
      have hB2 := HB.out.size
      go_loopw [7] (fun i wq => ∃ m : Nat, 1 ≤ m ∧ m ≤ 16 ∧ i = .int .i64 m ∧ Aside0 (Below w.heap.size w wq) ∧ Aside0 (Arr 52 .u32 wq w.heap.size zeros17) ∧ Aside0 (Arr 52 .u32 wq (w.heap.size + 1) (manyL l l.length)) ∧ Aside0 (Arr 52 .u32 wq (w.heap.size + 1 + 1) (firstL l m))) (fun i _ => 16 - (intOf i).toNat)
      case atStart => exact ⟨1, by omega, by omega, rfl, HB, HA0, HA1, HA2⟩
      case round =>
        clear HB HA0 HA1 HA2
        obtain ⟨m, hm1, hm16, rfl, HB, HA0, HA1, HA2⟩ := hrel
        by_cases hlt : m < 16
        · have c1 := HA1.out.cell (i := m) (by rw [manyL_len]; omega)
          rw [manyL_rd _ _ _ (by omega) (by omega), List.take_length] at c1
          have c2 := HA2.out.cell (i := m) (by rw [firstL_len]; omega)
          rw [firstL_rd _ _ _ (by omega) (by omega)] at c2
          have c3 := HA2.out.cell (i := m + 1) (by rw [firstL_len]; omega)
          have f3 := HA2.out.frozen (m + 1)
          have hfl := HP.fst_le HF.out hroom m (by omega)
          have hp : 2 ^ m ≤ 32768 := Nat.le_trans (Nat.pow_le_pow_right (by omega) (show m ≤ 15 by omega)) (by decide)
          have hfl2 : (HP.fst l m : Int) + (HP.cnt l (m : Int) : Int) ≤ 33280 := by omega
          clear hp hfl
          go_wp2
          go_region
          go_wp2
          go_roundw
          case rel =>
            refine ⟨m + 1, by omega, by omega, by go_num, ⟨?_⟩, ⟨?_⟩, ⟨?_⟩, ⟨?_⟩⟩
            · exact below_drew (HB.out.setCell (by simp; omega) _)
            · exact (HA0.out.far (by simp; omega) _).drew
            · exact (HA1.out.far (by simp) _).drew
            · have := (HA2.out.set (m + 1) (((HP.fst l m : Int) + (HP.cnt l (m : Int) : Int)) * 2)).drew
              have e : (((HP.fst l m : Int) + (HP.cnt l (m : Int) : Int)) * 2) = (((HP.fst l m + HP.cnt l (m : Int)) * 2 : Nat) : Int) := by omega
              rw [e, firstL_set l m hm1 hlt, ← e] at this
              exact this
          case measure => simp [intOf]; omega
        · obtain rfl : m = 16 := by omega
          have hsz : (Try.prog.info? 52).map (·.size) = some (nums .u32 (firstL l 16)).toArray.size := by
            rw [show (nums .u32 (firstL l 16)).toArray.size = 17 from by simp [nums, firstL_len]]; exact info17
          have HS := Aside0.mk hsz
          clear hsz
          go_wp2_with (first | (refine wpList_load_row rfl 52 _ rfl (w.heap.size + 1 + 1) rfl 52 _ _ _ HA2.out Try.underlying52 rfl HS.out ?_) | (refine wpList_store_row rfl 52 _ _ rfl w.heap.size _ rfl rfl 52 _ HA0.out HS.out (by simp [nums, firstL_len, zeros17]) (by simp [nums, Value.oneCell']) ?_))
          refine bodyPost_ret (results_cell_row rfl _ _ w.heap.size 52 (nums .u32 (firstL l 16)).toArray (0, 0) _ rfl (setRow_heap _ _ _ _ _ _ HA0.out) Try.underlying52 rfl HS.out) rfl ⟨rfl, ?_⟩
          exact below_setRow HB.out (Nat.le_refl _) _
end Go.Proofs.Ytjajkgemjgehiaa.Hw
