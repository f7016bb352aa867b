import Derived.Test.YtjbckpfhenogiaaWords
import Derived.Test.YtjbckpfhenogiaaShelf
import Derived.Laws.CopyOwn
import Derived.BigRegion
import Derived.Outline
import Derived.IntWalk
import Derived.Test.YtjbckpfhenogiaaFs
/- slices.Repeat of one number, walked. -/
namespace Go.Proofs.Ytjbckpfhenogiaa.Hw
open Go.RowKit Go.Proofs.YtjbckpfhenogiaaW.PrintWords Go.Proofs.YtjbckpfhenogiaaW.PrintLast Go.Proofs.YtjbckpfhenogiaaW.PrintMore Go.Proofs.Ytjbckpfhenogiaa.PH
set_option linter.unusedVariables false
set_option linter.unusedSimpArgs false
theorem infoI8 : (Try.prog.info? 3).map (fun i => (i.zero, i.size, i.bytes)) = some (some (.int .i64 0), 1, 8) := by kernel_rfl
theorem sizeI : (Try.prog.info? 3).map (·.size) = some 1 := by kernel_rfl
theorem nums_app (k : IntKind) (a b : List Int) : nums k (a ++ b) = nums k a ++ nums k b := by simp [nums]
theorem nums_len (k : IntKind) (a : List Int) : (nums k a).length = a.length := by simp [nums]
theorem nums_one (k : IntKind) (a : List Int) : ∀ v ∈ nums k a, v.oneCell' = true := by
  intro v hv
  obtain ⟨x, _, rfl⟩ := List.mem_map.1 hv
  rfl
theorem lt_of_cell' {w : World} {p : Addr} {v : Value} (h : w.cell? p = some v) : p.block < w.heap.size := by
  unfold World.cell? at h
  split at h
  · rename_i hb; exact (Array.getElem?_eq_some_iff.1 hb).1
  all_goals cases h
/-- A row of which a beginning is filled. -/
def repL (v : Int) (n m : Nat) : List Int := List.replicate m v ++ List.replicate (n - m) 0
theorem repL_len (v : Int) (n m : Nat) (h : m ≤ n) : (repL v n m).length = n := by simp [repL]; omega
theorem splice_rep (v : Int) (n m k : Nat) (h : m + k ≤ n) : splice (nums .i64 (repL v n m)) m (nums .i64 (List.replicate k v)) = nums .i64 (repL v n (m + k)) := by
  unfold splice repL
  rw [nums_app, nums_app]
  have h1 : (nums .i64 (List.replicate m v)).length = m := by rw [nums_len, List.length_replicate]
  rw [List.take_append_of_le_length (by omega), List.take_of_length_le (by omega), nums_len, List.length_replicate, List.drop_append, h1, List.drop_of_length_le (by omega), List.nil_append, show m + k - m = k by omega]
  unfold nums
  rw [← List.map_drop, List.drop_replicate, ← List.append_assoc, ← List.map_append, List.replicate_append_replicate, show n - m - k = n - (m + k) by omega]
theorem rep_at (v : Int) (k j : Nat) (u : Value) (h : (nums .i64 (List.replicate k v))[j]? = some u) : j < k ∧ u = .int .i64 v := by
  unfold nums at h
  rw [List.map_replicate, List.getElem?_replicate] at h
  split at h
  · rename_i hj; exact ⟨hj, (Option.some.inj h).symm⟩
  · cases h
set_option maxRecDepth 100000 in
set_option maxHeartbeats 4000000 in
theorem repeat_calls (ad : Addr) (c : Nat) (v : Int) (n : Nat) (w : World) (hx : w.cell? ad = some (.int .i64 v)) (h1 : 1 ≤ n) (h2 : n ≤ 1000) :
    Calls Try.prog 54 #[.slice (some ad) 1 c, .int .i64 (n : Int)] w fun e w' => ∃ u, e = .returned u ∧ Kd.R (Kd.int .i64) 3 w' w.heap.size (fun _ => True) u (List.replicate n v) ∧ Below w.heap.size w w' := by
  have HX := Aside0.mk hx
  have t1 : decide ((n : Int) < 0) = false := decide_eq_false (by omega)
  have t2 : decide ((9223372036854775807 : Int) < (n : Int)) = false := decide_eq_false (by omega)
  have t2n : decide (9223372036854775807 < n) = false := decide_eq_false (by omega)
  have hmk := print_make (P := Try.prog) 68 3 .i64 8 Try.underlying68 infoI8 (by decide) n (by omega)
  have HM : Aside0 (∀ w1, Calls Try.prog 34 #[.int .u64 1, .int .u64 (n : Int)] w1 fun e w' => e = .returned (.tuple #[.int .u64 0, .int .u64 (n : Int)]) ∧ w1 = w') := ⟨fun w1 => by
    have h := Try.bits_Mul 1 n (by decide) (by omega) w1
    rw [show 1 * n / 18446744073709551616 = 0 by omega, show 1 * n % 18446744073709551616 = n by omega] at h
    exact h.mono fun e w' h => ⟨h.1, h.2.symm⟩⟩
  have hu1 : IntKind.u64.wrap (n : Int) = n := by rw [IntKind.wrap_u64]; omega
  clear hx
  go_enter Try.func54, Try.ntmps54
  go_wp2_with fail
  refine (HM.out _).mono ?_
  rintro e w1 ⟨rfl, rfl⟩
  have HG : Aside0 ((w.alloc (.cells (madeCells #[.int .i64 0] n) 3)).heap[w.heap.size]? = some (.cells (nums .i64 (repL v n 0)).toArray 3 (0, 0))) := ⟨by rw [show repL v n 0 = List.replicate n 0 by simp [repL]]; exact Arr.made w 3 .i64 n⟩
  have HB : Aside0 (Below w.heap.size w (w.alloc (.cells (madeCells #[.int .i64 0] n) 3))) := ⟨(Below.refl _ _).alloc (Nat.le_refl _) _⟩
  have HX2 : Aside0 ((w.alloc (.cells (madeCells #[.int .i64 0] n) 3)).cell? ad = some (.int .i64 v)) := ⟨((Below.refl w.heap.size w).alloc (Nat.le_refl _) _).cell (lt_of_cell' HX.out) |>.trans HX.out⟩
  clear HM
  go_wp2_with (refine wpList_copy_splice rfl _ _ 68 68 rfl 3 Try.underlying68 sizeI (some ⟨w.heap.size, 0, none⟩) (some ad) n n 1 c rfl rfl w.heap.size 0 (nums .i64 (repL v n 0)) 3 HG.out (nums .i64 (List.replicate 1 v)) (by rw [nums_len, List.length_replicate]; exact (Nat.min_eq_left h1).symm) (fun _ => ⟨rfl, ad, rfl, fun j u hu => by obtain ⟨hj, rfl⟩ := rep_at v 1 j u hu; have e : j = 0 := Nat.lt_one_iff.1 hj; rw [e]; exact HX2.out⟩) (by rw [nums_len, nums_len, repL_len v n 0 (Nat.zero_le _), List.length_replicate]; omega) (nums_one _ _) w.heap.size w HB.out (Nat.le_refl _) ?_; intro w2 hg2 hb2; rw [show goInt (nums .i64 (List.replicate 1 v)).length = Value.int .i64 1 from by rw [nums_len]; rfl])
  have HG2 : Aside0 (w2.heap[w.heap.size]? = some (.cells (nums .i64 (repL v n 1)).toArray 3 (0, 0))) := ⟨by have := hg2.out; rw [splice_rep v n 0 1 (by omega)] at this; exact this⟩
  have HB2 := Aside0.mk hb2
  clear hg2 hb2 HG HB HX2
  clear t1 t2 t2n hmk hu1
  go_wp2
  go_loopw [8] (fun t wr => ∃ m : Nat, 1 ≤ m ∧ m ≤ n ∧ t = .int .i64 (m : Int) ∧ Aside0 (wr.heap[w.heap.size]? = some (.cells (nums .i64 (repL v n m)).toArray 3 (0, 0))) ∧ Aside0 (Below w.heap.size w wr)) (fun t _ => n - (intOf t).toNat)
  case atStart => exact ⟨1, Nat.le_refl _, h1, by first | rfl | (simp [goInt, nums]; done), HG2, HB2⟩
  case round =>
    obtain ⟨m, hm1, hm2, rfl, HG, HB⟩ := hrel
    by_cases hlt : m < n
    · obtain ⟨kk, hkk⟩ : ∃ kk, kk = Nat.min m (n - m) := ⟨_, rfl⟩
      have hk1 : kk ≤ m := by rw [hkk]; exact Nat.min_le_left _ _
      have hk2 : kk ≤ n - m := by rw [hkk]; exact Nat.min_le_right _ _
      have hk0 : 1 ≤ kk := by rw [hkk]; exact Nat.le_min.2 ⟨hm1, by omega⟩
      have HK := Aside0.mk hkk
      have HSRC : Aside0 (∀ j u, (nums .i64 (List.replicate kk v))[j]? = some u → wr.cell? ((⟨w.heap.size, 0, none⟩ : Addr).add j) = some u) := ⟨fun j u hu => by
        obtain ⟨hj, rfl⟩ := rep_at v kk j u hu
        have e : (⟨w.heap.size, 0, none⟩ : Addr).add j = ⟨w.heap.size, j, none⟩ := by simp [Addr.add]; intro h; exact h.symm
        rw [e, blk_cell HG.out j]
        simp only [List.getElem?_toArray]
        unfold nums repL
        rw [List.getElem?_map, List.getElem?_append_left (by rw [List.length_replicate]; omega), List.getElem?_replicate, if_pos (by omega)]; rfl⟩
      have HFIT : Aside0 (m + (nums .i64 (List.replicate kk v)).length ≤ (nums .i64 (repL v n m)).length) := ⟨by rw [nums_len, nums_len, repL_len v n m hm2, List.length_replicate]; omega⟩
      have HCS : Aside0 ((nums .i64 (List.replicate kk v)).length = Nat.min m (n - m)) := ⟨by rw [nums_len, List.length_replicate]; exact hkk⟩
      have HLEN : Aside0 ((nums .i64 (List.replicate kk v)).length = kk) := ⟨by rw [nums_len, List.length_replicate]⟩
      have hnm : ¬ n = m := by omega
      obtain ⟨CS, hCS⟩ : ∃ CS, CS = nums .i64 (List.replicate kk v) := ⟨_, rfl⟩
      have HQ := Aside0.mk hCS
      rw [← hCS] at HSRC HFIT HCS HLEN
      have HONE : Aside0 (∀ u ∈ CS, u.oneCell' = true) := ⟨by rw [hCS]; exact nums_one _ _⟩
      have HGO : Aside0 (goInt CS.length = Value.int .i64 (kk : Int)) := ⟨by rw [HLEN.out]; rfl⟩
      have hsum : IntKind.i64.wrap ((m : Int) + (kk : Int)) = (m : Int) + (kk : Int) := IntWalk.i64_in _ (by omega)
      clear hCS hkk
      go_wp2
      go_region_law (refine step_copy_splice rfl (.tmp 41) (.tmp 44) 68 68 rfl 3 Try.underlying68 sizeI (some ⟨w.heap.size, m, none⟩) (some ⟨w.heap.size, 0, none⟩) (n - m) (n - m) m n (by simp [Act.eval, Act.put]) (by simp [Act.eval, Act.put]) w.heap.size m (nums .i64 (repL v n m)) 3 HG.out CS HCS.out (fun _ => ⟨rfl, _, rfl, HSRC.out⟩) HFIT.out HONE.out w.heap.size w HB.out.drew (Nat.le_refl _) ?_; intro w4 hg4 hb4; rw [HGO.out])
      have HG4 : Aside0 (w4.heap[w.heap.size]? = some (.cells (nums .i64 (repL v n (m + kk))).toArray 3 (0, 0))) := ⟨by have h := hg4.out; rw [HQ.out, splice_rep v n m kk (by omega)] at h; exact h⟩
      have HB4 := Aside0.mk hb4
      clear hg4 hb4 HG HB HSRC HFIT HCS HQ HONE HGO hsum
      go_simp
      go_roundw
      case rel => exact ⟨.int .i64 ((m : Int) + (kk : Int)), _, _, _, _, _, _, _, _, _, _, _, _, _, ⟨m + kk, by omega, by omega, by go_num, HG4, HB4⟩, rfl⟩
      case measure =>
        show n - ((m : Int) + (kk : Int)).toNat < n - ((m : Int)).toNat
        omega
    · obtain rfl : m = n := by omega
      have HE : Aside0 (repL v m m = List.replicate m v) := ⟨by simp [repL]⟩
      rw [HE.out] at HG
      go_wp2
      go_ret
      have h : Arr 3 .i64 wr w.heap.size (List.replicate m v) := HG.out
      have h2 := h.own (base := w.heap.size) (Nat.le_refl _) (by rw [List.length_replicate]; omega) (fun _ => True) trivial
      rw [List.length_replicate] at h2
      exact ⟨_, rfl, h2, HB.out⟩
end Go.Proofs.Ytjbckpfhenogiaa.Hw
/- flate.fixedLengths, walked. Printed by gen_xfl.py. -/
namespace Go.Proofs.Ytjbckpfhenogiaa.Hw
open Go.RowKit Go.Proofs.YtjbckpfhenogiaaW.PrintWords Go.Proofs.YtjbckpfhenogiaaW.PrintLast Go.Proofs.YtjbckpfhenogiaaW.PrintMore Go.Proofs.Ytjbckpfhenogiaa.PH
set_option linter.unusedVariables false
set_option linter.unusedSimpArgs false
theorem new_cell (w : World) (v : Value) (t : TypeId) : (w.alloc (.cells #[v] t)).cell? ⟨w.heap.size, 0, none⟩ = some v := (blk_cell (heap_alloc_new w _) 0).trans rfl
/-- Repeat of a row of one that was just laid. -/
theorem repeat_new (v : Int) (n : Nat) (w0 W : World) (hB : Below w0.heap.size w0 W) (h1 : 1 ≤ n) (h2 : n ≤ 1000) :
    Calls Try.prog 54 #[.slice (some ⟨W.heap.size, 0, none⟩) 1 1, .int .i64 (n : Int)] (W.alloc (.cells #[.int .i64 v] 3)) fun e w' => ∃ A c, e = .returned (.slice A n c) ∧ Kd.R (Kd.int .i64) 3 w' w0.heap.size (fun _ => True) (.slice A n c) (List.replicate n v) ∧ Below W.heap.size W w' ∧ Below w0.heap.size w0 w' :=
  (repeat_calls ⟨W.heap.size, 0, none⟩ 1 v n _ (new_cell W _ _) h1 h2).mono fun e w' h => by
    obtain ⟨u, rfl, hu, hb⟩ := h
    obtain ⟨A, c, rfl, hc, _⟩ := Kd.R_reads hu
    rw [List.length_replicate] at hu hc ⊢
    have hz : W.heap.size ≤ (W.alloc (.cells #[.int .i64 v] 3)).heap.size := ((Below.refl W.heap.size W).alloc (Nat.le_refl _) _).size
    have hb1 : Below W.heap.size W w' := ((Below.refl W.heap.size W).alloc (Nat.le_refl _) _).trans (hb.mono hz)
    exact ⟨A, c, rfl, Kd.R_lower hu (Nat.le_trans hB.size hz), hb1, hB.trans (hb1.mono hB.size)⟩
set_option maxRecDepth 100000 in
set_option maxHeartbeats 4000000 in
theorem fixedLengths_calls (w : World) : Calls Try.prog 38 #[] w fun e w' => ∃ A c B d, e = .returned (.tuple #[.slice A 288 c, .slice B 32 d]) ∧ 288 ≤ c ∧ 32 ≤ d ∧ Kd.R (Kd.int .i64) 3 w' w.heap.size (fun _ => True) (.slice A 288 c) fixLit ∧ Kd.R (Kd.int .i64) 3 w' w.heap.size (fun _ => True) (.slice B 32 d) fixDist ∧ Below w.heap.size w w' := by
  obtain ⟨M1, hM1⟩ : ∃ M, M = List.replicate 144 (8 : Int) := ⟨_, rfl⟩
  have HN1 : Aside0 (M1.length = 144) := ⟨by rw [hM1, List.length_replicate]⟩
  have R1 : Aside0 (∀ W, Below w.heap.size w W → Calls Try.prog 54 #[.slice (some ⟨W.heap.size, 0, none⟩) 1 1, .int .i64 144] (W.alloc (.cells #[.int .i64 8] 3)) fun e w' => ∃ A c, e = .returned (.slice A 144 c) ∧ Kd.R (Kd.int .i64) 3 w' w.heap.size (fun _ => True) (.slice A 144 c) M1 ∧ Below W.heap.size W w' ∧ Below w.heap.size w w') := ⟨fun W hB => by rw [hM1]; exact repeat_new 8 144 w W hB (by decide) (by decide)⟩
  obtain ⟨M2, hM2⟩ : ∃ M, M = List.replicate 112 (9 : Int) := ⟨_, rfl⟩
  have HN2 : Aside0 (M2.length = 112) := ⟨by rw [hM2, List.length_replicate]⟩
  have R2 : Aside0 (∀ W, Below w.heap.size w W → Calls Try.prog 54 #[.slice (some ⟨W.heap.size, 0, none⟩) 1 1, .int .i64 112] (W.alloc (.cells #[.int .i64 9] 3)) fun e w' => ∃ A c, e = .returned (.slice A 112 c) ∧ Kd.R (Kd.int .i64) 3 w' w.heap.size (fun _ => True) (.slice A 112 c) M2 ∧ Below W.heap.size W w' ∧ Below w.heap.size w w') := ⟨fun W hB => by rw [hM2]; exact repeat_new 9 112 w W hB (by decide) (by decide)⟩
  obtain ⟨M3, hM3⟩ : ∃ M, M = List.replicate 24 (7 : Int) := ⟨_, rfl⟩
  have HN3 : Aside0 (M3.length = 24) := ⟨by rw [hM3, List.length_replicate]⟩
  have R3 : Aside0 (∀ W, Below w.heap.size w W → Calls Try.prog 54 #[.slice (some ⟨W.heap.size, 0, none⟩) 1 1, .int .i64 24] (W.alloc (.cells #[.int .i64 7] 3)) fun e w' => ∃ A c, e = .returned (.slice A 24 c) ∧ Kd.R (Kd.int .i64) 3 w' w.heap.size (fun _ => True) (.slice A 24 c) M3 ∧ Below W.heap.size W w' ∧ Below w.heap.size w w') := ⟨fun W hB => by rw [hM3]; exact repeat_new 7 24 w W hB (by decide) (by decide)⟩
  obtain ⟨M4, hM4⟩ : ∃ M, M = List.replicate 8 (8 : Int) := ⟨_, rfl⟩
  have HN4 : Aside0 (M4.length = 8) := ⟨by rw [hM4, List.length_replicate]⟩
  have R4 : Aside0 (∀ W, Below w.heap.size w W → Calls Try.prog 54 #[.slice (some ⟨W.heap.size, 0, none⟩) 1 1, .int .i64 8] (W.alloc (.cells #[.int .i64 8] 3)) fun e w' => ∃ A c, e = .returned (.slice A 8 c) ∧ Kd.R (Kd.int .i64) 3 w' w.heap.size (fun _ => True) (.slice A 8 c) M4 ∧ Below W.heap.size W w' ∧ Below w.heap.size w w') := ⟨fun W hB => by rw [hM4]; exact repeat_new 8 8 w W hB (by decide) (by decide)⟩
  have HFIX : Aside0 (M1 ++ M2 ++ M3 ++ M4 = fixLit) := ⟨by rw [hM1, hM2, hM3, hM4]; rfl⟩
  clear hM1 hM2 hM3 hM4
  go_enter Try.func38, Try.ntmps38
  go_wp2_with fail
  refine (R1.out w (Below.refl _ _)).mono ?_
  rintro e w1 ⟨A1, c1, rfl, hr1, hs1, hb1⟩
  have HR1 := Aside0.mk hr1
  have HB1 := Aside0.mk hb1
  clear hr1 hs1 hb1
  go_wp2_with fail
  refine (R2.out w1 HB1.out).mono ?_
  rintro e wr2 ⟨X2, y2, rfl, hr, hs, hb⟩
  have HX2 : Aside0 (Kd.C (Kd.int .i64) wr2 X2 112 M2) := ⟨by have h := (Kd.R_reads' hr).2.2; rw [HN2.out] at h; exact h⟩
  have HO2 : Aside0 (Kd.R (Kd.int .i64) 3 wr2 w.heap.size (fun _ => True) (.slice A1 144 c1) (M1)) := ⟨Kd.R_below HR1.out hs⟩
  have HC2 := Aside0.mk hb
  clear hr hs hb HR1 HB1
  have HM2 : Aside0 (((M1).length + 112) * 8 ≤ 140737488355328) := ⟨by simp only [List.length_append, HN1.out]; decide⟩
  have HS2 : Aside0 ((M1 ++ M2).length = 256) := ⟨by simp only [List.length_append, HN1.out, HN2.out]⟩
  go_wp2_with (refine Kd.R_append_row (Value.int .i64) 0 (w0 := w) w.heap.size rfl _ _ 68 3 (.int .i64 0) 8 rfl Try.underlying68 infoI8 rfl (by decide) (.slice A1 144 c1) (M1) M2 X2 112 y2 (fun _ => True) rfl rfl (fun _ _ => trivial) HO2.out HX2.out HC2.out HC2.out.size HM2.out ?_; intro v2 w2 hv hb2 hg2 hat2; obtain ⟨A2, c2, rfl, hc2, _⟩ := Kd.R_reads hv; rw [HS2.out] at hv hc2 ⊢; have HR2 := Aside0.mk hv; have HB2 := Aside0.mk hb2; have HL2 := Aside0.mk hc2; clear hv hb2 hg2 hat2 hc2 HO2 HX2 HC2)
  go_wp2_with fail
  refine (R3.out w2 HB2.out).mono ?_
  rintro e wr3 ⟨X3, y3, rfl, hr, hs, hb⟩
  have HX3 : Aside0 (Kd.C (Kd.int .i64) wr3 X3 24 M3) := ⟨by have h := (Kd.R_reads' hr).2.2; rw [HN3.out] at h; exact h⟩
  have HO3 : Aside0 (Kd.R (Kd.int .i64) 3 wr3 w.heap.size (fun _ => True) (.slice A2 256 c2) (M1 ++ M2)) := ⟨Kd.R_below HR2.out hs⟩
  have HC3 := Aside0.mk hb
  clear hr hs hb HR2 HB2
  have HM3 : Aside0 (((M1 ++ M2).length + 24) * 8 ≤ 140737488355328) := ⟨by simp only [List.length_append, HN1.out, HN2.out]; decide⟩
  have HS3 : Aside0 ((M1 ++ M2 ++ M3).length = 280) := ⟨by simp only [List.length_append, HN1.out, HN2.out, HN3.out]⟩
  go_wp2_with (refine Kd.R_append_row (Value.int .i64) 0 (w0 := w) w.heap.size rfl _ _ 68 3 (.int .i64 0) 8 rfl Try.underlying68 infoI8 rfl (by decide) (.slice A2 256 c2) (M1 ++ M2) M3 X3 24 y3 (fun _ => True) rfl rfl (fun _ _ => trivial) HO3.out HX3.out HC3.out HC3.out.size HM3.out ?_; intro v3 w3 hv hb2 hg2 hat2; obtain ⟨A3, c3, rfl, hc2, _⟩ := Kd.R_reads hv; rw [HS3.out] at hv hc2 ⊢; have HR3 := Aside0.mk hv; have HB3 := Aside0.mk hb2; have HL3 := Aside0.mk hc2; clear hv hb2 hg2 hat2 hc2 HO3 HX3 HC3)
  go_wp2_with fail
  refine (R4.out w3 HB3.out).mono ?_
  rintro e wr4 ⟨X4, y4, rfl, hr, hs, hb⟩
  have HX4 : Aside0 (Kd.C (Kd.int .i64) wr4 X4 8 M4) := ⟨by have h := (Kd.R_reads' hr).2.2; rw [HN4.out] at h; exact h⟩
  have HO4 : Aside0 (Kd.R (Kd.int .i64) 3 wr4 w.heap.size (fun _ => True) (.slice A3 280 c3) (M1 ++ M2 ++ M3)) := ⟨Kd.R_below HR3.out hs⟩
  have HC4 := Aside0.mk hb
  clear hr hs hb HR3 HB3
  have HM4 : Aside0 (((M1 ++ M2 ++ M3).length + 8) * 8 ≤ 140737488355328) := ⟨by simp only [List.length_append, HN1.out, HN2.out, HN3.out]; decide⟩
  have HS4 : Aside0 ((M1 ++ M2 ++ M3 ++ M4).length = 288) := ⟨by simp only [List.length_append, HN1.out, HN2.out, HN3.out, HN4.out]⟩
  go_wp2_with (refine Kd.R_append_row (Value.int .i64) 0 (w0 := w) w.heap.size rfl _ _ 68 3 (.int .i64 0) 8 rfl Try.underlying68 infoI8 rfl (by decide) (.slice A3 280 c3) (M1 ++ M2 ++ M3) M4 X4 8 y4 (fun _ => True) rfl rfl (fun _ _ => trivial) HO4.out HX4.out HC4.out HC4.out.size HM4.out ?_; intro v4 w4 hv hb2 hg2 hat2; obtain ⟨A4, c4, rfl, hc2, _⟩ := Kd.R_reads hv; rw [HS4.out] at hv hc2 ⊢; have HR4 := Aside0.mk hv; have HB4 := Aside0.mk hb2; have HL4 := Aside0.mk hc2; clear hv hb2 hg2 hat2 hc2 HO4 HX4 HC4)
  go_wp2_with fail
  refine (repeat_new 5 32 w w4 HB4.out (by decide) (by decide)).mono ?_
  rintro e w9 ⟨X9, y9, rfl, hr, hs, hb⟩
  have HD := Aside0.mk hr
  have HY := Aside0.mk (Kd.R_reads' hr).2.1
  have HF : Aside0 (Kd.R (Kd.int .i64) 3 w9 w.heap.size (fun _ => True) (.slice A4 288 c4) fixLit) := ⟨by rw [← HFIX.out]; exact Kd.R_below HR4.out hs⟩
  have HB := Aside0.mk hb
  clear hr hs hb
  go_wp2
  go_ret2
  exact ⟨_, _, _, _, rfl, HL4.out, HY.out, HF.out, HD.out, HB.out⟩
end Go.Proofs.Ytjbckpfhenogiaa.Hw
