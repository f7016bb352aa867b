import Derived.Test.YtjepodcgbfejgaaGreatDoorRpP
import Derived.Test.YtjepodcgbfejgaaGreatDoorShelf
import Derived.Laws.CopyOwn
import Derived.BigRegion
import Derived.IntWalk
/- strings.byteStringReplacer: Replace, walked. -/
namespace Go.Proofs.YtjepodcgbfejgaaGreatDoor.Hw
open Go.RowKit Go.Proofs.YtjepodcgbfejgaaGreatDoorW.PrintWords Go.Proofs.YtjepodcgbfejgaaGreatDoorW.PrintLast Go.Proofs.YtjepodcgbfejgaaGreatDoorW.PrintMore Go.Proofs.YtjepodcgbfejgaaGreatDoor.PH Go.Proofs.YtjepodcgbfejgaaGreatDoor.CP
set_option linter.unusedVariables false
set_option linter.unusedSimpArgs false
/-- What is read of a byteStringReplacer: what stands for each byte. -/
structure BsR (w : World) (b : Nat) (T : Ps) (A : Option Addr) (c : Nat) : Prop where
  keys : w.cell? ⟨b, 256, none⟩ = some (.slice A T.length c)
  row : Kd.C Kd.string w A T.length (T.map fun p => ⟨#[p.1]⟩)
  reps : ∀ x : Nat, x < 256 → ∃ v, w.cell? ⟨b, x, none⟩ = some v ∧ Rep w b v (look T x)
theorem BsW.reads {w : World} {base b : Nat} {T : Ps} (h : BsW w base b T) : ∃ A c, BsR w b T A c := by
  obtain ⟨C, hblk, hCs, ⟨tr, htr, hRt⟩, hCx⟩ := h
  obtain ⟨A, c, rfl, _, hR⟩ := Kd.R_reads hRt
  rw [List.length_map] at htr hR
  refine ⟨A, c, by unfold World.cell?; simp [hblk, htr], hR, fun x hx => ?_⟩
  obtain ⟨v, hv, hr⟩ := hCx x hx
  exact ⟨v, by unfold World.cell?; simp [hblk, hv], hr⟩
theorem key_cell {w : World} {A : Option Addr} {T : Ps} (h : Kd.C Kd.string w A T.length (T.map fun p => ⟨#[p.1]⟩)) (j : Nat) (hj : j < T.length) : ∃ ad, A = some ad ∧ w.cell? (ad.add j) = some (.string ⟨#[T[j].1]⟩) := by
  obtain ⟨ad, e, hx⟩ := Kd.at_string h (j : Int) (by omega) (by omega)
  refine ⟨ad, e, ?_⟩
  rw [Int.toNat_natCast] at hx
  rw [hx]
  unfold rdOf
  rw [Int.toNat_natCast, List.getD_eq_getElem?_getD, List.getElem?_map, List.getElem?_eq_getElem hj]
  rfl
theorem Rep.below {w w' : World} {b : Nat} {v : Value} {o : Option (List UInt8)} (h : Rep w b v o) (hb : Below w.heap.size w w') : Rep w' b v o := h.move (fun g _ hu => by obtain ⟨C, hC⟩ := hu; exact hb.block _ (Array.getElem?_eq_some_iff.1 hC).1)
theorem BsR.below {w w' : World} {b : Nat} {T : Ps} {A : Option Addr} {c : Nat} (h : BsR w b T A c) (hb : Below w.heap.size w w') : BsR w' b T A c := by
  have hlt : b < w.heap.size := lt_of_cell (p := ⟨b, 256, none⟩) h.keys
  refine ⟨(hb.cell (p := ⟨b, 256, none⟩) hlt).trans h.keys, Kd.C_below h.row hb, fun x hx => ?_⟩
  obtain ⟨v, hv, hr⟩ := h.reps x hx
  exact ⟨v, (hb.cell (p := ⟨b, x, none⟩) hlt).trans hv, hr.below hb⟩
theorem look_self (T : Ps) (hnd : (T.map (·.1.toNat)).Nodup) (j : Nat) (hj : j < T.length) : look T T[j].1.toNat = some T[j].2 := by
  induction T generalizing j with
  | nil => simp at hj
  | cons p T ih =>
    rw [List.map_cons, List.nodup_cons] at hnd
    unfold look
    cases j with
    | zero => simp
    | succ j =>
      have hj' : j < T.length := by simpa using hj
      rw [List.find?_cons_of_neg (by
        simp only [List.getElem_cons_succ, beq_iff_eq]
        intro he
        exact hnd.1 (List.mem_map.2 ⟨T[j], List.getElem_mem hj', he.symm⟩))]
      exact ih hnd.2 j hj'
theorem infoU8r : (Tryz.prog.info? 5).map (fun i => (i.zero, i.size, i.bytes)) = some (some (.int .u8 0), 1, 1) := by kernel_rfl
theorem sizeU8r : (Tryz.prog.info? 5).map (·.size) = some 1 := by kernel_rfl
theorem nums8_len (k : IntKind) (a : List Int) : (nums k a).length = a.length := by simp [nums]
theorem nums8_one (k : IntKind) (a : List Int) : ∀ v ∈ nums k a, v.oneCell' = true := by
  intro v hv
  unfold nums at hv
  obtain ⟨x, _, rfl⟩ := List.mem_map.1 hv
  rfl
theorem madeC (N : Nat) : madeCells #[Value.int .u8 0] N = (nums .u8 (List.replicate N 0)).toArray := by
  rw [← Array.toList_inj, List.toList_toArray]
  apply List.ext_getElem
  · simp [nums, madeCells]
  · intro i h1 h2
    simp [nums, madeCells, Nat.mod_one]
def bI (l : List UInt8) : List Int := l.map fun b => (b.toNat : Int)
/-- The row when so much is written of it. -/
def outRow (N : Nat) (o : List UInt8) : List Int := bI o ++ List.replicate (N - o.length) 0
theorem outRow_len (N : Nat) (o : List UInt8) (h : o.length ≤ N) : (outRow N o).length = N := by unfold outRow bI; simp; omega
theorem outRow_put (N : Nat) (o : List UInt8) (x : UInt8) (h : o.length < N) : (nums .u8 (outRow N o)).toArray.setIfInBounds o.length (.int .u8 x.toNat) = (nums .u8 (outRow N (o ++ [x]))).toArray := by
  rw [← Array.toList_inj]
  simp only [Array.toList_setIfInBounds, List.toList_toArray]
  unfold outRow nums bI
  rw [List.map_append, List.set_append_right _ _ (by simp)]
  simp only [List.length_map, Nat.sub_self, List.map_append, List.map_replicate, List.length_append, List.length_singleton, List.append_assoc]
  rw [show N - o.length = (N - (o.length + 1)) + 1 by omega, List.replicate_succ, List.set_cons_zero]
  rfl
theorem outRow_splice (N : Nat) (o ys : List UInt8) (h : o.length + ys.length ≤ N) : splice (nums .u8 (outRow N o)) o.length (nums .u8 (bI ys)) = nums .u8 (outRow N (o ++ ys)) := by
  unfold splice outRow nums bI
  have h1 : ((o.map fun b => (b.toNat : Int)).map (Value.int .u8)).length = o.length := by simp
  rw [List.map_append, List.take_append_of_le_length (by rw [h1]; omega), List.take_of_length_le (by rw [h1]; omega)]
  rw [List.drop_append, h1, List.drop_of_length_le (by rw [h1]; omega), List.nil_append]
  simp only [List.map_append, List.append_assoc, List.length_map, List.length_append, List.map_replicate, List.drop_replicate]
  rw [show N - o.length - (o.length + ys.length - o.length) = N - (o.length + ys.length) by omega]
theorem bI_back {w : World} {g n cap : Nat} {t : TypeId} {fr : Nat × Nat} (l : List UInt8) (h : w.heap[g]? = some (.cells (nums .u8 (bI l)).toArray t fr)) (hn : n = l.length) :
    (convert 35 9 (.slice (some ⟨g, 0, none⟩) n cap)).run Tryz.prog w = .ok (.string ⟨l.toArray⟩) w := by
  subst hn
  exact run_convert_bytes_back (P := Tryz.prog) w 35 9 5 ⟨g, 0, none⟩ cap l Tryz.underlying35 Tryz.underlying5 Tryz.underlying9 (fun i hi => by
    rw [Addr.add_lit, Nat.zero_add]
    unfold World.cell?
    simp only [h]
    unfold nums bI
    simp [List.getElem?_eq_getElem hi])
/-- One key's share; whether any of the first j stands in the text. -/
def kf (s : List UInt8) (p : UInt8 × List UInt8) : Nat := s.count p.1 * (p.2.length - 1)
def anyB (T : Ps) (s : List UInt8) (i : Nat) : Bool := (s.take i).any fun c => (look T c.toNat).isSome
theorem anyB_succ (T : Ps) (s : List UInt8) (i : Nat) (h : i < s.length) : anyB T s (i + 1) = (anyB T s i || (look T s[i].toNat).isSome) := by
  unfold anyB; rw [List.take_succ_eq_append_getElem h, List.any_append]; simp
theorem sumB_le (T : Ps) (hT : ∀ p ∈ T, p.2.length ≤ 100) (s : List UInt8) (i : Nat) : ((s.take i).map (addN T)).sum ≤ 100 * s.length := by
  have h1 := add_le T hT (s.take i)
  rw [List.length_take] at h1
  omega
def anyK (s : List UInt8) (T : Ps) (j : Nat) : Bool := (T.take j).any fun p => decide (0 < s.count p.1)
theorem anyK_succ (s : List UInt8) (T : Ps) (j : Nat) (h : j < T.length) : anyK s T (j + 1) = (anyK s T j || decide (0 < s.count T[j].1)) := by
  unfold anyK; rw [List.take_succ_eq_append_getElem h, List.any_append]; simp
theorem kf_le (s : List UInt8) (T : Ps) (hT : ∀ p ∈ T, p.2.length ≤ 100) (hnd : (T.map (·.1.toNat)).Nodup) (j : Nat) : ((T.take j).map (kf s)).sum ≤ 100 * s.length := by
  have h1 : ((T.take j).map (kf s)).sum ≤ (T.map (kf s)).sum := by
    conv => rhs; rw [← List.take_append_drop j T, List.map_append, List.sum_append]
    omega
  have h2 : (T.map (kf s)).sum = (s.map (addN T)).sum := cnt_sum T hnd s
  have := add_le T hT s
  omega
set_option maxRecDepth 100000 in
set_option maxHeartbeats 2000000 in
theorem bsrep_few (b : Nat) (T : Ps) (A : Option Addr) (c : Nat) (s : ByteArray) (w : World) (h : BsR w b T A c) (hs : s.size ≤ 4000000000) (hT : T.length ≤ 100) (hlen : ∀ p ∈ T, 2 ≤ p.2.length ∧ p.2.length ≤ 100) (hnd : (T.map (·.1.toNat)).Nodup) (hp0 : T.length * 8 ≤ s.size) :
    Calls Tryz.prog 111 #[.pointer (some ⟨b, 0, none⟩), .string s] w fun e w' => e = .returned (.string ⟨(outB T s.data.toList).toArray⟩) ∧ Below w.heap.size w w' := by
  have HR := Aside0.mk h
  have HL := Aside0.mk hlen
  have HND := Aside0.mk hnd
  have hkey := h.keys
  obtain ⟨k, hk⟩ : ∃ k, k = T.length := ⟨_, rfl⟩
  rw [← hk] at hkey hT hp0
  have hp := hp0
  clear hp0
  have HKK := Aside0.mk hk
  have wk : wrap64 ((k : Int) * 8) = (k : Int) * 8 := w64r2 (by omega) (by omega)
  obtain ⟨n, hn⟩ : ∃ n, n = s.size := ⟨_, rfl⟩
  have HN := Aside0.mk hn.symm
  have hn4 : n ≤ 4000000000 := by omega
  clear h hlen hnd hk hn hs
  have t1 : decide ((k : Int) * 8 ≤ (s.size : Int)) = true := by simp; omega
  have HP := Aside0.mk hp
  clear hp
  go_enter Tryz.func111, Tryz.ntmps111
  go_wp2
  go_loopw [5, 6, 32] (fun z av iv wr => ∃ j : Nat, j ≤ k ∧ iv = .int .i64 (j : Int) ∧ z = .int .i64 ((s.size + ((T.take j).map (kf s.data.toList)).sum : Nat) : Int) ∧ av = .bool (anyK s.data.toList T j) ∧ Aside0 (Below w.heap.size w wr)) (fun _ _ iv _ => k - (intOf iv).toNat)
  case atStart => exact ⟨0, Nat.zero_le _, rfl, rfl, rfl, ⟨Below.refl _ _⟩⟩
  case round =>
    obtain ⟨j, hj, rfl, rfl, rfl, HB⟩ := hrel
    by_cases hlt : j < k
    · have hjT : j < T.length := by rw [← HKK.out]; exact hlt
      have hR := HR.out.below HB.out
      obtain ⟨ad, hA, hcell⟩ := key_cell hR.row j hjT
      subst hA
      have hl2 := HL.out _ (List.getElem_mem hjT)
      have hself := look_self T HND.out j hjT
      obtain ⟨v, hv, hrep⟩ := hR.reps T[j].1.toNat (by have := T[j].1.toNat_lt; omega)
      rw [hself] at hrep
      obtain ⟨gr, cap, rfl, _, _⟩ := hrep
      have HCNT := Aside0.mk (fun W => Tryz.strings_Count_one s T[j].1 W)
      have HS : Aside0 (((T.take (j + 1)).map (kf s.data.toList)).sum = ((T.take j).map (kf s.data.toList)).sum + s.data.toList.count T[j].1 * (T[j].2.length - 1)) := ⟨sumT_take_snoc _ _ _ hjT⟩
      have HA := Aside0.mk (anyK_succ s.data.toList T j hjT)
      have HLE : Aside0 (((T.take j).map (kf s.data.toList)).sum ≤ 100 * s.data.toList.length ∧ ((T.take (j + 1)).map (kf s.data.toList)).sum ≤ 100 * s.data.toList.length) := ⟨kf_le _ _ (fun p hp => (HL.out p hp).2) HND.out _, kf_le _ _ (fun p hp => (HL.out p hp).2) HND.out _⟩
      have hsl : s.data.toList.length = s.size := (Lib.size_eq s).symm
      have HHL := Aside0.mk hl2
      have HCB : Aside0 (Lib.countByte s.data.toList T[j].1 = s.data.toList.count T[j].1) := ⟨rfl⟩
      have hx := T[j].1.toNat_lt
      rw [hsl] at HLE
      generalize hS1 : ((T.take (j + 1)).map (kf s.data.toList)).sum = S1 at *
      generalize hS0 : ((T.take j).map (kf s.data.toList)).sum = S0 at *
      generalize ha1 : anyK s.data.toList T (j + 1) = a1 at *
      generalize ha0 : anyK s.data.toList T j = a0 at *
      have ES1 := Aside0.mk hS1
      have EA1 := Aside0.mk ha1
      clear hS1 hS0 ha1 ha0
      generalize Lib.countByte s.data.toList T[j].1 = cn0 at *
      rw [← HCB.out] at HS HA
      generalize T[j].1 = x at *
      generalize T[j].2 = y at *
      have hg0 : ∀ h, (({ data := #[x] } : ByteArray)[0]'h) = x := fun _ => rfl
      have hx1 : (x.toNat : Int) < 256 := by omega
      have hx2 : x.toNat < 256 := hx
      have tj : decide ((j : Int) < (k : Int)) = true := by simp; omega
      have wj : wrap64 ((j : Int) + 1) = (j : Int) + 1 := w64r2 (by omega) (by omega)
      have hkey2 := hR.keys
      rw [← HKK.out] at hkey2
      clear hR hl2 hself hx hsl HCB
      have HWR := Aside0.mk HB.out
      by_cases h0 : cn0 = 0
      · subst h0
        go_wp2_with (go_at_call 113; refine (HCNT.out _).mono ?_; rintro e w1 ⟨rfl, rfl⟩)
        refine ⟨⟨j + 1, by omega, by go_num, by rw [ES1.out, HS.out]; simp, by rw [EA1.out, HA.out]; simp, HB⟩, by simp [intOf]; omega⟩
      · have tc : ((cn0 : Int) == 0) = false := by simp; omega
        have tcn : (cn0 == 0) = false := by simp; omega
        have tne : ((cn0 : Int) != 0) = true := by simp; omega
        have HZ : Aside0 (cn0 * (y.length - 1) ≤ 100 * s.size) := ⟨by have := HLE.out; have := HS.out; omega⟩
        have ey : ((y.length - 1 : Nat) : Int) = (y.length : Int) - 1 := by have := HHL.out; omega
        have wy : wrap64 ((y.length : Int) - 1) = (y.length : Int) - 1 := by have := HHL.out; exact w64r2 (by omega) (by omega)
        have wm : wrap64 ((cn0 : Int) * ((y.length : Int) - 1)) = (cn0 : Int) * ((y.length : Int) - 1) := by
          rw [← ey, ← Int.natCast_mul]; have := HZ.out; have := HN.out; exact w64r2 (by omega) (by omega)
        have wa : wrap64 (((s.size : Int) + (S0 : Int)) + (cn0 : Int) * ((y.length : Int) - 1)) = ((s.size : Int) + (S0 : Int)) + (cn0 : Int) * ((y.length : Int) - 1) := by
          rw [← ey, ← Int.natCast_mul]; have := HZ.out; have := HLE.out; have := HN.out; exact w64r2 (by omega) (by omega)
        have EY := Aside0.mk ey
        clear ey
        go_wp2_with (go_at_call 113; refine (HCNT.out _).mono ?_; rintro e w1 ⟨rfl, rfl⟩)
        go_quiet (fail)
        go_wp2
        refine ⟨⟨j + 1, by omega, by go_num, ?_, by rw [EA1.out, HA.out]; simp; omega, ⟨pw_below_drewN HB.out _⟩⟩, by simp [intOf]; omega⟩
        rw [wa, ES1.out, HS.out, ← EY.out, ← Int.natCast_mul]
        simp
        omega
    · obtain rfl : j = k := by omega
      have tj : decide ((j : Int) < (j : Int)) = false := by simp
      have hend : s.size + ((T.take j).map (kf s.data.toList)).sum = (outB T s.data.toList).length := by
        rw [HKK.out, List.take_length, outB_len T (fun p hp => by have := HL.out p hp; omega), ← cnt_sum T HND.out, ← Lib.size_eq]
        rfl
      rw [hend]
      have hany : anyK s.data.toList T j = false → outB T s.data.toList = s.data.toList := fun hf => outB_same _ _ (look_zero _ _ (fun p hp => by
        rw [HKK.out] at hf
        unfold anyK at hf
        rw [List.take_length, List.any_eq_false] at hf
        have := hf p hp
        simp only [decide_eq_true_eq] at this
        omega))
      have HANY : Aside0 (∀ x, anyK s.data.toList T j = x → x = false → outB T s.data.toList = s.data.toList) := ⟨fun x hx hf => hany (hx.trans hf)⟩
      generalize hav : anyK s.data.toList T j = av at *
      have HAV := Aside0.mk hav
      clear hav
      have HRW := Aside0.mk (HR.out.below HB.out)
      clear hany hend
      cases av with
      | false =>
        go_wp2
        go_ret
        exact ⟨by have := HANY.out _ rfl rfl; rw [this]; rfl, HB.out⟩
      | true =>
        obtain ⟨N, hN⟩ : ∃ N, N = (outB T s.data.toList).length := ⟨_, rfl⟩
        rw [← hN]
        have HNN := Aside0.mk hN
        clear hN
        have hNb : N ≤ 404000000000 := by
          have h1 := outB_len T (fun p hp => by have := HL.out p hp; omega) s.data.toList
          have h2 := add_le T (fun p hp => (HL.out p hp).2) s.data.toList
          rw [← Lib.size_eq] at h1 h2
          have := HN.out
          have := HNN.out
          omega
        have hmk := print_make (P := Tryz.prog) 35 5 .u8 1 Tryz.underlying35 infoU8r (by decide) N (by omega)
        obtain ⟨wB, hWB⟩ : ∃ x, x = wr := ⟨_, rfl⟩
        subst hWB
        have HG : Aside0 ((wB.alloc (.cells (madeCells #[.int .u8 0] N) 5)).heap[wB.heap.size]? = some (.cells (nums .u8 (outRow N (outB T (s.data.toList.take 0)))).toArray 5 (0, 0))) := ⟨by
          rw [show outRow N (outB T (s.data.toList.take 0)) = List.replicate N 0 by simp [outRow, outB, bI], ← madeC]
          show (wB.heap.push _)[wB.heap.size]? = _
          simp⟩
        have HBB : Aside0 (Below wB.heap.size wB (wB.alloc (.cells (madeCells #[.int .u8 0] N) 5))) := ⟨(Below.refl _ _).alloc (Nat.le_refl _) _⟩
        go_wp2
        go_loopw [13, 14] (fun jv iv wr => ∃ i : Nat, i ≤ n ∧ iv = .int .i64 (i : Int) ∧ jv = .int .i64 (((outB T (s.data.toList.take i)).length : Nat) : Int) ∧ Aside0 (wr.heap[wB.heap.size]? = some (.cells (nums .u8 (outRow N (outB T (s.data.toList.take i)))).toArray 5 (0, 0))) ∧ Aside0 (Below wB.heap.size wB wr)) (fun _ iv _ => n - (intOf iv).toNat)
        case atStart => exact ⟨0, Nat.zero_le _, rfl, rfl, HG, HBB⟩
        case round =>
          obtain ⟨i, hi, rfl, rfl, HG, HBB⟩ := hrel
          by_cases hin : i < n
          · have his : i < s.size := by rw [HN.out]; exact hin
            have hil : i < s.data.toList.length := by rw [← Lib.size_eq]; exact his
            have ti : decide ((i : Int) < (s.size : Int)) = true := by simp; omega
            have wi : wrap64 ((i : Int) + 1) = (i : Int) + 1 := w64r2 (by omega) (by omega)
            have hR := HRW.out.below HBB.out
            have hx := s.data.toList[i].toNat_lt
            obtain ⟨v, hv, hrep⟩ := hR.reps s.data.toList[i].toNat (by omega)
            have HO1 := Aside0.mk (outB_snoc T s.data.toList i hil)
            have HLE1 : Aside0 ((outB T (s.data.toList.take (i + 1))).length ≤ N) := ⟨by rw [HNN.out]; exact outB_take_le _ _ _⟩
            obtain ⟨x, hxx⟩ : ∃ x, s.data.toList[i]'hil = x := ⟨_, rfl⟩
            have hsi : ∀ h, (s[i]'h) = x := fun h => by rw [← hxx]; show s.data[i] = _; simp
            rw [hxx] at hx hv hrep HO1
            generalize ho1 : outB T (s.data.toList.take (i + 1)) = o1 at *
            generalize ho0 : outB T (s.data.toList.take i) = o0 at *
            have HEO := Aside0.mk ho1
            have hx1 : (x.toNat : Int) < 256 := by omega
            have hx2 : x.toNat < 256 := hx
            clear hR ho0 ho1 hxx hil
            cases hlk : look T x.toNat with
            | none =>
              rw [hlk] at hrep HO1
              obtain rfl : v = .slice none 0 0 := hrep
              have hlt : o0.length < N := by have := HLE1.out; rw [HO1.out] at this; simp at this; omega
              have hcx : (nums .u8 (outRow N o0)).toArray[o0.length]? = some (.int .u8 0) := by
                have h0 : (outRow N o0)[o0.length]? = some 0 := by
                  unfold outRow bI
                  rw [List.getElem?_append_right (by rw [List.length_map]; exact Nat.le_refl _), List.length_map, Nat.sub_self, List.getElem?_replicate, if_pos (by omega)]
                rw [List.getElem?_toArray]
                unfold nums
                rw [List.getElem?_map, h0]
                rfl
              have cj : wr.cell? ⟨wB.heap.size, o0.length, none⟩ = some (.int .u8 0) := (blk_cell HG.out _).trans hcx
              have fj := blk_frozen HG.out o0.length
              have wj : wrap64 ((o0.length : Int) + 1) = (o0.length : Int) + 1 := w64r2 (by omega) (by omega)
              clear hcx
              have hneq : ∀ W : World, (binOp .neq 35 (.slice none 0 0) (.slice none 0 0)).run Tryz.prog W = .ok (.bool false) W := fun W => Go.run_neq_slice_nil W _ _ _ _ _ Tryz.underlying35
              have HLT := Aside0.mk hlt
              have hjN : (o0.length : Int) < (N : Int) := by omega
              go_wp2
              refine ⟨⟨i + 1, by omega, by go_num, ?_, ⟨?_⟩, ⟨HBB.out.setCell (p := ⟨wB.heap.size, o0.length, none⟩) (Nat.le_refl _) _⟩⟩, by simp [intOf]; omega⟩
              · rw [HEO.out, HO1.out]; simp
              · rw [HEO.out, HO1.out]
                show (wr.setCell ⟨wB.heap.size, o0.length, none⟩ (.int .u8 x.toNat)).heap[wB.heap.size]? = some (Obj.cells (nums .u8 (outRow N (o0 ++ [x]))).toArray 5 (0, 0))
                rw [← outRow_put N o0 x HLT.out]
                have hg := HG.out
                simp only [World.setCell, Array.getElem?_modify, hg]
                simp
            | some ys =>
              rw [hlk] at hrep HO1
              obtain ⟨gr, cap, rfl, _, hrow⟩ := hrep
              have hneq : ∀ W : World, (binOp .neq 35 (.slice (some ⟨gr, 0, none⟩) ys.length cap) (.slice none 0 0)).run Tryz.prog W = .ok (.bool true) W := fun W => Go.run_neq_slice_nil W _ _ _ _ _ Tryz.underlying35
              have hfit : o0.length + ys.length ≤ N := by have := HLE1.out; rw [HO1.out, List.length_append] at this; exact this
              have hbn : bnums ⟨ys.toArray⟩ = bI ys := by simp [bnums, bI]
              rw [hbn] at hrow
              have HSRC : Aside0 (∀ j u, (nums .u8 (bI ys))[j]? = some u → wr.cell? ((⟨gr, 0, none⟩ : Addr).add j) = some u) := ⟨fun j u hu => by
                have hj : j < (bI ys).length := by
                  have := (List.getElem?_eq_some_iff.1 hu).1
                  rwa [nums8_len] at this
                rw [Addr.add_lit, Nat.zero_add, hrow.cell hj, ← hu]
                unfold nums
                rw [List.getElem?_map, List.getD_eq_getElem?_getD, List.getElem?_eq_getElem hj]
                rfl⟩
              have HFIT : Aside0 (o0.length + (nums .u8 (bI ys)).length ≤ (nums .u8 (outRow N o0)).length) := ⟨by rw [nums8_len, nums8_len, outRow_len N o0 (by omega)]; simpa [bI] using hfit⟩
              have HCS : Aside0 ((nums .u8 (bI ys)).length = Nat.min ys.length (N - o0.length)) := ⟨by rw [nums8_len, show Nat.min ys.length (N - o0.length) = ys.length from Nat.min_eq_left (by omega)]; simp [bI]⟩
              have HLEN : Aside0 ((nums .u8 (bI ys)).length = ys.length) := ⟨by rw [nums8_len]; simp [bI]⟩
              have HFT := Aside0.mk hfit
              obtain ⟨CS, hCS⟩ : ∃ CS, CS = nums .u8 (bI ys) := ⟨_, rfl⟩
              have HQ := Aside0.mk hCS
              rw [← hCS] at HSRC HFIT HCS HLEN
              have HONE : Aside0 (∀ u ∈ CS, u.oneCell' = true) := ⟨by rw [hCS]; exact nums8_one _ _⟩
              have HGO : Aside0 (goInt CS.length = Value.int .i64 (ys.length : Int)) := ⟨by rw [HLEN.out]; rfl⟩
              have hsum : IntKind.i64.wrap ((o0.length : Int) + (ys.length : Int)) = (o0.length : Int) + (ys.length : Int) := IntWalk.i64_in _ (by omega)
              have hj0 : o0.length ≤ N := by omega
              have hy2 : 2 ≤ ys.length := by obtain ⟨p, hp, rfl⟩ := look_mem hlk; exact (HL.out p hp).1
              have hnN : ¬ N = o0.length := by omega
              clear hCS hfit hrow hbn
              go_wp2
              go_region_law (refine step_copy_splice rfl (.tmp 105) (.tmp 111) 35 35 rfl 5 Tryz.underlying35 sizeU8r (some ⟨wB.heap.size, o0.length, none⟩) (some ⟨gr, 0, none⟩) (N - o0.length) (N - o0.length) ys.length cap (by simp [Act.eval, Act.put]) (by simp [Act.eval, Act.put]) wB.heap.size o0.length (nums .u8 (outRow N o0)) 5 HG.out CS HCS.out (fun _ => ⟨rfl, _, rfl, HSRC.out⟩) HFIT.out HONE.out wB.heap.size wB HBB.out.drew (Nat.le_refl _) ?_; intro w4 hg4 hb4; rw [HGO.out])
              have HG4 : Aside0 (w4.heap[wB.heap.size]? = some (.cells (nums .u8 (outRow N (outB T (s.data.toList.take (i + 1))))).toArray 5 (0, 0))) := ⟨by have h := hg4.out; rw [HQ.out, outRow_splice N o0 ys HFT.out] at h; rw [HEO.out, HO1.out]; exact h⟩
              have HB4 := Aside0.mk hb4
              have HLN : Aside0 ((((outB T (s.data.toList.take (i + 1))).length : Nat) : Int) = (o0.length : Int) + (ys.length : Int)) := ⟨by rw [HEO.out, HO1.out]; simp⟩
              clear hg4 hb4 HG HBB HSRC HFIT HCS HQ HONE HGO hsum
              go_simp
              go_wp2
              refine ⟨⟨i + 1, by omega, by go_num, by rw [HLN.out], HG4, HB4⟩, by simp [intOf]; omega⟩
          · obtain rfl : i = n := by omega
            have ti : decide ((i : Int) < (s.size : Int)) = false := by have := HN.out; simp; omega
            have tin : decide (i < s.size) = false := by have := HN.out; simp; omega
            have hfull : s.data.toList.take i = s.data.toList := List.take_of_length_le (by rw [← Lib.size_eq, HN.out]; exact Nat.le_refl _)
            rw [hfull] at HG
            have hrow : outRow N (outB T s.data.toList) = bI (outB T s.data.toList) := by unfold outRow; rw [HNN.out, Nat.sub_self]; simp
            rw [hrow] at HG
            have hconv := bI_back (n := N) (cap := N) (outB T s.data.toList) HG.out HNN.out
            clear hfull hrow
            go_wp2
            go_ret
            exact ⟨rfl, HB.out.trans (HBB.out.mono HB.out.size)⟩
set_option maxRecDepth 100000 in
set_option maxHeartbeats 2000000 in
theorem bsrep_more (b : Nat) (T : Ps) (A : Option Addr) (c : Nat) (s : ByteArray) (w : World) (h : BsR w b T A c) (hs : s.size ≤ 4000000000) (hT : T.length ≤ 100) (hlen : ∀ p ∈ T, 2 ≤ p.2.length ∧ p.2.length ≤ 100) (hnd : (T.map (·.1.toNat)).Nodup) (hp0 : ¬ T.length * 8 ≤ s.size) :
    Calls Tryz.prog 111 #[.pointer (some ⟨b, 0, none⟩), .string s] w fun e w' => e = .returned (.string ⟨(outB T s.data.toList).toArray⟩) ∧ Below w.heap.size w w' := by
  have HR := Aside0.mk h
  have HL := Aside0.mk hlen
  have HND := Aside0.mk hnd
  have hkey := h.keys
  obtain ⟨k, hk⟩ : ∃ k, k = T.length := ⟨_, rfl⟩
  rw [← hk] at hkey hT hp0
  have hp := hp0
  clear hp0
  have HKK := Aside0.mk hk
  have wk : wrap64 ((k : Int) * 8) = (k : Int) * 8 := w64r2 (by omega) (by omega)
  obtain ⟨n, hn⟩ : ∃ n, n = s.size := ⟨_, rfl⟩
  have HN := Aside0.mk hn.symm
  have hn4 : n ≤ 4000000000 := by omega
  clear h hlen hnd hk hn hs
  have t1 : decide ((k : Int) * 8 ≤ (s.size : Int)) = false := by simp; omega
  have HP := Aside0.mk hp
  clear hp
  go_enter Tryz.func111, Tryz.ntmps111
  go_wp2
  go_loopw [5, 6, 10] (fun z av iv wr => ∃ i : Nat, i ≤ n ∧ iv = .int .i64 (i : Int) ∧ z = .int .i64 ((s.size + ((s.data.toList.take i).map (addN T)).sum : Nat) : Int) ∧ av = .bool (anyB T s.data.toList i) ∧ Aside0 (Below w.heap.size w wr)) (fun _ _ iv _ => n - (intOf iv).toNat)
  case atStart => exact ⟨0, Nat.zero_le _, rfl, rfl, rfl, ⟨Below.refl _ _⟩⟩
  case round =>
    obtain ⟨i, hi, rfl, rfl, rfl, HB⟩ := hrel
    by_cases hin : i < n
    · have his : i < s.size := by rw [HN.out]; exact hin
      have hil : i < s.data.toList.length := by rw [← Lib.size_eq]; exact his
      have ti : decide ((i : Int) < (s.size : Int)) = true := by simp; omega
      have wi : wrap64 ((i : Int) + 1) = (i : Int) + 1 := w64r2 (by omega) (by omega)
      have hR := HR.out.below HB.out
      have hx := s.data.toList[i].toNat_lt
      obtain ⟨v, hv, hrep⟩ := hR.reps s.data.toList[i].toNat (by omega)
      have HS : Aside0 (((s.data.toList.take (i + 1)).map (addN T)).sum = ((s.data.toList.take i).map (addN T)).sum + addN T s.data.toList[i]) := ⟨sum_take_snoc _ _ _ hil⟩
      have HA := Aside0.mk (anyB_succ T s.data.toList i hil)
      have HLE : Aside0 (((s.data.toList.take i).map (addN T)).sum ≤ 100 * s.data.toList.length) := ⟨sumB_le T (fun p hp => (HL.out p hp).2) _ _⟩
      rw [← Lib.size_eq] at HLE
      obtain ⟨x, hxx⟩ : ∃ x, s.data.toList[i]'hil = x := ⟨_, rfl⟩
      have hsi : ∀ h, (s[i]'h) = x := fun h => by rw [← hxx]; show s.data[i] = _; simp
      rw [hxx] at hx hv hrep HS HA
      generalize hS1 : ((s.data.toList.take (i + 1)).map (addN T)).sum = S1 at *
      generalize hS0 : ((s.data.toList.take i).map (addN T)).sum = S0 at *
      generalize ha1 : anyB T s.data.toList (i + 1) = a1 at *
      generalize ha0 : anyB T s.data.toList i = a0 at *
      have ES1 := Aside0.mk hS1
      have EA1 := Aside0.mk ha1
      have hx1 : (x.toNat : Int) < 256 := by omega
      have hx2 : x.toNat < 256 := hx
      clear hS1 hS0 ha1 ha0 hR hxx hil
      cases hlk : look T x.toNat with
      | none =>
        have hadd : addN T x = 0 := by unfold addN; rw [hlk]
        rw [hlk] at hrep HA
        rw [hadd] at HS
        obtain rfl : v = .slice none 0 0 := hrep
        have hneq : ∀ W : World, (binOp .neq 35 (.slice none 0 0) (.slice none 0 0)).run Tryz.prog W = .ok (.bool false) W := fun W => Go.run_neq_slice_nil W _ _ _ _ _ Tryz.underlying35
        clear hadd
        go_wp2
        refine ⟨⟨i + 1, by omega, by go_num, by rw [ES1.out, HS.out]; simp, by rw [EA1.out, HA.out]; simp, HB⟩, by simp [intOf]; omega⟩
      | some ys =>
        have hadd : addN T x = ys.length - 1 := by unfold addN; rw [hlk]
        rw [hlk] at hrep HA
        rw [hadd] at HS
        obtain ⟨gr, cap, rfl, _, hrow⟩ := hrep
        have hneq : ∀ W : World, (binOp .neq 35 (.slice (some ⟨gr, 0, none⟩) ys.length cap) (.slice none 0 0)).run Tryz.prog W = .ok (.bool true) W := fun W => Go.run_neq_slice_nil W _ _ _ _ _ Tryz.underlying35
        have hyl : 2 ≤ ys.length ∧ ys.length ≤ 100 := by obtain ⟨p, hp, rfl⟩ := look_mem hlk; exact HL.out p hp
        have wy : wrap64 ((ys.length : Int) - 1) = (ys.length : Int) - 1 := w64r2 (by omega) (by omega)
        have wa : wrap64 (((s.size : Int) + (S0 : Int)) + ((ys.length : Int) - 1)) = ((s.size : Int) + (S0 : Int)) + ((ys.length : Int) - 1) := by
          have := HLE.out; have := HN.out; exact w64r2 (by omega) (by omega)
        have HYL := Aside0.mk hyl
        clear hadd hyl hrow
        go_wp2
        refine ⟨⟨i + 1, by omega, by go_num, ?_, by rw [EA1.out, HA.out]; simp, HB⟩, by simp [intOf]; omega⟩
        rw [ES1.out, HS.out]
        have := HYL.out
        simp
        omega
    · obtain rfl : n = i := by omega
      have ti : decide ((n : Int) < (s.size : Int)) = false := by have := HN.out; simp; omega
      have tin : decide (n < s.size) = false := by have := HN.out; simp; omega
      have hfl : s.data.toList.take n = s.data.toList := List.take_of_length_le (by rw [← Lib.size_eq, HN.out]; exact Nat.le_refl _)
      have hend : s.size + ((s.data.toList.take n).map (addN T)).sum = (outB T s.data.toList).length := by
        rw [hfl, outB_len T (fun p hp => by have := HL.out p hp; omega), ← Lib.size_eq]
      rw [hend]
      have hany : anyB T s.data.toList n = false → outB T s.data.toList = s.data.toList := fun hf => outB_same _ _ (fun c hc => by
        unfold anyB at hf
        rw [hfl, List.any_eq_false] at hf
        have := hf c hc
        simpa using this)
      have HANY : Aside0 (∀ x, anyB T s.data.toList n = x → x = false → outB T s.data.toList = s.data.toList) := ⟨fun x hx hf => hany (hx.trans hf)⟩
      generalize hav : anyB T s.data.toList n = av at *
      have HAV := Aside0.mk hav
      have HRW := Aside0.mk (HR.out.below HB.out)
      clear hav hany hend hfl
      cases av with
      | false =>
        go_wp2
        go_ret
        exact ⟨by have := HANY.out _ rfl rfl; rw [this]; rfl, HB.out⟩
      | true =>
        obtain ⟨N, hN⟩ : ∃ N, N = (outB T s.data.toList).length := ⟨_, rfl⟩
        rw [← hN]
        have HNN := Aside0.mk hN
        clear hN
        have hNb : N ≤ 404000000000 := by
          have h1 := outB_len T (fun p hp => by have := HL.out p hp; omega) s.data.toList
          have h2 := add_le T (fun p hp => (HL.out p hp).2) s.data.toList
          rw [← Lib.size_eq] at h1 h2
          have := HN.out
          have := HNN.out
          omega
        have hmk := print_make (P := Tryz.prog) 35 5 .u8 1 Tryz.underlying35 infoU8r (by decide) N (by omega)
        obtain ⟨wB, hWB⟩ : ∃ x, x = wr := ⟨_, rfl⟩
        subst hWB
        have HG : Aside0 ((wB.alloc (.cells (madeCells #[.int .u8 0] N) 5)).heap[wB.heap.size]? = some (.cells (nums .u8 (outRow N (outB T (s.data.toList.take 0)))).toArray 5 (0, 0))) := ⟨by
          rw [show outRow N (outB T (s.data.toList.take 0)) = List.replicate N 0 by simp [outRow, outB, bI], ← madeC]
          show (wB.heap.push _)[wB.heap.size]? = _
          simp⟩
        have HBB : Aside0 (Below wB.heap.size wB (wB.alloc (.cells (madeCells #[.int .u8 0] N) 5))) := ⟨(Below.refl _ _).alloc (Nat.le_refl _) _⟩
        go_wp2
        go_loopw [13, 14] (fun jv iv wr => ∃ i : Nat, i ≤ n ∧ iv = .int .i64 (i : Int) ∧ jv = .int .i64 (((outB T (s.data.toList.take i)).length : Nat) : Int) ∧ Aside0 (wr.heap[wB.heap.size]? = some (.cells (nums .u8 (outRow N (outB T (s.data.toList.take i)))).toArray 5 (0, 0))) ∧ Aside0 (Below wB.heap.size wB wr)) (fun _ iv _ => n - (intOf iv).toNat)
        case atStart => exact ⟨0, Nat.zero_le _, rfl, rfl, HG, HBB⟩
        case round =>
          obtain ⟨i, hi, rfl, rfl, HG, HBB⟩ := hrel
          by_cases hin : i < n
          · have his : i < s.size := by rw [HN.out]; exact hin
            have hil : i < s.data.toList.length := by rw [← Lib.size_eq]; exact his
            have ti : decide ((i : Int) < (s.size : Int)) = true := by simp; omega
            have wi : wrap64 ((i : Int) + 1) = (i : Int) + 1 := w64r2 (by omega) (by omega)
            have hR := HRW.out.below HBB.out
            have hx := s.data.toList[i].toNat_lt
            obtain ⟨v, hv, hrep⟩ := hR.reps s.data.toList[i].toNat (by omega)
            have HO1 := Aside0.mk (outB_snoc T s.data.toList i hil)
            have HLE1 : Aside0 ((outB T (s.data.toList.take (i + 1))).length ≤ N) := ⟨by rw [HNN.out]; exact outB_take_le _ _ _⟩
            obtain ⟨x, hxx⟩ : ∃ x, s.data.toList[i]'hil = x := ⟨_, rfl⟩
            have hsi : ∀ h, (s[i]'h) = x := fun h => by rw [← hxx]; show s.data[i] = _; simp
            rw [hxx] at hx hv hrep HO1
            generalize ho1 : outB T (s.data.toList.take (i + 1)) = o1 at *
            generalize ho0 : outB T (s.data.toList.take i) = o0 at *
            have HEO := Aside0.mk ho1
            have hx1 : (x.toNat : Int) < 256 := by omega
            have hx2 : x.toNat < 256 := hx
            clear hR ho0 ho1 hxx hil
            cases hlk : look T x.toNat with
            | none =>
              rw [hlk] at hrep HO1
              obtain rfl : v = .slice none 0 0 := hrep
              have hlt : o0.length < N := by have := HLE1.out; rw [HO1.out] at this; simp at this; omega
              have hcx : (nums .u8 (outRow N o0)).toArray[o0.length]? = some (.int .u8 0) := by
                have h0 : (outRow N o0)[o0.length]? = some 0 := by
                  unfold outRow bI
                  rw [List.getElem?_append_right (by rw [List.length_map]; exact Nat.le_refl _), List.length_map, Nat.sub_self, List.getElem?_replicate, if_pos (by omega)]
                rw [List.getElem?_toArray]
                unfold nums
                rw [List.getElem?_map, h0]
                rfl
              have cj : wr.cell? ⟨wB.heap.size, o0.length, none⟩ = some (.int .u8 0) := (blk_cell HG.out _).trans hcx
              have fj := blk_frozen HG.out o0.length
              have wj : wrap64 ((o0.length : Int) + 1) = (o0.length : Int) + 1 := w64r2 (by omega) (by omega)
              clear hcx
              have hneq : ∀ W : World, (binOp .neq 35 (.slice none 0 0) (.slice none 0 0)).run Tryz.prog W = .ok (.bool false) W := fun W => Go.run_neq_slice_nil W _ _ _ _ _ Tryz.underlying35
              have HLT := Aside0.mk hlt
              have hjN : (o0.length : Int) < (N : Int) := by omega
              go_wp2
              refine ⟨⟨i + 1, by omega, by go_num, ?_, ⟨?_⟩, ⟨HBB.out.setCell (p := ⟨wB.heap.size, o0.length, none⟩) (Nat.le_refl _) _⟩⟩, by simp [intOf]; omega⟩
              · rw [HEO.out, HO1.out]; simp
              · rw [HEO.out, HO1.out]
                show (wr.setCell ⟨wB.heap.size, o0.length, none⟩ (.int .u8 x.toNat)).heap[wB.heap.size]? = some (Obj.cells (nums .u8 (outRow N (o0 ++ [x]))).toArray 5 (0, 0))
                rw [← outRow_put N o0 x HLT.out]
                have hg := HG.out
                simp only [World.setCell, Array.getElem?_modify, hg]
                simp
            | some ys =>
              rw [hlk] at hrep HO1
              obtain ⟨gr, cap, rfl, _, hrow⟩ := hrep
              have hneq : ∀ W : World, (binOp .neq 35 (.slice (some ⟨gr, 0, none⟩) ys.length cap) (.slice none 0 0)).run Tryz.prog W = .ok (.bool true) W := fun W => Go.run_neq_slice_nil W _ _ _ _ _ Tryz.underlying35
              have hfit : o0.length + ys.length ≤ N := by have := HLE1.out; rw [HO1.out, List.length_append] at this; exact this
              have hbn : bnums ⟨ys.toArray⟩ = bI ys := by simp [bnums, bI]
              rw [hbn] at hrow
              have HSRC : Aside0 (∀ j u, (nums .u8 (bI ys))[j]? = some u → wr.cell? ((⟨gr, 0, none⟩ : Addr).add j) = some u) := ⟨fun j u hu => by
                have hj : j < (bI ys).length := by
                  have := (List.getElem?_eq_some_iff.1 hu).1
                  rwa [nums8_len] at this
                rw [Addr.add_lit, Nat.zero_add, hrow.cell hj, ← hu]
                unfold nums
                rw [List.getElem?_map, List.getD_eq_getElem?_getD, List.getElem?_eq_getElem hj]
                rfl⟩
              have HFIT : Aside0 (o0.length + (nums .u8 (bI ys)).length ≤ (nums .u8 (outRow N o0)).length) := ⟨by rw [nums8_len, nums8_len, outRow_len N o0 (by omega)]; simpa [bI] using hfit⟩
              have HCS : Aside0 ((nums .u8 (bI ys)).length = Nat.min ys.length (N - o0.length)) := ⟨by rw [nums8_len, show Nat.min ys.length (N - o0.length) = ys.length from Nat.min_eq_left (by omega)]; simp [bI]⟩
              have HLEN : Aside0 ((nums .u8 (bI ys)).length = ys.length) := ⟨by rw [nums8_len]; simp [bI]⟩
              have HFT := Aside0.mk hfit
              obtain ⟨CS, hCS⟩ : ∃ CS, CS = nums .u8 (bI ys) := ⟨_, rfl⟩
              have HQ := Aside0.mk hCS
              rw [← hCS] at HSRC HFIT HCS HLEN
              have HONE : Aside0 (∀ u ∈ CS, u.oneCell' = true) := ⟨by rw [hCS]; exact nums8_one _ _⟩
              have HGO : Aside0 (goInt CS.length = Value.int .i64 (ys.length : Int)) := ⟨by rw [HLEN.out]; rfl⟩
              have hsum : IntKind.i64.wrap ((o0.length : Int) + (ys.length : Int)) = (o0.length : Int) + (ys.length : Int) := IntWalk.i64_in _ (by omega)
              have hj0 : o0.length ≤ N := by omega
              have hy2 : 2 ≤ ys.length := by obtain ⟨p, hp, rfl⟩ := look_mem hlk; exact (HL.out p hp).1
              have hnN : ¬ N = o0.length := by omega
              clear hCS hfit hrow hbn
              go_wp2
              go_region_law (refine step_copy_splice rfl (.tmp 105) (.tmp 111) 35 35 rfl 5 Tryz.underlying35 sizeU8r (some ⟨wB.heap.size, o0.length, none⟩) (some ⟨gr, 0, none⟩) (N - o0.length) (N - o0.length) ys.length cap (by simp [Act.eval, Act.put]) (by simp [Act.eval, Act.put]) wB.heap.size o0.length (nums .u8 (outRow N o0)) 5 HG.out CS HCS.out (fun _ => ⟨rfl, _, rfl, HSRC.out⟩) HFIT.out HONE.out wB.heap.size wB HBB.out.drew (Nat.le_refl _) ?_; intro w4 hg4 hb4; rw [HGO.out])
              have HG4 : Aside0 (w4.heap[wB.heap.size]? = some (.cells (nums .u8 (outRow N (outB T (s.data.toList.take (i + 1))))).toArray 5 (0, 0))) := ⟨by have h := hg4.out; rw [HQ.out, outRow_splice N o0 ys HFT.out] at h; rw [HEO.out, HO1.out]; exact h⟩
              have HB4 := Aside0.mk hb4
              have HLN : Aside0 ((((outB T (s.data.toList.take (i + 1))).length : Nat) : Int) = (o0.length : Int) + (ys.length : Int)) := ⟨by rw [HEO.out, HO1.out]; simp⟩
              clear hg4 hb4 HG HBB HSRC HFIT HCS HQ HONE HGO hsum
              go_simp
              go_wp2
              refine ⟨⟨i + 1, by omega, by go_num, by rw [HLN.out], HG4, HB4⟩, by simp [intOf]; omega⟩
          · obtain rfl : i = n := by omega
            have ti : decide ((i : Int) < (s.size : Int)) = false := by have := HN.out; simp; omega
            have tin : decide (i < s.size) = false := by have := HN.out; simp; omega
            have hfull : s.data.toList.take i = s.data.toList := List.take_of_length_le (by rw [← Lib.size_eq, HN.out]; exact Nat.le_refl _)
            rw [hfull] at HG
            have hrow : outRow N (outB T s.data.toList) = bI (outB T s.data.toList) := by unfold outRow; rw [HNN.out, Nat.sub_self]; simp
            rw [hrow] at HG
            have hconv := bI_back (n := N) (cap := N) (outB T s.data.toList) HG.out HNN.out
            clear hfull hrow
            go_wp2
            go_ret
            exact ⟨rfl, HB.out.trans (HBB.out.mono HB.out.size)⟩
theorem bsrep_calls (b : Nat) (T : Ps) (A : Option Addr) (c : Nat) (s : ByteArray) (w : World) (h : BsR w b T A c) (hs : s.size ≤ 4000000000) (hT : T.length ≤ 100) (hlen : ∀ p ∈ T, 2 ≤ p.2.length ∧ p.2.length ≤ 100) (hnd : (T.map (·.1.toNat)).Nodup) :
    Calls Tryz.prog 111 #[.pointer (some ⟨b, 0, none⟩), .string s] w fun e w' => e = .returned (.string ⟨(outB T s.data.toList).toArray⟩) ∧ Below w.heap.size w w' := by
  by_cases hp : T.length * 8 ≤ s.size
  · exact bsrep_few b T A c s w h hs hT hlen hnd hp
  · exact bsrep_more b T A c s w h hs hT hlen hnd hp
end Go.Proofs.YtjepodcgbfejgaaGreatDoor.Hw
