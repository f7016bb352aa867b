import Derived.Test.YtjajkgemjgehiaaCat
import Derived.Test.YtjajkgemjgehiaaSoC
import Derived.StillTailTactics
import Derived.Handy
/- huff.paired, walked. -/
set_option linter.unusedVariables false
set_option linter.unusedSimpArgs false
namespace Go.Proofs.Ytjajkgemjgehiaa.St
open Go.RowKit Go.Proofs.YtjajkgemjgehiaaW.PrintWords Go.Proofs.YtjajkgemjgehiaaW.PrintLast Go.Proofs.YtjajkgemjgehiaaW.PrintMore Go.Proofs.Ytjajkgemjgehiaa.PH Go.Proofs.Ytjajkgemjgehiaa.Ct
abbrev SP := S34
abbrev rdP (l : List SP) (i : Int) : SP := rd_T34 l i
def pairedS : List SP → List SP
  | a :: b :: t => ⟨a.f0 + b.f0, a.f1 ++ b.f1⟩ :: pairedS t
  | _ => []
theorem pairedS_step : ∀ (i : Nat) (l : List SP), i % 2 = 0 → i + 1 < l.length → pairedS (l.take (i + 2)) = pairedS (l.take i) ++ [⟨(rdP l (i : Int)).f0 + (rdP l ((i : Int) + 1)).f0, (rdP l (i : Int)).f1 ++ (rdP l ((i : Int) + 1)).f1⟩]
  | 0, a :: b :: t, _, _ => by simp [pairedS, rdP, rd_T34]
  | i + 2, a :: b :: t, h, hl => by
    have ih := pairedS_step i t (by omega) (by simp at hl; omega)
    rw [show i + 2 + 2 = (i + 2) + 1 + 1 from rfl, List.take_succ_cons, List.take_succ_cons, pairedS, ih]
    have e1 : rdP (a :: b :: t) ((i + 2 : Nat) : Int) = rdP t (i : Int) := by unfold rdP rd_T34; rw [Int.toNat_natCast, Int.toNat_natCast]; simp
    have e2 : rdP (a :: b :: t) (((i + 2 : Nat) : Int) + 1) = rdP t ((i : Int) + 1) := by
      unfold rdP rd_T34
      rw [show ((i + 2 : Nat) : Int) + 1 = ((i + 3 : Nat) : Int) by omega, show (i : Int) + 1 = ((i + 1 : Nat) : Int) by omega, Int.toNat_natCast, Int.toNat_natCast]
      simp
    rw [e1, e2]
    rfl
  | 0, [], _, h => by simp at h
  | 0, [_], _, h => by simp at h
  | 1, _, h, _ => by omega
  | i + 2, [], _, h => by simp at h
  | i + 2, [_], _, h => by simp at h
theorem pairedS_end : ∀ (i : Nat) (l : List SP), i % 2 = 0 → ¬ i + 1 < l.length → pairedS (l.take i) = pairedS l
  | 0, [], _, _ => rfl
  | 0, [_], _, _ => rfl
  | 0, _ :: _ :: _, _, h => by simp at h
  | 1, _, h, _ => by omega
  | i + 2, [], _, _ => by simp
  | i + 2, [_], _, _ => by simp
  | i + 2, a :: b :: t, h, hl => by
    rw [List.take_succ_cons, List.take_succ_cons, pairedS, pairedS, pairedS_end i t (by omega) (by simp at hl; omega)]
theorem pairedS_len : ∀ (l : List SP), (pairedS l).length ≤ l.length
  | [] => by simp [pairedS]
  | [_] => by simp [pairedS]
  | _ :: _ :: t => by have := pairedS_len t; simp [pairedS]; omega
theorem infoP : (Try.prog.info? 34).map (fun i => (i.zero, i.size, i.bytes)) = some (some (.agg #[(.int .i64 0), (.slice none 0 0)]), 2, 32) := by kernel_rfl
/-- Two lists of numbers, laid side by side as two slices. -/
theorem two_slices {w : World} {g : Nat} {t : TypeId} {A0 A1 : Option Addr} {c0 c1 : Nat} {q0 q1 : List Int} (hb : w.heap[g]? = some (.cells #[.slice A0 q0.length c0, .slice A1 q1.length c1] t (0, 0))) (l0 : q0.length ≤ c0) (l1 : q1.length ≤ c1) (h0 : Kd.C (Kd.int .i64) w A0 q0.length q0) (h1 : Kd.C (Kd.int .i64) w A1 q1.length q1) :
    Kd.C (Kd.slice 3 (Kd.int .i64)) w (some ⟨g, 0, none⟩) [q0, q1].length [q0, q1] := by
  refine ⟨rfl, by simp, fun _ => ⟨_, rfl, fun j p hj => ?_⟩⟩
  rcases j with _ | _ | j
  · obtain rfl : q0 = p := by simpa using hj
    refine ⟨[.slice A0 q0.length c0], rfl, ⟨A0, c0, rfl, l0, h0⟩, fun i u hu => ?_⟩
    rcases i with _ | i
    · obtain rfl : Value.slice A0 q0.length c0 = u := by simpa using hu
      change w.cell? (Addr.add ⟨g, 0, none⟩ (0 * 1 + 0)) = _
      simp [World.cell?, Addr.add, hb]
    · simp at hu
  · obtain rfl : q1 = p := by simpa using hj
    refine ⟨[.slice A1 q1.length c1], rfl, ⟨A1, c1, rfl, l1, h1⟩, fun i u hu => ?_⟩
    rcases i with _ | i
    · obtain rfl : Value.slice A1 q1.length c1 = u := by simpa using hu
      change w.cell? (Addr.add ⟨g, 0, none⟩ (1 * 1 + 0)) = _
      simp [World.cell?, Addr.add, hb]
    · simp at hu
  · simp at hj
/-- What is asked of the parcels: counts and symbols are no more than so. -/
def Small (l : List SP) : Prop := ∀ x ∈ l, 0 ≤ x.f0 ∧ x.f0 ≤ 1152921504606846976 ∧ x.f1.length ≤ 4398046511104
theorem Small.at {l : List SP} (h : Small l) (i : Nat) (hi : i < l.length) : 0 ≤ (rdP l (i : Int)).f0 ∧ (rdP l (i : Int)).f0 ≤ 1152921504606846976 ∧ (rdP l (i : Int)).f1.length ≤ 4398046511104 := by
  have : rdP l (i : Int) = l[i] := by unfold rdP rd_T34; rw [Int.toNat_natCast]; simp [List.getD_eq_getElem?_getD, hi]
  rw [this]
  exact h _ (List.getElem_mem hi)

set_option maxRecDepth 100000 in
set_option maxHeartbeats 4000000 in
theorem paired_calls (A : Option Addr) (c : Nat) (l : List SP) (w : World) (hC : Kd.C kPa w A l.length l) (hc : l.length ≤ c) (hsm : Small l) (hl : l.length ≤ 4294967296) :
    Calls Try.prog 13 #[.slice A l.length c] w fun e w' => ∃ v, e = .returned v ∧ Kd.N kPa 34 w' w.heap.size (fun k => w.heap.size ≤ k) v (pairedS l) ∧ Below w.heap.size w w' := by
  have HC := Aside0.mk hC
  have HSM := Aside0.mk hsm
  clear hC hsm
  go_enter Try.func13, Try.ntmps13
  go_wp2
  go_loopw [3, 4] (fun v s wr => ∃ i : Nat, i ≤ l.length + 1 ∧ s = .int .i64 i ∧ Aside0 (i % 2 = 0 ∧ Kd.N kPa 34 wr w.heap.size (fun k => w.heap.size ≤ k) v (pairedS (l.take i)) ∧ Below w.heap.size w wr)) (fun _ i _ => l.length + 1 - (intOf i).toNat)
  case atStart => exact ⟨0, Nat.zero_le _, rfl, ⟨rfl, Kd.N_nil _ _ _ _ _, Below.refl _ _⟩⟩
  case round =>
    obtain ⟨i, hi, rfl, HS⟩ := hrel
    by_cases hlt : i + 1 < l.length
    · have hltz : (i : Int) + 1 < (l.length : Int) := by omega
      go_wp2_with fail
      obtain ⟨ad, A0, c0, e1, hx0, hy0, hl0, hC0⟩ := at_T34 (w := w) HC.out (i : Int) (by omega) (by omega)
      obtain ⟨ad', A1, c1, e2, hx1, hy1, hl1, hC1⟩ := at_T34 (w := w) HC.out ((i : Int) + 1) (by omega) (by omega)
      subst e1
      obtain rfl : ad = ad' := by injection e2
      clear e2
      have hs0 := HSM.out.at i (by omega)
      have hs1 := HSM.out.at (i + 1) hlt
      rw [show ((i + 1 : Nat) : Int) = (i : Int) + 1 from by omega] at hs1
      have HPS := Aside0.mk (pairedS_step i l HS.out.1 hlt)
      change w.cell? _ = some (Value.int IntKind.i64 (rdP l (i : Int)).f0) at hx0
      change w.cell? _ = some (Value.int IntKind.i64 (rdP l ((i : Int) + 1)).f0) at hx1
      change w.cell? _ = some (Value.slice A0 (rdP l (i : Int)).f1.length c0) at hy0
      change w.cell? _ = some (Value.slice A1 (rdP l ((i : Int) + 1)).f1.length c1) at hy1
      change (rdP l (i : Int)).f1.length ≤ c0 at hl0
      change (rdP l ((i : Int) + 1)).f1.length ≤ c1 at hl1
      change Kd.C (Kd.int .i64) w A0 (rdP l (i : Int)).f1.length (rdP l (i : Int)).f1 at hC0
      change Kd.C (Kd.int .i64) w A1 (rdP l ((i : Int) + 1)).f1.length (rdP l ((i : Int) + 1)).f1 at hC1
      generalize rdP l (i : Int) = x0 at *
      generalize rdP l ((i : Int) + 1) = x1 at *
      obtain ⟨n0, q0⟩ := x0
      obtain ⟨n1, q1⟩ := x1
      dsimp only at hx0 hx1 hy0 hy1 hl0 hl1 hC0 hC1 hs0 hs1
      obtain ⟨q, hq⟩ : ∃ q, q = q0 ++ q1 := ⟨_, rfl⟩
      have HQ := Aside0.mk hq
      have hql : q.length = q0.length + q1.length := by rw [hq, List.length_append]
      have HQL := Aside0.mk hql
      clear hq hql
      have et : ((i : Int) + 1).toNat = i + 1 := by omega
      rw [Int.toNat_natCast] at hx0 hy0
      rw [et] at hx1 hy1
      have hblk0 : (ad.add (i * 2)).block < w.heap.size := World.block_lt_of_cell? w _ hx0
      have hblk1 : (ad.add ((i + 1) * 2)).block < w.heap.size := World.block_lt_of_cell? w _ hx1
      have HF : Aside0 (∀ w1, Below w.heap.size w w1 → w1.cell? (ad.add (i * 2)) = some (.int .i64 n0) ∧ w1.cell? (ad.add ((i + 1) * 2)) = some (.int .i64 n1) ∧ w1.cell? ⟨(ad.add (i * 2)).block, (ad.add (i * 2)).off + 1, none⟩ = some (.slice A0 q0.length c0) ∧ w1.cell? ⟨(ad.add ((i + 1) * 2)).block, (ad.add ((i + 1) * 2)).off + 1, none⟩ = some (.slice A1 q1.length c1)) :=
        ⟨fun w1 hb => ⟨(hb.cell hblk0).trans hx0, (hb.cell hblk1).trans hx1, (hb.cell (p := ⟨(ad.add (i * 2)).block, (ad.add (i * 2)).off + 1, none⟩) hblk0).trans hy0, (hb.cell (p := ⟨(ad.add ((i + 1) * 2)).block, (ad.add ((i + 1) * 2)).off + 1, none⟩) hblk1).trans hy1⟩⟩
      clear hx0 hx1 hy0 hy1 hblk0 hblk1
      obtain ⟨W, hW⟩ : ∃ x, x = wr := ⟨_, rfl⟩
      subst hW
      have HBD : Aside0 (Below w.heap.size w W.drew) := ⟨below_drew1 HS.out.2.2⟩
      have HBA : Aside0 (Below w.heap.size w ((W.alloc (.cells #[.slice A0 q0.length c0, .slice A1 q1.length c1] 22)).drew)) := ⟨below_drew1 (below_alloc HS.out.2.2 _)⟩
      have HLA : Aside0 (w.heap.size ≤ ((W.alloc (.cells #[.slice A0 q0.length c0, .slice A1 q1.length c1] 22)).drew).heap.size) := ⟨HBA.out.size⟩
      have HCAT : Aside0 (Calls Try.prog 22 #[.slice (some ⟨W.heap.size, 0, none⟩) 2 2] ((W.alloc (.cells #[.slice A0 q0.length c0, .slice A1 q1.length c1] 22)).drew) fun e w3 => ∃ A3 c3, e = .returned (.slice A3 q.length c3) ∧ q.length ≤ c3 ∧
          Kd.R (Kd.int .i64) 3 w3 ((W.alloc (.cells #[.slice A0 q0.length c0, .slice A1 q1.length c1] 22)).drew).heap.size (fun _ => True) (.slice A3 q.length c3) q ∧ Below ((W.alloc (.cells #[.slice A0 q0.length c0, .slice A1 q1.length c1] 22)).drew).heap.size ((W.alloc (.cells #[.slice A0 q0.length c0, .slice A1 q1.length c1] 22)).drew) w3) := ⟨by
        have hfl : [q0, q1].flatten = q := by rw [HQ.out]; simp
        have h := concat_calls (some ⟨W.heap.size, 0, none⟩) 2 [q0, q1] ((W.alloc (.cells #[.slice A0 q0.length c0, .slice A1 q1.length c1] 22)).drew) (two_slices (heap_alloc_new W _) hl0 hl1 (Kd.C_below hC0 HBA.out) (Kd.C_below hC1 HBA.out)) (Nat.le_refl 2) (by simp) (by rw [hfl, HQL.out]; omega)
        rw [hfl] at h
        refine Calls.mono h ?_
        rintro e w3 ⟨v3, rfl, hr3, hb3⟩
        obtain ⟨A3, c3, rfl, hl3, _⟩ := Kd.R_reads hr3
        exact ⟨A3, c3, rfl, hl3, hr3, hb3⟩⟩
      have hpar : ∀ A3 c3 w3, Kd.R (Kd.int .i64) 3 w3 ((W.alloc (.cells #[.slice A0 q0.length c0, .slice A1 q1.length c1] 22)).drew).heap.size (fun _ => True) (.slice A3 q.length c3) q → Below ((W.alloc (.cells #[.slice A0 q0.length c0, .slice A1 q1.length c1] 22)).drew).heap.size ((W.alloc (.cells #[.slice A0 q0.length c0, .slice A1 q1.length c1] 22)).drew) w3 →
          Kd.FK kPa w3 (fun k => w.heap.size ≤ k ∧ some k ≠ u3.ownBlock) ⟨n0 + n1, q⟩ [.int .i64 (n0 + n1), .slice A3 q.length c3] ∧ Kd.N kPa 34 w3 w.heap.size (fun k => w.heap.size ≤ k) u3 (pairedS (l.take i)) := by
        intro A3 c3 w3 hr3 hb3
        have hlt3 := Kd.N_lt HS.out.2.1
        have hN := Kd.N_drew (Kd.N_alloc HS.out.2.1 (.cells #[.slice A0 q0.length c0, .slice A1 q1.length c1] 22))
        refine ⟨Kd.FK_of_M (k34_mkM w3 w.heap.size _ _ (Kd.R_lower (Kd.R_mono (Kd.R_bound hr3) (fun k hk => ⟨?_, ?_⟩)) HLA.out)), Kd.N_below hN hb3⟩
        · exact Nat.le_trans HLA.out hk.2.1
        · intro he
          have h1 := hlt3 k he.symm
          have h2 := hk.2.1
          simp at h2
          omega
      have HPAR := Aside0.mk hpar
      clear hpar
      have HLN : Aside0 (((pairedS (l.take i)).length + 1) * 32 ≤ 140737488355328) := ⟨by have := pairedS_len (l.take i); have := List.length_take_le i l; omega⟩
      have hw1 : IntKind.i64.wrap ((i : Int) + 1) = (i : Int) + 1 := by rw [IntKind.wrap_i64]; omega
      have hw2 : IntKind.i64.wrap (n0 + n1) = n0 + n1 := by rw [IntKind.wrap_i64]; omega
      have hilt : (i : Int) < (l.length : Int) := by omega
      have hp1 : (0 : Int) ≤ (i : Int) + 1 := by omega
      refine start_ (n := 30) (S := fun w' => w'.cell? (ad.add (i * 2)) = some (.int .i64 n0) ∧ w'.cell? (ad.add ((i + 1) * 2)) = some (.int .i64 n1) ∧ w'.cell? ⟨(ad.add (i * 2)).block, (ad.add (i * 2)).off + 1, none⟩ = some (.slice A0 q0.length c0) ∧ w'.cell? ⟨(ad.add ((i + 1) * 2)).block, (ad.add ((i + 1) * 2)).off + 1, none⟩ = some (.slice A1 q1.length c1)) (ds := []) #[false, false, false, false, false, false, false, false, false, false, false, false, false, false, false, false, false, false, false, false, false, false, false, false, false, false, false, false, false, false] (by kernel_rfl) rfl rfl ⟨(HF.out _ (HBD.out)).1, (HF.out _ (HBD.out)).2.1, (HF.out _ (HBD.out)).2.2.1, (HF.out _ (HBD.out)).2.2.2⟩ (fun hHeld => ?_)
      refine pure_ (i := 0) (N := some 12) (v := ?_) (a' := ?_) #[true, false, false, false, false, false, false, false, false, false, false, false, false, false, false, false, false, false, false, false, false, false, false, false, false, false, false, false, false, false] rfl rfl (by kernel_rfl) (fun _ _ _ h => h) (Or.inl ⟨by rfl, ?_⟩) ?_ ?_
      rotate_left
      · intro w'
        go_simp
        with_reducible rfl
      rotate_left
      · simp only [Act.put, List.setIfInBounds_toArray, List.set_cons_zero, List.set_cons_succ, i64_w, i32_w]
        rfl
      refine pure_ (i := 1) (N := some 13) (v := ?_) (a' := ?_) #[true, true, false, false, false, false, false, false, false, false, false, false, false, false, false, false, false, false, false, false, false, false, false, false, false, false, false, false, false, false] rfl rfl (by kernel_rfl) (fun _ _ _ h => h) (Or.inl ⟨by rfl, ?_⟩) ?_ ?_
      rotate_left
      · intro w'
        go_simp
        with_reducible rfl
      rotate_left
      · simp only [Act.put, List.setIfInBounds_toArray, List.set_cons_zero, List.set_cons_succ, i64_w, i32_w]
        rfl
      refine pure_ (i := 2) (N := some 14) (v := ?_) (a' := ?_) #[true, true, true, false, false, false, false, false, false, false, false, false, false, false, false, false, false, false, false, false, false, false, false, false, false, false, false, false, false, false] rfl rfl (by kernel_rfl) (fun _ _ _ h => h) (Or.inl ⟨by rfl, ?_⟩) ?_ ?_
      rotate_left
      · intro w'
        go_simp
        with_reducible rfl
      rotate_left
      · simp only [Act.put, List.setIfInBounds_toArray, List.set_cons_zero, List.set_cons_succ, i64_w, i32_w]
        rfl
      refine pure_ (i := 3) (N := some 15) (v := ?_) (a' := ?_) #[true, true, true, true, false, false, false, false, false, false, false, false, false, false, false, false, false, false, false, false, false, false, false, false, false, false, false, false, false, false] rfl rfl (by kernel_rfl) (fun _ _ _ h => h) (Or.inl ⟨by rfl, ?_⟩) ?_ ?_
      rotate_left
      · intro w'
        go_simp
        with_reducible rfl
      rotate_left
      · simp only [Act.put, List.setIfInBounds_toArray, List.set_cons_zero, List.set_cons_succ, i64_w, i32_w]
        rfl
      refine pure_ (i := 4) (N := some 16) (v := ?_) (a' := ?_) #[true, true, true, true, true, false, false, false, false, false, false, false, false, false, false, false, false, false, false, false, false, false, false, false, false, false, false, false, false, false] rfl rfl (by kernel_rfl) (fun _ _ _ h => h) (Or.inl ⟨by rfl, ?_⟩) ?_ ?_
      rotate_left
      · intro w'
        go_simp
        with_reducible rfl
      rotate_left
      · simp only [Act.put, List.setIfInBounds_toArray, List.set_cons_zero, List.set_cons_succ, i64_w, i32_w]
        rfl
      refine pure_ (i := 6) (N := some 18) (v := ?_) (a' := ?_) #[true, true, true, true, true, false, true, false, false, false, false, false, false, false, false, false, false, false, false, false, false, false, false, false, false, false, false, false, false, false] rfl rfl (by kernel_rfl) (fun _ _ _ h => h) (Or.inl ⟨by rfl, ?_⟩) ?_ ?_
      rotate_left
      · intro w'
        go_simp
        with_reducible rfl
      rotate_left
      · simp only [Act.put, List.setIfInBounds_toArray, List.set_cons_zero, List.set_cons_succ, i64_w, i32_w]
        rfl
      refine pure_ (i := 7) (N := some 19) (v := ?_) (a' := ?_) #[true, true, true, true, true, false, true, true, false, false, false, false, false, false, false, false, false, false, false, false, false, false, false, false, false, false, false, false, false, false] rfl rfl (by kernel_rfl) (fun _ _ _ h => h) (Or.inl ⟨by rfl, ?_⟩) ?_ ?_
      rotate_left
      · intro w'
        go_simp
        with_reducible rfl
      rotate_left
      · simp only [Act.put, List.setIfInBounds_toArray, List.set_cons_zero, List.set_cons_succ, i64_w, i32_w]
        rfl
      refine pure_ (i := 8) (N := some 20) (v := ?_) (a' := ?_) #[true, true, true, true, true, false, true, true, true, false, false, false, false, false, false, false, false, false, false, false, false, false, false, false, false, false, false, false, false, false] rfl rfl (by kernel_rfl) (fun _ _ _ h => h) (Or.inl ⟨by rfl, ?_⟩) ?_ ?_
      rotate_left
      · intro w'
        go_simp
        with_reducible rfl
      rotate_left
      · simp only [Act.put, List.setIfInBounds_toArray, List.set_cons_zero, List.set_cons_succ, i64_w, i32_w]
        rfl
      refine pure_ (i := 9) (N := some 21) (v := ?_) (a' := ?_) #[true, true, true, true, true, false, true, true, true, true, false, false, false, false, false, false, false, false, false, false, false, false, false, false, false, false, false, false, false, false] rfl rfl (by kernel_rfl) (fun _ _ _ h => h) (Or.inl ⟨by rfl, ?_⟩) ?_ ?_
      rotate_left
      · intro w'
        go_simp
        with_reducible rfl
      rotate_left
      · simp only [Act.put, List.setIfInBounds_toArray, List.set_cons_zero, List.set_cons_succ, i64_w, i32_w]
        rfl
      refine pure_ (i := 10) (N := some 22) (v := ?_) (a' := ?_) #[true, true, true, true, true, false, true, true, true, true, true, false, false, false, false, false, false, false, false, false, false, false, false, false, false, false, false, false, false, false] rfl rfl (by kernel_rfl) (fun _ _ _ h => h) (Or.inl ⟨by rfl, ?_⟩) ?_ ?_
      rotate_left
      · intro w'
        go_simp
        with_reducible rfl
      rotate_left
      · simp only [Act.put, List.setIfInBounds_toArray, List.set_cons_zero, List.set_cons_succ, i64_w, i32_w]
        rfl
      refine pure_ (i := 13) (N := some 25) (v := ?_) (a' := ?_) #[true, true, true, true, true, false, true, true, true, true, true, false, false, true, false, false, false, false, false, false, false, false, false, false, false, false, false, false, false, false] rfl rfl (by kernel_rfl) (fun _ _ _ h => h) (Or.inl ⟨by rfl, ?_⟩) ?_ ?_
      rotate_left
      · intro w'
        go_simp
        with_reducible rfl
      rotate_left
      · simp only [Act.put, List.setIfInBounds_toArray, List.set_cons_zero, List.set_cons_succ, i64_w, i32_w]
        rfl
      refine pure_ (i := 14) (N := some 26) (v := ?_) (a' := ?_) #[true, true, true, true, true, false, true, true, true, true, true, false, false, true, true, false, false, false, false, false, false, false, false, false, false, false, false, false, false, false] rfl rfl (by kernel_rfl) (fun _ _ _ h => h) (Or.inl ⟨by rfl, ?_⟩) ?_ ?_
      rotate_left
      · intro w'
        go_simp
        with_reducible rfl
      rotate_left
      · simp only [Act.put, List.setIfInBounds_toArray, List.set_cons_zero, List.set_cons_succ, i64_w, i32_w]
        rfl
      refine pure_ (i := 15) (N := some 27) (v := ?_) (a' := ?_) #[true, true, true, true, true, false, true, true, true, true, true, false, false, true, true, true, false, false, false, false, false, false, false, false, false, false, false, false, false, false] rfl rfl (by kernel_rfl) (fun _ _ _ h => h) (Or.inl ⟨by rfl, ?_⟩) ?_ ?_
      rotate_left
      · intro w'
        go_simp
        with_reducible rfl
      rotate_left
      · simp only [Act.put, List.setIfInBounds_toArray, List.set_cons_zero, List.set_cons_succ, i64_w, i32_w]
        rfl
      refine pure_ (i := 16) (N := some 28) (v := ?_) (a' := ?_) #[true, true, true, true, true, false, true, true, true, true, true, false, false, true, true, true, true, false, false, false, false, false, false, false, false, false, false, false, false, false] rfl rfl (by kernel_rfl) (fun _ _ _ h => h) (Or.inl ⟨by rfl, ?_⟩) ?_ ?_
      rotate_left
      · intro w'
        go_simp
        with_reducible rfl
      rotate_left
      · simp only [Act.put, List.setIfInBounds_toArray, List.set_cons_zero, List.set_cons_succ, i64_w, i32_w]
        rfl
      refine pure_ (i := 18) (N := some 30) (v := ?_) (a' := ?_) #[true, true, true, true, true, false, true, true, true, true, true, false, false, true, true, true, true, false, true, false, false, false, false, false, false, false, false, false, false, false] rfl rfl (by kernel_rfl) (fun _ _ _ h => h) (Or.inl ⟨by rfl, ?_⟩) ?_ ?_
      rotate_left
      · intro w'
        go_simp
        with_reducible rfl
      rotate_left
      · simp only [Act.put, List.setIfInBounds_toArray, List.set_cons_zero, List.set_cons_succ, i64_w, i32_w]
        rfl
      refine pure_ (i := 19) (N := some 31) (v := ?_) (a' := ?_) #[true, true, true, true, true, false, true, true, true, true, true, false, false, true, true, true, true, false, true, true, false, false, false, false, false, false, false, false, false, false] rfl rfl (by kernel_rfl) (fun _ _ _ h => h) (Or.inl ⟨by rfl, ?_⟩) ?_ ?_
      rotate_left
      · intro w'
        go_simp
        with_reducible rfl
      rotate_left
      · simp only [Act.put, List.setIfInBounds_toArray, List.set_cons_zero, List.set_cons_succ, i64_w, i32_w]
        rfl
      refine pure_ (i := 20) (N := some 32) (v := ?_) (a' := ?_) #[true, true, true, true, true, false, true, true, true, true, true, false, false, true, true, true, true, false, true, true, true, false, false, false, false, false, false, false, false, false] rfl rfl (by kernel_rfl) (fun _ _ _ h => h) (Or.inl ⟨by rfl, ?_⟩) ?_ ?_
      rotate_left
      · intro w'
        go_simp
        with_reducible rfl
      rotate_left
      · simp only [Act.put, List.setIfInBounds_toArray, List.set_cons_zero, List.set_cons_succ, i64_w, i32_w]
        rfl
      refine pure_ (i := 21) (N := some 33) (v := ?_) (a' := ?_) #[true, true, true, true, true, false, true, true, true, true, true, false, false, true, true, true, true, false, true, true, true, true, false, false, false, false, false, false, false, false] rfl rfl (by kernel_rfl) (fun _ _ _ h => h) (Or.inl ⟨by rfl, ?_⟩) ?_ ?_
      rotate_left
      · intro w'
        go_simp
        with_reducible rfl
      rotate_left
      · simp only [Act.put, List.setIfInBounds_toArray, List.set_cons_zero, List.set_cons_succ, i64_w, i32_w]
        rfl
      refine pure_ (i := 22) (N := some 34) (v := ?_) (a' := ?_) #[true, true, true, true, true, false, true, true, true, true, true, false, false, true, true, true, true, false, true, true, true, true, true, false, false, false, false, false, false, false] rfl rfl (by kernel_rfl) (fun _ _ _ h => h) (Or.inl ⟨by rfl, ?_⟩) ?_ ?_
      rotate_left
      · intro w'
        go_simp
        with_reducible rfl
      rotate_left
      · simp only [Act.put, List.setIfInBounds_toArray, List.set_cons_zero, List.set_cons_succ, i64_w, i32_w]
        rfl
      refine take_ (i := 5) (N := some 17) (v := ?_) (a' := ?_) #[true, true, true, true, true, true, true, true, true, true, true, false, false, true, true, true, true, false, true, true, true, true, true, false, false, false, false, false, false, false] rfl rfl (by kernel_rfl) (fun _ _ _ h => h) (Or.inl ⟨by rfl, ?_⟩) hHeld ?_ ?_
      rotate_left
      · rintro w' ⟨s0, s1, s2, s3⟩
        go_simp
        with_reducible rfl
      rotate_left
      · simp only [Act.put, List.setIfInBounds_toArray, List.set_cons_zero, List.set_cons_succ, i64_w, i32_w]
        rfl
      refine take_ (i := 11) (N := some 23) (v := ?_) (a' := ?_) #[true, true, true, true, true, true, true, true, true, true, true, true, false, true, true, true, true, false, true, true, true, true, true, false, false, false, false, false, false, false] rfl rfl (by kernel_rfl) (fun _ _ _ h => h) (Or.inl ⟨by rfl, ?_⟩) hHeld ?_ ?_
      rotate_left
      · rintro w' ⟨s0, s1, s2, s3⟩
        go_simp
        with_reducible rfl
      rotate_left
      · simp only [Act.put, List.setIfInBounds_toArray, List.set_cons_zero, List.set_cons_succ, i64_w, i32_w]
        rfl
      refine pure_ (i := 12) (N := some 24) (v := ?_) (a' := ?_) #[true, true, true, true, true, true, true, true, true, true, true, true, true, true, true, true, true, false, true, true, true, true, true, false, false, false, false, false, false, false] rfl rfl (by kernel_rfl) (fun _ _ _ h => h) (Or.inl ⟨by rfl, ?_⟩) ?_ ?_
      rotate_left
      · intro w'
        go_simp
        with_reducible rfl
      rotate_left
      · simp only [Act.put, List.setIfInBounds_toArray, List.set_cons_zero, List.set_cons_succ, i64_w, i32_w]
        rfl
      refine take_ (i := 17) (N := some 29) (v := ?_) (a' := ?_) #[true, true, true, true, true, true, true, true, true, true, true, true, true, true, true, true, true, true, true, true, true, true, true, false, false, false, false, false, false, false] rfl rfl (by kernel_rfl) (fun _ _ _ h => h) (Or.inl ⟨by rfl, ?_⟩) hHeld ?_ ?_
      rotate_left
      · rintro w' ⟨s0, s1, s2, s3⟩
        go_simp
        with_reducible rfl
      rotate_left
      · simp only [Act.put, List.setIfInBounds_toArray, List.set_cons_zero, List.set_cons_succ, i64_w, i32_w]
        rfl
      refine take_ (i := 23) (N := some 35) (v := ?_) (a' := ?_) #[true, true, true, true, true, true, true, true, true, true, true, true, true, true, true, true, true, true, true, true, true, true, true, true, false, false, false, false, false, false] rfl rfl (by kernel_rfl) (fun _ _ _ h => h) (Or.inl ⟨by rfl, ?_⟩) hHeld ?_ ?_
      rotate_left
      · rintro w' ⟨s0, s1, s2, s3⟩
        go_simp
        with_reducible rfl
      rotate_left
      · simp only [Act.put, List.setIfInBounds_toArray, List.set_cons_zero, List.set_cons_succ, i64_w, i32_w]
        rfl
      refine one_ (i := 24) (N := some 36) #[true, true, true, true, true, true, true, true, true, true, true, true, true, true, true, true, true, true, true, true, true, true, true, true, true, false, false, false, false, false] rfl rfl (by kernel_rfl) (by decide) (fun K hK => ?_)
      refine value_ (w1 := ?_) (v := ?_) (by rfl) rfl ?_ ?_
      rotate_left 2
      · go_simp
        constructor
        · rfl
        · rfl
      refine hK.out _ _ ⟨(HF.out _ (HBA.out)).1, (HF.out _ (HBA.out)).2.1, (HF.out _ (HBA.out)).2.2.1, (HF.out _ (HBA.out)).2.2.2⟩ (fun hHeld => ?_)
      clear hK K
      refine norm_ (a' := ?_) ?_ ?_
      rotate_left
      · show Act.put _ (some 36) _ = _
        simp only [Act.put, List.setIfInBounds_toArray, List.set_cons_zero, List.set_cons_succ, i64_w, i32_w]
        rfl
      refine one_ (i := 25) (N := some 37) #[true, true, true, true, true, true, true, true, true, true, true, true, true, true, true, true, true, true, true, true, true, true, true, true, true, true, false, false, false, false] rfl rfl (by kernel_rfl) (by decide) (fun K hK => ?_)
      refine goes_ Try.func22 (by kernel_rfl) rfl #[.slice (some ⟨W.heap.size, 0, none⟩) 2 2] (by rfl) rfl rfl (by simp only [List.map_toArray, List.map_cons, List.map_nil]; rfl) ?_
      with_reducible refine (HCAT.out).mono ?_
      rintro e w3 ⟨A3, c3, rfl, hl3, hr3, hb3⟩
      refine ⟨_, rfl, ?_⟩
      have HB3 := Aside0.mk (HBA.out.trans (hb3.mono HLA.out))
      have HP3 := Aside0.mk (HPAR.out A3 c3 w3 hr3 hb3)
      clear hr3 hb3 hl3
      refine hK.out _ _ ⟨(HF.out _ (HB3.out)).1, (HF.out _ (HB3.out)).2.1, (HF.out _ (HB3.out)).2.2.1, (HF.out _ (HB3.out)).2.2.2⟩ (fun hHeld => ?_)
      clear hK K
      refine norm_ (a' := ?_) ?_ ?_
      rotate_left
      · show Act.put _ (some 37) _ = _
        simp only [Act.put, List.setIfInBounds_toArray, List.set_cons_zero, List.set_cons_succ, i64_w, i32_w]
        rfl
      refine pure_ (i := 26) (N := some 38) (v := ?_) (a' := ?_) #[true, true, true, true, true, true, true, true, true, true, true, true, true, true, true, true, true, true, true, true, true, true, true, true, true, true, true, false, false, false] rfl rfl (by kernel_rfl) (fun _ _ _ h => h) (Or.inl ⟨by rfl, ?_⟩) ?_ ?_
      rotate_left
      · intro w'
        go_simp
        with_reducible rfl
      rotate_left
      · simp only [Act.put, List.setIfInBounds_toArray, List.set_cons_zero, List.set_cons_succ, i64_w, i32_w]
        rfl
      refine one_ (i := 27) (N := some 39) #[true, true, true, true, true, true, true, true, true, true, true, true, true, true, true, true, true, true, true, true, true, true, true, true, true, true, true, true, false, false] rfl rfl (by kernel_rfl) (by decide) (fun K hK => ?_)
      refine value_ (w1 := ?_) (v := ?_) (by rfl) rfl ?_ ?_
      rotate_left 2
      · go_simp
        constructor
        · rfl
        · rfl
      refine hK.out _ _ ⟨(HF.out _ (below_alloc HB3.out _)).1, (HF.out _ (below_alloc HB3.out _)).2.1, (HF.out _ (below_alloc HB3.out _)).2.2.1, (HF.out _ (below_alloc HB3.out _)).2.2.2⟩ (fun hHeld => ?_)
      clear hK K
      refine norm_ (a' := ?_) ?_ ?_
      rotate_left
      · show Act.put _ (some 39) _ = _
        simp only [Act.put, List.setIfInBounds_toArray, List.set_cons_zero, List.set_cons_succ, i64_w, i32_w]
        rfl
      refine one_ (i := 28) (N := some 40) #[true, true, true, true, true, true, true, true, true, true, true, true, true, true, true, true, true, true, true, true, true, true, true, true, true, true, true, true, true, false] rfl rfl (by kernel_rfl) (by decide) (fun K hK => ?_)
      refine Kd.N_append_step kPa (w0 := w) w.heap.size (by rfl) _ _ 32 34 (.agg #[(.int .i64 0), (.slice none 0 0)]) 32 rfl Try.underlying32 infoP rfl (by decide) (by decide) u3 (pairedS (l.take i)) ⟨n0 + n1, q⟩ _ (fun k => w.heap.size ≤ k) (fun k => w.heap.size ≤ k ∧ some k ≠ u3.ownBlock) rfl rfl HP3.out.1 (fun _ hk => hk) (fun k hk => Nat.le_trans HB3.out.size hk) HP3.out.2 HB3.out HB3.out.size HLN.out ?_
      intro v4 w4 hv4 hb4 hg4 hat4
      have HV4 := Aside0.mk hv4
      have HB4 := Aside0.mk hb4
      obtain ⟨A4, c4, hve4⟩ := Kd.N_slice hv4
      clear hv4 hg4 hat4 hb4
      subst hve4
      refine hK.out _ _ ⟨(HF.out _ (HB4.out)).1, (HF.out _ (HB4.out)).2.1, (HF.out _ (HB4.out)).2.2.1, (HF.out _ (HB4.out)).2.2.2⟩ (fun hHeld => ?_)
      clear hK K
      refine norm_ (a' := ?_) ?_ ?_
      rotate_left
      · show Act.put _ (some 40) _ = _
        simp only [Act.put, List.setIfInBounds_toArray, List.set_cons_zero, List.set_cons_succ, i64_w, i32_w]
        rfl
      refine pure_ (i := 29) (N := some 3) (v := ?_) (a' := ?_) #[true, true, true, true, true, true, true, true, true, true, true, true, true, true, true, true, true, true, true, true, true, true, true, true, true, true, true, true, true, true] rfl rfl (by kernel_rfl) (fun _ _ _ h => h) (Or.inl ⟨by rfl, ?_⟩) ?_ ?_
      rotate_left
      · intro w'
        go_simp
        with_reducible rfl
      rotate_left
      · simp only [Act.put, List.setIfInBounds_toArray, List.set_cons_zero, List.set_cons_succ, i64_w, i32_w]
        rfl
      refine done_ (by kernel_rfl) ?_
      go_wp2
      refine ⟨?rel, ?measure⟩
      case rel => exact ⟨i + 2, by omega, by go_num, ⟨by have := HS.out.1; omega, by have h4 := HV4.out; rw [List.length_append] at h4; rw [HPS.out, ← HQ.out]; exact h4, HB4.out⟩⟩
      case measure => simp [intOf]; omega
    · have hltz : ¬ (i : Int) + 1 < (l.length : Int) := by omega
      obtain ⟨Av, cv, hve⟩ := Kd.N_slice HS.out.2.1
      obtain ⟨o, ho⟩ : ∃ o, o = pairedS (l.take i) := ⟨_, rfl⟩
      rw [← ho] at HS hve
      have HO := Aside0.mk (ho.trans (pairedS_end i l HS.out.1 hlt))
      clear ho
      subst hve
      go_wp2
      go_ret
      exact ⟨_, rfl, by rw [← HO.out]; exact HS.out.2.1, HS.out.2.2⟩
end Go.Proofs.Ytjajkgemjgehiaa.St
