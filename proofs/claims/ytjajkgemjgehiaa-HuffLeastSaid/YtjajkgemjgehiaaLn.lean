import Derived.Test.YtjajkgemjgehiaaLnP
import Derived.Test.YtjajkgemjgehiaaWords
/- huff.Lengths, walked. -/
set_option linter.unusedVariables false
set_option linter.unusedSimpArgs false
namespace Go.Proofs.Ytjajkgemjgehiaa.St
open Go.RowKit Go.Proofs.YtjajkgemjgehiaaW.PrintWords Go.Proofs.YtjajkgemjgehiaaW.PrintLast Go.Proofs.YtjajkgemjgehiaaW.PrintMore Go.Proofs.Ytjajkgemjgehiaa.PH Go.Proofs.Ytjajkgemjgehiaa.Ct Go.Proofs.Ytjajkgemjgehiaa.Hw
theorem lit_FK (W : World) (x s : Int) : Kd.FK kPa (W.alloc (.cells #[.int .i64 s] 3)) (fun k => k = W.heap.size) ⟨x, [s]⟩ [.int .i64 x, .slice (some ⟨W.heap.size, 0, none⟩) 1 1] := by
  have h := (Arr.new W 3 .i64 [s]).own (base := 0) (Nat.zero_le _) (by simp) (fun k => k = W.heap.size) rfl
  exact Kd.FK_of_M (k34_mkM _ 0 _ ⟨x, [s]⟩ h)
theorem outs_nil (N : Nat) : PM.outs N [] = List.replicate N 0 := by
  apply List.ext_getElem
  · simp [PM.outs]
  · intro i h1 h2; simp [PM.outs]
theorem syms_len {N : Nat} : ∀ {l : List SP}, (∀ x ∈ l, Lev N 16384 x) → l.length ≤ 1024 → (symsS l).length ≤ 16777216 := by
  have h : ∀ l : List SP, (∀ x ∈ l, Lev N 16384 x) → (symsS l).length ≤ l.length * 16384 := fun l => by
    induction l with
    | nil => intro _; simp [symsS]
    | cons x l ih =>
      intro hx
      have h1 := ih (fun y hy => hx y (List.mem_cons_of_mem _ hy))
      have h2 := (hx x (List.mem_cons_self ..)).2.2.1
      show (x.f1 ++ symsS l).length ≤ _
      rw [List.length_append, List.length_cons]
      omega
  intro l hx hl
  have := h l hx
  omega
theorem outs_small (N : Nat) (S : List Int) (s : Nat) (h : s < N) (hl : S.length ≤ 33554432) : 0 ≤ (PM.outs N S).getD s 0 ∧ (PM.outs N S).getD s 0 ≤ 33554432 := by
  rw [PM.outs_getD _ _ _ h]
  have := List.count_le_length (a := (s : Int)) (l := S)
  omega
theorem leaf_lev {cs : List Int} {ys : List SP} (hr : allR cs) (hp : ys.Perm (leafUp cs cs.length)) : ∀ x ∈ ys, Lev cs.length 1 x := fun x hx => by
  obtain ⟨s, hs1, rfl⟩ := List.mem_map.1 (hp.mem_iff.1 hx)
  obtain ⟨h2, h3⟩ := List.mem_filter.1 hs1
  have hs := List.mem_range.1 h2
  have h4 : cs.getD s 0 = cs[s] := by simp [List.getD_eq_getElem?_getD, hs]
  have h5 := hr _ (List.getElem_mem hs)
  refine ⟨by show 0 ≤ cs.getD s 0; rw [h4]; exact h5.1, by show cs.getD s 0 ≤ _; rw [h4]; have := h5.2; omega, by simp, fun y hy => ?_⟩
  have := List.mem_singleton.1 hy
  omega
/-- merged, of the leaves and of pairs made just now: what it hands back may be looked at as before. -/
theorem merge_step {w wr w3 : World} {gt : Nat} {Av A3 : Option Addr} {n cv c3 : Nat} {ys ps : List SP} (hN : Kd.N kPa 34 wr w.heap.size (fun k => w.heap.size ≤ k ∧ k ≠ gt) (.slice Av n cv) ys) (hn : ys.length = n)
    (hP : Kd.N kPa 34 w3 wr.heap.size (fun k => wr.heap.size ≤ k) (.slice A3 ps.length c3) ps) (hB : Below wr.heap.size wr w3) (hg : gt < wr.heap.size) (hW : Below w.heap.size w wr) (hl : ys.length + ps.length < 4398046511104) :
    Calls Try.prog 12 #[.slice Av n cv, .slice A3 ps.length c3] w3 fun e w4 => ∃ v4, e = .returned v4 ∧ Kd.V kPa 34 w4 0 (fun k => w.heap.size ≤ k ∧ k ≠ gt) v4 (mergedS ys ps) ∧ Below w3.heap.size w3 w4 := by
  subst hn
  refine (huff_merged.calls (2 * (ys.length + ps.length) + 2) (fun k => w.heap.size ≤ k ∧ k ≠ gt) Av cv ys (fun k => wr.heap.size ≤ k) A3 c3 ps (mergedS ys ps) w3 (Kd.N_V (Kd.N_below hN hB)) (Kd.N_V hP) (merged_f ys ps hl)).mono ?_
  rintro e w4 ⟨v4, rfl, h4, hb4⟩
  have hs := hB.size
  have hs2 := hW.size
  refine ⟨v4, rfl, Kd.V_mono (Kd.N_V h4) (fun k hk => ?_), hb4⟩
  rcases hk with (hk | hk) | hk
  · exact hk
  · exact ⟨by omega, by omega⟩
  · exact ⟨by omega, by omega⟩
/-- What Lengths answers. -/
def LenEnd (cs : List Int) (most : Int) (w : World) (e : Ending) (w' : World) : Prop :=
  Below w.heap.size w w' ∧ (((cc cs most).2 ≠ 0 ∧ e = .returned (.tuple #[.slice none 0 0, .int .i64 (cc cs most).2])) ∨ ((cc cs most).2 = 0 ∧ ∃ g ls, e = .returned (.tuple #[.slice (some ⟨g, 0, none⟩) cs.length cs.length, .int .i64 0]) ∧ w.heap.size ≤ g ∧ Arr 3 .i64 w' g ls ∧ lensOk cs most.toNat ls))
set_option maxRecDepth 100000 in
set_option maxHeartbeats 8000000 in
theorem lengths_calls (A : Option Addr) (c : Nat) (cs : List Int) (most : Int) (w : World) (hC : Kd.C (Kd.int .i64) w A cs.length cs) (hc : cs.length ≤ c) (hy : cs.length ≤ 140737488351232) :
    Calls Try.prog 4 #[.slice A cs.length c, .int .i64 most] w fun e w' => LenEnd cs most w e w' := by
  have HC := Aside0.mk hC
  clear hC
  by_cases hl : 512 < cs.length
  · have e : cc cs most = (0, 3) := by unfold cc; rw [if_pos hl]
    have HE := Aside0.mk e
    clear e
    have hd : decide ((512 : Int) < (cs.length : Int)) = true := by simp; omega
    have hdn : decide (512 < cs.length) = true := by simp; omega
    go_enter Try.func4, Try.ntmps4
    go_wp2
    go_ret2
    exact ⟨Below.refl _ _, .inl ⟨by rw [HE.out]; decide, by rw [HE.out]; rfl⟩⟩
  · have hd : decide ((512 : Int) < (cs.length : Int)) = false := by simp; omega
    have hdn : decide (512 < cs.length) = false := by simp; omega
    go_enter Try.func4, Try.ntmps4
    go_wp2
    go_loopw [6, 20] (fun v i wr => ∃ k : Nat, k ≤ cs.length ∧ i = .int .i64 k ∧ allR (cs.take k) ∧ Aside0 (Kd.N kPa 34 wr w.heap.size (fun k => w.heap.size ≤ k) v (leafUp cs k) ∧ Below w.heap.size w wr)) (fun _ i _ => cs.length - (intOf i).toNat)
    case atStart => exact ⟨0, Nat.zero_le _, rfl, (by intro x hx; simp at hx), ⟨Kd.N_nil _ _ _ _ _, Below.refl _ _⟩⟩
    case round =>
      obtain ⟨k, hk, rfl, hr, HS⟩ := hrel
      have HRR := Aside0.mk hr
      clear hr
      obtain ⟨lf, hlf⟩ : ∃ l, l = leafUp cs k := ⟨_, rfl⟩
      rw [← hlf] at HS
      have HLF := Aside0.mk hlf
      have hlen : lf.length = HP.many (cs.take k) := by rw [hlf]; exact leafUp_many cs k hk
      have HLL : Aside0 (lf.length ≤ 512) := ⟨by rw [hlen]; have := HP.many_le (cs.take k); have := List.length_take_le k cs; omega⟩
      clear hlf hlen
      by_cases hlt : k < cs.length
      · have HY := Aside0.mk (allR_take cs k hlt HRR.out)
        have HZ := Aside0.mk (allR_not cs k hlt)
        have HX := Aside0.mk (leafUp_succ cs k)
        obtain ⟨ad, e1, hx⟩ := Kd.at_int (Kd.C_below HC.out HS.out.2) (k : Int) (by omega) (by omega)
        subst e1
        have hrd : rd cs (k : Int) = cs.getD k 0 := by unfold rd; rw [Int.toNat_natCast]
        rw [Int.toNat_natCast, hrd] at hx
        clear hrd
        generalize cs.getD k 0 = x at *
        by_cases h0 : x < 0
        · have t0 : decide (x < 0) = true := by simpa using h0
          have hb := HZ.out (fun h => by unfold inR at h; omega)
          have e : cc cs most = (0, 1) := by unfold cc; rw [if_neg hl, if_pos hb]
          have HE := Aside0.mk e
          clear hb e h0
          go_wp2
          go_ret2
          exact ⟨HS.out.2, .inl ⟨by rw [HE.out]; decide, by rw [HE.out]; rfl⟩⟩
        · have t0 : decide (x < 0) = false := by simpa using h0
          by_cases h1 : 2147483648 < x
          · have t1 : decide (2147483648 < x) = true := by simpa using h1
            have hb := HZ.out (fun h => by unfold inR at h; omega)
            have e : cc cs most = (0, 1) := by unfold cc; rw [if_neg hl, if_pos hb]
            have HE := Aside0.mk e
            clear hb e h0 h1
            go_wp2
            go_ret2
            exact ⟨HS.out.2, .inl ⟨by rw [HE.out]; decide, by rw [HE.out]; rfl⟩⟩
          · have t1 : decide (2147483648 < x) = false := by simpa using h1
            have HY2 := Aside0.mk (HY.out (by unfold inR; omega))
            by_cases h2 : 0 < x
            · have t2 : decide (0 < x) = true := by simpa using h2
              have HX2 : Aside0 (leafUp cs (k + 1) = lf ++ [⟨x, [(k : Int)]⟩]) := ⟨by rw [HX.out, if_pos h2, HLF.out]⟩
              have HLT := Aside0.mk (Kd.N_lt HS.out.1)
              clear h0 h1 h2 HX
              go_wp2_with (at_builtin; refine Kd.N_append kPa (w0 := w) (W := wr.alloc (.cells #[.int .i64 (k : Int)] 3)) w.heap.size rfl _ _ 32 34 (.agg #[(.int .i64 0), (.slice none 0 0)]) 32 rfl Try.underlying32 infoP rfl (by decide) (by decide) u6 lf ⟨x, [(k : Int)]⟩ [.int .i64 x, .slice (some ⟨wr.heap.size, 0, none⟩) 1 1] (fun k => w.heap.size ≤ k) (fun k => k = wr.heap.size) rfl (by rw [World.size_alloc]; rfl) (lit_FK wr x (k : Int)) (fun j hj => ⟨by rw [hj]; exact HS.out.2.size, fun he => by have := HLT.out j he.symm; omega⟩) (fun j hj => Nat.le_trans (Nat.le_trans HS.out.2.size (by simp)) hj) (Kd.N_alloc HS.out.1 _) (below_alloc HS.out.2 _) (Nat.le_trans HS.out.2.size (by simp)) (by have := HLL.out; omega) ?_; intro v4 w4 hv4 hb4 hg4 hat4; have HV4 := Aside0.mk hv4; have HB4 := Aside0.mk hb4; obtain ⟨A4, c4, hve4⟩ := Kd.N_slice hv4; clear hv4 hg4 hat4 hb4; subst hve4)
              refine ⟨?rel, ?measure⟩
              case rel => exact ⟨k + 1, by omega, by go_num, HY2.out, ⟨by have h4 := HV4.out; rw [List.length_append] at h4; rw [HX2.out]; exact h4, HB4.out⟩⟩
              case measure => simp [intOf]; omega
            · have t2 : decide (0 < x) = false := by simpa using h2
              have HX2 : Aside0 (leafUp cs (k + 1) = lf) := ⟨by rw [HX.out, if_neg h2, HLF.out]⟩
              clear h0 h1 h2 HX
              go_wp2
              refine ⟨?rel, ?measure⟩
              case rel => exact ⟨k + 1, by omega, by go_num, HY2.out, ⟨by rw [HX2.out]; exact HS.out.1, HS.out.2⟩⟩
              case measure => simp [intOf]; omega
      · obtain rfl : k = cs.length := by omega
        have hr := HRR.out
        rw [List.take_length] at hr
        have HMN : Aside0 (lf.length = HP.many cs) := ⟨by rw [HLF.out, leafUp_many cs _ (Nat.le_refl _), List.take_length]⟩
        obtain ⟨Av, cv, hve⟩ := Kd.N_slice HS.out.1
        subst hve
        by_cases hm : most < 1 ∨ 15 < most
        · have e : cc cs most = (0, 1) := by unfold cc; rw [if_neg hl, if_neg (fun h => h hr), if_pos hm]
          have HE := Aside0.mk e
          have hd3 : decide (most < 1) = true ∨ (decide (most < 1) = false ∧ decide (15 < most) = true) := by simp; omega
          clear e hm hr
          rcases hd3 with h1 | ⟨h1, h2⟩
          · go_wp2
            go_ret2
            exact ⟨HS.out.2, .inl ⟨by rw [HE.out]; decide, by rw [HE.out]; rfl⟩⟩
          · go_wp2
            go_ret2
            exact ⟨HS.out.2, .inl ⟨by rw [HE.out]; decide, by rw [HE.out]; rfl⟩⟩
        · have h1 : decide (most < 1) = false := by simp; omega
          have h2 : decide (15 < most) = false := by simp; omega
          obtain ⟨m, rfl⟩ : ∃ m : Nat, most = (m : Int) := ⟨most.toNat, by omega⟩
          have hm15 : m ≤ 15 := by omega
          have hm1 : 1 ≤ m := by omega
          have hp : (2 : Nat) ^ m ≤ 2 ^ 15 := Nat.pow_le_pow_right (by omega) hm15
          have e15 : (2 : Nat) ^ 15 = 32768 := rfl
          obtain ⟨p, hpe⟩ : ∃ p : Nat, p = 2 ^ m := ⟨_, rfl⟩
          have hwr : wrap64 ((2 : Int) ^ m) = (p : Int) := by rw [show ((2 : Int) ^ m) = ((2 ^ m : Nat) : Int) from by simp, hpe]; exact w64n rfl (by omega)
          have HPE := Aside0.mk hpe
          have hp9 : p ≤ 32768 := by omega
          clear hpe
          by_cases hb : p < lf.length
          · have e : cc cs (m : Int) = (0, 20) := by unfold cc; rw [if_neg hl, if_neg (fun h => h hr), if_neg hm, Int.toNat_natCast, ← HPE.out, ← HMN.out, if_pos hb]
            have HE := Aside0.mk e
            have h3 : decide ((p : Int) < (lf.length : Int)) = true := by simp; omega
            have h3n : decide (p < lf.length) = true := by simp; omega
            clear e hm hr hb hp e15
            go_wp2
            go_ret2
            exact ⟨HS.out.2, .inl ⟨by rw [HE.out]; decide, by rw [HE.out]; rfl⟩⟩
          · have e : cc cs (m : Int) = (((HP.many cs : Nat) : Int), 0) := by unfold cc; rw [if_neg hl, if_neg (fun h => h hr), if_neg hm, Int.toNat_natCast, ← HPE.out, ← HMN.out, if_neg hb]
            have HE := Aside0.mk e
            have h3 : decide ((p : Int) < (lf.length : Int)) = false := by simp; omega
            have h3n : decide (p < lf.length) = false := by simp; omega
            have HLP : Aside0 (lf.length ≤ 2 ^ m) := ⟨by rw [← HPE.out]; omega⟩
            have HM1 := Aside0.mk hm1
            have HM15 := Aside0.mk hm15
            have hr' := hr
            have HRA := Aside0.mk hr'
            clear e hm hr hr' hb hp e15
            have hmk := print_make (P := Try.prog) 22 3 .i64 8 Try.underlying22 infoN8 (by decide) cs.length (by omega)
            by_cases hn2 : lf.length < 2
            · have d2 : decide ((lf.length : Int) < 2) = true := by simp; omega
              have d2n : decide (lf.length < 2) = true := by simp; omega
              by_cases hn1 : lf.length = 1
              · have d1 : (((lf.length : Nat) : Int) == 1) = true := by simp; omega
                have d1n : (lf.length == 1) = true := by simp; omega
                obtain ⟨x, hx⟩ := List.length_eq_one_iff.1 hn1
                obtain ⟨sy, hf1, hsy, hok⟩ := lens_one m hm1 (by omega : cs.length ≤ 512) (x := x) (by rw [← HLF.out, hx])
                have HOK := Aside0.mk hok
                have HBA : Aside0 (Below w.heap.size w (wr.alloc (.cells (madeCells #[.int .i64 0] cs.length) 3))) := ⟨below_alloc HS.out.2 _⟩
                have HA := Aside0.mk (Arr.made wr 3 .i64 cs.length)
                have hNA := Kd.N_alloc HS.out.1 (.cells (madeCells #[.int .i64 0] cs.length) 3)
                obtain ⟨ad, A1, c1, e1, _, hy0, hl0, hC0⟩ := at_T34 (Kd.N_reads' hNA).2.2 (0 : Int) (by omega) (by omega)
                subst e1
                have hrd : rd_T34 lf 0 = x := by rw [hx]; rfl
                rw [hrd, hf1] at hy0 hC0
                rw [show (0 : Int).toNat = 0 from rfl, show 0 * 2 = 0 from rfl, Addr.add_zero'] at hy0
                obtain ⟨ad1, e1, hz0⟩ := Kd.at_int hC0 (0 : Int) (by decide) (by simp)
                subst e1
                rw [show (0 : Int).toNat = 0 from rfl, Addr.add_zero'] at hz0
                change _ = some (Value.int IntKind.i64 (sy : Int)) at hz0
                have hcl := HA.out.cell (i := sy) (by simpa using hsy)
                have hfr := HA.out.frozen sy
                have hsyz : (sy : Int) < (cs.length : Int) := by omega
                have q1 : (0 : Int) < (lf.length : Int) := by omega
                have q2 : 0 < lf.length := by omega
                clear hNA hC0 hrd hf1 hx hok hn1 hn2
                go_wp2
                go_ret2
                exact ⟨below_alloc HS.out.2 _, .inr ⟨by rw [HE.out], wr.heap.size, _, rfl, HS.out.2.size, by have h := HA.out.set sy 1; rw [World.setCell_alloc_new] at h; exact h, by rw [Int.toNat_natCast]; exact HOK.out⟩⟩
              · have d1 : (((lf.length : Nat) : Int) == 1) = false := by simp; omega
                have d1n : (lf.length == 1) = false := by simp; omega
                have HOK : Aside0 (lensOk cs m (List.replicate cs.length 0)) := ⟨lens_none m (by omega) (by rw [← HLF.out]; exact List.eq_nil_of_length_eq_zero (by omega))⟩
                have HA := Aside0.mk (Arr.made wr 3 .i64 cs.length)
                go_wp2
                go_ret2
                exact ⟨below_alloc HS.out.2 _, .inr ⟨by rw [HE.out], wr.heap.size, _, rfl, HS.out.2.size, HA.out, by rw [Int.toNat_natCast]; exact HOK.out⟩⟩
            · have d2 : decide ((lf.length : Int) < 2) = false := by simp; omega
              have d2n : decide (lf.length < 2) = false := by simp; omega
              have d1 : (((lf.length : Nat) : Int) == 1) = false := by simp; omega
              have d1n : (lf.length == 1) = false := by simp; omega
              have HL512 : Aside0 (cs.length ≤ 512) := ⟨by omega⟩
              have HN2 : Aside0 (2 ≤ lf.length) := ⟨by omega⟩
              have hll := HLL.out
              have HBA : Aside0 (Below w.heap.size w (wr.alloc (.cells (madeCells #[.int .i64 0] cs.length) 3))) := ⟨below_alloc HS.out.2 _⟩
              have HA := Aside0.mk (Arr.made wr 3 .i64 cs.length)
              have HNA : Aside0 (Kd.N kPa 34 (wr.alloc (.cells (madeCells #[.int .i64 0] cs.length) 3)) w.heap.size (fun k => w.heap.size ≤ k ∧ k ≠ wr.heap.size) (.slice Av lf.length cv) lf) := ⟨Kd.N_alloc (Kd.N_elderB HS.out.1 wr.heap.size (Nat.le_refl _)) _⟩
              have HSORT := Aside0.mk (sort_calls HNA.out (by have := HN2.out; omega) (by omega))
              have HG0 : Aside0 (w.heap.size ≤ wr.heap.size) := ⟨HS.out.2.size⟩
              clear hn2
              go_wp2_with (go_at_call 9; refine HSORT.out.mono ?_; rintro e w2 ⟨rfl, ys, y1, y2, hN, hg⟩; have HJ := Aside0.mk (And.intro y1 (And.intro y2 (And.intro hN hg))); clear y1 y2 hN hg)
              -- from here on: g the block of what is answered
              obtain ⟨gt, hgt⟩ : ∃ g, g = wr.heap.size := ⟨_, rfl⟩
              have hyl : ys.length = lf.length := HJ.out.1.length_eq
              have HYL := Aside0.mk hyl
              clear hyl
              have hne : ∀ k, (Value.slice Av lf.length cv).ownBlock = some k → k ≠ gt := fun k hk => by rw [hgt]; exact (HNA.out.1 k hk).2
              have HB2 : Aside0 (Below w.heap.size w w2) := ⟨HBA.out.grown HJ.out.2.2.2 HBA.out.size (Kd.N_base HNA.out)⟩
              have HA2 : Aside0 (Arr 3 .i64 w2 gt (List.replicate cs.length 0)) := ⟨by rw [hgt]; exact (HJ.out.2.2.2.block _ HA.out.lt (fun e => hne _ e.symm hgt.symm)).trans HA.out⟩
              have HN3 : Aside0 (Kd.N kPa 34 w2 w.heap.size (fun k => w.heap.size ≤ k ∧ k ≠ gt) (.slice Av lf.length cv) ys) := ⟨by rw [hgt]; exact HJ.out.2.2.1⟩
              have HYS : Aside0 (ys.Perm (leafUp cs cs.length) ∧ ys.Pairwise fun x y => x.f0 ≤ y.f0) := ⟨by rw [← HLF.out]; exact HJ.out.1, HJ.out.2.1⟩
              have HLV : Aside0 (∀ x ∈ ys, Lev cs.length 1 x) := ⟨leaf_lev HRA.out HYS.out.1⟩
              have HGB : Aside0 (w.heap.size ≤ gt) := ⟨by rw [hgt]; exact HG0.out⟩
              have HLP2 : Aside0 (ys.length ≤ 2 ^ m ∧ 2 ≤ ys.length ∧ ys.length ≤ 512) := ⟨by rw [HYL.out]; exact ⟨HLP.out, HN2.out, hll⟩⟩
              have HV3 : Aside0 (Kd.V kPa 34 w2 0 (fun k => w.heap.size ≤ k ∧ k ≠ gt) (.slice Av lf.length cv) (levelS ys 0)) := ⟨Kd.N_V HN3.out⟩
              rw [← hgt]
              clear hgt hne HJ HA HBA HNA HSORT HG0 HS hmk
              have hm1 := HM1.out
              have hm15 := HM15.out
              go_loopw [10, 75] (fun v i wr => ∃ k : Nat, k ≤ m - 1 ∧ i = .int .i64 k ∧ Aside0 (Kd.V kPa 34 wr 0 (fun k => w.heap.size ≤ k ∧ k ≠ gt) v (levelS ys k) ∧ Kd.N kPa 34 wr w.heap.size (fun k => w.heap.size ≤ k ∧ k ≠ gt) (.slice Av lf.length cv) ys ∧ Arr 3 .i64 wr gt (List.replicate cs.length 0) ∧ Below w.heap.size w wr)) (fun _ i _ => m - (intOf i).toNat)
              case atStart => exact ⟨0, Nat.zero_le _, rfl, ⟨HV3.out, HN3.out, HA2.out, HB2.out⟩⟩
              case round =>
                clear HV3 HN3 HA2 HB2
                obtain ⟨k, hk, rfl, HL⟩ := hrel
                obtain ⟨L, hLe⟩ : ∃ L, L = levelS ys k := ⟨_, rfl⟩
                rw [← hLe] at HL
                have HLL2 : Aside0 (L.length ≤ 1024) := ⟨by rw [hLe]; have := levelS_length ys k; have := HLP2.out.2.2; omega⟩
                have hp14 : 2 ^ k ≤ 2 ^ 14 := Nat.pow_le_pow_right (by omega) (by omega)
                have HLQ : Aside0 (∀ x ∈ L, Lev cs.length 16384 x) := ⟨fun x hx => (lev_level HLV.out k x (by rw [← hLe]; exact hx)).wide hp14⟩
                have HLE := Aside0.mk hLe
                clear hLe hp14
                obtain ⟨AL, cL, hue, hcL, hFL⟩ := HL.out.1
                subst hue
                have HFL := Aside0.mk hFL
                have HCL := Aside0.mk hcL
                clear hFL hcL
                by_cases hlt : k < m - 1
                · have tk : decide ((k : Int) < (m : Int) - 1) = true := by simp; omega
                  have HP := Aside0.mk (paired_calls AL cL L wr (Kd.F_now HFL.out) HCL.out (lev_small HLQ.out (by omega)) (by have := HLL2.out; omega))
                  go_wp2_with (first | (go_at_call 13; refine HP.out.mono ?_; rintro e w3 ⟨v3, rfl, hN3, hB3⟩; obtain ⟨A3, c3, hv3⟩ := Kd.N_slice hN3; have HX3 := Aside0.mk (And.intro hN3 hB3); clear hN3 hB3; subst hv3; have HM3 := merge_step HL.out.2.1 HYL.out HX3.out.1 HX3.out.2 HL.out.2.2.1.lt HL.out.2.2.2 (by have := HLP2.out; have := HLL2.out; have := pairedS_len L; omega)) | (go_at_call 12; refine HM3.mono ?_; rintro e w4 ⟨v4, rfl, hN4, hB4⟩; obtain ⟨A4, c4, hv4⟩ := Kd.V_slice hN4; have HX4 := Aside0.mk (And.intro hN4 hB4); clear hN4 hB4 HM3; subst hv4))
                  refine ⟨?rel, ?measure⟩
                  case rel => exact ⟨k + 1, by omega, by go_num, ⟨by rw [levelS, ← HLE.out]; exact HX4.out.1, Kd.N_below (Kd.N_below HL.out.2.1 HX3.out.2) HX4.out.2, (HL.out.2.2.1.below HX3.out.2).below HX4.out.2, below_step (below_step HL.out.2.2.2 HX3.out.2) HX4.out.2⟩⟩
                  case measure => simp [intOf]; omega
                · have tk : decide ((k : Int) < (m : Int) - 1) = false := by simp; omega
                  have hkm : k = m - 1 := by omega
                  have HTWO := Aside0.mk (lens_two HYS.out.1 HYS.out.2 HL512.out m hm1 hm15 HLP2.out.2.1 HLP2.out.1)
                  rw [← hkm, ← HLE.out, HYL.out] at HTWO
                  have hcut2 : 2 * lf.length - 2 ≤ L.length := HTWO.out.1
                  obtain ⟨T, hT⟩ : ∃ T, T = L.take (2 * lf.length - 2) := ⟨_, rfl⟩
                  have HTL : Aside0 (T.length = 2 * lf.length - 2) := ⟨by rw [hT, List.length_take]; omega⟩
                  have HTQ : Aside0 (∀ x ∈ T, Lev cs.length 16384 x) := ⟨fun x hx => HLQ.out x (List.mem_of_mem_take (by rw [← hT]; exact hx))⟩
                  have HFT : Aside0 (Kd.V kPa 34 wr 0 (fun k => w.heap.size ≤ k ∧ k ≠ gt) (.slice AL (2 * lf.length - 2) cL) T) := ⟨by
                    have h := Kd.F_take HFL.out hcut2
                    have e : (L.take (2 * lf.length - 2)).length = 2 * lf.length - 2 := by rw [List.length_take]; omega
                    refine ⟨AL, cL, by rw [hT, e], by rw [hT, e]; exact Nat.le_trans hcut2 HCL.out, by rw [hT]; exact h⟩⟩
                  rw [← hT] at HTWO
                  have HOU : Aside0 (Arr 3 .i64 wr gt (PM.outs cs.length (symsS (T.take 0)))) := ⟨by rw [show PM.outs cs.length (symsS (T.take 0)) = List.replicate cs.length 0 from outs_nil _]; exact HL.out.2.2.1⟩
                  have HBW := Aside0.mk HL.out.2.2.2
                  have hn22 := HN2.out
                  obtain ⟨i0, hi0, _, _, _⟩ := info_parts infoP
                  have hcut := cut_to (P := Try.prog) 32 34 .i64 Try.underlying32 hi0 AL L.length cL (2 * (lf.length : Int) - 2) (by omega) (by omega) HCL.out
                  rw [show (2 * (lf.length : Int) - 2).toNat = 2 * lf.length - 2 from by omega] at hcut
                  obtain ⟨n2, hn2⟩ : ∃ n, n = 2 * lf.length - 2 := ⟨_, rfl⟩
                  rw [← hn2] at hcut HTL HFT HTWO
                  have hn2b : n2 ≤ 1024 := by omega
                  clear hT hcut2 hkm hn2 hi0 hn22
                  go_wp2
                  go_loopw [89] (fun i w5 => ∃ q : Nat, q ≤ n2 ∧ i = .int .i64 q ∧ Aside0 (Kd.V kPa 34 w5 0 (fun k => w.heap.size ≤ k ∧ k ≠ gt) (.slice AL n2 cL) T ∧ Arr 3 .i64 w5 gt (PM.outs cs.length (symsS (T.take q))) ∧ Below w.heap.size w w5)) (fun i _ => n2 - (intOf i).toNat)
                  case atStart => exact ⟨0, Nat.zero_le _, rfl, ⟨HFT.out, HOU.out, HBW.out⟩⟩
                  case round =>
                    clear HFT HOU HBW HL HFL HCL HLE
                    obtain ⟨q, hq, rfl, HQ⟩ := hrel
                    by_cases hlt : q < n2
                    · obtain ⟨ad, c0, rfl, _, hFK, hcc, _⟩ := Kd.F_get (Kd.V_F HQ.out.1) z34 (q : Int) (by omega) (by omega)
                      rw [Int.toNat_natCast] at hFK hcc
                      have hqT : q < T.length := by rw [HTL.out]; exact hlt
                      have hget : T.getD q z34 = T[q] := by simp [List.getD_eq_getElem?_getD, hqT]
                      have HSY : Aside0 (symsS (T.take (q + 1)) = symsS (T.take q) ++ (T.getD q z34).f1) := ⟨by rw [List.take_succ_eq_append_getElem hqT, hget]; unfold symsS; rw [List.flatMap_append]; simp⟩
                      have HXQ : Aside0 (Lev cs.length 16384 (T.getD q z34)) := ⟨by rw [hget]; exact HTQ.out _ (List.getElem_mem hqT)⟩
                      have HSL : Aside0 ((symsS (T.take q)).length ≤ 16777216) := ⟨syms_len (fun x hx => HTQ.out x (List.mem_of_mem_take hx)) (by have := List.length_take_le q T; omega)⟩
                      clear hget hqT
                      generalize T.getD q z34 = xq at *
                      obtain ⟨A1, c1, rfl, hl1, hF1⟩ := k34_openF hFK
                      have hx0 := hcc 0 _ rfl
                      have hy0 := hcc 1 _ rfl
                      rw [add_field _ _ 1 (by omega)] at hy0
                      change wr.cell? (ad.add (q * 2 + 0)) = some (Value.int IntKind.i64 xq.f0) at hx0
                      rw [Nat.add_zero] at hx0
                      change wr.cell? ⟨(ad.add (q * 2)).block, (ad.add (q * 2)).off + 1, none⟩ = some (Value.slice A1 xq.f1.length c1) at hy0
                      obtain ⟨f0, ss⟩ := xq
                      dsimp only at hx0 hy0 hl1 hF1
                      have HF1 := Aside0.mk hF1
                      have HL1 := Aside0.mk hl1
                      have hqz : (q : Int) < (n2 : Int) := by omega
                      clear hF1 hl1 hFK hcc
                      go_wp2
                      have HI0 : Aside0 (Kd.V kPa 34 (wr.alloc (.cells #[.int .i64 f0, .slice A1 ss.length c1] 34)) 0 (fun k => w.heap.size ≤ k ∧ k ≠ gt) (.slice (some ad) n2 cL) T ∧ Kd.F (Kd.int .i64) (wr.alloc (.cells #[.int .i64 f0, .slice A1 ss.length c1] 34)) (fun k => w.heap.size ≤ k ∧ k ≠ gt) A1 ss.length ss ∧ Arr 3 .i64 (wr.alloc (.cells #[.int .i64 f0, .slice A1 ss.length c1] 34)) gt (PM.outs cs.length (symsS (T.take q) ++ ss.take 0)) ∧ Below w.heap.size w (wr.alloc (.cells #[.int .i64 f0, .slice A1 ss.length c1] 34))) :=
                        ⟨Kd.V_alloc HQ.out.1 _, Kd.F_alloc HF1.out _, by rw [List.take_zero, List.append_nil]; exact HQ.out.2.1.alloc _, below_alloc HQ.out.2.2 _⟩
                      go_loopw [96] (fun t w6 => ∃ u : Nat, u ≤ ss.length ∧ t = .int .i64 u ∧ Aside0 (Kd.V kPa 34 w6 0 (fun k => w.heap.size ≤ k ∧ k ≠ gt) (.slice (some ad) n2 cL) T ∧ Kd.F (Kd.int .i64) w6 (fun k => w.heap.size ≤ k ∧ k ≠ gt) A1 ss.length ss ∧ Arr 3 .i64 w6 gt (PM.outs cs.length (symsS (T.take q) ++ ss.take u)) ∧ Below w.heap.size w w6)) (fun t _ => ss.length - (intOf t).toNat)
                      case atStart => exact ⟨0, Nat.zero_le _, rfl, HI0⟩
                      case round =>
                        clear HI0 HQ hx0 hy0 HF1
                        obtain ⟨u, hu, rfl, HI⟩ := hrel
                        obtain ⟨S, hS⟩ : ∃ S, S = symsS (T.take q) ++ ss.take u := ⟨_, rfl⟩
                        rw [← hS] at HI
                        have hssl : ss.length ≤ 16384 := HXQ.out.2.2.1
                        have HSB : Aside0 (S.length ≤ 33554432) := ⟨by rw [hS, List.length_append]; have := HSL.out; have := List.length_take_le u ss; omega⟩
                        have HSE := Aside0.mk hS
                        clear hS
                        by_cases hlu : u < ss.length
                        · obtain ⟨ad1, e1, hx⟩ := Kd.at_int (Kd.F_now HI.out.2.1) (u : Int) (by omega) (by omega)
                          subst e1
                          have hget : rd ss (u : Int) = ss[u] := by unfold rd; rw [Int.toNat_natCast]; simp [List.getD_eq_getElem?_getD, hlu]
                          have hin := HXQ.out.2.2.2 _ (List.getElem_mem hlu)
                          rw [Int.toNat_natCast, hget] at hx
                          have HNX : Aside0 (symsS (T.take q) ++ ss.take (u + 1) = S ++ [ss[u]]) := ⟨by rw [HSE.out, List.take_succ_eq_append_getElem hlu, List.append_assoc]⟩
                          generalize ss[u] = sy at *
                          obtain ⟨sn, rfl⟩ := Int.eq_ofNat_of_zero_le hin.1
                          have hsn : sn < cs.length := by omega
                          have hsnz : (sn : Int) < (cs.length : Int) := hin.2
                          have HSN := Aside0.mk (outs_snoc cs.length S sn hsn)
                          have hcl := HI.out.2.2.1.cell (i := sn) (by rw [PM.outs_length]; exact hsn)
                          have hfr := HI.out.2.2.1.frozen sn
                          have hy9 := outs_small cs.length S sn hsn HSB.out
                          generalize (PM.outs cs.length S).getD sn 0 = y at *
                          have huz : (u : Int) < (ss.length : Int) := by omega
                          have hwy : IntKind.i64.wrap (y + 1) = y + 1 := by rw [IntKind.wrap_i64]; omega
                          clear hget hin
                          go_wp2
                          refine ⟨?rel, ?measure⟩
                          case rel =>
                            refine ⟨u + 1, by omega, by go_num, ⟨?_, ?_, ?_, ?_⟩⟩
                            · exact Kd.V_far HI.out.1 (p := ⟨gt, sn, none⟩) (fun k hk => hk.2) _
                            · exact Kd.F_far HI.out.2.1 (p := ⟨gt, sn, none⟩) (fun k hk => hk.2) _
                            · rw [HNX.out, HSN.out]; exact HI.out.2.2.1.set sn (y + 1)
                            · exact HI.out.2.2.2.setCell (p := ⟨gt, sn, none⟩) HGB.out _
                          case measure => simp [intOf]; omega
                        · have hue : u = ss.length := by omega
                          subst hue
                          rw [List.take_length] at HSE
                          have huz : ¬ ((ss.length : Int) < (ss.length : Int)) := by omega
                          go_wp2
                          refine ⟨?rel, ?measure⟩
                          case rel => exact ⟨q + 1, by omega, by go_num, ⟨HI.out.1, by rw [HSY.out, ← HSE.out]; exact HI.out.2.2.1, HI.out.2.2.2⟩⟩
                          case measure => simp [intOf]; omega
                    · have hqe : q = n2 := by omega
                      subst hqe
                      have HQE : Aside0 (T.take q = T) := ⟨by rw [← HTL.out, List.take_length]⟩
                      have hqz : ¬ ((q : Int) < (q : Int)) := by omega
                      go_wp2
                      go_ret2
                      exact ⟨HQ.out.2.2, .inr ⟨by rw [HE.out], gt, _, rfl, HGB.out, HQ.out.2.1, by rw [Int.toNat_natCast, HQE.out]; exact HTWO.out.2⟩⟩
end Go.Proofs.Ytjajkgemjgehiaa.St
