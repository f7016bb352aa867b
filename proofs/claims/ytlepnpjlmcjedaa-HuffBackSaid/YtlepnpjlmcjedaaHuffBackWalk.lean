import Derived.Test.YtlepnpjlmcjedaaHuffOwnWalk
import Derived.Test.YtlepnpjlmcjedaaPut
/- The law HuffBack: plain words, and the walk. -/
namespace Go.Proofs.Ytlepnpjlmcjedaa.Hw
open Go.RowKit Go.Proofs.YtlepnpjlmcjedaaW.PrintWords Go.Proofs.YtlepnpjlmcjedaaW.PrintLast Go.Proofs.YtlepnpjlmcjedaaW.PrintMore Go.Proofs.Ytlepnpjlmcjedaa.PH
set_option linter.unusedVariables false
set_option linter.unusedSimpArgs false
theorem half_bit2 (x p : Nat) : 2 * (x / 2 ^ (p + 1)) + (x.testBit p).toNat = x / 2 ^ p := by
  rw [Nat.testBit_eq_decide_div_mod_eq, Nat.pow_succ, ← Nat.div_div_eq_div_mul]
  generalize x / 2 ^ p = y
  by_cases h : y % 2 = 1
  · rw [decide_eq_true h]; simp; omega
  · rw [decide_eq_false h]; simp; omega
/-- A code that stands in the bits is read. -/
theorem dgo_code (l bs : List Int) (j n a : Nat) (hj : j < l.length) (hn : l.getD j 0 = (n : Int)) (hn1 : 1 ≤ n) (hfit : a + n ≤ 8 * bs.length) (hbits : ∀ i, i < n → bitAt bs (a + i) = (HP.codeAt l j).testBit (n - 1 - i)) :
    ∀ m k d, k + m + 1 = n → n ≤ k + d → dgo (sym l (HP.codes l) l.length) bs d (k + 1) (HP.codeAt l j / 2 ^ (n - k)) (a + k) = ((j : Int), a + n, 0) := by
  intro m
  induction m with
  | zero =>
    intro k d hk hd
    obtain ⟨d, rfl⟩ : ∃ q, d = q + 1 := ⟨d - 1, by omega⟩
    have e : 2 * (HP.codeAt l j / 2 ^ (n - k)) + (bitAt bs (a + k)).toNat = HP.codeAt l j := by
      have := half_bit2 (HP.codeAt l j) 0
      rw [hbits k (by omega), show n - 1 - k = 0 from by omega, show n - k = 0 + 1 from by omega, this, Nat.pow_zero, Nat.div_one]
    have hs := sym_is hj (c := HP.codeAt l j) (n := n) ⟨by rw [hn]; omega, rfl, hn⟩
    rw [dgo_some (s := j) (by omega) (by rw [e, show k + 1 = n from by omega]; exact hs), show a + k + 1 = a + n from by omega]
  | succ m ih =>
    intro k d hk hd
    obtain ⟨d, rfl⟩ : ∃ q, d = q + 1 := ⟨d - 1, by omega⟩
    have e : 2 * (HP.codeAt l j / 2 ^ (n - k)) + (bitAt bs (a + k)).toNat = HP.codeAt l j / 2 ^ (n - (k + 1)) := by
      have := half_bit2 (HP.codeAt l j) (n - (k + 1))
      rw [hbits k (by omega), show n - 1 - k = n - (k + 1) from by omega, show n - k = n - (k + 1) + 1 from by omega, this]
    have hs : sym l (HP.codes l) l.length ((HP.codeAt l j / 2 ^ (n - (k + 1)) : Nat) : Int) ((k + 1 : Nat) : Int) = none := by
      rw [sym_none _ _ l.length (Nat.le_refl _)]
      intro i hi hh
      have hne : j ≠ i := fun e => by subst e; have := hh.2.2; omega
      have := (HP.alone l i j hi hj hne hh.1 (by rw [hh.2.2, hn]; omega)).1
      rw [hn, hh.2.2, hh.2.1, Int.toNat_natCast, Int.toNat_natCast] at this
      exact this rfl
    rw [dgo_none (by omega) (by rw [e]; exact hs), e]
    exact ih (k + 1) d (by omega) (by omega)
/-- A symbol that has a code. -/
def isSym (l : List Int) (s : Int) : Bool := decide (0 ≤ s ∧ s < (l.length : Int) ∧ 1 ≤ rd l s)
def keepL (l ss : List Int) : List Int := ss.filter (isSym l)
def codeBits (l : List Int) (s : Int) : List Bool := bitsN (BP.rev (HP.codeAt l s.toNat) (rd l s).toNat) (rd l s).toNat
def streamL (l ks : List Int) : List Bool := ks.flatMap (codeBits l)
theorem keepL_snoc (l ss : List Int) (k : Nat) (hk : k < ss.length) : keepL l (ss.take (k + 1)) = keepL l (ss.take k) ++ (if isSym l (rd ss (k : Int)) = true then [rd ss (k : Int)] else []) := by
  unfold keepL
  rw [List.take_succ_eq_append_getElem hk, List.filter_append]
  have e : ss[k] = rd ss (k : Int) := by rw [rd_nat, List.getD_eq_getElem?_getD, List.getElem?_eq_getElem hk]; rfl
  rw [e]
  cases h : isSym l (rd ss (k : Int)) <;> simp [List.filter_cons, h]
theorem streamL_snoc (l ks : List Int) (s : Int) : streamL l (ks ++ [s]) = streamL l ks ++ codeBits l s := by simp [streamL]
theorem keepL_le (l ss : List Int) : (keepL l ss).length ≤ ss.length := List.length_filter_le _ _
theorem keepL_sym (l ss : List Int) (s : Int) (h : s ∈ keepL l ss) : isSym l s = true := (List.mem_filter.1 h).2
theorem streamL_le {l : List Int} (hf : HP.fits l) : ∀ ks : List Int, (∀ s ∈ ks, isSym l s = true) → (streamL l ks).length ≤ 15 * ks.length
  | [], _ => Nat.le_refl _
  | s :: ks, h => by
    have h1 := streamL_le hf ks (fun s hs => h s (List.mem_cons_of_mem _ hs))
    have h2 : 0 ≤ s ∧ s < (l.length : Int) ∧ 1 ≤ rd l s := by simpa [isSym] using h s (List.mem_cons_self ..)
    have h3 := rd_fits (l := l) (i := s.toNat) (by omega) hf
    rw [show ((s.toNat : Nat) : Int) = s from by omega] at h3
    have e : streamL l (s :: ks) = codeBits l s ++ streamL l ks := rfl
    rw [e, List.length_append, codeBits, bitsN_length, List.length_cons]
    omega
theorem streamL_take (l ks : List Int) (k : Nat) (hk : k < ks.length) : streamL l ks = streamL l (ks.take k) ++ (codeBits l (rd ks (k : Int)) ++ streamL l (ks.drop (k + 1))) := by
  have e : ks[k] = rd ks (k : Int) := by rw [rd_nat, List.getD_eq_getElem?_getD, List.getElem?_eq_getElem hk]; rfl
  have h : ks = ks.take k ++ (ks[k] :: ks.drop (k + 1)) := by rw [← List.drop_eq_getElem_cons hk, List.take_append_drop]
  rw [← e]
  unfold streamL
  rw [← List.flatMap_cons (x := ks[k]) (f := codeBits l), ← List.flatMap_append, ← h]
/-- The k-th symbol stands where the ones ahead of it end. -/
theorem dgo_stream {l : List Int} (ks : List Int) (hks : ∀ s ∈ ks, isSym l s = true) (hf : HP.fits l) (hroom : HP.room l ≤ 32768) {L : Nat} (hL : lng l l.length = (L : Int)) (k : Nat) (hk : k < ks.length) :
    dgo (sym l (HP.codes l) l.length) (pack (streamL l ks)) L 1 0 (streamL l (ks.take k)).length = (rd ks (k : Int), (streamL l (ks.take (k + 1))).length, 0) := by
  have hmem : rd ks (k : Int) ∈ ks := by
    rw [rd_nat, List.getD_eq_getElem?_getD, List.getElem?_eq_getElem hk]; exact List.getElem_mem hk
  have hs : 0 ≤ rd ks (k : Int) ∧ rd ks (k : Int) < (l.length : Int) ∧ 1 ≤ rd l (rd ks (k : Int)) := by simpa [isSym] using hks _ hmem
  have hst := streamL_take l ks k hk
  have hst1 : streamL l (ks.take (k + 1)) = streamL l (ks.take k) ++ codeBits l (rd ks (k : Int)) := by
    have e : ks[k] = rd ks (k : Int) := by rw [rd_nat, List.getD_eq_getElem?_getD, List.getElem?_eq_getElem hk]; rfl
    rw [List.take_succ_eq_append_getElem hk, streamL_snoc, e]
  generalize rd ks (k : Int) = s at *
  obtain ⟨j, rfl⟩ := Int.eq_ofNat_of_zero_le hs.1
  have hj : j < l.length := by omega
  have hfj := rd_fits hj hf
  obtain ⟨n, hn⟩ : ∃ n : Nat, rd l (j : Int) = (n : Int) := ⟨(rd l (j : Int)).toNat, by omega⟩
  have hn' : l.getD j 0 = (n : Int) := by rw [← rd_nat]; exact hn
  have hlg := lng_ge l l.length j hj
  have hcl : (codeBits l (j : Int)).length = n := by unfold codeBits; rw [bitsN_length, hn, Int.toNat_natCast]
  have hlen : (streamL l ks).length = (streamL l (ks.take k)).length + (n + (streamL l (ks.drop (k + 1))).length) := by rw [hst, List.length_append, List.length_append, hcl]
  have hpl : (pack (streamL l ks)).length = ((streamL l ks).length + 7) / 8 := pack_length _
  have hb : ∀ i, i < n → bitAt (pack (streamL l ks)) ((streamL l (ks.take k)).length + i) = (HP.codeAt l j).testBit (n - 1 - i) := by
    intro i hi
    rw [bitAt_pack, hst, append_getD]
    have : (codeBits l (j : Int) ++ streamL l (ks.drop (k + 1))).getD i false = (codeBits l (j : Int)).getD i false := by
      simp only [List.getD_eq_getElem?_getD]
      rw [List.getElem?_append_left (by omega)]
    rw [this]
    unfold codeBits
    rw [hn, Int.toNat_natCast, Int.toNat_natCast, bitsN_getD _ _ _ hi, BP.rev, BP.testBit_numb]
    simp [hi]
  have := dgo_code l (pack (streamL l ks)) j n (streamL l (ks.take k)).length hj hn' (by omega) (by rw [hpl, hlen]; omega) hb (n - 1) 0 L (by omega) (by omega)
  have hlt := HP.code_lt_pow hf hroom j hj (by omega)
  rw [hn', Int.toNat_natCast] at hlt
  rw [Nat.sub_zero, Nat.div_eq_of_lt hlt, Nat.add_zero] at this
  rw [hst1, List.length_append, hcl]
  exact this
theorem R_ne_types {k k' : IntKind} {e e' b b' : Nat} {w : World} {ok ok' : Nat → Prop} {v v' : Value} {xs xs' : List Int} (h : Kd.R (Kd.int k) e w b ok v xs) (h' : Kd.R (Kd.int k') e' w b' ok' v' xs') (hne : e ≠ e') : ∀ j, v.ownBlock = some j → v'.ownBlock ≠ some j := by
  intro j hj hj'
  obtain ⟨_, _, _, q, hq, cs, hc⟩ := (Kd.R_bound h).1 j hj
  obtain ⟨_, _, _, q', hq', cs', hc'⟩ := (Kd.R_bound h').1 j hj'
  have e1 : q = e := by simpa [Kd.int, Kd.scalar] using hq
  have e2 : q' = e' := by simpa [Kd.int, Kd.scalar] using hq'
  rw [hc] at hc'
  simp only [Option.some.injEq, Obj.cells.injEq] at hc'
  exact hne (e1.symm.trans (hc'.2.1.trans e2))
theorem R_ne_blk {k : IntKind} {e b g t : Nat} {w : World} {ok : Nat → Prop} {v : Value} {xs : List Int} {cs : Array Value} {fr : Nat × Nat} (h : Kd.R (Kd.int k) e w b ok v xs) (hg : w.heap[g]? = some (.cells cs t fr)) (hne : e ≠ t) : v.ownBlock ≠ some g := by
  intro hj
  obtain ⟨_, _, _, q, hq, cs', hc⟩ := (Kd.R_bound h).1 g hj
  have e1 : q = e := by simpa [Kd.int, Kd.scalar] using hq
  rw [hc] at hg
  simp only [Option.some.injEq, Obj.cells.injEq] at hg
  exact hne (e1.symm.trans hg.2.1)
set_option maxRecDepth 100000 in
set_option maxHeartbeats 4000000 in
theorem back_bad (w : World) (A0 : Option Addr) (c0 : Nat) (l : List Int) (hr0 : Kd.C (Kd.int .i64) w A0 l.length l) (hc0 : l.length ≤ c0) (y : Value) (h : HP.check l ≠ 0) :
    Calls Try.prog 16 #[.slice A0 l.length c0, y] w fun e w' => e = .returned (.bool true) ∧ Below w.heap.size w w' := by
  have HR0 := Aside0.mk hr0
  have HO := Aside0.mk (fun A c w hr hc => newDec_bad A c l w hr hc h)
  have HOC := Aside0.mk (fun A c w hr hc => codes_bad A c l w hr hc h)
  have HRC := Aside0.mk (ref_check_is l (2 * l.length + 3) (by omega))
  have e0 : (HP.check l == HP.check l) = true := beq_self_eq_true _
  have e1 : (HP.check l != HP.check l) = false := by simp
  have e2 : (HP.check l != 0) = true := by simpa using h
  have e3 : (HP.check l == 0) = false := by simpa using h
  clear hr0 h
  generalize HP.check l = q at *
  go_enter Try.func16, Try.ntmps16
  go_wp2_with fail
  refine (HOC.out A0 c0 w HR0.out hc0).mono ?_
  rintro e w5 ⟨rfl, ⟨n5, rfl⟩⟩
  go_wp2_with fail
  refine (HO.out A0 c0 _ (Kd.C_drewN HR0.out _) hc0).mono ?_
  rintro e w4 ⟨rfl, ⟨n4, rfl⟩⟩
  go_wp2_with fail
  refine (begun_calls _).mono ?_
  rintro e w3 ⟨rfl, hb3⟩
  have HB3 := Aside0.mk (below_step (pw_below_drewN (Below.refl w.heap.size w) _) hb3)
  clear hb3
  go_wp2_with fail
  refine (gridironref02_Check.calls _ A0 c0 l _ _ (Kd.C_below HR0.out HB3.out) hc0 HRC.out).mono ?_
  rintro e w6 ⟨rfl, ⟨n6, rfl⟩⟩
  go_wp2
  go_ret
  exact ⟨rfl, pw_below_drewN HB3.out _⟩
/-- What stands at the head of the first loop: the writer has the bits of what is kept. -/
def BkS (l : List Int) (W wr : World) (u : Value) (ks : List Int) : Prop :=
  ∃ v, WS W.heap.size wr W.heap.size v (streamL l ks) ∧ Kd.R (Kd.int .i64) 3 wr W.heap.size (fun _ => True) u ks ∧ Below W.heap.size W wr
theorem BkS.put {ks : List Int} {W wr w1 : World} {u v v' : Value} {M : List Bool} (hu : Kd.R (Kd.int .i64) 3 wr W.heap.size (fun _ => True) u ks) (hw : WS W.heap.size wr W.heap.size v M) (hf : WF W.heap.size wr w1 W.heap.size v v') : Kd.R (Kd.int .i64) 3 w1 W.heap.size (fun _ => True) u ks := by
  refine R_keptG hu hf.1 (fun j hj hs => ?_)
  rcases hs with rfl | hs
  · exact R_ne_blk hu hw.1 (by decide) hj
  · exact R_ne_types hu hw.2.2 (by decide) j hj hs
theorem BkS.app {W wr w1 : World} {u v : Value} {ks : List Int} {M : List Bool} (hu : Kd.R (Kd.int .i64) 3 wr W.heap.size (fun _ => True) u ks) (hw : WS W.heap.size wr W.heap.size v M) (hg : wr.grownBy w1 u.ownBlock) : WS W.heap.size w1 W.heap.size v M := by
  have hk : Kept wr w1 (fun k => u.ownBlock = some k) := Kept.of_grown hg (Kept.refl _ _) (fun k hk => .inl hk)
  exact hw.kept hk (fun e => R_ne_blk hu hw.1 (by decide) e) (fun j hj e => R_ne_types hu hw.2.2 (by decide) j e hj)
set_option maxRecDepth 100000 in
set_option maxHeartbeats 8000000 in
theorem back_ok (w : World) (A0 : Option Addr) (c0 : Nat) (l : List Int) (hr0 : Kd.C (Kd.int .i64) w A0 l.length l) (hc0 : l.length ≤ c0) (A1 : Option Addr) (c1 : Nat) (ss : List Int) (hr1 : Kd.C (Kd.int .i64) w A1 ss.length ss) (hc1 : ss.length ≤ c1) (hy1 : ss.length * 8 ≤ 140737488351232) (h : HP.check l = 0) :
    Calls Try.prog 16 #[.slice A0 l.length c0, .slice A1 ss.length c1] w fun e w' => e = .returned (.bool true) ∧ Below w.heap.size w w' := by
  obtain ⟨hl, hf, hroom, _⟩ := HP.check_ok h
  obtain ⟨L, hL, hL15⟩ := lng_nat hf
  have HR0 := Aside0.mk hr0
  have HR1 := Aside0.mk hr1
  have HO := Aside0.mk (fun A c w hr hc => newDec_ok A c l w hr hc h)
  have HOC := Aside0.mk (fun A c w hr hc => codes_ok A c l w hr hc h)
  have hrc := ref_check_is l (2 * l.length + 3) (by omega)
  rw [h] at hrc
  have HRC := Aside0.mk hrc
  have HF := Aside0.mk hf
  have HDR := Aside0.mk (fun (bs : List Int) (hb : IsBytes bs) (hy : bs.length ≤ 140737488351232) (base basr gd b gr : Nat) (v : Value) (at_ : Nat) (w : World) hD hI ha => dec_read base basr gd b gr v l bs at_ L w hD hI hb hy ha hL hL15)
  have HDG := Aside0.mk (fun ks hks k hk => dgo_stream (l := l) ks hks hf hroom hL k hk)
  have HLC := Aside0.mk (codes_length l)
  have HSL := Aside0.mk (fun k => streamL_le hf (keepL l (ss.take k)) (keepL_sym l (ss.take k)))
  have HPW := Aside0.mk (fun j hj hp => HP.code_lt_pow hf hroom j hj hp)
  clear hr0 hr1 h hrc hf hroom hL
  go_enter Try.func16, Try.ntmps16
  go_wp2_with fail
  refine (HOC.out A0 c0 w HR0.out hc0).mono ?_
  rintro e w1 ⟨v1, rfl, hv1, hb1⟩
  obtain ⟨Ac, cc, rfl, hcc, _⟩ := Kd.R_reads hv1
  have HV1 := Aside0.mk hv1
  have HB1 := Aside0.mk hb1
  clear hv1 hb1
  go_wp2_with fail
  refine (HO.out A0 c0 w1 (Kd.C_below HR0.out HB1.out) hc0).mono ?_
  rintro e w2 ⟨gd, b, rfl, hD, hb2⟩
  have HD2 : Aside0 (DecS 0 w2 gd b l l.length) := ⟨⟨hD.1, Nat.zero_le _, Nat.zero_le _, hD.2.2.2⟩⟩
  have HV2 := Aside0.mk (Kd.R_below HV1.out hb2)
  have HB2 := Aside0.mk (below_step HB1.out hb2)
  clear hD hb2 HV1 HB1
  go_wp2_with fail
  refine (begun_calls _).mono ?_
  rintro e w3 ⟨rfl, hb3⟩
  have HD3 := Aside0.mk (HD2.out.below hb3)
  have HV3 := Aside0.mk (Kd.R_below HV2.out hb3)
  have HB3 := Aside0.mk (below_step HB2.out hb3)
  clear hb3 HD2 HV2 HB2
  go_wp2_with fail
  refine (gridironref02_Check.calls _ A0 c0 l _ _ (Kd.C_below HR0.out HB3.out) hc0 HRC.out).mono ?_
  rintro e w4 ⟨rfl, ⟨n4, rfl⟩⟩
  have HD4 := Aside0.mk (HD3.out.drewN n4)
  have HV4 := Aside0.mk (Kd.R_drewN HV3.out n4)
  have HB4 := Aside0.mk (pw_below_drewN HB3.out n4)
  generalize w3.drewN n4 = W at *
  clear HD3 HV3 HB3
  go_wp2_with fail
  refine (newWriter_calls W).mono ?_
  rintro e w5 ⟨rfl, hw5, hb5, _⟩
  have HS5 : Aside0 (BkS l W w5 (.slice none 0 0) (keepL l (ss.take 0))) := ⟨⟨_, hw5, Kd.R_nil _ _ _ _ _, hb5⟩⟩
  have HRL : Aside0 ((Kd.int .i64).C W A0 l.length l) := ⟨Kd.C_below HR0.out HB4.out⟩
  have HRS : Aside0 ((Kd.int .i64).C W A1 ss.length ss) := ⟨Kd.C_below HR1.out HB4.out⟩
  have HRC2 : Aside0 ((Kd.int .u32).C W Ac (HP.codes l).length (HP.codes l)) := ⟨(Kd.R_reads' HV4.out).2.2⟩
  clear hw5 hb5 HR0 HR1 HV4
  go_wp2
  go_loopw [10, 46] (fun u i wr => ∃ k : Nat, k ≤ ss.length ∧ i = .int .i64 k ∧ Aside0 (BkS l W wr u (keepL l (ss.take k)))) (fun _ i _ => ss.length - (intOf i).toNat)
  case atStart => exact ⟨0, Nat.zero_le _, rfl, HS5⟩
  case round =>
    clear HS5
    obtain ⟨k, hk, rfl, HS⟩ := hrel
    by_cases hlt : k < ss.length
    · have HKS := Aside0.mk (keepL_snoc l ss k hlt)
      obtain ⟨v, hw0, hu0, hb0⟩ := HS.out
      have HW := Aside0.mk hw0
      have HU := Aside0.mk hu0
      have HB := Aside0.mk hb0
      clear hw0 hu0 hb0
      obtain ⟨ad, e1, hx⟩ := Kd.at_int (Kd.C_below HRS.out HB.out) (k : Int) (by omega) (by omega)
      subst e1
      rw [Int.toNat_natCast] at hx
      generalize hsd : rd ss (k : Int) = s at *
      have HSD := Aside0.mk hsd
      clear hsd
      by_cases hs0 : s < 0
      · have t1 : decide (s < 0) = true := by simpa using hs0
        have HNO : Aside0 (isSym l s = false) := ⟨by unfold isSym; rw [decide_eq_false]; intro h; omega⟩
        clear hs0
        go_wp2
        refine ⟨?rel, ?measure⟩
        case rel => exact ⟨k + 1, by omega, by go_num, ⟨by rw [HKS.out, HNO.out]; simpa using HS.out⟩⟩
        case measure => simp [intOf]; omega
      · by_cases hs1 : (l.length : Int) ≤ s
        · have t1 : decide (s < 0) = false := by simpa using hs0
          have t2 : decide ((l.length : Int) ≤ s) = true := by simpa using hs1
          have HNO : Aside0 (isSym l s = false) := ⟨by unfold isSym; rw [decide_eq_false]; intro h; omega⟩
          clear hs0 hs1
          go_wp2
          refine ⟨?rel, ?measure⟩
          case rel => exact ⟨k + 1, by omega, by go_num, ⟨by rw [HKS.out, HNO.out]; simpa using HS.out⟩⟩
          case measure => simp [intOf]; omega
        · obtain ⟨j, rfl⟩ : ∃ j : Nat, s = (j : Int) := ⟨s.toNat, by omega⟩
          have hj : j < l.length := by omega
          have t1 : decide ((j : Int) < 0) = false := by simp
          have t2 : decide ((l.length : Int) ≤ (j : Int)) = false := by simp; omega
          have t3 : decide (l.length ≤ j) = false := by simp; omega
          obtain ⟨ad0, e1, hx0⟩ := Kd.at_int (Kd.C_below HRL.out HB.out) (j : Int) (by omega) (by omega)
          subst e1
          rw [Int.toNat_natCast] at hx0
          have hfj := rd_fits hj HF.out
          obtain ⟨n, hn⟩ : ∃ n : Nat, rd l (j : Int) = (n : Int) := ⟨(rd l (j : Int)).toNat, by omega⟩
          rw [hn] at hx0 hfj
          clear hs0 hs1
          by_cases hn0 : n = 0
          · subst hn0
            have HNO : Aside0 (isSym l (j : Int) = false) := ⟨by unfold isSym; rw [decide_eq_false]; intro h; omega⟩
            clear hn hfj
            go_wp2
            refine ⟨?rel, ?measure⟩
            case rel => exact ⟨k + 1, by omega, by go_num, ⟨by rw [HKS.out, HNO.out]; simpa using HS.out⟩⟩
            case measure => simp [intOf]; omega
          · have HYES : Aside0 (isSym l (j : Int) = true) := ⟨by unfold isSym; rw [decide_eq_true]; omega⟩
            have hcb : codeBits l (j : Int) = bitsN (BP.rev (HP.codeAt l j) n) n := by unfold codeBits; rw [hn, Int.toNat_natCast, Int.toNat_natCast]
            have HCB := Aside0.mk hcb
            have hcd := codes_rd l j hj
            have hpw := HPW.out j hj (by rw [← rd_nat, hn]; omega)
            rw [← rd_nat, hn, Int.toNat_natCast] at hpw
            have hsl := HSL.out k
            have hkl := keepL_le l (ss.take k)
            have htk : (ss.take k).length ≤ ss.length := by simp; omega
            have hput := put_ok W.heap.size W.heap.size v (streamL l (keepL l (ss.take k))) wr _ Ac c0 cc l (HP.codes l) j n (HP.codeAt l j) HW.out HB.out.size (by omega) (Stays.of (Kd.heap_int _) HRL.out HB.out HW.out) hc0 (Stays.of (Kd.heap_int _) HRC2.out HB.out HW.out) hcc HLC.out.symm hj hn hcd (by omega) (by omega) hpw
            have HPUT := Aside0.mk hput
            have HKL := Aside0.mk (Nat.le_trans hkl htk)
            have t4 : decide ((n : Int) = 0) = false := by simp; omega
            have t5 : ((n : Int) == 0) = false := by simp; omega
            clear hcb hcd hpw hsl hkl htk hput hfj hn
            go_wp2_with fail
            refine HPUT.out.mono ?_
            rintro e w6 ⟨rfl, v', hw6, hf6⟩
            have HU6 := Aside0.mk (BkS.put HU.out HW.out hf6)
            have HW6 := Aside0.mk hw6
            have HB6 : Aside0 (Below W.heap.size W w6) := ⟨HB.out.trans hf6.2.1⟩
            clear hw6 hf6 HPUT HU HW HB
            have HO6 : Aside0 ((Kd.int .i64).R 3 (w6.alloc (.cells #[.int .i64 (j : Int)] 3)) W.heap.size (fun _ => True) u10 (keepL l (ss.take k))) := ⟨Kd.R_alloc HU6.out _⟩
            have HC6 : Aside0 ((Kd.int .i64).C (w6.alloc (.cells #[.int .i64 (j : Int)] 3)) (some ⟨w6.heap.size, 0, none⟩) 1 [(j : Int)]) := ⟨(Arr.new w6 3 .i64 [(j : Int)]).reads (by simp)⟩
            have HBA : Aside0 (Below W.heap.size W (w6.alloc (.cells #[.int .i64 (j : Int)] 3))) := ⟨below_alloc HB6.out _⟩
            have HWA : Aside0 (WS W.heap.size (w6.alloc (.cells #[.int .i64 (j : Int)] 3)) W.heap.size v' (streamL l (keepL l (ss.take k)) ++ bitsN (BP.rev (HP.codeAt l j) n) n)) := ⟨HW6.out.below (below_alloc (Below.refl _ _) _)⟩
            go_wp2_with (refine Kd.R_append_row (Value.int .i64) 0 (w0 := W) W.heap.size rfl _ _ 22 3 (.int .i64 0) 8 rfl Try.underlying22 infoI8 rfl (by decide) u10 (keepL l (ss.take k)) [(j : Int)] (some ⟨w6.heap.size, 0, none⟩) 1 1 (fun _ => True) rfl rfl (fun _ _ => trivial) HO6.out HC6.out HBA.out HBA.out.size (by have := HKL.out; omega) ?_; intro v7 w7 hv7 hb7 hg7 hat7; have HV7 := Aside0.mk hv7; have HB7 := Aside0.mk hb7; have HW7 := Aside0.mk (BkS.app HO6.out HWA.out hg7); clear hv7 hb7 hg7 hat7)
            refine ⟨?rel, ?measure⟩
            case rel =>
              refine ⟨k + 1, by omega, by go_num, ⟨?_⟩⟩
              rw [HKS.out, HYES.out, if_pos rfl]
              refine ⟨v', ?_, HV7.out, HB7.out⟩
              rw [streamL_snoc, HCB.out]
              exact HW7.out
            case measure => simp [intOf]; omega
    · obtain rfl : k = ss.length := by omega
      obtain ⟨wp, hwp⟩ : ∃ x, x = wr := ⟨_, rfl⟩
      subst hwp
      have hsl := HSL.out ss.length
      have hkl := keepL_le l (ss.take ss.length)
      have htk : (ss.take ss.length).length ≤ ss.length := by simp
      have hks := keepL_sym l (ss.take ss.length)
      have HSv := HS.out
      generalize keepL l (ss.take ss.length) = ks at *
      have HM : Aside0 ((pack (streamL l ks)).length ≤ 140737488351232 ∧ (streamL l ks).length ≤ 1125899906809856 ∧ ks.length ≤ ss.length) := ⟨by rw [pack_length]; omega, by omega, by omega⟩
      have HKS := Aside0.mk hks
      clear hsl hkl htk HS hks
      obtain ⟨v, hw0, hu0, hb0⟩ := HSv
      obtain ⟨Au, cu, rfl, hcu, _⟩ := Kd.R_reads hu0
      have HW := Aside0.mk hw0
      have HU := Aside0.mk hu0
      have HB := Aside0.mk hb0
      clear hw0 hu0 hb0
      go_wp2_with fail
      refine (wout_calls _ _ v _ wp HW.out HM.out.2.1).mono ?_
      rintro e w6 ⟨u6, rfl, hu6, hb6⟩
      obtain ⟨Ao, co, rfl, hco, _⟩ := Kd.R_reads hu6
      have HO6 := Aside0.mk hu6
      have HB6 := Aside0.mk hb6
      clear hu6 hb6
      go_wp2_with fail
      refine (newRd_calls Ao co (pack (streamL l ks)) w6 (Kd.R_reads' HO6.out).2.2 hco HM.out.1).mono ?_
      rintro e w7 ⟨gr, vr, rfl, hR, hb7⟩
      have HSr := Aside0.mk (And.intro hR hb7)
      have HGr : Aside0 (w6.heap.size ≤ gr) := ⟨hR.2.1⟩
      have HU6 : Aside0 ((Kd.int .i64).C w6 Au ks.length ks) := ⟨(Kd.R_reads' (Kd.R_below HU.out HB6.out)).2.2⟩
      have HD6 : Aside0 (DecS 0 w6 gd b l l.length) := ⟨(HD4.out.below HB.out).below HB6.out⟩
      have HBw : Aside0 (Below w.heap.size w w6) := ⟨below_step (below_step HB4.out HB.out) HB6.out⟩
      have hkl : ks.length ≤ 17592186043904 := by have := HM.out.2.2; omega
      clear hR hb7
      go_wp2
      go_loopw [81] (fun i wr => ∃ k : Nat, k ≤ ks.length ∧ i = .int .i64 k ∧ Aside0 (RdS w6.heap.size wr gr vr (pack (streamL l ks)) (streamL l (ks.take k)).length ∧ Below w6.heap.size w6 wr)) (fun i _ => ks.length - (intOf i).toNat)
      case atStart => exact ⟨0, Nat.zero_le _, rfl, HSr⟩
      case round =>
        clear HSr
        obtain ⟨k, hk, rfl, HS⟩ := hrel
        obtain ⟨wq, hwq⟩ : ∃ x, x = wr := ⟨_, rfl⟩
        subst hwq
        by_cases hlt : k < ks.length
        · obtain ⟨ad, e1, hx⟩ := Kd.at_int (Kd.C_below HU6.out HS.out.2) (k : Int) (by omega) (by omega)
          subst e1
          rw [Int.toNat_natCast] at hx
          have hat : (streamL l (ks.take k)).length ≤ 8 * (pack (streamL l ks)).length := by
            have h1 := congrArg List.length (streamL_take l ks k hlt)
            rw [List.length_append] at h1
            rw [pack_length]; omega
          have hcall := HDR.out (pack (streamL l ks)) (pack_bytes _) HM.out.1 0 w6.heap.size gd b gr vr _ wq (HD6.out.below HS.out.2) HS.out.1 hat
          rw [HDG.out ks HKS.out k hlt] at hcall
          have HC := Aside0.mk hcall
          clear hcall hat
          generalize rd ks (k : Int) = s at *
          have e1 : (s == s) = true := beq_self_eq_true _
          have e2 : (s != s) = false := by simp
          go_wp2_with fail
          refine HC.out.mono ?_
          rintro e w8 ⟨rfl, hR8, hO8⟩
          have HS8 := Aside0.mk (And.intro hR8 (Below.trans HS.out.2 (hO8.below HGr.out)))
          clear hR8 hO8 HC
          go_wp2
          refine ⟨?rel, ?measure⟩
          case rel => exact ⟨k + 1, by omega, by go_num, HS8⟩
          case measure => simp [intOf]; omega
        · obtain rfl : k = ks.length := by omega
          go_wp2
          go_ret
          exact ⟨rfl, below_step HBw.out HS.out.2⟩
theorem huffBack_walk (w : World) (A0 : Option Addr) (c0 : Nat) (l : List Int) (hr0 : Kd.C (Kd.int .i64) w A0 l.length l) (hc0 : l.length ≤ c0) (hy0 : l.length * 8 ≤ 140737488351232) (hw0 : ∀ x ∈ l, (Lit.int .i64 x).wf = true) (A1 : Option Addr) (c1 : Nat) (ss : List Int) (hr1 : Kd.C (Kd.int .i64) w A1 ss.length ss) (hc1 : ss.length ≤ c1) (hy1 : ss.length * 8 ≤ 140737488351232) (hw1 : ∀ x ∈ ss, (Lit.int .i64 x).wf = true) :
    Calls Try.prog 16 #[.slice A0 l.length c0, .slice A1 ss.length c1] w fun e w' => e = .returned (.bool true) ∧ Below w.heap.size w w' := by
  by_cases h : HP.check l = 0
  · exact back_ok w A0 c0 l hr0 hc0 A1 c1 ss hr1 hc1 hy1 h
  · exact back_bad w A0 c0 l hr0 hc0 _ h
end Go.Proofs.Ytlepnpjlmcjedaa.Hw
