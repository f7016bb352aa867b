import Derived.Test.YtlepnpjlmcjedaaNewDec
import Derived.Test.YtlepnpjlmcjedaaOwnKit
import Derived.Test.YtlepnpjlmcjedaaWApart
/- huff.Decoder.Read, walked: bit by bit, until the bits are a code. -/
namespace Go.Proofs.Ytlepnpjlmcjedaa.Hw
open Go.RowKit Go.Proofs.YtlepnpjlmcjedaaW.PrintWords Go.Proofs.YtlepnpjlmcjedaaW.PrintLast Go.Proofs.YtlepnpjlmcjedaaW.PrintMore Go.Proofs.Ytlepnpjlmcjedaa.PH
set_option linter.unusedVariables false
set_option linter.unusedSimpArgs false
/-- What Read comes to: the symbol, where the reader stands then, the error; d lengths are left, the code so far has n - 1 bits. -/
def dgo (f : Int → Int → Option Nat) (bs : List Int) : Nat → Nat → Nat → Nat → Int × Nat × Int
  | 0, _, _, at_ => (0, at_, 22)
  | d + 1, n, c, at_ => if at_ < 8 * bs.length then
      (match f ((2 * c + (bitAt bs at_).toNat : Nat) : Int) (n : Int) with
      | some s => ((s : Int), at_ + 1, 0)
      | none => dgo f bs d (n + 1) (2 * c + (bitAt bs at_).toNat) (at_ + 1))
    else (0, at_, 11)
theorem dgo_at (f : Int → Int → Option Nat) (bs : List Int) : ∀ d n c at_, at_ ≤ 8 * bs.length → (dgo f bs d n c at_).2.1 ≤ 8 * bs.length
  | 0, _, _, _, h => h
  | d + 1, n, c, at_, h => by
    unfold dgo
    split
    · split
      · show at_ + 1 ≤ _; omega
      · exact dgo_at f bs d _ _ _ (by omega)
    · exact h
theorem dgo_end {f : Int → Int → Option Nat} {bs : List Int} {d n c at_ : Nat} (h : ¬ at_ < 8 * bs.length) : dgo f bs (d + 1) n c at_ = (0, at_, 11) := by rw [dgo, if_neg h]
theorem dgo_some {f : Int → Int → Option Nat} {bs : List Int} {d n c at_ s : Nat} (h : at_ < 8 * bs.length) (hs : f ((2 * c + (bitAt bs at_).toNat : Nat) : Int) (n : Int) = some s) : dgo f bs (d + 1) n c at_ = ((s : Int), at_ + 1, 0) := by rw [dgo, if_pos h, hs]
theorem dgo_none {f : Int → Int → Option Nat} {bs : List Int} {d n c at_ : Nat} (h : at_ < 8 * bs.length) (hs : f ((2 * c + (bitAt bs at_).toNat : Nat) : Int) (n : Int) = none) : dgo f bs (d + 1) n c at_ = dgo f bs d (n + 1) (2 * c + (bitAt bs at_).toNat) (at_ + 1) := by rw [dgo, if_pos h, hs]
/-- A reader's calls turn its own block alone. -/
def Only (g : Nat) (w w' : World) : Prop := Kept w w' (fun k => k = g) ∧ Below g w w' ∧ w'.heap.size = w.heap.size
theorem Only.refl (g : Nat) (w : World) : Only g w w := ⟨Kept.refl _ _, Below.refl _ _, rfl⟩
theorem Only.drewN {g : Nat} {w w' : World} (h : Only g w w') (n : Nat) : Only g w (w'.drewN n) := ⟨h.1.drewN n, pw_below_drewN h.2.1 n, h.2.2⟩
theorem Only.set {g : Nat} {w w' : World} (h : Only g w w') (hg : g < w.heap.size) (j : Nat) (u : Value) : Only g w (w'.setCell ⟨g, j, none⟩ u) :=
  ⟨⟨by have := h.1.1; rw [World.size_setCell]; exact this, fun i hi hn => (Below.heap_setCell w' ⟨g, j, none⟩ u i (fun e => hn e)).trans (h.1.2 i hi hn)⟩, h.2.1.setCell (Nat.le_refl _) u, by rw [World.size_setCell]; exact h.2.2⟩
theorem Only.trans {g : Nat} {w w1 w2 : World} (h : Only g w w1) (k : Only g w1 w2) : Only g w w2 :=
  ⟨⟨Nat.le_trans h.1.1 k.1.1, fun i hi hn => (k.1.2 i (Nat.lt_of_lt_of_le hi h.1.1) hn).trans (h.1.2 i hi hn)⟩, h.2.1.trans k.2.1, k.2.2.trans h.2.2⟩
theorem Only.below {g B : Nat} {w w' : World} (h : Only g w w') (hB : B ≤ g) : Below B w w' := Below.mono h.2.1 hB
section
variable {base : Nat} {w w' : World} {g b k : Nat} {l : List Int}
theorem RdS.ne_dec {basr gr : Nat} {v : Value} {bs : List Int} {at_ : Nat} (hI : RdS basr w gr v bs at_) (h : DecS base w g b l k) : g ≠ gr ∧ b ≠ gr := by
  refine ⟨blk_ne h.1 hI.1 (by decide), fun e => ?_⟩
  obtain ⟨D, ⟨es, cl, h1, _⟩, _⟩ := h.2.2.2
  rw [e, hI.1] at h1
  simp at h1
theorem DecS.only {gr : Nat} (h : DecS base w g b l k) (hk : Only gr w w') (h1 : g ≠ gr) (h2 : b ≠ gr) : DecS base w' g b l k := h.kept hk.1 h1 h2
theorem DecS.drewN (h : DecS base w g b l k) (n : Nat) : DecS base (w.drewN n) g b l k := h.kept ((Kept.refl _ (fun _ => False)).drewN n) (fun e => e) (fun e => e)
end
theorem nbits_zero (bs : List Int) (at_ : Nat) : nbits bs at_ 0 = 0 := rfl
theorem nbits_one (bs : List Int) (at_ : Nat) : nbits bs at_ 1 = (bitAt bs at_).toNat := by
  unfold nbits
  apply Nat.eq_of_testBit_eq
  intro i
  rw [BP.testBit_numb]
  cases i with
  | zero => cases h : bitAt bs at_ <;> simp [h]
  | succ i => cases h : bitAt bs at_ <;> simp [Nat.testBit_succ, h]
theorem zeroI (w : World) : (zeroValue 3).run Try.prog w = .ok (.int .i64 0) w := by kernel_rfl
/-- The map's answer, told. -/
theorem MapS.look {w : World} {b n : Nat} {f : Int → Int → Option Nat} (h : MapS w b n f) {c m : Int} (hc : (Lit.int .u32 c).wf = true) (hm : (Lit.int .i64 m).wf = true) :
    (∃ s, f c m = some s ∧ (Instr.lookup 81 (.map (some b)) (.agg #[.int .u32 c, .int .i64 m]) true).run Try.prog w = .ok (.tuple #[.int .i64 (s : Int), .bool true]) w) ∨
    (∃ z, f c m = none ∧ (Instr.lookup 81 (.map (some b)) (.agg #[.int .u32 c, .int .i64 m]) true).run Try.prog w = .ok (.tuple #[.int .i64 z, .bool false]) w) := by
  obtain ⟨D, hD, hT⟩ := h
  obtain ⟨v, ps, hrun, hv⟩ := hD.look_ok keyed Try.underlying81 (zeroI w) (zd := .lit (.int .i64 0)) (zp := []) (Go.plainElem_int Try.underlying3 (by decide)) (key_is hc hm)
  obtain ⟨x, rfl, hx, _⟩ := Go.plainElem_int_inv Try.underlying3 hv
  obtain ⟨h1, h2⟩ := hT c m hc hm
  cases hf : f c m with
  | some s =>
    refine .inl ⟨s, rfl, ?_⟩
    rw [hf] at h1
    have h3 := h2 s hf
    have h4 := congrArg Prod.fst hx
    simp only at h4
    rw [h3] at h4
    simp only [DataW.lit.injEq, Lit.int.injEq, true_and] at h4
    rw [hrun, h1, h4]
    rfl
  | none =>
    refine .inr ⟨x, rfl, ?_⟩
    rw [hf] at h1
    rw [hrun, h1]
    rfl
theorem or_bit (c : Nat) (x : Bool) (hc : c < 32768) : bits .or .u32 ((c : Int) * 2) ((x.toNat : Nat) : Int) = ((2 * c + x.toNat : Nat) : Int) := by
  have e : (c : Int) * 2 = ((2 * c : Nat) : Int) := by omega
  have hx : x.toNat ≤ 1 := by cases x <;> decide
  rw [e, or_u32 _ _ (by omega) (by omega)]
  congr 1
  have h2 := Nat.two_pow_add_eq_or_of_lt (i := 1) (b := x.toNat) (by omega) c
  rw [show 2 ^ 1 * c = 2 * c from rfl] at h2
  exact h2.symm
set_option maxRecDepth 100000 in
set_option maxHeartbeats 2000000 in
theorem dec_read (base basr gd b gr : Nat) (v : Value) (l bs : List Int) (at_ L : Nat) (w : World) (hD : DecS base w gd b l l.length) (hI : RdS basr w gr v bs at_) (hb : IsBytes bs) (hl : bs.length ≤ 140737488351232) (ha : at_ ≤ 8 * bs.length) (hL : lng l l.length = (L : Int)) (hL15 : L ≤ 15) :
    Calls Try.prog 54 #[.pointer (some ⟨gd, 0, none⟩), .pointer (some ⟨gr, 0, none⟩)] w fun e w' => e = .returned (.tuple #[.int .i64 (dgo (sym l (HP.codes l) l.length) bs L 1 0 at_).1, .int .i64 (dgo (sym l (HP.codes l) l.length) bs L 1 0 at_).2.2]) ∧ RdS basr w' gr v bs (dgo (sym l (HP.codes l) l.length) bs L 1 0 at_).2.1 ∧ Only gr w w' := by
  have HD := Aside0.mk hD
  have HI := Aside0.mk hI
  obtain ⟨hn1, hn2⟩ := hI.ne_dec hD
  have HNE := Aside0.mk (And.intro hn1 hn2)
  have HR0 := Aside0.mk (rd_bits_ok basr gr v bs at_ 0 w hI hb hl (by omega) (by omega))
  have HLL := Aside0.mk hL
  obtain ⟨_, _, hc2, _⟩ := hD.cells
  have HW := Aside0.mk (blk_lt hI.1)
  clear hD hI hn1 hn2 hL
  generalize hfd : sym l (HP.codes l) l.length = f at *
  have HFD := Aside0.mk hfd
  clear hfd
  go_enter Try.func54, Try.ntmps54
  go_wp2_with fail
  refine HR0.out.mono ?_
  rintro e w1 ⟨rfl, k1, rfl⟩
  clear HR0
  rw [nbits_zero]
  have HS : Aside0 (RdS basr ((w.drewN k1).setCell ⟨gr, 2, none⟩ (.int .i64 ((at_ + 0 : Nat) : Int))) gr v bs at_ ∧ Only gr w ((w.drewN k1).setCell ⟨gr, 2, none⟩ (.int .i64 ((at_ + 0 : Nat) : Int)))) := ⟨(HI.out.drewN k1).set at_, ((Only.refl _ _).drewN k1).set HW.out _ _⟩
  generalize (w.drewN k1).setCell ⟨gr, 2, none⟩ (.int .i64 ((at_ + 0 : Nat) : Int)) = W at *
  go_wp2
  go_loopw [8, 9] (fun cv nv wr => ∃ (k c a d : Nat), 1 ≤ k ∧ k + d = L + 1 ∧ c < 2 ^ (k - 1) ∧ cv = .int .u32 (c : Int) ∧ nv = .int .i64 (k : Int) ∧ a ≤ 8 * bs.length ∧ Aside0 (dgo f bs L 1 0 at_ = dgo f bs d k c a) ∧ Aside0 (RdS basr wr gr v bs a ∧ Only gr w wr)) (fun _ nv _ => L + 1 - (intOf nv).toNat)
  case atStart => exact ⟨1, 0, at_, L, Nat.le_refl _, by omega, by decide, rfl, rfl, ha, ⟨rfl⟩, HS⟩
  case round =>
    clear HS
    obtain ⟨k, c, a, d, hk1, hkd, hc, rfl, rfl, ha', HE, HS⟩ := hrel
    have HDr : Aside0 (DecS base wr gd b l l.length) := ⟨HD.out.only HS.out.2 HNE.out.1 HNE.out.2⟩
    obtain ⟨d0, d1, _, _⟩ := HDr.out.cells
    rw [HLL.out] at d1
    have hp : 2 ^ (k - 1) ≤ 16384 ∨ L < k := by
      by_cases h : k ≤ L
      · exact .inl (Nat.le_trans (Nat.pow_le_pow_right (by omega) (show k - 1 ≤ 14 by omega)) (by decide))
      · exact .inr (by omega)
    by_cases hkL : k ≤ L
    · obtain ⟨d, rfl⟩ : ∃ d', d = d' + 1 := ⟨d - 1, by omega⟩
      by_cases hend : a < 8 * bs.length
      · have HB := Aside0.mk (rd_bits_ok basr gr v bs a 1 wr HS.out.1 hb hl (by omega) (by omega))
        go_wp2_with fail
        refine HB.out.mono ?_
        rintro e w1 ⟨rfl, k1, rfl⟩
        clear HB
        rw [nbits_one]
        have HS1 : Aside0 (RdS basr ((wr.drewN k1).setCell ⟨gr, 2, none⟩ (.int .i64 ((a + 1 : Nat) : Int))) gr v bs (a + 1) ∧ Only gr w ((wr.drewN k1).setCell ⟨gr, 2, none⟩ (.int .i64 ((a + 1 : Nat) : Int)))) := ⟨(HS.out.1.drewN k1).set (a + 1), (HS.out.2.drewN k1).set HW.out _ _⟩
        generalize (wr.drewN k1).setCell ⟨gr, 2, none⟩ (.int .i64 ((a + 1 : Nat) : Int)) = W1 at *
        have HDs : Aside0 (DecS base W1 gd b l l.length) := ⟨HD.out.only HS1.out.2 HNE.out.1 HNE.out.2⟩
        obtain ⟨e0, e1, _, _⟩ := HDs.out.cells
        have hbb : (bitAt bs a).toNat ≤ 1 := by cases bitAt bs a <;> decide
        have hcp : c < 32768 := by omega
        have hor := or_bit c (bitAt bs a) hcp
        have HC2 : Aside0 (2 * c + (bitAt bs a).toNat < 2 ^ (k + 1 - 1)) := ⟨by
          have e : 2 ^ (k + 1 - 1) = 2 * 2 ^ (k - 1) := by rw [← Nat.pow_succ']; congr 1; omega
          rw [e]; omega⟩
        have hm := HDs.out.2.2.2
        rw [HFD.out] at hm
        have hlk := hm.look (c := ((2 * c + (bitAt bs a).toNat : Nat) : Int)) (m := (k : Int)) (wf_u32 (by omega) (by omega)) (wf_i64 (by omega) (by omega))
        have HX : Aside0 (dgo f bs (d + 1) k c a = match f ((2 * c + (bitAt bs a).toNat : Nat) : Int) (k : Int) with | some s => ((s : Int), a + 1, 0) | none => dgo f bs d (k + 1) (2 * c + (bitAt bs a).toNat) (a + 1)) := ⟨by rw [dgo, if_pos hend]⟩
        generalize (bitAt bs a).toNat = x at *
        clear hm
        obtain ⟨y, hy⟩ : ∃ y : Int, y = ((2 * c + x : Nat) : Int) := ⟨_, rfl⟩
        rw [← hy] at hor hlk HX
        have HY := Aside0.mk hy
        clear hy
        rcases hlk with ⟨s, hs, hrun⟩ | ⟨z, hs, hrun⟩
        · have HS2 := Aside0.mk hs
          clear hs
          go_wp2
          go_ret2
          rw [HE.out, HX.out, HS2.out]
          exact ⟨rfl, HS1.out⟩
        · have HS2 := Aside0.mk hs
          clear hs
          go_wp2
          refine ⟨?rel, ?measure⟩
          case rel => exact ⟨k + 1, 2 * c + x, a + 1, d, by omega, by omega, HC2.out, by rw [HY.out], by go_num, by omega, ⟨by rw [HE.out, HX.out, HS2.out]⟩, HS1⟩
          case measure => simp [intOf]; omega
      · have HB := Aside0.mk (rd_bits_ends basr gr v bs a 1 wr HS.out.1 hb hl ha' (by omega) (by omega))
        go_wp2_with fail
        refine HB.out.mono ?_
        rintro e w1 ⟨rfl, k1, rfl⟩
        clear HB
        go_wp2
        go_ret2
        rw [HE.out]
        unfold dgo
        rw [if_neg hend]
        exact ⟨rfl, HS.out.1.drewN k1, HS.out.2.drewN k1⟩
    · obtain rfl : d = 0 := by omega
      go_wp2
      go_ret2
      rw [HE.out]
      exact ⟨rfl, HS.out⟩
end Go.Proofs.Ytlepnpjlmcjedaa.Hw
