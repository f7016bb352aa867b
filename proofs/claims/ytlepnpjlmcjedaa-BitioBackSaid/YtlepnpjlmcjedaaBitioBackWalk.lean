import Derived.Test.YtlepnpjlmcjedaaRf
import Derived.Test.YtlepnpjlmcjedaaOp
import Derived.Test.YtlepnpjlmcjedaaPut
import Derived.BigRegion
/- The law BitioBack: plain words, and the walk. -/
namespace Go.Proofs.Ytlepnpjlmcjedaa.Hw
open Go.RowKit Go.Proofs.YtlepnpjlmcjedaaW.PrintWords Go.Proofs.YtlepnpjlmcjedaaW.PrintLast Go.Proofs.YtlepnpjlmcjedaaW.PrintMore Go.Proofs.Ytlepnpjlmcjedaa.PH
set_option linter.unusedVariables false
set_option linter.unusedSimpArgs false
/-- A slice as its cell stands. -/
abbrev RV := Option Addr × Nat × Nat
def RV.val (v : RV) : Value := .slice v.1 v.2.1 v.2.2
def rawK : Kd RV := Kd.scalar RV.val (fun _ => rfl)
/-- An element as its cells stand. -/
abbrev OpR := Int × Int × Int × RV
def kOpR : Kd OpR := Kd.pair (Kd.int .i64) (Kd.pair (Kd.int .i64) (Kd.pair (Kd.int .u32) rawK))
def zOpR : OpR := (0, 0, 0, none, 0, 0)
theorem kOpR_open {w : World} {x : OpR} {cs : List Value} (h : kOpR.K w x cs) : cs = [.int .i64 x.1, .int .i64 x.2.1, .int .u32 x.2.2.1, (RV.val x.2.2.2)] := by
  obtain ⟨_, _, rfl, rfl, _, _, rfl, rfl, _, _, rfl, rfl, rfl⟩ := h
  rfl
theorem kOpR_mkM (w : World) (base : Nat) (ok : Nat → Prop) (x : OpR) : kOpR.M w base ok x [.int .i64 x.1, .int .i64 x.2.1, .int .u32 x.2.2.1, (RV.val x.2.2.2)] :=
  ⟨[.int .i64 x.1], [.int .i64 x.2.1, .int .u32 x.2.2.1, (RV.val x.2.2.2)], rfl, rfl, [.int .i64 x.2.1], [.int .u32 x.2.2.1, (RV.val x.2.2.2)], rfl, rfl, [.int .u32 x.2.2.1], [(RV.val x.2.2.2)], rfl, rfl, rfl⟩
theorem at_opR {w : World} {A : Option Addr} {n : Nat} {xs : List OpR} (h : Kd.C kOpR w A n xs) (i : Int) (h0 : 0 ≤ i) (h1 : i < n) : ∃ ad, A = some ad ∧ w.cell? (ad.add (i.toNat * 4)) = some (.int .i64 (xs.getD i.toNat zOpR).1) ∧ w.cell? ⟨(ad.add (i.toNat * 4)).block, (ad.add (i.toNat * 4)).off + 1, none⟩ = some (.int .i64 (xs.getD i.toNat zOpR).2.1) ∧ w.cell? ⟨(ad.add (i.toNat * 4)).block, (ad.add (i.toNat * 4)).off + 2, none⟩ = some (.int .u32 (xs.getD i.toNat zOpR).2.2.1) ∧ w.cell? ⟨(ad.add (i.toNat * 4)).block, (ad.add (i.toNat * 4)).off + 3, none⟩ = some (RV.val (xs.getD i.toNat zOpR).2.2.2) := by
  obtain ⟨ad, c, e, _, hK, hc0⟩ := Kd.C_get h zOpR i h0 h1
  have hc : ∀ j u, c[j]? = some u → w.cell? (ad.add (i.toNat * 4 + j)) = some u := hc0
  have hcs := kOpR_open hK
  subst hcs
  exact ⟨ad, e, hc 0 _ rfl, by rw [← add_field _ _ 1 (by omega)]; exact hc 1 _ rfl, by rw [← add_field _ _ 2 (by omega)]; exact hc 2 _ rfl, by rw [← add_field _ _ 3 (by omega)]; exact hc 3 _ rfl⟩
theorem infoOp : (Try.prog.info? 44).map (fun i => (i.zero, i.size, i.bytes)) = some (some (.agg #[.int .i64 0, .int .i64 0, .int .u32 0, .slice none 0 0]), 4, 48) := by kernel_rfl
theorem kOpR_sz : kOpR.sz = 4 := rfl
theorem kOpR_pos : 0 < kOpR.sz := by rw [kOpR_sz]; decide
theorem kOpR_z : (Value.agg #[.int .i64 0, .int .i64 0, .int .u32 0, .slice none 0 0]).cells.size = kOpR.sz := rfl
theorem infoOpR : (Try.prog.info? 44).map (fun i => (i.zero, i.size, i.bytes)) = some (some (.agg #[.int .i64 0, .int .i64 0, .int .u32 0, .slice none 0 0]), kOpR.sz, 48) := infoOp
/-- An element that is written and read: its number fits its bits. -/
def Fine (p : OpR) : Prop := ∃ n x : Nat, p.2.1 = (n : Int) ∧ n ≤ 32 ∧ p.2.2.1 = (x : Int) ∧ x < 2 ^ n
def bitsR (p : OpR) : List Bool := bitsN p.2.2.1.toNat p.2.1.toNat
def streamR (l : List OpR) : List Bool := l.flatMap bitsR
theorem streamR_snoc (l : List OpR) (p : OpR) : streamR (l ++ [p]) = streamR l ++ bitsR p := by simp [streamR]
theorem streamR_le : ∀ l : List OpR, (∀ p ∈ l, Fine p) → (streamR l).length ≤ 32 * l.length
  | [], _ => Nat.le_refl _
  | p :: l, h => by
    have h1 := streamR_le l (fun q hq => h q (List.mem_cons_of_mem _ hq))
    obtain ⟨n, x, e1, h2, e2, _⟩ := h p (List.mem_cons_self ..)
    have e : streamR (p :: l) = bitsR p ++ streamR l := rfl
    rw [e, List.length_append, bitsR, bitsN_length, List.length_cons, e1, Int.toNat_natCast]
    omega
theorem streamR_at (l : List OpR) (k : Nat) (hk : k < l.length) : streamR l = streamR (l.take k) ++ (bitsR (l.getD k zOpR) ++ streamR (l.drop (k + 1))) := by
  have e : l[k] = l.getD k zOpR := by rw [List.getD_eq_getElem?_getD, List.getElem?_eq_getElem hk]; rfl
  have h : l = l.take k ++ (l[k] :: l.drop (k + 1)) := by rw [← List.drop_eq_getElem_cons hk, List.take_append_drop]
  rw [← e]
  unfold streamR
  rw [← List.flatMap_cons (x := l[k]) (f := bitsR), ← List.flatMap_append, ← h]
theorem streamR_take (l : List OpR) (k : Nat) (hk : k < l.length) : streamR (l.take (k + 1)) = streamR (l.take k) ++ bitsR (l.getD k zOpR) := by
  have e : l[k] = l.getD k zOpR := by rw [List.getD_eq_getElem?_getD, List.getElem?_eq_getElem hk]; rfl
  rw [List.take_succ_eq_append_getElem hk, streamR_snoc, e]
theorem append_getD2 (A B : List Bool) (i : Nat) : (A ++ B).getD (A.length + i) false = B.getD i false := by
  simp only [List.getD_eq_getElem?_getD]
  rw [List.getElem?_append_right (by omega)]
  simp
theorem bitsN_getD2 (x n i : Nat) (h : i < n) : (bitsN x n).getD i false = x.testBit i := by simp [bitsN, List.getD_eq_getElem?_getD, h]
/-- The k-th number stands where the ones ahead of it end. -/
theorem nbits_stream (l : List OpR) (k n x : Nat) (hk : k < l.length) (hn : (l.getD k zOpR).2.1 = (n : Int)) (hx : (l.getD k zOpR).2.2.1 = (x : Int)) (hlt : x < 2 ^ n) :
    nbits (pack (streamR l)) (streamR (l.take k)).length n = x := by
  unfold nbits
  rw [← BP.numb_of_bits hlt]
  refine BP.numb_congr (fun i hi => ?_)
  rw [bitAt_pack, streamR_at l k hk, append_getD2]
  have : (bitsR (l.getD k zOpR) ++ streamR (l.drop (k + 1))).getD i false = (bitsR (l.getD k zOpR)).getD i false := by
    simp only [List.getD_eq_getElem?_getD]
    have hl : i < (bitsR (l.getD k zOpR)).length := by unfold bitsR; rw [bitsN_length, hn, Int.toNat_natCast]; exact hi
    simp only [List.getD_eq_getElem?_getD] at hl
    rw [List.getElem?_append_left hl]
  rw [this]
  unfold bitsR
  rw [hn, hx, Int.toNat_natCast, Int.toNat_natCast, bitsN_getD2 _ _ _ hi]
theorem R_ne_typesE {α β : Type} {d : Kd α} {d' : Kd β} {e e' b b' : Nat} {w : World} {ok ok' : Nat → Prop} {v v' : Value} {xs : List α} {xs' : List β} (hE : d.E = []) (hE' : d'.E = []) (h : Kd.R d e w b ok v xs) (h' : Kd.R d' e' w b' ok' v' xs') (hne : e ≠ e') : ∀ j, v.ownBlock = some j → v'.ownBlock ≠ some j := by
  intro j hj hj'
  obtain ⟨_, _, _, q, hq, cs, hc⟩ := (Kd.R_bound h).1 j hj
  obtain ⟨_, _, _, q', hq', cs', hc'⟩ := (Kd.R_bound h').1 j hj'
  have e1 : q = e := by simpa [hE] using hq
  have e2 : q' = e' := by simpa [hE'] using hq'
  rw [hc] at hc'
  simp only [Option.some.injEq, Obj.cells.injEq] at hc'
  exact hne (e1.symm.trans (hc'.2.1.trans e2))
theorem R_ne_blkE {α : Type} {d : Kd α} {e b g t : Nat} {w : World} {ok : Nat → Prop} {v : Value} {xs : List α} {cs : Array Value} {fr : Nat × Nat} (hE : d.E = []) (h : Kd.R d e w b ok v xs) (hg : w.heap[g]? = some (.cells cs t fr)) (hne : e ≠ t) : v.ownBlock ≠ some g := by
  intro hj
  obtain ⟨_, _, _, q, hq, cs', hc⟩ := (Kd.R_bound h).1 g hj
  have e1 : q = e := by simpa [hE] using hq
  rw [hc] at hg
  simp only [Option.some.injEq, Obj.cells.injEq] at hg
  exact hne (e1.symm.trans hg.2.1)
theorem R_keptE {α : Type} {d : Kd α} {e base : Nat} {w w' : World} {v : Value} {xs : List α} {S : Nat → Prop} (hE : d.E = []) (h : Kd.R d e w base (fun _ => True) v xs) (hk : Kept w w' S) (hv : ∀ j, v.ownBlock = some j → ¬ S j) : Kd.R d e w' base (fun _ => True) v xs :=
  Kd.R_mono (Kd.R_step (Kd.R_tight hE h) (w1 := w') (fun k ho hlt => hk.2 k hlt (hv k ho.symm))) (fun _ _ => trivial)
theorem BbS_op {B : Nat} {wr w6 : World} {v v' : Value} {ks : List Bool} {o : Obj} (hw : WS B wr B v ks) (hf : WF B (wr.alloc o) w6 B v v') : w6.heap[wr.heap.size]? = some o := by
  refine (hf.1.2 wr.heap.size (blk_lt (heap_alloc_new wr o)) (fun h => ?_)).trans (heap_alloc_new wr o)
  rcases h with h | h
  · have := blk_lt hw.1; omega
  · have := Kd.R_lt hw.2.2 _ h; omega
theorem BbS_op2 {B : Nat} {wr W1 w6 : World} {v v' : Value} {ks : List Bool} {o : Obj} (hw : WS B wr B v ks) (ho : W1.heap[wr.heap.size]? = some o) (hf : WF B W1 w6 B v v') : w6.heap[wr.heap.size]? = some o := by
  refine (hf.1.2 wr.heap.size (blk_lt ho) (fun h => ?_)).trans ho
  rcases h with h | h
  · have := blk_lt hw.1; omega
  · have := Kd.R_lt hw.2.2 _ h; omega
/-- What stands at the head of the first loop. -/
def BbS (W wr : World) (u : Value) (k : Nat) : Prop :=
  ∃ (v : Value) (ks : List OpR), WS W.heap.size wr W.heap.size v (streamR ks) ∧ Kd.R kOpR 44 wr W.heap.size (fun _ => True) u ks ∧ Below W.heap.size W wr ∧ ks.length = k ∧ ∀ p ∈ ks, Fine p
set_option maxRecDepth 100000 in
set_option maxHeartbeats 8000000 in
theorem back1_walk (w : World) (A1 : Option Addr) (c1 : Nat) (ss : List OpD) (hr1 : Kd.C kOp w A1 ss.length ss) (hl1 : ss.length * 48 ≤ 140737488351232) (hG : ∀ x ∈ ss, OpG x) :
    Calls Try.prog 8 #[.slice A1 ss.length c1] w fun e w' => e = .returned (.bool true) ∧ Below w.heap.size w w' := by
  have HR1 := Aside0.mk hr1
  have HG := Aside0.mk hG
  clear hr1 hG
  go_enter Try.func8, Try.ntmps8
  go_wp2_with fail
  refine (newWriter_calls w).mono ?_
  rintro e w5 ⟨rfl, hw5, hb5, _⟩
  have HW5 := Aside0.mk hw5
  have HB5 := Aside0.mk hb5
  clear hw5 hb5
  go_wp2_with fail
  refine (live1_calls _).mono ?_
  rintro e w2 ⟨rfl, hb2⟩
  have HS2 : Aside0 (BbS w w2 (.slice none 0 0) 0) := ⟨⟨_, [], HW5.out.below hb2, Kd.R_nil _ _ _ _ _, below_step HB5.out hb2, rfl, fun p hp => by cases hp⟩⟩
  clear hb2
  go_wp2
  go_loopw [4, 21] (fun u i wr => ∃ k : Nat, k ≤ ss.length ∧ i = .int .i64 k ∧ Aside0 (BbS w wr u k)) (fun _ i _ => ss.length - (intOf i).toNat)
  case atStart => exact ⟨0, Nat.zero_le _, rfl, HS2⟩
  case round =>
    clear HS2
    obtain ⟨k, hk, rfl, HS⟩ := hrel
    obtain ⟨wr, hwr⟩ : ∃ x, x = wr := ⟨_, rfl⟩
    subst hwr
    by_cases hlt : k < ss.length
    · obtain ⟨v, ks, hw, hu, hb, hkl, hfine⟩ := HS.out
      have hC := Kd.C_below HR1.out hb
      obtain ⟨ad, Ad, cd, e1, h0, h1, h2, h3, _, _⟩ := at_op hC (k : Int) (by omega) (by omega)
      subst e1
      rw [Int.toNat_natCast] at h0 h1 h2 h3
      have hmem : ss.getD k zOp ∈ ss := by rw [List.getD_eq_getElem?_getD, List.getElem?_eq_getElem hlt]; exact List.getElem_mem hlt
      have hg := HG.out _ hmem
      generalize ss.getD k zOp = op at *
      obtain ⟨kind, n, v0, data⟩ := op
      simp only at h0 h1 h2 h3
      obtain ⟨x, rfl, hx32⟩ := u32_bd hg.2.2.1
      have HW := Aside0.mk hw
      have HU := Aside0.mk hu
      have HB := Aside0.mk hb
      have HF := Aside0.mk (And.intro hkl hfine)
      clear hw hu hb hkl hfine hC hmem hg HS
      by_cases hn : n < 0 ∨ 32 < n
      · have hd : (decide (n < 0) = true) ∨ (decide (n < 0) = false ∧ decide (32 < n) = true) := by simp; omega
        clear hn
        rcases hd with t1 | ⟨t1, t2⟩
        all_goals
          go_wp2_with fail
          have hsl := streamR_le ks HF.out.2
          have hkl := HF.out.1
          have HBT := Aside0.mk (wbits_ok w.heap.size w.heap.size v (streamR ks) _ x 32 (HW.out.below (below_alloc (Below.refl _ _) (.cells #[.int .i64 kind, .int .i64 (32 : Nat), .int .u32 (x : Nat), .slice Ad data.length cd] 44))) (by have := HB.out.size; simp; omega) (by omega) (by omega) (bitLen_le hx32) (by omega))
          clear hsl hkl
          refine HBT.out.mono ?_
          rintro e w6 ⟨rfl, v', hw6, hf6⟩
          clear HBT
          have hop := BbS_op HW.out hf6
          have g0 := (blk_cell hop 0).trans rfl
          have g1 := (blk_cell hop 1).trans rfl
          have g2 := (blk_cell hop 2).trans rfl
          have g3 := (blk_cell hop 3).trans rfl
          have HU6 := Aside0.mk (R_keptE rfl (Kd.R_alloc HU.out _) hf6.1 (fun j hj hs => by
            rcases hs with rfl | hs
            · exact R_ne_blkE rfl HU.out HW.out.1 (by decide) hj
            · exact R_ne_typesE rfl rfl HU.out HW.out.2.2 (by decide) j hj hs))
          have HW6 := Aside0.mk hw6
          have HB6 : Aside0 (Below w.heap.size w w6) := ⟨(below_alloc HB.out _).trans hf6.2.1⟩
          clear hw6 hf6 hop
          go_wp2_with (refine Kd.R_append kOpR (w0 := w) w.heap.size rfl _ _ 38 44 (.agg #[.int .i64 0, .int .i64 0, .int .u32 0, .slice none 0 0]) 48 rfl Try.underlying38 infoOpR kOpR_z kOpR_pos (by decide) u4 ks (kind, ((32 : Nat) : Int), ((x : Nat) : Int), Ad, data.length, cd) [.int .i64 kind, .int .i64 ((32 : Nat) : Int), .int .u32 ((x : Nat) : Int), .slice Ad data.length cd] (fun _ => True) (fun _ => False) rfl rfl (kOpR_mkM _ _ _ _) (fun _ h => h.elim) (fun _ _ => trivial) HU6.out HB6.out HB6.out.size (by have := HF.out.1; omega) ?_; intro v7 w7 hv7 hb7 hg7 _; have HV7 := Aside0.mk hv7; have HB7 := Aside0.mk hb7; have HG7 := Aside0.mk hg7; clear hv7 hb7 hg7)
          refine ⟨?rel, ?measure⟩
          case rel =>
            refine ⟨k + 1, by omega, by go_num, ⟨v', ks ++ [(kind, ((32 : Nat) : Int), ((x : Nat) : Int), Ad, data.length, cd)], ?_, HV7.out, HB7.out, by simp [HF.out.1], ?_⟩⟩
            · rw [streamR_snoc]
              have hk7 : Kept w6 w7 _ := Kept.of_grown HG7.out (Kept.refl _ _) (fun k hk => .inl hk)
              exact HW6.out.kept hk7 (fun e => R_ne_blkE rfl HU6.out HW6.out.1 (by decide) e) (fun j hj e => R_ne_typesE rfl rfl HU6.out HW6.out.2.2 (by decide) j e hj)
            · intro p hp
              rcases List.mem_append.1 hp with hp | hp
              · exact HF.out.2 p hp
              · obtain rfl := List.mem_singleton.1 hp
                exact ⟨32, x, rfl, by omega, rfl, hx32⟩
          case measure => simp [intOf]; omega
      · obtain ⟨m, rfl⟩ : ∃ m : Nat, n = (m : Int) := ⟨n.toNat, by omega⟩
        have t1 : decide ((m : Int) < 0) = false := by simp
        have t2 : decide (32 < (m : Int)) = false := by simp; omega
        have hm : m ≤ 32 := by omega
        clear hn
        by_cases hm32 : m < 32
        · have t3 : decide ((m : Int) < 32) = true := by simp; omega
          have hlow := low_is x m hx32 hm
          have hpow := pow_le_32 m hm
          have hlt2 : x % 2 ^ m < 2 ^ m := Nat.mod_lt _ (Nat.two_pow_pos m)
          have hcast : ((x : Int) % 2 ^ m) = ((x % 2 ^ m : Nat) : Int) := by rw [two_pow_cast]; rfl
          rw [hcast] at hlow
          obtain ⟨y, hy⟩ : ∃ y, y = x % 2 ^ m := ⟨_, rfl⟩
          rw [← hy] at hlow hlt2
          have HLO := Aside0.mk hlt2
          clear hy hcast hpow hlt2
          go_wp2
          have HO0 := Aside0.mk (heap_alloc_new wr (.cells #[.int .i64 kind, .int .i64 (m : Int), .int .u32 (x : Int), .slice Ad data.length cd] 44))
          have HBa := Aside0.mk (below_alloc (Below.refl wr.heap.size wr) (.cells #[.int .i64 kind, .int .i64 (m : Int), .int .u32 (x : Int), .slice Ad data.length cd] 44))
          generalize wr.alloc (.cells #[.int .i64 kind, .int .i64 (m : Int), .int .u32 (x : Int), .slice Ad data.length cd] 44) = W0 at *
          have g0 := (blk_cell HO0.out 0).trans rfl
          have g1 := (blk_cell HO0.out 1).trans rfl
          have g2 := (blk_cell HO0.out 2).trans rfl
          have g3 := (blk_cell HO0.out 3).trans rfl
          have gf := blk_frozen HO0.out 2
          clear h0 h1 h2 h3
          go_region
          go_wp2_with fail
          have HO1 : Aside0 ((W0.setCell ⟨wr.heap.size, 2, none⟩ (.int .u32 (y : Int))).drew.heap[wr.heap.size]? = some (.cells #[.int .i64 kind, .int .i64 (m : Int), .int .u32 (y : Int), .slice Ad data.length cd] 44 (0, 0))) := ⟨by
            have := blk_set HO0.out 2 (.int .u32 (y : Int))
            show (W0.setCell ⟨wr.heap.size, 2, none⟩ (.int .u32 (y : Int))).heap[wr.heap.size]? = _
            simpa using this⟩
          have HB1 : Aside0 (Below wr.heap.size wr (W0.setCell ⟨wr.heap.size, 2, none⟩ (.int .u32 (y : Int))).drew) := ⟨below_drew (HBa.out.setCell (Nat.le_refl _) _)⟩
          generalize (W0.setCell ⟨wr.heap.size, 2, none⟩ (.int .u32 (y : Int))).drew = W1 at *
          have hsl := streamR_le ks HF.out.2
          have hkl := HF.out.1
          have HBT := Aside0.mk (wbits_ok w.heap.size w.heap.size v (streamR ks) W1 y m (HW.out.below HB1.out) (by have := HB.out.size; have := HB1.out.size; omega) (by omega) (Nat.lt_of_lt_of_le HLO.out (pow_le_32 m hm)) (bitLen_le HLO.out) (by omega))
          clear hsl hkl
          refine HBT.out.mono ?_
          rintro e w6 ⟨rfl, v', hw6, hf6⟩
          clear HBT
          have hop := BbS_op2 HW.out HO1.out hf6
          have g0 := (blk_cell hop 0).trans rfl
          have g1 := (blk_cell hop 1).trans rfl
          have g2 := (blk_cell hop 2).trans rfl
          have g3 := (blk_cell hop 3).trans rfl
          have HU6 := Aside0.mk (R_keptE rfl (Kd.R_below HU.out HB1.out) hf6.1 (fun j hj hs => by
            rcases hs with rfl | hs
            · exact R_ne_blkE rfl HU.out HW.out.1 (by decide) hj
            · exact R_ne_typesE rfl rfl HU.out HW.out.2.2 (by decide) j hj hs))
          have HW6 := Aside0.mk hw6
          have HB6 : Aside0 (Below w.heap.size w w6) := ⟨(below_step HB.out HB1.out).trans hf6.2.1⟩
          clear hw6 hf6 hop
          go_wp2_with (refine Kd.R_append kOpR (w0 := w) w.heap.size rfl _ _ 38 44 (.agg #[.int .i64 0, .int .i64 0, .int .u32 0, .slice none 0 0]) 48 rfl Try.underlying38 infoOpR kOpR_z kOpR_pos (by decide) u4 ks (kind, ((m : Nat) : Int), ((y : Nat) : Int), Ad, data.length, cd) [.int .i64 kind, .int .i64 ((m : Nat) : Int), .int .u32 ((y : Nat) : Int), .slice Ad data.length cd] (fun _ => True) (fun _ => False) rfl rfl (kOpR_mkM _ _ _ _) (fun _ h => h.elim) (fun _ _ => trivial) HU6.out HB6.out HB6.out.size (by have := HF.out.1; omega) ?_; intro v7 w7 hv7 hb7 hg7 _; have HV7 := Aside0.mk hv7; have HB7 := Aside0.mk hb7; have HG7 := Aside0.mk hg7; clear hv7 hb7 hg7)
          refine ⟨?rel, ?measure⟩
          case rel =>
            refine ⟨k + 1, by omega, by go_num, ⟨v', ks ++ [(kind, ((m : Nat) : Int), ((y : Nat) : Int), Ad, data.length, cd)], ?_, HV7.out, HB7.out, by simp [HF.out.1], ?_⟩⟩
            · rw [streamR_snoc]
              have hk7 : Kept w6 w7 _ := Kept.of_grown HG7.out (Kept.refl _ _) (fun k hk => .inl hk)
              exact HW6.out.kept hk7 (fun e => R_ne_blkE rfl HU6.out HW6.out.1 (by decide) e) (fun j hj e => R_ne_typesE rfl rfl HU6.out HW6.out.2.2 (by decide) j e hj)
            · intro p hp
              rcases List.mem_append.1 hp with hp | hp
              · exact HF.out.2 p hp
              · obtain rfl := List.mem_singleton.1 hp
                exact ⟨m, y, rfl, by omega, rfl, HLO.out⟩
          case measure => simp [intOf]; omega
        · obtain rfl : m = 32 := by omega
          go_wp2_with fail
          have hsl := streamR_le ks HF.out.2
          have hkl := HF.out.1
          have HBT := Aside0.mk (wbits_ok w.heap.size w.heap.size v (streamR ks) _ x 32 (HW.out.below (below_alloc (Below.refl _ _) (.cells #[.int .i64 kind, .int .i64 (32 : Nat), .int .u32 (x : Nat), .slice Ad data.length cd] 44))) (by have := HB.out.size; simp; omega) (by omega) (by omega) (bitLen_le hx32) (by omega))
          clear hsl hkl
          refine HBT.out.mono ?_
          rintro e w6 ⟨rfl, v', hw6, hf6⟩
          clear HBT
          have hop := BbS_op HW.out hf6
          have g0 := (blk_cell hop 0).trans rfl
          have g1 := (blk_cell hop 1).trans rfl
          have g2 := (blk_cell hop 2).trans rfl
          have g3 := (blk_cell hop 3).trans rfl
          have HU6 := Aside0.mk (R_keptE rfl (Kd.R_alloc HU.out _) hf6.1 (fun j hj hs => by
            rcases hs with rfl | hs
            · exact R_ne_blkE rfl HU.out HW.out.1 (by decide) hj
            · exact R_ne_typesE rfl rfl HU.out HW.out.2.2 (by decide) j hj hs))
          have HW6 := Aside0.mk hw6
          have HB6 : Aside0 (Below w.heap.size w w6) := ⟨(below_alloc HB.out _).trans hf6.2.1⟩
          clear hw6 hf6 hop
          go_wp2_with (refine Kd.R_append kOpR (w0 := w) w.heap.size rfl _ _ 38 44 (.agg #[.int .i64 0, .int .i64 0, .int .u32 0, .slice none 0 0]) 48 rfl Try.underlying38 infoOpR kOpR_z kOpR_pos (by decide) u4 ks (kind, ((32 : Nat) : Int), ((x : Nat) : Int), Ad, data.length, cd) [.int .i64 kind, .int .i64 ((32 : Nat) : Int), .int .u32 ((x : Nat) : Int), .slice Ad data.length cd] (fun _ => True) (fun _ => False) rfl rfl (kOpR_mkM _ _ _ _) (fun _ h => h.elim) (fun _ _ => trivial) HU6.out HB6.out HB6.out.size (by have := HF.out.1; omega) ?_; intro v7 w7 hv7 hb7 hg7 _; have HV7 := Aside0.mk hv7; have HB7 := Aside0.mk hb7; have HG7 := Aside0.mk hg7; clear hv7 hb7 hg7)
          refine ⟨?rel, ?measure⟩
          case rel =>
            refine ⟨k + 1, by omega, by go_num, ⟨v', ks ++ [(kind, ((32 : Nat) : Int), ((x : Nat) : Int), Ad, data.length, cd)], ?_, HV7.out, HB7.out, by simp [HF.out.1], ?_⟩⟩
            · rw [streamR_snoc]
              have hk7 : Kept w6 w7 _ := Kept.of_grown HG7.out (Kept.refl _ _) (fun k hk => .inl hk)
              exact HW6.out.kept hk7 (fun e => R_ne_blkE rfl HU6.out HW6.out.1 (by decide) e) (fun j hj e => R_ne_typesE rfl rfl HU6.out HW6.out.2.2 (by decide) j e hj)
            · intro p hp
              rcases List.mem_append.1 hp with hp | hp
              · exact HF.out.2 p hp
              · obtain rfl := List.mem_singleton.1 hp
                exact ⟨32, x, rfl, by omega, rfl, hx32⟩
          case measure => simp [intOf]; omega
    · obtain rfl : k = ss.length := by omega
      obtain ⟨v, ks, hw, hu, hb, hkl, hfine⟩ := HS.out
      obtain ⟨Au, cu, rfl, hcu, _⟩ := Kd.R_reads hu
      have hsl := streamR_le ks hfine
      have HM : Aside0 ((pack (streamR ks)).length ≤ 140737488351232 ∧ (streamR ks).length ≤ 1125899906809856) := ⟨by rw [pack_length]; omega, by omega⟩
      have HW := Aside0.mk hw
      have HU := Aside0.mk hu
      have HB := Aside0.mk hb
      have HF := Aside0.mk hfine
      have hkl2 : ks.length ≤ 17592186043904 := by omega
      clear hw hu hb hkl hfine hsl HS
      go_wp2_with fail
      refine (wout_calls _ _ v _ wr HW.out HM.out.2).mono ?_
      rintro e w6 ⟨u6, rfl, hu6, hb6⟩
      obtain ⟨Ao, co, rfl, hco, _⟩ := Kd.R_reads hu6
      have HO6 := Aside0.mk hu6
      have HB6 := Aside0.mk hb6
      clear hu6 hb6
      go_wp2_with fail
      refine (newRd_calls Ao co (pack (streamR ks)) w6 (Kd.R_reads' HO6.out).2.2 hco HM.out.1).mono ?_
      rintro e w7 ⟨gr, vr, rfl, hR, hb7⟩
      have HSr := Aside0.mk (And.intro hR hb7)
      have HU6 : Aside0 (Kd.C kOpR w6 Au ks.length ks) := ⟨(Kd.R_reads' (Kd.R_below HU.out HB6.out)).2.2⟩
      have HBw : Aside0 (Below w.heap.size w w6) := ⟨below_step HB.out HB6.out⟩
      clear hR hb7
      go_wp2
      go_loopw [64] (fun i wr => ∃ k : Nat, k ≤ ks.length ∧ i = .int .i64 k ∧ Aside0 (RdS w6.heap.size wr gr vr (pack (streamR ks)) (streamR (ks.take k)).length ∧ Below w6.heap.size w6 wr)) (fun i _ => ks.length - (intOf i).toNat)
      case atStart => exact ⟨0, Nat.zero_le _, rfl, HSr⟩
      case round =>
        clear HSr
        obtain ⟨k, hk, rfl, HS⟩ := hrel
        obtain ⟨wq, hwq⟩ : ∃ x, x = wr := ⟨_, rfl⟩
        subst hwq
        by_cases hlt : k < ks.length
        · obtain ⟨ad, e1, h0, h1, h2, h3⟩ := at_opR (Kd.C_below HU6.out HS.out.2) (k : Int) (by omega) (by omega)
          subst e1
          rw [Int.toNat_natCast] at h0 h1 h2 h3
          have hmem : ks.getD k zOpR ∈ ks := by rw [List.getD_eq_getElem?_getD, List.getElem?_eq_getElem hlt]; exact List.getElem_mem hlt
          obtain ⟨n, x, hn, hn32, hx, hxn⟩ := HF.out _ hmem
          have hnb := nbits_stream ks k n x hlt hn hx hxn
          have htk := streamR_take ks k hlt
          have hbl : (bitsR (ks.getD k zOpR)).length = n := by unfold bitsR; rw [bitsN_length, hn, Int.toNat_natCast]
          have hst := congrArg List.length (streamR_at ks k hlt)
          rw [List.length_append, List.length_append, hbl] at hst
          have hfit : (streamR (ks.take k)).length + n ≤ 8 * (pack (streamR ks)).length := by rw [pack_length]; omega
          have htl : (streamR (ks.take (k + 1))).length = (streamR (ks.take k)).length + n := by rw [htk, List.length_append, hbl]
          rw [hn] at h1
          rw [hx] at h2
          have HBT := Aside0.mk (fun W (hW : RdS w6.heap.size W gr vr (pack (streamR ks)) (streamR (ks.take k)).length) => rd_bits_ok w6.heap.size gr vr (pack (streamR ks)) (streamR (ks.take k)).length n W hW (pack_bytes _) HM.out.1 hfit hn32)
          rw [hnb] at HBT
          have HTL := Aside0.mk htl
          clear hmem hn hx hxn hnb htk hbl hst hfit htl
          generalize (ks.getD k zOpR).1 = kind at *
          obtain ⟨⟨Ad, dl, cd⟩, hsl⟩ : ∃ t, t = (ks.getD k zOpR).2.2.2 := ⟨_, rfl⟩
          rw [← hsl] at h3
          change wq.cell? ⟨(ad.add (k * 4)).block, (ad.add (k * 4)).off + 3, none⟩ = some (.slice Ad dl cd) at h3
          clear hsl
          have HRa : Aside0 (∀ o, RdS w6.heap.size (wq.alloc o) gr vr (pack (streamR ks)) (streamR (ks.take k)).length ∧ Below w6.heap.size w6 (wq.alloc o)) := ⟨fun o => ⟨HS.out.1.below (below_alloc (Below.refl _ _) o), below_alloc HS.out.2 o⟩⟩
          have HGR : Aside0 (gr < wq.heap.size ∧ w6.heap.size ≤ gr) := ⟨blk_lt HS.out.1.1, HS.out.1.2.1⟩
          go_wp2_with fail
          refine (HBT.out _ (HRa.out _).1).mono ?_
          rintro e w8 ⟨rfl, k8, rfl⟩
          have HO0 := Aside0.mk (heap_alloc_new wq (.cells #[.int .i64 kind, .int .i64 (n : Int), .int .u32 (x : Int), .slice Ad dl cd] 44))
          have HS8 : Aside0 (RdS w6.heap.size ((wq.alloc (.cells #[.int .i64 kind, .int .i64 (n : Int), .int .u32 (x : Int), .slice Ad dl cd] 44)).drewN k8 |>.setCell ⟨gr, 2, none⟩ (.int .i64 (((streamR (ks.take k)).length + n : Nat) : Int))) gr vr (pack (streamR ks)) (streamR (ks.take (k + 1))).length ∧ Below w6.heap.size w6 ((wq.alloc (.cells #[.int .i64 kind, .int .i64 (n : Int), .int .u32 (x : Int), .slice Ad dl cd] 44)).drewN k8 |>.setCell ⟨gr, 2, none⟩ (.int .i64 (((streamR (ks.take k)).length + n : Nat) : Int)))) := ⟨by
            rw [HTL.out]
            exact ⟨((HRa.out _).1.drewN k8).set _, (pw_below_drewN (HRa.out _).2 k8).setCell HGR.out.2 _⟩⟩
          have HO8 : Aside0 (((wq.alloc (.cells #[.int .i64 kind, .int .i64 (n : Int), .int .u32 (x : Int), .slice Ad dl cd] 44)).drewN k8 |>.setCell ⟨gr, 2, none⟩ (.int .i64 (((streamR (ks.take k)).length + n : Nat) : Int))).heap[wq.heap.size]? = some (.cells #[.int .i64 kind, .int .i64 (n : Int), .int .u32 (x : Int), .slice Ad dl cd] 44)) := ⟨(Below.heap_setCell _ ⟨gr, 2, none⟩ _ wq.heap.size (by have := HGR.out.1; intro e; simp at e; omega)).trans HO0.out⟩
          generalize ((wq.alloc (.cells #[.int .i64 kind, .int .i64 (n : Int), .int .u32 (x : Int), .slice Ad dl cd] 44)).drewN k8 |>.setCell ⟨gr, 2, none⟩ (.int .i64 (((streamR (ks.take k)).length + n : Nat) : Int))) = W8 at *
          have g2 := (blk_cell HO8.out 2).trans rfl
          have e1 : ((x : Int) == (x : Int)) = true := beq_self_eq_true _
          have e2 : ((x : Int) != (x : Int)) = false := by simp
          go_wp2
          refine ⟨?rel, ?measure⟩
          case rel => exact ⟨k + 1, by omega, by go_num, HS8⟩
          case measure => simp [intOf]; omega
        · obtain rfl : k = ks.length := by omega
          have hlen : (streamR (ks.take ks.length)).length = (streamR ks).length := by rw [List.take_length]
          have hpl : (pack (streamR ks)).length = ((streamR ks).length + 7) / 8 := pack_length _
          have HL := Aside0.mk (rd_left w6.heap.size gr vr (pack (streamR ks)) (streamR (ks.take ks.length)).length wq HS.out.1 HM.out.1 (by rw [hpl, hlen]; omega))
          have hd : decide (8 * ((pack (streamR ks)).length : Int) - ((streamR (ks.take ks.length)).length : Int) < 8) = true := by rw [hpl, hlen]; simp; omega
          have HD2 : Aside0 (decide (8 * ((pack (streamR ks)).length : Int) - ((streamR ks).length : Int) < 8) = true) := ⟨by rw [hpl]; simp; omega⟩
          clear hlen hpl
          go_wp2_with fail
          refine HL.out.mono ?_
          rintro e w9 ⟨rfl, ⟨n9, rfl⟩⟩
          go_wp2
          go_ret
          refine ⟨?_, pw_below_drewN (below_step HBw.out HS.out.2) _⟩
          show Ending.returned (.bool (decide (8 * ((pack (streamR ks)).length : Int) - ((streamR ks).length : Int) < 8))) = _
          rw [HD2.out]
theorem bitioBack_walk (w : World) (A1 : Option Addr) (c1 : Nat) (ss : List OpD) (hr1 : Kd.C kOp w A1 ss.length ss) (hc1 : ss.length ≤ c1) (hG : ss.length * 48 ≤ 140737488351232 ∧ ss.length ≤ 9223372036854775807 ∧ ∀ x ∈ ss, OpG x) :
    Calls Try.prog 8 #[.slice A1 ss.length c1] w fun e w' => e = .returned (.bool true) ∧ Below w.heap.size w w' := back1_walk w A1 c1 ss hr1 hG.1 hG.2.2
end Go.Proofs.Ytlepnpjlmcjedaa.Hw
