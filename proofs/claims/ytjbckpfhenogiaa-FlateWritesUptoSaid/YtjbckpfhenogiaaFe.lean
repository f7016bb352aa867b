import Derived.Test.YtjbckpfhenogiaaFx
import Derived.BigRegion
import Derived.Test.YtjbckpfhenogiaaFl
/- A coder's body of literals, walked. -/
namespace Go.Proofs.Ytjbckpfhenogiaa.Hw
open Go.RowKit Go.Proofs.YtjbckpfhenogiaaW.PrintWords Go.Proofs.YtjbckpfhenogiaaW.PrintLast Go.Proofs.YtjbckpfhenogiaaW.PrintMore Go.Proofs.Ytjbckpfhenogiaa.PH
set_option linter.unusedVariables false
set_option linter.unusedSimpArgs false
/-- The cells of tokens that are literals. -/
def tokL (bs : List Int) : List Value := bs.flatMap fun b => [.int .i64 b, .int .i64 0]
theorem tokL_len (bs : List Int) : (tokL bs).length = 2 * bs.length := by
  induction bs with
  | nil => rfl
  | cons b t ih => unfold tokL at ih ⊢; rw [List.flatMap_cons, List.length_append, ih]; simp; omega
theorem tokL_at : ∀ (bs : List Int) (k : Nat), k < bs.length → (tokL bs)[2 * k]? = some (.int .i64 (bs.getD k 0)) ∧ (tokL bs)[2 * k + 1]? = some (.int .i64 0) := by
  intro bs
  induction bs with
  | nil => intro k h; simp at h
  | cons b t ih =>
    intro k h
    have e : tokL (b :: t) = .int .i64 b :: .int .i64 0 :: tokL t := rfl
    cases k with
    | zero => exact ⟨rfl, rfl⟩
    | succ k =>
      obtain ⟨h1, h2⟩ := ih k (by simpa using h)
      rw [e, show 2 * (k + 1) = 2 * k + 1 + 1 by omega, show 2 * k + 1 + 1 + 1 = (2 * k + 1) + 1 + 1 by omega]
      simp only [List.getElem?_cons_succ]
      exact ⟨by rw [h1]; simp, h2⟩
/-- Within body: the coder, its writer, its rows, the tokens. -/
structure BoS (base g gc gt : Nat) (A : Option Addr) (c : Nat) (B : Option Addr) (d : Nat) (x3 x4 : Value) (bs : List Int) (w0 W : World) (v : Value) (L : List Bool) : Prop where
  co : W.heap[gc]? = some (.cells (coC g (.slice A 288 c) (.slice B 32 d) x3 x4) 71 (0, 0))
  ws : WS base W g v L
  lit : Kd.R (Kd.int .i64) 3 W base (okS g gc v) (.slice A 288 c) fixLit
  dist : Kd.R (Kd.int .i64) 3 W base (okS g gc v) (.slice B 32 d) fixDist
  tok : W.heap[gt]? = some (.cells (tokL bs).toArray 46 (0, 0))
  okt : okS g gc v gt
  okc : gc ≠ g ∧ some gc ≠ v.ownBlock ∧ base ≤ gc
  below : Below base w0 W
section
variable {base g gc gt : Nat} {A : Option Addr} {c : Nat} {B : Option Addr} {d : Nat} {x3 x4 : Value} {bs : List Int} {w0 W W1 : World} {v v1 : Value} {L L1 : List Bool}
theorem BoS.go (h : BoS base g gc gt A c B d x3 x4 bs w0 W v L) (hB : base ≤ W.heap.size) (hb : Below W.heap.size W W1) : BoS base g gc gt A c B d x3 x4 bs w0 W1 v L :=
  ⟨(hb.block _ (blk_lt h.co)).trans h.co, h.ws.below hb, okS.below h.lit hb, okS.below h.dist hb, (hb.block _ (blk_lt h.tok)).trans h.tok, h.okt, h.okc, h.below.trans (hb.mono hB)⟩
theorem BoS.wf (h : BoS base g gc gt A c B d x3 x4 bs w0 W v L) (hs : WS base W1 g v1 L1) (hw : WF base W W1 g v v1) : BoS base g gc gt A c B d x3 x4 bs w0 W1 v1 L1 := by
  have kc : ¬ (gc = g ∨ v.ownBlock = some gc) := fun hh => hh.elim h.okc.1 (fun e => h.okc.2.1 e.symm)
  have lc := blk_lt h.co
  refine ⟨(hw.1.2 gc lc kc).trans h.co, hs, okS.wf h.lit hw, okS.wf h.dist hw, (h.okt.low (blk_lt h.tok) hw).2.trans h.tok, (h.okt.low (blk_lt h.tok) hw).1, ⟨h.okc.1, fun e => ?_, h.okc.2.2⟩, h.below.trans hw.2.1⟩
  rcases hw.2.2 with e1 | ⟨b, e1, hb⟩
  · rw [e1] at e; exact h.okc.2.1 e
  · rw [e1] at e; injection e with e; omega
theorem BoS.set3 (h : BoS base g gc gt A c B d x3 x4 bs w0 W v L) (x : Value) : BoS base g gc gt A c B d x x4 bs w0 (W.setCell ⟨gc, 3, none⟩ x) v L := by
  have hv : ∀ k, v.ownBlock = some k → k ≠ gc := fun k hk e => h.okc.2.1 (by rw [← e]; exact hk.symm)
  refine ⟨blk_put h.co 3 x (by rfl), ⟨(Below.heap_setCell W _ x g (fun e => h.okc.1 e.symm)).trans h.ws.1, h.ws.2.1, ?_⟩, okS.set h.lit 3 x, okS.set h.dist 3 x, (Below.heap_setCell W _ x gt h.okt.2.1).trans h.tok, h.okt, h.okc, h.below.setCell h.okc.2.2 _⟩
  exact R_kept1 h.ws.2.2 (S := fun k => k = gc) ⟨by simp [World.setCell], fun k _ hk => Below.heap_setCell W _ x k hk⟩ hv
theorem BoS.set4 (h : BoS base g gc gt A c B d x3 x4 bs w0 W v L) (x : Value) : BoS base g gc gt A c B d x3 x bs w0 (W.setCell ⟨gc, 4, none⟩ x) v L := by
  have hv : ∀ k, v.ownBlock = some k → k ≠ gc := fun k hk e => h.okc.2.1 (by rw [← e]; exact hk.symm)
  refine ⟨blk_put h.co 4 x (by rfl), ⟨(Below.heap_setCell W _ x g (fun e => h.okc.1 e.symm)).trans h.ws.1, h.ws.2.1, ?_⟩, okS.set h.lit 4 x, okS.set h.dist 4 x, (Below.heap_setCell W _ x gt h.okt.2.1).trans h.tok, h.okt, h.okc, h.below.setCell h.okc.2.2 _⟩
  exact R_kept1 h.ws.2.2 (S := fun k => k = gc) ⟨by simp [World.setCell], fun k _ hk => Below.heap_setCell W _ x k hk⟩ hv
end
set_option maxRecDepth 100000 in
set_option maxHeartbeats 4000000 in
theorem body_calls (base g gc gt : Nat) (A : Option Addr) (c : Nat) (B : Option Addr) (d : Nat) (bs : List Int) (w : World) (v : Value) (L : List Bool)
    (hS : BoS base g gc gt A c B d (.slice none 0 0) (.slice none 0 0) bs w w v L) (hB : base ≤ w.heap.size) (hc : 288 ≤ c) (hd : 32 ≤ d) (hb : IsBytes bs) (hl : bs.length ≤ 1048576) (hL : L.length ≤ 64) :
    Calls Try.prog 39 #[.pointer (some ⟨gc, 0, none⟩), .slice (some ⟨gt, 0, none⟩) bs.length bs.length] w fun e w' => ∃ u, e = .returned u ∧ Kd.R (Kd.int .u8) 5 w' base (fun _ => True) u (pack (L ++ litsB bs ++ bitsN 0 7)) ∧ Below base w w' := by
  have HS := Aside0.mk hS
  have HB := Aside0.mk hB
  have HIB := Aside0.mk hb
  have HL := Aside0.mk hl
  have HLL := Aside0.mk hL
  obtain ⟨k0, k1, k2, k3, k4⟩ := co5 hS.co
  have HCA : Aside0 (∀ W, _ → _) := ⟨fun W hC => codes_ok A c fixLit W hC (by rw [fix_len]; exact hc) fix_check⟩
  have HCB : Aside0 (∀ W, _ → _) := ⟨fun W hC => codes_ok B d fixDist W hC (by rw [dist_len]; exact hd) dist_check⟩
  rw [fix_len] at HCA
  rw [dist_len] at HCB
  have HC1 : Aside0 (Kd.C (Kd.int .i64) w A 288 fixLit) := ⟨by have h := (Kd.R_reads' hS.lit).2.2; rw [fix_len] at h; exact h⟩
  clear hS hB hb hl hL
  go_enter Try.func39, Try.ntmps39
  go_wp2_with fail
  refine (HCA.out w HC1.out).mono ?_
  rintro e w1 ⟨x3, rfl, hr, hb1⟩
  have HS1 := Aside0.mk (HS.out.go HB.out hb1)
  have HB1 : Aside0 (base ≤ w1.heap.size) := ⟨Nat.le_trans HB.out hb1.size⟩
  have hok : Kd.R (Kd.int .u32) 40 w1 base (okS g gc v) x3 (HP.codes fixLit) := by
    have h1 := Kd.R_lower (Kd.R_bound hr) HB.out
    refine Kd.R_mono h1 (fun k hk => ?_)
    have lg := blk_lt HS.out.ws.1
    have lc := blk_lt HS.out.co
    refine ⟨by omega, by omega, fun e => ?_⟩
    have := Kd.R_lt HS.out.ws.2.2 k e.symm
    omega
  obtain ⟨A3, c3, rfl, hc3, _⟩ := Kd.R_reads hr
  rw [fix_codes_len] at hok hc3 ⊢
  have HR1 := Aside0.mk hok
  have HC3 := Aside0.mk hc3
  clear hr hb1 hok hc3 HS HB k0 k1 k2 k3 k4 HC1
  obtain ⟨k0, k1, k2, k3, k4⟩ := co5 HS1.out.co
  have f3 := blk_frozen HS1.out.co 3
  go_wp2_with fail
  have HS2 := Aside0.mk (HS1.out.set3 (.slice A3 288 c3))
  have HR2 := Aside0.mk (okS.set HR1.out 3 (.slice A3 288 c3))
  have HZ2 : Aside0 (base ≤ (w1.setCell ⟨gc, 3, none⟩ (.slice A3 288 c3)).heap.size) := ⟨by simp [World.setCell]; exact HB1.out⟩
  clear HS1 HR1 k0 k1 k2 k3 k4 f3
  generalize w1.setCell ⟨gc, 3, none⟩ (.slice A3 288 c3) = w2 at *
  refine (HCB.out w2 (by have h := (Kd.R_reads' HS2.out.dist).2.2; rw [dist_len] at h; exact h)).mono ?_
  rintro e w3 ⟨x4, rfl, hr, hb4⟩
  have HS3 := Aside0.mk (HS2.out.go HZ2.out hb4)
  have HR3 := Aside0.mk (okS.below HR2.out hb4)
  have HZ3 : Aside0 (base ≤ w3.heap.size) := ⟨Nat.le_trans HZ2.out hb4.size⟩
  obtain ⟨A4, c4, rfl, _, _⟩ := Kd.R_reads hr
  generalize (HP.codes fixDist).length = n4 at *
  clear hr hb4 HS2 HR2 HZ2 HCA HCB
  obtain ⟨k0, k1, k2, k3, k4⟩ := co5 HS3.out.co
  have f4 := blk_frozen HS3.out.co 4
  go_wp2
  have HS4 : Aside0 (BoS base g gc gt A c B d (.slice A3 288 c3) (.slice A4 n4 c4) bs w (w3.setCell ⟨gc, 4, none⟩ (.slice A4 n4 c4)) v (L ++ litsB (bs.take 0))) := ⟨by simpa [litsB] using HS3.out.set4 (.slice A4 n4 c4)⟩
  have HR4 := Aside0.mk (okS.set HR3.out 4 (.slice A4 n4 c4))
  clear HS3 HR3 HZ3 k0 k1 k2 k3 k4 f4
  generalize w3.setCell ⟨gc, 4, none⟩ (.slice A4 n4 c4) = w4 at *
  go_loopw [31] (fun i wr => ∃ (k : Nat) (v' : Value), k ≤ bs.length ∧ i = .int .i64 k ∧ Aside0 (BoS base g gc gt A c B d (.slice A3 288 c3) (.slice A4 n4 c4) bs w wr v' (L ++ litsB (bs.take k))) ∧ Aside0 (Kd.R (Kd.int .u32) 40 wr base (okS g gc v') (.slice A3 288 c3) (HP.codes fixLit)) ∧ Aside0 (base ≤ wr.heap.size)) (fun i _ => bs.length - (intOf i).toNat)
  case atStart => exact ⟨0, v, Nat.zero_le _, rfl, HS4, HR4, ⟨Nat.le_of_lt (Nat.lt_of_le_of_lt HS4.out.okc.2.2 (blk_lt HS4.out.co))⟩⟩
  case round =>
    obtain ⟨k, v', hk, rfl, HS, HR, HZ⟩ := hrel
    have hl := HL.out
    by_cases hlt : k < bs.length
    · obtain ⟨q0, q1⟩ := tokL_at bs k hlt
      have hbb := byte_range HIB.out k
      obtain ⟨b, hbn⟩ : ∃ b : Nat, bs.getD k 0 = (b : Int) := ⟨(bs.getD k 0).toNat, by omega⟩
      rw [hbn] at q0 hbb
      rw [Nat.mul_comm] at q0 q1
      have z0 : wr.cell? ⟨gt, k * 2, none⟩ = some (.int .i64 (b : Int)) := (blk_cell HS.out.tok _).trans (by simpa using q0)
      have z1 : wr.cell? ⟨gt, k * 2 + 1, none⟩ = some (.int .i64 0) := (blk_cell HS.out.tok _).trans (by simpa using q1)
      have HBN := Aside0.mk hbn
      clear hbn q0 q1
      have hbl : Below wr.heap.size wr (wr.alloc (.cells #[.int .i64 (b : Int), .int .i64 0] 46)) := (Below.refl _ _).alloc (Nat.le_refl _) _
      have HSA := Aside0.mk (HS.out.go HZ.out hbl)
      have HRA := Aside0.mk (okS.below HR.out hbl)
      have HZA : Aside0 (base ≤ (wr.alloc (.cells #[.int .i64 (b : Int), .int .i64 0] 46)).heap.size) := ⟨Nat.le_trans HZ.out hbl.size⟩
      obtain ⟨n, cd, s1, s2, s3, s4, s5, s6⟩ := fix_sym b (by omega)
      rw [if_pos (by omega)] at s6
      have hlen : (L ++ litsB (bs.take k)).length + 32 ≤ 1125899906809856 := by
        rw [List.length_append]
        have h1 := litsB_length (bs.take k)
        rw [List.length_take] at h1
        have h2 := HLL.out
        omega
      have HP0 := Aside0.mk (put_lit base g gc v' (L ++ litsB (bs.take k)) _ A A3 c c3 fixLit (HP.codes fixLit) (.slice B 32 d) (.slice A4 n4 c4) b n cd (by rw [fix_len, fix_codes_len]; exact HSA.out.co) HSA.out.ws HZA.out hlen (okS.stays HSA.out.lit) (by rw [fix_len]; exact hc) (okS.stays HRA.out) (by rw [fix_codes_len]; exact HC3.out) (by rw [fix_len, fix_codes_len]) (by rw [fix_len]; omega) s1 s2 s3 s4 s5)
      rw [s6] at HP0
      have HTK : Aside0 (L ++ litsB (bs.take (k + 1)) = L ++ litsB (bs.take k) ++ litB b) := ⟨by rw [litsB_take bs k hlt, HBN.out, List.append_assoc]; rfl⟩
      clear s1 s2 s3 s4 s5 s6 hlen hbl HS HR HZ hbb
      go_wp2_with fail
      clear z0 z1
      generalize wr.alloc (.cells #[.int .i64 (b : Int), .int .i64 0] 46) = W at *
      refine HP0.out.mono ?_
      rintro e w5 ⟨rfl, v5, hs5, hf5⟩
      have HS5 : Aside0 (BoS base g gc gt A c B d (.slice A3 288 c3) (.slice A4 n4 c4) bs w w5 v5 (L ++ litsB (bs.take (k + 1)))) := ⟨by rw [HTK.out]; exact HSA.out.wf hs5 hf5⟩
      have HR5 := Aside0.mk (okS.wf HRA.out hf5)
      have HZ5 : Aside0 (base ≤ w5.heap.size) := ⟨Nat.le_trans HZA.out hf5.1.1⟩
      clear hs5 hf5 HSA HRA HZA HP0
      go_wp2
      go_roundw
      case rel => exact ⟨k + 1, v5, by omega, by go_num, HS5, HR5, HZ5⟩
      case measure => simp only [intOf]; omega
    · obtain rfl : k = bs.length := by omega
      have HT : Aside0 (bs.take bs.length = bs) := ⟨List.take_length⟩
      rw [HT.out] at HS
      obtain ⟨n, cd, s1, s2, s3, s4, s5, s6⟩ := fix_sym 256 (by omega)
      rw [if_neg (by omega)] at s6
      have hlen : (L ++ litsB bs).length + 32 ≤ 1125899906809856 := by
        rw [List.length_append]
        have h1 := litsB_length bs
        have h2 := HLL.out
        omega
      have HP0 := Aside0.mk (put_lit base g gc v' (L ++ litsB bs) _ A A3 c c3 fixLit (HP.codes fixLit) (.slice B 32 d) (.slice A4 n4 c4) 256 n cd (by rw [fix_len, fix_codes_len]; exact HS.out.co) HS.out.ws HZ.out hlen (okS.stays HS.out.lit) (by rw [fix_len]; exact hc) (okS.stays HR.out) (by rw [fix_codes_len]; exact HC3.out) (by rw [fix_len, fix_codes_len]) (by rw [fix_len]; omega) s1 s2 s3 s4 s5)
      rw [s6] at HP0
      have HLN : Aside0 ((L ++ litsB bs ++ bitsN 0 7).length ≤ 1125899906809856) := ⟨by rw [List.length_append, bitsN_length]; omega⟩
      clear s1 s2 s3 s4 s5 s6 hlen hlt
      go_wp2_with fail
      refine HP0.out.mono ?_
      rintro e w5 ⟨rfl, v5, hs5, hf5⟩
      have HS5 := Aside0.mk (HS.out.wf hs5 hf5)
      have HZ5 : Aside0 (base ≤ w5.heap.size) := ⟨Nat.le_trans HZ.out hf5.1.1⟩
      clear hs5 hf5 HS HR HZ HP0
      obtain ⟨k0, k1, k2, k3, k4⟩ := co5 HS5.out.co
      go_wp2_with fail
      refine (wout_calls base g v5 (L ++ litsB bs ++ bitsN 0 7) w5 HS5.out.ws HLN.out).mono ?_
      rintro e w6 ⟨u, rfl, hu, hb6⟩
      have HU := Aside0.mk (Kd.R_lower hu HZ5.out)
      have HB6 : Aside0 (Below base w w6) := ⟨HS5.out.below.trans (hb6.mono HZ5.out)⟩
      clear hu hb6 k0 k1 k2 k3 k4
      go_wp2
      go_ret
      exact ⟨u, rfl, HU.out, HB6.out⟩
end Go.Proofs.Ytjbckpfhenogiaa.Hw
/- flate.fixed of literals, walked. -/
namespace Go.Proofs.Ytjbckpfhenogiaa.Hw
open Go.RowKit Go.Proofs.YtjbckpfhenogiaaW.PrintWords Go.Proofs.YtjbckpfhenogiaaW.PrintLast Go.Proofs.YtjbckpfhenogiaaW.PrintMore Go.Proofs.Ytjbckpfhenogiaa.PH
set_option linter.unusedVariables false
set_option linter.unusedSimpArgs false
abbrev nilS : Value := .slice none 0 0
theorem WS.set {base : Nat} {w : World} {g gc : Nat} {v : Value} {L : List Bool} (h : WS base w g v L) (hne : gc ≠ g) (hv : ∀ k, v.ownBlock = some k → k ≠ gc) (i : Nat) (x : Value) : WS base (w.setCell ⟨gc, i, none⟩ x) g v L :=
  ⟨(Below.heap_setCell w _ x g (fun e => hne e.symm)).trans h.1, h.2.1, R_kept1 h.2.2 (S := fun k => k = gc) ⟨by simp [World.setCell], fun k _ hk => Below.heap_setCell w _ x k hk⟩ hv⟩
theorem three_bits : ([] : List Bool) ++ bitsN 1 1 ++ bitsN 1 2 = bitsN 3 3 := by decide
set_option maxRecDepth 100000 in
set_option maxHeartbeats 4000000 in
theorem fixed_calls (gt : Nat) (bs : List Int) (w : World) (ht : w.heap[gt]? = some (.cells (tokL bs).toArray 46 (0, 0))) (hb : IsBytes bs) (hl : bs.length ≤ 1048576) :
    Calls Try.prog 23 #[.slice (some ⟨gt, 0, none⟩) bs.length bs.length] w fun e w' => ∃ u, e = .returned u ∧ Kd.R (Kd.int .u8) 5 w' w.heap.size (fun _ => True) u (fixedL bs) ∧ Below w.heap.size w w' := by
  have HT := Aside0.mk ht
  have HIB := Aside0.mk hb
  have HL := Aside0.mk hl
  have ltt := blk_lt ht
  have HLT := Aside0.mk ltt
  clear ht hb hl ltt
  go_enter Try.func23, Try.ntmps23
  go_wp2_with fail
  refine (newWriter_calls w).mono ?_
  rintro e w1 ⟨rfl, hws, hbw, hsz⟩
  obtain ⟨g, hg⟩ : ∃ g, g = w.heap.size := ⟨_, rfl⟩
  have HW1 : Aside0 (WS w.heap.size w1 g nilS []) := ⟨by rw [hg]; exact hws⟩
  have HG := Aside0.mk hg
  have HB1 := Aside0.mk hbw
  have HZ1 := Aside0.mk hsz
  rw [← hg]
  clear hws hbw hsz hg
  go_wp2_with fail
  have hal : Below w1.heap.size w1 (w1.alloc (.cells (coC g nilS nilS nilS nilS) 71)) := (Below.refl _ _).alloc (Nat.le_refl _) _
  have HWA := Aside0.mk (HW1.out.below hal)
  have HCA : Aside0 ((w1.alloc (.cells (coC g nilS nilS nilS nilS) 71)).heap[w1.heap.size]? = some (.cells (coC g nilS nilS nilS nilS) 71 (0, 0))) := ⟨heap_alloc_new w1 _⟩
  have HBA : Aside0 (Below w.heap.size w (w1.alloc (.cells (coC g nilS nilS nilS nilS) 71))) := ⟨HB1.out.trans (hal.mono HB1.out.size)⟩
  have HTA : Aside0 ((w1.alloc (.cells (coC g nilS nilS nilS nilS) 71)).heap[gt]? = some (.cells (tokL bs).toArray 46 (0, 0))) := ⟨(HBA.out.block gt HLT.out).trans HT.out⟩
  have HZA : Aside0 ((w1.alloc (.cells (coC g nilS nilS nilS nilS) 71)).heap.size = w1.heap.size + 1) := ⟨Array.size_push ..⟩
  clear hal
  refine (fixedLengths_calls _).mono ?_
  generalize w1.alloc (.cells (coC g nilS nilS nilS nilS) 71) = W at *
  rintro e w2 ⟨A, c, B, d, rfl, hc, hd, hr1, hr2, hb2⟩
  obtain ⟨gc, hgc⟩ : ∃ gc, gc = w1.heap.size := ⟨_, rfl⟩
  have HGC := Aside0.mk hgc
  have hsm : ∀ k, W.heap.size ≤ k → okS g gc nilS k := fun k hk => ⟨by have := HZA.out; have := HZ1.out; have := HG.out; omega, by have := HZA.out; omega, fun e => by simp [Value.ownBlock] at e⟩
  have HS2 : Aside0 (WS w.heap.size w2 g nilS [] ∧ Kd.R (Kd.int .i64) 3 w2 w.heap.size (okS g gc nilS) (.slice A 288 c) fixLit ∧ Kd.R (Kd.int .i64) 3 w2 w.heap.size (okS g gc nilS) (.slice B 32 d) fixDist ∧ w2.heap[gt]? = some (.cells (tokL bs).toArray 46 (0, 0)) ∧ Below w.heap.size w w2) :=
    ⟨HWA.out.below hb2, Kd.R_lower (Kd.R_mono (Kd.R_bound hr1) (fun k hk => hsm k hk.2.1)) HBA.out.size, Kd.R_lower (Kd.R_mono (Kd.R_bound hr2) (fun k hk => hsm k hk.2.1)) HBA.out.size, (hb2.block gt (blk_lt HTA.out)).trans HTA.out, HBA.out.trans (hb2.mono HBA.out.size)⟩
  have hco : w2.heap[gc]? = some (.cells (coC g nilS nilS nilS nilS) 71 (0, 0)) := by rw [hgc]; exact (hb2.block _ (blk_lt HCA.out)).trans HCA.out
  have HCO := Aside0.mk hco
  have HCD := Aside0.mk (And.intro hc hd)
  rw [← hgc]
  clear hc hd hr1 hr2 hb2 hsm hgc HWA HCA HTA
  obtain ⟨k0, k1, k2, k3, k4⟩ := co5 hco
  have f1 := blk_frozen hco 1
  have f2 := blk_frozen hco 2
  clear hco
  have hne : gc ≠ g ∧ gt ≠ g ∧ gt ≠ gc ∧ w.heap.size ≤ gc := by
    have h1 := HGC.out
    have h2 := HG.out
    have h3 := HZ1.out
    have h4 := HLT.out
    exact ⟨by omega, by omega, by omega, by omega⟩
  have hnv : ∀ k, nilS.ownBlock = some k → k ≠ gc := fun k hk => by simp [Value.ownBlock] at hk
  have HS3 : Aside0 (BoS w.heap.size g gc gt A c B d nilS nilS bs w ((w2.setCell ⟨gc, 1, none⟩ (.slice A 288 c)).setCell ⟨gc, 2, none⟩ (.slice B 32 d)) nilS []) :=
    ⟨blk_put (blk_put HCO.out 1 _ (by rfl)) 2 _ (by rfl), (HS2.out.1.set hne.1 hnv 1 _).set hne.1 hnv 2 _, okS.set (okS.set HS2.out.2.1 1 _) 2 _, okS.set (okS.set HS2.out.2.2.1 1 _) 2 _,
      (Below.heap_setCell _ _ _ gt hne.2.2.1).trans ((Below.heap_setCell _ _ _ gt hne.2.2.1).trans HS2.out.2.2.2.1), ⟨hne.2.1, hne.2.2.1, fun e => by simp [Value.ownBlock] at e⟩, ⟨hne.1, fun e => by simp [Value.ownBlock] at e, hne.2.2.2⟩, (HS2.out.2.2.2.2.setCell hne.2.2.2 _).setCell hne.2.2.2 _⟩
  have HZ3 : Aside0 (w.heap.size ≤ ((w2.setCell ⟨gc, 1, none⟩ (.slice A 288 c)).setCell ⟨gc, 2, none⟩ (.slice B 32 d)).heap.size) := ⟨HS3.out.below.size⟩
  clear hne hnv
  go_wp2_with fail
  clear k0 k1 k2 k3 k4 f1 f2 HS2 HCO
  generalize (w2.setCell ⟨gc, 1, none⟩ (.slice A 288 c)).setCell ⟨gc, 2, none⟩ (.slice B 32 d) = w3 at *
  refine (wbits_ok w.heap.size g nilS [] w3 1 1 HS3.out.ws HZ3.out (by decide) (by decide) (by decide) (by decide)).mono ?_
  rintro e w4 ⟨rfl, v4, hs4, hf4⟩
  have HS4 := Aside0.mk (HS3.out.wf hs4 hf4)
  have HZ4 : Aside0 (w.heap.size ≤ w4.heap.size) := ⟨HS4.out.below.size⟩
  clear hs4 hf4 HS3 HZ3
  obtain ⟨k0, k1, k2, k3, k4⟩ := co5 HS4.out.co
  go_wp2_with fail
  refine (wbits_ok w.heap.size g v4 ([] ++ bitsN 1 1) w4 1 2 HS4.out.ws HZ4.out (by decide) (by decide) (by decide) (by decide)).mono ?_
  rintro e w5 ⟨rfl, v5, hs5, hf5⟩
  have HS5 := Aside0.mk (HS4.out.wf hs5 hf5)
  rw [three_bits] at HS5
  have HZ5 : Aside0 (w.heap.size ≤ w5.heap.size) := ⟨HS5.out.below.size⟩
  clear hs5 hf5 HS4 HZ4 k0 k1 k2 k3 k4
  have HBD := Aside0.mk (body_calls w.heap.size g gc gt A c B d bs w5 v5 (bitsN 3 3) ⟨HS5.out.co, HS5.out.ws, HS5.out.lit, HS5.out.dist, HS5.out.tok, HS5.out.okt, HS5.out.okc, Below.refl _ _⟩ HZ5.out HCD.out.1 HCD.out.2 HIB.out HL.out (by decide))
  go_wp2_with fail
  refine HBD.out.mono ?_
  rintro e w6 ⟨u, rfl, hu, hb6⟩
  have HU := Aside0.mk hu
  have HB6 : Aside0 (Below w.heap.size w w6) := ⟨HS5.out.below.trans hb6⟩
  clear hu hb6
  go_wp2
  go_ret
  exact ⟨u, rfl, HU.out, HB6.out⟩
end Go.Proofs.Ytjbckpfhenogiaa.Hw
/- flate.Fixed, walked. -/
namespace Go.Proofs.Ytjbckpfhenogiaa.Hw
open Go.RowKit Go.Proofs.YtjbckpfhenogiaaW.PrintWords Go.Proofs.YtjbckpfhenogiaaW.PrintLast Go.Proofs.YtjbckpfhenogiaaW.PrintMore Go.Proofs.Ytjbckpfhenogiaa.PH
set_option linter.unusedVariables false
set_option linter.unusedSimpArgs false
theorem tokL_set : ∀ (l : List Int) (k : Nat) (x : Int), (tokL l).set (k * 2) (.int .i64 x) = tokL (l.set k x) := by
  intro l
  induction l with
  | nil => intro k x; simp [tokL]
  | cons b t ih =>
    intro k x
    have e : ∀ (b : Int) (t : List Int), tokL (b :: t) = .int .i64 b :: .int .i64 0 :: tokL t := fun _ _ => rfl
    cases k with
    | zero => rfl
    | succ k =>
      rw [List.set_cons_succ, e, e, show (k + 1) * 2 = k * 2 + 1 + 1 by omega, List.set_cons_succ, List.set_cons_succ, ih]
/-- Tokens of which a beginning is filled. -/
def repB (bs : List Int) (k : Nat) : List Int := bs.take k ++ List.replicate (bs.length - k) 0
theorem repB_set (bs : List Int) (k : Nat) (h : k < bs.length) : (repB bs k).set k (bs.getD k 0) = repB bs (k + 1) := by
  unfold repB
  have h1 : (bs.take k).length = k := by rw [List.length_take]; omega
  rw [List.set_append_right _ _ (by omega), h1, Nat.sub_self, show bs.length - k = (bs.length - (k + 1)) + 1 by omega, List.replicate_succ, List.set_cons_zero, List.take_succ_eq_append_getElem h, List.append_assoc]
  congr 1
  rw [List.getD_eq_getElem?_getD, List.getElem?_eq_getElem h]; rfl
theorem tok_put (bs : List Int) (k : Nat) (h : k < bs.length) : (tokL (repB bs k)).toArray.setIfInBounds (k * 2) (.int .i64 (bs.getD k 0)) = (tokL (repB bs (k + 1))).toArray := by
  rw [List.setIfInBounds_toArray, tokL_set, repB_set bs k h]
theorem tok_made (n : Nat) : madeCells #[Value.int .i64 0, Value.int .i64 0] (n * 2) = (tokL (List.replicate n 0)).toArray := by
  apply Array.ext'
  have hl : (tokL (List.replicate n 0)) = List.replicate (n * 2) (Value.int .i64 0) := by
    induction n with
    | zero => rfl
    | succ n ih =>
      rw [List.replicate_succ, show (n + 1) * 2 = n * 2 + 1 + 1 by omega, List.replicate_succ, List.replicate_succ, ← ih]; rfl
  rw [List.toList_toArray, hl]
  apply List.ext_getElem
  · simp [madeCells]
  · intro i h1 h2
    have : i % 2 = 0 ∨ i % 2 = 1 := by omega
    rcases this with e | e <;> simp [madeCells, e]
set_option maxRecDepth 100000 in
set_option maxHeartbeats 4000000 in
theorem fixedB_calls (A0 : Option Addr) (c0 : Nat) (bs : List Int) (w : World) (hr0 : Kd.C (Kd.int .u8) w A0 bs.length bs) (hc0 : bs.length ≤ c0) (hb : IsBytes bs) (hl : bs.length ≤ 1048576) :
    Calls Try.prog 12 #[.slice A0 bs.length c0] w fun e w' => ∃ u, e = .returned u ∧ Kd.R (Kd.int .u8) 5 w' w.heap.size (fun _ => True) u (fixedL bs) ∧ Below w.heap.size w w' := by
  have HR := Aside0.mk hr0
  have HIB := Aside0.mk hb
  have HL := Aside0.mk hl
  obtain ⟨i0, hi, hz, hs2, hby⟩ : ∃ i0 : TypeInfo, Try.prog.info? 46 = some i0 ∧ i0.zero = some (.agg #[.int .i64 0, .int .i64 0]) ∧ i0.size = 2 ∧ i0.bytes = 16 := by
    have h : (Try.prog.info? 46).map (fun i => (i.zero, i.size, i.bytes)) = some (some (.agg #[.int .i64 0, .int .i64 0]), 2, 16) := by kernel_rfl
    obtain ⟨i0, hi, hh⟩ := Option.map_eq_some_iff.1 h
    simp only [Prod.mk.injEq] at hh
    exact ⟨i0, hi, hh.1, hh.2.1, hh.2.2⟩
  have hmk : ∀ W : World, (Instr.makeSlice 44 (.int .i64 (bs.length : Int)) (.int .i64 (bs.length : Int))).run Try.prog W = .ok (.slice (some ⟨W.heap.size, 0, none⟩) bs.length bs.length) (W.alloc (.cells (tokL (repB bs 0)).toArray 46)) := fun W => by
    have h := run_make (P := Try.prog) W 44 46 i0 _ Try.underlying44 hi hz .i64 .i64 (bs.length : Int) (bs.length : Int) (by omega) (Int.le_refl _) (by rw [hby]; omega) (by omega)
    rw [hs2, Int.toNat_natCast] at h
    rw [h, show (Value.agg #[Value.int .i64 0, Value.int .i64 0]).cells = #[Value.int .i64 0, Value.int .i64 0] from rfl, tok_made]
    simp [repB]
  clear hi hz hs2 hby hr0 hb hl
  have HS0 : Aside0 ((w.alloc (.cells (tokL (repB bs 0)).toArray 46)).heap[w.heap.size]? = some (.cells (tokL (repB bs 0)).toArray 46 (0, 0)) ∧ Below w.heap.size w (w.alloc (.cells (tokL (repB bs 0)).toArray 46))) := ⟨heap_alloc_new w _, (Below.refl _ _).alloc (Nat.le_refl _) _⟩
  go_enter Try.func12, Try.ntmps12
  go_wp2
  clear hmk
  go_loopw [11] (fun i wr => ∃ k : Nat, k ≤ bs.length ∧ i = .int .i64 k ∧ Aside0 (wr.heap[w.heap.size]? = some (.cells (tokL (repB bs k)).toArray 46 (0, 0)) ∧ Below w.heap.size w wr)) (fun i _ => bs.length - (intOf i).toNat)
  case atStart => exact ⟨0, Nat.zero_le _, rfl, HS0⟩
  case round =>
    obtain ⟨k, hk, rfl, HS⟩ := hrel
    have hl := HL.out
    by_cases hlt : k < bs.length
    · obtain ⟨ad, rfl, hx⟩ := Kd.at_int (Kd.C_below HR.out HS.out.2) (k : Int) (by omega) (by omega)
      have hbb := byte_range HIB.out k
      have HP := Aside0.mk (tok_put bs k hlt)
      obtain ⟨b, hbn⟩ : ∃ b : Nat, bs.getD k 0 = (b : Int) := ⟨(bs.getD k 0).toNat, by omega⟩
      rw [rd_nat' bs k, hbn, Int.toNat_natCast] at hx
      rw [hbn] at hbb HP
      have hb255 : (b : Int) ≤ 255 := hbb.2
      have HZ : Aside0 (∃ u, wr.cell? ⟨w.heap.size, k * 2, none⟩ = some u) := ⟨⟨_, (blk_cell HS.out.1 _).trans (by have h := (tokL_at (repB bs k) k (by unfold repB; rw [List.length_append, List.length_take, List.length_replicate]; omega)).1; rw [Nat.mul_comm] at h; simpa using h)⟩⟩
      obtain ⟨u0, z0⟩ := HZ.out
      have fz := blk_frozen HS.out.1 (k * 2)
      clear hbn hbb
      go_wp2
      have HS2 : Aside0 ((wr.setCell ⟨w.heap.size, k * 2, none⟩ (.int .i64 (b : Int))).heap[w.heap.size]? = some (.cells (tokL (repB bs (k + 1))).toArray 46 (0, 0)) ∧ Below w.heap.size w (wr.setCell ⟨w.heap.size, k * 2, none⟩ (.int .i64 (b : Int)))) := ⟨blk_put HS.out.1 _ _ HP.out, HS.out.2.setCell (Nat.le_refl _) _⟩
      clear HS hx z0 fz HZ
      go_roundw
      case rel => exact ⟨k + 1, by omega, by go_num, HS2⟩
      case measure => simp only [intOf]; omega
    · obtain rfl : k = bs.length := by omega
      have HT : Aside0 (repB bs bs.length = bs) := ⟨by simp [repB]⟩
      rw [HT.out] at HS
      have HF := Aside0.mk (fixed_calls w.heap.size bs wr HS.out.1 HIB.out HL.out)
      go_wp2_with fail
      refine HF.out.mono ?_
      rintro e w5 ⟨u, rfl, hu, hb5⟩
      have HU := Aside0.mk (Kd.R_lower hu HS.out.2.size)
      have HB5 : Aside0 (Below w.heap.size w w5) := ⟨HS.out.2.trans (hb5.mono HS.out.2.size)⟩
      clear hu hb5
      go_wp2
      go_ret
      exact ⟨u, rfl, HU.out, HB5.out⟩
end Go.Proofs.Ytjbckpfhenogiaa.Hw
