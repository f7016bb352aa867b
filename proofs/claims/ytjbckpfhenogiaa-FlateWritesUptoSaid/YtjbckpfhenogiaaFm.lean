import Derived.Test.YtjbckpfhenogiaaOwnKit
import Derived.Test.YtjbckpfhenogiaaFe
import Derived.Deep.QuietTactic
import Derived.BigQuiet
/- An inflater's bits and its stored block, walked. -/
namespace Go.Proofs.Ytjbckpfhenogiaa.Hw
open Go.RowKit Go.Proofs.YtjbckpfhenogiaaW.PrintWords Go.Proofs.YtjbckpfhenogiaaW.PrintLast Go.Proofs.YtjbckpfhenogiaaW.PrintMore Go.Proofs.Ytjbckpfhenogiaa.PH
set_option linter.unusedVariables false
set_option linter.unusedSimpArgs false
/-- An inflater at block gi, its reader at block gr. -/
structure IfS (base gi gr : Nat) (most : Int) (out : Value) (bs : List Int) (w0 W : World) (v : Value) (at_ : Nat) : Prop where
  blk : W.heap[gi]? = some (.cells #[.pointer (some ⟨gr, 0, none⟩), .int .i64 most, out] 56 (0, 0))
  rd : RdS base W gr v bs at_
  ne : gi ≠ gr
  nev : ∀ j, v.ownBlock = some j → j ≠ gi
  low : base ≤ gr
  below : Below base w0 W
section
variable {base gi gr : Nat} {most : Int} {out : Value} {bs : List Int} {w0 W : World} {v : Value} {at_ : Nat}
theorem IfS.cells (h : IfS base gi gr most out bs w0 W v at_) : W.cell? ⟨gi, 0, none⟩ = some (.pointer (some ⟨gr, 0, none⟩)) ∧ W.cell? ⟨gi, 1, none⟩ = some (.int .i64 most) ∧ W.cell? ⟨gi, 2, none⟩ = some out :=
  ⟨(blk_cell h.blk 0).trans rfl, (blk_cell h.blk 1).trans rfl, (blk_cell h.blk 2).trans rfl⟩
theorem IfS.step (h : IfS base gi gr most out bs w0 W v at_) (k n : Nat) : IfS base gi gr most out bs w0 ((W.drewN k).setCell ⟨gr, 2, none⟩ (.int .i64 ((n : Nat) : Int))) v n :=
  ⟨(Below.heap_setCell (W.drewN k) _ _ gi h.ne).trans h.blk, (h.rd.drewN k).set n, h.ne, h.nev, h.low, (pw_below_drewN h.below k).setCell h.low _⟩
end
theorem IfS.drewN {base gi gr : Nat} {most : Int} {out : Value} {bs : List Int} {w0 W : World} {v : Value} {at_ : Nat} (h : IfS base gi gr most out bs w0 W v at_) (k : Nat) : IfS base gi gr most out bs w0 (W.drewN k) v at_ := ⟨h.blk, h.rd.drewN k, h.ne, h.nev, h.low, pw_below_drewN h.below k⟩
theorem IfS.go {base gi gr : Nat} {most : Int} {out : Value} {bs : List Int} {w0 W W1 : World} {v : Value} {at_ : Nat} (h : IfS base gi gr most out bs w0 W v at_) (hB : base ≤ W.heap.size) (hb : Below W.heap.size W W1) : IfS base gi gr most out bs w0 W1 v at_ := ⟨(hb.block _ (blk_lt h.blk)).trans h.blk, h.rd.below hb, h.ne, h.nev, h.low, h.below.trans (hb.mono hB)⟩
theorem IfS.out {base gi gr : Nat} {most : Int} {out : Value} {bs : List Int} {w0 W : World} {v : Value} {at_ : Nat} (h : IfS base gi gr most out bs w0 W v at_) (hg : base ≤ gi) (x : Value) : IfS base gi gr most x bs w0 (W.setCell ⟨gi, 2, none⟩ x) v at_ :=
  ⟨blk_put h.blk 2 x (by rfl), h.rd.kept (S := fun k => k = gi) ⟨by simp [World.setCell], fun k _ hk => Below.heap_setCell W _ x k hk⟩ (fun e => h.ne e.symm) h.nev, h.ne, h.nev, h.low, h.below.setCell hg _⟩
theorem below_grow0 {W w1 : World} (hg : W.grownBy w1 none) : Below W.heap.size W w1 := ⟨hg.os, hg.tape, hg.output, hg.size, fun k hk => hg.block k hk (by simp)⟩
set_option maxRecDepth 100000 in
set_option maxHeartbeats 2000000 in
theorem xbits_calls (base gi gr : Nat) (most : Int) (out : Value) (bs : List Int) (w0 w : World) (v : Value) (at_ n : Nat) (hS : IfS base gi gr most out bs w0 w v at_) (hb : IsBytes bs) (hl : bs.length ≤ 1048576) (ha : at_ + n ≤ 8 * bs.length) (hn : n ≤ 16) :
    Calls Try.prog 47 #[.pointer (some ⟨gi, 0, none⟩), .int .i64 (n : Int)] w fun e w' => e = .returned (.tuple #[.int .i64 (nbits bs at_ n : Nat), .int .i64 0]) ∧ IfS base gi gr most out bs w0 w' v (at_ + n) := by
  have HS := Aside0.mk hS
  have HR := Aside0.mk (rd_bits_ok base gr v bs at_ n w hS.rd hb (by omega) ha (by omega))
  have hnb : nbits bs at_ n < 65536 := Nat.lt_of_lt_of_le (nbits_lt bs at_ n) (Nat.le_trans (Nat.pow_le_pow_right (by decide) hn) (by decide))
  obtain ⟨k0, k1, k2⟩ := hS.cells
  clear hS hb hl ha
  generalize nbits bs at_ n = z at *
  go_enter Try.func47, Try.ntmps47
  go_wp2_with fail
  refine HR.out.mono ?_
  rintro e w1 ⟨rfl, k, rfl⟩
  have HS1 := Aside0.mk (HS.out.step k (at_ + n))
  clear HR HS k0 k1 k2
  generalize (w.drewN k).setCell ⟨gr, 2, none⟩ (.int .i64 ((at_ + n : Nat) : Int)) = W at *
  go_wp2
  go_ret2
  exact ⟨rfl, HS1.out⟩
theorem xor_both (n : Nat) (h : n ≤ 65535) : bits .xor .i64 (n : Int) ((65535 - n : Nat) : Int) = 65535 := by
  have e : bits .xor .i64 (n : Int) ((65535 - n : Nat) : Int) = IntKind.i64.wrap (((n ^^^ (65535 - n) : Nat)) : Int) := by
    have ha' : n % 2 ^ IntKind.i64.bits = n := Nat.mod_eq_of_lt (Nat.lt_of_le_of_lt h (by decide))
    have hb' : (65535 - n) % 2 ^ IntKind.i64.bits = 65535 - n := Nat.mod_eq_of_lt (Nat.lt_of_le_of_lt (Nat.sub_le _ _) (by decide))
    simp only [bits, BitVec.ofInt_natCast, BitVec.toNat_xor, BitVec.toNat_ofNat, ha', hb']
  rw [e, ← xor_ones n h, ← Nat.xor_assoc, Nat.xor_self, Nat.zero_xor]
  exact IntWalk.i64_in _ (by decide)
set_option maxRecDepth 100000 in
set_option maxHeartbeats 4000000 in
theorem xstored_first (base gi gr : Nat) (most : Int) (bs : List Int) (w0 w : World) (v : Value) (at_ p n : Nat) (hS : IfS base gi gr most nilS bs w0 w v at_) (hB : base ≤ w.heap.size) (hgi : base ≤ gi) (hb : IsBytes bs) (hl : bs.length ≤ 1048576) (hp : p = (at_ + 7) / 8) (h1 : nbits bs (8 * p) 16 = n) (h2 : nbits bs (8 * p + 16) 16 = 65535 - n) (hn : n ≤ 65535) (hm : (n : Int) ≤ most) (hm2 : most ≤ 1048576) (hfit : p + 4 + n ≤ bs.length) :
    Calls Try.prog 48 #[.pointer (some ⟨gi, 0, none⟩)] w fun e w' => e = .returned (.int .i64 0) ∧ ∃ A c, IfS base gi gr most (.slice A n c) bs w0 w' v (8 * (p + 4 + n)) ∧ Kd.R (Kd.int .u8) 5 w' base (fun k => k ≠ gi ∧ k ≠ gr) (.slice A n c) ((bs.drop (p + 4)).take n) := by
  have HS := Aside0.mk hS
  have HGI := Aside0.mk hgi
  clear hgi
  have HB := Aside0.mk hB
  have HIB := Aside0.mk hb
  have HL := Aside0.mk hl
  have HP := Aside0.mk hp
  have H1 := Aside0.mk h1
  have H2 := Aside0.mk h2
  have HFIT := Aside0.mk hfit
  obtain ⟨k0, k1, k2⟩ := hS.cells
  clear hS hB hb hl hp h1 h2 hfit
  go_enter Try.func48, Try.ntmps48
  go_wp2_with fail
  refine (rd_align base gr v bs at_ w HS.out.rd (by have := HP.out; have := HFIT.out; have := HL.out; omega)).mono ?_
  rintro e w1 ⟨rfl, k, rfl⟩
  have HS1 : Aside0 (IfS base gi gr most nilS bs w0 ((w.drewN k).setCell ⟨gr, 2, none⟩ (.int .i64 ((8 * ((at_ + 7) / 8) : Nat) : Int))) v (8 * p)) := ⟨by rw [HP.out]; exact HS.out.step k _⟩
  clear HS k0 k1 k2
  generalize (w.drewN k).setCell ⟨gr, 2, none⟩ (.int .i64 ((8 * ((at_ + 7) / 8) : Nat) : Int)) = w1 at *
  go_wp2_with fail
  have hx1 := xbits_calls base gi gr most nilS bs w0 w1 v (8 * p) 16 HS1.out HIB.out HL.out (by have := HFIT.out; omega) (by decide)
  rw [H1.out] at hx1
  refine hx1.mono ?_
  rintro e w2 ⟨rfl, hs2⟩
  have HS2 := Aside0.mk hs2
  clear hs2 hx1 HS1
  go_wp2_with fail
  have hx1 := xbits_calls base gi gr most nilS bs w0 w2 v (8 * p + 16) 16 HS2.out HIB.out HL.out (by have := HFIT.out; omega) (by decide)
  rw [H2.out] at hx1
  refine hx1.mono ?_
  rintro e w3 ⟨rfl, hs3⟩
  have HS3 := Aside0.mk hs3
  clear hs3 hx1 HS2
  have hxor := xor_both n hn
  obtain ⟨k0, k1, k2⟩ := HS3.out.cells
  have t1 : decide ((most : Int) < (n : Int)) = false := decide_eq_false (by omega)
  have t2 : decide (most - 0 < (n : Int)) = false := decide_eq_false (by omega)
  go_wp2
  go_quiet (fail)
  have HSQ := Aside0.mk (HS3.out.drewN nq)
  have HBQ : Aside0 (base ≤ (w3.drewN nq).heap.size) := ⟨Nat.le_trans HSQ.out.low (Nat.le_of_lt (blk_lt HSQ.out.rd.1))⟩
  clear HS3 k0 k1 k2 t1 t2 hxor
  generalize w3.drewN nq = W3 at *
  obtain ⟨k0, k1, k2⟩ := HSQ.out.cells
  have e4 : (8 * p + 16 + 16 + 7) / 8 = p + 4 := by omega
  have hby := rd_bytes_ok base gr v bs (8 * p + 16 + 16) n W3 HSQ.out.rd (by have := HL.out; omega) (by rw [e4]; have := HFIT.out; omega)
  rw [e4] at hby
  have HBY := Aside0.mk hby
  clear hby e4
  go_wp2_with fail
  refine HBY.out.mono ?_
  rintro e w4 ⟨u, w5, rfl, ⟨k5, rfl⟩, hu, hb4⟩
  have HS4 : Aside0 (IfS base gi gr most nilS bs w0 w4 v (8 * (p + 4 + n))) := ⟨(HSQ.out.step k5 (8 * (p + 4 + n))).go (by simp [World.setCell]; exact HBQ.out) hb4⟩
  have hz4 : W3.heap.size ≤ w4.heap.size := by have := hb4.size; simpa [World.setCell] using this
  have HZ4 : Aside0 (base ≤ w4.heap.size) := ⟨Nat.le_trans HBQ.out hz4⟩
  have hlen : ((bs.drop (p + 4)).take n).length = n := by rw [List.length_take, List.length_drop]; have := HFIT.out; omega
  obtain ⟨A, c, rfl, hc, hC⟩ := Kd.R_reads hu
  rw [hlen] at hc hC ⊢
  have HC4 := Aside0.mk hC
  have HLEN := Aside0.mk hlen
  have HFR : Aside0 (∀ k, w4.heap.size ≤ k → k ≠ gi ∧ k ≠ gr) := ⟨fun k hk => by have h1 := blk_lt HS4.out.blk; have h2 := blk_lt HS4.out.rd.1; exact ⟨by omega, by omega⟩⟩
  have HO4 : Aside0 (Kd.R (Kd.int .u8) 5 w4 base (fun k => k ≠ gi ∧ k ≠ gr) nilS []) := ⟨Kd.R_nil _ _ _ _ _⟩
  clear hu hb4 hz4 hlen hc hC HSQ HBY HBQ k0 k1 k2
  obtain ⟨k0, k1, k2⟩ := HS4.out.cells
  have f2 := blk_frozen HS4.out.blk 2
  go_wp2_with (refine Kd.R_append_row (Value.int .u8) 0 (w0 := w4) base rfl _ _ 22 5 (.int .u8 0) 1 rfl Try.underlying22 infoB8 rfl (by decide) nilS [] ((bs.drop (p + 4)).take n) A n c (fun k => k ≠ gi ∧ k ≠ gr) rfl rfl HFR.out HO4.out HC4.out (Below.refl _ _) HZ4.out (by simp; omega) ?_; intro v6 w6 hv6 hb6 hg6 hat6; rw [List.nil_append] at hv6; obtain ⟨A6, c6, rfl, hc6, _⟩ := Kd.R_reads hv6; rw [HLEN.out] at hv6 hc6 ⊢; have HV6 := Aside0.mk hv6; have HB6 := Aside0.mk (below_grow0 hg6); obtain ⟨k0, k1, k2⟩ := (HS4.out.go HZ4.out (below_grow0 hg6)).cells; have f2 := blk_frozen (HS4.out.go HZ4.out (below_grow0 hg6)).blk 2; clear hv6 hb6 hg6 hat6 hc6)
  clear k0 k1 k2 f2
  go_ret
  exact ⟨rfl, A6, c6, (HS4.out.go HZ4.out HB6.out).out HGI.out _, Kd.R_far HV6.out (fun k hk => hk.1) _⟩
end Go.Proofs.Ytjbckpfhenogiaa.Hw
/- An inflater's stored block, its head and all, walked. -/
namespace Go.Proofs.Ytjbckpfhenogiaa.Hw
open Go.RowKit Go.Proofs.YtjbckpfhenogiaaW.PrintWords Go.Proofs.YtjbckpfhenogiaaW.PrintLast Go.Proofs.YtjbckpfhenogiaaW.PrintMore Go.Proofs.Ytjbckpfhenogiaa.PH
set_option linter.unusedVariables false
set_option linter.unusedSimpArgs false
set_option maxRecDepth 100000 in
set_option maxHeartbeats 4000000 in
theorem xblock_first (base gi gr : Nat) (most : Int) (bs : List Int) (w0 w : World) (v : Value) (at_ p n : Nat) (hS : IfS base gi gr most nilS bs w0 w v at_) (hB : base ≤ w.heap.size) (hgi : base ≤ gi) (hb : IsBytes bs) (hl : bs.length ≤ 1048576) (hfin : nbits bs at_ 1 = 1) (hkind : nbits bs (at_ + 1) 2 = 0) (hp : p = (at_ + 1 + 2 + 7) / 8) (h1 : nbits bs (8 * p) 16 = n) (h2 : nbits bs (8 * p + 16) 16 = 65535 - n) (hn : n ≤ 65535) (hm : (n : Int) ≤ most) (hm2 : most ≤ 1048576) (hfit : p + 4 + n ≤ bs.length) :
    Calls Try.prog 30 #[.pointer (some ⟨gi, 0, none⟩)] w fun e w' => e = .returned (.tuple #[.int .i64 0, .bool true, .int .i64 0]) ∧ ∃ A c, IfS base gi gr most (.slice A n c) bs w0 w' v (8 * (p + 4 + n)) ∧ Kd.R (Kd.int .u8) 5 w' base (fun k => k ≠ gi ∧ k ≠ gr) (.slice A n c) ((bs.drop (p + 4)).take n) := by
  have hx0 := xbits_calls base gi gr most nilS bs w0 w v at_ 1 hS hb hl (by omega) (by decide)
  rw [hfin] at hx0
  have HX0 := Aside0.mk hx0
  have HX1 : Aside0 (∀ W, IfS base gi gr most nilS bs w0 W v (at_ + 1) → Calls Try.prog 47 #[.pointer (some ⟨gi, 0, none⟩), .int .i64 ((2 : Nat) : Int)] W fun e w' => e = .returned (.tuple #[.int .i64 ((0 : Nat) : Int), .int .i64 0]) ∧ IfS base gi gr most nilS bs w0 w' v (at_ + 1 + 2)) := ⟨fun W hs => by
    have h := xbits_calls base gi gr most nilS bs w0 W v (at_ + 1) 2 hs hb hl (by omega) (by decide)
    rw [hkind] at h
    exact h⟩
  have HX2 : Aside0 (∀ W, IfS base gi gr most nilS bs w0 W v (at_ + 1 + 2) → Calls Try.prog 48 #[.pointer (some ⟨gi, 0, none⟩)] W fun e w' => e = .returned (.int .i64 0) ∧ ∃ A c, IfS base gi gr most (.slice A n c) bs w0 w' v (8 * (p + 4 + n)) ∧ Kd.R (Kd.int .u8) 5 w' base (fun k => k ≠ gi ∧ k ≠ gr) (.slice A n c) ((bs.drop (p + 4)).take n)) := ⟨fun W hs =>
    xstored_first base gi gr most bs w0 W v (at_ + 1 + 2) p n hs (Nat.le_trans hs.low (Nat.le_of_lt (blk_lt hs.rd.1))) hgi hb hl hp h1 h2 hn hm hm2 hfit⟩
  clear hS hB hgi hb hl hfin hkind hp h1 h2 hn hm hm2 hfit hx0
  go_enter Try.func30, Try.ntmps30
  go_wp2_with fail
  refine HX0.out.mono ?_
  rintro e w1 ⟨rfl, hs1⟩
  have HS1 := Aside0.mk hs1
  clear hs1 HX0
  go_wp2_with fail
  refine (HX1.out w1 HS1.out).mono ?_
  rintro e w2 ⟨rfl, hs2⟩
  have HS2 := Aside0.mk hs2
  clear hs2 HX1 HS1
  go_wp2_with fail
  refine (HX2.out w2 HS2.out).mono ?_
  rintro e w3 ⟨rfl, A, c, hs3, hr3⟩
  have HS3 := Aside0.mk hs3
  have HR3 := Aside0.mk hr3
  clear hs3 hr3 HX2 HS2
  go_wp2
  go_ret3
  exact ⟨rfl, A, c, HS3.out, HR3.out⟩
end Go.Proofs.Ytjbckpfhenogiaa.Hw
/- flate.Inflate of one stored block, walked. -/
namespace Go.Proofs.Ytjbckpfhenogiaa.Hw
open Go.RowKit Go.Proofs.YtjbckpfhenogiaaW.PrintWords Go.Proofs.YtjbckpfhenogiaaW.PrintLast Go.Proofs.YtjbckpfhenogiaaW.PrintMore Go.Proofs.Ytjbckpfhenogiaa.PH
set_option linter.unusedVariables false
set_option linter.unusedSimpArgs false
structure InS (base gi gr : Nat) (most : Int) (A : Option Addr) (n c : Nat) (bs : List Int) (w0 W : World) (v : Value) (at_ : Nat) (l : List Int) : Prop where
  s : IfS base gi gr most (.slice A n c) bs w0 W v at_
  row : Kd.C (Kd.int .u8) W A n l
section
variable {base gi gr : Nat} {most : Int} {A : Option Addr} {n c : Nat} {bs : List Int} {w0 W W1 : World} {v : Value} {at_ : Nat} {l : List Int}
theorem InS.cells (h : InS base gi gr most A n c bs w0 W v at_ l) : W.cell? ⟨gi, 0, none⟩ = some (.pointer (some ⟨gr, 0, none⟩)) ∧ W.cell? ⟨gi, 2, none⟩ = some (.slice A n c) ∧ Aside0 (InS base gi gr most A n c bs w0 W v at_ l) := ⟨h.s.cells.1, h.s.cells.2.2, ⟨h⟩⟩
theorem InS.drewN (h : InS base gi gr most A n c bs w0 W v at_ l) (k : Nat) : InS base gi gr most A n c bs w0 (W.drewN k) v at_ l := ⟨h.s.drewN k, Kd.C_drewN h.row k⟩
theorem InS.drew (h : InS base gi gr most A n c bs w0 W v at_ l) : InS base gi gr most A n c bs w0 W.drew v at_ l := h.drewN 1
theorem InS.big (h : InS base gi gr most A n c bs w0 W v at_ l) : base ≤ W.heap.size := Nat.le_trans h.s.low (Nat.le_of_lt (blk_lt h.s.rd.1))
theorem InS.go (h : InS base gi gr most A n c bs w0 W v at_ l) (hb : Below W.heap.size W W1) : InS base gi gr most A n c bs w0 W1 v at_ l := ⟨h.s.go h.big hb, Kd.C_below h.row hb⟩
end
set_option maxRecDepth 100000 in
set_option maxHeartbeats 4000000 in
theorem xinflate_first (A0 : Option Addr) (c0 : Nat) (most : Int) (bs : List Int) (w : World) (n : Nat) (hr0 : Kd.C (Kd.int .u8) w A0 bs.length bs) (hc0 : bs.length ≤ c0) (hb : IsBytes bs) (hl : bs.length ≤ 1048576) (hfin : nbits bs 0 1 = 1) (hkind : nbits bs 1 2 = 0) (h1 : nbits bs 8 16 = n) (h2 : nbits bs 24 16 = 65535 - n) (hn : n ≤ 65535) (hm : (n : Int) ≤ most) (hm2 : most ≤ 1048576) (hfit : 5 + n ≤ bs.length) :
    Calls Try.prog 15 #[.slice A0 bs.length c0, .int .i64 most] w fun e w' => ∃ u, e = .returned (.tuple #[u, .int .i64 ((5 + n : Nat) : Int), .int .i64 0]) ∧ Kd.R (Kd.int .u8) 5 w' w.heap.size (fun _ => True) u ((bs.drop 5).take n) ∧ Below w.heap.size w w' := by
  have HNR := Aside0.mk (newRd_calls A0 c0 bs w hr0 hc0 (by omega))
  have HX : Aside0 (∀ gi gr v W, IfS w.heap.size gi gr most nilS bs w W v 0 → w.heap.size ≤ gi → Calls Try.prog 30 #[.pointer (some ⟨gi, 0, none⟩)] W fun e w' => e = .returned (.tuple #[.int .i64 0, .bool true, .int .i64 0]) ∧ ∃ A c, IfS w.heap.size gi gr most (.slice A n c) bs w w' v (8 * (1 + 4 + n)) ∧ Kd.R (Kd.int .u8) 5 w' w.heap.size (fun k => k ≠ gi ∧ k ≠ gr) (.slice A n c) ((bs.drop (1 + 4)).take n)) := ⟨fun gi gr v W hs hgi =>
    xblock_first w.heap.size gi gr most bs w W v 0 1 n hs (Nat.le_trans hs.low (Nat.le_of_lt (blk_lt hs.rd.1))) hgi hb hl hfin hkind (by decide) h1 h2 hn hm hm2 (by omega)⟩
  have HFIT := Aside0.mk hfit
  have HL := Aside0.mk hl
  have t1 : decide (most < 0) = false := decide_eq_false (by omega)
  clear hr0 hc0 hb hl hfin hkind h1 h2 hn hm hm2 hfit
  go_enter Try.func15, Try.ntmps15
  go_wp2_with fail
  refine HNR.out.mono ?_
  rintro e w1 ⟨gr, v, rfl, hrd, hbw⟩
  have HRD := Aside0.mk hrd
  have HB1 := Aside0.mk hbw
  clear hrd hbw HNR
  go_wp2_with fail
  obtain ⟨gi, hgi⟩ : ∃ gi, gi = w1.heap.size := ⟨_, rfl⟩
  have hal : Below w1.heap.size w1 (w1.alloc (.cells #[.pointer (some ⟨gr, 0, none⟩), .int .i64 most, nilS] 56)) := (Below.refl _ _).alloc (Nat.le_refl _) _
  have HGI : Aside0 (w.heap.size ≤ gi) := ⟨by rw [hgi]; exact HB1.out.size⟩
  have HS : Aside0 (IfS w.heap.size gi gr most nilS bs w (w1.alloc (.cells #[.pointer (some ⟨gr, 0, none⟩), .int .i64 most, nilS] 56)) v 0) :=
    ⟨by rw [hgi]; exact heap_alloc_new w1 _, HRD.out.below hal, by have := HRD.out.lt.1; omega, fun j hj => by have := HRD.out.lt.2 j hj; omega, HRD.out.2.1, HB1.out.trans (hal.mono HB1.out.size)⟩
  rw [← hgi]
  clear hal hgi HRD HB1
  generalize w1.alloc (.cells #[.pointer (some ⟨gr, 0, none⟩), .int .i64 most, nilS] 56) = W at *
  refine wp_loop_rounds 2 ?_
  rw [rounds_succ]
  go_wp2_with fail
  refine (HX.out gi gr v W HS.out HGI.out).mono ?_
  rintro e w2 ⟨rfl, A, c, hs2, hr2⟩
  have HS2 := Aside0.mk hs2
  have HR2 := Aside0.mk hr2
  clear hs2 hr2 HS HX
  go_wp2_with fail
  rw [rounds_succ]
  obtain ⟨k0, k1, k2⟩ := HS2.out.cells
  go_wp2_with fail
  clear k0 k1 k2
  have HLN : Aside0 (((bs.drop (1 + 4)).take n).length = n) := ⟨by rw [List.length_take, List.length_drop]; have := HFIT.out; omega⟩
  have HJ : Aside0 (InS w.heap.size gi gr most A n c bs w w2 v (8 * (1 + 4 + n)) ((bs.drop (1 + 4)).take n)) := ⟨HS2.out, by have h := (Kd.R_reads' HR2.out).2.2; rw [HLN.out] at h; exact h⟩
  have HNC : Aside0 (n ≤ c) := ⟨(Kd.R_reads' HR2.out).2.1⟩
  have HCL : Aside0 (∀ W, InS w.heap.size gi gr most A n c bs w W v (8 * (1 + 4 + n)) ((bs.drop (1 + 4)).take n) → Calls Try.prog 31 #[.slice A n c] W fun e w' => ∃ u, e = .returned u ∧ Kd.R (Kd.int .u8) 5 w' W.heap.size (fun _ => True) u ((bs.drop (1 + 4)).take n) ∧ Below W.heap.size W w') := ⟨fun W h => by
    have hh := clone_calls A c ((bs.drop (1 + 4)).take n) W (by rw [HLN.out]; exact h.row) (by rw [HLN.out]; exact HNC.out) (by rw [HLN.out]; have := HFIT.out; have := HL.out; omega)
    rw [HLN.out] at hh
    exact hh⟩
  have HUS : Aside0 (∀ W, InS w.heap.size gi gr most A n c bs w W v (8 * (1 + 4 + n)) ((bs.drop (1 + 4)).take n) → Calls Try.prog 32 #[.pointer (some ⟨gr, 0, none⟩)] W fun e w' => e = .returned (.int .i64 ((5 + n : Nat) : Int)) ∧ Drawn0 W w') := ⟨fun W h => by
    have hh := rd_used w.heap.size gr v bs (8 * (1 + 4 + n)) W h.s.rd (by have := HFIT.out; have := HL.out; omega)
    rw [show (8 * (1 + 4 + n) + 7) / 8 = 5 + n by omega] at hh
    exact hh⟩
  have HS := InS.cells HJ.out
  clear HS2 HR2
  go_region_held3 (fun w' => w'.cell? ⟨gi, 0, none⟩ = some (.pointer (some ⟨gr, 0, none⟩)) ∧ w'.cell? ⟨gi, 2, none⟩ = some (.slice A n c) ∧ Aside0 (InS w.heap.size gi gr most A n c bs w w' v (8 * (1 + 4 + n)) ((bs.drop (1 + 4)).take n)))
    (first | exact InS.cells (InS.drew (Aside0.out (by assumption))) | exact InS.cells (Aside0.out (by assumption)))
    (first
      | (go_at_call 31; refine (HCL.out _ (Aside0.out (And.right (And.right (by assumption))))).mono ?_; rintro e w4 ⟨u, rfl, hu, hb4⟩; have HJ4 := Aside0.mk (InS.go (Aside0.out (And.right (And.right (by assumption)))) hb4); have HU4 := Aside0.mk hu; clear hu hb4)
      | (go_at_call 32; refine (HUS.out _ (Aside0.out (And.right (And.right (by assumption))))).mono ?_; rintro e w5 ⟨rfl, hq5⟩; have HQ5 := Aside0.mk hq5; have HJ5 := Aside0.mk (InS.go (Aside0.out (And.right (And.right (by assumption)))) (Drawn0.below hq5)); clear hq5))
  clear HCL HUS HS
  go_wp2
  go_ret3
  have hwb : Aside0 (w.heap.size ≤ w2.drew.heap.size) := ⟨InS.big (InS.drew HJ.out)⟩
  exact ⟨u, rfl, Kd.R_lower (Kd.R_below HU4.out HQ5.out.below) hwb.out, HJ5.out.s.below⟩
end Go.Proofs.Ytjbckpfhenogiaa.Hw
