import Derived.Test.YtjbckpfhenogiaaFs
import Derived.Test.YtjbckpfhenogiaaCodes
import Derived.StillTailTactics
/- A coder's put of a literal, walked. -/
namespace Go.Proofs.Ytjbckpfhenogiaa.Hw
open Go.RowKit Go.Proofs.YtjbckpfhenogiaaW.PrintWords Go.Proofs.YtjbckpfhenogiaaW.PrintLast Go.Proofs.YtjbckpfhenogiaaW.PrintMore Go.Proofs.Ytjbckpfhenogiaa.PH
set_option linter.unusedVariables false
set_option linter.unusedSimpArgs false
abbrev coC (g : Nat) (l d lc dc : Value) : Array Value := #[.pointer (some ⟨g, 0, none⟩), l, d, lc, dc]
theorem co5 {w : World} {gc g : Nat} {l d lc dc : Value} {t : TypeId} (h : w.heap[gc]? = some (.cells (coC g l d lc dc) t (0, 0))) : w.cell? ⟨gc, 0, none⟩ = some (.pointer (some ⟨g, 0, none⟩)) ∧ w.cell? ⟨gc, 1, none⟩ = some l ∧ w.cell? ⟨gc, 2, none⟩ = some d ∧ w.cell? ⟨gc, 3, none⟩ = some lc ∧ w.cell? ⟨gc, 4, none⟩ = some dc :=
  ⟨(blk_cell h 0).trans rfl, (blk_cell h 1).trans rfl, (blk_cell h 2).trans rfl, (blk_cell h 3).trans rfl, (blk_cell h 4).trans rfl⟩
set_option maxRecDepth 100000 in
set_option maxHeartbeats 4000000 in
theorem put_lit (base g gc : Nat) (v : Value) (L : List Bool) (w : World) (A0 A1 : Option Addr) (c0 c1 : Nat) (l m : List Int) (dv dc : Value) (s n cd : Nat)
    (hco : w.heap[gc]? = some (.cells (coC g (.slice A0 l.length c0) dv (.slice A1 m.length c1) dc) 71 (0, 0)))
    (hI : WS base w g v L) (hB : base ≤ w.heap.size) (hlen : L.length + 32 ≤ 1125899906809856)
    (hl : Stays (Kd.int .i64) w g v A0 l.length l) (hc0 : l.length ≤ c0) (hm : Stays (Kd.int .u32) w g v A1 m.length m) (hc1 : m.length ≤ c1) (hlm : l.length = m.length) (hs : s < l.length) (hn : rd l (s : Int) = (n : Int)) (hcd : rd m (s : Int) = (cd : Int)) (hn1 : 1 ≤ n) (hn15 : n ≤ 15) (hcn : cd < 2 ^ n) :
    Calls Try.prog 55 #[.pointer (some ⟨gc, 0, none⟩), .agg #[.int .i64 (s : Int), .int .i64 0]] w fun e w' => e = .returned (.tuple #[]) ∧ ∃ v', WS base w' g v' (L ++ bitsN (BP.rev cd n) n) ∧ WF base w w' g v v' := by
  have hal : Below w.heap.size w (w.alloc (.cells #[.int .i64 (s : Int), .int .i64 0] 46)) := (Below.refl _ _).alloc (Nat.le_refl _) _
  obtain ⟨k0, k1, k2, k3, k4⟩ := co5 ((hal.block _ (blk_lt hco)).trans hco)
  have x0 : (w.alloc (.cells #[.int .i64 (s : Int), .int .i64 0] 46)).cell? ⟨w.heap.size, 0, none⟩ = some (.int .i64 (s : Int)) := (blk_cell (heap_alloc_new w _) 0).trans rfl
  have x1 : (w.alloc (.cells #[.int .i64 (s : Int), .int .i64 0] 46)).cell? ⟨w.heap.size, 1, none⟩ = some (.int .i64 0) := (blk_cell (heap_alloc_new w _) 1).trans rfl
  have hkept : Kept w (w.alloc (.cells #[.int .i64 (s : Int), .int .i64 0] 46)) (fun k => k = g ∨ v.ownBlock = some k) := ⟨hal.size, fun i hi _ => hal.block i hi⟩
  have HPUT : Aside0 _ := ⟨put_ok base g v L ((w.alloc (.cells #[.int .i64 (s : Int), .int .i64 0] 46)).drew) A0 A1 c0 c1 l m s n cd ((hI.below hal).drew) (Nat.le_trans hB hal.size) hlen (fun w' h => hl w' (hkept.drew.then_ h (fun k hk => .inl hk))) hc0 (fun w' h => hm w' (hkept.drew.then_ h (fun k hk => .inl hk))) hc1 hlm hs hn hcd hn1 hn15 hcn⟩
  have HWF : Aside0 (WF base w ((w.alloc (.cells #[.int .i64 (s : Int), .int .i64 0] 46)).drew) g v v) := ⟨⟨hkept.drew, ((Below.refl base w).alloc hB _).drew, .inl rfl⟩⟩
  have HB := Aside0.mk hB
  clear hco hI hB hl hm hn hcd hal hkept hcn hlm hn1 hn15 hs hc0 hc1
  go_enter Try.func55, Try.ntmps55
  go_wp2
  generalize w.alloc (.cells #[.int .i64 (s : Int), .int .i64 0] 46) = W at *
  have j0 : W.drew.cell? ⟨gc, 0, none⟩ = _ := k0
  have j1 : W.drew.cell? ⟨gc, 1, none⟩ = _ := k1
  have j3 : W.drew.cell? ⟨gc, 3, none⟩ = _ := k3
  have y0 : W.drew.cell? ⟨w.heap.size, 0, none⟩ = _ := x0
  clear k0 k1 k2 k3 k4 x0 x1
  refine wp_region_still_tail 14 (by kernel_rfl) (by kernel_rfl) ?_
  change wpStill _ _ W.drew (fun a' => wpList _ _ _ _ a' W.drew) _ _
  generalize W.drew = W2 at *
  simp only [List.take_succ_cons, List.take_zero, List.drop_succ_cons, List.drop_zero]
  repeat still_step
  refine wpStill_nil ?_
  clear j0 j1 j3 y0
  go_wp2_with fail
  refine HPUT.out.mono ?_
  rintro e w3 ⟨rfl, v3, hs3, hf3⟩
  have H3 := Aside0.mk (And.intro hs3 (WF.trans HWF.out hf3 HB.out))
  clear hs3 hf3 HPUT HWF
  go_wp2
  refine bodyPost_ret (v := .tuple #[]) (results_none rfl _ _ _) rfl ?_
  exact ⟨rfl, v3, H3.out⟩
end Go.Proofs.Ytjbckpfhenogiaa.Hw
/- The code of a fixed block; rows that a writer's calls leave alone. -/
namespace Go.Proofs.Ytjbckpfhenogiaa.Hw
open Go.RowKit Go.Proofs.YtjbckpfhenogiaaW.PrintWords Go.Proofs.YtjbckpfhenogiaaW.PrintLast Go.Proofs.YtjbckpfhenogiaaW.PrintMore Go.Proofs.Ytjbckpfhenogiaa.PH
set_option linter.unusedVariables false
set_option linter.unusedSimpArgs false
set_option maxRecDepth 100000 in
theorem fix_check : HP.check fixLit = 0 := by decide +kernel
set_option maxRecDepth 100000 in
theorem dist_check : HP.check fixDist = 0 := by decide +kernel
set_option maxRecDepth 100000 in
theorem fix_fin : ∀ s : Fin 257, 1 ≤ fixLit.getD s.val 0 ∧ fixLit.getD s.val 0 ≤ 15 ∧ HP.codeAt fixLit s.val < 2 ^ (fixLit.getD s.val 0).toNat ∧ bitsN (BP.rev (HP.codeAt fixLit s.val) (fixLit.getD s.val 0).toNat) (fixLit.getD s.val 0).toNat = (if s.val < 256 then litB s.val else bitsN 0 7) := by decide +kernel
theorem fix_len : fixLit.length = 288 := by unfold fixLit; simp only [List.length_append, List.length_replicate]
theorem dist_len : fixDist.length = 32 := by unfold fixDist; simp only [List.length_replicate]
theorem fix_codes_len : (HP.codes fixLit).length = 288 := by rw [codes_length, fix_len]
/-- A symbol of a fixed block: its length, its code, its bits. -/
theorem fix_sym (s : Nat) (hs : s < 257) : ∃ n cd : Nat, rd fixLit (s : Int) = (n : Int) ∧ rd (HP.codes fixLit) (s : Int) = (cd : Int) ∧ 1 ≤ n ∧ n ≤ 15 ∧ cd < 2 ^ n ∧ bitsN (BP.rev cd n) n = (if s < 256 then litB s else bitsN 0 7) := by
  obtain ⟨h1, h2, h3, h4⟩ := fix_fin ⟨s, hs⟩
  simp only [] at h1 h2 h3 h4
  refine ⟨(fixLit.getD s 0).toNat, HP.codeAt fixLit s, ?_, codes_rd _ _ (by rw [fix_len]; omega), by omega, by omega, h3, h4⟩
  rw [rd_nat' fixLit s]; omega
/-- Blocks that a coder's calls leave alone. -/
def okS (g gc : Nat) (v : Value) (k : Nat) : Prop := k ≠ g ∧ k ≠ gc ∧ some k ≠ v.ownBlock
section
variable {α : Type} {d : Kd α} {e base g gc : Nat} {w w1 : World} {v v1 u : Value} {xs : List α}
theorem okS.low {k : Nat} (h : okS g gc v k) (hk : k < w.heap.size) (hw : WF base w w1 g v v1) : okS g gc v1 k ∧ w1.heap[k]? = w.heap[k]? := by
  refine ⟨⟨h.1, h.2.1, fun e => ?_⟩, hw.1.2 k hk (fun hh => hh.elim h.1 (fun e => h.2.2 e.symm))⟩
  rcases hw.2.2 with e1 | ⟨b, e1, hb⟩
  · rw [e1] at e; exact h.2.2 e
  · rw [e1] at e; injection e with e; omega
theorem okS.wf (h : d.R e w base (okS g gc v) u xs) (hw : WF base w w1 g v v1) : d.R e w1 base (okS g gc v1) u xs := by
  have h1 := Kd.R_bound h
  have h2 := Kd.R_move (w1 := w1) h1 (fun k hk => (hk.1.low hk.2.2.1 hw).2)
  exact Kd.R_mono h2 (fun k hk => (hk.1.low hk.2.2.1 hw).1)
theorem okS.below (h : d.R e w base (okS g gc v) u xs) (hb : Below w.heap.size w w1) : d.R e w1 base (okS g gc v) u xs := Kd.R_below h hb
theorem okS.set (h : d.R e w base (okS g gc v) u xs) (i : Nat) (x : Value) : d.R e (w.setCell ⟨gc, i, none⟩ x) base (okS g gc v) u xs := Kd.R_far h (fun k hk => hk.2.1) x
theorem okS.stays {A : Option Addr} {n c : Nat} (h : d.R e w base (okS g gc v) (.slice A n c) xs) : Stays d w g v A xs.length xs := fun w' hk => by
  have h1 := Kd.R_step (w1 := w') h (fun k ho hl => hk.2 k hl (fun hh => hh.elim ho.1 (fun e => ho.2.2 e.symm)))
  exact (Kd.R_reads' h1).2.2
end
end Go.Proofs.Ytjbckpfhenogiaa.Hw
