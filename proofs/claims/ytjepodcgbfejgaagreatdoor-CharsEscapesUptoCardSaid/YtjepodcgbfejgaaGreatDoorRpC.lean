import Derived.Test.YtjepodcgbfejgaaGreatDoorRpB
/- strings.Replacer: buildOnce, walked. -/
namespace Go.Proofs.YtjepodcgbfejgaaGreatDoor.Hw
open Go.RowKit Go.Proofs.YtjepodcgbfejgaaGreatDoorW.PrintWords Go.Proofs.YtjepodcgbfejgaaGreatDoorW.PrintLast Go.Proofs.YtjepodcgbfejgaaGreatDoorW.PrintMore Go.Proofs.YtjepodcgbfejgaaGreatDoor.PH Go.Proofs.YtjepodcgbfejgaaGreatDoor.CP
set_option linter.unusedVariables false
set_option linter.unusedSimpArgs false
theorem BsW.move {w w' : World} {base b : Nat} {T : Ps} (h : BsW w base b T) (hbb : base ≤ b) (hm : ∀ k, base ≤ k → k < w.heap.size → w'.heap[k]? = w.heap[k]?) : BsW w' base b T := by
  obtain ⟨C, hblk, hCs, ⟨tr, htr, hRt⟩, hCx⟩ := h
  refine ⟨C, (hm b hbb (Array.getElem?_eq_some_iff.1 hblk).1).trans hblk, hCs, ⟨tr, htr, ?_⟩, fun x hx => ?_⟩
  · exact Kd.R_mono (Kd.R_step (Kd.R_bound hRt) (fun k hk hlt => hm k hk.2.1 hlt)) (fun k hk => hk.1)
  · obtain ⟨v, hv, hr⟩ := hCx x hx
    refine ⟨v, hv, hr.move (fun k hk hu => ?_)⟩
    obtain ⟨C', hC'⟩ := hu
    exact hm k (by omega) (Array.getElem?_eq_some_iff.1 hC').1
/-- What the pointer of a Replacer leads to. -/
def RpR (g : Nat) (T : Ps) (r : Value) (w : World) : Prop := ∃ b base, r = .iface 106 (.pointer (some ⟨b, 0, none⟩)) ∧ g < base ∧ base ≤ b ∧ BsW w base b T
theorem RpR.set {g : Nat} {T : Ps} (r : Value) (w : World) (x : Nat) (y : Value) (h : RpR g T r w) : RpR g T r (w.setCell ⟨g, x, none⟩ y) := by
  obtain ⟨b, base, hr, hg, hb, hw⟩ := h
  exact ⟨b, base, hr, hg, hb, hw.move hb (fun k hk _ => Below.heap_setCell _ _ _ _ (by simp; omega))⟩
theorem RpR.drew {g : Nat} {T : Ps} (r : Value) (w : World) (h : RpR g T r w) : RpR g T r w.drew := by
  obtain ⟨b, base, hr, hg, hb, hw⟩ := h
  exact ⟨b, base, hr, hg, hb, hw.move hb (fun k hk _ => rfl)⟩
set_option maxRecDepth 100000 in
theorem once_calls (g : Nat) (r : Value) (b0 c : Nat) (ps : Ps) (w0 w : World) (hB : RpB w g 0 1 r (.slice (some ⟨b0, 0, none⟩) (2 * ps.length) c)) (hw : Below g w0 w) (hC : Kd.C Kd.string w (some ⟨b0, 0, none⟩) (2 * ps.length) (strs ps)) (h2 : 2 ≤ ps.length) (hk : ps.length ≤ 100)
    (hlen : ∀ p ∈ ps, 2 ≤ p.2.length ∧ p.2.length ≤ 100) (hnd : (ps.map (·.1.toNat)).Nodup) :
    Calls Tryz.prog 25 #[.pointer (some ⟨g, 0, none⟩)] w fun e w' => e = .returned (.tuple #[]) ∧ ∃ r2, RpB w' g 0 1 r2 (.slice none 0 0) ∧ RpR g ps.reverse r2 w' ∧ Below g w0 w' := by
  have HB := Aside0.mk (build_calls g 0 1 r b0 c ps w hB hC h2 hk hlen hnd)
  have HRB := Aside0.mk hB
  have HW := Aside0.mk hw
  clear hB hC hw hlen hnd
  go_enter Tryz.func25, Tryz.ntmps25
  go_wp2_with fail
  refine HB.out.mono ?_
  rintro e w1 ⟨b, rfl, hb, hbs, hbel⟩
  have hR1 := HRB.out.go hbel
  have c3 := hR1.cells.2.2.1
  have c4 := hR1.cells.2.2.2.1
  have f3 := hR1.cells.2.2.2.2.2.2.1
  have f4 := hR1.cells.2.2.2.2.2.2.2
  have hr : RpR g ps.reverse (.iface 106 (.pointer (some ⟨b, 0, none⟩))) w1 := ⟨b, w.heap.size, rfl, HRB.out.lt, hb, hbs⟩
  have HR1 := Aside0.mk hR1
  have HRR := Aside0.mk hr
  have HBL := Aside0.mk (HW.out.trans (hbel.mono (by have := HRB.out.lt; omega)))
  clear hR1 hr hbs hbel hb
  go_wp2
  go_end0
  refine ⟨rfl, _, (HR1.out.set3 _).set4 _, RpR.set _ _ _ _ (RpR.set _ _ _ _ HRR.out), (HBL.out.setCell (p := ⟨g, 3, none⟩) (Nat.le_refl _) _).setCell (p := ⟨g, 4, none⟩) (Nat.le_refl _) _⟩
end Go.Proofs.YtjepodcgbfejgaaGreatDoor.Hw
