import Derived.Tactics
import Derived.Tactics2
import Derived.Defers
import Derived.Laws.Pointers
import Derived.Laws.LoneSync
import Derived.RegionTactic
import Derived.RegionCalls
import Derived.WalkKit
import Derived.Test.YtjepodcgbfejgaaGreatDoorCp
/- sync.Once, done for the first time, in a Replacer's block. -/
namespace Go.Proofs.YtjepodcgbfejgaaGreatDoor.Hw
open Go.RowKit Go.Proofs.YtjepodcgbfejgaaGreatDoorW.PrintWords Go.Proofs.YtjepodcgbfejgaaGreatDoorW.PrintLast Go.Proofs.YtjepodcgbfejgaaGreatDoorW.PrintMore Go.Proofs.YtjepodcgbfejgaaGreatDoor.PH Go.Proofs.YtjepodcgbfejgaaGreatDoor.CP
set_option linter.unusedVariables false
set_option linter.unusedSimpArgs false
theorem race_off (w : World) : (callFunc 65 #[]).run Tryz.prog w = .ok (.value (.tuple #[])) w := run_call_mark0 Tryz.func65 (by kernel_rfl) (by kernel_rfl) (by kernel_rfl) .disable (by kernel_rfl) w
theorem race_on (w : World) : (callFunc 67 #[]).run Tryz.prog w = .ok (.value (.tuple #[])) w := run_call_mark0 Tryz.func67 (by kernel_rfl) (by kernel_rfl) (by kernel_rfl) .enable (by kernel_rfl) w
theorem race_acquire (a : Addr) (w : World) : (callFunc 68 #[.pointer (some a)]).run Tryz.prog w = .ok (.value (.tuple #[])) w := run_call_marked Tryz.func68 (by kernel_rfl) (by kernel_rfl) (by kernel_rfl) .acquire (by kernel_rfl) a w
theorem race_release (a : Addr) (w : World) : (callFunc 70 #[.pointer (some a)]).run Tryz.prog w = .ok (.value (.tuple #[])) w := run_call_marked Tryz.func70 (by kernel_rfl) (by kernel_rfl) (by kernel_rfl) .releaseMerge (by kernel_rfl) a w
/-- A Replacer's block: done, the lock, what replaces, the texts. -/
def RpB (w : World) (g : Nat) (d m : Int) (r on : Value) : Prop := w.heap[g]? = some (.cells #[.int .u32 d, .int .i32 m, .int .u32 0, r, on] 72)
theorem RpB.cells {w : World} {g : Nat} {d m : Int} {r on : Value} (h : RpB w g d m r on) : w.cell? ⟨g, 0, none⟩ = some (.int .u32 d) ∧ w.cell? ⟨g, 1, none⟩ = some (.int .i32 m) ∧ w.cell? ⟨g, 3, none⟩ = some r ∧ w.cell? ⟨g, 4, none⟩ = some on ∧ w.frozen? ⟨g, 0, none⟩ = false ∧ w.frozen? ⟨g, 1, none⟩ = false ∧ w.frozen? ⟨g, 3, none⟩ = false ∧ w.frozen? ⟨g, 4, none⟩ = false := by
  unfold RpB at h
  refine ⟨?_, ?_, ?_, ?_, ?_, ?_, ?_, ?_⟩ <;> first | (unfold World.cell?; simp [h]) | (unfold World.frozen?; simp [h])
theorem RpB.lt {w : World} {g : Nat} {d m : Int} {r on : Value} (h : RpB w g d m r on) : g < w.heap.size := (Array.getElem?_eq_some_iff.1 h).1
theorem RpB.go {w w' : World} {g : Nat} {d m : Int} {r on : Value} (h : RpB w g d m r on) (hb : Below w.heap.size w w') : RpB w' g d m r on := (hb.block _ h.lt).trans h
theorem RpB.set0 {w : World} {g : Nat} {d m : Int} {r on : Value} (h : RpB w g d m r on) (x : Int) : RpB (w.setCell ⟨g, 0, none⟩ (.int .u32 x)) g x m r on := by unfold RpB at h ⊢; simp [World.setCell, Array.getElem?_modify, h]
theorem RpB.set1 {w : World} {g : Nat} {d m : Int} {r on : Value} (h : RpB w g d m r on) (x : Int) : RpB (w.setCell ⟨g, 1, none⟩ (.int .i32 x)) g d x r on := by unfold RpB at h ⊢; simp [World.setCell, Array.getElem?_modify, h]
theorem RpB.set3 {w : World} {g : Nat} {d m : Int} {r on : Value} (h : RpB w g d m r on) (x : Value) : RpB (w.setCell ⟨g, 3, none⟩ x) g d m x on := by unfold RpB at h ⊢; simp [World.setCell, Array.getElem?_modify, h]
theorem RpB.set4 {w : World} {g : Nat} {d m : Int} {r on : Value} (h : RpB w g d m r on) (x : Value) : RpB (w.setCell ⟨g, 4, none⟩ x) g d m r x := by unfold RpB at h ⊢; simp [World.setCell, Array.getElem?_modify, h]
theorem load_calls (a : Addr) (x : Int) (w : World) (hc : w.cell? a = some (.int .u32 x)) :
    Calls Tryz.prog 37 #[.pointer (some a)] w fun e w' => e = .returned (.bool (!(x == 0))) ∧ w' = w := by
  have hl := run_call_load (P := Tryz.prog) Tryz.func46 (by kernel_rfl) (by kernel_rfl) (by kernel_rfl) .u32 (by kernel_rfl) (w := w) (a := a) (x := x) hc
  go_enter Tryz.func37, Tryz.ntmps37
  go_wp2
  go_ret
  exact ⟨rfl, rfl⟩
theorem store_deferred (a : Addr) (x : Value) (u : FrameMode) (w : World) (hc : w.cell? a = some x) (hz : w.frozen? a = false) :
    CallsD Tryz.prog 49 #[.pointer (some a), .bool true] u w fun e u' w' => u' = u ∧ (e = .returned (.tuple #[]) ∧ w' = w.drew.setCell a (.int .u32 1)) := by
  have hc' : w.drew.cell? a = some x := by go_simp
  have hz' : w.drew.frozen? a = false := by go_simp
  have hst := run_call_store (P := Tryz.prog) Tryz.func59 (by kernel_rfl) (by kernel_rfl) (by kernel_rfl) (by kernel_rfl) (k := .u32) (y := 1) hc' hz'
  go_enter_d Tryz.func49, Tryz.ntmps49
  go_wp2
  go_region_calls
  all_goals (go_end0; exact ⟨rfl, rfl⟩)
set_option maxRecDepth 100000 in
theorem ilock_calls (a : Addr) (w : World) (hc : w.cell? a = some (.int .i32 0)) (hz : w.frozen? a = false) :
    Calls Tryz.prog 57 #[.pointer (some a)] w fun e w' => e = .returned (.tuple #[]) ∧ w' = w.setCell a (.int .i32 1) := by
  have hd := race_off
  have he := race_on
  have ha := race_acquire
  have hcas := run_call_cas_hit (P := Tryz.prog) Tryz.func66 (by kernel_rfl) (by kernel_rfl) (by kernel_rfl) .i32 (by kernel_rfl) (y := 1) hc hz
  have hc' : (w.setCell a (.int .i32 1)).cell? a = some (.int .i32 1) := World.cell?_setCell_same w a _ hc
  have hcv := run_convert_to_unsafe (P := Tryz.prog) (src := 126) (dst := 85) Tryz.underlying126 Tryz.underlying85 (by kernel_rfl) hc'
  go_enter Tryz.func57, Tryz.ntmps57
  go_wp2
  refine bodyPost_ret (results_none rfl _ _ _) rfl ?_
  exact ⟨rfl, rfl⟩
set_option maxRecDepth 100000 in
theorem iunlock_calls (a : Addr) (w : World) (hc : w.cell? a = some (.int .i32 1)) (hz : w.frozen? a = false) :
    Calls Tryz.prog 58 #[.pointer (some a)] w fun e w' => e = .returned (.tuple #[]) ∧ w' = w.setCell a (.int .i32 0) := by
  have hd := race_off
  have he := race_on
  have hr := race_release
  have hadd := run_call_add (P := Tryz.prog) Tryz.func71 (by kernel_rfl) (by kernel_rfl) (by kernel_rfl) .i32 (by kernel_rfl) (y := -1) (s := 0) hc hz (by simp [go_sem]; rfl)
  have hcv := run_convert_to_unsafe (P := Tryz.prog) (src := 126) (dst := 85) Tryz.underlying126 Tryz.underlying85 (by kernel_rfl) hc
  go_enter Tryz.func58, Tryz.ntmps58
  go_wp2
  go_end0
  exact ⟨rfl, rfl⟩
theorem lock_calls (a : Addr) (w : World) (hc : w.cell? a = some (.int .i32 0)) (hz : w.frozen? a = false) :
    Calls Tryz.prog 47 #[.pointer (some a)] w fun e w' => e = .returned (.tuple #[]) ∧ w' = w.setCell a (.int .i32 1) := by
  have H := ilock_calls a w hc hz
  go_enter Tryz.func47, Tryz.ntmps47
  go_wp2_with (go_at_call 57; refine H.mono ?_; rintro e w' ⟨rfl, rfl⟩)
  go_end0
  exact ⟨rfl, rfl⟩
theorem unlock_deferred (a : Addr) (u : FrameMode) (w : World) (hc : w.cell? a = some (.int .i32 1)) (hz : w.frozen? a = false) :
    CallsD Tryz.prog 48 #[.pointer (some a)] u w fun e u' w' => u' = u ∧ (e = .returned (.tuple #[]) ∧ w' = w.setCell a (.int .i32 0)) := by
  have H := iunlock_calls a w hc hz
  go_enter_d Tryz.func48, Tryz.ntmps48
  go_wp2_with (go_at_call 58; refine H.mono ?_; rintro e w' ⟨rfl, rfl⟩)
  go_end0
  exact ⟨rfl, rfl⟩
/-- doSlow, when it is not yet done and the lock is free; the function's contract as it stands. -/
theorem slow_calls (g : Nat) (r on : Value) (w : World) (h : RpB w g 0 0 r on) (on2 : Value) (R : Value → World → Prop) (hR : ∀ v w1 x y, R v w1 → R v (w1.setCell ⟨g, x, none⟩ y)) (hD : ∀ v w1, R v w1 → R v w1.drew)
    (hf : ∀ w1, RpB w1 g 0 1 r on → Below g w w1 → Calls Tryz.prog 25 #[.pointer (some ⟨g, 0, none⟩)] w1 fun e w' => e = .returned (.tuple #[]) ∧ ∃ r2, RpB w' g 0 1 r2 on2 ∧ R r2 w' ∧ Below g w w') :
    Calls Tryz.prog 38 #[.pointer (some ⟨g, 0, none⟩), .func (.func 25) #[.pointer (some ⟨g, 0, none⟩)] #[]] w fun e w' => e = .returned (.tuple #[]) ∧ ∃ r2, RpB w' g 1 0 r2 on2 ∧ R r2 w' ∧ Below g w w' := by
  have HF := Aside0.mk hf
  have hset := h.set1 1
  have hbel : Below g w (w.setCell ⟨g, 1, none⟩ (.int .i32 1)) := (Below.refl g w).setCell (p := ⟨g, 1, none⟩) (Nat.le_refl _) _
  have HL := lock_calls ⟨g, 1, none⟩ w h.cells.2.1 h.cells.2.2.2.2.2.1
  have HLo := load_calls ⟨g, 0, none⟩ 0 (w.setCell ⟨g, 1, none⟩ (.int .i32 1)) hset.cells.1
  have HS := Aside0.mk hset
  have HB := Aside0.mk hbel
  clear hset hbel hf
  generalize w.setCell ⟨g, 1, none⟩ (.int .i32 1) = w1 at *
  go_enter_defers Tryz.func38, Tryz.ntmps38
  go_wp2_with (first
    | (go_at_call 47; refine HL.mono ?_; rintro e w' ⟨rfl, rfl⟩)
    | (go_at_call 37; refine HLo.mono ?_; rintro e w' ⟨rfl, rfl⟩))
  refine (HF.out _ HS.out HB.out).mono ?_
  rintro e w2 ⟨rfl, r2, hr2, hR2, hb2⟩
  have HR2 := Aside0.mk hr2
  clear hr2
  go_wp2
  refine leaves_cons (f := 49) (args := #[.pointer (some ⟨g, 0, none⟩), .bool true]) (by simp) (by simp [go_sem]) ?_
  refine (store_deferred ⟨g, 0, none⟩ (.int .u32 0) .returning _ HR2.out.cells.1 HR2.out.cells.2.2.2.2.1).mono ?_
  rintro e u' w3 ⟨rfl, rfl, rfl⟩
  have hr3 : RpB (w2.drew.setCell ⟨g, 0, none⟩ (.int .u32 1)) g 1 1 r2 on2 := RpB.set0 (w := w2.drew) HR2.out 1
  refine leaves_cons (f := 48) (args := #[.pointer (some ⟨g, 1, none⟩)]) (by simp [settle]) (by simp [go_sem]) ?_
  refine (unlock_deferred ⟨g, 1, none⟩ _ _ hr3.cells.2.1 hr3.cells.2.2.2.2.2.1).mono ?_
  rintro e u' w4 ⟨rfl, rfl, rfl⟩
  have hr4 := hr3.set1 0
  have hR4 := hR _ _ 1 (.int .i32 0) (hR _ _ 0 (.int .u32 1) (hD _ _ hR2))
  have hb4 : Below g w ((w2.drew.setCell ⟨g, 0, none⟩ (.int .u32 1)).setCell ⟨g, 1, none⟩ (.int .i32 0)) := (hb2.drew.setCell (p := ⟨g, 0, none⟩) (Nat.le_refl _) _).setCell (p := ⟨g, 1, none⟩) (Nat.le_refl _) _
  simp [Leaves, settle, results, Tryz.results38]
  exact ⟨r2, hr4, hR4, hb4⟩
theorem do_calls (g : Nat) (r on : Value) (w : World) (h : RpB w g 0 0 r on) (on2 : Value) (R : Value → World → Prop) (hR : ∀ v w1 x y, R v w1 → R v (w1.setCell ⟨g, x, none⟩ y)) (hD : ∀ v w1, R v w1 → R v w1.drew)
    (hf : ∀ w1, RpB w1 g 0 1 r on → Below g w w1 → Calls Tryz.prog 25 #[.pointer (some ⟨g, 0, none⟩)] w1 fun e w' => e = .returned (.tuple #[]) ∧ ∃ r2, RpB w' g 0 1 r2 on2 ∧ R r2 w' ∧ Below g w w') :
    Calls Tryz.prog 24 #[.pointer (some ⟨g, 0, none⟩), .func (.func 25) #[.pointer (some ⟨g, 0, none⟩)] #[]] w fun e w' => e = .returned (.tuple #[]) ∧ ∃ r2, RpB w' g 1 0 r2 on2 ∧ R r2 w' ∧ Below g w w' := by
  have HS := slow_calls g r on w h on2 R hR hD hf
  have HLo := load_calls ⟨g, 0, none⟩ 0 w h.cells.1
  clear hf h hR hD
  go_enter Tryz.func24, Tryz.ntmps24
  go_wp2_with (first
    | (go_at_call 37; refine HLo.mono ?_; rintro e w' ⟨rfl, rfl⟩)
    | (go_at_call 38; refine HS.mono ?_; rintro e w' ⟨rfl, r2, hr2, hR2, hb2⟩))
  go_end0
  exact ⟨rfl, r2, hr2, hR2, hb2⟩
end Go.Proofs.YtjepodcgbfejgaaGreatDoor.Hw
