import Derived.Test.YtfkoiebnpgodmaaDoorShF
import Derived.Test.YtfkoiebnpgodmaaDoorShS
import Derived.Deep.Light
import Derived.Deep.QuietTactic
import Derived.BigQuiet
import Derived.IntWalk
/- Whether a shift may be, walked: the program's Check and the document's. -/
namespace Go.Proofs.YtfkoiebnpgodmaaDoor.CP
/-- What is wrong with a shift: by its kind, its numbers, how many sheets there are, the numbers of the two sheets it names, and whether its new name may be. -/
def chkI (k a n : Int) (len : Nat) (iS iN : Option Nat) (ok : Bool) : Int :=
  if k < 1 ∨ 8 < k then 150
  else if ¬ k = 5 ∧ iS = none then 4
  else if k ≤ 4 then (if n < 1 ∨ a < 0 ∨ (if k ≤ 2 then 1048576 else 1024) < a ∨ (if k ≤ 2 then 1048576 else 1024) - a < n then 150 else 0)
  else if k = 5 then (if a < 0 ∨ (len : Int) < a ∨ ok = false then 150 else if ¬ iN = none then 5 else if 32 ≤ len then 151 else 0)
  else if k = 6 then (if len = 1 then 151 else 0)
  else if k = 7 then (if a < 0 ∨ (len : Int) ≤ a then 150 else 0)
  else (if ok = false then 150 else if ¬ iN = none ∧ ¬ iN = iS then 5 else 0)
end Go.Proofs.YtfkoiebnpgodmaaDoor.CP
namespace Go.Proofs.YtfkoiebnpgodmaaDoor.Hw
open Go.RowKit Go.Proofs.YtfkoiebnpgodmaaDoorW.PrintWords Go.Proofs.YtfkoiebnpgodmaaDoorW.PrintLast Go.Proofs.YtfkoiebnpgodmaaDoorW.PrintMore Go.Proofs.YtfkoiebnpgodmaaDoor.PH Go.Proofs.YtfkoiebnpgodmaaDoor.CP
set_option linter.unusedVariables false
set_option linter.unusedSimpArgs false
abbrev shC (k : Int) (sh : ByteArray) (a n : Int) (nm : ByteArray) : Array Value := #[.int .i64 k, .string sh, .int .i64 a, .int .i64 n, .string nm]
abbrev shA (k : Int) (sh : ByteArray) (a n : Int) (nm : ByteArray) : Value := .agg (shC k sh a n nm)
/-- Behind a call's begin: what lay stands; the shift lies boxed; the names are read; the tables hold. -/
structure ShJ (w0 : World) (A : Option Addr) (l : List ByteArray) (k : Int) (sh : ByteArray) (a n : Int) (nm : ByteArray) (w : World) : Prop where
  below : Below w0.heap.size w0 w
  box : w.heap[w0.heap.size]? = some (.cells (shC k sh a n nm) 24 (0, 0))
  row : Kd.C Kd.string w A l.length l
  tabs : ChW w
section
variable {w0 w w' : World} {A : Option Addr} {l : List ByteArray} {k : Int} {sh : ByteArray} {a n : Int} {nm : ByteArray}
theorem ShJ.go (h : ShJ w0 A l k sh a n nm w) (hb : Below w.heap.size w w') : ShJ w0 A l k sh a n nm w' :=
  ⟨h.below.trans (hb.mono h.below.size), (hb.block _ (blk_lt h.box)).trans h.box, Kd.C_below h.row hb, h.tabs.go hb⟩
theorem ShJ.cells (h : ShJ w0 A l k sh a n nm w) : w.cell? ⟨w0.heap.size, 0, none⟩ = some (.int .i64 k) ∧ w.cell? ⟨w0.heap.size, 1, none⟩ = some (.string sh) ∧ w.cell? ⟨w0.heap.size, 2, none⟩ = some (.int .i64 a) ∧ w.cell? ⟨w0.heap.size, 3, none⟩ = some (.int .i64 n) ∧ w.cell? ⟨w0.heap.size, 4, none⟩ = some (.string nm) :=
  ⟨(blk_cell h.box 0).trans rfl, (blk_cell h.box 1).trans rfl, (blk_cell h.box 2).trans rfl, (blk_cell h.box 3).trans rfl, (blk_cell h.box 4).trans rfl⟩
theorem ShJ.start (hC : ChW w0) (hr : Kd.C Kd.string w0 A l.length l) : ShJ w0 A l k sh a n nm (w0.alloc (.cells (shC k sh a n nm) 24)) :=
  ⟨(Below.refl _ w0).alloc (Nat.le_refl _) _, heap_alloc_new w0 _, Kd.C_below hr ((Below.refl _ w0).alloc (Nat.le_refl _) _), hC.go ((Below.refl _ w0).alloc (Nat.le_refl _) _)⟩
/-- A contract, taken up where the shift lies boxed. -/
theorem ShJ.on {f : FuncId} {args : Array Value} {v : Ending} (h : ∀ w, ShJ w0 A l k sh a n nm w → Calls Tryd.prog f args w fun e w' => e = v ∧ Below w.heap.size w w') :
    ∀ w, Aside0 (ShJ w0 A l k sh a n nm w) → Calls Tryd.prog f args w fun e w' => e = v ∧ Aside0 (ShJ w0 A l k sh a n nm w') := fun w hj =>
  (h w hj.out).mono fun e w' ⟨h1, h2⟩ => ⟨h1, ⟨hj.out.go h2⟩⟩
end
theorem ret_int {a b : Int} (h : a = b) : Ending.returned (.int .i64 a) = .returned (.int .i64 b) := by rw [h]
theorem limit_is (k L : Int) (h : (k ≤ 2 ∧ L = 1048576) ∨ (2 < k ∧ L = 1024)) : shift_limit.f k = some L := by
  unfold shift_limit.f
  rcases h with ⟨h, rfl⟩ | ⟨h, rfl⟩
  · rw [if_pos h]
  · rw [if_neg (by omega)]
set_option maxRecDepth 100000 in
set_option maxHeartbeats 16000000 in
theorem check_lines (A : Option Addr) (c : Nat) (l : List ByteArray) (k : Int) (sh : ByteArray) (a n : Int) (nm : ByteArray) (w : World) (hC : ChW w) (hr : Kd.C Kd.string w A l.length l) (hl : l.length ≤ 140737488351232) (hG : Small l) (h1 : sh.size ≤ 140737488351232) (h2 : nm.size ≤ 140737488351232)
    (ha : -9223372036854775808 ≤ a ∧ a ≤ 9223372036854775807) (hn : -9223372036854775808 ≤ n ∧ n ≤ 9223372036854775807) (hk1 : 1 ≤ k) (hk4 : k ≤ 4) (i : Nat) (hS : fnd l sh = some i) :
    Calls Tryd.prog 11 #[.slice A l.length c, shA k sh a n nm] w fun e w' => e = .returned (.int .i64 (chkI k a n l.length (some i) (fnd l nm) (nmOK nm))) ∧ Below w.heap.size w w' := by
  have HJ0 : Aside0 (ShJ w A l k sh a n nm (w.alloc (.cells (shC k sh a n nm) 24))) := ⟨ShJ.start hC hr⟩
  have HF1 := Aside0.mk (ShJ.on (w0 := w) (k := k) (sh := sh) (a := a) (n := n) (nm := nm) fun w' hj => find_calls A c l sh w' hj.row hl hG h1)
  have HF2 := Aside0.mk (ShJ.on (w0 := w) (k := k) (sh := sh) (a := a) (n := n) (nm := nm) fun w' hj => find_calls A c l nm w' hj.row hl hG h2)
  have HN := Aside0.mk (ShJ.on (w0 := w) (A := A) (l := l) (k := k) (sh := sh) (a := a) (n := n) (nm := nm) fun w' hj => sheet_calls nm w' hj.tabs (by unfold maxLen; omega))
  obtain ⟨L, hL⟩ : ∃ L : Int, (k ≤ 2 ∧ L = 1048576) ∨ (2 < k ∧ L = 1024) := by
    by_cases h : k ≤ 2
    · exact ⟨_, .inl ⟨h, rfl⟩⟩
    · exact ⟨_, .inr ⟨by omega, rfl⟩⟩
  have HLM : Aside0 (∀ w, Calls Tryd.prog 34 #[.int .i64 k] w fun e w' => e = .returned (.int .i64 L) ∧ ∃ q, w' = w.drewN q) := ⟨fun w => (shift_limit.calls k L w (limit_is k L hL)).mono fun e w' h => ⟨h.1, h.2.out⟩⟩
  have HV : Aside0 (chkI k a n l.length (some i) (fnd l nm) (nmOK nm) = if n < 1 ∨ a < 0 ∨ L < a ∨ L - a < n then 150 else 0) := ⟨by
    unfold chkI
    rw [if_neg (by omega), if_neg (by simp), if_pos hk4]
    rcases hL with ⟨h, rfl⟩ | ⟨h, rfl⟩
    · simp only [show k ≤ 2 from h, if_true]
    · simp only [show ¬ k ≤ 2 from by omega, if_false]⟩
  have hLb : 0 ≤ L ∧ L ≤ 1048576 := by omega
  rw [hS] at HF1
  have k1 : decide (k < 1) = false := decide_eq_false (by omega)
  have k2 : decide (8 < k) = false := decide_eq_false (by omega)
  have k5 : (k == 5) = false := by simp; omega
  have k5' : (k != 5) = true := by simp; omega
  have k6 : (k == 6) = false := by simp; omega
  have k7 : (k == 7) = false := by simp; omega
  have k8 : (k == 8) = false := by simp; omega
  have HLL := Aside0.mk hL
  have hq : (n < 1) ∨ (¬ n < 1 ∧ a < 0) ∨ (¬ n < 1 ∧ ¬ a < 0 ∧ L < n) ∨ (¬ n < 1 ∧ ¬ a < 0 ∧ ¬ L < n ∧ L - n < a) ∨ (¬ n < 1 ∧ ¬ a < 0 ∧ ¬ L < n ∧ ¬ L - n < a) := by omega
  generalize fnd l nm = oN at *
  generalize nmOK nm = ok at *
  clear hC hr hG hL hS
  have HQ := Aside0.mk hq
  clear hq
  cases oN
  all_goals
    unfold fndV at HF1 HF2
    go_enter Tryd.func11, Tryd.ntmps11
    go_wp2_with (first
      | (go_at_call 18; first | ((with_reducible refine (HF1.out _ (by assumption)).mono ?_); rintro e w2 ⟨rfl, hb2⟩; obtain ⟨c0, c1, c2, c3, c4⟩ := hb2.out.cells) | ((with_reducible refine (HF2.out _ (by assumption)).mono ?_); rintro e w2 ⟨rfl, hb2⟩; obtain ⟨c0, c1, c2, c3, c4⟩ := hb2.out.cells))
      | (go_at_call 33; refine (HN.out _ (by assumption)).mono ?_; rintro e w2 ⟨rfl, hb2⟩; obtain ⟨c0, c1, c2, c3, c4⟩ := hb2.out.cells)
      | go_in)
    have hq := HQ.out
    rcases hq with q1 | ⟨q1, q2⟩ | ⟨q1, q2, q3⟩ | ⟨q1, q2, q3, q4⟩ | ⟨q1, q2, q3, q4⟩
  · skip
    have d11 : decide (n < 1) = true := decide_eq_true (by omega)
    go_quiet ((go_at_call 34; exact Calls.quiet_of (HLM.out _)))
    go_wp2
    go_ret
    refine ⟨ret_int ?_, pw_below_drewN (ShJ.below (Aside0.out (by assumption))) _⟩
    rw [HV.out]
    first | (rw [if_pos (by omega)]; done) | (rw [if_neg (by omega)]; done)
  · skip
    have d544 : decide (a < 0) = true := decide_eq_true (by omega)
    have d11 : decide (n < 1) = false := decide_eq_false (by omega)
    go_quiet ((go_at_call 34; exact Calls.quiet_of (HLM.out _)))
    go_wp2
    go_ret
    refine ⟨ret_int ?_, pw_below_drewN (ShJ.below (Aside0.out (by assumption))) _⟩
    rw [HV.out]
    first | (rw [if_pos (by omega)]; done) | (rw [if_neg (by omega)]; done)
  · skip
    have d344 : decide (L < n) = true := decide_eq_true (by omega)
    have d11 : decide (n < 1) = false := decide_eq_false (by omega)
    have d544 : decide (a < 0) = false := decide_eq_false (by omega)
    go_quiet ((go_at_call 34; exact Calls.quiet_of (HLM.out _)))
    go_wp2
    go_ret
    refine ⟨ret_int ?_, pw_below_drewN (ShJ.below (Aside0.out (by assumption))) _⟩
    rw [HV.out]
    first | (rw [if_pos (by omega)]; done) | (rw [if_neg (by omega)]; done)
  · skip
    have w9 : IntKind.i64.wrap (L - n) = L - n := IntWalk.i64_in _ (by omega)
    have d584 : decide (L - n < a) = true := decide_eq_true (by omega)
    have d11 : decide (n < 1) = false := decide_eq_false (by omega)
    have d544 : decide (a < 0) = false := decide_eq_false (by omega)
    have d344 : decide (L < n) = false := decide_eq_false (by omega)
    go_quiet ((go_at_call 34; exact Calls.quiet_of (HLM.out _)))
    go_wp2
    go_ret
    refine ⟨ret_int ?_, pw_below_drewN (ShJ.below (Aside0.out (by assumption))) _⟩
    rw [HV.out]
    first | (rw [if_pos (by omega)]; done) | (rw [if_neg (by omega)]; done)
  · skip
    have w9 : IntKind.i64.wrap (L - n) = L - n := IntWalk.i64_in _ (by omega)
    have d11 : decide (n < 1) = false := decide_eq_false (by omega)
    have d544 : decide (a < 0) = false := decide_eq_false (by omega)
    have d344 : decide (L < n) = false := decide_eq_false (by omega)
    have d584 : decide (L - n < a) = false := decide_eq_false (by omega)
    go_quiet ((go_at_call 34; exact Calls.quiet_of (HLM.out _)))
    go_wp2
    go_ret
    refine ⟨ret_int ?_, pw_below_drewN (ShJ.below (Aside0.out (by assumption))) _⟩
    rw [HV.out]
    first | (rw [if_pos (by omega)]; done) | (rw [if_neg (by omega)]; done)
  · skip
    have d11 : decide (n < 1) = true := decide_eq_true (by omega)
    go_quiet ((go_at_call 34; exact Calls.quiet_of (HLM.out _)))
    go_wp2
    go_ret
    refine ⟨ret_int ?_, pw_below_drewN (ShJ.below (Aside0.out (by assumption))) _⟩
    rw [HV.out]
    first | (rw [if_pos (by omega)]; done) | (rw [if_neg (by omega)]; done)
  · skip
    have d544 : decide (a < 0) = true := decide_eq_true (by omega)
    have d11 : decide (n < 1) = false := decide_eq_false (by omega)
    go_quiet ((go_at_call 34; exact Calls.quiet_of (HLM.out _)))
    go_wp2
    go_ret
    refine ⟨ret_int ?_, pw_below_drewN (ShJ.below (Aside0.out (by assumption))) _⟩
    rw [HV.out]
    first | (rw [if_pos (by omega)]; done) | (rw [if_neg (by omega)]; done)
  · skip
    have d344 : decide (L < n) = true := decide_eq_true (by omega)
    have d11 : decide (n < 1) = false := decide_eq_false (by omega)
    have d544 : decide (a < 0) = false := decide_eq_false (by omega)
    go_quiet ((go_at_call 34; exact Calls.quiet_of (HLM.out _)))
    go_wp2
    go_ret
    refine ⟨ret_int ?_, pw_below_drewN (ShJ.below (Aside0.out (by assumption))) _⟩
    rw [HV.out]
    first | (rw [if_pos (by omega)]; done) | (rw [if_neg (by omega)]; done)
  · skip
    have w9 : IntKind.i64.wrap (L - n) = L - n := IntWalk.i64_in _ (by omega)
    have d584 : decide (L - n < a) = true := decide_eq_true (by omega)
    have d11 : decide (n < 1) = false := decide_eq_false (by omega)
    have d544 : decide (a < 0) = false := decide_eq_false (by omega)
    have d344 : decide (L < n) = false := decide_eq_false (by omega)
    go_quiet ((go_at_call 34; exact Calls.quiet_of (HLM.out _)))
    go_wp2
    go_ret
    refine ⟨ret_int ?_, pw_below_drewN (ShJ.below (Aside0.out (by assumption))) _⟩
    rw [HV.out]
    first | (rw [if_pos (by omega)]; done) | (rw [if_neg (by omega)]; done)
  · skip
    have w9 : IntKind.i64.wrap (L - n) = L - n := IntWalk.i64_in _ (by omega)
    have d11 : decide (n < 1) = false := decide_eq_false (by omega)
    have d544 : decide (a < 0) = false := decide_eq_false (by omega)
    have d344 : decide (L < n) = false := decide_eq_false (by omega)
    have d584 : decide (L - n < a) = false := decide_eq_false (by omega)
    go_quiet ((go_at_call 34; exact Calls.quiet_of (HLM.out _)))
    go_wp2
    go_ret
    refine ⟨ret_int ?_, pw_below_drewN (ShJ.below (Aside0.out (by assumption))) _⟩
    rw [HV.out]
    first | (rw [if_pos (by omega)]; done) | (rw [if_neg (by omega)]; done)
end Go.Proofs.YtfkoiebnpgodmaaDoor.Hw
