import Derived.Test.YtjbcdfbgbocblaaDoorShS
import Derived.Deep.RegionHeld3
import Derived.BigQuiet
/- The reader of references, walked: its place, and bytes that are so. -/
namespace Go.Proofs.YtjbcdfbgbocblaaDoor.Hw
open Go.RowKit Go.Proofs.YtjbcdfbgbocblaaDoorW.PrintWords Go.Proofs.YtjbcdfbgbocblaaDoorW.PrintLast Go.Proofs.YtjbcdfbgbocblaaDoorW.PrintMore Go.Proofs.YtjbcdfbgbocblaaDoor.PH Go.Proofs.YtjbcdfbgbocblaaDoor.CP
set_option linter.unusedVariables false
set_option linter.unusedSimpArgs false
/-- A reader at a place of a text. -/
structure RS (w0 : World) (g : Nat) (s : ByteArray) (k : Nat) (w : World) : Prop where
  box : w.heap[g]? = some (.cells #[.string s, .int .i64 (k : Int)] 62 (0, 0))
  low : w0.heap.size ≤ g
  below : Below w0.heap.size w0 w
  start : ChW w0
theorem RS.tabs {w0 w : World} {g k : Nat} {s : ByteArray} (h : RS w0 g s k w) : ChW w := h.start.go h.below
theorem RS.go {w0 w w' : World} {g k : Nat} {s : ByteArray} (h : RS w0 g s k w) (hb : Below w.heap.size w w') : RS w0 g s k w' :=
  ⟨(hb.block _ (blk_lt h.box)).trans h.box, h.low, h.below.trans (hb.mono h.below.size), h.start⟩
theorem RS.cells {w0 w : World} {g k : Nat} {s : ByteArray} (h : RS w0 g s k w) : w.cell? ⟨g, 0, none⟩ = some (.string s) ∧ w.cell? ⟨g, 1, none⟩ = some (.int .i64 (k : Int)) ∧ Aside0 (RS w0 g s k w) :=
  ⟨(blk_cell h.box 0).trans rfl, (blk_cell h.box 1).trans rfl, ⟨h⟩⟩
theorem RS.free {w0 w : World} {g k : Nat} {s : ByteArray} (h : RS w0 g s k w) : w.frozen? ⟨g, 1, none⟩ = false := blk_frozen h.box 1
theorem RS.drew {w0 w : World} {g k : Nat} {s : ByteArray} (h : RS w0 g s k w) : RS w0 g s k w.drew := h.go (Below.refl _ _).drew
theorem RS.drewN {w0 w : World} {g k : Nat} {s : ByteArray} (h : RS w0 g s k w) (q : Nat) : RS w0 g s k (w.drewN q) := h.go (pw_below_drewN (Below.refl _ _) _)
theorem RS.put {w0 w : World} {g k : Nat} {s : ByteArray} (h : RS w0 g s k w) (hw : 3 + 1 ≤ w0.heap.size) (k' : Nat) : RS w0 g s k' (w.setCell ⟨g, 1, none⟩ (.int .i64 (k' : Int))) :=
  have b : Below w0.heap.size w (w.setCell ⟨g, 1, none⟩ (.int .i64 (k' : Int))) := (Below.refl _ _).setCell h.low _
  ⟨blk_put h.box 1 _ (by rfl), h.low, h.below.trans b, h.start⟩
/-- The first bytes from a place on that are so. -/
def runEnd (P : UInt8 → Bool) (s : ByteArray) (k k' : Nat) : Prop := k ≤ k' ∧ k' ≤ s.size ∧ (∀ j, k ≤ j → (h : j < k') → (h2 : j < s.size) → P s[j] = true) ∧ ∀ h : k' < s.size, P s[k'] = false
set_option maxRecDepth 100000 in
set_option maxHeartbeats 4000000 in
theorem run_plain (P : UInt8 → Bool) (g : Nat) (s : ByteArray) (k k' : Nat) (w0 w : World) (H : ∀ (j : Nat) (h : j < s.size), k ≤ j → j ≤ k' → ∀ (w : World), ChW w → Calls Tryd.prog 57 #[.int .u8 (s[j].toNat : Int)] w fun e w' => e = .returned (.bool (P s[j])) ∧ Below w.heap.size w w')
    (hw : 3 + 1 ≤ w0.heap.size) (hs : s.size ≤ 140737488351232) (hS : RS w0 g s k w) (hR : runEnd P s k k') :
    Calls Tryd.prog 56 #[.pointer (some ⟨g, 0, none⟩), .func (.func 57) #[] #[]] w fun e w' => e = .returned (.string (s.extract k k')) ∧ RS w0 g s k' w' ∧ KeepBut w w' g none := by
  have HH := Aside0.mk H
  have HR := Aside0.mk hR
  have HS := Aside0.mk hS
  have hkk : k ≤ k' ∧ k' ≤ s.size := ⟨hR.1, hR.2.1⟩
  obtain ⟨hk1, hk2⟩ := hkk
  clear H hR hS
  obtain ⟨c0, c1, _⟩ := HS.out.cells
  go_enter Tryd.func56, Tryd.ntmps56
  go_wp2
  go_loopw [] (fun wr => ∃ j : Nat, k ≤ j ∧ j ≤ k' ∧ Aside0 (RS w0 g s j wr) ∧ Aside0 (KeepBut w wr g none)) (fun wr => match wr.cell? ⟨g, 1, none⟩ with | some (.int _ n) => s.size - n.toNat | _ => 0)
  case atStart => exact ⟨k, Nat.le_refl _, hk1, HS, ⟨KeepBut.refl _ _ _⟩⟩
  case round =>
    obtain ⟨j, hj1, hj2, HJ, HK⟩ := hrel
    clear c0 c1
    obtain ⟨c0, c1, _⟩ := HJ.out.cells
    have HF := Aside0.mk HJ.out.free
    by_cases hj : j < s.size
    · have q1 : (0 : Int) ≤ (j : Int) := by omega
      have q2 : (j : Int) < (s.size : Int) := by omega
      have hlt : decide ((j : Int) < (s.size : Int)) = true := decide_eq_true q2
      have hltn : decide (j < s.size) = true := decide_eq_true hj
      have HC := Aside0.mk (HH.out j hj hj1 hj2)
      by_cases hjk : j < k'
      · have HE : Aside0 (P s[j] = true) := ⟨HR.out.2.2.1 j hj1 hjk hj⟩
        rw [HE.out] at HC
        go_wp2
        go_region_held3 (fun w' => w'.cell? ⟨g, 0, none⟩ = some (.string s) ∧ w'.cell? ⟨g, 1, none⟩ = some (.int .i64 (j : Int)) ∧ Aside0 (RS w0 g s j w'))
          (first | exact RS.cells (RS.drew (Aside0.out (by assumption))) | exact RS.cells (Aside0.out (by assumption)))
          (first | (go_at_call 57; refine (HC.out _ (RS.tabs (Aside0.out (And.right (And.right (by assumption)))))).mono ?_; rintro e w2 ⟨rfl, hb2⟩; have HJ2 := Aside0.mk (RS.go (Aside0.out (And.right (And.right (by assumption)))) hb2); have HK2 : Aside0 (KeepBut w w2 g none) := ⟨HK.out.trans (KeepBut.of_below (Below.trans (Below.drew (Below.refl _ _)) hb2) g none) (.inl rfl)⟩; clear hb2))
        clear c0 c1 HC
        obtain ⟨c0, c1, _⟩ := HJ2.out.cells
        have hf := HJ2.out.free
        have w1 : wrap64 ((j : Int) + 1) = (j : Int) + 1 := by unfold wrap64; omega
        have HP : Aside0 (RS w0 g s (j + 1) (w2.setCell ⟨g, 1, none⟩ (.int .i64 ((j + 1 : Nat) : Int)))) := ⟨HJ2.out.put hw (j + 1)⟩
        have HP2 : Aside0 (KeepBut w (w2.setCell ⟨g, 1, none⟩ (.int .i64 ((j + 1 : Nat) : Int))) g none) := ⟨HK2.out.set_ 1 _⟩
        go_wp2
        go_roundw
        case rel => exact ⟨j + 1, by omega, by omega, HP, HP2⟩
        case measure =>
          have m1 := (RS.cells HP.out).2.1
          have m2 := (RS.cells HJ.out).2.1
          simp only [Int.natCast_add, Int.cast_ofNat_Int] at m1
          rw [m2]
          first | rw [m1] | (simp only [Int.natCast_add] at m1 ⊢; rw [m1])
          simp only []
          omega
      · obtain rfl : j = k' := by omega
        have HE : Aside0 (P s[j] = false) := ⟨HR.out.2.2.2 hj⟩
        rw [HE.out] at HC
        go_wp2
        go_region_held3 (fun w' => w'.cell? ⟨g, 0, none⟩ = some (.string s) ∧ w'.cell? ⟨g, 1, none⟩ = some (.int .i64 (j : Int)) ∧ Aside0 (RS w0 g s j w'))
          (first | exact RS.cells (RS.drew (Aside0.out (by assumption))) | exact RS.cells (Aside0.out (by assumption)))
          (first | (go_at_call 57; refine (HC.out _ (RS.tabs (Aside0.out (And.right (And.right (by assumption)))))).mono ?_; rintro e w2 ⟨rfl, hb2⟩; have HJ2 := Aside0.mk (RS.go (Aside0.out (And.right (And.right (by assumption)))) hb2); have HK2 : Aside0 (KeepBut w w2 g none) := ⟨HK.out.trans (KeepBut.of_below (Below.trans (Below.drew (Below.refl _ _)) hb2) g none) (.inl rfl)⟩; clear hb2))
        clear c0 c1 HC
        obtain ⟨c0, c1, _⟩ := HJ2.out.cells
        have q3 : (k : Int) ≤ (j : Int) := by omega
        have q4 : (j : Int) ≤ (s.size : Int) := by omega
        have HQ : Aside0 (∀ q, RS w0 g s j (w2.drewN q) ∧ KeepBut w (w2.drewN q) g none) := ⟨fun q => ⟨HJ2.out.drewN q, HK2.out⟩⟩
        go_wp2
        go_quiet (fail)
        go_wp2
        go_ret
        exact ⟨rfl, (HQ.out _).1, (HQ.out _).2⟩
    · obtain rfl : j = s.size := by omega
      obtain rfl : k' = s.size := by omega
      have hlt : decide ((s.size : Int) < (s.size : Int)) = false := decide_eq_false (by omega)
      have hltn : decide (s.size < s.size) = false := decide_eq_false (by omega)
      have q3 : (k : Int) ≤ (s.size : Int) := by omega
      have HQ : Aside0 (∀ q, RS w0 g s s.size (wr.drewN q) ∧ KeepBut w (wr.drewN q) g none) := ⟨fun q => ⟨HJ.out.drewN q, HK.out⟩⟩
      go_wp2
      go_quiet (fail)
      go_wp2
      go_quiet (fail)
      go_wp2
      go_ret
      exact ⟨rfl, by first | exact (HQ.out _).1 | exact RS.drewN (HQ.out _).1 _, by first | exact (HQ.out _).2 | exact (HQ.out 0).2⟩
set_option maxRecDepth 100000 in
set_option maxHeartbeats 4000000 in
theorem run_quote (P : UInt8 → Bool) (g : Nat) (s : ByteArray) (k k' : Nat) (w0 w : World) (H : ∀ (j : Nat) (h : j < s.size), k ≤ j → j ≤ k' → ∀ (w : World), ChW w → Calls Tryd.prog 58 #[.int .u8 (s[j].toNat : Int)] w fun e w' => e = .returned (.bool (P s[j])) ∧ Below w.heap.size w w')
    (hw : 3 + 1 ≤ w0.heap.size) (hs : s.size ≤ 140737488351232) (hS : RS w0 g s k w) (hR : runEnd P s k k') :
    Calls Tryd.prog 56 #[.pointer (some ⟨g, 0, none⟩), .func (.func 58) #[] #[]] w fun e w' => e = .returned (.string (s.extract k k')) ∧ RS w0 g s k' w' ∧ KeepBut w w' g none := by
  have HH := Aside0.mk H
  have HR := Aside0.mk hR
  have HS := Aside0.mk hS
  have hkk : k ≤ k' ∧ k' ≤ s.size := ⟨hR.1, hR.2.1⟩
  obtain ⟨hk1, hk2⟩ := hkk
  clear H hR hS
  obtain ⟨c0, c1, _⟩ := HS.out.cells
  go_enter Tryd.func56, Tryd.ntmps56
  go_wp2
  go_loopw [] (fun wr => ∃ j : Nat, k ≤ j ∧ j ≤ k' ∧ Aside0 (RS w0 g s j wr) ∧ Aside0 (KeepBut w wr g none)) (fun wr => match wr.cell? ⟨g, 1, none⟩ with | some (.int _ n) => s.size - n.toNat | _ => 0)
  case atStart => exact ⟨k, Nat.le_refl _, hk1, HS, ⟨KeepBut.refl _ _ _⟩⟩
  case round =>
    obtain ⟨j, hj1, hj2, HJ, HK⟩ := hrel
    clear c0 c1
    obtain ⟨c0, c1, _⟩ := HJ.out.cells
    have HF := Aside0.mk HJ.out.free
    by_cases hj : j < s.size
    · have q1 : (0 : Int) ≤ (j : Int) := by omega
      have q2 : (j : Int) < (s.size : Int) := by omega
      have hlt : decide ((j : Int) < (s.size : Int)) = true := decide_eq_true q2
      have hltn : decide (j < s.size) = true := decide_eq_true hj
      have HC := Aside0.mk (HH.out j hj hj1 hj2)
      by_cases hjk : j < k'
      · have HE : Aside0 (P s[j] = true) := ⟨HR.out.2.2.1 j hj1 hjk hj⟩
        rw [HE.out] at HC
        go_wp2
        go_region_held3 (fun w' => w'.cell? ⟨g, 0, none⟩ = some (.string s) ∧ w'.cell? ⟨g, 1, none⟩ = some (.int .i64 (j : Int)) ∧ Aside0 (RS w0 g s j w'))
          (first | exact RS.cells (RS.drew (Aside0.out (by assumption))) | exact RS.cells (Aside0.out (by assumption)))
          (first | (go_at_call 58; refine (HC.out _ (RS.tabs (Aside0.out (And.right (And.right (by assumption)))))).mono ?_; rintro e w2 ⟨rfl, hb2⟩; have HJ2 := Aside0.mk (RS.go (Aside0.out (And.right (And.right (by assumption)))) hb2); have HK2 : Aside0 (KeepBut w w2 g none) := ⟨HK.out.trans (KeepBut.of_below (Below.trans (Below.drew (Below.refl _ _)) hb2) g none) (.inl rfl)⟩; clear hb2))
        clear c0 c1 HC
        obtain ⟨c0, c1, _⟩ := HJ2.out.cells
        have hf := HJ2.out.free
        have w1 : wrap64 ((j : Int) + 1) = (j : Int) + 1 := by unfold wrap64; omega
        have HP : Aside0 (RS w0 g s (j + 1) (w2.setCell ⟨g, 1, none⟩ (.int .i64 ((j + 1 : Nat) : Int)))) := ⟨HJ2.out.put hw (j + 1)⟩
        have HP2 : Aside0 (KeepBut w (w2.setCell ⟨g, 1, none⟩ (.int .i64 ((j + 1 : Nat) : Int))) g none) := ⟨HK2.out.set_ 1 _⟩
        go_wp2
        go_roundw
        case rel => exact ⟨j + 1, by omega, by omega, HP, HP2⟩
        case measure =>
          have m1 := (RS.cells HP.out).2.1
          have m2 := (RS.cells HJ.out).2.1
          simp only [Int.natCast_add, Int.cast_ofNat_Int] at m1
          rw [m2]
          first | rw [m1] | (simp only [Int.natCast_add] at m1 ⊢; rw [m1])
          simp only []
          omega
      · obtain rfl : j = k' := by omega
        have HE : Aside0 (P s[j] = false) := ⟨HR.out.2.2.2 hj⟩
        rw [HE.out] at HC
        go_wp2
        go_region_held3 (fun w' => w'.cell? ⟨g, 0, none⟩ = some (.string s) ∧ w'.cell? ⟨g, 1, none⟩ = some (.int .i64 (j : Int)) ∧ Aside0 (RS w0 g s j w'))
          (first | exact RS.cells (RS.drew (Aside0.out (by assumption))) | exact RS.cells (Aside0.out (by assumption)))
          (first | (go_at_call 58; refine (HC.out _ (RS.tabs (Aside0.out (And.right (And.right (by assumption)))))).mono ?_; rintro e w2 ⟨rfl, hb2⟩; have HJ2 := Aside0.mk (RS.go (Aside0.out (And.right (And.right (by assumption)))) hb2); have HK2 : Aside0 (KeepBut w w2 g none) := ⟨HK.out.trans (KeepBut.of_below (Below.trans (Below.drew (Below.refl _ _)) hb2) g none) (.inl rfl)⟩; clear hb2))
        clear c0 c1 HC
        obtain ⟨c0, c1, _⟩ := HJ2.out.cells
        have q3 : (k : Int) ≤ (j : Int) := by omega
        have q4 : (j : Int) ≤ (s.size : Int) := by omega
        have HQ : Aside0 (∀ q, RS w0 g s j (w2.drewN q) ∧ KeepBut w (w2.drewN q) g none) := ⟨fun q => ⟨HJ2.out.drewN q, HK2.out⟩⟩
        go_wp2
        go_quiet (fail)
        go_wp2
        go_ret
        exact ⟨rfl, (HQ.out _).1, (HQ.out _).2⟩
    · obtain rfl : j = s.size := by omega
      obtain rfl : k' = s.size := by omega
      have hlt : decide ((s.size : Int) < (s.size : Int)) = false := decide_eq_false (by omega)
      have hltn : decide (s.size < s.size) = false := decide_eq_false (by omega)
      have q3 : (k : Int) ≤ (s.size : Int) := by omega
      have HQ : Aside0 (∀ q, RS w0 g s s.size (wr.drewN q) ∧ KeepBut w (wr.drewN q) g none) := ⟨fun q => ⟨HJ.out.drewN q, HK.out⟩⟩
      go_wp2
      go_quiet (fail)
      go_wp2
      go_quiet (fail)
      go_wp2
      go_ret
      exact ⟨rfl, by first | exact (HQ.out _).1 | exact RS.drewN (HQ.out _).1 _, by first | exact (HQ.out _).2 | exact (HQ.out 0).2⟩
set_option maxRecDepth 100000 in
set_option maxHeartbeats 4000000 in
theorem run_caps (P : UInt8 → Bool) (g : Nat) (s : ByteArray) (k k' : Nat) (w0 w : World) (H : ∀ (j : Nat) (h : j < s.size), k ≤ j → j ≤ k' → ∀ (w : World), ChW w → Calls Tryd.prog 59 #[.int .u8 (s[j].toNat : Int)] w fun e w' => e = .returned (.bool (P s[j])) ∧ Below w.heap.size w w')
    (hw : 3 + 1 ≤ w0.heap.size) (hs : s.size ≤ 140737488351232) (hS : RS w0 g s k w) (hR : runEnd P s k k') :
    Calls Tryd.prog 56 #[.pointer (some ⟨g, 0, none⟩), .func (.func 59) #[] #[]] w fun e w' => e = .returned (.string (s.extract k k')) ∧ RS w0 g s k' w' ∧ KeepBut w w' g none := by
  have HH := Aside0.mk H
  have HR := Aside0.mk hR
  have HS := Aside0.mk hS
  have hkk : k ≤ k' ∧ k' ≤ s.size := ⟨hR.1, hR.2.1⟩
  obtain ⟨hk1, hk2⟩ := hkk
  clear H hR hS
  obtain ⟨c0, c1, _⟩ := HS.out.cells
  go_enter Tryd.func56, Tryd.ntmps56
  go_wp2
  go_loopw [] (fun wr => ∃ j : Nat, k ≤ j ∧ j ≤ k' ∧ Aside0 (RS w0 g s j wr) ∧ Aside0 (KeepBut w wr g none)) (fun wr => match wr.cell? ⟨g, 1, none⟩ with | some (.int _ n) => s.size - n.toNat | _ => 0)
  case atStart => exact ⟨k, Nat.le_refl _, hk1, HS, ⟨KeepBut.refl _ _ _⟩⟩
  case round =>
    obtain ⟨j, hj1, hj2, HJ, HK⟩ := hrel
    clear c0 c1
    obtain ⟨c0, c1, _⟩ := HJ.out.cells
    have HF := Aside0.mk HJ.out.free
    by_cases hj : j < s.size
    · have q1 : (0 : Int) ≤ (j : Int) := by omega
      have q2 : (j : Int) < (s.size : Int) := by omega
      have hlt : decide ((j : Int) < (s.size : Int)) = true := decide_eq_true q2
      have hltn : decide (j < s.size) = true := decide_eq_true hj
      have HC := Aside0.mk (HH.out j hj hj1 hj2)
      by_cases hjk : j < k'
      · have HE : Aside0 (P s[j] = true) := ⟨HR.out.2.2.1 j hj1 hjk hj⟩
        rw [HE.out] at HC
        go_wp2
        go_region_held3 (fun w' => w'.cell? ⟨g, 0, none⟩ = some (.string s) ∧ w'.cell? ⟨g, 1, none⟩ = some (.int .i64 (j : Int)) ∧ Aside0 (RS w0 g s j w'))
          (first | exact RS.cells (RS.drew (Aside0.out (by assumption))) | exact RS.cells (Aside0.out (by assumption)))
          (first | (go_at_call 59; refine (HC.out _ (RS.tabs (Aside0.out (And.right (And.right (by assumption)))))).mono ?_; rintro e w2 ⟨rfl, hb2⟩; have HJ2 := Aside0.mk (RS.go (Aside0.out (And.right (And.right (by assumption)))) hb2); have HK2 : Aside0 (KeepBut w w2 g none) := ⟨HK.out.trans (KeepBut.of_below (Below.trans (Below.drew (Below.refl _ _)) hb2) g none) (.inl rfl)⟩; clear hb2))
        clear c0 c1 HC
        obtain ⟨c0, c1, _⟩ := HJ2.out.cells
        have hf := HJ2.out.free
        have w1 : wrap64 ((j : Int) + 1) = (j : Int) + 1 := by unfold wrap64; omega
        have HP : Aside0 (RS w0 g s (j + 1) (w2.setCell ⟨g, 1, none⟩ (.int .i64 ((j + 1 : Nat) : Int)))) := ⟨HJ2.out.put hw (j + 1)⟩
        have HP2 : Aside0 (KeepBut w (w2.setCell ⟨g, 1, none⟩ (.int .i64 ((j + 1 : Nat) : Int))) g none) := ⟨HK2.out.set_ 1 _⟩
        go_wp2
        go_roundw
        case rel => exact ⟨j + 1, by omega, by omega, HP, HP2⟩
        case measure =>
          have m1 := (RS.cells HP.out).2.1
          have m2 := (RS.cells HJ.out).2.1
          simp only [Int.natCast_add, Int.cast_ofNat_Int] at m1
          rw [m2]
          first | rw [m1] | (simp only [Int.natCast_add] at m1 ⊢; rw [m1])
          simp only []
          omega
      · obtain rfl : j = k' := by omega
        have HE : Aside0 (P s[j] = false) := ⟨HR.out.2.2.2 hj⟩
        rw [HE.out] at HC
        go_wp2
        go_region_held3 (fun w' => w'.cell? ⟨g, 0, none⟩ = some (.string s) ∧ w'.cell? ⟨g, 1, none⟩ = some (.int .i64 (j : Int)) ∧ Aside0 (RS w0 g s j w'))
          (first | exact RS.cells (RS.drew (Aside0.out (by assumption))) | exact RS.cells (Aside0.out (by assumption)))
          (first | (go_at_call 59; refine (HC.out _ (RS.tabs (Aside0.out (And.right (And.right (by assumption)))))).mono ?_; rintro e w2 ⟨rfl, hb2⟩; have HJ2 := Aside0.mk (RS.go (Aside0.out (And.right (And.right (by assumption)))) hb2); have HK2 : Aside0 (KeepBut w w2 g none) := ⟨HK.out.trans (KeepBut.of_below (Below.trans (Below.drew (Below.refl _ _)) hb2) g none) (.inl rfl)⟩; clear hb2))
        clear c0 c1 HC
        obtain ⟨c0, c1, _⟩ := HJ2.out.cells
        have q3 : (k : Int) ≤ (j : Int) := by omega
        have q4 : (j : Int) ≤ (s.size : Int) := by omega
        have HQ : Aside0 (∀ q, RS w0 g s j (w2.drewN q) ∧ KeepBut w (w2.drewN q) g none) := ⟨fun q => ⟨HJ2.out.drewN q, HK2.out⟩⟩
        go_wp2
        go_quiet (fail)
        go_wp2
        go_ret
        exact ⟨rfl, (HQ.out _).1, (HQ.out _).2⟩
    · obtain rfl : j = s.size := by omega
      obtain rfl : k' = s.size := by omega
      have hlt : decide ((s.size : Int) < (s.size : Int)) = false := decide_eq_false (by omega)
      have hltn : decide (s.size < s.size) = false := decide_eq_false (by omega)
      have q3 : (k : Int) ≤ (s.size : Int) := by omega
      have HQ : Aside0 (∀ q, RS w0 g s s.size (wr.drewN q) ∧ KeepBut w (wr.drewN q) g none) := ⟨fun q => ⟨HJ.out.drewN q, HK.out⟩⟩
      go_wp2
      go_quiet (fail)
      go_wp2
      go_quiet (fail)
      go_wp2
      go_ret
      exact ⟨rfl, by first | exact (HQ.out _).1 | exact RS.drewN (HQ.out _).1 _, by first | exact (HQ.out _).2 | exact (HQ.out 0).2⟩
set_option maxRecDepth 100000 in
set_option maxHeartbeats 4000000 in
theorem run_digits (P : UInt8 → Bool) (g : Nat) (s : ByteArray) (k k' : Nat) (w0 w : World) (H : ∀ (j : Nat) (h : j < s.size), k ≤ j → j ≤ k' → ∀ (w : World), ChW w → Calls Tryd.prog 60 #[.int .u8 (s[j].toNat : Int)] w fun e w' => e = .returned (.bool (P s[j])) ∧ Below w.heap.size w w')
    (hw : 3 + 1 ≤ w0.heap.size) (hs : s.size ≤ 140737488351232) (hS : RS w0 g s k w) (hR : runEnd P s k k') :
    Calls Tryd.prog 56 #[.pointer (some ⟨g, 0, none⟩), .func (.func 60) #[] #[]] w fun e w' => e = .returned (.string (s.extract k k')) ∧ RS w0 g s k' w' ∧ KeepBut w w' g none := by
  have HH := Aside0.mk H
  have HR := Aside0.mk hR
  have HS := Aside0.mk hS
  have hkk : k ≤ k' ∧ k' ≤ s.size := ⟨hR.1, hR.2.1⟩
  obtain ⟨hk1, hk2⟩ := hkk
  clear H hR hS
  obtain ⟨c0, c1, _⟩ := HS.out.cells
  go_enter Tryd.func56, Tryd.ntmps56
  go_wp2
  go_loopw [] (fun wr => ∃ j : Nat, k ≤ j ∧ j ≤ k' ∧ Aside0 (RS w0 g s j wr) ∧ Aside0 (KeepBut w wr g none)) (fun wr => match wr.cell? ⟨g, 1, none⟩ with | some (.int _ n) => s.size - n.toNat | _ => 0)
  case atStart => exact ⟨k, Nat.le_refl _, hk1, HS, ⟨KeepBut.refl _ _ _⟩⟩
  case round =>
    obtain ⟨j, hj1, hj2, HJ, HK⟩ := hrel
    clear c0 c1
    obtain ⟨c0, c1, _⟩ := HJ.out.cells
    have HF := Aside0.mk HJ.out.free
    by_cases hj : j < s.size
    · have q1 : (0 : Int) ≤ (j : Int) := by omega
      have q2 : (j : Int) < (s.size : Int) := by omega
      have hlt : decide ((j : Int) < (s.size : Int)) = true := decide_eq_true q2
      have hltn : decide (j < s.size) = true := decide_eq_true hj
      have HC := Aside0.mk (HH.out j hj hj1 hj2)
      by_cases hjk : j < k'
      · have HE : Aside0 (P s[j] = true) := ⟨HR.out.2.2.1 j hj1 hjk hj⟩
        rw [HE.out] at HC
        go_wp2
        go_region_held3 (fun w' => w'.cell? ⟨g, 0, none⟩ = some (.string s) ∧ w'.cell? ⟨g, 1, none⟩ = some (.int .i64 (j : Int)) ∧ Aside0 (RS w0 g s j w'))
          (first | exact RS.cells (RS.drew (Aside0.out (by assumption))) | exact RS.cells (Aside0.out (by assumption)))
          (first | (go_at_call 60; refine (HC.out _ (RS.tabs (Aside0.out (And.right (And.right (by assumption)))))).mono ?_; rintro e w2 ⟨rfl, hb2⟩; have HJ2 := Aside0.mk (RS.go (Aside0.out (And.right (And.right (by assumption)))) hb2); have HK2 : Aside0 (KeepBut w w2 g none) := ⟨HK.out.trans (KeepBut.of_below (Below.trans (Below.drew (Below.refl _ _)) hb2) g none) (.inl rfl)⟩; clear hb2))
        clear c0 c1 HC
        obtain ⟨c0, c1, _⟩ := HJ2.out.cells
        have hf := HJ2.out.free
        have w1 : wrap64 ((j : Int) + 1) = (j : Int) + 1 := by unfold wrap64; omega
        have HP : Aside0 (RS w0 g s (j + 1) (w2.setCell ⟨g, 1, none⟩ (.int .i64 ((j + 1 : Nat) : Int)))) := ⟨HJ2.out.put hw (j + 1)⟩
        have HP2 : Aside0 (KeepBut w (w2.setCell ⟨g, 1, none⟩ (.int .i64 ((j + 1 : Nat) : Int))) g none) := ⟨HK2.out.set_ 1 _⟩
        go_wp2
        go_roundw
        case rel => exact ⟨j + 1, by omega, by omega, HP, HP2⟩
        case measure =>
          have m1 := (RS.cells HP.out).2.1
          have m2 := (RS.cells HJ.out).2.1
          simp only [Int.natCast_add, Int.cast_ofNat_Int] at m1
          rw [m2]
          first | rw [m1] | (simp only [Int.natCast_add] at m1 ⊢; rw [m1])
          simp only []
          omega
      · obtain rfl : j = k' := by omega
        have HE : Aside0 (P s[j] = false) := ⟨HR.out.2.2.2 hj⟩
        rw [HE.out] at HC
        go_wp2
        go_region_held3 (fun w' => w'.cell? ⟨g, 0, none⟩ = some (.string s) ∧ w'.cell? ⟨g, 1, none⟩ = some (.int .i64 (j : Int)) ∧ Aside0 (RS w0 g s j w'))
          (first | exact RS.cells (RS.drew (Aside0.out (by assumption))) | exact RS.cells (Aside0.out (by assumption)))
          (first | (go_at_call 60; refine (HC.out _ (RS.tabs (Aside0.out (And.right (And.right (by assumption)))))).mono ?_; rintro e w2 ⟨rfl, hb2⟩; have HJ2 := Aside0.mk (RS.go (Aside0.out (And.right (And.right (by assumption)))) hb2); have HK2 : Aside0 (KeepBut w w2 g none) := ⟨HK.out.trans (KeepBut.of_below (Below.trans (Below.drew (Below.refl _ _)) hb2) g none) (.inl rfl)⟩; clear hb2))
        clear c0 c1 HC
        obtain ⟨c0, c1, _⟩ := HJ2.out.cells
        have q3 : (k : Int) ≤ (j : Int) := by omega
        have q4 : (j : Int) ≤ (s.size : Int) := by omega
        have HQ : Aside0 (∀ q, RS w0 g s j (w2.drewN q) ∧ KeepBut w (w2.drewN q) g none) := ⟨fun q => ⟨HJ2.out.drewN q, HK2.out⟩⟩
        go_wp2
        go_quiet (fail)
        go_wp2
        go_ret
        exact ⟨rfl, (HQ.out _).1, (HQ.out _).2⟩
    · obtain rfl : j = s.size := by omega
      obtain rfl : k' = s.size := by omega
      have hlt : decide ((s.size : Int) < (s.size : Int)) = false := decide_eq_false (by omega)
      have hltn : decide (s.size < s.size) = false := decide_eq_false (by omega)
      have q3 : (k : Int) ≤ (s.size : Int) := by omega
      have HQ : Aside0 (∀ q, RS w0 g s s.size (wr.drewN q) ∧ KeepBut w (wr.drewN q) g none) := ⟨fun q => ⟨HJ.out.drewN q, HK.out⟩⟩
      go_wp2
      go_quiet (fail)
      go_wp2
      go_quiet (fail)
      go_wp2
      go_ret
      exact ⟨rfl, by first | exact (HQ.out _).1 | exact RS.drewN (HQ.out _).1 _, by first | exact (HQ.out _).2 | exact (HQ.out 0).2⟩
end Go.Proofs.YtjbcdfbgbocblaaDoor.Hw
