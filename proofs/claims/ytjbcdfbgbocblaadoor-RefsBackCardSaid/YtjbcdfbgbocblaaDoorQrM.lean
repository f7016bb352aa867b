import Derived.Test.YtjbcdfbgbocblaaDoorQrR
import Derived.Test.YtjbcdfbgbocblaaDoorQrP
/- The reader of references, walked: what it may take, must take, peeks at. -/
namespace Go.Proofs.YtjbcdfbgbocblaaDoor.Hw
open Go.RowKit Go.Proofs.YtjbcdfbgbocblaaDoorW.PrintWords Go.Proofs.YtjbcdfbgbocblaaDoorW.PrintLast Go.Proofs.YtjbcdfbgbocblaaDoorW.PrintMore Go.Proofs.YtjbcdfbgbocblaaDoor.PH Go.Proofs.YtjbcdfbgbocblaaDoor.CP
set_option linter.unusedVariables false
set_option linter.unusedSimpArgs false
theorem bt_nat (s : ByteArray) (k : Nat) (h : k < s.size) : bt s (k : Int) = ((s[k]).toNat : Int) := by
  unfold bt
  simp [h]
/-- A byte stands there. -/
def stands (s : ByteArray) (k : Nat) (c : UInt8) : Prop := ∃ h : k < s.size, s[k] = c
theorem may_yes (g : Nat) (s : ByteArray) (k : Nat) (c : UInt8) (w0 w : World) (hs : s.size ≤ 140737488351232) (hS : RS w0 g s k w) (h : stands s k c) :
    Calls Tryd.prog 46 #[.pointer (some ⟨g, 0, none⟩), .int .u8 (c.toNat : Int)] w fun e w' => e = .returned (.bool true) ∧ RS w0 g s (k + 1) w' ∧ KeepBut w w' g none := by
  obtain ⟨hk, rfl⟩ := h
  refine (refs_reader_may.calls g s k (s[k].toNat : Int) true s ((k + 1 : Nat) : Int) w0 w ⟨hS.box, hS.low⟩ hS.below ?_).mono ?_
  · unfold refs_reader_may.f
    rw [if_pos (by omega), if_pos (by omega), if_pos (bt_nat s k hk)]
    rw [show wrap64 ((k : Int) + 1) = ((k + 1 : Nat) : Int) from by unfold wrap64; omega]
  · rintro e w' ⟨rfl, h1, h2, h3⟩
    exact ⟨rfl, ⟨h1.1, h1.2, h2, hS.start⟩, h3⟩
theorem may_no (g : Nat) (s : ByteArray) (k : Nat) (c : UInt8) (w0 w : World) (hs : s.size ≤ 140737488351232) (hS : RS w0 g s k w) (h : ¬ stands s k c) :
    Calls Tryd.prog 46 #[.pointer (some ⟨g, 0, none⟩), .int .u8 (c.toNat : Int)] w fun e w' => e = .returned (.bool false) ∧ RS w0 g s k w' ∧ KeepBut w w' g none := by
  refine (refs_reader_may.calls g s k (c.toNat : Int) false s (k : Int) w0 w ⟨hS.box, hS.low⟩ hS.below ?_).mono ?_
  · unfold refs_reader_may.f
    by_cases hk : k < s.size
    · rw [if_pos (by omega), if_pos (by omega), bt_nat s k hk, if_neg]
      intro he
      exact h ⟨hk, UInt8.toNat_inj.1 (by omega)⟩
    · rw [if_neg (by omega)]
  · rintro e w' ⟨rfl, h1, h2, h3⟩
    exact ⟨rfl, ⟨h1.1, h1.2, h2, hS.start⟩, h3⟩
theorem peek_at (g : Nat) (s : ByteArray) (k : Nat) (w0 w : World) (hS : RS w0 g s k w) (hk : k < s.size) :
    Calls Tryd.prog 55 #[.pointer (some ⟨g, 0, none⟩)] w fun e w' => e = .returned (.int .u8 ((s[k]).toNat : Int)) ∧ RS w0 g s k w' ∧ KeepBut w w' g none := by
  refine (refs_reader_peek.calls g s k (s[k].toNat : Int) s (k : Int) w0 w ⟨hS.box, hS.low⟩ hS.below ?_).mono ?_
  · unfold refs_reader_peek.f
    rw [if_pos (by omega), if_pos (by omega), bt_nat s k hk]
  · rintro e w' ⟨rfl, h1, h2, h3⟩
    exact ⟨rfl, ⟨h1.1, h1.2, h2, hS.start⟩, h3⟩
theorem must_yes (g : Nat) (s : ByteArray) (k : Nat) (c : UInt8) (w0 w : World) (hs : s.size ≤ 140737488351232) (hS : RS w0 g s k w) (h : stands s k c) :
    Calls Tryd.prog 48 #[.pointer (some ⟨g, 0, none⟩), .int .u8 (c.toNat : Int)] w fun e w' => e = .returned (.tuple #[]) ∧ RS w0 g s (k + 1) w' ∧ KeepBut w w' g none := by
  have H := Aside0.mk (may_yes g s k c w0 w hs hS h)
  clear hS
  go_enter Tryd.func48, Tryd.ntmps48
  go_wp2_with (go_at_call 46; refine H.out.mono ?_; rintro e w1 ⟨rfl, h1, h2⟩; have H1 := Aside0.mk h1; have H2 := Aside0.mk h2; clear h1 h2)
  refine bodyPost_end (results_none rfl _ _ _) rfl ?_
  exact ⟨rfl, H1.out, H2.out⟩
set_option maxRecDepth 100000 in
set_option maxHeartbeats 4000000 in
/-- No name stands there. -/
theorem sheet_none (g : Nat) (s : ByteArray) (k : Nat) (w0 w : World) (hw : 3 + 1 ≤ w0.heap.size) (hs : s.size ≤ 140737488351232) (hS : RS w0 g s k w) (h : stands s k 46) :
    Calls Tryd.prog 47 #[.pointer (some ⟨g, 0, none⟩)] w fun e w' => e = .returned (.string ⟨#[]⟩) ∧ RS w0 g s k w' ∧ KeepBut w w' g none := by
  obtain ⟨hk, hc⟩ := h
  have HS := Aside0.mk hS
  have HP : Aside0 (∀ w1, RS w0 g s k w1 → _) := ⟨fun w1 h1 => peek_at g s k w0 w1 h1 hk⟩
  rw [hc] at HP
  have HR : Aside0 (∀ w1, RS w0 g s k w1 → _) := ⟨fun w1 h1 => run_plain (fun c => isL c.toNat || isD c.toNat) g s k k w0 w1 (fun j hj h2 h3 W _ => by
      obtain rfl : j = k := by omega
      exact ask_plain _ W (by rw [hc]; decide)) hw hs h1 ⟨Nat.le_refl _, by omega, fun j h1 h2 => by omega, fun hh => by rw [hc]; decide⟩⟩
  rw [ByteArray.extract_same] at HR
  obtain ⟨c0, c1, _⟩ := HS.out.cells
  clear hS hc
  go_enter Tryd.func47, Tryd.ntmps47
  go_wp2_with (first
    | (go_at_call 55; refine (HP.out _ HS.out).mono ?_; rintro e w1 ⟨rfl, h1, h2⟩; have H1 := Aside0.mk h1; have H2 := Aside0.mk h2; clear h1 h2)
    | (go_at_call 56; refine (HR.out _ H1.out).mono ?_; rintro e w2 ⟨rfl, h1, h2⟩; have H3 := Aside0.mk h1; have H4 : Aside0 (KeepBut w w2 g none) := ⟨H2.out.trans h2 (.inl rfl)⟩; clear h1 h2))
  go_ret
  exact ⟨rfl, H3.out, H4.out⟩
/-- A name without quotes stands there, up to a point. -/
structure plainAt (s : ByteArray) (k k' : Nat) : Prop where
  lt : k < k'
  dot : stands s k' 46
  all : ∀ j, (h : j < s.size) → k ≤ j → j < k' → (isL (s[j]).toNat || isD (s[j]).toNat) = true
  plain : plB (s.extract k k') = true
  name : nmOK (s.extract k k') = true
theorem ex_size (s : ByteArray) (k k' : Nat) (h : k' ≤ s.size) : (s.extract k k').size = k' - k := by
  simp [ByteArray.size_extract]; omega
theorem ld_small {c : Nat} (h : (isL c || isD c) = true) : c < 128 ∧ c ≠ 39 := by
  unfold isL isD at h
  simp at h
  omega
set_option maxRecDepth 100000 in
set_option maxHeartbeats 4000000 in
theorem sheet_plain (g : Nat) (s : ByteArray) (k k' : Nat) (w0 w : World) (hw : 3 + 1 ≤ w0.heap.size) (hs : s.size ≤ 140737488351232) (hS : RS w0 g s k w) (h : plainAt s k k') :
    Calls Tryd.prog 47 #[.pointer (some ⟨g, 0, none⟩)] w fun e w' => e = .returned (.string (s.extract k k')) ∧ RS w0 g s k' w' ∧ KeepBut w w' g none := by
  obtain ⟨hlt, ⟨hk', hc⟩, hall, hpl, hnm⟩ := h
  have hk : k < s.size := by omega
  have HS := Aside0.mk hS
  have HP : Aside0 (∀ w1, RS w0 g s k w1 → _) := ⟨fun w1 h1 => peek_at g s k w0 w1 h1 hk⟩
  have h39 := (ld_small (hall k hk (Nat.le_refl _) hlt)).2
  have t39 : (((s[k]).toNat : Int) != 39) = true := by simp; omega
  have t39e : (((s[k]).toNat : Int) == 39) = false := by simp; omega
  have HR : Aside0 (∀ w1, RS w0 g s k w1 → _) := ⟨fun w1 h1 => run_plain (fun c => isL c.toNat || isD c.toNat) g s k k' w0 w1 (fun j hj h2 h3 W _ => by
      refine ask_plain _ W ?_
      by_cases e : j = k'
      · subst e; rw [hc]; decide
      · exact (ld_small (hall j hj h2 (by omega))).1) hw hs h1 ⟨by omega, by omega, fun j h1 h2 h3 => hall j h3 h1 h2, fun hh => by rw [hc]; decide⟩⟩
  have hsz := ex_size s k k' (by omega)
  have HL : Aside0 (∀ w1, _) := ⟨fun w1 => plain_calls (s.extract k k') w1 (by rw [hsz]; omega)⟩
  have HN : Aside0 (∀ w1, ChW w1 → _) := ⟨fun w1 h1 => sheet_calls (s.extract k k') w1 h1 (by rw [hsz]; unfold maxLen; omega)⟩
  rw [hpl] at HL
  rw [hnm] at HN
  have e1 := toList_some (s := s.extract k k') (by rw [hsz]; omega)
  generalize s.extract k k' = nm at *
  obtain ⟨c0, c1, _⟩ := HS.out.cells
  clear hS hc hall hpl hnm hsz h39
  go_enter Tryd.func47, Tryd.ntmps47
  go_wp2_with (first
    | (go_at_call 55; refine (HP.out _ HS.out).mono ?_; rintro e w1 ⟨rfl, h1, h2⟩; have H1 := Aside0.mk h1; have H2 := Aside0.mk h2; clear h1 h2)
    | (go_at_call 56; refine (HR.out _ H1.out).mono ?_; rintro e w2 ⟨rfl, h1, h2⟩; have H3 := Aside0.mk h1; have H4 : Aside0 (KeepBut w w2 g none) := ⟨H2.out.trans h2 (.inl rfl)⟩; clear h1 h2)
    | (go_at_call 40; refine (HL.out _).mono ?_; rintro e w3 ⟨rfl, rfl⟩)
    | (go_at_call 32; refine (HN.out _ H3.out.tabs).mono ?_; rintro e w4 ⟨rfl, hb⟩; have H5 := Aside0.mk (H3.out.go hb); have H6 : Aside0 (KeepBut w w4 g none) := ⟨H4.out.trans (KeepBut.of_below hb g none) (.inl rfl)⟩; clear hb))
  go_ret
  exact ⟨rfl, H5.out, H6.out⟩
/-- A name in quotes stands there, the second quote at a point. -/
structure quotedAt (s : ByteArray) (k k' : Nat) : Prop where
  open_ : stands s k 39
  lt : k < k'
  shut : stands s k' 39
  all : ∀ j, (h : j < s.size) → k + 1 ≤ j → j < k' → ¬ (s[j]).toNat = 39
  plain : plB (s.extract (k + 1) k') = false
  name : nmOK (s.extract (k + 1) k') = true
set_option maxRecDepth 100000 in
set_option maxHeartbeats 4000000 in
theorem sheet_quoted (g : Nat) (s : ByteArray) (k k' : Nat) (w0 w : World) (hw : 3 + 1 ≤ w0.heap.size) (hs : s.size ≤ 140737488351232) (hS : RS w0 g s k w) (h : quotedAt s k k') :
    Calls Tryd.prog 47 #[.pointer (some ⟨g, 0, none⟩)] w fun e w' => e = .returned (.string (s.extract (k + 1) k')) ∧ RS w0 g s (k' + 1) w' ∧ KeepBut w w' g none := by
  obtain ⟨⟨hk, hc0⟩, hlt, ⟨hk', hc⟩, hall, hpl, hnm⟩ := h
  have HS := Aside0.mk hS
  have HP : Aside0 (∀ w1, RS w0 g s k w1 → _) := ⟨fun w1 h1 => peek_at g s k w0 w1 h1 hk⟩
  rw [hc0] at HP
  have HR : Aside0 (∀ w1, RS w0 g s (k + 1) w1 → _) := ⟨fun w1 h1 => run_quote (fun c => !((c.toNat : Int) == 39)) g s (k + 1) k' w0 w1 (fun j hj h2 h3 W _ => ask_quote _ W) hw hs h1 ⟨by omega, by omega, fun j h1 h2 h3 => by have := hall j h3 h1 h2; simp; omega, fun hh => by rw [hc]; decide⟩⟩
  have hsz := ex_size s (k + 1) k' (by omega)
  have HL : Aside0 (∀ w1, _) := ⟨fun w1 => plain_calls (s.extract (k + 1) k') w1 (by rw [hsz]; omega)⟩
  have HN : Aside0 (∀ w1, ChW w1 → _) := ⟨fun w1 h1 => sheet_calls (s.extract (k + 1) k') w1 h1 (by rw [hsz]; unfold maxLen; omega)⟩
  rw [hpl] at HL
  rw [hnm] at HN
  generalize s.extract (k + 1) k' = nm at *
  obtain ⟨c0, c1, _⟩ := HS.out.cells
  have w1 : wrap64 ((k : Int) + 1) = (k : Int) + 1 := by unfold wrap64; omega
  have w2 : wrap64 ((k' : Int) + 1) = (k' : Int) + 1 := by unfold wrap64; omega
  have t1 : (((k' : Nat) : Int) == ((s.size : Nat) : Int)) = false := by simp; omega
  have t1n : (k' == s.size) = false := by simp; omega
  have t2 : ¬ k' = s.size := by omega
  clear hS hc hc0 hall hpl hnm hsz
  go_enter Tryd.func47, Tryd.ntmps47
  go_wp2_with (first
    | (go_at_call 55; refine (HP.out _ HS.out).mono ?_; rintro e w1 ⟨rfl, h1, h2⟩; have HF := Aside0.mk h1.free; have H1 := Aside0.mk h1; have H2 := Aside0.mk h2; obtain ⟨c0, c1, _⟩ := h1.cells; have f1 := h1.free; have H1p : Aside0 (RS w0 g s (k + 1) (w1.setCell ⟨g, 1, none⟩ (.int .i64 ((k + 1 : Nat) : Int)))) := ⟨h1.put hw (k + 1)⟩; have H2p : Aside0 (KeepBut w (w1.setCell ⟨g, 1, none⟩ (.int .i64 ((k + 1 : Nat) : Int))) g none) := ⟨h2.set_ 1 _⟩; clear h1 h2)
    | (go_at_call 56; refine (HR.out _ H1p.out).mono ?_; rintro e w2 ⟨rfl, h1, h2⟩; obtain ⟨c0, c1, _⟩ := h1.cells; have f2 := h1.free; have H3 := Aside0.mk h1; have H4 : Aside0 (KeepBut w w2 g none) := ⟨H2p.out.trans h2 (.inl rfl)⟩; clear h1 h2))
  have HQ : Aside0 (∀ q, RS w0 g s (k' + 1) ((w2.setCell ⟨g, 1, none⟩ (.int .i64 ((k' + 1 : Nat) : Int))).drewN q) ∧ KeepBut w ((w2.setCell ⟨g, 1, none⟩ (.int .i64 ((k' + 1 : Nat) : Int))).drewN q) g none) := ⟨fun q => ⟨(H3.out.put hw (k' + 1)).drewN q, H4.out.set_ 1 _⟩⟩
  go_quiet (fail)
  go_wp2_with (first
    | (go_at_call 40; refine (HL.out _).mono ?_; rintro e w3 ⟨rfl, rfl⟩)
    | (go_at_call 32; refine (HN.out _ (RS.tabs (HQ.out _).1)).mono ?_; rintro e w4 ⟨rfl, hb⟩; have H5 := Aside0.mk (RS.go (HQ.out _).1 hb); have H6 : Aside0 (KeepBut w w4 g none) := ⟨(HQ.out _).2.trans (KeepBut.of_below hb g none) (.inl rfl)⟩; clear hb))
  go_ret
  exact ⟨rfl, H5.out, H6.out⟩
end Go.Proofs.YtjbcdfbgbocblaaDoor.Hw
