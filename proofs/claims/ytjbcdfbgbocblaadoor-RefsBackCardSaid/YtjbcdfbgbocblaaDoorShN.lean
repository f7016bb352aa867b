import Derived.Test.YtjbcdfbgbocblaaDoorShP
import Derived.WalkMore
import Derived.Deep.QuietTactic
import Derived.BigQuiet
/- A sheet's name, walked: the library's search for a character. -/
namespace Go.Proofs.YtjbcdfbgbocblaaDoor.Hw
open Go.RowKit Go.Proofs.YtjbcdfbgbocblaaDoorW.PrintWords Go.Proofs.YtjbcdfbgbocblaaDoorW.PrintLast Go.Proofs.YtjbcdfbgbocblaaDoorW.PrintMore Go.Proofs.YtjbcdfbgbocblaaDoor.PH Go.Proofs.YtjbcdfbgbocblaaDoor.CP
set_option linter.unusedVariables false
set_option linter.unusedSimpArgs false
abbrev Qs : ByteArray := ⟨#[91, 93, 42, 63, 58, 47, 92, 39]⟩
theorem qs_dec : ∀ p, p < 8 → (Utf8.decode Qs p).1 < 128 ∧ (Utf8.decode Qs p).2 = 1 := by decide
theorem ixb_none (l : List UInt8) (c : UInt8) (hl : ∀ x ∈ l, x.toNat < 128) (hc : 128 ≤ c.toNat) : Lib.indexByte l c = -1 := by
  have hno : ∀ (k : Nat), l[k]? ≠ some c := fun k hk => by
    have := hl c (List.mem_of_getElem? hk)
    omega
  rcases Int.lt_or_le (Lib.indexByte l c) 0 with h | h
  · have := Lib.indexByte_ge l c
    omega
  · exfalso
    obtain ⟨o, ho⟩ : ∃ o : Nat, Lib.indexByte l c = o := ⟨(Lib.indexByte l c).toNat, by omega⟩
    exact hno o (Lib.indexByte_some ho).1
set_option maxRecDepth 100000 in
set_option maxHeartbeats 4000000 in
theorem ixr_err (w : World) : Calls Tryd.prog 65 #[.string Qs, .int .i32 65533] w fun e w' => e = .returned (.int .i64 (-1)) ∧ Below w.heap.size w w' := by
  go_enter Tryd.func65, Tryd.ntmps65
  go_wp2
  go_loopw [] (fun wr => ∃ pos : Nat, pos ≤ 8 ∧ wr = w.iter Qs pos) (fun wr => 8 - wr.iterPos w.heap.size)
  case atStart => exact ⟨0, by omega, rfl⟩
  case round =>
    obtain ⟨pos, hp8, rfl⟩ := hrel
    by_cases hp : pos < 8
    · have hnx : ∀ ty, (Instr.next (.pointer (some ⟨w.heap.size, 0, none⟩)) true ty).run Tryd.prog (w.iter Qs pos) = _ := fun ty => run_next_any w Qs pos ty hp
      obtain ⟨hd1, hd2⟩ := qs_dec pos hp
      rw [hd2] at hnx
      generalize (Utf8.decode Qs pos).1 = R at *
      have t1 : ((R : Int) == 65533) = false := by simp; omega
      have HD := Aside0.mk hd2
      clear hd2
      go_wp2
      go_roundw
      case rel => exact ⟨pos + 1, by omega, rfl⟩
      case measure =>
        simp only [World.iterPos_iter]
        omega
    · have hnx : ∀ ty, (Instr.next (.pointer (some ⟨w.heap.size, 0, none⟩)) true ty).run Tryd.prog (w.iter Qs pos) = _ := fun ty => run_next_end w Qs pos ty hp
      go_wp2
      go_ret
      exact ⟨rfl, (Below.refl _ w).alloc (Nat.le_refl _) _⟩
set_option maxRecDepth 100000 in
set_option maxHeartbeats 4000000 in
theorem ixr_far2 (r : Int) (E : ByteArray) (hr : 128 ≤ r) (hr2 : r ≤ 1114111) (hr3 : ¬ r = 65533) (hE : Utf8.encode r = E) (hv : Lib.validRune r = true) (hsz : E.size = 2) (hlast : 128 ≤ (E[1]'(by omega)).toNat) (w : World) : Calls Tryd.prog 65 #[.string Qs, .int .i32 r] w fun e w' => e = .returned (.int .i64 (-1)) ∧ Below w.heap.size w w' := by
  have t1 : decide (r < 128) = false := decide_eq_false (by omega)
  have t2 : (r == 65533) = false := by simpa using hr3
  have HV := Aside0.mk hv
  generalize hx : E[1]'(by omega) = x at *
  have hx1 : E[1] = x := hx
  have hib : Lib.indexByte (Qs.extract 2 8).data.toList (x.toNat : Int).toNat.toUInt8 = -1 := by
    refine ixb_none _ _ (by decide) ?_
    have e : (x.toNat : Int).toNat.toUInt8 = x := by simp
    rw [e]; exact hlast
  have HIC : Aside0 (∀ w, Calls Tryd.prog 76 #[.string (Qs.extract 2 8), .int .u8 (x.toNat : Int)] w fun e w' => e = .returned (.int .i64 (-1)) ∧ w' = w) := ⟨fun w => by have := Tryd.strings_IndexByte (Qs.extract 2 8) (x.toNat : Int) w; rw [hib] at this; exact this⟩
  clear hx hv hib
  go_enter Tryd.func65, Tryd.ntmps65
  go_wp2_with (go_at_call 77; refine (Tryd.utf8_ValidRune r _).mono ?_; rw [HV.out]; rintro e w' ⟨rfl, hw'⟩; have hw2 := hw'.symm; subst hw2)
  go_step3
  go_wp2
  refine wp_loop_rounds 1 ?_
  rw [rounds_succ]
  go_wp2
  go_step3
  have t3 : ((Qs[1].toNat : Int) != (x.toNat : Int)) = true := by have e : Qs[1].toNat = 93 := rfl; rw [e]; simp; omega
  go_wp2
  go_quiet (fail)
  go_wp2
  generalize hW : w.drewN _ = W at *
  go_quiet ((go_at_call 76; exact Calls.quiet_of_same (HIC.out _)))
  go_wp2
  rw [Exit.noGoto_ret]
  go_simp
  try rw [Exit.noGoto_ret]
  try go_simp
  go_ret
  exact ⟨rfl, pw_below_drewN (by rw [← hW]; exact pw_below_drewN (Below.refl _ _) _) _⟩
set_option maxRecDepth 100000 in
set_option maxHeartbeats 4000000 in
theorem ixr_far3 (r : Int) (E : ByteArray) (hr : 128 ≤ r) (hr2 : r ≤ 1114111) (hr3 : ¬ r = 65533) (hE : Utf8.encode r = E) (hv : Lib.validRune r = true) (hsz : E.size = 3) (hlast : 128 ≤ (E[2]'(by omega)).toNat) (w : World) : Calls Tryd.prog 65 #[.string Qs, .int .i32 r] w fun e w' => e = .returned (.int .i64 (-1)) ∧ Below w.heap.size w w' := by
  have t1 : decide (r < 128) = false := decide_eq_false (by omega)
  have t2 : (r == 65533) = false := by simpa using hr3
  have HV := Aside0.mk hv
  generalize hx : E[2]'(by omega) = x at *
  have hx1 : E[2] = x := hx
  have hib : Lib.indexByte (Qs.extract 3 8).data.toList (x.toNat : Int).toNat.toUInt8 = -1 := by
    refine ixb_none _ _ (by decide) ?_
    have e : (x.toNat : Int).toNat.toUInt8 = x := by simp
    rw [e]; exact hlast
  have HIC : Aside0 (∀ w, Calls Tryd.prog 76 #[.string (Qs.extract 3 8), .int .u8 (x.toNat : Int)] w fun e w' => e = .returned (.int .i64 (-1)) ∧ w' = w) := ⟨fun w => by have := Tryd.strings_IndexByte (Qs.extract 3 8) (x.toNat : Int) w; rw [hib] at this; exact this⟩
  clear hx hv hib
  go_enter Tryd.func65, Tryd.ntmps65
  go_wp2_with (go_at_call 77; refine (Tryd.utf8_ValidRune r _).mono ?_; rw [HV.out]; rintro e w' ⟨rfl, hw'⟩; have hw2 := hw'.symm; subst hw2)
  go_step3
  go_wp2
  refine wp_loop_rounds 1 ?_
  rw [rounds_succ]
  go_wp2
  go_step3
  have t3 : ((Qs[2].toNat : Int) != (x.toNat : Int)) = true := by have e : Qs[2].toNat = 42 := rfl; rw [e]; simp; omega
  go_wp2
  go_quiet (fail)
  go_wp2
  generalize hW : w.drewN _ = W at *
  go_quiet ((go_at_call 76; exact Calls.quiet_of_same (HIC.out _)))
  go_wp2
  rw [Exit.noGoto_ret]
  go_simp
  try rw [Exit.noGoto_ret]
  try go_simp
  go_ret
  exact ⟨rfl, pw_below_drewN (by rw [← hW]; exact pw_below_drewN (Below.refl _ _) _) _⟩
set_option maxRecDepth 100000 in
set_option maxHeartbeats 4000000 in
theorem ixr_far4 (r : Int) (E : ByteArray) (hr : 128 ≤ r) (hr2 : r ≤ 1114111) (hr3 : ¬ r = 65533) (hE : Utf8.encode r = E) (hv : Lib.validRune r = true) (hsz : E.size = 4) (hlast : 128 ≤ (E[3]'(by omega)).toNat) (w : World) : Calls Tryd.prog 65 #[.string Qs, .int .i32 r] w fun e w' => e = .returned (.int .i64 (-1)) ∧ Below w.heap.size w w' := by
  have t1 : decide (r < 128) = false := decide_eq_false (by omega)
  have t2 : (r == 65533) = false := by simpa using hr3
  have HV := Aside0.mk hv
  generalize hx : E[3]'(by omega) = x at *
  have hx1 : E[3] = x := hx
  have hib : Lib.indexByte (Qs.extract 4 8).data.toList (x.toNat : Int).toNat.toUInt8 = -1 := by
    refine ixb_none _ _ (by decide) ?_
    have e : (x.toNat : Int).toNat.toUInt8 = x := by simp
    rw [e]; exact hlast
  have HIC : Aside0 (∀ w, Calls Tryd.prog 76 #[.string (Qs.extract 4 8), .int .u8 (x.toNat : Int)] w fun e w' => e = .returned (.int .i64 (-1)) ∧ w' = w) := ⟨fun w => by have := Tryd.strings_IndexByte (Qs.extract 4 8) (x.toNat : Int) w; rw [hib] at this; exact this⟩
  clear hx hv hib
  go_enter Tryd.func65, Tryd.ntmps65
  go_wp2_with (go_at_call 77; refine (Tryd.utf8_ValidRune r _).mono ?_; rw [HV.out]; rintro e w' ⟨rfl, hw'⟩; have hw2 := hw'.symm; subst hw2)
  go_step3
  go_wp2
  refine wp_loop_rounds 1 ?_
  rw [rounds_succ]
  go_wp2
  go_step3
  have t3 : ((Qs[3].toNat : Int) != (x.toNat : Int)) = true := by have e : Qs[3].toNat = 63 := rfl; rw [e]; simp; omega
  go_wp2
  go_quiet (fail)
  go_wp2
  generalize hW : w.drewN _ = W at *
  go_quiet ((go_at_call 76; exact Calls.quiet_of_same (HIC.out _)))
  go_wp2
  rw [Exit.noGoto_ret]
  go_simp
  try rw [Exit.noGoto_ret]
  try go_simp
  go_ret
  exact ⟨rfl, pw_below_drewN (by rw [← hW]; exact pw_below_drewN (Below.refl _ _) _) _⟩
end Go.Proofs.YtjbcdfbgbocblaaDoor.Hw
