import Derived.Test.YtjepodcgbfejgaaGreatDoorChN0
import Derived.Lib.Strings
/- What a reference says (said), walked. -/
namespace Go.Proofs.YtjepodcgbfejgaaGreatDoor.CP
open Go.RowKit Go.Proofs.YtjepodcgbfejgaaGreatDoorW.PrintWords
def dig (r : Int) : Int := if 48 ≤ r ∧ r ≤ 57 then r - 48 else if 97 ≤ r ∧ r ≤ 102 then r - 87 else if 65 ≤ r ∧ r ≤ 70 then r - 55 else 16
theorem dig_le (r : Int) : 0 ≤ dig r ∧ dig r ≤ 16 := by unfold dig; repeat' split
                                                        all_goals omega
def digF (s : ByteArray) (base : Int) : Nat → Nat → Int → Option Int
  | 0, _, n => some n
  | f + 1, p, n => if p < s.size then (if base ≤ dig ((Utf8.decode s p).1 : Int) then none else digF s base f (p + (Utf8.decode s p).2) (min (n * base + dig ((Utf8.decode s p).1 : Int)) 1114112)) else some n
theorem digF_end (s : ByteArray) (base : Int) (f p : Nat) (n : Int) (h : ¬ p < s.size) : digF s base f p n = some n := by cases f <;> simp [digF, h]
def digE : Option Int → Int × Bool
  | none => (0, false)
  | some n => (n, xc n)
def digV (d : ByteArray) (base : Int) : Int × Bool := if d.size = 0 then (0, false) else digE (digF d base d.size 0 0)
def saidT (s : ByteArray) : Int × Bool := if Lib.hasPrefix s.data.toList [35, 120] = true then digV ⟨(Lib.trimPrefix s.data.toList [35, 120]).toArray⟩ 16 else if Lib.hasPrefix s.data.toList [35] = true then digV ⟨(Lib.trimPrefix s.data.toList [35]).toArray⟩ 10 else (0, false)
def saidV (s : ByteArray) : Int × Bool := if (s.toList == [97, 109, 112]) = true then (38, true) else if (s.toList == [108, 116]) = true then (60, true) else if (s.toList == [103, 116]) = true then (62, true) else if (s.toList == [113, 117, 111, 116]) = true then (34, true) else if (s.toList == [97, 112, 111, 115]) = true then (39, true) else saidT s
/-- What a walk says of it. -/
def saidW (x : Int × Bool) : Value := .tuple #[.int .i32 x.1, .bool x.2]
end Go.Proofs.YtjepodcgbfejgaaGreatDoor.CP
namespace Go.Proofs.YtjepodcgbfejgaaGreatDoor.Hw
open Go.RowKit Go.Proofs.YtjepodcgbfejgaaGreatDoorW.PrintWords Go.Proofs.YtjepodcgbfejgaaGreatDoorW.PrintLast Go.Proofs.YtjepodcgbfejgaaGreatDoorW.PrintMore Go.Proofs.YtjepodcgbfejgaaGreatDoor.PH Go.Proofs.YtjepodcgbfejgaaGreatDoor.CP
set_option linter.unusedVariables false
set_option linter.unusedSimpArgs false
set_option maxRecDepth 100000 in
set_option maxHeartbeats 4000000 in
theorem said_names (s : ByteArray) (w : World) (h : (s.toList == [97, 109, 112]) = true ∨ (s.toList == [97, 109, 112]) = false ∧ (s.toList == [108, 116]) = true ∨ (s.toList == [97, 109, 112]) = false ∧ (s.toList == [108, 116]) = false ∧ (s.toList == [103, 116]) = true ∨
    (s.toList == [97, 109, 112]) = false ∧ (s.toList == [108, 116]) = false ∧ (s.toList == [103, 116]) = false ∧ (s.toList == [113, 117, 111, 116]) = true ∨ (s.toList == [97, 109, 112]) = false ∧ (s.toList == [108, 116]) = false ∧ (s.toList == [103, 116]) = false ∧ (s.toList == [113, 117, 111, 116]) = false ∧ (s.toList == [97, 112, 111, 115]) = true) :
    Calls Tryz.prog 16 #[.string s] w fun e w' => e = .returned (saidW (saidV s)) ∧ Below w.heap.size w w' := by
  rcases h with h1 | ⟨h1, h2⟩ | ⟨h1, h2, h3⟩ | ⟨h1, h2, h3, h4⟩ | ⟨h1, h2, h3, h4, h5⟩
  all_goals
    have HV := Aside0.mk (Eq.refl (saidV s))
    unfold saidV at HV
    go_enter Tryz.func16, Tryz.ntmps16
    go_wp2_with fail
    go_ret2
    refine ⟨?_, Below.refl _ _⟩
    unfold saidV
    simp [*, saidW]
set_option maxRecDepth 100000 in
set_option maxHeartbeats 4000000 in
theorem said_hex (s : ByteArray) (w : World) (h1 : (s.toList == [97, 109, 112]) = false) (h2 : (s.toList == [108, 116]) = false) (h3 : (s.toList == [103, 116]) = false) (h4 : (s.toList == [113, 117, 111, 116]) = false) (h5 : (s.toList == [97, 112, 111, 115]) = false) (hx : Lib.hasPrefix s.data.toList [35, 120] = true) :
    Calls Tryz.prog 16 #[.string s] w fun e w' => e = .returned (saidW (digV ⟨(Lib.trimPrefix s.data.toList [35, 120]).toArray⟩ 16)) ∧ Below w.heap.size w w' := by
  obtain ⟨D, hD⟩ : ∃ D : ByteArray, (⟨(Lib.trimPrefix s.data.toList [35, 120]).toArray⟩ : ByteArray) = D := ⟨_, rfl⟩
  rw [hD]
  by_cases h0 : D.size = 0
  · have hne := toList_none h0
    have HV : Aside0 (digV D 16 = (0, false)) := ⟨by unfold digV; rw [if_pos h0]⟩
    clear h0
    go_enter Tryz.func16, Tryz.ntmps16
    go_wp2_with (go_at_call 29; refine (Tryz.strings_CutPrefix s _ _).mono ?_; rintro e w' ⟨rfl, hw'⟩; have hw2 := hw'.symm; subst hw2)
    go_ret2
    exact ⟨by rw [HV.out]; rfl, Below.refl _ _⟩
  · have h0' : 0 < D.size := by omega
    have hne := toList_some h0'
    have HV : Aside0 (digV D 16 = digE (digF D 16 D.size 0 0)) := ⟨by unfold digV; rw [if_neg h0]⟩
    clear h0
    go_enter Tryz.func16, Tryz.ntmps16
    go_wp2_with (go_at_call 29; refine (Tryz.strings_CutPrefix s _ _).mono ?_; rintro e w' ⟨rfl, hw'⟩; have hw2 := hw'.symm; subst hw2)
    go_loopw [10] (fun n wr => ∃ (pos f : Nat) (N : Int), wr.heap[w.heap.size]? = some (.stringIter D pos) ∧ n = .int .i32 N ∧ 0 ≤ N ∧ N ≤ 1114112 ∧ Aside0 (Below w.heap.size w wr) ∧ Aside0 (digF D 16 f pos N = digF D 16 D.size 0 0) ∧ D.size ≤ pos + f) (fun n wr => D.size - wr.iterPos w.heap.size)
    case atStart => exact ⟨0, D.size, 0, World.iter_heap w D 0, rfl, by omega, by omega, ⟨(Below.refl _ w).alloc (Nat.le_refl _) _⟩, ⟨rfl⟩, by omega⟩
    case round =>
      obtain ⟨pos, f, N, hit, rfl, hN0, hN1, HB, HN, hf⟩ := hrel
      have HIT := Aside0.mk hit
      have hsz : w.heap.size < wr.heap.size := (Array.getElem?_eq_some_iff.1 hit).1
      by_cases hp : pos < D.size
      · have hnx : ∀ ty, (Instr.next (.pointer (some ⟨w.heap.size, 0, none⟩)) true ty).run Tryz.prog wr = _ := fun ty => Lib.run_next_any_at wr w.heap.size D pos ty hit hp
        have hwd := Lib.decode_width_pos D pos hp
        have hd1 := decode_le D pos
        obtain ⟨g, rfl⟩ : ∃ g, f = g + 1 := ⟨f - 1, by omega⟩
        have HST : Aside0 (digF D 16 (g + 1) pos N = if 16 ≤ dig ((Utf8.decode D pos).1 : Int) then none else digF D 16 g (pos + (Utf8.decode D pos).2) (min (N * 16 + dig ((Utf8.decode D pos).1 : Int)) 1114112)) := ⟨by rw [digF, if_pos hp]⟩
        have HIT2 := Aside0.mk (Lib.iterAt_heap wr w.heap.size D pos (pos + (Utf8.decode D pos).2) hit)
        have HBW2 := Aside0.mk (Lib.below_iterAt HB.out (k := w.heap.size) (Nat.le_refl _) D (pos + (Utf8.decode D pos).2))
        clear hit
        generalize hW : wr.iterAt w.heap.size D (pos + (Utf8.decode D pos).2) = W at *
        generalize hR : (Utf8.decode D pos).1 = R at *
        generalize hK : (Utf8.decode D pos).2 = K at *
        have HR0 := Aside0.mk hR
        have HK0 := Aside0.mk hK
        clear hR hK hW
        have hcl : (48 ≤ (R : Int) ∧ (R : Int) ≤ 57 ∧ dig (R : Int) = (R : Int) - 48) ∨ (97 ≤ (R : Int) ∧ (R : Int) ≤ 102 ∧ dig (R : Int) = (R : Int) - 87) ∨ (65 ≤ (R : Int) ∧ (R : Int) ≤ 70 ∧ dig (R : Int) = (R : Int) - 55) ∨ ((¬ 48 ≤ (R : Int) ∨ ¬ (R : Int) ≤ 57) ∧ (¬ 97 ≤ (R : Int) ∨ ¬ (R : Int) ≤ 102) ∧ (¬ 65 ≤ (R : Int) ∨ ¬ (R : Int) ≤ 70) ∧ dig (R : Int) = 16) := by
          unfold dig
          repeat' split
          all_goals omega
        rcases hcl with ⟨a1, a2, hdg⟩ | ⟨a1, a2, hdg⟩ | ⟨a1, a2, hdg⟩ | ⟨a1, a2, a3, hdg⟩
        · have HDG := Aside0.mk hdg
          clear hdg
          have t9 : decide (16 ≤ (R : Int) - 48) = false := decide_eq_false (by omega)
          go_wp2
          go_roundw
          case rel =>
            have h1 := HST.out
            rw [HDG.out, if_neg (by omega), HN.out] at h1
            exact ⟨pos + K, g, min (N * 16 + ((R : Int) - 48)) 1114112, HIT2.out, by first | rfl | go_num, by omega, by omega, HBW2, ⟨h1.symm⟩, by omega⟩
          case measure =>
            simp only [World.iterPos, HIT2.out, HIT.out]
            omega
        · have HDG := Aside0.mk hdg
          clear hdg
          have t9 : decide (16 ≤ (R : Int) - 87) = false := decide_eq_false (by omega)
          go_wp2
          go_roundw
          case rel =>
            have h1 := HST.out
            rw [HDG.out, if_neg (by omega), HN.out] at h1
            exact ⟨pos + K, g, min (N * 16 + ((R : Int) - 87)) 1114112, HIT2.out, by first | rfl | go_num, by omega, by omega, HBW2, ⟨h1.symm⟩, by omega⟩
          case measure =>
            simp only [World.iterPos, HIT2.out, HIT.out]
            omega
        · have HDG := Aside0.mk hdg
          clear hdg
          have t9 : decide (16 ≤ (R : Int) - 55) = false := decide_eq_false (by omega)
          go_wp2
          go_roundw
          case rel =>
            have h1 := HST.out
            rw [HDG.out, if_neg (by omega), HN.out] at h1
            exact ⟨pos + K, g, min (N * 16 + ((R : Int) - 55)) 1114112, HIT2.out, by first | rfl | go_num, by omega, by omega, HBW2, ⟨h1.symm⟩, by omega⟩
          case measure =>
            simp only [World.iterPos, HIT2.out, HIT.out]
            omega
        · have HDG := Aside0.mk hdg
          clear hdg
          rcases a1 with a1 | a1 <;> rcases a2 with a2 | a2 <;> rcases a3 with a3 | a3 <;> first
            | (exfalso; omega)
            | (go_wp2
               go_ret2
               have h1 := HST.out
               rw [HDG.out, if_pos (by omega), HN.out] at h1
               exact ⟨by rw [HV.out, h1]; rfl, HBW2.out⟩)
      · have hnx : ∀ ty, (Instr.next (.pointer (some ⟨w.heap.size, 0, none⟩)) true ty).run Tryz.prog wr = _ := fun ty => Lib.run_next_end_at wr w.heap.size D pos ty hit hp
        clear hit
        go_wp2_with fail
        refine (chars_Char.calls N (xc N) _ (char_is _)).mono ?_
        rintro e w3 ⟨rfl, hd3⟩
        obtain ⟨n3, rfl⟩ := hd3.out
        clear hd3
        go_wp2
        go_ret2
        have h1 := HN.out
        rw [digF_end D 16 f pos N hp] at h1
        exact ⟨by rw [HV.out, ← h1]; rfl, pw_below_drewN HB.out n3⟩
set_option maxRecDepth 100000 in
set_option maxHeartbeats 4000000 in
theorem said_dec (s : ByteArray) (w : World) (h1 : (s.toList == [97, 109, 112]) = false) (h2 : (s.toList == [108, 116]) = false) (h3 : (s.toList == [103, 116]) = false) (h4 : (s.toList == [113, 117, 111, 116]) = false) (h5 : (s.toList == [97, 112, 111, 115]) = false) (hx : Lib.hasPrefix s.data.toList [35, 120] = false) (hy : Lib.hasPrefix s.data.toList [35] = true) :
    Calls Tryz.prog 16 #[.string s] w fun e w' => e = .returned (saidW (digV ⟨(Lib.trimPrefix s.data.toList [35]).toArray⟩ 10)) ∧ Below w.heap.size w w' := by
  obtain ⟨D, hD⟩ : ∃ D : ByteArray, (⟨(Lib.trimPrefix s.data.toList [35]).toArray⟩ : ByteArray) = D := ⟨_, rfl⟩
  rw [hD]
  by_cases h0 : D.size = 0
  · have hne := toList_none h0
    have HV : Aside0 (digV D 10 = (0, false)) := ⟨by unfold digV; rw [if_pos h0]⟩
    clear h0
    go_enter Tryz.func16, Tryz.ntmps16
    go_wp2_with (go_at_call 29; refine (Tryz.strings_CutPrefix s _ _).mono ?_; rintro e w' ⟨rfl, hw'⟩; have hw2 := hw'.symm; subst hw2)
    go_ret2
    exact ⟨by rw [HV.out]; rfl, Below.refl _ _⟩
  · have h0' : 0 < D.size := by omega
    have hne := toList_some h0'
    have HV : Aside0 (digV D 10 = digE (digF D 10 D.size 0 0)) := ⟨by unfold digV; rw [if_neg h0]⟩
    clear h0
    go_enter Tryz.func16, Tryz.ntmps16
    go_wp2_with (go_at_call 29; refine (Tryz.strings_CutPrefix s _ _).mono ?_; rintro e w' ⟨rfl, hw'⟩; have hw2 := hw'.symm; subst hw2)
    go_loopw [10] (fun n wr => ∃ (pos f : Nat) (N : Int), wr.heap[w.heap.size]? = some (.stringIter D pos) ∧ n = .int .i32 N ∧ 0 ≤ N ∧ N ≤ 1114112 ∧ Aside0 (Below w.heap.size w wr) ∧ Aside0 (digF D 10 f pos N = digF D 10 D.size 0 0) ∧ D.size ≤ pos + f) (fun n wr => D.size - wr.iterPos w.heap.size)
    case atStart => exact ⟨0, D.size, 0, World.iter_heap w D 0, rfl, by omega, by omega, ⟨(Below.refl _ w).alloc (Nat.le_refl _) _⟩, ⟨rfl⟩, by omega⟩
    case round =>
      obtain ⟨pos, f, N, hit, rfl, hN0, hN1, HB, HN, hf⟩ := hrel
      have HIT := Aside0.mk hit
      have hsz : w.heap.size < wr.heap.size := (Array.getElem?_eq_some_iff.1 hit).1
      by_cases hp : pos < D.size
      · have hnx : ∀ ty, (Instr.next (.pointer (some ⟨w.heap.size, 0, none⟩)) true ty).run Tryz.prog wr = _ := fun ty => Lib.run_next_any_at wr w.heap.size D pos ty hit hp
        have hwd := Lib.decode_width_pos D pos hp
        have hd1 := decode_le D pos
        obtain ⟨g, rfl⟩ : ∃ g, f = g + 1 := ⟨f - 1, by omega⟩
        have HST : Aside0 (digF D 10 (g + 1) pos N = if 10 ≤ dig ((Utf8.decode D pos).1 : Int) then none else digF D 10 g (pos + (Utf8.decode D pos).2) (min (N * 10 + dig ((Utf8.decode D pos).1 : Int)) 1114112)) := ⟨by rw [digF, if_pos hp]⟩
        have HIT2 := Aside0.mk (Lib.iterAt_heap wr w.heap.size D pos (pos + (Utf8.decode D pos).2) hit)
        have HBW2 := Aside0.mk (Lib.below_iterAt HB.out (k := w.heap.size) (Nat.le_refl _) D (pos + (Utf8.decode D pos).2))
        clear hit
        generalize hW : wr.iterAt w.heap.size D (pos + (Utf8.decode D pos).2) = W at *
        generalize hR : (Utf8.decode D pos).1 = R at *
        generalize hK : (Utf8.decode D pos).2 = K at *
        have HR0 := Aside0.mk hR
        have HK0 := Aside0.mk hK
        clear hR hK hW
        have hcl : (48 ≤ (R : Int) ∧ (R : Int) ≤ 57 ∧ dig (R : Int) = (R : Int) - 48) ∨ (97 ≤ (R : Int) ∧ (R : Int) ≤ 102 ∧ dig (R : Int) = (R : Int) - 87) ∨ (65 ≤ (R : Int) ∧ (R : Int) ≤ 70 ∧ dig (R : Int) = (R : Int) - 55) ∨ ((¬ 48 ≤ (R : Int) ∨ ¬ (R : Int) ≤ 57) ∧ (¬ 97 ≤ (R : Int) ∨ ¬ (R : Int) ≤ 102) ∧ (¬ 65 ≤ (R : Int) ∨ ¬ (R : Int) ≤ 70) ∧ dig (R : Int) = 16) := by
          unfold dig
          repeat' split
          all_goals omega
        rcases hcl with ⟨a1, a2, hdg⟩ | ⟨a1, a2, hdg⟩ | ⟨a1, a2, hdg⟩ | ⟨a1, a2, a3, hdg⟩
        · have HDG := Aside0.mk hdg
          clear hdg
          have t9 : decide (10 ≤ (R : Int) - 48) = false := decide_eq_false (by omega)
          go_wp2
          go_roundw
          case rel =>
            have h1 := HST.out
            rw [HDG.out, if_neg (by omega), HN.out] at h1
            exact ⟨pos + K, g, min (N * 10 + ((R : Int) - 48)) 1114112, HIT2.out, by first | rfl | go_num, by omega, by omega, HBW2, ⟨h1.symm⟩, by omega⟩
          case measure =>
            simp only [World.iterPos, HIT2.out, HIT.out]
            omega
        · have HDG := Aside0.mk hdg
          clear hdg
          have t9 : decide (10 ≤ (R : Int) - 87) = true := decide_eq_true (by omega)
          go_wp2
          go_ret2
          have h1 := HST.out
          rw [HDG.out, if_pos (by omega), HN.out] at h1
          exact ⟨by rw [HV.out, h1]; rfl, HBW2.out⟩
        · have HDG := Aside0.mk hdg
          clear hdg
          have t9 : decide (10 ≤ (R : Int) - 55) = true := decide_eq_true (by omega)
          go_wp2
          go_ret2
          have h1 := HST.out
          rw [HDG.out, if_pos (by omega), HN.out] at h1
          exact ⟨by rw [HV.out, h1]; rfl, HBW2.out⟩
        · have HDG := Aside0.mk hdg
          clear hdg
          rcases a1 with a1 | a1 <;> rcases a2 with a2 | a2 <;> rcases a3 with a3 | a3 <;> first
            | (exfalso; omega)
            | (go_wp2
               go_ret2
               have h1 := HST.out
               rw [HDG.out, if_pos (by omega), HN.out] at h1
               exact ⟨by rw [HV.out, h1]; rfl, HBW2.out⟩)
      · have hnx : ∀ ty, (Instr.next (.pointer (some ⟨w.heap.size, 0, none⟩)) true ty).run Tryz.prog wr = _ := fun ty => Lib.run_next_end_at wr w.heap.size D pos ty hit hp
        clear hit
        go_wp2_with fail
        refine (chars_Char.calls N (xc N) _ (char_is _)).mono ?_
        rintro e w3 ⟨rfl, hd3⟩
        obtain ⟨n3, rfl⟩ := hd3.out
        clear hd3
        go_wp2
        go_ret2
        have h1 := HN.out
        rw [digF_end D 10 f pos N hp] at h1
        exact ⟨by rw [HV.out, ← h1]; rfl, pw_below_drewN HB.out n3⟩
set_option maxRecDepth 100000 in
set_option maxHeartbeats 4000000 in
theorem said_else (s : ByteArray) (w : World) (h1 : (s.toList == [97, 109, 112]) = false) (h2 : (s.toList == [108, 116]) = false) (h3 : (s.toList == [103, 116]) = false) (h4 : (s.toList == [113, 117, 111, 116]) = false) (h5 : (s.toList == [97, 112, 111, 115]) = false) (hx : Lib.hasPrefix s.data.toList [35, 120] = false) (hy : Lib.hasPrefix s.data.toList [35] = false) :
    Calls Tryz.prog 16 #[.string s] w fun e w' => e = .returned (saidW (0, false)) ∧ Below w.heap.size w w' := by
  have hne := toList_none (s := ⟨#[]⟩) rfl
  go_enter Tryz.func16, Tryz.ntmps16
  go_wp2_with (go_at_call 29; refine (Tryz.strings_CutPrefix s _ _).mono ?_; rintro e w' ⟨rfl, hw'⟩; have hw2 := hw'.symm; subst hw2)
  go_ret2
  exact ⟨rfl, Below.refl _ _⟩
theorem said_calls (s : ByteArray) (w : World) : Calls Tryz.prog 16 #[.string s] w fun e w' => e = .returned (saidW (saidV s)) ∧ Below w.heap.size w w' := by
  by_cases h1 : (s.toList == [97, 109, 112]) = true
  · exact said_names s w (.inl h1)
  · by_cases h2 : (s.toList == [108, 116]) = true
    · exact said_names s w (.inr (.inl ⟨by simpa using h1, h2⟩))
    · by_cases h3 : (s.toList == [103, 116]) = true
      · exact said_names s w (.inr (.inr (.inl ⟨by simpa using h1, by simpa using h2, h3⟩)))
      · by_cases h4 : (s.toList == [113, 117, 111, 116]) = true
        · exact said_names s w (.inr (.inr (.inr (.inl ⟨by simpa using h1, by simpa using h2, by simpa using h3, h4⟩))))
        · by_cases h5 : (s.toList == [97, 112, 111, 115]) = true
          · exact said_names s w (.inr (.inr (.inr (.inr ⟨by simpa using h1, by simpa using h2, by simpa using h3, by simpa using h4, h5⟩))))
          · unfold saidV
            rw [if_neg h1, if_neg h2, if_neg h3, if_neg h4, if_neg h5]
            rw [Bool.not_eq_true] at h1 h2 h3 h4 h5
            unfold saidT
            by_cases hx : Lib.hasPrefix s.data.toList [35, 120] = true
            · rw [if_pos hx]; exact said_hex s w h1 h2 h3 h4 h5 hx
            · rw [if_neg hx]
              rw [Bool.not_eq_true] at hx
              by_cases hy : Lib.hasPrefix s.data.toList [35] = true
              · rw [if_pos hy]; exact said_dec s w h1 h2 h3 h4 h5 hx hy
              · rw [if_neg hy]
                rw [Bool.not_eq_true] at hy
                exact said_else s w h1 h2 h3 h4 h5 hx hy
end Go.Proofs.YtjepodcgbfejgaaGreatDoor.Hw
