import Derived.Test.YtjepodcgbfejgaaGreatDoorCp
import Derived.Test.YtjepodcgbfejgaaGreatDoorShelf
import Derived.Test.YtjepodcgbfejgaaGreatDoorWMore
import Derived.Lib.OthersKept
import Derived.Handy
import Derived.Outline
/- The texts of the characters, walked: what is valid, what is a name. -/
namespace Go.Proofs.YtjepodcgbfejgaaGreatDoor.CP
/-- A thing that is no character of XML stands at a place. -/
def badB (s : ByteArray) (p : Nat) : Bool := (decide (((Utf8.decode s p).1 : Int) = 65533 ∧ ((Utf8.decode s p).2 : Int) = 1)) || !xc ((Utf8.decode s p).1 : Int)
def vldF (s : ByteArray) : Nat → Nat → Option Nat
  | 0, _ => none
  | f + 1, p => if p < s.size then (if badB s p = true then some p else vldF s f (p + (Utf8.decode s p).2)) else none
def vld (s : ByteArray) : Option Nat := vldF s s.size 0
theorem vldF_end (s : ByteArray) (f p : Nat) (h : ¬ p < s.size) : vldF s f p = none := by cases f <;> simp [vldF, h]
theorem vldF_step (s : ByteArray) (f p : Nat) (h : p < s.size) (hf : s.size ≤ p + f) : ∃ g, f = g + 1 ∧ vldF s f p = (if badB s p = true then some p else vldF s g (p + (Utf8.decode s p).2)) ∧ s.size ≤ p + (Utf8.decode s p).2 + g := by
  have := Lib.decode_width_pos s p h
  obtain ⟨g, rfl⟩ : ∃ g, f = g + 1 := ⟨f - 1, by omega⟩
  exact ⟨g, rfl, by rw [vldF, if_pos h], by omega⟩
theorem decode_in (s : ByteArray) (p : Nat) (h : p < s.size) : p + (Utf8.decode s p).2 ≤ s.size := by
  rw [Lib.decode_at]
  unfold Lib.decodeN
  repeat' split
  all_goals (simp only []; omega)
/-- What a walk says of it. -/
def vldV : Option Nat → Value
  | none => .tuple #[.int .i64 0, .bool true]
  | some p => .tuple #[.int .i64 (p : Int), .bool false]
end Go.Proofs.YtjepodcgbfejgaaGreatDoor.CP
namespace Go.Proofs.YtjepodcgbfejgaaGreatDoor.Hw
open Go.RowKit Go.Proofs.YtjepodcgbfejgaaGreatDoorW.PrintWords Go.Proofs.YtjepodcgbfejgaaGreatDoorW.PrintLast Go.Proofs.YtjepodcgbfejgaaGreatDoorW.PrintMore Go.Proofs.YtjepodcgbfejgaaGreatDoor.PH Go.Proofs.YtjepodcgbfejgaaGreatDoor.CP
set_option linter.unusedVariables false
set_option linter.unusedSimpArgs false
theorem toList_none {s : ByteArray} (h : s.size = 0) : s.toList.isEmpty = true := by
  rw [Lib.toList_data]
  have : s.data.toList = [] := List.eq_nil_of_length_eq_zero (by rw [← Lib.size_eq]; exact h)
  rw [this]; rfl
theorem toList_some {s : ByteArray} (h : 0 < s.size) : s.toList.isEmpty = false := by
  rw [Lib.toList_data]
  cases hl : s.data.toList with
  | nil => exact absurd (by rw [Lib.size_eq, hl]; rfl) (show ¬ s.size = 0 by omega)
  | cons _ _ => rfl
theorem lt_of_cell {w : World} {p : Addr} {v : Value} (h : w.cell? p = some v) : p.block < w.heap.size := by
  unfold World.cell? at h
  split at h
  · rename_i hb; exact (Array.getElem?_eq_some_iff.1 hb).1
  all_goals cases h
theorem size_mk (l : List UInt8) : (⟨l.toArray⟩ : ByteArray).size = l.length := by simp [ByteArray.size]
/-- A contract of any world, taken up behind what a call has made. -/
theorem onward {f : FuncId} {args : Array Value} {v : Ending} {w0 : World} (h : ∀ w, Below w0.heap.size w0 w → Calls Tryz.prog f args w fun e w' => e = v ∧ Below w.heap.size w w') :
    ∀ w, Aside0 (Below w0.heap.size w0 w) → Calls Tryz.prog f args w fun e w' => e = v ∧ Aside0 (Below w0.heap.size w0 w') := fun w hb =>
  (h w hb.out).mono fun e w' ⟨h1, h2⟩ => ⟨h1, ⟨hb.out.trans (h2.mono hb.out.size)⟩⟩
theorem onward0 {f : FuncId} {args : Array Value} {v : Ending} {w0 : World} (h : ∀ w, Calls Tryz.prog f args w fun e w' => e = v ∧ Drawn0 w w') :
    ∀ w, Aside0 (Below w0.heap.size w0 w) → Calls Tryz.prog f args w fun e w' => e = v ∧ Aside0 (Below w0.heap.size w0 w') := fun w hb =>
  (h w).mono fun e w' ⟨h1, h2⟩ => ⟨h1, ⟨hb.out.trans (h2.below.mono hb.out.size)⟩⟩
/-- The tables of the decoder, and the one number of bytealg's. -/
def ChW (w : World) : Prop := Lib.Utf8Tabs 0 1 w ∧ (∃ m, w.cell? ⟨2, 0, none⟩ = some (.int .i64 m)) ∧ 2 + 1 ≤ w.heap.size
theorem ChW.below {B : Nat} {w w' : World} (h : ChW w) (hb : Below B w w') (hB : 2 + 1 ≤ B) : ChW w' := by
  obtain ⟨⟨h1, h2⟩, ⟨m, h3⟩, h4⟩ := h
  refine ⟨⟨fun c hc => ?_, fun i hi => ⟨?_, ?_⟩⟩, ⟨m, ?_⟩, Nat.le_trans h4 hb.size⟩
  · rw [hb.cell (p := ⟨0, c, none⟩) (by show 0 < B; omega)]; exact h1 c hc
  · rw [hb.cell (p := ⟨1, 2 * i, none⟩) (by show 1 < B; omega)]; exact (h2 i hi).1
  · rw [hb.cell (p := ⟨1, 2 * i + 1, none⟩) (by show 1 < B; omega)]; exact (h2 i hi).2
  · rw [hb.cell (p := ⟨2, 0, none⟩) (by show 2 < B; omega)]; exact h3
theorem ChW.go {w w' : World} (h : ChW w) (hb : Below w.heap.size w w') : ChW w' := h.below hb h.2.2
/-- The decoder at a place of a string. -/
theorem decodeGo_from (s : ByteArray) (p : Nat) (h : p < s.size) : Lib.decodeGo (s.extract p s.size) = Utf8.decode s p := by
  have hsz : (s.extract p s.size).size = s.size - p := by simp [ByteArray.size_extract]
  have hg : ∀ k, (s.extract p s.size).get! k = s.get! (p + k) := by
    intro k
    by_cases hk : p + k < s.size
    · have h1 : k < (s.extract p s.size).size := by rw [hsz]; omega
      have e1 : (s.extract p s.size).get! k = (s.extract p s.size)[k] := by have := get_at (s.extract p s.size) k h1; simpa using this
      have e2 : s.get! (p + k) = s[p + k] := by have := get_at s (p + k) hk; simpa using this
      rw [e1, e2, ByteArray.getElem_extract]
    · have h1 : ¬ k < (s.extract p s.size).size := by rw [hsz]; omega
      have e1 : (s.extract p s.size).get! k = default := by
        show (s.extract p s.size).data[k]! = default
        rw [getElem!_neg]; simpa using h1
      have e2 : s.get! (p + k) = default := by
        show s.data[p + k]! = default
        rw [getElem!_neg]; simpa using hk
      rw [e1, e2]
  unfold Lib.decodeGo
  rw [if_neg (by rw [hsz]; omega), Lib.decode_at, Lib.decode_at, hsz]
  simp only [hg, Nat.sub_zero, Nat.add_zero, Nat.zero_add]
theorem dec_calls (s : ByteArray) (p : Nat) (w : World) (hC : ChW w) (h : p < s.size) :
    Calls Tryz.prog 22 #[.string (s.extract p s.size)] w fun e w' => e = .returned (.tuple #[.int .i32 (Utf8.decode s p).1, .int .i64 (Utf8.decode s p).2]) ∧ Below w.heap.size w w' := by
  have := Tryz.utf8_DecodeRuneInString (s.extract p s.size) w hC.1
  rw [decodeGo_from s p h] at this
  exact this
theorem bad_calls (s : ByteArray) (p : Nat) (w : World) (h : p < s.size) :
    Calls Tryz.prog 23 #[.int .i32 ((Utf8.decode s p).1 : Nat), .int .i64 ((Utf8.decode s p).2 : Nat)] w fun e w' => e = .returned (.bool (badB s p)) ∧ Drawn0 w w' :=
  chars_bad.calls _ _ _ w (bad_is _ _)
set_option maxHeartbeats 1000000 in
theorem valid_calls (s : ByteArray) (w : World) (hC : ChW w) (hs : s.size ≤ maxLen) :
    Calls Tryz.prog 9 #[.string s] w fun e w' => e = .returned (vldV (vld s)) ∧ Below w.heap.size w w' := by
  unfold maxLen at hs
  have HC := Aside0.mk hC
  clear hC
  go_enter Tryz.func9, Tryz.ntmps9
  go_wp2
  go_loopw [] (fun wr => ∃ (pos f : Nat), wr.heap[w.heap.size]? = some (.stringIter s pos) ∧ Below w.heap.size w wr ∧ Aside0 (vldF s f pos = vld s) ∧ s.size ≤ pos + f) (fun wr => s.size - wr.iterPos w.heap.size)
  case atStart => exact ⟨0, s.size, World.iter_heap w s 0, (Below.refl _ w).alloc (Nat.le_refl _) _, ⟨rfl⟩, by omega⟩
  case round =>
    obtain ⟨pos, f, hit, hbw, hv, hf⟩ := hrel
    have HIT := Aside0.mk hit
    have hsz : w.heap.size < wr.heap.size := (Array.getElem?_eq_some_iff.1 hit).1
    by_cases hp : pos < s.size
    · have hnx : ∀ ty, (Instr.next (.pointer (some ⟨w.heap.size, 0, none⟩)) true ty).run Tryz.prog wr = _ := fun ty => Lib.run_next_any_at wr w.heap.size s pos ty hit hp
      have hwd := Lib.decode_width_pos s pos hp
      obtain ⟨g, rfl, hst, hg⟩ := vldF_step s f pos hp hf
      have HST := Aside0.mk hst
      have hit2 := Lib.iterAt_heap wr w.heap.size s pos (pos + (Utf8.decode s pos).2) hit
      have hbw2 := Lib.below_iterAt hbw (k := w.heap.size) (by omega) s (pos + (Utf8.decode s pos).2)
      have HIT2 := Aside0.mk hit2
      have HBW2 := Aside0.mk hbw2
      have HC2 := Aside0.mk (HC.out.go hbw2)
      clear hit hit2 hbw hbw2 hst
      generalize hW : wr.iterAt w.heap.size s (pos + (Utf8.decode s pos).2) = W at *
      go_wp2_with fail
      refine (dec_calls s pos W HC2.out hp).mono ?_
      rintro e w1 ⟨rfl, hb1⟩
      have HB1 := Aside0.mk hb1
      clear hb1
      go_wp2_with fail
      refine (bad_calls s pos w1 hp).mono ?_
      rintro e w2 ⟨rfl, hd2⟩
      obtain ⟨n2, rfl⟩ := hd2.out
      have HD2 := Aside0.mk hd2
      clear hd2
      have HB3 : Aside0 (Below W.heap.size W (w1.drewN n2)) := ⟨HB1.out.trans ((Drawn0.below HD2.out).mono HB1.out.size)⟩
      have HIT3 : Aside0 ((w1.drewN n2).heap[w.heap.size]? = some (.stringIter s (pos + (Utf8.decode s pos).2))) := ⟨(HB3.out.block _ (Array.getElem?_eq_some_iff.1 HIT2.out).1).trans HIT2.out⟩
      cases hbb : badB s pos with
      | true =>
        go_wp2
        go_ret2
        have h1 := HST.out
        rw [if_pos hbb, hv.out] at h1
        exact ⟨by rw [h1]; rfl, HBW2.out.trans (HB3.out.mono HBW2.out.size)⟩
      | false =>
        go_wp2
        go_roundw
        case rel =>
          have h1 := HST.out
          rw [if_neg (by rw [hbb]; decide)] at h1
          exact ⟨pos + (Utf8.decode s pos).2, g, HIT3.out, HBW2.out.trans (HB3.out.mono HBW2.out.size), ⟨by rw [← h1]; exact hv.out⟩, hg⟩
        case measure =>
          simp only [World.iterPos, HIT3.out, HIT.out]
          omega
    · have hnx : ∀ ty, (Instr.next (.pointer (some ⟨w.heap.size, 0, none⟩)) true ty).run Tryz.prog wr = _ := fun ty => Lib.run_next_end_at wr w.heap.size s pos ty hit hp
      have HBW := Aside0.mk hbw
      clear hbw hit
      go_wp2
      go_ret2
      rw [vldF_end s f pos hp] at hv
      exact ⟨by rw [← hv.out]; rfl, HBW.out⟩
end Go.Proofs.YtjepodcgbfejgaaGreatDoor.Hw
