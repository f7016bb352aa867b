import Derived.Test.YtjepodcgbfejgaaDoorChRv
/- The document's texts of the characters, walked: which runes there are, and where. -/
namespace Go.Proofs.YtjepodcgbfejgaaDoor.CP
open Go.RowKit Go.Proofs.YtjepodcgbfejgaaDoorW.PrintWords
def runesF (s : ByteArray) : Nat → Nat → List Int
  | 0, _ => []
  | f + 1, p => if p < s.size then ((Utf8.decode s p).1 : Int) :: runesF s f (p + (Utf8.decode s p).2) else []
def placesF (s : ByteArray) : Nat → Nat → List Int
  | 0, _ => []
  | f + 1, p => if p < s.size then (p : Int) :: placesF s f (p + (Utf8.decode s p).2) else []
def endF (s : ByteArray) : Nat → Nat → Nat
  | 0, p => p
  | f + 1, p => if p < s.size then endF s f (p + (Utf8.decode s p).2) else p
def runesL (s : ByteArray) : List Int := runesF s s.size 0
def placesL (s : ByteArray) : List Int := placesF s s.size 0
theorem runesF_end (s : ByteArray) (f p : Nat) (h : ¬ p < s.size) : runesF s f p = [] := by cases f <;> simp [runesF, h]
theorem placesF_end (s : ByteArray) (f p : Nat) (h : ¬ p < s.size) : placesF s f p = [] := by cases f <;> simp [placesF, h]
theorem runesF_len (s : ByteArray) : ∀ f p, (runesF s f p).length ≤ s.size - p
  | 0, p => by simp [runesF]
  | f + 1, p => by
    unfold runesF
    split
    · rename_i h
      have := runesF_len s f (p + (Utf8.decode s p).2)
      have := Lib.decode_width_pos s p h
      simp only [List.length_cons]; omega
    · simp
theorem placesF_len (s : ByteArray) : ∀ f p, (placesF s f p).length = (runesF s f p).length
  | 0, p => rfl
  | f + 1, p => by
    unfold placesF runesF
    split
    · simp only [List.length_cons, placesF_len s f]
    · rfl
end Go.Proofs.YtjepodcgbfejgaaDoor.CP
namespace Go.Proofs.YtjepodcgbfejgaaDoor.Hw
open Go.RowKit Go.Proofs.YtjepodcgbfejgaaDoorW.PrintWords Go.Proofs.YtjepodcgbfejgaaDoorW.PrintLast Go.Proofs.YtjepodcgbfejgaaDoorW.PrintMore Go.Proofs.YtjepodcgbfejgaaDoor.PH Go.Proofs.YtjepodcgbfejgaaDoor.CP
set_option linter.unusedVariables false
set_option linter.unusedSimpArgs false
theorem infoR4 : (Tryd.prog.info? 21).map (fun i => (i.zero, i.size, i.bytes)) = some (some (.int .i32 0), 1, 4) := by kernel_rfl
theorem infoI8 : (Tryd.prog.info? 3).map (fun i => (i.zero, i.size, i.bytes)) = some (some (.int .i64 0), 1, 8) := by kernel_rfl
set_option maxRecDepth 100000 in
set_option maxHeartbeats 2000000 in
theorem runes_calls (s : ByteArray) (w : World) (hC : ChW w) (hs : s.size ≤ 4000000000) :
    Calls Tryd.prog 18 #[.string s] w fun e w' => ∃ A c, e = .returned (.slice A (runesL s).length c) ∧ Kd.R (Kd.int .i32) 21 w' w.heap.size (fun _ => True) (.slice A (runesL s).length c) (runesL s) ∧ Below w.heap.size w w' := by
  have HC := Aside0.mk hC
  clear hC
  go_enter Tryd.func18, Tryd.ntmps18
  go_wp2
  go_loopw [3, 4] (fun l i wr => ∃ (pos f : Nat) (xs : List Int) (A : Option Addr) (c : Nat), l = .slice A xs.length c ∧ i = .int .i64 pos ∧ Aside0 (Kd.R (Kd.int .i32) 21 wr w.heap.size (fun _ => True) (.slice A xs.length c) xs) ∧ Aside0 (Below w.heap.size w wr) ∧ Aside0 (xs ++ runesF s f pos = runesL s) ∧ s.size ≤ pos + f ∧ pos ≤ s.size ∧ xs.length ≤ pos) (fun l i wr => s.size - (intOf i).toNat)
  case atStart => exact ⟨0, s.size, [], none, 0, rfl, rfl, ⟨Kd.R_nil _ _ _ _ _⟩, ⟨Below.refl _ _⟩, ⟨rfl⟩, by omega, by omega, by simp⟩
  case round =>
    obtain ⟨pos, f, xs, A, c, rfl, rfl, HR, HB, HV, hf, hps, hxl⟩ := hrel
    by_cases hp : pos < s.size
    · have hwd := Lib.decode_width_pos s pos hp
      have hle : pos + (Utf8.decode s pos).2 ≤ s.size := decode_in s pos hp
      obtain ⟨g, rfl⟩ : ∃ g, f = g + 1 := ⟨f - 1, by omega⟩
      have HST : Aside0 (runesF s (g + 1) pos = ((Utf8.decode s pos).1 : Int) :: runesF s g (pos + (Utf8.decode s pos).2)) := ⟨by rw [runesF, if_pos hp]⟩
      have HC2 := Aside0.mk (HC.out.go HB.out)
      go_wp2_with fail
      refine (dec_calls s pos wr HC2.out hp).mono ?_
      rintro e w1 ⟨rfl, hb1⟩
      have HB1 := Aside0.mk (HB.out.trans (hb1.mono HB.out.size))
      have HR1 := Aside0.mk (Kd.R_below HR.out hb1)
      clear hb1
      generalize hR : (Utf8.decode s pos).1 = R at *
      generalize hK : (Utf8.decode s pos).2 = K at *
      have HR0 := Aside0.mk hR
      have HK0 := Aside0.mk hK
      clear hR hK
      go_wp2_with (refine Kd.R_append (Kd.int .i32) (w0 := w) w.heap.size rfl _ _ 24 21 (.int .i32 0) 4 rfl Tryd.underlying24 infoR4 rfl (by decide) (by decide) (.slice A xs.length c) xs (R : Int) [.int .i32 R] (fun _ => True) (fun _ => False) rfl rfl rfl (fun _ h => h.elim) (fun _ _ => trivial) HR1.out HB1.out HB1.out.size (by omega) ?_; intro v3 w3 hv3 hb3 hg3 hat3; obtain ⟨A3, c3, rfl, hc3, _⟩ := Kd.R_reads hv3; have HV3 := Aside0.mk hv3; have HB3 := Aside0.mk hb3; clear hv3 hb3 hg3 hat3)
      go_roundw
      case rel =>
        exact ⟨pos + K, g, xs ++ [(R : Int)], A3, c3, by rw [List.length_append]; rfl, by go_num, HV3, HB3, ⟨by rw [← HV.out, HST.out]; simp⟩, by omega, by omega, by simp; omega⟩
      case measure =>
        simp only [intOf]
        omega
    · go_wp2
      go_ret
      rw [runesF_end s f pos hp] at HV
      have h := HV.out
      rw [List.append_nil] at h
      have h2 := HR.out
      subst h
      exact ⟨_, _, rfl, h2, HB.out⟩
set_option maxRecDepth 100000 in
set_option maxHeartbeats 2000000 in
theorem places_calls (s : ByteArray) (w : World) (hC : ChW w) (hs : s.size ≤ 4000000000) :
    Calls Tryd.prog 19 #[.string s] w fun e w' => ∃ A c, e = .returned (.slice A (placesL s ++ [(s.size : Int)]).length c) ∧ Kd.R (Kd.int .i64) 3 w' w.heap.size (fun _ => True) (.slice A (placesL s ++ [(s.size : Int)]).length c) (placesL s ++ [(s.size : Int)]) ∧ Below w.heap.size w w' := by
  have HC := Aside0.mk hC
  clear hC
  go_enter Tryd.func19, Tryd.ntmps19
  go_wp2
  go_loopw [3, 4] (fun l i wr => ∃ (pos f : Nat) (xs : List Int) (A : Option Addr) (c : Nat), l = .slice A xs.length c ∧ i = .int .i64 pos ∧ Aside0 (Kd.R (Kd.int .i64) 3 wr w.heap.size (fun _ => True) (.slice A xs.length c) xs) ∧ Aside0 (Below w.heap.size w wr) ∧ Aside0 (xs ++ placesF s f pos = placesL s) ∧ s.size ≤ pos + f ∧ pos ≤ s.size ∧ xs.length ≤ pos) (fun l i wr => s.size - (intOf i).toNat)
  case atStart => exact ⟨0, s.size, [], none, 0, rfl, rfl, ⟨Kd.R_nil _ _ _ _ _⟩, ⟨Below.refl _ _⟩, ⟨rfl⟩, by omega, by omega, by simp⟩
  case round =>
    obtain ⟨pos, f, xs, A, c, rfl, rfl, HR, HB, HV, hf, hps, hxl⟩ := hrel
    by_cases hp : pos < s.size
    · have hwd := Lib.decode_width_pos s pos hp
      have hle : pos + (Utf8.decode s pos).2 ≤ s.size := decode_in s pos hp
      obtain ⟨g, rfl⟩ : ∃ g, f = g + 1 := ⟨f - 1, by omega⟩
      have HST : Aside0 (placesF s (g + 1) pos = (pos : Int) :: placesF s g (pos + (Utf8.decode s pos).2)) := ⟨by rw [placesF, if_pos hp]⟩
      go_wp2_with (refine Kd.R_append (Kd.int .i64) (w0 := w) w.heap.size rfl _ _ 26 3 (.int .i64 0) 8 rfl Tryd.underlying26 infoI8 rfl (by decide) (by decide) (.slice A xs.length c) xs (pos : Int) [.int .i64 pos] (fun _ => True) (fun _ => False) rfl rfl rfl (fun _ h => h.elim) (fun _ _ => trivial) HR.out HB.out HB.out.size (by omega) ?_; intro v3 w3 hv3 hb3 hg3 hat3; obtain ⟨A3, c3, rfl, hc3, _⟩ := Kd.R_reads hv3; have HV3 := Aside0.mk hv3; have HB3 := Aside0.mk hb3; clear hv3 hb3 hg3 hat3)
      have HC2 := Aside0.mk (HC.out.go HB3.out)
      refine (dec_calls s pos w3 HC2.out hp).mono ?_
      rintro e w1 ⟨rfl, hb1⟩
      have HB1 := Aside0.mk (HB3.out.trans (hb1.mono HB3.out.size))
      have HR1 := Aside0.mk (Kd.R_below HV3.out hb1)
      clear hb1
      generalize hR : (Utf8.decode s pos).1 = R at *
      generalize hK : (Utf8.decode s pos).2 = K at *
      have HR0 := Aside0.mk hR
      have HK0 := Aside0.mk hK
      clear hR hK
      go_wp2
      go_roundw
      case rel =>
        exact ⟨pos + K, g, xs ++ [(pos : Int)], A3, c3, by rw [List.length_append]; rfl, by go_num, HR1, HB1, ⟨by rw [← HV.out, HST.out]; simp⟩, by omega, by omega, by simp; omega⟩
      case measure =>
        simp only [intOf]
        omega
    · obtain rfl : pos = s.size := by omega
      go_wp2_with (refine Kd.R_append (Kd.int .i64) (w0 := w) w.heap.size rfl _ _ 26 3 (.int .i64 0) 8 rfl Tryd.underlying26 infoI8 rfl (by decide) (by decide) (.slice A xs.length c) xs (s.size : Int) [.int .i64 s.size] (fun _ => True) (fun _ => False) rfl rfl rfl (fun _ h => h.elim) (fun _ _ => trivial) HR.out HB.out HB.out.size (by omega) ?_; intro v3 w3 hv3 hb3 hg3 hat3; obtain ⟨A3, c3, rfl, hc3, _⟩ := Kd.R_reads hv3; have HV3 := Aside0.mk hv3; have HB3 := Aside0.mk hb3; clear hv3 hb3 hg3 hat3)
      go_ret
      rw [placesF_end s f _ hp] at HV
      have h := HV.out
      rw [List.append_nil] at h
      have h2 := HV3.out
      subst h
      exact ⟨_, _, by rw [List.length_append]; rfl, by rw [List.length_append] at h2 ⊢; exact h2, HB3.out⟩
end Go.Proofs.YtjepodcgbfejgaaDoor.Hw
