import Derived.Test.YtjbcdfbgbocblaaDoorShN
import Derived.Lib.IndexAny
/- A sheet's name, walked: the library's ContainsAny at the eight signs. -/
namespace Go.Proofs.YtjbcdfbgbocblaaDoor.CP
open Go.RowKit
set_option linter.unusedVariables false
theorem decodeN_valid (n b0 b1 b2 b3 : Nat) : 128 ≤ (Lib.decodeN n b0 b1 b2 b3).1 → ¬ (Lib.decodeN n b0 b1 b2 b3).1 = 65533 → ((Lib.decodeN n b0 b1 b2 b3).1 < 55296 ∨ (57343 < (Lib.decodeN n b0 b1 b2 b3).1 ∧ (Lib.decodeN n b0 b1 b2 b3).1 ≤ 1114111)) ∧ (Lib.decodeN n b0 b1 b2 b3).1 ≤ 1114111 := by
  unfold Lib.decodeN
  repeat' split
  all_goals (intro h h2; simp only [] at h h2 ⊢; omega)
theorem dec_valid (s : ByteArray) (p : Nat) (h : 128 ≤ (Utf8.decode s p).1) (h2 : ¬ (Utf8.decode s p).1 = 65533) : Lib.validRune ((Utf8.decode s p).1 : Int) = true ∧ (Utf8.decode s p).1 ≤ 1114111 := by
  rw [Lib.decode_at] at h h2 ⊢
  obtain ⟨h3, h4⟩ := decodeN_valid _ _ _ _ _ h h2
  exact ⟨decide_eq_true (by omega), h4⟩
theorem enc_facts (r : Int) (h : 128 ≤ r) (hv : Lib.validRune r = true) :
    ((Utf8.encode r).size = 2 ∧ 128 ≤ ((Utf8.encode r)[1]!).toNat) ∨ ((Utf8.encode r).size = 3 ∧ 128 ≤ ((Utf8.encode r)[2]!).toNat) ∨ ((Utf8.encode r).size = 4 ∧ 128 ≤ ((Utf8.encode r)[3]!).toNat) := by
  have hv2 : Utf8.valid r = true := by
    unfold Lib.validRune at hv
    have := of_decide_eq_true hv
    unfold Utf8.valid
    simp only [Bool.or_eq_true, Bool.and_eq_true, decide_eq_true_eq]
    omega
  have hl : ∀ n : Nat, 128 ≤ (UInt8.ofNat (128 + n % 64)).toNat := fun n => by
    rw [UInt8.toNat_ofNat']
    omega
  unfold Utf8.encode
  rw [hv2]
  simp only [if_true]
  have h0 : ¬ r.toNat < 128 := by omega
  rw [if_neg h0]
  repeat' split
  · exact .inl ⟨rfl, hl _⟩
  · exact .inr (.inl ⟨rfl, hl _⟩)
  · exact .inr (.inr ⟨rfl, hl _⟩)
/-- It is none of the eight signs. -/
def PQ (r : Int) : Bool := decide (128 ≤ r) || !qs.contains r.toNat.toUInt8
theorem PQ_far (r : Int) (h : 128 ≤ r) : PQ r = true := by unfold PQ; rw [decide_eq_true h]; rfl
theorem qs_low : ∀ b ∈ qs, b.toNat < 128 := by decide
theorem PQ_bytes (l : List UInt8) : l.all (fun b => decide (128 ≤ b.toNat) || PQ (b.toNat : Int)) = l.all (fun b => !qs.contains b) := by
  congr 1
  funext b
  unfold PQ
  have e : ((b.toNat : Int)).toNat.toUInt8 = b := by simp
  rw [e]
  by_cases h : 128 ≤ b.toNat
  · have hn : qs.contains b = false := by
      cases hc : qs.contains b with
      | false => rfl
      | true =>
        have := qs_low b (by simpa using hc)
        omega
    rw [hn]; simp [h]
  · rw [decide_eq_false h, decide_eq_false (by omega)]; rfl
theorem idxAny_all : ∀ l : List UInt8, decide (0 ≤ Lib.indexAny l qs) = !l.all (fun b => !qs.contains b)
  | [] => by decide
  | b :: l => by
    have ih := idxAny_all l
    have hge := Lib.indexAny_ge qs l
    rw [Lib.indexAny, List.all_cons]
    by_cases hc : qs.contains b = true
    · rw [if_pos hc, hc]; rfl
    · rw [if_neg hc, Bool.not_eq_true] at *
      rw [hc, Bool.not_false, Bool.true_and, ← ih]
      by_cases h1 : Lib.indexAny l qs = -1
      · rw [h1]; rfl
      · rw [if_neg (by simpa using h1), decide_eq_true (by omega), decide_eq_true (by omega)]
theorem ixb_sign (c : UInt8) : decide (0 ≤ Lib.indexByte qs c) = qs.contains c := by
  by_cases h : qs.contains c = true
  · rw [h]
    refine decide_eq_true ?_
    have hge := Lib.indexByte_ge qs c
    rcases Int.lt_or_le (Lib.indexByte qs c) 0 with h1 | h1
    · exfalso
      have hno := Lib.indexByte_none (l := qs) (c := c) (by omega)
      obtain ⟨k, hk, he⟩ := List.getElem_of_mem (show c ∈ qs by simpa using h)
      exact hno k (by rw [List.getElem?_eq_getElem hk, he])
    · exact h1
  · rw [Bool.not_eq_true] at h
    rw [h]
    refine decide_eq_false (fun h1 => ?_)
    obtain ⟨o, ho⟩ : ∃ o : Nat, Lib.indexByte qs c = o := ⟨(Lib.indexByte qs c).toNat, by omega⟩
    have hm := List.mem_of_getElem? (Lib.indexByte_some ho).1
    have : qs.contains c = true := by simpa using hm
    rw [h] at this
    cases this
end Go.Proofs.YtjbcdfbgbocblaaDoor.CP
namespace Go.Proofs.YtjbcdfbgbocblaaDoor.Hw
open Go.RowKit Go.Proofs.YtjbcdfbgbocblaaDoorW.PrintWords Go.Proofs.YtjbcdfbgbocblaaDoorW.PrintLast Go.Proofs.YtjbcdfbgbocblaaDoorW.PrintMore Go.Proofs.YtjbcdfbgbocblaaDoor.PH Go.Proofs.YtjbcdfbgbocblaaDoor.CP
set_option linter.unusedVariables false
set_option linter.unusedSimpArgs false
theorem bang_get (E : ByteArray) (i : Nat) (h : i < E.size) : E[i]! = E[i] := getElem!_pos E i h
theorem ixr_calls (s : ByteArray) (p : Nat) (w : World) : Calls Tryd.prog 65 #[.string Qs, .int .i32 ((Utf8.decode s p).1 : Int)] w fun e w' => (∃ v : Int, e = .returned (.int .i64 v) ∧ decide (0 ≤ v) = !PQ ((Utf8.decode s p).1 : Int)) ∧ Below w.heap.size w w' := by
  by_cases h0 : (Utf8.decode s p).1 < 128
  · refine (Tryd.strings_IndexRune_ascii Qs ((Utf8.decode s p).1 : Int) w (by omega) (by omega)).mono ?_
    rintro e w' ⟨rfl, rfl⟩
    refine ⟨⟨_, rfl, ?_⟩, Below.refl _ _⟩
    show decide (0 ≤ Lib.indexByte qs _) = _
    rw [ixb_sign]
    unfold PQ
    rw [decide_eq_false (by omega), Bool.false_or, Bool.not_not]
  · have hP : (!PQ ((Utf8.decode s p).1 : Int)) = false := by rw [PQ_far _ (by omega)]; rfl
    have hv1 : decide ((0 : Int) ≤ -1) = !PQ ((Utf8.decode s p).1 : Int) := by rw [hP]; rfl
    by_cases h1 : (Utf8.decode s p).1 = 65533
    · rw [h1] at hv1 ⊢
      exact (ixr_err w).mono fun e w' ⟨he, hb⟩ => ⟨⟨-1, he, hv1⟩, hb⟩
    · obtain ⟨hv, hm⟩ := dec_valid s p (by omega) h1
      rcases enc_facts _ (by omega) hv with ⟨hz, hl⟩ | ⟨hz, hl⟩ | ⟨hz, hl⟩
      · rw [bang_get _ 1 (by omega)] at hl
        exact (ixr_far2 _ _ (by omega) (by omega) (by omega) rfl hv hz hl w).mono fun e w' ⟨he, hb⟩ => ⟨⟨-1, he, hv1⟩, hb⟩
      · rw [bang_get _ 2 (by omega)] at hl
        exact (ixr_far3 _ _ (by omega) (by omega) (by omega) rfl hv hz hl w).mono fun e w' ⟨he, hb⟩ => ⟨⟨-1, he, hv1⟩, hb⟩
      · rw [bang_get _ 3 (by omega)] at hl
        exact (ixr_far4 _ _ (by omega) (by omega) (by omega) rfl hv hz hl w).mono fun e w' ⟨he, hb⟩ => ⟨⟨-1, he, hv1⟩, hb⟩
/-- The search in a short text: what its sign says. -/
def SignOf (b : Bool) (w : World) (e : Ending) (w' : World) : Prop := (∃ v : Int, e = .returned (.int .i64 v) ∧ decide (0 ≤ v) = b) ∧ Below w.heap.size w w'
set_option maxRecDepth 100000 in
set_option maxHeartbeats 4000000 in
theorem ixa_short (s : ByteArray) (w : World) (hs : s.size ≤ 8) : Calls Tryd.prog 53 #[.string s, .string Qs] w (SignOf (!allR PQ s s.size 0) w) := by
  have hsa := fun w => Tryd.strings_shouldUseASCIISet (s.size : Int) w
  rw [decide_eq_false (by omega)] at hsa
  have HSA := Aside0.mk hsa
  clear hsa
  go_enter Tryd.func53, Tryd.ntmps53
  go_wp2_with (go_at_call 66; refine (HSA.out _).mono ?_; rintro e w' ⟨rfl, hw'⟩; have hw2 := hw'.symm; subst hw2)
  go_loopw [] (fun wr => ∃ (pos f : Nat), wr.heap[w.heap.size]? = some (.stringIter s pos) ∧ Aside0 (Below w.heap.size w wr) ∧ Aside0 (allR PQ s f pos = allR PQ s s.size 0) ∧ s.size ≤ pos + f) (fun wr => s.size - wr.iterPos w.heap.size)
  case atStart => exact ⟨0, s.size, World.iter_heap w s 0, ⟨(Below.refl _ w).alloc (Nat.le_refl _) _⟩, ⟨rfl⟩, by omega⟩
  case round =>
    obtain ⟨pos, f, hit, HB, HN, hf⟩ := hrel
    have HIT := Aside0.mk hit
    have hsz : w.heap.size < wr.heap.size := (Array.getElem?_eq_some_iff.1 hit).1
    by_cases hp : pos < s.size
    · have hnx : ∀ ty, (Instr.next (.pointer (some ⟨w.heap.size, 0, none⟩)) true ty).run Tryd.prog wr = _ := fun ty => Lib.run_next_any_at wr w.heap.size s pos ty hit hp
      have hwd := Lib.decode_width_pos s pos hp
      obtain ⟨g, rfl, hst, hg⟩ := allR_step PQ s f pos hp hf
      have HST := Aside0.mk hst
      have HIT2 := Aside0.mk (Lib.iterAt_heap wr w.heap.size s pos (pos + (Utf8.decode s pos).2) hit)
      have HBW2 := Aside0.mk (Lib.below_iterAt HB.out (k := w.heap.size) (Nat.le_refl _) s (pos + (Utf8.decode s pos).2))
      have HIX := Aside0.mk (ixr_calls s pos)
      clear hit hst
      generalize hW : wr.iterAt w.heap.size s (pos + (Utf8.decode s pos).2) = W at *
      generalize hR : (Utf8.decode s pos).1 = R at *
      generalize hK : (Utf8.decode s pos).2 = K at *
      have HR0 := Aside0.mk hR
      have HK0 := Aside0.mk hK
      clear hR hK hW
      go_wp2_with fail
      refine (HIX.out _).mono ?_
      rintro e w3 ⟨⟨v, rfl, hv⟩, hb3⟩
      have HB3 := Aside0.mk (HBW2.out.trans (hb3.mono HBW2.out.size))
      have HIT3 : Aside0 (w3.heap[w.heap.size]? = some (.stringIter s (pos + K))) := ⟨(hb3.block _ (Array.getElem?_eq_some_iff.1 HIT2.out).1).trans HIT2.out⟩
      have HVV := Aside0.mk hv
      clear hb3 hv
      by_cases h0 : 0 ≤ v
      · have t1 : decide (0 ≤ v) = true := decide_eq_true h0
        go_wp2
        go_ret
        refine ⟨⟨_, rfl, ?_⟩, HB3.out⟩
        have h1 := HST.out
        have h2 := HVV.out
        rw [t1] at h2
        rw [show PQ (R : Int) = false from by simpa using h2.symm, Bool.false_and, HN.out] at h1
        rw [h1]
        exact decide_eq_true (by omega)
      · have t1 : decide (0 ≤ v) = false := decide_eq_false h0
        go_wp2
        go_roundw
        case rel =>
          have h1 := HST.out
          have h2 := HVV.out
          rw [t1] at h2
          rw [show PQ (R : Int) = true from by simpa using h2.symm, Bool.true_and, HN.out] at h1
          exact ⟨pos + K, g, HIT3.out, HB3, ⟨h1.symm⟩, hg⟩
        case measure =>
          simp only [World.iterPos, HIT3.out, HIT.out]
          omega
    · have hnx : ∀ ty, (Instr.next (.pointer (some ⟨w.heap.size, 0, none⟩)) true ty).run Tryd.prog wr = _ := fun ty => Lib.run_next_end_at wr w.heap.size s pos ty hit hp
      clear hit
      go_wp2
      go_ret
      refine ⟨⟨-1, rfl, ?_⟩, HB.out⟩
      rw [← HN.out, allR_end PQ s f pos hp]
      rfl
end Go.Proofs.YtjbcdfbgbocblaaDoor.Hw
