import Derived.Test.YtjepodcgbfejgaaDoorChL
import Derived.Deep.QuietTactic
import Derived.BigQuiet
/- Split, walked: the program's and the document's. -/
namespace Go.Proofs.YtjepodcgbfejgaaDoor.CP
open Go.RowKit Go.Proofs.YtjepodcgbfejgaaDoorW.PrintWords
theorem occ_one (l : List UInt8) (c : UInt8) (i : Nat) : Lib.occAt l [c] i = true ↔ l[i]? = some c := by
  unfold Lib.occAt
  cases h : l[i]? with
  | none =>
    have : l.drop i = [] := List.drop_eq_nil_of_le (by simpa using h)
    rw [this]; simp [List.isPrefixOf]
  | some x =>
    obtain ⟨hi, rfl⟩ := List.getElem?_eq_some_iff.1 h
    rw [List.drop_eq_getElem_cons hi, Option.some.injEq]
    simp only [List.isPrefixOf, Bool.and_true, beq_iff_eq]
    exact eq_comm
theorem cut_hit (l : List UInt8) (c : UInt8) (k : Nat) (h : l[k]? = some c) (hno : ∀ j, j < k → l[j]? ≠ some c) : Lib.cut l [c] = (l.take k, l.drop (k + 1), true) := by
  have hk : k < l.length := (List.getElem?_eq_some_iff.1 h).1
  have : Lib.index l [c] = k := Lib.index_first (by omega) ((occ_one l c k).2 h) (fun j hj => by
    cases ho : Lib.occAt l [c] j with
    | false => rfl
    | true => exact absurd ((occ_one l c j).1 ho) (hno j hj))
  unfold Lib.cut
  rw [this, if_pos (by omega)]
  rfl
theorem cut_miss (l : List UInt8) (c : UInt8) (hno : ∀ j, j < l.length → l[j]? ≠ some c) : Lib.cut l [c] = (l, [], false) := by
  have : Lib.index l [c] = -1 := Lib.index_none (fun j hj => by
    cases ho : Lib.occAt l [c] j with
    | false => rfl
    | true =>
      have h1 := (occ_one l c j).1 ho
      exact absurd h1 (hno j (List.getElem?_eq_some_iff.1 h1).1))
  unfold Lib.cut
  rw [this, if_neg (by omega)]
theorem mk_take (s : ByteArray) (k : Nat) : (⟨(s.data.toList.take k).toArray⟩ : ByteArray) = s.extract 0 k := by
  apply ByteArray.ext
  apply Array.ext'
  simp [ByteArray.data_extract, Array.toList_extract, List.extract_eq_take_drop]
theorem mk_drop (s : ByteArray) (k : Nat) : (⟨(s.data.toList.drop k).toArray⟩ : ByteArray) = s.extract k s.size := by
  apply ByteArray.ext
  apply Array.ext'
  have hz := Lib.size_eq s
  simp only [ByteArray.data_extract, Array.toList_extract, List.extract_eq_take_drop]
  rw [hz, List.take_of_length_le (by simp)]
/-- A name's prefix, and its own name. -/
def splC (C : List UInt8 × List UInt8 × Bool) : ByteArray × ByteArray × Bool :=
  if C.2.2 = true then (if nameB ⟨C.1.toArray⟩ = true then (if nameB ⟨C.2.1.toArray⟩ = true then (⟨C.1.toArray⟩, ⟨C.2.1.toArray⟩, true) else (⟨#[]⟩, ⟨#[]⟩, false)) else (⟨#[]⟩, ⟨#[]⟩, false)) else (⟨#[]⟩, ⟨#[]⟩, false)
def spl (s : ByteArray) : ByteArray × ByteArray × Bool := if nameB s = true then (⟨#[]⟩, s, true) else splC (Lib.cut s.data.toList [58])
def splW (x : ByteArray × ByteArray × Bool) : Value := .tuple #[.string x.1, .string x.2.1, .bool x.2.2]
end Go.Proofs.YtjepodcgbfejgaaDoor.CP
namespace Go.Proofs.YtjepodcgbfejgaaDoor.Hw
open Go.RowKit Go.Proofs.YtjepodcgbfejgaaDoorW.PrintWords Go.Proofs.YtjepodcgbfejgaaDoorW.PrintLast Go.Proofs.YtjepodcgbfejgaaDoorW.PrintMore Go.Proofs.YtjepodcgbfejgaaDoor.PH Go.Proofs.YtjepodcgbfejgaaDoor.CP
set_option linter.unusedVariables false
set_option linter.unusedSimpArgs false
theorem nmW {w0 : World} {x : ByteArray} (hx : x.size ≤ 4000000000) {b : Bool} (hb : nameB x = b) (hC : ChW w0) : Aside0 (∀ w, Aside0 (Below w0.heap.size w0 w) → Calls Tryd.prog 25 #[.string x] w fun e w' => e = .returned (.bool b) ∧ Aside0 (Below w0.heap.size w0 w')) :=
  ⟨onward (w0 := w0) fun w1 hb1 => by have := name_calls x w1 (hC.go hb1) (by unfold maxLen; omega); rw [hb] at this; exact this⟩
theorem rnmW {w0 : World} {x : ByteArray} (hx : x.size ≤ 4000000000) {b : Bool} (hb : nameB x = b) (hC : ChW w0) : Aside0 (∀ w, Aside0 (Below w0.heap.size w0 w) → Calls Tryd.prog 26 #[.string x] w fun e w' => e = .returned (.bool b) ∧ Aside0 (Below w0.heap.size w0 w')) :=
  ⟨onward (w0 := w0) fun w1 hb1 => by have := rname_calls x w1 (hC.go hb1) hx; rw [hb] at this; exact this⟩
theorem cutW {w0 : World} {s : ByteArray} (hs : s.size ≤ 4000000000) (c : UInt8) (hC : ChW w0) {x y : List UInt8} {b : Bool} (h : Lib.cut s.data.toList [c] = (x, y, b)) : Aside0 (∀ w, Aside0 (Below w0.heap.size w0 w) → Calls Tryd.prog 43 #[.string s, .string ⟨#[c]⟩] w fun e w' => e = .returned (.tuple #[.string ⟨x.toArray⟩, .string ⟨y.toArray⟩, .bool b]) ∧ Aside0 (Below w0.heap.size w0 w')) :=
  ⟨fun w hb => (cut_calls s c w (hC.go hb.out) (by omega)).mono fun e w' ⟨h1, h2⟩ => ⟨by rw [h1]; unfold cutU; rw [h], ⟨hb.out.trans (h2.below.mono hb.out.size)⟩⟩⟩
set_option maxRecDepth 100000 in
set_option maxHeartbeats 2000000 in
theorem split_calls (s : ByteArray) (w : World) (hC : ChW w) (hs : s.size ≤ 4000000000) :
    Calls Tryd.prog 23 #[.string s] w fun e w' => e = .returned (splW (spl s)) ∧ Below w.heap.size w w' := by
  have HB0 : Aside0 (Below w.heap.size w w) := ⟨Below.refl _ _⟩
  cases hn : nameB s with
  | true =>
    have HNM := nmW hs hn hC
    have HV : Aside0 (spl s = (⟨#[]⟩, s, true)) := ⟨by unfold spl; rw [if_pos hn]⟩
    clear hC hn
    go_enter Tryd.func23, Tryd.ntmps23
    go_wp2_with (go_at_call 25; refine (HNM.out _ (by assumption)).mono ?_; rintro e w2 ⟨rfl, hb2⟩)
    go_ret3
    exact ⟨by rw [HV.out]; rfl, Aside0.out (by assumption)⟩
  | false =>
    have HNM := nmW hs hn hC
    obtain ⟨C, hCut⟩ : ∃ C, Lib.cut s.data.toList [58] = C := ⟨_, rfl⟩
    obtain ⟨x, y, b⟩ := C
    have HV : Aside0 (spl s = splC (x, y, b)) := ⟨by unfold spl; rw [if_neg (by rw [hn]; decide), hCut]⟩
    have HCT := cutW hs 58 hC hCut
    have hxy : (⟨x.toArray⟩ : ByteArray).size ≤ 4000000000 ∧ (⟨y.toArray⟩ : ByteArray).size ≤ 4000000000 := by
      have hz := Lib.size_eq s
      unfold Lib.cut at hCut
      split at hCut
      · simp only [Prod.mk.injEq] at hCut
        obtain ⟨rfl, rfl, _⟩ := hCut
        simp only [ByteArray.size, List.size_toArray, List.length_take, List.length_drop]
        omega
      · simp only [Prod.mk.injEq] at hCut
        obtain ⟨rfl, rfl, _⟩ := hCut
        simp only [ByteArray.size, List.size_toArray, List.length_nil]
        omega
    have hn0 := hn
    clear hCut hn
    cases b with
    | false =>
      have HV2 : Aside0 (splC (x, y, false) = (⟨#[]⟩, ⟨#[]⟩, false)) := ⟨by unfold splC; rw [if_neg (by simp)]⟩
      clear hC hxy hn0
      go_enter Tryd.func23, Tryd.ntmps23
      go_wp2_with (first
        | (go_at_call 25; refine (HNM.out _ (by assumption)).mono ?_; rintro e w2 ⟨rfl, hb2⟩)
        | (go_at_call 43; refine (HCT.out _ (by assumption)).mono ?_; rintro e w3 ⟨rfl, hb3⟩))
      go_ret3
      exact ⟨by rw [HV.out, HV2.out]; rfl, Aside0.out (by assumption)⟩
    | true =>
      obtain ⟨hx1, hy1⟩ := hxy
      cases hnx : nameB ⟨x.toArray⟩ with
      | false =>
        have HNX := nmW hx1 hnx hC
        have HV2 : Aside0 (splC (x, y, true) = (⟨#[]⟩, ⟨#[]⟩, false)) := ⟨by unfold splC; rw [if_pos rfl, if_neg (by rw [hnx]; decide)]⟩
        generalize (⟨x.toArray⟩ : ByteArray) = X at *
        generalize (⟨y.toArray⟩ : ByteArray) = Y at *
        clear hC hnx hn0
        go_enter Tryd.func23, Tryd.ntmps23
        go_wp2_with (first
          | (go_at_call 25; first | ((with_reducible refine (HNM.out _ (by assumption)).mono ?_); rintro e w2 ⟨rfl, hb2⟩) | ((with_reducible refine (HNX.out _ (by assumption)).mono ?_); rintro e w2 ⟨rfl, hb2⟩))
          | (go_at_call 43; refine (HCT.out _ (by assumption)).mono ?_; rintro e w3 ⟨rfl, hb3⟩))
        go_ret3
        exact ⟨by rw [HV.out, HV2.out]; rfl, Aside0.out (by assumption)⟩
      | true =>
        have HNX := nmW hx1 hnx hC
        cases hny : nameB ⟨y.toArray⟩ with
        | false =>
          have HNY := nmW hy1 hny hC
          have HV2 : Aside0 (splC (x, y, true) = (⟨#[]⟩, ⟨#[]⟩, false)) := ⟨by unfold splC; rw [if_pos rfl, if_pos hnx, if_neg (by rw [hny]; decide)]⟩
          generalize (⟨x.toArray⟩ : ByteArray) = X at *
          generalize (⟨y.toArray⟩ : ByteArray) = Y at *
          clear hC hnx hny hn0
          go_enter Tryd.func23, Tryd.ntmps23
          go_wp2_with (first
            | (go_at_call 25; first | ((with_reducible refine (HNM.out _ (by assumption)).mono ?_); rintro e w2 ⟨rfl, hb2⟩) | ((with_reducible refine (HNX.out _ (by assumption)).mono ?_); rintro e w2 ⟨rfl, hb2⟩) | ((with_reducible refine (HNY.out _ (by assumption)).mono ?_); rintro e w2 ⟨rfl, hb2⟩))
            | (go_at_call 43; refine (HCT.out _ (by assumption)).mono ?_; rintro e w3 ⟨rfl, hb3⟩))
          go_ret3
          exact ⟨by rw [HV.out, HV2.out]; rfl, Aside0.out (by assumption)⟩
        | true =>
          have HNY := nmW hy1 hny hC
          have HV2 : Aside0 (splC (x, y, true) = (⟨x.toArray⟩, ⟨y.toArray⟩, true)) := ⟨by unfold splC; rw [if_pos rfl, if_pos hnx, if_pos hny]⟩
          generalize (⟨x.toArray⟩ : ByteArray) = X at *
          generalize (⟨y.toArray⟩ : ByteArray) = Y at *
          clear hC hnx hny hn0
          go_enter Tryd.func23, Tryd.ntmps23
          go_wp2_with (first
            | (go_at_call 25; first | ((with_reducible refine (HNM.out _ (by assumption)).mono ?_); rintro e w2 ⟨rfl, hb2⟩) | ((with_reducible refine (HNX.out _ (by assumption)).mono ?_); rintro e w2 ⟨rfl, hb2⟩) | ((with_reducible refine (HNY.out _ (by assumption)).mono ?_); rintro e w2 ⟨rfl, hb2⟩))
            | (go_at_call 43; refine (HCT.out _ (by assumption)).mono ?_; rintro e w3 ⟨rfl, hb3⟩))
          go_ret3
          exact ⟨by rw [HV.out, HV2.out]; rfl, Aside0.out (by assumption)⟩
set_option maxRecDepth 100000 in
set_option maxHeartbeats 2000000 in
theorem rsplit_calls (s : ByteArray) (w : World) (hC : ChW w) (hs : s.size ≤ 4000000000) :
    Calls Tryd.prog 24 #[.string s] w fun e w' => e = .returned (splW (spl s)) ∧ Below w.heap.size w w' := by
  have HB0 : Aside0 (Below w.heap.size w w) := ⟨Below.refl _ _⟩
  cases hn : nameB s with
  | true =>
    have HNM := rnmW hs hn hC
    have HV : Aside0 (spl s = (⟨#[]⟩, s, true)) := ⟨by unfold spl; rw [if_pos hn]⟩
    clear hC hn
    go_enter Tryd.func24, Tryd.ntmps24
    go_wp2_with (go_at_call 26; refine (HNM.out _ (by assumption)).mono ?_; rintro e w2 ⟨rfl, hb2⟩)
    go_ret3
    exact ⟨by rw [HV.out]; rfl, Aside0.out (by assumption)⟩
  | false =>
    have HNM := rnmW hs hn hC
    have HV : Aside0 (spl s = splC (Lib.cut s.data.toList [58])) := ⟨by unfold spl; rw [if_neg (by rw [hn]; decide)]⟩
    have HC := Aside0.mk hC
    clear hC hn
    go_enter Tryd.func24, Tryd.ntmps24
    go_wp2_with (go_at_call 26; refine (HNM.out _ (by assumption)).mono ?_; rintro e w2 ⟨rfl, hb2⟩)
    go_loopw [5] (fun i wr => ∃ k : Nat, i = .int .i64 k ∧ k ≤ s.size ∧ Aside0 (Below w.heap.size w wr) ∧ Aside0 (∀ j, j < k → s.data.toList[j]? ≠ some 58)) (fun i _ => s.size - (intOf i).toNat)
    case atStart => exact ⟨0, rfl, by omega, by assumption, ⟨fun j hj => by omega⟩⟩
    case round =>
      obtain ⟨k, rfl, hk, HB, HNO⟩ := hrel
      by_cases hlt : k < s.size
      · have hgk : s.data.toList[k]? = some s[k] := by
          have hz := Lib.size_eq s
          rw [List.getElem?_eq_getElem (by omega)]
          rfl
        have HGK := Aside0.mk hgk
        clear hgk
        generalize hx : s[k] = x at *
        have hsx : s[k] = x := hx
        clear hx
        by_cases h58 : x.toNat = 58
        · have hx8 : x = 58 := UInt8.toNat_inj.1 h58
          have t0 : ((x.toNat : Int) == 58) = true := by simp [h58]
          have t0' : (x.toNat == 58) = true := by simp [h58]
          have HCH : Aside0 (Lib.cut s.data.toList [58] = (s.data.toList.take k, s.data.toList.drop (k + 1), true)) := ⟨cut_hit _ _ k (by rw [HGK.out, hx8]) HNO.out⟩
          have hC := HC.out
          have hX : (s.extract 0 k).size ≤ 4000000000 := by rw [ByteArray.size_extract]; omega
          have hY : (s.extract (k + 1) s.size).size ≤ 4000000000 := by rw [ByteArray.size_extract]; omega
          have H58 := Aside0.mk h58
          clear h58 hx8
          cases hnx : nameB (s.extract 0 k) with
          | false =>
            have HNX := rnmW hX hnx hC
            have HV2 : Aside0 (splC (s.data.toList.take k, s.data.toList.drop (k + 1), true) = (⟨#[]⟩, ⟨#[]⟩, false)) := ⟨by unfold splC; rw [if_pos rfl, mk_take, mk_drop, if_neg (by rw [hnx]; decide)]⟩
            clear hC hX hY hnx
            go_wp2_with (go_at_call 26; ((with_reducible refine (HNX.out _ (by assumption)).mono ?_); rintro e w2 ⟨rfl, hb2⟩))
            go_ret3
            exact ⟨by rw [HV.out, HCH.out, HV2.out]; rfl, Aside0.out (by assumption)⟩
          | true =>
            have HNX := rnmW hX hnx hC
            cases hny : nameB (s.extract (k + 1) s.size) with
            | false =>
              have HNY := rnmW hY hny hC
              have HV2 : Aside0 (splC (s.data.toList.take k, s.data.toList.drop (k + 1), true) = (⟨#[]⟩, ⟨#[]⟩, false)) := ⟨by unfold splC; rw [if_pos rfl, mk_take, mk_drop, if_pos hnx, if_neg (by rw [hny]; decide)]⟩
              clear hC hX hY hnx hny
              go_wp2_with (go_at_call 26; first | ((with_reducible refine (HNX.out _ (by assumption)).mono ?_); rintro e w2 ⟨rfl, hb2⟩) | ((with_reducible refine (HNY.out _ (by assumption)).mono ?_); rintro e w2 ⟨rfl, hb2⟩))
              go_ret3
              exact ⟨by rw [HV.out, HCH.out, HV2.out]; rfl, Aside0.out (by assumption)⟩
            | true =>
              have HNY := rnmW hY hny hC
              have HV2 : Aside0 (splC (s.data.toList.take k, s.data.toList.drop (k + 1), true) = (s.extract 0 k, s.extract (k + 1) s.size, true)) := ⟨by unfold splC; rw [if_pos rfl, mk_take, mk_drop, if_pos hnx, if_pos hny]⟩
              clear hC hX hY hnx hny
              go_wp2_with (go_at_call 26; first | ((with_reducible refine (HNX.out _ (by assumption)).mono ?_); rintro e w2 ⟨rfl, hb2⟩) | ((with_reducible refine (HNY.out _ (by assumption)).mono ?_); rintro e w2 ⟨rfl, hb2⟩))
              go_quiet (fail)
              go_wp2
              go_ret3
              exact ⟨by rw [HV.out, HCH.out, HV2.out]; rfl, pw_below_drewN (Aside0.out (by assumption)) _⟩
        · have t0 : ((x.toNat : Int) == 58) = false := by simp; omega
          have t0' : (x.toNat == 58) = false := by simp [h58]
          have HNO2 : Aside0 (∀ j, j < k + 1 → s.data.toList[j]? ≠ some 58) := ⟨fun j hj => by
            by_cases hjk : j = k
            · subst hjk
              rw [HGK.out]
              intro e
              have := Option.some.inj e
              exact h58 (by rw [this]; rfl)
            · exact HNO.out j (by omega)⟩
          have H58 := Aside0.mk h58
          clear h58
          go_wp2
          go_roundw
          case rel => exact ⟨k + 1, by go_num, by omega, HB, HNO2⟩
          case measure =>
            simp only [intOf]
            omega
      · have HV2 : Aside0 (splC (Lib.cut s.data.toList [58]) = (⟨#[]⟩, ⟨#[]⟩, false)) := ⟨by
          have hz := Lib.size_eq s
          rw [cut_miss _ _ (fun j hj => HNO.out j (by omega))]
          unfold splC
          rw [if_neg (by simp)]⟩
        go_wp2
        go_ret3
        exact ⟨by rw [HV.out, HV2.out]; rfl, HB.out⟩
end Go.Proofs.YtjepodcgbfejgaaDoor.Hw
