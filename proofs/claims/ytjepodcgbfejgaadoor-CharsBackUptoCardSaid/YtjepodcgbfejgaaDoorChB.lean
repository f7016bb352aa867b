import Derived.Test.YtjepodcgbfejgaaDoorChV
import Derived.Laws.IdiomStrings
/- Letters made large and small, walked: the program's and the document's. -/
namespace Go.Proofs.YtjepodcgbfejgaaDoor.Hw
open Go.RowKit Go.Proofs.YtjepodcgbfejgaaDoorW.PrintWords Go.Proofs.YtjepodcgbfejgaaDoorW.PrintLast Go.Proofs.YtjepodcgbfejgaaDoorW.PrintMore Go.Proofs.YtjepodcgbfejgaaDoor.PH Go.Proofs.YtjepodcgbfejgaaDoor.CP
set_option linter.unusedVariables false
set_option linter.unusedSimpArgs false
/-- A row of bytes at block g: the numbers zs, and whatever behind them; its last place but one bears the mark of a text's copy. -/
def BRow (w : World) (g : Nat) (zs : List Int) : Prop := ∃ C : Array Value, w.heap[g]? = some (.cells C 5 (C.size, C.size + 1)) ∧ zs.length ≤ C.size ∧ ∀ j, j < zs.length → C[j]? = some (.int .u8 (zs.getD j 0))
theorem BRow.cell {w : World} {g : Nat} {zs : List Int} (h : BRow w g zs) {j : Nat} (hj : j < zs.length) : w.cell? ⟨g, j, none⟩ = some (.int .u8 (zs.getD j 0)) := by
  obtain ⟨C, hb, hl, hc⟩ := h
  unfold World.cell?
  simp only [hb]
  simpa using hc j hj
theorem BRow.frozen {w : World} {g : Nat} {zs : List Int} (h : BRow w g zs) {j : Nat} (hj : j < zs.length) : w.frozen? ⟨g, j, none⟩ = false := by
  obtain ⟨C, hb, hl, hc⟩ := h
  unfold World.frozen?
  simp only [hb]
  simp
  omega
theorem BRow.lt {w : World} {g : Nat} {zs : List Int} (h : BRow w g zs) : g < w.heap.size := by
  obtain ⟨C, hb, _⟩ := h
  exact (Array.getElem?_eq_some_iff.1 hb).1
theorem BRow.set {w : World} {g : Nat} {zs : List Int} (h : BRow w g zs) {j : Nat} (hj : j < zs.length) (x : Int) : BRow (w.setCell ⟨g, j, none⟩ (.int .u8 x)) g (zs.set j x) := by
  obtain ⟨C, hb, hl, hc⟩ := h
  have hb2 : (w.setCell ⟨g, j, none⟩ (.int .u8 x)).heap[g]? = some (.cells (C.setIfInBounds j (.int .u8 x)) 5 (C.size, C.size + 1)) := by simp [World.setCell, Array.getElem?_modify, hb]
  refine ⟨C.setIfInBounds j (.int .u8 x), by rw [Array.size_setIfInBounds]; exact hb2, by rw [List.length_set, Array.size_setIfInBounds]; exact hl, fun i hi => ?_⟩
  rw [List.length_set] at hi
  rw [Array.getElem?_setIfInBounds]
  by_cases e : j = i
  · subst e
    simp [show j < C.size by omega, List.getD_eq_getElem?_getD, hj]
  · rw [if_neg e, hc i hi, List.getD_eq_getElem?_getD, List.getD_eq_getElem?_getD, List.getElem?_set_ne e]
theorem BRow.drewN {w : World} {g : Nat} {zs : List Int} (h : BRow w g zs) (n : Nat) : BRow (w.drewN n) g zs := h
theorem BRow.back {w : World} {g cap : Nat} {zs : List Int} (h : BRow w g zs) (hr : ∀ z ∈ zs, 0 ≤ z ∧ z ≤ 255) :
    (convert 54 9 (.slice (some ⟨g, 0, none⟩) zs.length cap)).run Tryd.prog w = .ok (.string ⟨(zs.map fun z => z.toNat.toUInt8).toArray⟩) w := by
  have := run_convert_bytes_back (P := Tryd.prog) w 54 9 5 ⟨g, 0, none⟩ cap (zs.map fun z => z.toNat.toUInt8) Tryd.underlying54 Tryd.underlying5 Tryd.underlying9 (fun j hj => by
    rw [List.length_map] at hj
    have hc := h.cell hj
    have hz := hr zs[j] (List.getElem_mem hj)
    rw [Addr.add_lit, Nat.zero_add, hc]
    simp only [List.getElem_map, List.getD_eq_getElem?_getD, List.getElem?_eq_getElem hj, Option.getD_some]
    congr 2
    have : (zs[j].toNat.toUInt8).toNat = zs[j].toNat := by simp [UInt8.toNat_ofNat]; omega
    rw [this]
    omega)
  rw [List.length_map] at this
  exact this
/-- The bytes of a text, as numbers. -/
def bnums (s : ByteArray) : List Int := s.data.toList.map fun b => (b.toNat : Int)
theorem bnums_len (s : ByteArray) : (bnums s).length = s.size := by unfold bnums; rw [List.length_map, Lib.size_eq]
theorem bnums_range (s : ByteArray) : ∀ z ∈ bnums s, 0 ≤ z ∧ z ≤ 255 := by
  intro z hz
  unfold bnums at hz
  obtain ⟨b, _, rfl⟩ := List.mem_map.1 hz
  have := b.toNat_lt
  omega
theorem bytes_new (s : ByteArray) (w : World) : ∃ (C : Array Value) (cap : Nat), (convert 9 54 (.string s)).run Tryd.prog w = .ok (.slice (some ⟨w.heap.size, 0, none⟩) s.size cap) (w.drew.alloc (.cells C 5 (C.size, C.size + 1))) ∧
    s.size ≤ cap ∧ ∀ w' : World, w'.heap.size = w.heap.size → BRow (w'.alloc (.cells C 5 (C.size, C.size + 1))) w.heap.size (bnums s) := by
  have hrun := run_bytes_of_string (P := Tryd.prog) w 9 54 5 s Tryd.underlying9 Tryd.underlying54 Tryd.underlying5
  refine ⟨bytesRow s (grownCap w s.size 0 5), grownCap w s.size 0 5, hrun, grownCap_ge _ _ _ _, fun w' hw => ⟨bytesRow s (grownCap w s.size 0 5), ?_, ?_, fun j hj => ?_⟩⟩
  · show (w'.heap.push _)[w.heap.size]? = _
    rw [← hw]; simp
  · rw [bnums_len]; unfold bytesRow; rw [Array.size_append, Array.size_map]; exact Nat.le_add_right _ _
  · rw [bnums_len] at hj
    unfold bytesRow bnums
    have hj2 : j < s.data.size := hj
    rw [Array.getElem?_append_left (by rw [Array.size_map]; exact hj2), Array.getElem?_map, Array.getElem?_eq_getElem hj2]
    simp only [Option.map_some, List.getD_eq_getElem?_getD, List.getElem?_map, Array.getElem?_toList, Array.getElem?_eq_getElem hj2, Option.getD_some]
/-- A row of which the first k are turned. -/
def rowAt (f : Int → Int) (zs : List Int) (k : Nat) : List Int := (zs.take k).map f ++ zs.drop k
theorem rowAt_len (f : Int → Int) (zs : List Int) (k : Nat) : (rowAt f zs k).length = zs.length := by unfold rowAt; simp; omega
theorem rowAt_get (f : Int → Int) (zs : List Int) (k : Nat) (h : k < zs.length) : (rowAt f zs k).getD k 0 = zs[k] := by
  unfold rowAt
  rw [List.getD_eq_getElem?_getD, List.getElem?_append_right (by simp; omega)]
  have e : k - ((zs.take k).map f).length = 0 := by simp; omega
  rw [e, List.getElem?_drop, Nat.add_zero, List.getElem?_eq_getElem h]
  rfl
theorem rowAt_succ (f : Int → Int) (zs : List Int) (k : Nat) (h : k < zs.length) : (rowAt f zs k).set k (f zs[k]) = rowAt f zs (k + 1) := by
  unfold rowAt
  have e : ((zs.take k).map f).length = k := by simp; omega
  rw [List.set_append_right _ _ (by omega), e, Nat.sub_self, List.drop_eq_getElem_cons h, List.set_cons_zero, List.take_succ_eq_append_getElem h, List.map_append]
  simp
theorem rowAt_same (f : Int → Int) (zs : List Int) (k : Nat) (h : k < zs.length) (hf : f zs[k] = zs[k]) : rowAt f zs (k + 1) = rowAt f zs k := by
  rw [← rowAt_succ f zs k h, hf]
  apply List.ext_getElem?
  intro i
  by_cases e : k = i
  · subst e
    rw [List.getElem?_set_self (by rw [rowAt_len]; exact h)]
    have := rowAt_get f zs k h
    rw [List.getD_eq_getElem?_getD, List.getElem?_eq_getElem (by rw [rowAt_len]; exact h), Option.getD_some] at this
    rw [List.getElem?_eq_getElem (by rw [rowAt_len]; exact h), this]
  · rw [List.getElem?_set_ne e]
theorem rowAt_zero (f : Int → Int) (zs : List Int) : rowAt f zs 0 = zs := by simp [rowAt]
theorem rowAt_all (f : Int → Int) (zs : List Int) : rowAt f zs zs.length = zs.map f := by simp [rowAt]
def trn (a z by_ : Int) (c : Int) : Int := if a ≤ c ∧ c ≤ z then c + by_ else c
set_option maxRecDepth 100000 in
set_option maxHeartbeats 2000000 in
theorem turned_calls (s : ByteArray) (a z d : Int) (w : World) (ha : 0 ≤ a) (hz : z ≤ 255) (h1 : 0 ≤ a + d) (h2 : z + d ≤ 255) (h3 : -255 ≤ d) (h4 : d ≤ 255) (hs : s.size ≤ 140737488351232) :
    Calls Tryd.prog 46 #[.string s, .int .u8 a, .int .u8 z, .int .i64 d] w fun e w' => e = .returned (.string ⟨((bnums s).map fun c => (trn a z d c).toNat.toUInt8).toArray⟩) ∧ Below w.heap.size w w' := by
  obtain ⟨C, cap, hrun, hcap, hrow⟩ := bytes_new s w
  have HROW := Aside0.mk hrow
  have hbl := bnums_len s
  have HBR := Aside0.mk (bnums_range s)
  generalize hB : bnums s = zs at *
  have HBL := Aside0.mk hbl
  clear hrow hbl hB
  go_enter Tryd.func46, Tryd.ntmps46
  go_wp2
  go_loopw [16] (fun i wr => ∃ k : Nat, i = .int .i64 k ∧ k ≤ s.size ∧ Aside0 (Below w.heap.size w wr) ∧ Aside0 (BRow wr w.heap.size (rowAt (trn a z d) zs k))) (fun i _ => s.size - (intOf i).toNat)
  case atStart => exact ⟨0, rfl, by omega, ⟨((Below.refl _ w).alloc (Nat.le_refl _) _).drew⟩, ⟨by rw [rowAt_zero]; exact HROW.out w rfl⟩⟩
  case round =>
    obtain ⟨k, rfl, hk, HB, HR⟩ := hrel
    by_cases hlt : k < s.size
    · have hlz : k < zs.length := by rw [HBL.out]; exact hlt
      have hc := HR.out.cell (j := k) (by rw [rowAt_len]; exact hlz)
      have hfz := HR.out.frozen (j := k) (by rw [rowAt_len]; exact hlz)
      have hrg := HBR.out zs[k] (List.getElem_mem hlz)
      have HS : Aside0 ((rowAt (trn a z d) zs k).set k (trn a z d zs[k]) = rowAt (trn a z d) zs (k + 1)) := ⟨rowAt_succ _ _ _ hlz⟩
      have HSM : Aside0 (trn a z d zs[k] = zs[k] → rowAt (trn a z d) zs (k + 1) = rowAt (trn a z d) zs k) := ⟨rowAt_same _ _ _ hlz⟩
      rw [rowAt_get _ _ _ hlz] at hc
      generalize zs[k] = x at *
      have HSET : Aside0 (∀ y, BRow (wr.setCell ⟨w.heap.size, k, none⟩ (.int .u8 y)) w.heap.size ((rowAt (trn a z d) zs k).set k y)) := ⟨fun y => HR.out.set (by rw [rowAt_len]; exact hlz) y⟩
      clear hlz
      by_cases hin : a ≤ x ∧ x ≤ z
      · obtain ⟨hi1, hi2⟩ := hin
        have HT : Aside0 (trn a z d x = x + d) := ⟨if_pos ⟨hi1, hi2⟩⟩
        go_wp2
        go_roundw
        case rel => exact ⟨k + 1, by go_num, by omega, ⟨HB.out.setCell (Nat.le_refl _) _⟩, ⟨by rw [← HS.out, HT.out]; exact HSET.out _⟩⟩
        case measure =>
          simp only [intOf]
          omega
      · have HT : Aside0 (trn a z d x = x) := ⟨if_neg hin⟩
        have hor : ¬ a ≤ x ∨ (a ≤ x ∧ ¬ x ≤ z) := by omega
        have HIN := Aside0.mk hin
        clear hin
        rcases hor with hi | ⟨hi1, hi2⟩
        all_goals
          go_wp2
          go_roundw
          case rel => exact ⟨k + 1, by go_num, by omega, HB, ⟨by rw [HSM.out HT.out]; exact HR.out⟩⟩
          case measure =>
            simp only [intOf]
            omega
    · obtain rfl : k = s.size := by omega
      have hbk := HR.out
      have e1 : rowAt (trn a z d) zs s.size = zs.map (trn a z d) := by rw [← HBL.out, rowAt_all]
      rw [e1] at hbk
      have hconv := hbk.back (cap := cap) (fun y hy => by
        obtain ⟨c, hc, rfl⟩ := List.mem_map.1 hy
        have := HBR.out c hc
        unfold trn
        split <;> omega)
      rw [List.length_map, HBL.out, List.map_map] at hconv
      have HBK := Aside0.mk hbk
      clear e1 hbk
      go_wp2
      go_ret
      exact ⟨rfl, HB.out⟩
set_option maxRecDepth 100000 in
set_option maxHeartbeats 2000000 in
theorem cased_calls (s : ByteArray) (a b : Int) (w : World) (ha : 0 ≤ a) (ha2 : a ≤ 200) (hb : 0 ≤ b) (hb2 : b ≤ 200) (hs : s.size ≤ 140737488351232) :
    Calls Tryd.prog 47 #[.string s, .int .u8 a, .int .u8 b] w fun e w' => e = .returned (.string ⟨((bnums s).map fun c => (trn a (a + 25) (b - a) c).toNat.toUInt8).toArray⟩) ∧ Below w.heap.size w w' := by
  obtain ⟨C, cap, hrun, hcap, hrow⟩ := bytes_new s w
  have HROW := Aside0.mk hrow
  have hbl := bnums_len s
  have HBR := Aside0.mk (bnums_range s)
  generalize hB : bnums s = zs at *
  have HBL := Aside0.mk hbl
  clear hrow hbl hB
  obtain ⟨F, hF⟩ : ∃ F, trn a (a + 25) (b - a) = F := ⟨_, rfl⟩
  have HFD : Aside0 (∀ x, F x = if a ≤ x ∧ x ≤ a + 25 then x + (b - a) else x) := ⟨fun x => by rw [← hF]; rfl⟩
  rw [hF]
  clear hF
  go_enter Tryd.func47, Tryd.ntmps47
  go_wp2
  go_loopw [8] (fun i wr => ∃ k : Nat, i = .int .i64 k ∧ k ≤ s.size ∧ Aside0 (Below w.heap.size w wr) ∧ Aside0 (BRow wr w.heap.size (rowAt F zs k))) (fun i _ => s.size - (intOf i).toNat)
  case atStart => exact ⟨0, rfl, by omega, ⟨((Below.refl _ w).alloc (Nat.le_refl _) _).drew⟩, ⟨by rw [rowAt_zero]; exact HROW.out w rfl⟩⟩
  case round =>
    obtain ⟨k, rfl, hk, HB, HR⟩ := hrel
    by_cases hlt : k < s.size
    · have hlz : k < zs.length := by rw [HBL.out]; exact hlt
      have hc := HR.out.cell (j := k) (by rw [rowAt_len]; exact hlz)
      have hfz := HR.out.frozen (j := k) (by rw [rowAt_len]; exact hlz)
      have hrg := HBR.out zs[k] (List.getElem_mem hlz)
      have HS : Aside0 ((rowAt F zs k).set k (F zs[k]) = rowAt F zs (k + 1)) := ⟨rowAt_succ _ _ _ hlz⟩
      have HSM : Aside0 (F zs[k] = zs[k] → rowAt F zs (k + 1) = rowAt F zs k) := ⟨rowAt_same _ _ _ hlz⟩
      rw [rowAt_get _ _ _ hlz] at hc
      generalize zs[k] = x at *
      have HSET : Aside0 (∀ y, BRow (wr.setCell ⟨w.heap.size, k, none⟩ (.int .u8 y)) w.heap.size ((rowAt F zs k).set k y)) := ⟨fun y => HR.out.set (by rw [rowAt_len]; exact hlz) y⟩
      clear hlz
      by_cases hin : a ≤ x ∧ x ≤ a + 25
      · obtain ⟨hi1, hi2⟩ := hin
        have HT : Aside0 (F x = x - a + b) := ⟨by rw [HFD.out, if_pos ⟨hi1, hi2⟩]; omega⟩
        have t1 : decide (x < a + 26) = true := decide_eq_true (by omega)
        have hi3 : x < a + 26 := by omega
        go_wp2
        go_roundw
        case rel => exact ⟨k + 1, by go_num, by omega, ⟨HB.out.setCell (Nat.le_refl _) _⟩, ⟨by rw [← HS.out, HT.out]; exact HSET.out _⟩⟩
        case measure =>
          simp only [intOf]
          omega
      · have HT : Aside0 (F x = x) := ⟨by rw [HFD.out]; exact if_neg hin⟩
        have hor : ¬ a ≤ x ∨ (a ≤ x ∧ ¬ x < a + 26) := by omega
        have HIN := Aside0.mk hin
        clear hin
        rcases hor with hi | ⟨hi1, hi2⟩
        all_goals
          go_wp2
          go_roundw
          case rel => exact ⟨k + 1, by go_num, by omega, HB, ⟨by rw [HSM.out HT.out]; exact HR.out⟩⟩
          case measure =>
            simp only [intOf]
            omega
    · obtain rfl : k = s.size := by omega
      have hbk := HR.out
      have e1 : rowAt F zs s.size = zs.map F := by rw [← HBL.out, rowAt_all]
      rw [e1] at hbk
      have hconv := hbk.back (cap := cap) (fun y hy => by
        obtain ⟨c, hc, rfl⟩ := List.mem_map.1 hy
        have := HBR.out c hc
        rw [HFD.out]
        split <;> omega)
      rw [List.length_map, HBL.out, List.map_map] at hconv
      have HBK := Aside0.mk hbk
      clear e1 hbk
      go_wp2
      go_ret
      exact ⟨rfl, HB.out⟩
/-- A text in large letters, in small ones. -/
def upV (s : ByteArray) : ByteArray := ⟨((bnums s).map fun c => (trn 97 122 (-32) c).toNat.toUInt8).toArray⟩
set_option maxHeartbeats 1000000 in
theorem upper_calls (s : ByteArray) (w : World) (hs : s.size ≤ 140737488351232) : Calls Tryd.prog 33 #[.string s] w fun e w' => e = .returned (.string (upV s)) ∧ Below w.heap.size w w' := by
  have H := Aside0.mk (turned_calls s 97 122 (-32) w (by omega) (by omega) (by omega) (by omega) (by omega) (by omega) hs)
  go_enter Tryd.func33, Tryd.ntmps33
  go_wp2_with (go_at_call 46; refine H.out.mono ?_; rintro e w1 ⟨rfl, hb⟩)
  go_ret
  exact ⟨rfl, hb⟩
set_option maxHeartbeats 1000000 in
theorem rupper_calls (s : ByteArray) (w : World) (hs : s.size ≤ 140737488351232) : Calls Tryd.prog 34 #[.string s] w fun e w' => e = .returned (.string (upV s)) ∧ Below w.heap.size w w' := by
  have H := Aside0.mk (cased_calls s 97 65 w (by omega) (by omega) (by omega) (by omega) hs)
  go_enter Tryd.func34, Tryd.ntmps34
  go_wp2_with (go_at_call 47; refine H.out.mono ?_; rintro e w1 ⟨rfl, hb⟩)
  go_ret
  exact ⟨rfl, hb⟩
end Go.Proofs.YtjepodcgbfejgaaDoor.Hw
