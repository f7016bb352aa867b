import Derived.Test.YtjepodcgbfejgaaGreatDoorChV
import Derived.Laws.IdiomStrings
/- Letters made large and small, walked: the program's and the document's. -/
namespace Go.Proofs.YtjepodcgbfejgaaGreatDoor.Hw
open Go.RowKit Go.Proofs.YtjepodcgbfejgaaGreatDoorW.PrintWords Go.Proofs.YtjepodcgbfejgaaGreatDoorW.PrintLast Go.Proofs.YtjepodcgbfejgaaGreatDoorW.PrintMore Go.Proofs.YtjepodcgbfejgaaGreatDoor.PH Go.Proofs.YtjepodcgbfejgaaGreatDoor.CP
set_option linter.unusedVariables false
set_option linter.unusedSimpArgs false
/-- A row of bytes at block g: the numbers zs, and whatever behind them; its last place but one bears the mark of a text's copy. -/
def BRow (w : World) (g : Nat) (zs : List Int) : Prop := ∃ C : Array Value, w.heap[g]? = some (.cells C 5 (C.size, C.size + 1)) ∧ zs.length ≤ C.size ∧ ∀ j, j < zs.length → C[j]? = some (.int .u8 (zs.getD j 0))
theorem BRow.cell {w : World} {g : Nat} {zs : List Int} (h : BRow w g zs) {j : Nat} (hj : j < zs.length) : w.cell? ⟨g, j, none⟩ = some (.int .u8 (zs.getD j 0)) := by
  obtain ⟨C, hb, hl, hc⟩ := h
  unfold World.cell?
  simp only [hb]
  simpa using hc j hj
theorem BRow.frozen {w : World} {g : Nat} {zs : List Int} (h : BRow w g zs) {j : Nat} (hj : j < zs.length) : w.frozen? ⟨g, j, none⟩ = false := by
  obtain ⟨C, hb, hl, hc⟩ := h
  unfold World.frozen?
  simp only [hb]
  simp
  omega
theorem BRow.lt {w : World} {g : Nat} {zs : List Int} (h : BRow w g zs) : g < w.heap.size := by
  obtain ⟨C, hb, _⟩ := h
  exact (Array.getElem?_eq_some_iff.1 hb).1
theorem BRow.set {w : World} {g : Nat} {zs : List Int} (h : BRow w g zs) {j : Nat} (hj : j < zs.length) (x : Int) : BRow (w.setCell ⟨g, j, none⟩ (.int .u8 x)) g (zs.set j x) := by
  obtain ⟨C, hb, hl, hc⟩ := h
  have hb2 : (w.setCell ⟨g, j, none⟩ (.int .u8 x)).heap[g]? = some (.cells (C.setIfInBounds j (.int .u8 x)) 5 (C.size, C.size + 1)) := by simp [World.setCell, Array.getElem?_modify, hb]
  refine ⟨C.setIfInBounds j (.int .u8 x), by rw [Array.size_setIfInBounds]; exact hb2, by rw [List.length_set, Array.size_setIfInBounds]; exact hl, fun i hi => ?_⟩
  rw [List.length_set] at hi
  rw [Array.getElem?_setIfInBounds]
  by_cases e : j = i
  · subst e
    simp [show j < C.size by omega, List.getD_eq_getElem?_getD, hj]
  · rw [if_neg e, hc i hi, List.getD_eq_getElem?_getD, List.getD_eq_getElem?_getD, List.getElem?_set_ne e]
theorem BRow.drewN {w : World} {g : Nat} {zs : List Int} (h : BRow w g zs) (n : Nat) : BRow (w.drewN n) g zs := h
theorem BRow.back {w : World} {g cap : Nat} {zs : List Int} (h : BRow w g zs) (hr : ∀ z ∈ zs, 0 ≤ z ∧ z ≤ 255) :
    (convert 35 9 (.slice (some ⟨g, 0, none⟩) zs.length cap)).run Tryz.prog w = .ok (.string ⟨(zs.map fun z => z.toNat.toUInt8).toArray⟩) w := by
  have := run_convert_bytes_back (P := Tryz.prog) w 35 9 5 ⟨g, 0, none⟩ cap (zs.map fun z => z.toNat.toUInt8) Tryz.underlying35 Tryz.underlying5 Tryz.underlying9 (fun j hj => by
    rw [List.length_map] at hj
    have hc := h.cell hj
    have hz := hr zs[j] (List.getElem_mem hj)
    rw [Addr.add_lit, Nat.zero_add, hc]
    simp only [List.getElem_map, List.getD_eq_getElem?_getD, List.getElem?_eq_getElem hj, Option.getD_some]
    congr 2
    have : (zs[j].toNat.toUInt8).toNat = zs[j].toNat := by simp [UInt8.toNat_ofNat]; omega
    rw [this]
    omega)
  rw [List.length_map] at this
  exact this
/-- The bytes of a text, as numbers. -/
def bnums (s : ByteArray) : List Int := s.data.toList.map fun b => (b.toNat : Int)
theorem bnums_len (s : ByteArray) : (bnums s).length = s.size := by unfold bnums; rw [List.length_map, Lib.size_eq]
theorem bnums_range (s : ByteArray) : ∀ z ∈ bnums s, 0 ≤ z ∧ z ≤ 255 := by
  intro z hz
  unfold bnums at hz
  obtain ⟨b, _, rfl⟩ := List.mem_map.1 hz
  have := b.toNat_lt
  omega
theorem bytes_new (s : ByteArray) (w : World) : ∃ (C : Array Value) (cap : Nat), (convert 9 35 (.string s)).run Tryz.prog w = .ok (.slice (some ⟨w.heap.size, 0, none⟩) s.size cap) (w.drew.alloc (.cells C 5 (C.size, C.size + 1))) ∧
    s.size ≤ cap ∧ ∀ w' : World, w'.heap.size = w.heap.size → BRow (w'.alloc (.cells C 5 (C.size, C.size + 1))) w.heap.size (bnums s) := by
  have hrun := run_bytes_of_string (P := Tryz.prog) w 9 35 5 s Tryz.underlying9 Tryz.underlying35 Tryz.underlying5
  refine ⟨bytesRow s (grownCap w s.size 0 5), grownCap w s.size 0 5, hrun, grownCap_ge _ _ _ _, fun w' hw => ⟨bytesRow s (grownCap w s.size 0 5), ?_, ?_, fun j hj => ?_⟩⟩
  · show (w'.heap.push _)[w.heap.size]? = _
    rw [← hw]; simp
  · rw [bnums_len]; unfold bytesRow; rw [Array.size_append, Array.size_map]; exact Nat.le_add_right _ _
  · rw [bnums_len] at hj
    unfold bytesRow bnums
    have hj2 : j < s.data.size := hj
    rw [Array.getElem?_append_left (by rw [Array.size_map]; exact hj2), Array.getElem?_map, Array.getElem?_eq_getElem hj2]
    simp only [Option.map_some, List.getD_eq_getElem?_getD, List.getElem?_map, Array.getElem?_toList, Array.getElem?_eq_getElem hj2, Option.getD_some]
end Go.Proofs.YtjepodcgbfejgaaGreatDoor.Hw
