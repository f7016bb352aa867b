import Derived.Test.YtjepodcgbfejgaaGreatDoorRpN
import Derived.Test.YtjepodcgbfejgaaGreatDoorChB0
import Derived.Lib.LazyBuf
/- strings.Replacer: build, walked. -/
namespace Go.Proofs.YtjepodcgbfejgaaGreatDoor.Hw
open Go.RowKit Go.Proofs.YtjepodcgbfejgaaGreatDoorW.PrintWords Go.Proofs.YtjepodcgbfejgaaGreatDoorW.PrintLast Go.Proofs.YtjepodcgbfejgaaGreatDoorW.PrintMore Go.Proofs.YtjepodcgbfejgaaGreatDoor.PH Go.Proofs.YtjepodcgbfejgaaGreatDoor.CP
set_option linter.unusedVariables false
set_option linter.unusedSimpArgs false
abbrev Ps := List (UInt8 × List UInt8)
/-- The texts: what is replaced, and by what. -/
def strs (ps : Ps) : List ByteArray := ps.flatMap fun p => [⟨#[p.1]⟩, ⟨p.2.toArray⟩]
theorem strs_len (ps : Ps) : (strs ps).length = 2 * ps.length := by
  induction ps with
  | nil => rfl
  | cons p ps ih => simp [strs] at ih ⊢; omega
theorem strs_even (ps : Ps) (j : Nat) (h : j < ps.length) : (strs ps)[2 * j]? = some ⟨#[ps[j].1]⟩ := by
  induction ps generalizing j with
  | nil => simp at h
  | cons p ps ih =>
    cases j with
    | zero => rfl
    | succ j => 
      have := ih j (by simpa using h)
      show ([⟨#[p.1]⟩, ⟨p.2.toArray⟩] ++ strs ps)[2 * (j + 1)]? = _
      rw [List.getElem?_append_right (by simp; omega)]
      rw [show 2 * (j + 1) - [(⟨#[p.1]⟩ : ByteArray), ⟨p.2.toArray⟩].length = 2 * j by simp; omega]
      simpa using this
theorem strs_odd (ps : Ps) (j : Nat) (h : j < ps.length) : (strs ps)[2 * j + 1]? = some ⟨ps[j].2.toArray⟩ := by
  induction ps generalizing j with
  | nil => simp at h
  | cons p ps ih =>
    cases j with
    | zero => rfl
    | succ j => 
      have := ih j (by simpa using h)
      show ([⟨#[p.1]⟩, ⟨p.2.toArray⟩] ++ strs ps)[2 * (j + 1) + 1]? = _
      rw [List.getElem?_append_right (by simp; omega)]
      rw [show 2 * (j + 1) + 1 - [(⟨#[p.1]⟩ : ByteArray), ⟨p.2.toArray⟩].length = 2 * j + 1 by simp; omega]
      simpa using this
theorem str_even {w : World} {A : Option Addr} {ps : Ps} (hC : Kd.C Kd.string w A (2 * ps.length) (strs ps)) {ad : Addr} (hA : A = some ad) (j : Nat) (h : j < ps.length) : w.cell? (ad.add (2 * j)) = some (.string ⟨#[ps[j].1]⟩) := by
  obtain ⟨ad', e, hx⟩ := Kd.at_string hC ((2 * j : Nat) : Int) (by omega) (by omega)
  rw [hA] at e
  cases e
  rw [Int.toNat_natCast] at hx
  rw [hx]
  unfold rdOf
  rw [Int.toNat_natCast, List.getD_eq_getElem?_getD, strs_even ps j h]
  rfl
theorem str_odd {w : World} {A : Option Addr} {ps : Ps} (hC : Kd.C Kd.string w A (2 * ps.length) (strs ps)) {ad : Addr} (hA : A = some ad) (j : Nat) (h : j < ps.length) : w.cell? (ad.add (2 * j + 1)) = some (.string ⟨ps[j].2.toArray⟩) := by
  obtain ⟨ad', e, hx⟩ := Kd.at_string hC ((2 * j + 1 : Nat) : Int) (by omega) (by omega)
  rw [hA] at e
  cases e
  rw [Int.toNat_natCast] at hx
  rw [hx]
  unfold rdOf
  rw [Int.toNat_natCast, List.getD_eq_getElem?_getD, strs_odd ps j h]
  rfl
theorem zc118_size : Tryz.zeroCells105.size = 257 := by kernel_rfl
theorem zc118_arr : Tryz.zeroCells105 = Array.replicate 257 (.slice none 0 0) := by kernel_rfl
/-- What stands for a byte. -/
def Rep (w : World) (b : Nat) (v : Value) : Option (List UInt8) → Prop
  | none => v = .slice none 0 0
  | some ys => ∃ g cap, v = .slice (some ⟨g, 0, none⟩) ys.length cap ∧ b < g ∧ BRow w g (bnums ⟨ys.toArray⟩)
def look (T : Ps) (x : Nat) : Option (List UInt8) := (T.find? fun p => p.1.toNat == x).map (·.2)
/-- The block of a byteStringReplacer. -/
structure BsW (w : World) (base b : Nat) (T : Ps) : Prop where
  blk : ∃ C : Array Value, w.heap[b]? = some (.cells C 105) ∧ C.size = 257 ∧ (∃ tr, C[256]? = some tr ∧ Kd.R Kd.string 9 w base (fun k => k ≠ b) tr (T.map fun p => ⟨#[p.1]⟩)) ∧ ∀ x : Nat, x < 256 → ∃ v, C[x]? = some v ∧ Rep w b v (look T x)
theorem Rep.move {w w' : World} {b : Nat} {v : Value} {o : Option (List UInt8)} (h : Rep w b v o) (hm : ∀ g, b < g → (∃ C : Array Value, w.heap[g]? = some (.cells C 5 (C.size, C.size + 1))) → w'.heap[g]? = w.heap[g]?) : Rep w' b v o := by
  cases o with
  | none => exact h
  | some ys =>
    obtain ⟨g, cap, hv, hg, hr⟩ := h
    refine ⟨g, cap, hv, hg, ?_⟩
    obtain ⟨C, hb, hl, hc⟩ := hr
    exact ⟨C, (hm g hg ⟨C, hb⟩).trans hb, hl, hc⟩
theorem look_none {T : Ps} {x : Nat} (h : ∀ p ∈ T, p.1.toNat ≠ x) : look T x = none := by
  unfold look
  rw [List.find?_eq_none.2 (fun p hp => by simpa using h p hp)]
  rfl
theorem look_snoc (T : Ps) (p : UInt8 × List UInt8) (x : Nat) (h : ∀ q ∈ T, q.1.toNat ≠ p.1.toNat) : look (T ++ [p]) x = if x = p.1.toNat then some p.2 else look T x := by
  unfold look
  rw [List.find?_append]
  by_cases e : x = p.1.toNat
  · subst e
    rw [if_pos rfl, List.find?_eq_none.2 (fun q hq => by simpa using h q hq)]
    simp
  · rw [if_neg e]
    have : List.find? (fun q : UInt8 × List UInt8 => q.1.toNat == x) [p] = none := by simp; omega
    rw [this]
    simp
theorem cell_new0 (w : World) (v : Value) (t : TypeId) : (w.alloc (.cells #[v] t)).cell? ⟨w.heap.size, 0, none⟩ = some v := by
  unfold World.cell?
  rw [show (w.alloc (.cells #[v] t)).heap[w.heap.size]? = some (.cells #[v] t) by show (w.heap.push _)[w.heap.size]? = _; simp]
  rfl
theorem mark_ {p : Prop} (h : Aside0 p) : p := h.out
theorem w64r2 {x : Int} (h0 : -9223372036854775808 ≤ x) (h1 : x ≤ 9223372036854775807) : wrap64 x = x := by unfold wrap64; omega
set_option maxRecDepth 100000 in
set_option maxHeartbeats 400000 in
theorem build_calls (g : Nat) (d m : Int) (r : Value) (b0 : Nat) (c : Nat) (ps : Ps) (w : World) (hB : RpB w g d m r (.slice (some ⟨b0, 0, none⟩) (2 * ps.length) c)) (hC : Kd.C Kd.string w (some ⟨b0, 0, none⟩) (2 * ps.length) (strs ps)) (h2 : 2 ≤ ps.length) (hk : ps.length ≤ 100)
    (hlen : ∀ p ∈ ps, 2 ≤ p.2.length ∧ p.2.length ≤ 100) (hnd : (ps.map (·.1.toNat)).Nodup) :
    Calls Tryz.prog 39 #[.pointer (some ⟨g, 0, none⟩)] w fun e w' => ∃ b, e = .returned (.iface 106 (.pointer (some ⟨b, 0, none⟩))) ∧ w.heap.size ≤ b ∧ BsW w' w.heap.size b ps.reverse ∧ Below w.heap.size w w' := by
  have hC4 := hB.cells.2.2.2.1
  have HC := Aside0.mk hC
  have HL := Aside0.mk hlen
  have HND := Aside0.mk hnd
  clear hnd
  have hn : ((2 * (ps.length : Int)) == 2) = false := by simp; omega
  have hn2 : (2 * ps.length == 2) = false := by simp; omega
  obtain ⟨k, hkk⟩ : ∃ k, k = ps.length := ⟨_, rfl⟩
  rw [← hkk] at hC4 hn hn2 h2 hk
  have HKK := Aside0.mk hkk
  clear hB hC hlen hkk
  go_enter Tryz.func39, Tryz.ntmps39
  go_wp2
  go_loopw [4, 5] (fun v i wr => ∃ i0 j : Nat, j ≤ k ∧ Aside0 (i0 = 2 * j) ∧ v = .bool (decide (j = 0)) ∧ i = .int .i64 (i0 : Int) ∧ wr = w) (fun _ i _ => 2 * k - (intOf i).toNat)
  case atStart => exact ⟨0, 0, Nat.zero_le _, ⟨rfl⟩, rfl, rfl, rfl⟩
  case round =>
    obtain ⟨i0, j, hj, HI, rfl, rfl, rfl⟩ := hrel
    by_cases hlt : j < k
    · have hjp : j < ps.length := by rw [← HKK.out]; exact hlt
      have hc1 := str_even HC.out rfl j hjp
      have hc2 := str_odd HC.out rfl j hjp
      rw [← HI.out, Addr.add_lit, Nat.zero_add] at hc1 hc2
      have hl2 := HL.out _ (List.getElem_mem hjp)
      generalize ps[j].1 = x at *
      generalize ps[j].2 = y at *
      have hi0 := HI.out
      have t1 : decide ((i0 : Int) < 2 * (k : Int)) = true := by simp; omega
      have t1n : decide (i0 < 2 * k) = true := by simp; omega
      have wr1 : wrap64 ((i0 : Int) + 1) = (i0 : Int) + 1 := w64r2 (by omega) (by omega)
      have wr2 : wrap64 ((i0 : Int) + 2) = (i0 : Int) + 2 := w64r2 (by omega) (by omega)
      have b1 : i0 < 2 * k := by omega
      have b2 : i0 + 1 < 2 * k := by omega
      have b3 : (0 : Int) ≤ (i0 : Int) + 1 := by omega
      have b4 : (i0 : Int) + 1 < 2 * (k : Int) := by omega
      have sz : ByteArray.size ⟨#[x]⟩ = 1 := rfl
      have sz2 : ByteArray.size ⟨y.toArray⟩ = y.length := by simp [ByteArray.size]
      have t3 : ((y.length : Int) == 1) = false := by simp; omega
      have t3n : (y.length == 1) = false := by simp; omega
      clear hjp hl2 hi0
      go_wp2
      refine ⟨?rel, ?measure⟩
      case rel => exact ⟨i0 + 2, j + 1, by omega, ⟨by rw [HI.out]; omega⟩, by simp, by first | trivial | go_num⟩
      case measure => simp [intOf]; omega
    · obtain rfl : j = k := by omega
      obtain ⟨wB, hWB⟩ : ∃ x, x = wr := ⟨_, rfl⟩
      subst hWB
      have hi0 := HI.out
      have t1 : decide ((i0 : Int) < 2 * (j : Int)) = false := by simp; omega
      have t1n : decide (i0 < 2 * j) = false := by simp; omega
      have t0 : decide (j = 0) = false := by simp; omega
      obtain ⟨i3, hi3, hz3⟩ := Option.map_eq_some_iff.1 infoS9
      simp only [Prod.mk.injEq] at hz3
      have HI3 := Aside0.mk (And.intro hi3 hz3)
      have HSZ : Aside0 ((Tryz.prog.info? 105).map (·.size) = some (Tryz.zeroCells105.setIfInBounds 256 (.slice (some ⟨wB.heap.size, 0, none⟩) 0 j)).size) := ⟨by rw [Array.size_setIfInBounds, zc118_size]; kernel_rfl⟩
      have HOC : Aside0 ((Tryz.zeroCells105.setIfInBounds 256 (.slice (some ⟨wB.heap.size, 0, none⟩) 0 j)).all (·.oneCell') = true) := ⟨by rw [zc118_arr]; kernel_rfl⟩
      clear hi0 hi3 hz3
      go_wp2_with (first
        | (at_make; refine wpList_make_own _ rfl _ _ 31 rfl wB.heap.size 9 i3 (.string ByteArray.empty) 1 Tryz.underlying31 HI3.out.1 HI3.out.2.1 HI3.out.2.2.1 _ _ _ j rfl rfl rfl (by rw [HI3.out.2.2.2]; omega) (by unfold maxLen; omega) (Nat.le_refl _) ?_; intro w2 hown hg2; have HO2 := Aside0.mk hown; have HG2 := Aside0.mk hg2; clear hown hg2)
        | (refine wpList_store_row rfl 105 _ _ rfl w2.heap.size (Tryz.zeroCells105.setIfInBounds 256 (.slice (some ⟨wB.heap.size, 0, none⟩) 0 j)) rfl rfl 105 Tryz.zeroCells105 (by show (w2.heap.push _)[w2.heap.size]? = _; simp) HSZ.out (by rw [Array.size_setIfInBounds]) HOC.out ?_))
      have hwz := HO2.out
      have hb2 : Below wB.heap.size wB w2 := (Below.refl _ _).grown HG2.out (Nat.le_refl _) (fun k hk => by cases hk)
      have hbW : Below wB.heap.size wB ((w2.alloc (.cells Tryz.zeroCells105 105)).setRow w2.heap.size (Tryz.zeroCells105.setIfInBounds 256 (.slice (some ⟨wB.heap.size, 0, none⟩) 0 j))) := by
        have h1 := hb2.alloc hb2.size (.cells Tryz.zeroCells105 105)
        exact ⟨h1.os, h1.tape, h1.output, by rw [setRow_size]; exact h1.size, fun k hk => (setRow_other _ _ _ _ (by have := hb2.size; omega)).trans (h1.block k hk)⟩
      have hblk : ((w2.alloc (.cells Tryz.zeroCells105 105)).setRow w2.heap.size (Tryz.zeroCells105.setIfInBounds 256 (.slice (some ⟨wB.heap.size, 0, none⟩) 0 j))).heap[w2.heap.size]? = some (.cells (Tryz.zeroCells105.setIfInBounds 256 (.slice (some ⟨wB.heap.size, 0, none⟩) 0 j)) 105) := setRow_heap _ _ Tryz.zeroCells105 _ _ _ (by show (w2.heap.push _)[w2.heap.size]? = _; simp)
      have hbs : BsW ((w2.alloc (.cells Tryz.zeroCells105 105)).setRow w2.heap.size (Tryz.zeroCells105.setIfInBounds 256 (.slice (some ⟨wB.heap.size, 0, none⟩) 0 j))) wB.heap.size w2.heap.size [] := by
        refine ⟨_, hblk, by rw [Array.size_setIfInBounds, zc118_size], ⟨.slice (some ⟨wB.heap.size, 0, none⟩) 0 j, by rw [zc118_arr]; simp, ?_⟩, fun x hx => ⟨.slice none 0 0, by rw [zc118_arr, Array.getElem?_setIfInBounds_ne (by omega), Array.getElem?_replicate, if_pos (by omega)], rfl⟩⟩
        have hR : Kd.R Kd.string 9 w2 wB.heap.size (fun k => k ≠ w2.heap.size) (.slice (some ⟨wB.heap.size, 0, none⟩) 0 j) [] := Kd.R_of_own hwz (fun k hk => by have := own_lt hwz k hk; omega)
        exact Kd.R_step hR (fun k hk _ => (setRow_other _ _ _ _ hk).trans (Below.heap_alloc _ _ _ (by omega)))
      have HBS := Aside0.mk hbs
      have HBW := Aside0.mk hbW
      have hbz : Aside0 (wB.heap.size ≤ w2.heap.size) := ⟨hb2.size⟩
      clear hwz hb2 hbW hblk hbs HO2 HG2 HI3 HSZ HOC
      generalize (w2.alloc (.cells Tryz.zeroCells105 105)).setRow w2.heap.size (Tryz.zeroCells105.setIfInBounds 256 (.slice (some ⟨wB.heap.size, 0, none⟩) 0 j)) = W0 at *
      generalize w2.heap.size = b at *
      go_loopw [12] (fun iv w3 => ∃ (n : Nat) (z : Int), n ≤ j ∧ Aside0 (z = 2 * (j : Int) - 2 - 2 * n) ∧ iv = .int .i64 z ∧ Aside0 (BsW w3 wB.heap.size b (ps.drop (j - n)).reverse) ∧ Aside0 (Below wB.heap.size wB w3)) (fun iv _ => (intOf iv + 2).toNat)
      case atStart => exact ⟨0, _, Nat.zero_le _, ⟨by omega⟩, rfl, ⟨by rw [Nat.sub_zero, HKK.out, List.drop_length]; exact HBS.out⟩, HBW⟩
      case round =>
        obtain ⟨n, z, hn', HZ, rfl, HBn, HWn⟩ := hrel
        by_cases hlt : n < j
        · obtain ⟨q, hq⟩ : ∃ q, q = j - 1 - n := ⟨_, rfl⟩
          have hqp : q < ps.length := by rw [← HKK.out]; omega
          have hz := HZ.out
          obtain ⟨y0, hy0⟩ : ∃ y0 : Nat, y0 = 2 * q := ⟨_, rfl⟩
          obtain rfl : z = (y0 : Int) := by omega
          have hc1 := str_even (Kd.C_below HC.out HWn.out) rfl q hqp
          have hc2 := str_odd (Kd.C_below HC.out HWn.out) rfl q hqp
          rw [← hy0, Addr.add_lit, Nat.zero_add] at hc1 hc2
          have hl2 := HL.out _ (List.getElem_mem hqp)
          have hT : Aside0 ((ps.drop (j - (n + 1))).reverse = (ps.drop (j - n)).reverse ++ [ps[q]]) := ⟨by
            have e1 : j - (n + 1) = q := by omega
            have e2 : j - n = q + 1 := by omega
            rw [e1, e2, List.drop_eq_getElem_cons hqp, List.reverse_cons]⟩
          have hne : ∀ p ∈ (ps.drop (j - n)).reverse, p.1.toNat ≠ (ps[q]).1.toNat := by
            intro p hp he
            rw [List.mem_reverse] at hp
            obtain ⟨i, hi, hpe⟩ := List.mem_iff_getElem.1 hp
            rw [List.getElem_drop] at hpe
            have hi2 : j - n + i < ps.length := by rw [List.length_drop] at hi; omega
            have := (List.pairwise_iff_getElem.1 HND.out) q (j - n + i) (by rw [List.length_map]; exact hqp) (by rw [List.length_map]; exact hi2) (by omega)
            rw [List.getElem_map, List.getElem_map, hpe] at this
            exact this he.symm
          have HNE := Aside0.mk hne
          generalize hpq : ps[q] = pq at *
          obtain ⟨x, y⟩ := pq
          have hx := x.toNat_lt
          obtain ⟨T0, hT0⟩ : ∃ T0, (ps.drop (j - n)).reverse = T0 := ⟨_, rfl⟩
          rw [hT0] at HBn HNE hT
          obtain ⟨C, hblk, hCs, ⟨tr, htr, hRt⟩, hCx⟩ := HBn.out
          obtain ⟨v0, hv0, hrep0⟩ := hCx x.toNat (by omega)
          rw [look_none HNE.out] at hrep0
          obtain rfl : v0 = .slice none 0 0 := hrep0
          obtain ⟨At, ct, htre, hct, _⟩ := Kd.R_reads hRt
          subst htre
          have cx : wr.cell? ⟨b, x.toNat, none⟩ = some (.slice none 0 0) := by unfold World.cell?; simp [hblk, hv0]
          have ct256 : wr.cell? ⟨b, 256, none⟩ = some (.slice At T0.length ct) := by rw [List.length_map] at htr; unfold World.cell?; simp [hblk, htr]
          have f256 : wr.frozen? ⟨b, 256, none⟩ = false := by unfold World.frozen?; simp [hblk]
          have fx : wr.frozen? ⟨b, x.toNat, none⟩ = false := by unfold World.frozen?; simp [hblk]
          have t1 : decide ((0 : Int) ≤ (y0 : Int)) = true := by simp
          have wr1 : wrap64 ((y0 : Int) + 1) = (y0 : Int) + 1 := w64r2 (by omega) (by omega)
          have wr2 : wrap64 ((y0 : Int) - 2) = (y0 : Int) - 2 := w64r2 (by omega) (by omega)
          have b1 : y0 < 2 * j := by omega
          have b2 : y0 + 1 < 2 * j := by omega
          have b3 : (0 : Int) ≤ (y0 : Int) + 1 := by omega
          have b4 : (y0 : Int) + 1 < 2 * (j : Int) := by omega
          have HX := Aside0.mk hx
          have HBLK := Aside0.mk hblk
          have HRT : Aside0 (Kd.R Kd.string 9 wr wB.heap.size (fun k => k ≠ b) (.slice At T0.length ct) (T0.map fun p => (⟨#[p.1]⟩ : ByteArray))) := ⟨by rw [List.length_map] at hRt; exact hRt⟩
          have HTL : Aside0 (T0.length ≤ 100) := ⟨by rw [← hT0, List.length_reverse, List.length_drop]; have := HKK.out; omega⟩
          have HCT := Aside0.mk hct
          have HCX := Aside0.mk hCx
          have HCS := Aside0.mk hCs
          have HTR := Aside0.mk htr
          have HHL2 := Aside0.mk hl2
          have HQ := Aside0.mk hq
          have HY0 := Aside0.mk hy0
          clear hx hblk hRt hct hCx hCs htr hl2 hq hy0 hz hne hv0 hT0
          have hg0 : ∀ h, (({ data := #[x] } : ByteArray)[0]'h) = x := fun _ => rfl
          have hx1 : (x.toNat : Int) < 256 := by have := HX.out; omega
          have hx2 : x.toNat < 256 := HX.out
          have heq : ∀ W : World, (binOp .eql 35 (.slice none 0 0) (.slice none 0 0)).run Tryz.prog W = .ok (.bool true) W := fun W => Go.run_eql_slice_nil W _ _ _ _ _ Tryz.underlying35
          have hconv : (convert 35 9 (.slice (some ⟨wr.heap.size, 0, none⟩) 1 1)).run Tryz.prog (wr.alloc (.cells #[.int .u8 x.toNat] 5)) = .ok (.string ⟨#[x]⟩) (wr.alloc (.cells #[.int .u8 x.toNat] 5)) := by
            have := run_convert_bytes_back (P := Tryz.prog) (wr.alloc (.cells #[.int .u8 x.toNat] 5)) 35 9 5 ⟨wr.heap.size, 0, none⟩ 1 [x] Tryz.underlying35 Tryz.underlying5 Tryz.underlying9 (fun i hi => by
              obtain rfl : i = 0 := by simpa using hi
              exact cell_new0 _ _ _)
            exact this
          have hbw : b < wr.heap.size := (Array.getElem?_eq_some_iff.1 HBLK.out).1
          have HBWL := Aside0.mk hbw
          clear hbw
          go_wp2_with (at_builtin; refine mark_ ?_)
          refine ⟨?_⟩
          refine Kd.R_append Kd.string (w0 := wB) wB.heap.size rfl _ _ 31 9 (.string ByteArray.empty) 16 rfl Tryz.underlying31 infoS9 rfl (by decide) (by decide) (.slice At T0.length ct) (T0.map fun p => (⟨#[p.1]⟩ : ByteArray)) ⟨#[x]⟩ [.string ⟨#[x]⟩] (fun k => k ≠ b) (fun _ => False) rfl (by rw [World.size_alloc]; rfl) rfl (fun _ h => h.elim) (fun k hk => by have := HBWL.out; simp at hk; omega) (Kd.R_alloc HRT.out _) (HWn.out.alloc HWn.out.size _) (by have := HWn.out.size; simp; omega) (by have := HTL.out; rw [List.length_map]; omega) ?_
          intro v3 w3 hv3 hb3 hg3 hat3
          obtain ⟨A3, c3, rfl, hc3, _⟩ := Kd.R_reads hv3
          rw [List.length_append, List.length_map, List.length_singleton] at hv3
          have HV3 := Aside0.mk hv3; have HB3 := Aside0.mk hb3; have HG3 := Aside0.mk hg3; clear hv3 hb3 hg3 hat3
          have hl3 : (T0.map (fun p : UInt8 × List UInt8 => (⟨#[p.1]⟩ : ByteArray)) ++ [(⟨#[x]⟩ : ByteArray)]).length = T0.length + 1 := by simp
          rw [hl3]
          have hneb : some b ≠ (Value.slice At T0.length ct).ownBlock := fun e => HRT.out.1 b e.symm rfl
          have hb3 : w3.heap[b]? = some (.cells C 105) := (HG3.out.block b (by have := HBWL.out; simp; omega) hneb).trans ((Below.heap_alloc _ _ _ HBWL.out).trans HBLK.out)
          have c256 : w3.cell? ⟨b, 256, none⟩ = some (.slice At T0.length ct) := by have := HTR.out; rw [List.length_map] at this; unfold World.cell?; simp [hb3, this]
          have f256' : w3.frozen? ⟨b, 256, none⟩ = false := by unfold World.frozen?; simp [hb3]
          have H3 := Aside0.mk hb3
          clear hb3 hneb hl3
          obtain ⟨W4, hW4⟩ : ∃ W4, W4 = w3.setCell ⟨b, 256, none⟩ (.slice A3 (T0.length + 1) c3) := ⟨_, rfl⟩
          have H4 : Aside0 (W4.heap[b]? = some (.cells (C.setIfInBounds 256 (.slice A3 (T0.length + 1) c3)) 105)) := ⟨by rw [hW4]; simp [World.setCell, Array.getElem?_modify, H3.out]⟩
          have H4o : Aside0 (∀ k, k ≠ b → W4.heap[k]? = w3.heap[k]?) := ⟨fun k hk => by rw [hW4]; exact Below.heap_setCell _ _ _ _ hk⟩
          have H4z : Aside0 (W4.heap.size = w3.heap.size) := ⟨by rw [hW4]; simp [World.setCell]⟩
          have H4b : Aside0 (Below wB.heap.size wB W4) := ⟨by rw [hW4]; exact HB3.out.setCell (p := ⟨b, 256, none⟩) hbz.out _⟩
          obtain ⟨Cb, capb, hcb, hcap, hrow⟩ := bytes_new ⟨y.toArray⟩ W4
          have hys : ByteArray.size ⟨y.toArray⟩ = y.length := by simp [ByteArray.size]
          rw [hys] at hcb hcap
          have c5 : (W4.alloc (.cells Cb 5 (Cb.size, Cb.size + 1))).cell? ⟨b, x.toNat, none⟩ = some (.slice none 0 0) := by
            have h1 : (W4.alloc (.cells Cb 5 (Cb.size, Cb.size + 1))).heap[b]? = some (.cells (C.setIfInBounds 256 (.slice A3 (T0.length + 1) c3)) 105) := (Below.heap_alloc _ _ _ (Array.getElem?_eq_some_iff.1 H4.out).1).trans H4.out
            obtain ⟨v0, hv0, hrep0⟩ := HCX.out x.toNat (by omega)
            rw [look_none HNE.out] at hrep0
            obtain rfl : v0 = .slice none 0 0 := hrep0
            unfold World.cell?
            simp only [h1]
            rw [Array.getElem?_setIfInBounds_ne (by omega)]
            simp [hv0]
          have f5 : (W4.alloc (.cells Cb 5 (Cb.size, Cb.size + 1))).frozen? ⟨b, x.toNat, none⟩ = false := by
            have h1 : (W4.alloc (.cells Cb 5 (Cb.size, Cb.size + 1))).heap[b]? = some (.cells (C.setIfInBounds 256 (.slice A3 (T0.length + 1) c3)) 105) := (Below.heap_alloc _ _ _ (Array.getElem?_eq_some_iff.1 H4.out).1).trans H4.out
            unfold World.frozen?
            simp [h1]
          have HROW := Aside0.mk hrow
          have HW4 := Aside0.mk hW4.symm
          have hcb2 := hcb
          rw [hW4] at hcb c5 f5
          clear hrow hcap hW4 hcb2
          go_wp2
          rw [HW4.out]
          have hx256 : x.toNat ≠ 256 := by omega
          have h1 : (W4.alloc (.cells Cb 5 (Cb.size, Cb.size + 1))).heap[b]? = some (.cells (C.setIfInBounds 256 (.slice A3 (T0.length + 1) c3)) 105) := (Below.heap_alloc _ _ _ (Array.getElem?_eq_some_iff.1 H4.out).1).trans H4.out
          have hbz4 : b < W4.heap.size := (Array.getElem?_eq_some_iff.1 H4.out).1
          have hoth : ∀ k, k ≠ b → k < W4.heap.size → (((W4.alloc (.cells Cb 5 (Cb.size, Cb.size + 1))).setCell ⟨b, x.toNat, none⟩ (.slice (some ⟨w3.heap.size, 0, none⟩) y.length capb)).drew).heap[k]? = w3.heap[k]? := fun k hk hlt => (Below.heap_setCell _ _ _ _ hk).trans ((Below.heap_alloc _ _ _ hlt).trans (H4o.out k hk))
          have hblk5 : (((W4.alloc (.cells Cb 5 (Cb.size, Cb.size + 1))).setCell ⟨b, x.toNat, none⟩ (.slice (some ⟨w3.heap.size, 0, none⟩) y.length capb)).drew).heap[b]? = some (.cells ((C.setIfInBounds 256 (.slice A3 (T0.length + 1) c3)).setIfInBounds x.toNat (.slice (some ⟨w3.heap.size, 0, none⟩) y.length capb)) 105) := by
            show ((W4.alloc (.cells Cb 5 (Cb.size, Cb.size + 1))).setCell ⟨b, x.toNat, none⟩ (.slice (some ⟨w3.heap.size, 0, none⟩) y.length capb)).heap[b]? = _
            simp only [World.setCell, Array.getElem?_modify, h1]
            simp
          refine ⟨⟨n + 1, (y0 : Int) - 2, by omega, ⟨by have := HY0.out; have := HQ.out; omega⟩, rfl, ⟨?_⟩, ⟨?_⟩⟩, by simp [intOf]; omega⟩
          · rw [hT.out]
            refine ⟨_, hblk5, by simp [HCS.out], ⟨.slice A3 (T0.length + 1) c3, ?_, ?_⟩, fun x' hx' => ?_⟩
            · rw [Array.getElem?_setIfInBounds_ne hx256, Array.getElem?_setIfInBounds_self_of_lt (by rw [HCS.out]; omega)]
            · rw [List.map_append]
              exact Kd.R_step HV3.out (fun k hk hlt => hoth k hk (by rw [H4z.out]; exact hlt))
            · by_cases hxx : x' = x.toNat
              · subst hxx
                refine ⟨_, Array.getElem?_setIfInBounds_self_of_lt (by simp [HCS.out]; omega), ?_⟩
                rw [look_snoc _ _ _ HNE.out, if_pos rfl]
                refine ⟨W4.heap.size, capb, by rw [H4z.out], hbz4, ?_⟩
                obtain ⟨C', hb', r'⟩ := HROW.out W4 rfl
                exact ⟨C', (Below.heap_setCell _ _ _ _ (by simp; omega)).trans hb', r'⟩
              · obtain ⟨v, hv, hr⟩ := HCX.out x' hx'
                refine ⟨v, by rw [Array.getElem?_setIfInBounds_ne (by omega), Array.getElem?_setIfInBounds_ne (by omega)]; exact hv, ?_⟩
                rw [look_snoc _ _ _ HNE.out, if_neg hxx]
                refine hr.move (fun k hk hu => ?_)
                obtain ⟨C', hC'⟩ := hu
                have hklt : k < wr.heap.size := (Array.getElem?_eq_some_iff.1 hC').1
                have hkne : some k ≠ (Value.slice At T0.length ct).ownBlock := fun e => by
                  obtain ⟨cells, hcells⟩ := Kd.R_typed HRT.out k e.symm
                  rw [hC'] at hcells
                  injection hcells with hcells
                  injection hcells with _ hcells
                  exact absurd hcells (by decide)
                have h3 : w3.heap[k]? = wr.heap[k]? := (HG3.out.block k (by simp; omega) hkne).trans (Below.heap_alloc _ _ _ hklt)
                exact (hoth k (by omega) (by rw [H4z.out]; have := HG3.out.size; simp at this; omega)).trans h3
          · exact ((H4b.out.alloc H4b.out.size _).setCell (p := ⟨b, x.toNat, none⟩) hbz.out _).drew
        · obtain rfl : n = j := by omega
          have hz := HZ.out
          obtain rfl : z = -2 := by omega
          have t1 : decide ((0 : Int) ≤ -2) = false := by decide
          clear hz
          go_wp2
          go_ret
          exact ⟨b, rfl, hbz.out, by have := HBn.out; rw [Nat.sub_self, List.drop_zero] at this; exact this, HWn.out⟩
end Go.Proofs.YtjepodcgbfejgaaGreatDoor.Hw
