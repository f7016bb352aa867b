import Derived.Test.YtfkoiebnpgodmaaDoorProg
import Derived.Shelf.Lays2
import Derived.Test.YtfkoiebnpgodmaaDoorShL
import Derived.Shelf.Spec.SlicesInsertGrow
import Derived.Lib.EndianMore
import Derived.Deep.Upon
import Derived.Test.YtfkoiebnpgodmaaDoorShM
/- The shelf's contracts, laid at this program. -/
namespace Go.Proofs
open Go.Shelf
def Tryd.renNm2X : Go.Shelf.Ren := ⟨fun | 0 => 0 | 1 => 1 | 2 => 2 | 16 => 23 | 17 => 74 | 22 => 42 | 24 => 43 | 29 => 58 | 30 => 59 | 36 => 66 | 40 => 81 | 41 => 82 | 42 => 83 | 43 => 84 | 44 => 85 | 45 => 86 | 46 => 87 | 47 => 88 | 48 => 89 | 49 => 90 | 50 => 91 | 51 => 92 | 52 => 93 | 53 => 94 | 54 => 95 | 55 => 97 | n => n, fun | 0 => 0 | 1 => 1 | 2 => 2 | 3 => 3 | 4 => 4 | 5 => 5 | 6 => 6 | 7 => 7 | 8 => 8 | 9 => 9 | 10 => 10 | 11 => 11 | 12 => 12 | 13 => 13 | 14 => 14 | 15 => 15 | 16 => 16 | 17 => 17 | 18 => 18 | 19 => 19 | 20 => 20 | 21 => 21 | 24 => 22 | 25 => 56 | 26 => 104 | 30 => 74 | 31 => 76 | 32 => 75 | 33 => 47 | 35 => 48 | 38 => 49 | 39 => 88 | 40 => 106 | 42 => 62 | 43 => 50 | 44 => 67 | 46 => 112 | 47 => 113 | 48 => 114 | 49 => 115 | 50 => 116 | 51 => 117 | 52 => 118 | 53 => 119 | 54 => 120 | 55 => 121 | 56 => 122 | 57 => 123 | 58 => 124 | 59 => 125 | 60 => 126 | 61 => 127 | 62 => 128 | n => n, fun n => n⟩
theorem Tryd.insL : Lays2.n22 Tryd.prog Tryd.renNm2X := {
  mixed := by kernel_rfl,
  f17 := by kernel_rfl,
  f22 := by kernel_rfl,
  f29 := by kernel_rfl,
  f30 := by kernel_rfl,
  f36 := by kernel_rfl,
  t0 := by kernel_rfl,
  a0 := fun _ => by kernel_rfl,
  z0 := fun _ => by kernel_rfl,
  v0 := fun _ => by kernel_rfl,
  t3 := by kernel_rfl,
  a3 := fun _ => by kernel_rfl,
  z3 := fun _ => by kernel_rfl,
  v3 := fun _ => by kernel_rfl,
  t4 := by kernel_rfl,
  a4 := fun _ => by kernel_rfl,
  z4 := fun _ => by kernel_rfl,
  v4 := fun _ => by kernel_rfl,
  t9 := by kernel_rfl,
  a9 := fun _ => by kernel_rfl,
  z9 := fun _ => by kernel_rfl,
  v9 := fun _ => by kernel_rfl,
  t24 := by kernel_rfl,
  a24 := fun _ => by kernel_rfl,
  z24 := fun _ => by kernel_rfl,
  v24 := fun _ => by kernel_rfl,
  i9 := by kernel_rfl }
end Go.Proofs
/- Names put in, struck out and copied, by the library's slices: contracts in the words of rows of the call's own. -/
namespace Go.Proofs.YtfkoiebnpgodmaaDoor.Hw
open Go.RowKit Go.Proofs.YtfkoiebnpgodmaaDoorW.PrintWords Go.Proofs.YtfkoiebnpgodmaaDoorW.PrintLast Go.Proofs.YtfkoiebnpgodmaaDoorW.PrintMore Go.Proofs.YtfkoiebnpgodmaaDoor.PH Go.Proofs.YtfkoiebnpgodmaaDoor.CP
set_option linter.unusedVariables false
set_option linter.unusedSimpArgs false
/-- A row of names of the call's own. -/
abbrev SR (w : World) (B : Nat) (v : Value) (l : List ByteArray) : Prop := Kd.R Kd.string 9 w B (fun _ => True) v l
theorem setCell_blk {w : World} {g o : Nat} {v : Value} {cur : Array Value} {t : TypeId} {r : Nat × Nat} (h : w.heap[g]? = some (.cells cur t r)) : (w.setCell ⟨g, o, none⟩ v).heap[g]? = some (.cells (cur.setIfInBounds o v) t r) := by
  unfold World.setCell
  rw [Array.getElem?_modify]
  simp [h]
theorem setCells_blk (g : Nat) : ∀ (vs : List Value) (o : Nat) (w : World) (cur : Array Value) (t : TypeId) (r : Nat × Nat), w.heap[g]? = some (.cells cur t r) → ∃ cur', (w.setCells g o vs).heap[g]? = some (.cells cur' t r) ∧ cur'.size = cur.size
  | [], o, w, cur, t, r, h => ⟨cur, h, rfl⟩
  | v :: vs, o, w, cur, t, r, h => by
    obtain ⟨cur', h1, h2⟩ := setCells_blk g vs (o + 1) (w.setCell ⟨g, o, none⟩ v) (cur.setIfInBounds o v) t r (setCell_blk h)
    exact ⟨cur', h1, by rw [h2]; simp⟩
theorem blk_at {w : World} {g : Nat} {cur : Array Value} {t : TypeId} {r : Nat × Nat} (h : w.heap[g]? = some (.cells cur t r)) (j : Nat) : w.cell? ⟨g, j, none⟩ = cur[j]? := by
  simp [World.cell?, h]
theorem cells_put {W : World} {g : Nat} {cur : Array Value} {t : TypeId} {r : Nat × Nat} (h : W.heap[g]? = some (.cells cur t r)) (o : Nat) (vs : List Value) (hl : o + vs.length ≤ cur.size) (j : Nat) :
    (W.setCells g o vs).cell? ⟨g, j, none⟩ = if o ≤ j ∧ j < o + vs.length then vs[j - o]? else W.cell? ⟨g, j, none⟩ := by
  by_cases hj : o ≤ j ∧ j < o + vs.length
  · rw [if_pos hj]
    obtain ⟨k, rfl⟩ : ∃ k, j = o + k := ⟨j - o, by omega⟩
    rw [World.cell?_setCells_in g vs o W (fun k hk => by rw [blk_at h]; simp; omega) k (by omega), show o + k - o = k from by omega, List.getElem?_eq_getElem (by omega)]
  · rw [if_neg hj]
    exact World.cell?_setCells_out g vs o W ⟨g, j, none⟩ (fun _ _ => by simp only []; omega)
theorem own_mk {w : World} {B g cap : Nat} {cur : Array Value} {t : TypeId} {xs : List Value} (hB : B ≤ g) (h : w.heap[g]? = some (.cells cur t (0, 0))) (hc : cur.size = cap) (hm : cap ≤ maxLen) (hl : xs.length ≤ cap) (hx : ∀ j u, xs[j]? = some u → w.cell? ⟨g, j, none⟩ = some u) :
    w.ownsRow B t 1 (.slice (some ⟨g, 0, none⟩) xs.length cap) xs.length xs := by
  refine ⟨by simp, .inr ⟨g, cap, cur, rfl, hB, h, hl, hm, by omega, ?_⟩⟩
  apply List.ext_getElem?
  intro j
  rw [Nat.mul_one, List.getElem?_take]
  split
  · rename_i hj
    have h1 := hx j _ (List.getElem?_eq_getElem hj)
    rw [blk_at h] at h1
    rw [Array.getElem?_toList, h1, List.getElem?_eq_getElem hj]
  · rename_i hj
    rw [List.getElem?_eq_none (by omega)]
theorem sr_of_own {w : World} {B : Nat} {v : Value} {l : List ByteArray} (h : w.ownsRow B 9 1 v l.length (l.map Value.string)) : SR w B v l := Kd.R_of_own h (fun _ _ => trivial)
theorem sr_own {w : World} {B : Nat} {v : Value} {l : List ByteArray} (h : SR w B v l) : w.ownsRow B 9 1 v l.length (l.map Value.string) := Kd.own_of_R h
theorem map_str_at {l : List ByteArray} {j : Nat} {u : Value} (h : (l.map Value.string)[j]? = some u) : ∃ s, l[j]? = some s ∧ u = .string s := by
  rw [List.getElem?_map] at h
  cases hs : l[j]? with
  | none => rw [hs] at h; cases h
  | some s => rw [hs] at h; exact ⟨s, rfl, by simpa using h.symm⟩
theorem str_one {l : List ByteArray} : ∀ v ∈ l.map Value.string, v.oneCell' = true := fun v hv => by
  obtain ⟨s, _, rfl⟩ := List.mem_map.1 hv; rfl
theorem sr_mk {w : World} {B g cap n : Nat} {cur : Array Value} {l : List ByteArray} (hB : B ≤ g) (h : w.heap[g]? = some (.cells cur 9 (0, 0))) (hc : cur.size = cap) (hm : cap ≤ maxLen) (hn : l.length = n) (hl : n ≤ cap) (hx : ∀ j s, l[j]? = some s → w.cell? ⟨g, j, none⟩ = some (.string s)) :
    SR w B (.slice (some ⟨g, 0, none⟩) n cap) l := by
  subst hn
  have := own_mk (xs := l.map Value.string) hB h hc hm (by simpa using hl) (fun j u hu => by obtain ⟨s, h1, rfl⟩ := map_str_at hu; exact hx j s h1)
  rw [List.length_map] at this
  exact sr_of_own this
/-- slices.Clone. -/
theorem clone_calls (A : Option Addr) (c : Nat) (l : List ByteArray) (w : World) (hC : Kd.C Kd.string w A l.length l) (hl : l.length * 16 ≤ 140737488351232) :
    Calls Tryd.prog 23 #[.slice A l.length c] w fun e w' => ∃ v, e = .returned v ∧ SR w' w.heap.size v l ∧ Below w.heap.size w w' := by
  cases A with
  | none =>
    have h0 : l = [] := by
      cases l with
      | nil => rfl
      | cons x l => obtain ⟨ad, h, _⟩ := hC.2.2 (by simp); cases h
    subst h0
    refine (Tryd.slices_Clone_string_nil _ c w).mono ?_
    rintro e w' ⟨rfl, rfl⟩
    exact ⟨_, rfl, Kd.R_nil _ _ _ _ _, Below.refl _ _⟩
  | some a =>
    by_cases h0 : l.length = 0
    · obtain rfl : l = [] := List.eq_nil_of_length_eq_zero h0
      refine (Tryd.slices_Clone_string_zero a c w).mono ?_
      rintro e w' ⟨v, rfl, ho, _, hb⟩
      exact ⟨_, rfl, sr_of_own ho, hb⟩
    · obtain ⟨ad, h1, hx⟩ := hC.2.2 (by omega)
      cases h1
      have hx' : ∀ j s, l[j]? = some s → w.cell? (a.add j) = some (.string s) := fun j s hj => by
        obtain ⟨cs, e1, e2, e3⟩ := hx j s hj
        have e2' : cs = [.string s] := e2
        have := e3 0 (.string s) (by rw [e2']; rfl)
        simpa [Kd.string, Kd.scalar] using this
      obtain ⟨b, off, spot⟩ := a
      have hsp : spot = none := by
        have h := hx' 0 l[0] (by rw [List.getElem?_eq_getElem])
        cases spot with
        | none => rfl
        | some q =>
          have e : (⟨b, off, some q⟩ : Addr).add 0 = ⟨b, off, some q⟩ := rfl
          rw [e] at h
          unfold World.cell? at h
          split at h <;> simp at h
      subst hsp
      refine (Tryd.slices_Clone_string b off l.length c l w (Nat.le_refl _) (by omega) (fun j hj => by
        have h := hx' j l[j] (List.getElem?_eq_getElem hj)
        rw [Addr.add_lit] at h
        rw [h, List.getD_eq_getElem?_getD, List.getElem?_eq_getElem hj]; rfl)).mono ?_
      rintro e w' ⟨v, rfl, ho, _, hb⟩
      rw [List.take_length] at ho
      exact ⟨_, rfl, sr_of_own ho, hb⟩
theorem ins_at (l : List ByteArray) (s : ByteArray) (i j : Nat) (u : ByteArray) (hi : i ≤ l.length) (h : (l.take i ++ s :: l.drop i)[j]? = some u) : if j < i then l[j]? = some u else if j = i then u = s else l[j - 1]? = some u := by
  by_cases h1 : j < i
  · rw [if_pos h1]
    rw [List.getElem?_append_left (by rw [List.length_take]; omega), List.getElem?_take_of_lt h1] at h
    exact h
  · rw [if_neg h1]
    rw [List.getElem?_append_right (by rw [List.length_take]; omega), List.length_take, Nat.min_eq_left hi] at h
    by_cases h2 : j = i
    · rw [if_pos h2]; subst h2; simpa using h.symm
    · rw [if_neg h2]
      obtain ⟨k, rfl⟩ : ∃ k, j = i + k + 1 := ⟨j - i - 1, by omega⟩
      rw [show i + k + 1 - i = k + 1 from by omega, List.getElem?_cons_succ, List.getElem?_drop] at h
      exact h
theorem ins_len (l : List ByteArray) (s : ByteArray) (i : Nat) (hi : i ≤ l.length) : (l.take i ++ s :: l.drop i).length = l.length + 1 := by simp; omega
/-- slices.Insert of one name into a row of the call's own. -/
theorem ins_calls (B : Nat) (A : Option Addr) (c : Nat) (l : List ByteArray) (i : Nat) (s : ByteArray) (vb : Nat) (w : World) (hB : B ≤ w.heap.size) (hv : SR w B (.slice A l.length c) l) (hi : i ≤ l.length) (hvb : w.heap[vb]? = some (.cells #[.string s] 9 (0, 0)))
    (hne : some vb ≠ (Value.slice A l.length c).ownBlock) (hbig : (l.length + 1) * 16 ≤ 140737488355328) :
    Calls Tryd.prog 42 #[.slice A l.length c, .int .i64 i, .slice (some ⟨vb, 0, none⟩) 1 1] w fun e w' => ∃ v, e = .returned v ∧ SR w' B v (l.take i ++ s :: l.drop i) ∧ Below B w w' := by
  have ho := sr_own hv
  have L := Tryd.insL
  have hvs : ∀ j v, [Value.string s][j]? = some v → w.cell? ⟨vb, 0 + j, none⟩ = some v := fun j v hj => by
    cases j with
    | zero => rw [blk_at hvb]; simpa using hj
    | succ j => simp at hj
  have h1v : ∀ v ∈ [Value.string s], v.oneCell' = true := fun v hv => by simp at hv; subst hv; rfl
  have hm : ∀ n, n + 1 ≤ l.length + 1 → grownCap w (l.length + 1) n 9 ≤ maxLen := fun n hn => grownCap_le_maxLen _ _ _ _ (by unfold maxLen; omega)
  have hfin := ins_len l s i hi
  rcases ho.2 with ⟨h1, h2⟩ | ⟨g, cap, cur, h1, hg, hh, hnc, hcm, hcs, htk⟩
  · injection h1 with h1 h3 h4
    subst h1; subst h4
    obtain rfl : l = [] := List.eq_nil_of_length_eq_zero h2
    obtain rfl : i = 0 := by simpa using hi
    refine (Any2.slices_Insert_string_end_grow L none 0 0 vb 0 1 1 [] [.string s] w (by omega) (Nat.le_refl _) (by omega) (by omega) rfl rfl (fun _ => rfl) (fun a h => by cases h) hvs h1v).mono ?_
    rintro e w' ⟨rfl, rfl⟩
    rw [show Tryd.renNm2X.t 9 = 9 from rfl]
    have hgc := grownCap_ge w 1 0 9
    have hmc := hm 0 (by omega)
    refine ⟨_, rfl, sr_mk hB (heap_alloc_new w.drew _) ?_ hmc (by simp) hgc ?_, ((Below.refl B w).drew).alloc hB _⟩
    · show (_ : Array Value).size = grownCap w 1 0 9
      simp [Builtin.zeroCells, Value.cells]
      show 1 + (grownCap w 1 0 9 - 1) = grownCap w 1 0 9
      omega
    · intro j u hj
      refine (blk_at (heap_alloc_new w.drew _) j).trans ?_
      cases j with
      | zero =>
        obtain rfl : s = u := by simpa using hj
        show (([Value.string s].toArray ++ Builtin.zeroCells (Value.string ⟨#[]⟩).cells _) : Array Value)[0]? = _
        rw [Array.getElem?_append_left (by simp)]; rfl
      | succ j => simp at hj
  · injection h1 with h1 h3 h4
    subst h1; subst h4
    have hgw : g < w.heap.size := (Array.getElem?_eq_some_iff.1 hh).1
    have hvg : vb ≠ g := fun h => hne (by rw [h]; rfl)
    rw [Nat.mul_one] at hcs htk
    have hx : ∀ j u, (l.map Value.string)[j]? = some u → w.cell? ⟨g, 0 + j, none⟩ = some u := fun j u hj => by
      rw [Nat.zero_add, blk_at hh, ← Array.getElem?_toList]
      rw [← htk, List.getElem?_take] at hj
      split at hj
      · exact hj
      · cases hj
    have hxs : ∀ j s, l[j]? = some s → w.cell? ⟨g, j, none⟩ = some (.string s) := fun j s hj => by
      have := hx j (.string s) (by rw [List.getElem?_map, hj]; rfl)
      rwa [Nat.zero_add] at this
    have hdl : ((l.map Value.string).drop i).length = l.length - i := by simp
    have hda : ∀ k, ((l.map Value.string).drop i)[k]? = (l[i + k]?).map Value.string := fun k => by rw [List.getElem?_drop, List.getElem?_map]
    by_cases hroom : l.length + 1 ≤ c
    · by_cases hin : i < l.length
      · refine (Any2.slices_Insert_string_shift L g 0 l.length c i vb 0 1 1 (l.map Value.string) [.string s] w hin (by omega) hroom (by unfold maxLen at hcm; omega) hvg (by simp) rfl hx
          (fun j hj => by rw [Nat.zero_add, blk_at hh]; simp; omega) (fun j hj => by simp [World.frozen?, hh]) hvs str_one h1v 9 9 1 c (by simp [World.shape?, hvb]) (by simp [World.shape?, hh, hcs]) (by omega) (by simp [World.frozen?, hvb]) (by simp [World.frozen?, hvb])).mono ?_
        rintro e w' ⟨rfl, rfl⟩
        have hh1 : w.drew.heap[g]? = some (.cells cur 9 (0, 0)) := hh
        obtain ⟨cur1, hb1, hs1⟩ := setCells_blk g ((l.map Value.string).drop i) (0 + (i + 1)) w.drew cur 9 (0, 0) hh1
        obtain ⟨cur2, hb2, hs2⟩ := setCells_blk g [Value.string s] (0 + i) _ cur1 9 (0, 0) hb1
        refine ⟨_, rfl, sr_mk hg hb2 (by omega) hcm (by omega) hroom ?_, ((Below.refl B w).drew.trans (Lib.below_setCells_w hg _ _ _)).trans (Lib.below_setCells_w hg _ _ _)⟩
        intro j u hj
        have hj2 := ins_at l s i j u hi hj
        rw [cells_put hb1 _ _ (by simp; omega), cells_put hh1 _ _ (by rw [hdl]; omega), hdl]
        simp only [List.length_singleton, Nat.zero_add]
        have hjl : j < l.length + 1 := by rw [← hfin]; exact (List.getElem?_eq_some_iff.1 hj).1
        by_cases g1 : j < i
        · rw [if_pos g1] at hj2
          rw [if_neg (by omega), if_neg (by omega)]
          exact hxs j u hj2
        · rw [if_neg g1] at hj2
          by_cases g2 : j = i
          · rw [if_pos g2] at hj2
            rw [if_pos (by omega), g2, Nat.sub_self, hj2]; rfl
          · rw [if_neg g2] at hj2
            rw [if_neg (by omega), if_pos (by omega), hda, show i + (j - (i + 1)) = j - 1 from by omega, hj2]; rfl
      · obtain rfl : i = l.length := by omega
        refine (Any2.slices_Insert_string_end_room L g 0 l.length c vb 0 1 1 [.string s] w (by omega) hroom (by unfold maxLen at hcm; omega) rfl
          (fun j hj => by rw [blk_at hh]; simp; omega) (fun j hj => by simp [World.frozen?, hh]) hvs h1v).mono ?_
        rintro e w' ⟨rfl, rfl⟩
        obtain ⟨cur2, hb2, hs2⟩ := setCells_blk g [Value.string s] (0 + l.length) _ cur 9 (0, 0) hh
        refine ⟨_, rfl, sr_mk hg hb2 (by omega) hcm (by omega) hroom ?_, Lib.below_setCells_w hg _ _ _⟩
        intro j u hj
        have hj2 := ins_at l s l.length j u hi hj
        rw [cells_put hh _ _ (by simp; omega)]
        simp only [List.length_singleton, Nat.zero_add]
        have hjl : j < l.length + 1 := by rw [← hfin]; exact (List.getElem?_eq_some_iff.1 hj).1
        by_cases g1 : j < l.length
        · rw [if_pos g1] at hj2
          rw [if_neg (by omega)]
          exact hxs j u hj2
        · rw [if_neg g1, if_pos (show j = l.length by omega)] at hj2
          rw [if_pos (by omega), hj2, show j - l.length = 0 from by omega]; rfl
    · have hgc := grownCap_ge w (l.length + 1) c 9
      have hmc := hm c (by omega)
      have hcn : c = l.length := by omega
      by_cases hin : i < l.length
      · refine (Any2.slices_Insert_string_grow L g 0 l.length c i vb 0 1 1 (l.map Value.string) [.string s] w hin (by omega) hnc (by omega) hbig (by simp) rfl hx hvs str_one h1v).mono ?_
        rintro e w' ⟨rfl, rfl⟩
        rw [show Tryd.renNm2X.t 9 = 9 from rfl]
        have hh0 := heap_alloc_new w (.cells (((l.map Value.string).take i).toArray ++ Builtin.zeroCells (Value.string ⟨#[]⟩).cells (l.length + 1 - i) ++ Builtin.zeroCells (Value.string ⟨#[]⟩).cells (grownCap w (l.length + 1) c 9 - (l.length + 1))) 9)
        have hsz : (((l.map Value.string).take i).toArray ++ Builtin.zeroCells (Value.string ⟨#[]⟩).cells (l.length + 1 - i) ++ Builtin.zeroCells (Value.string ⟨#[]⟩).cells (grownCap w (l.length + 1) c 9 - (l.length + 1))).size = grownCap w (l.length + 1) c 9 := by
          rw [Array.size_append, Array.size_append, size_zeroCells, size_zeroCells]
          simp only [Value.cells, List.size_toArray, List.length_take, List.length_map]
          show min i l.length + (l.length + 1 - i) * 1 + (grownCap w (l.length + 1) c 9 - (l.length + 1)) * 1 = _
          omega
        have hat : ∀ j u, j < i → l[j]? = some u → (((l.map Value.string).take i).toArray ++ Builtin.zeroCells (Value.string ⟨#[]⟩).cells (l.length + 1 - i) ++ Builtin.zeroCells (Value.string ⟨#[]⟩).cells (grownCap w (l.length + 1) c 9 - (l.length + 1)))[j]? = some (Value.string u) := fun j u hj hu => by
          rw [Array.append_assoc, Array.getElem?_append_left (by simp; omega), List.getElem?_toArray, List.getElem?_take_of_lt hj, List.getElem?_map, hu]; rfl
        generalize (((l.map Value.string).take i).toArray ++ Builtin.zeroCells (Value.string ⟨#[]⟩).cells (l.length + 1 - i) ++ Builtin.zeroCells (Value.string ⟨#[]⟩).cells (grownCap w (l.length + 1) c 9 - (l.length + 1))) = cur0 at *
        generalize grownCap w (l.length + 1) c 9 = cap at *
        have hh1 : (w.alloc (.cells cur0 9)).drew.heap[w.heap.size]? = some (.cells cur0 9 (0, 0)) := hh0
        obtain ⟨cur1, hb1, hs1⟩ := setCells_blk w.heap.size [Value.string s] i _ cur0 9 (0, 0) hh1
        have hb1' : (((w.alloc (.cells cur0 9)).drew.setCells w.heap.size i [Value.string s]).drew).heap[w.heap.size]? = some (.cells cur1 9 (0, 0)) := hb1
        obtain ⟨cur2, hb2, hs2⟩ := setCells_blk w.heap.size ((l.map Value.string).drop i) (i + 1) _ cur1 9 (0, 0) hb1'
        refine ⟨_, rfl, sr_mk hB hb2 (by omega) hmc (by omega) hgc ?_, ((((((Below.refl B w).alloc hB _).drew).trans (Lib.below_setCells_w hB _ _ _)).drew).trans (Lib.below_setCells_w hB _ _ _))⟩
        intro j u hj
        have hj2 := ins_at l s i j u hi hj
        have hjl : j < l.length + 1 := by rw [← hfin]; exact (List.getElem?_eq_some_iff.1 hj).1
        have hdr : (((w.alloc (.cells cur0 9)).drew.setCells w.heap.size i [Value.string s]).drew).cell? ⟨w.heap.size, j, none⟩ = ((w.alloc (.cells cur0 9)).drew.setCells w.heap.size i [Value.string s]).cell? ⟨w.heap.size, j, none⟩ := rfl
        rw [cells_put hb1' _ _ (by rw [hdl]; omega), hdl, hdr, cells_put hh1 _ _ (by simp; omega)]
        simp only [List.length_singleton]
        by_cases g1 : j < i
        · rw [if_pos g1] at hj2
          rw [if_neg (by omega), if_neg (by omega), blk_at hh1]
          exact hat j u g1 hj2
        · rw [if_neg g1] at hj2
          by_cases g2 : j = i
          · rw [if_pos g2] at hj2
            rw [if_neg (by omega), if_pos (by omega), g2, Nat.sub_self, hj2]; rfl
          · rw [if_neg g2] at hj2
            rw [if_pos (by omega), hda, show i + (j - (i + 1)) = j - 1 from by omega, hj2]; rfl
      · obtain rfl : i = l.length := by omega
        refine (Any2.slices_Insert_string_end_grow L (some ⟨g, 0, none⟩) l.length c vb 0 1 1 (l.map Value.string) [.string s] w (by omega) hnc (by omega) hbig (by simp) rfl (fun h => by cases h) (fun a ha j v hj => by cases ha; rw [Addr.add_lit]; exact hx j v hj) hvs h1v).mono ?_
        rintro e w' ⟨rfl, rfl⟩
        rw [show Tryd.renNm2X.t 9 = 9 from rfl]
        refine ⟨_, rfl, sr_mk hB (heap_alloc_new w.drew _) ?_ hmc (by omega) hgc ?_, ((Below.refl B w).drew).alloc hB _⟩
        · show (_ : Array Value).size = grownCap w (l.length + 1) c 9
          rw [Array.size_append, size_zeroCells]
          simp only [Value.cells, List.size_toArray, List.length_append, List.length_map, List.length_singleton]
          show l.length + 1 + (grownCap w (l.length + 1) c 9 - (l.length + 1)) * 1 = _
          omega
        · intro j u hj
          refine (blk_at (heap_alloc_new w.drew _) j).trans ?_
          have hjl : j < l.length + 1 := by rw [← hfin]; exact (List.getElem?_eq_some_iff.1 hj).1
          have e : l.take l.length ++ s :: l.drop l.length = l ++ [s] := by simp
          rw [e] at hj
          rw [Array.getElem?_append_left (by simp; omega), List.getElem?_toArray, show l.map Value.string ++ [Value.string s] = (l ++ [s]).map Value.string from by simp, List.getElem?_map, hj]; rfl
theorem strs_at (Sx : Nat → ByteArray) (n k : Nat) : (Lib.strsOf Sx n)[k]? = if k < n then some (Sx k).data.toList else none := by
  unfold Lib.strsOf
  by_cases h : k < n
  · rw [if_pos h]; simp [h]
  · rw [if_neg h]; simp; omega
/-- slices.Delete of one name out of a row of the call's own. -/
theorem del_calls (B : Nat) (A : Option Addr) (c : Nat) (l : List ByteArray) (i : Nat) (j : Int) (w : World) (hv : SR w B (.slice A l.length c) l) (hi : i < l.length) (hj : j = (i : Int) + 1) :
    Calls Tryd.prog 43 #[.slice A l.length c, .int .i64 i, .int .i64 j] w fun e w' => e = .returned (.slice A (l.length - 1) c) ∧ SR w' B (.slice A (l.length - 1) c) (l.take i ++ l.drop (i + 1)) ∧ Below B w w' ∧ (∀ b, b < w.heap.size → some b ≠ (Value.slice A l.length c).ownBlock → w'.heap[b]? = w.heap[b]?) := by
  obtain rfl : j = ((i + 1 : Nat) : Int) := by rw [hj]; rfl
  have ho := sr_own hv
  rcases ho.2 with ⟨h1, h2⟩ | ⟨g, cap, cur, h1, hg, hh, hnc, hcm, hcs, htk⟩
  · omega
  · injection h1 with h1 h3 h4
    subst h1; subst h4
    rw [Nat.mul_one] at hcs htk
    have hxs : ∀ j s, l[j]? = some s → w.cell? ⟨g, j, none⟩ = some (.string s) := fun j s hj => by
      have hj2 : (l.map Value.string)[j]? = some (.string s) := by rw [List.getElem?_map, hj]; rfl
      rw [blk_at hh, ← Array.getElem?_toList]
      rw [← htk, List.getElem?_take] at hj2
      split at hj2
      · exact hj2
      · cases hj2
    have hSx : ∀ k, k < l.length → l[k]? = some (l.getD k ByteArray.empty) := fun k hk => by rw [List.getD_eq_getElem?_getD, List.getElem?_eq_getElem hk]; rfl
    refine (Tryd.slices_Delete_string_cells g 0 l.length c i (i + 1) (fun k => l.getD k ByteArray.empty) w hnc (by unfold maxLen at hcm; omega) (by omega) (by omega) (fun k hk => by rw [Nat.zero_add]; exact hxs k _ (hSx k hk)) (fun k hk => by simp [World.frozen?, hh])).mono ?_
    rintro e w' ⟨rfl, q, rfl⟩
    rw [show l.length - (i + 1 - i) = l.length - 1 from by omega]
    have hlen : ((((Lib.strsOf (fun k => l.getD k ByteArray.empty) l.length).take i ++ (Lib.strsOf (fun k => l.getD k ByteArray.empty) l.length).drop (i + 1) ++ List.replicate (i + 1 - i) []).map encStr)).length = l.length := by
      simp [Lib.strsOf]; omega
    have hat : ∀ j s, (l.take i ++ l.drop (i + 1))[j]? = some s → (((Lib.strsOf (fun k => l.getD k ByteArray.empty) l.length).take i ++ (Lib.strsOf (fun k => l.getD k ByteArray.empty) l.length).drop (i + 1) ++ List.replicate (i + 1 - i) []).map encStr)[j]? = some (Value.string s) := fun j s hj => by
      have hjl : j < l.length - 1 := by
        have := (List.getElem?_eq_some_iff.1 hj).1
        simp at this; omega
      have hsl : (Lib.strsOf (fun k => l.getD k ByteArray.empty) l.length).length = l.length := by simp [Lib.strsOf]
      rw [List.getElem?_map, List.getElem?_append_left (by rw [List.length_append, List.length_take, List.length_drop, hsl]; omega)]
      by_cases g1 : j < i
      · rw [List.getElem?_append_left (by rw [List.length_take]; omega), List.getElem?_take_of_lt g1] at hj
        rw [List.getElem?_append_left (by rw [List.length_take, hsl]; omega), List.getElem?_take_of_lt g1, strs_at, if_pos (by omega)]
        rw [List.getD_eq_getElem?_getD, hj]; rfl
      · rw [List.getElem?_append_right (by rw [List.length_take]; omega), List.length_take, List.getElem?_drop] at hj
        rw [List.getElem?_append_right (by rw [List.length_take, hsl]; omega), List.length_take, hsl, List.getElem?_drop, strs_at, if_pos (by omega)]
        rw [List.getD_eq_getElem?_getD, hj]; rfl
    generalize (((Lib.strsOf (fun k => l.getD k ByteArray.empty) l.length).take i ++ (Lib.strsOf (fun k => l.getD k ByteArray.empty) l.length).drop (i + 1) ++ List.replicate (i + 1 - i) []).map encStr) = vs at *
    have hh1 : (w.drewN q).heap[g]? = some (.cells cur 9 (0, 0)) := hh
    obtain ⟨cur1, hb1, hs1⟩ := setCells_blk g vs 0 _ cur 9 (0, 0) hh1
    refine ⟨rfl, sr_mk hg hb1 (by omega) hcm (by simp; omega) (by omega) ?_, (pw_below_drewN (Below.refl B w) q).trans (Lib.below_setCells_w hg _ _ _), fun b hb hne => World.heap_setCells_other (w.drewN q) g 0 vs hb (fun h => hne (by rw [h]; rfl))⟩
    intro j s hj
    have hjl : j < l.length - 1 := by
      have := (List.getElem?_eq_some_iff.1 hj).1
      simp at this; omega
    rw [cells_put hh1 _ _ (by omega), if_pos (by omega), Nat.sub_zero]
    exact hat j s hj
end Go.Proofs.YtfkoiebnpgodmaaDoor.Hw
/- The document's put and without, walked. -/
namespace Go.Proofs.YtfkoiebnpgodmaaDoor.Hw
open Go.RowKit Go.Proofs.YtfkoiebnpgodmaaDoorW.PrintWords Go.Proofs.YtfkoiebnpgodmaaDoorW.PrintLast Go.Proofs.YtfkoiebnpgodmaaDoorW.PrintMore Go.Proofs.YtfkoiebnpgodmaaDoor.PH Go.Proofs.YtfkoiebnpgodmaaDoor.CP
set_option linter.unusedVariables false
set_option linter.unusedSimpArgs false
theorem infoS16 : (Tryd.prog.info? 9).map (fun i => (i.zero, i.size, i.bytes)) = some (some (.string ⟨#[]⟩), 1, 16) := by kernel_rfl
theorem c_some {w : World} {A : Option Addr} {n : Nat} {l : List ByteArray} (h : Kd.C Kd.string w A n l) (hn : 0 < n) : ∃ ad, A = some ad := by
  obtain ⟨ad, h1, _⟩ := h.2.2 hn; exact ⟨ad, h1⟩
theorem sr_fit {w : World} {B n m c : Nat} {A : Option Addr} {x y : List ByteArray} (h : SR w B (.slice A n c) x) (e : x = y) (hn : n = m) : SR w B (.slice A m c) y := by subst e hn; exact h
set_option maxRecDepth 100000 in
set_option maxHeartbeats 4000000 in
theorem rput_calls (A : Option Addr) (c : Nat) (l : List ByteArray) (k : Nat) (s : ByteArray) (w : World) (hC : Kd.C Kd.string w A l.length l) (hc : l.length ≤ c) (hk : k ≤ l.length) (hl : (l.length + 1) * 16 ≤ 140737488355328) :
    Calls Tryd.prog 44 #[.slice A l.length c, .int .i64 k, .string s] w fun e w' => ∃ u, e = .returned u ∧ SR w' w.heap.size u (l.take k ++ s :: l.drop k) ∧ Below w.heap.size w w' := by
  have HC := Aside0.mk hC
  have hlt1 : (l.take k).length = k := by rw [List.length_take]; omega
  have HT1 : Aside0 (Kd.string.C w A (l.take k).length (l.take k)) := ⟨Kd.C_take hC hk⟩
  clear hC
  have HL1 : Aside0 (([] ++ l.take k).length = k) := ⟨by rw [List.nil_append]; exact hlt1⟩
  have HL2 : Aside0 ((([] ++ l.take k) ++ [s]).length = k + 1) := ⟨by rw [List.length_append, HL1.out]; rfl⟩
  have HL3 : Aside0 ((l.drop k).length = l.length - k) := ⟨by simp⟩
  have HPL : Aside0 ((([] ++ l.take k) ++ [s]) ++ l.drop k = l.take k ++ s :: l.drop k) := ⟨by simp⟩
  rw [hlt1] at HT1
  by_cases hend : k < l.length
  · obtain ⟨ad, rfl⟩ := c_some HC.out (by omega)
    have HDR : Aside0 (∀ w', Below w.heap.size w w' → Kd.string.C w' (some (ad.add k)) (l.length - k) (l.drop k)) := ⟨fun w' hb' => by
      have h := Kd.C_below (Kd.C_drop HC.out hk hc) hb'
      rw [if_neg (by omega), HL3.out] at h
      simpa [Kd.string, Kd.scalar] using h⟩
    clear hlt1
    go_enter Tryd.func44, Tryd.ntmps44
    go_wp2_with (first
      | (refine Kd.R_append_row Value.string ByteArray.empty (w0 := w) w.heap.size rfl _ _ 22 9 (.string ⟨#[]⟩) 16 rfl Tryd.underlying22 infoS16 rfl (by decide) (.slice none 0 0) [] (l.take k) (some ad) k c (fun _ => True) rfl rfl (fun _ _ => trivial) (Kd.R_nil _ _ _ _ _) HT1.out (Below.refl _ _) (Nat.le_refl _) (by have := HL1.out; simp at this ⊢; omega) ?_; intro v1 w1 hv1 hb1 hg1 hat1; obtain ⟨A2, c2, rfl, hc2, _⟩ := Kd.R_reads hv1; rw [HL1.out] at hv1; have HV1 := Aside0.mk hv1; have HB1 := Aside0.mk hb1; clear hv1 hb1 hg1 hat1)
      | (refine Kd.R_append Kd.string (w0 := w) w.heap.size rfl _ _ 22 9 (.string ⟨#[]⟩) 16 rfl Tryd.underlying22 infoS16 rfl (by decide) (by decide) (.slice A2 k c2) ([] ++ l.take k) s [.string s] (fun _ => True) (fun _ => False) rfl rfl rfl (fun _ h => h.elim) (fun _ _ => trivial) HV1.out HB1.out HB1.out.size (by rw [HL1.out]; omega) ?_; intro v3 w3 hv3 hb3 hg3 hat3; obtain ⟨A3, c3, rfl, hc3, _⟩ := Kd.R_reads hv3; rw [HL2.out] at hv3; have HV3 := Aside0.mk hv3; have HB3 := Aside0.mk hb3; clear hv3 hb3 hg3 hat3)
      | (refine Kd.R_append_row Value.string ByteArray.empty (w0 := w) w.heap.size rfl _ _ 22 9 (.string ⟨#[]⟩) 16 rfl Tryd.underlying22 infoS16 rfl (by decide) (.slice A3 (k + 1) c3) (([] ++ l.take k) ++ [s]) (l.drop k) _ _ _ (fun _ => True) rfl rfl (fun _ _ => trivial) HV3.out (HDR.out _ HB3.out) HB3.out HB3.out.size (by rw [HL2.out]; omega) ?_; intro v5 w6 hv5 hb5 hg5 hat5; obtain ⟨A5, c5, rfl, hc5, _⟩ := Kd.R_reads hv5; have HV5 := Aside0.mk hv5; have HB5 := Aside0.mk hb5; clear hv5 hb5 hg5 hat5))
    go_ret
    exact ⟨_, rfl, sr_fit HV5.out (by simp) (by rw [List.length_append, HL2.out, HL3.out]; omega), HB5.out⟩
  · obtain rfl : k = l.length := by omega
    have HDR : Aside0 (∀ (AX : Option Addr) w', Below w.heap.size w w' → Kd.string.C w' AX 0 (l.drop l.length)) := ⟨fun AX w' hb' => by
      rw [List.drop_length]
      exact ⟨rfl, by simp, fun h => absurd h (Nat.lt_irrefl _)⟩⟩
    clear hlt1
    go_enter Tryd.func44, Tryd.ntmps44
    go_wp2_with (first
      | (refine Kd.R_append_row Value.string ByteArray.empty (w0 := w) w.heap.size rfl _ _ 22 9 (.string ⟨#[]⟩) 16 rfl Tryd.underlying22 infoS16 rfl (by decide) (.slice none 0 0) [] (l.take l.length) A l.length c (fun _ => True) rfl rfl (fun _ _ => trivial) (Kd.R_nil _ _ _ _ _) HT1.out (Below.refl _ _) (Nat.le_refl _) (by have := HL1.out; simp at this ⊢; omega) ?_; intro v1 w1 hv1 hb1 hg1 hat1; obtain ⟨A2, c2, rfl, hc2, _⟩ := Kd.R_reads hv1; rw [HL1.out] at hv1; have HV1 := Aside0.mk hv1; have HB1 := Aside0.mk hb1; clear hv1 hb1 hg1 hat1)
      | (refine Kd.R_append Kd.string (w0 := w) w.heap.size rfl _ _ 22 9 (.string ⟨#[]⟩) 16 rfl Tryd.underlying22 infoS16 rfl (by decide) (by decide) (.slice A2 l.length c2) ([] ++ l.take l.length) s [.string s] (fun _ => True) (fun _ => False) rfl rfl rfl (fun _ h => h.elim) (fun _ _ => trivial) HV1.out HB1.out HB1.out.size (by rw [HL1.out]; omega) ?_; intro v3 w3 hv3 hb3 hg3 hat3; obtain ⟨A3, c3, rfl, hc3, _⟩ := Kd.R_reads hv3; rw [HL2.out] at hv3; have HV3 := Aside0.mk hv3; have HB3 := Aside0.mk hb3; clear hv3 hb3 hg3 hat3)
      | (refine Kd.R_append_row Value.string ByteArray.empty (w0 := w) w.heap.size rfl _ _ 22 9 (.string ⟨#[]⟩) 16 rfl Tryd.underlying22 infoS16 rfl (by decide) (.slice A3 (l.length + 1) c3) (([] ++ l.take l.length) ++ [s]) (l.drop l.length) _ _ _ (fun _ => True) rfl rfl (fun _ _ => trivial) HV3.out (HDR.out _ _ HB3.out) HB3.out HB3.out.size (by rw [HL2.out]; omega) ?_; intro v5 w6 hv5 hb5 hg5 hat5; obtain ⟨A5, c5, rfl, hc5, _⟩ := Kd.R_reads hv5; have HV5 := Aside0.mk hv5; have HB5 := Aside0.mk hb5; clear hv5 hb5 hg5 hat5))
    all_goals go_ret
    all_goals exact ⟨_, rfl, sr_fit HV5.out (by simp) (by rw [List.length_append, HL2.out, HL3.out]; omega), HB5.out⟩
set_option maxRecDepth 100000 in
set_option maxHeartbeats 4000000 in
theorem rwithout_calls (A : Option Addr) (c : Nat) (l : List ByteArray) (k : Nat) (w : World) (hC : Kd.C Kd.string w A l.length l) (hc : l.length ≤ c) (hk : k < l.length) (hl : l.length * 16 ≤ 140737488355328) :
    Calls Tryd.prog 45 #[.slice A l.length c, .int .i64 k] w fun e w' => ∃ u, e = .returned u ∧ SR w' w.heap.size u (l.take k ++ l.drop (k + 1)) ∧ Below w.heap.size w w' := by
  have HC := Aside0.mk hC
  have hlt1 : (l.take k).length = k := by rw [List.length_take]; omega
  have HT1 : Aside0 (Kd.string.C w A (l.take k).length (l.take k)) := ⟨Kd.C_take hC (by omega)⟩
  clear hC
  have HL1 : Aside0 (([] ++ l.take k).length = k) := ⟨by rw [List.nil_append]; exact hlt1⟩
  have HL3 : Aside0 ((l.drop (k + 1)).length = l.length - (k + 1)) := ⟨by simp⟩
  have HPL : Aside0 (([] ++ l.take k) ++ l.drop (k + 1) = l.take k ++ l.drop (k + 1)) := ⟨by simp⟩
  rw [hlt1] at HT1
  obtain ⟨ad, rfl⟩ := c_some HC.out (by omega)
  have HDR : Aside0 (∀ (AX : Option Addr) w', (AX = some ⟨ad.block, ad.off + (k + 1), none⟩ ∨ l.length = k + 1) → Below w.heap.size w w' → Kd.string.C w' AX (l.length - (k + 1)) (l.drop (k + 1))) := ⟨fun AX w' ha hb' => by
    by_cases he : k + 1 = c
    · have hz : l.length - (k + 1) = 0 := by omega
      rw [hz]
      exact ⟨by rw [HL3.out, hz], by simp, fun h => absurd h (Nat.lt_irrefl _)⟩
    · rcases ha with rfl | ha
      · have h := Kd.C_below (Kd.C_drop HC.out hk hc) hb'
        rw [if_neg (by omega), HL3.out] at h
        simpa [Kd.string, Kd.scalar, Addr.add] using h
      · have hz : l.length - (k + 1) = 0 := by omega
        rw [hz]
        exact ⟨by rw [HL3.out, hz], by simp, fun h => absurd h (Nat.lt_irrefl _)⟩⟩
  have HLL : Aside0 (k + 1 = l.length ∨ k + 1 < l.length) := ⟨by omega⟩
  clear hlt1
  have hk' : k ≤ l.length := by omega
  by_cases he : k + 1 < l.length
  · go_enter Tryd.func45, Tryd.ntmps45
    go_wp2_with (first
      | (refine Kd.R_append_row Value.string ByteArray.empty (w0 := w) w.heap.size rfl _ _ 22 9 (.string ⟨#[]⟩) 16 rfl Tryd.underlying22 infoS16 rfl (by decide) (.slice none 0 0) [] (l.take k) (some ad) k c (fun _ => True) rfl rfl (fun _ _ => trivial) (Kd.R_nil _ _ _ _ _) HT1.out (Below.refl _ _) (Nat.le_refl _) (by have := HL1.out; simp at this ⊢; omega) ?_; intro v1 w1 hv1 hb1 hg1 hat1; obtain ⟨A2, c2, rfl, hc2, _⟩ := Kd.R_reads hv1; rw [HL1.out] at hv1; have HV1 := Aside0.mk hv1; have HB1 := Aside0.mk hb1; clear hv1 hb1 hg1 hat1)
      | (refine Kd.R_append_row Value.string ByteArray.empty (w0 := w) w.heap.size rfl _ _ 22 9 (.string ⟨#[]⟩) 16 rfl Tryd.underlying22 infoS16 rfl (by decide) (.slice A2 k c2) ([] ++ l.take k) (l.drop (k + 1)) _ _ _ (fun _ => True) rfl rfl (fun _ _ => trivial) HV1.out (HDR.out _ _ (.inl rfl) HB1.out) HB1.out HB1.out.size (by rw [HL1.out]; omega) ?_; intro v5 w6 hv5 hb5 hg5 hat5; obtain ⟨A5, c5, rfl, hc5, _⟩ := Kd.R_reads hv5; have HV5 := Aside0.mk hv5; have HB5 := Aside0.mk hb5; clear hv5 hb5 hg5 hat5))
    go_ret
    exact ⟨_, rfl, sr_fit HV5.out (by simp) (by rw [List.length_append, HL1.out, HL3.out]), HB5.out⟩
  · have hle : l.length = k + 1 := by omega
    have HLE := Aside0.mk hle
    clear hle
    go_enter Tryd.func45, Tryd.ntmps45
    go_wp2_with (first
      | (refine Kd.R_append_row Value.string ByteArray.empty (w0 := w) w.heap.size rfl _ _ 22 9 (.string ⟨#[]⟩) 16 rfl Tryd.underlying22 infoS16 rfl (by decide) (.slice none 0 0) [] (l.take k) (some ad) k c (fun _ => True) rfl rfl (fun _ _ => trivial) (Kd.R_nil _ _ _ _ _) HT1.out (Below.refl _ _) (Nat.le_refl _) (by have := HL1.out; simp at this ⊢; omega) ?_; intro v1 w1 hv1 hb1 hg1 hat1; obtain ⟨A2, c2, rfl, hc2, _⟩ := Kd.R_reads hv1; rw [HL1.out] at hv1; have HV1 := Aside0.mk hv1; have HB1 := Aside0.mk hb1; clear hv1 hb1 hg1 hat1)
      | (refine Kd.R_append_row Value.string ByteArray.empty (w0 := w) w.heap.size rfl _ _ 22 9 (.string ⟨#[]⟩) 16 rfl Tryd.underlying22 infoS16 rfl (by decide) (.slice A2 k c2) ([] ++ l.take k) (l.drop (k + 1)) _ _ _ (fun _ => True) rfl rfl (fun _ _ => trivial) HV1.out (HDR.out _ _ (.inr HLE.out) HB1.out) HB1.out HB1.out.size (by rw [HL1.out]; omega) ?_; intro v5 w6 hv5 hb5 hg5 hat5; obtain ⟨A5, c5, rfl, hc5, _⟩ := Kd.R_reads hv5; have HV5 := Aside0.mk hv5; have HB5 := Aside0.mk hb5; clear hv5 hb5 hg5 hat5))
    all_goals go_ret
    all_goals exact ⟨_, rfl, sr_fit HV5.out (by simp) (by rw [List.length_append, HL1.out, HL3.out]), HB5.out⟩
end Go.Proofs.YtfkoiebnpgodmaaDoor.Hw
