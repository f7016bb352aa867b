import Derived.Test.YtjajkgemjgehiaaSoS
import Derived.Test.YtjajkgemjgehiaaPHo
/- Rows of parcels sorted: what slices.SortStableFunc with huff.Lengths' comparison leaves. -/
set_option linter.unusedVariables false
set_option linter.unusedSimpArgs false
namespace Go.Proofs.Ytjajkgemjgehiaa.St
open Go.Shelf Go.RowKit Go.Lib Go.Sort Go.Proofs Go.Proofs.YtjajkgemjgehiaaW.PrintWords Go.Proofs.YtjajkgemjgehiaaW.PrintLast Go.Proofs.YtjajkgemjgehiaaW.PrintMore Go.Proofs.Ytjajkgemjgehiaa.PH
/-- A parcel as its two cells have it. -/
structure Pa where
  x : S34
  A : Option Addr
  c : Nat
instance : Inhabited Pa := ⟨⟨z34, none, 0⟩⟩
abbrev kPa := k34
def encP (p : Pa) : List Value := [.int .i64 p.x.f0, .slice p.A p.x.f1.length p.c]
theorem encP_len (p : Pa) : (encP p).length = 2 := rfl
theorem encP_one (p : Pa) : ∀ v ∈ encP p, v.oneCell' = true := by
  intro v hv
  simp only [encP, List.mem_cons, List.not_mem_nil, or_false] at hv
  rcases hv with rfl | rfl <;> rfl
theorem flat_get : ∀ (ps : List Pa) (t : Nat), t < ps.length * 2 → (ps.flatMap encP)[t]? = some ((encP (ps.getD (t / 2) default))[t % 2]!)
  | [], t, h => by simp at h
  | p :: ps, t, h => by
    rw [List.flatMap_cons]
    rcases t with _ | _ | t
    · rfl
    · rfl
    · have ih := flat_get ps t (by simp at h; omega)
      rw [List.getElem?_append_right (by simp [encP_len])]
      rw [show t + 1 + 1 - (encP p).length = t from by rw [encP_len]; omega, ih]
      rw [show (t + 1 + 1) / 2 = t / 2 + 1 from by omega, show (t + 1 + 1) % 2 = t % 2 from by omega]
      rfl
theorem flat_length : ∀ (ps : List Pa), (ps.flatMap encP).length = ps.length * 2
  | [] => rfl
  | p :: ps => by rw [List.flatMap_cons, List.length_append, flat_length ps, encP_len, List.length_cons]; omega
theorem flatK_list (ps : List Pa) : (flatK encP 2 ps.toArray).toList = ps.flatMap encP := by
  apply List.ext_getElem?
  intro t
  by_cases h : t < ps.length * 2
  · rw [flat_get ps t h]
    have h1 : t < (flatK encP 2 ps.toArray).size := by simp; exact h
    rw [Array.getElem?_toList, Array.getElem?_eq_getElem h1, ← getElem!_pos (flatK encP 2 ps.toArray) t h1, get_flatK _ _ _ _ (by simpa using h)]
    congr 2
    have h2 : t / 2 < ps.length := by omega
    simp [h2, List.getD_eq_getElem?_getD]
  · rw [List.getElem?_eq_none (by simp; omega), List.getElem?_eq_none (by rw [flat_length]; omega)]
theorem holds_block {w : World} {g : Nat} {cur : Array Value} {e : TypeId} {F : Array Value} (hb : w.heap[g]? = some (.cells cur e (0, 0))) (ht : cur.toList.take F.size = F.toList) : Holds id w g 0 F := by
  intro j hj
  refine ⟨?_, by simp [World.frozen?, hb]⟩
  have h1 : (cur.toList.take F.size)[j]? = F.toList[j]? := by rw [ht]
  rw [List.getElem?_take_of_lt hj] at h1
  simp only [World.cell?, hb, Nat.zero_add]
  simp only [Option.isSome_none, Bool.false_eq_true, if_false]
  rw [← Array.getElem?_toList, h1]
  simp [hj]
theorem heap_put {w : World} {g n : Nat} {os : Array Obj} {cur : Array Value} {e : TypeId} {fr : Nat × Nat} (F : Array Value) (hb : w.heap[g]? = some (.cells cur e fr)) :
    (grow (putRow id (Sort.ahead w n) g 0 F) os).heap[g]? = some (.cells (putCells id 0 F cur) e fr) := by
  have hg : g < w.heap.size := (Array.getElem?_eq_some_iff.1 hb).1
  rw [heap_grow_old _ _ (by simpa using hg)]
  simp [putRow, mapBlock, Sort.ahead, Array.getElem?_modify, hb, onCells]
theorem grownBy_put {w : World} {g n : Nat} {os : Array Obj} (F : Array Value) : w.grownBy (grow (putRow id (Sort.ahead w n) g 0 F) os) (some g) := by
  refine ⟨rfl, rfl, rfl, by simp, fun k hk hne => ?_⟩
  rw [heap_grow_old _ _ (by simpa using hk)]
  have : g ≠ k := fun e => hne (by rw [e])
  simp [putRow, mapBlock, Sort.ahead, Array.getElem?_modify, this]
theorem take_put (cur F : Array Value) (h : F.size ≤ cur.size) : (putCells id 0 F cur).toList.take F.size = F.toList := by
  apply List.ext_getElem?
  intro j
  by_cases hj : j < F.size
  · rw [List.getElem?_take_of_lt hj, Array.getElem?_toList]
    simp [putCells, hj, show j < cur.size by omega]
  · rw [List.getElem?_take_eq_none (by omega), List.getElem?_eq_none (by simp; omega)]
/-! ### a row whose elements share, as its parcels -/
variable {w w1 : World} {base : Nat} {ok : Nat → Prop} {v : Value} {xs : List S34}
theorem rows_pas : ∀ {xs : List S34} {rows : List (List Value)} {ok : Nat → Prop}, rows.length = xs.length → (∀ (j : Nat) (x : S34) (c : List Value), xs[j]? = some x → rows[j]? = some c → Kd.FK kPa w ok x c) →
    ∃ ps : List Pa, ps.map (·.x) = xs ∧ ps.map encP = rows ∧ ∀ p ∈ ps, Kd.FK kPa w ok p.x (encP p)
  | [], rows, ok, hl, _ => ⟨[], rfl, (List.eq_nil_of_length_eq_zero hl).symm, fun p hp => by cases hp⟩
  | x :: xs, [], ok, hl, _ => by simp at hl
  | x :: xs, c :: rows, ok, hl, h => by
    obtain ⟨ps, h1, h2, h3⟩ := rows_pas (xs := xs) (rows := rows) (by simpa using hl) (fun j y d hy hd => h (j + 1) y d hy hd)
    have h0 := h 0 x c rfl rfl
    obtain ⟨A1, c1, rfl, _, _⟩ := k34_openF h0
    refine ⟨⟨x, A1, c1⟩ :: ps, by simp [h1], by simp [h2, encP], fun p hp => ?_⟩
    cases hp with
    | head => exact h0
    | tail _ hp => exact h3 p hp
theorem reps_flat {R : List Value → List Value → Prop} (hR : ∀ x c, R x c → c = x) : ∀ {rows : List (List Value)} {inner : List Value}, Reps R 2 rows inner → inner = rows.flatten
  | [], inner, h => by have := h.1; simp at this; simp [this]
  | r :: rows, inner, h => by
    have h0 := hR _ _ (h.2 0 r rfl)
    rw [Nat.zero_mul, List.drop_zero] at h0
    have ih := reps_flat hR (rows := rows) (inner := inner.drop 2) ⟨by rw [List.length_drop, h.1, List.length_cons]; omega, fun j p hj => by
      have := h.2 (j + 1) p hj
      rw [List.drop_drop]
      rwa [show 2 + j * 2 = (j + 1) * 2 by omega]⟩
    rw [List.flatten_cons, ← ih, ← h0, List.take_append_drop]
theorem flat_reps : ∀ (ps : List Pa), Reps (fun x cs => cs = x ∧ cs.length = 2 ∧ ∀ u ∈ cs, u.oneCell' = true) 2 (ps.map encP) (ps.flatMap encP)
  | [] => Reps.none _ _
  | p :: ps => by
    have ih := flat_reps ps
    refine ⟨by rw [flat_length]; simp, fun j q hj => ?_⟩
    rcases j with _ | j
    · obtain rfl : encP p = q := by simpa using hj
      exact ⟨rfl, rfl, encP_one p⟩
    · have := ih.2 j q (by simpa using hj)
      rw [List.flatMap_cons, show (j + 1) * 2 = 2 + j * 2 by omega, ← List.drop_drop]
      exact this
theorem N_pas (h : Kd.N kPa 34 w base ok v xs) (hp : 0 < xs.length) : ∃ g cap cur, ∃ ps : List Pa, v = .slice (some ⟨g, 0, none⟩) xs.length cap ∧ base ≤ g ∧ w.heap[g]? = some (.cells cur 34 (0, 0)) ∧ xs.length ≤ cap ∧ cap ≤ maxLen ∧ cur.size = cap * 2 ∧
    cur.toList.take (xs.length * 2) = ps.flatMap encP ∧ ps.map (·.x) = xs ∧ ok g ∧ ∀ p ∈ ps, Kd.FK kPa w (fun k => ok k ∧ k ≠ g) p.x (encP p) := by
  obtain ⟨h0, rows, hl, ⟨_, inner, ho, hr⟩, hf⟩ := h
  obtain ⟨ps, p1, p2, p3⟩ := rows_pas hl hf
  rcases ho.2 with ⟨_, hz⟩ | ⟨g, cap, cur, rfl, hg, hh, h1, h2, h3, h4⟩
  · omega
  · refine ⟨g, cap, cur, ps, by rw [hl], hg, hh, by rw [← hl]; exact h1, h2, h3, ?_, p1, h0 g rfl, fun p hp => Kd.FK_mono (p3 p hp) (fun k hk => ⟨hk.1, fun e => hk.2 (by rw [e]; rfl)⟩)⟩
    rw [← hl]
    refine h4.trans ?_
    rw [reps_flat (fun _ _ h => h.1) hr, ← p2, List.flatMap_def]
theorem pas_N {g cap : Nat} {cur : Array Value} (ps : List Pa) (hg : base ≤ g) (hh : w.heap[g]? = some (.cells cur 34 (0, 0))) (h1 : ps.length ≤ cap) (h2 : cap ≤ maxLen) (h3 : cur.size = cap * 2) (h4 : cur.toList.take (ps.length * 2) = ps.flatMap encP) (hok : ok g)
    (hf : ∀ p ∈ ps, Kd.FK kPa w (fun k => ok k ∧ k ≠ g) p.x (encP p)) : Kd.N kPa 34 w base ok (.slice (some ⟨g, 0, none⟩) ps.length cap) (ps.map (·.x)) := by
  refine ⟨fun k hk => by injection hk with hk; exact hk ▸ hok, ps.map encP, by simp, ⟨fun k hk => hk.symm, ps.flatMap encP, ?_, flat_reps ps⟩, fun j x c hx hc => ?_⟩
  · refine ⟨by rw [flat_length]; simp; rfl, .inr ⟨g, cap, cur, by simp, hg, hh, by simpa using h1, h2, h3, ?_⟩⟩
    rw [List.length_map]
    exact h4
  · have hj : j < ps.length := by have := (List.getElem?_eq_some_iff.1 hx).1; simpa using this
    have e1 : x = (ps[j]).x := by simp [hj] at hx; exact hx.symm
    have e2 : c = encP (ps[j]) := by simp [hj] at hc; exact hc.symm
    rw [e1, e2]
    exact Kd.FK_mono (hf _ (List.getElem_mem hj)) (fun k hk => ⟨hk.1, fun e => hk.2 (by injection e)⟩)
/-! ### the comparison -/
def cfP (p q : Pa) : Int := if p.x.f0 < q.x.f0 then -1 else if q.x.f0 < p.x.f0 then 1 else 0
theorem cfP_key : ByKey cfP (fun p => p.x.f0) := fun p q => by
  unfold cfP
  by_cases h1 : p.x.f0 < q.x.f0
  · simp [h1]
  · by_cases h2 : q.x.f0 < p.x.f0 <;> simp [h1, h2]
theorem isNaN_calls (a : Int) (w : World) : Calls Try.prog 21 #[.int .i64 a] w fun e w' => e = .returned (.bool false) ∧ w' = w := by
  go_enter Try.func21, Try.ntmps21
  go_wp2
  go_ret
  exact ⟨by simp, rfl⟩
theorem compare_calls (a b : Int) (w : World) : Calls Try.prog 11 #[.int .i64 a, .int .i64 b] w fun e w' => e = .returned (.int .i64 (if a < b then -1 else if b < a then 1 else 0)) ∧ w' = w := by
  have h := fun x W => isNaN_calls x W
  by_cases h1 : a < b
  · rw [if_pos h1]
    go_enter Try.func11, Try.ntmps11
    go_wp2_with (go_at_call 21; refine (h _ _).mono ?_; rintro e w1 ⟨rfl, rfl⟩)
    go_ret
    exact ⟨rfl, rfl⟩
  · by_cases h2 : b < a
    · rw [if_neg h1, if_pos h2]
      go_enter Try.func11, Try.ntmps11
      go_wp2_with (go_at_call 21; refine (h _ _).mono ?_; rintro e w1 ⟨rfl, rfl⟩)
      go_ret
      exact ⟨rfl, rfl⟩
    · rw [if_neg h1, if_neg h2]
      go_enter Try.func11, Try.ntmps11
      go_wp2_with (go_at_call 21; refine (h _ _).mono ?_; rintro e w1 ⟨rfl, rfl⟩)
      go_ret
      exact ⟨rfl, rfl⟩
theorem closure_calls (p q : Pa) (W : World) : Calls Try.prog 10 #[.agg (encP p).toArray, .agg (encP q).toArray] W fun e w' => e = .returned (.int .i64 (cfP p q)) ∧ ∃ n os', w' = grow (W.drewN n) os' := by
  have hcon := fun W' => compare_calls p.x.f0 q.x.f0 W'
  unfold cfP encP
  generalize (if p.x.f0 < q.x.f0 then (-1 : Int) else if q.x.f0 < p.x.f0 then 1 else 0) = r at hcon ⊢
  go_enter Try.func10, Try.ntmps10
  go_wp2_with (go_at_call 11; refine (hcon _).mono ?_; rintro e w' ⟨rfl, rfl⟩)
  go_ret
  exact ⟨rfl, 0, _, by rw [alloc_eq_grow, alloc_eq_grow, grow_grow]; rfl⟩
theorem cmpLays (blk off size : Nat) (w : World) : CmpLays Try.prog 10 #[] encP 2 cfP blk off size w := fun _ _ _ _ p q => closure_calls p q _
/-! ### the whole sort -/
theorem Fn_seg (d : Array Pa) : So.seg (Fn d) 0 d.size = d.toList := by
  rw [seg_extract d (Nat.zero_le _) (Nat.le_refl _)]
  simp
set_option maxRecDepth 100000 in
set_option maxHeartbeats 1000000 in
theorem sort_calls (hN : Kd.N kPa 34 w base ok v xs) (hp : 0 < xs.length) (hl : xs.length < 1152921504606846976) :
    Calls Try.prog 9 #[v, .func (.func 10) #[] #[]] w fun e w' => e = .returned (.tuple #[]) ∧ ∃ ys : List S34, ys.Perm xs ∧ ys.Pairwise (fun x y => x.f0 ≤ y.f0) ∧ Kd.N kPa 34 w' base ok v ys ∧ w.grownBy w' v.ownBlock := by
  obtain ⟨g, cap, cur, ps, rfl, hg, hh, h1, h2, h3, h4, h5, h6, h7⟩ := N_pas hN hp
  have hlen : ps.length = xs.length := by rw [← h5]; simp
  rw [← hlen] at h1 h4 hl ⊢
  have hblk : g < w.heap.size := (Array.getElem?_eq_some_iff.1 hh).1
  have hH : HoldsK encP 2 w g 0 ps.toArray := holds_block hh (by rw [flatK_list, size_flatK, List.size_toArray]; exact h4)
  have R : RowK encP 2 w g 0 ps.toArray := ⟨encP_len, encP_one, hH, hblk⟩
  have hc := stable_calls soL encP cfP (fun p => p.x.f0) cfP_key 10 #[] g 0 cap ps.toArray w (enters_of Try.func10 (by kernel_rfl) rfl) (cmpLays _ _ _ _) R (by simpa using hl)
  have hsz : ps.toArray.size = ps.length := by simp
  rw [hsz] at hc
  have HC := Aside0.mk hc
  have HF : Aside0 (∀ d' : Array Pa, d'.size = ps.length → So.Pm (Fn ps.toArray) (Fn d') 0 ps.length → So.Srt (fun p : Pa => p.x.f0) (Fn d') 0 ps.length → ∀ w', SWK encP 2 w g 0 d' w' →
      ∃ ys : List S34, ys.Perm xs ∧ ys.Pairwise (fun x y => x.f0 ≤ y.f0) ∧ Kd.N kPa 34 w' base ok (.slice (some ⟨g, 0, none⟩) ps.length cap) ys ∧ w.grownBy w' (some g)) := ⟨by
    intro d' hd hP hS w' ⟨n, os, hw⟩
    have hperm : d'.toList.Perm ps := by
      have := hP.1
      rw [← hd, Fn_seg, hd, ← hsz, Fn_seg] at this
      simpa using this
    have hgr : w.grownBy w' (some g) := by rw [hw]; exact grownBy_put _
    have hsort : d'.toList.Pairwise fun p q => p.x.f0 ≤ q.x.f0 := by
      have := So.seg_sorted hS
      rw [← hd, Fn_seg] at this
      exact this
    refine ⟨d'.toList.map (·.x), by rw [← h5]; exact hperm.map _, List.pairwise_map.2 hsort, ?_, hgr⟩
    have hlist : d'.toList.toArray = d' := by simp
    have hl2 : d'.toList.length = ps.length := by simpa using hd
    rw [← hl2] at h1 h4 ⊢
    refine pas_N (cur := putCells id 0 (flatK encP 2 d') cur) d'.toList hg ?_ h1 h2 (by simp [putCells, h3]) ?_ h6 (fun p hp => ?_)
    · rw [hw]; exact heap_put _ hh
    · have hfs : (flatK encP 2 d').size = d'.toList.length * 2 := by simp
      rw [← hfs, take_put _ _ (by rw [hfs, h3]; exact Nat.mul_le_mul_right 2 h1), ← hlist, flatK_list]
    · exact Kd.FK_step (h7 p (hperm.mem_iff.1 hp)) (fun k hk hlt => hgr.block k hlt (fun e => hk.2 (by injection e)))⟩
  clear hc hH R hN h7 h5 h4 hlen hsz hp h3
  go_enter Try.func9, Try.ntmps9
  go_wp2_with (go_at_call 20; refine HC.out.mono ?_; rintro e w' ⟨rfl, d', hd, hP, hS, hW⟩)
  go_end0
  obtain ⟨ys, y1, y2, y3, y4⟩ := HF.out d' hd hP hS w' hW
  exact ⟨rfl, ys, y1, y2, y3, y4⟩
end Go.Proofs.Ytjajkgemjgehiaa.St
