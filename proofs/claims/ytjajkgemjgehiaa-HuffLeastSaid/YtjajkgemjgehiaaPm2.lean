import Derived.Test.YtjajkgemjgehiaaPm
import Derived.Test.YtjajkgemjgehiaaHp
/- The lengths that package-merge gives: a code's, within the limit, and what they take (no program). -/
set_option linter.unusedVariables false
set_option linter.unusedSimpArgs false
namespace Go.Proofs.Ytjajkgemjgehiaa
namespace PM
/-- A parcel's count is that of its symbols. -/
def Weighs (cs : List Int) (p : Pc) : Prop := p.w = (p.ss.map fun s => cs.getD s.toNat 0).sum ∧ ∀ s ∈ p.ss, 0 ≤ s ∧ s < (cs.length : Int) ∧ 0 < cs.getD s.toNat 0
theorem Weighs.paired {cs : List Int} : ∀ {l : List Pc}, (∀ p ∈ l, Weighs cs p) → ∀ p ∈ pairedL l, Weighs cs p
  | [], _, p, hp => by simp [pairedL] at hp
  | [y], _, p, hp => by simp [pairedL] at hp
  | a :: b :: t, h, p, hp => by
    rw [pairedL] at hp
    cases hp with
    | head =>
      obtain ⟨h1, h2⟩ := h a (by simp)
      obtain ⟨h3, h4⟩ := h b (by simp)
      refine ⟨?_, fun s hs => ?_⟩
      · show a.w + b.w = ((a.ss ++ b.ss).map _).sum
        rw [List.map_append, List.sum_append, ← h1, ← h3]
      · rcases List.mem_append.1 hs with h | h
        · exact h2 s h
        · exact h4 s h
    | tail _ hp => exact Weighs.paired (fun p hp => h p (by simp [hp])) p hp
theorem Weighs.level {cs : List Int} {lv : List Pc} (h : ∀ p ∈ lv, Weighs cs p) : ∀ k, ∀ p ∈ level lv k, Weighs cs p
  | 0 => h
  | k + 1 => fun p hp => by
    rcases (mem_merged _ lv _ rfl p).1 hp with h1 | h1
    · exact h p h1
    · exact Weighs.paired (Weighs.level h k) p h1
theorem wsum_syms {cs : List Int} : ∀ {l : List Pc}, (∀ p ∈ l, Weighs cs p) → wsum l = ((syms l).map fun s => cs.getD s.toNat 0).sum
  | [], _ => rfl
  | p :: l, h => by
    have := wsum_syms (fun q hq => h q (List.mem_cons_of_mem _ hq))
    show p.w + wsum l = ((p.ss ++ syms l).map _).sum
    rw [List.map_append, List.sum_append, ← this, ← (h p (List.mem_cons_self ..)).1]
/-- How often each symbol stands. -/
def outs (N : Nat) (S : List Int) : List Int := (List.range N).map fun s : Nat => ((S.count (s : Int) : Nat) : Int)
theorem outs_length (N : Nat) (S : List Int) : (outs N S).length = N := by simp [outs]
theorem outs_getD (N : Nat) (S : List Int) (s : Nat) (h : s < N) : (outs N S).getD s 0 = ((S.count (s : Int) : Nat) : Int) := by simp [outs, List.getD_eq_getElem?_getD, h]
/-- What all take: the sum over the symbols as they stand. -/
def total (a b : List Int) : Int := ((List.range a.length).map fun i => a.getD i 0 * b.getD i 0).sum
theorem sum_add_if (N : Nat) (f : Nat → Int) (s : Nat) (x : Int) (h : s < N) : ((List.range N).map fun i => f i + (if i = s then x else 0)).sum = ((List.range N).map f).sum + x := by
  induction N with
  | zero => omega
  | succ N ih =>
    rw [List.range_succ, List.map_append, List.map_append, List.sum_append, List.sum_append]
    by_cases hs : s < N
    · rw [ih hs]
      simp only [List.map_cons, List.map_nil, List.sum_cons, List.sum_nil]
      rw [if_neg (by omega)]
      omega
    · have e : s = N := by omega
      subst e
      have : ((List.range s).map fun i => f i + (if i = s then x else 0)) = (List.range s).map f := by
        apply List.map_congr_left
        intro i hi
        rw [if_neg (by have := List.mem_range.1 hi; omega), Int.add_zero]
      rw [this]
      simp only [List.map_cons, List.map_nil, List.sum_cons, List.sum_nil, if_true]
      omega
theorem total_outs (cs : List Int) : ∀ (S : List Int), (∀ s ∈ S, 0 ≤ s ∧ s < (cs.length : Int)) → total (outs cs.length S) cs = (S.map fun s => cs.getD s.toNat 0).sum
  | [], _ => by
    unfold total
    rw [outs_length]
    have : ((List.range cs.length).map fun i => (outs cs.length []).getD i 0 * cs.getD i 0) = (List.range cs.length).map fun _ => 0 := by
      apply List.map_congr_left
      intro i hi
      rw [outs_getD _ _ _ (List.mem_range.1 hi)]
      simp
    rw [this]
    generalize cs.length = N
    induction N with
    | zero => rfl
    | succ N ih => rw [List.range_succ, List.map_append, List.sum_append, ih]; rfl
  | s :: S, h => by
    have ih := total_outs cs S (fun x hx => h x (List.mem_cons_of_mem _ hx))
    obtain ⟨h0, h1⟩ := h s (List.mem_cons_self ..)
    obtain ⟨j, rfl⟩ := Int.eq_ofNat_of_zero_le h0
    unfold total at ih ⊢
    rw [outs_length] at ih ⊢
    have e : ((List.range cs.length).map fun i => (outs cs.length ((j : Int) :: S)).getD i 0 * cs.getD i 0) = (List.range cs.length).map fun i => (outs cs.length S).getD i 0 * cs.getD i 0 + (if i = j then cs.getD j 0 else 0) := by
      apply List.map_congr_left
      intro i hi
      have hi := List.mem_range.1 hi
      rw [outs_getD _ _ _ hi, outs_getD _ _ _ hi, List.count_cons]
      by_cases hij : i = j
      · subst hij; simp [Int.add_mul]
      · rw [if_neg hij]
        have : ((j : Int) == (i : Int)) = false := by simp; omega
        rw [this]; simp
    rw [e, sum_add_if _ _ j _ (by omega), ih, List.map_cons, List.sum_cons, Int.toNat_natCast]
    omega
theorem room_map (f : Nat → Int) : ∀ (l : List Nat), HP.room (l.map f) = (l.map fun s => if f s > 0 then 2 ^ (15 - (f s).toNat) else 0).sum
  | [] => rfl
  | s :: l => by
    rw [List.map_cons, List.map_cons, List.sum_cons, ← room_map f l]
    rfl
theorem sum_perm {a b : List Nat} (h : a.Perm b) : a.sum = b.sum := by
  induction h with
  | nil => rfl
  | cons x _ ih => simp [ih]
  | swap x y l => simp; omega
  | trans _ _ h1 h2 => rw [h1, h2]
theorem sum_filter (f : Nat → Nat) (p : Nat → Bool) : ∀ (l : List Nat), (∀ s ∈ l, p s = false → f s = 0) → (l.map f).sum = ((l.filter p).map f).sum
  | [], _ => rfl
  | s :: l, h => by
    have ih := sum_filter f p l (fun x hx => h x (List.mem_cons_of_mem _ hx))
    cases hs : p s with
    | true => rw [List.filter_cons_of_pos hs, List.map_cons, List.map_cons, List.sum_cons, List.sum_cons, ih]
    | false => rw [List.filter_cons_of_neg (by simp [hs]), List.map_cons, List.sum_cons, ih, h s (List.mem_cons_self ..) hs, Nat.zero_add]
/-- Leaves: each a symbol of its own. -/
def Leaves (cs : List Int) (lv : List Pc) : Prop := (∀ p ∈ lv, ∃ s : Nat, p.ss = [(s : Int)] ∧ s < cs.length ∧ p.w = cs.getD s 0 ∧ 0 < p.w) ∧ (syms lv).Nodup ∧ (∀ s : Nat, s < cs.length → 0 < cs.getD s 0 → (s : Int) ∈ syms lv) ∧ Rising lv
theorem Leaves.weighs {cs : List Int} {lv : List Pc} (h : Leaves cs lv) : ∀ p ∈ lv, Weighs cs p := fun p hp => by
  obtain ⟨s, h1, h2, h3, h4⟩ := h.1 p hp
  refine ⟨by rw [h1, h3]; simp, fun x hx => ?_⟩
  rw [h1] at hx
  obtain rfl := List.mem_singleton.1 hx
  rw [Int.toNat_natCast]
  exact ⟨by omega, by omega, by omega⟩
theorem Leaves.get {cs : List Int} {lv : List Pc} (h : Leaves cs lv) (t : Nat) (ht : t < lv.length) : ∃ s : Nat, lv[t].ss = [(s : Int)] ∧ s < cs.length ∧ lv[t].w = cs.getD s 0 ∧ 0 < lv[t].w := h.1 _ (List.getElem_mem ht)
theorem syms_take_succ (lv : List Pc) (t : Nat) (ht : t < lv.length) : syms (lv.take (t + 1)) = syms (lv.take t) ++ lv[t].ss := by
  rw [List.take_succ_eq_append_getElem ht, syms_append]
  simp [syms]
theorem syms_len {cs : List Int} {lv : List Pc} (h : ∀ p ∈ lv, ∃ s : Nat, p.ss = [(s : Int)] ∧ s < cs.length ∧ p.w = cs.getD s 0 ∧ 0 < p.w) : (syms lv).length = lv.length := by
  induction lv with
  | nil => rfl
  | cons p lv ih =>
    obtain ⟨s, h1, _⟩ := h p (List.mem_cons_self ..)
    show (p.ss ++ syms lv).length = _
    rw [List.length_append, h1, ih (fun q hq => h q (List.mem_cons_of_mem _ hq)), List.length_cons]
    simp; omega
theorem count_one : ∀ {l : List Int} {a : Int}, l.Nodup → a ∈ l → l.count a = 1
  | [], a, _, h => by cases h
  | b :: l, a, hn, h => by
    obtain ⟨h1, h2⟩ := List.nodup_cons.1 hn
    rw [List.count_cons]
    by_cases e : b = a
    · subst e
      rw [List.count_eq_zero.2 h1]; simp
    · have : (b == a) = false := by simpa using e
      rw [this, count_one h2 (by cases h with | head => exact absurd rfl e | tail _ h => exact h)]; simp
/-- The t-th leaf's symbol stands once among the first i, if t is below i. -/
theorem count_take {cs : List Int} {lv : List Pc} (h : Leaves cs lv) (t s : Nat) (ht : t < lv.length) (hs : lv[t].ss = [(s : Int)]) (i : Nat) : (syms (lv.take i)).count (s : Int) = if t < i then 1 else 0 := by
  have hsplit : syms lv = syms (lv.take i) ++ syms (lv.drop i) := by rw [← syms_append, List.take_append_drop]
  have hnd := h.2.1
  rw [hsplit, List.nodup_append] at hnd
  have hmem : ∀ (l : List Pc), lv[t] ∈ l → (s : Int) ∈ syms l := fun l hl => List.mem_flatMap.2 ⟨_, hl, by rw [hs]; simp⟩
  by_cases hti : t < i
  · rw [if_pos hti]
    exact count_one hnd.1 (hmem _ (List.mem_take_iff_getElem.2 ⟨t, by omega, rfl⟩))
  · rw [if_neg hti, List.count_eq_zero]
    intro hm
    refine hnd.2.2 _ hm _ (hmem _ ?_) rfl
    exact List.mem_drop_iff_getElem.2 ⟨t - i, by omega, by simp only [show i + (t - i) = t from by omega]⟩
theorem count_above {cs : List Int} {lv : List Pc} (h : Leaves cs lv) (t s : Nat) (ht : t < lv.length) (hs : lv[t].ss = [(s : Int)]) : ∀ (is : List Nat), (is.flatMap fun i => syms (lv.take i)).count (s : Int) = above is t
  | [] => rfl
  | i :: is => by
    rw [List.flatMap_cons, List.count_append, count_take h t s ht hs i, count_above h t s ht hs is, above_cons, Nat.add_comm]
theorem count_none {cs : List Int} {lv : List Pc} (s : Int) (hs : s ∉ syms lv) (is : List Nat) : (is.flatMap fun i => syms (lv.take i)).count s = 0 := by
  rw [List.count_eq_zero]
  intro hm
  obtain ⟨i, _, hi⟩ := List.mem_flatMap.1 hm
  obtain ⟨p, hp, hps⟩ := List.mem_flatMap.1 hi
  exact hs (List.mem_flatMap.2 ⟨p, List.mem_of_mem_take hp, hps⟩)
theorem kraft_sum (M : Nat) (is : List Nat) (hl : is.length = M) (hM : M ≤ 15) : ∀ n, ((List.range n).map fun t => 2 ^ (15 - above is t)).sum = 2 ^ (15 - M) * kraft is n
  | 0 => by simp [kraft]
  | n + 1 => by
    rw [List.range_succ, List.map_append, List.sum_append, kraft_sum M is hl hM n]
    have ha := above_le is n
    simp only [List.map_cons, List.map_nil, List.sum_cons, List.sum_nil, Nat.add_zero]
    rw [kraft, Nat.mul_add, ← Nat.pow_add, show 15 - M + (is.length - above is n) = 15 - above is n from by omega]
theorem fits_outs (N M : Nat) (S : List Int) (hM : M ≤ 15) (h : ∀ s : Nat, s < N → S.count (s : Int) ≤ M) : HP.fits (outs N S) := by
  intro x hx
  obtain ⟨s, hs, rfl⟩ := List.mem_map.1 hx
  have := h s (List.mem_range.1 hs)
  omega
/-- THE LENGTHS of two leaves or more. -/
theorem lengths_ok {cs : List Int} {lv : List Pc} (h : Leaves cs lv) (hN : cs.length ≤ 512) (M : Nat) (hM1 : 1 ≤ M) (hM15 : M ≤ 15) (hn2 : 2 ≤ lv.length) (hn : lv.length ≤ 2 ^ M) :
    2 * lv.length - 2 ≤ (level lv (M - 1)).length ∧
    HP.check (outs cs.length (syms ((level lv (M - 1)).take (2 * lv.length - 2)))) = 0 ∧
    (∀ s : Nat, s < cs.length → (0 < (syms ((level lv (M - 1)).take (2 * lv.length - 2))).count (s : Int) ↔ 0 < cs.getD s 0) ∧ (syms ((level lv (M - 1)).take (2 * lv.length - 2))).count (s : Int) ≤ M) ∧
    total (outs cs.length (syms ((level lv (M - 1)).take (2 * lv.length - 2)))) cs = wsum ((level lv (M - 1)).take (2 * lv.length - 2)) := by
  obtain ⟨k, rfl⟩ : ∃ k, M = k + 1 := ⟨M - 1, by omega⟩
  rw [Nat.add_sub_cancel]
  have hlen := level_two (lv := lv) (k := k) hn (by omega)
  have hw : ∀ x ∈ lv, 0 ≤ x.w := fun x hx => by obtain ⟨s, _, _, _, h4⟩ := h.1 x hx; omega
  obtain ⟨i, is, h1, h2, h3, h4, h5, _⟩ := level_take h.2.2.2 hw k _ hlen
  have hl : (i :: is).length = k + 1 := by simp [h1]
  have hin : ∀ z ∈ i :: is, z ≤ lv.length := fun z hz => by
    cases hz with
    | head => exact h3
    | tail _ hz => exact Nat.le_trans ((List.pairwise_cons.1 h2).1 z hz) h3
  have hcount : ∀ s : Int, (syms ((level lv k).take (2 * lv.length - 2))).count s = ((i :: is).flatMap fun i => syms (lv.take i)).count s := fun s => h4.count_eq s
  have hp2 : (2 * lv.length - 2) * 2 ^ k = (lv.length - 1) * 2 ^ (k + 1) := by rw [Nat.pow_succ', ← Nat.mul_assoc]; congr 1; omega
  have hi : i = lv.length := by
    apply Decidable.byContradiction
    intro hne
    have hle := width_le (i :: is) (lv.length - 1) (fun z hz => by
      cases hz with
      | head => omega
      | tail _ hz => have := (List.pairwise_cons.1 h2).1 z hz; omega)
    rw [h5, hp2, hl] at hle
    omega
  have habove : ∀ t, t < lv.length → 1 ≤ above (i :: is) t := fun t ht => by rw [above_cons, if_pos (by omega)]; omega
  have hleaf : ∀ s : Nat, s < cs.length → 0 < cs.getD s 0 → ∃ t, ∃ ht : t < lv.length, lv[t].ss = [(s : Int)] := fun s hs hp => by
    obtain ⟨p, hp1, hp2⟩ := List.mem_flatMap.1 (h.2.2.1 s hs hp)
    obtain ⟨t, ht, rfl⟩ := List.getElem_of_mem hp1
    obtain ⟨s', hs', _⟩ := h.get t ht
    rw [hs'] at hp2
    obtain rfl : s = s' := by have := List.mem_singleton.1 hp2; omega
    exact ⟨t, ht, hs'⟩
  have hnone : ∀ s : Nat, ¬ 0 < cs.getD s 0 → (s : Int) ∉ syms lv := fun s hp hm => by
    obtain ⟨p, hp1, hp2⟩ := List.mem_flatMap.1 hm
    obtain ⟨s', hs', _, hw', hpos⟩ := h.1 p hp1
    rw [hs'] at hp2
    obtain rfl : s = s' := by have := List.mem_singleton.1 hp2; omega
    omega
  have hcnt : ∀ s : Nat, s < cs.length → (0 < (syms ((level lv k).take (2 * lv.length - 2))).count (s : Int) ↔ 0 < cs.getD s 0) ∧ (syms ((level lv k).take (2 * lv.length - 2))).count (s : Int) ≤ k + 1 := by
    intro s hs
    rw [hcount]
    by_cases hp : 0 < cs.getD s 0
    · obtain ⟨t, ht, hts⟩ := hleaf s hs hp
      rw [count_above h t s ht hts]
      have := habove t ht
      have := above_le (i :: is) t
      constructor
      · constructor
        · intro _; exact hp
        · intro _; omega
      · omega
    · rw [count_none (cs := cs) _ (hnone s hp)]
      constructor
      · constructor
        · intro h; omega
        · intro h; exact absurd h hp
      · omega
  refine ⟨hlen, ?_, hcnt, ?_⟩
  · have hroom : HP.room (outs cs.length (syms ((level lv k).take (2 * lv.length - 2)))) = 32768 := by
      unfold outs
      rw [room_map]
      have e1 := sum_filter (fun s => if ((((syms ((level lv k).take (2 * lv.length - 2))).count (s : Int) : Nat) : Int)) > 0 then 2 ^ (15 - (((syms ((level lv k).take (2 * lv.length - 2))).count (s : Int) : Nat) : Int).toNat) else 0) (fun s => decide (0 < cs.getD s 0)) (List.range cs.length) (fun s hs hf => by
        have := (hcnt s (List.mem_range.1 hs)).1
        have hf : ¬ 0 < cs.getD s 0 := by simpa using hf
        rw [if_neg (by omega)])
      rw [e1]
      have hperm : ((List.range cs.length).filter fun s => decide (0 < cs.getD s 0)).Perm ((syms lv).map Int.toNat) := by
        rw [List.perm_ext_iff_of_nodup]
        · intro s
          rw [List.mem_filter, List.mem_range, List.mem_map]
          constructor
          · rintro ⟨hs, hp⟩
            exact ⟨(s : Int), h.2.2.1 s hs (by simpa using hp), Int.toNat_natCast s⟩
          · rintro ⟨x, hx, rfl⟩
            obtain ⟨p, hp1, hp2⟩ := List.mem_flatMap.1 hx
            obtain ⟨s', hs', hlt, hw', hpos⟩ := h.1 p hp1
            rw [hs'] at hp2
            obtain rfl := List.mem_singleton.1 hp2
            rw [Int.toNat_natCast]
            exact ⟨hlt, decide_eq_true (by omega)⟩
        · exact List.Pairwise.filter _ List.nodup_range
        · refine List.pairwise_map.2 (List.Pairwise.imp_of_mem ?_ h.2.1)
          intro x y hx hy hne hxy
          apply hne
          obtain ⟨p, hp1, hp2⟩ := List.mem_flatMap.1 hx
          obtain ⟨q, hq1, hq2⟩ := List.mem_flatMap.1 hy
          obtain ⟨s, hs, _⟩ := h.1 p hp1
          obtain ⟨u, hu, _⟩ := h.1 q hq1
          rw [hs] at hp2
          rw [hu] at hq2
          have := List.mem_singleton.1 hp2
          have := List.mem_singleton.1 hq2
          omega
      rw [sum_perm (hperm.map _), List.map_map]
      have e2 : (syms lv).map ((fun s : Nat => if ((((syms ((level lv k).take (2 * lv.length - 2))).count (s : Int) : Nat) : Int)) > 0 then 2 ^ (15 - (((syms ((level lv k).take (2 * lv.length - 2))).count (s : Int) : Nat) : Int).toNat) else 0) ∘ Int.toNat) = (List.range lv.length).map fun t => 2 ^ (15 - above (i :: is) t) := by
        have hsl := syms_len h.1
        apply List.ext_getElem
        · simp [hsl]
        · intro t h1' h2'
          have ht : t < lv.length := by simpa using h2'
          obtain ⟨s, hs, hlt, hw', hpos⟩ := h.get t ht
          have hget : (syms lv)[t]'(by omega) = (s : Int) := by
            have e3 : syms lv = syms (lv.take t) ++ ([(s : Int)] ++ syms (lv.drop (t + 1))) := by
              have := List.take_append_drop t lv
              rw [List.drop_eq_getElem_cons ht] at this
              conv => lhs; rw [← this]
              rw [syms_append]
              show _ ++ (lv[t].ss ++ _) = _
              rw [hs]
              rfl
            have hlt' : (syms (lv.take t)).length = t := by rw [syms_len (cs := cs) (fun p hp => h.1 p (List.mem_of_mem_take hp))]; simp; omega
            simp only [e3]
            rw [List.getElem_append_right (by omega)]
            simp [hlt']
          simp only [List.getElem_map, List.getElem_range, Function.comp, hget, Int.toNat_natCast]
          rw [hcount, count_above h t s ht hs, if_pos (by have := habove t ht; omega)]
      rw [e2, kraft_sum (k + 1) (i :: is) hl hM15]
      have hk := kraft_width (i :: is) h2 lv.length hin
      rw [h5, hp2, hl] at hk
      have e4 : lv.length * 2 ^ (k + 1) = 2 ^ (k + 1) + (lv.length - 1) * 2 ^ (k + 1) := by
        have : lv.length = 1 + (lv.length - 1) := by omega
        conv => lhs; rw [this]
        rw [Nat.add_mul, Nat.one_mul]
      have e5 : kraft (i :: is) lv.length = 2 ^ (k + 1) := by omega
      rw [e5, ← Nat.pow_add, show 15 - (k + 1) + (k + 1) = 15 from by omega]
    have hfit := fits_outs cs.length (k + 1) _ hM15 (fun s hs => (hcnt s hs).2)
    unfold HP.check
    rw [outs_length, if_neg (by omega), if_neg (fun hh => hh hfit), if_neg (by omega), if_pos (.inr (.inl hroom))]
  · rw [wsum_syms (fun p hp => Weighs.level h.weighs k p (List.mem_of_mem_take hp)), total_outs]
    intro s hs
    obtain ⟨p, hp1, hp2⟩ := List.mem_flatMap.1 hs
    have := (Weighs.level h.weighs k p (List.mem_of_mem_take hp1)).2 s hp2
    exact ⟨this.1, this.2.1⟩
end PM
end Go.Proofs.Ytjajkgemjgehiaa
