import Derived.Test.YtjajkgemjgehiaaLeastRef4
import Derived.Test.YtjajkgemjgehiaaMer
/- What huff.Lengths must answer, plainly; that the leaves, sorted, are package-merge's; that the total is the document's Least (no program). -/
set_option linter.unusedVariables false
set_option linter.unusedSimpArgs false
namespace Go.Proofs.Ytjajkgemjgehiaa.St
open Go.Proofs.Ytjajkgemjgehiaa.PH Go.Proofs.Ytjajkgemjgehiaa.Hw
/-- Lengths that may be answered. -/
def lensOk (cs : List Int) (most : Nat) (ls : List Int) : Prop :=
  ls.length = cs.length ∧ HP.check ls = 0 ∧ (∀ s : Nat, s < cs.length → (0 < ls.getD s 0 ↔ 0 < cs.getD s 0) ∧ ls.getD s 0 ≤ (most : Int)) ∧ PM.total ls cs = leastI cs most
def leafUp (cs : List Int) (k : Nat) : List SP := ((List.range k).filter fun s => decide (0 < cs.getD s 0)).map fun s => ⟨cs.getD s 0, [(s : Int)]⟩
theorem leafUp_succ (cs : List Int) (k : Nat) : leafUp cs (k + 1) = if 0 < cs.getD k 0 then leafUp cs k ++ [⟨cs.getD k 0, [(k : Int)]⟩] else leafUp cs k := by
  unfold leafUp
  rw [List.range_succ, List.filter_append, List.map_append]
  by_cases h : 0 < cs.getD k 0
  · rw [if_pos h, List.filter_cons_of_pos (by exact decide_eq_true h)]; rfl
  · rw [if_neg h, List.filter_cons_of_neg (by simpa using h)]; simp
theorem leafUp_many (cs : List Int) : ∀ k, k ≤ cs.length → (leafUp cs k).length = HP.many (cs.take k)
  | 0, _ => by simp [leafUp, HP.many]
  | k + 1, h => by
    have ih := leafUp_many cs k (by omega)
    rw [leafUp_succ, many_take cs k (by omega), ← ih]
    by_cases hp : 0 < cs.getD k 0
    · rw [if_pos hp, if_pos hp]; simp
    · rw [if_neg hp, if_neg (by omega)]; rfl
theorem map_range (cs : List Int) : (List.range cs.length).map (fun s => cs.getD s 0) = cs := by
  apply List.ext_getElem
  · simp
  · intro i h1 h2
    simp [List.getD_eq_getElem?_getD, h2]
theorem leafUp_f0 (cs : List Int) : (leafUp cs cs.length).map (·.f0) = cs.filter fun x => decide (0 < x) := by
  unfold leafUp
  rw [List.map_map]
  conv => rhs; rw [← map_range cs, List.filter_map]
  rfl
def symsS (l : List SP) : List Int := l.flatMap (·.f1)
theorem symsS_pc (l : List SP) : PM.syms (l.map pcOf) = symsS l := by
  unfold PM.syms symsS
  rw [List.flatMap_map]
  rfl
theorem leafUp_syms (cs : List Int) : symsS (leafUp cs cs.length) = ((List.range cs.length).filter fun s => decide (0 < cs.getD s 0)).map fun s : Nat => (s : Int) := by
  unfold symsS leafUp
  rw [List.flatMap_map]
  induction ((List.range cs.length).filter fun s => decide (0 < cs.getD s 0)) with
  | nil => rfl
  | cons a l ih => rw [List.flatMap_cons, ih]; rfl
theorem leaves_ok {cs : List Int} {ys : List SP} (hp : ys.Perm (leafUp cs cs.length)) (hs : ys.Pairwise fun x y => x.f0 ≤ y.f0) : PM.Leaves cs (ys.map pcOf) := by
  have hmem : ∀ x ∈ ys, ∃ s : Nat, x.f1 = [(s : Int)] ∧ s < cs.length ∧ x.f0 = cs.getD s 0 ∧ 0 < x.f0 := fun x hx => by
    have h1 := hp.mem_iff.1 hx
    obtain ⟨s, hs1, rfl⟩ := List.mem_map.1 h1
    obtain ⟨h2, h3⟩ := List.mem_filter.1 hs1
    exact ⟨s, rfl, List.mem_range.1 h2, rfl, of_decide_eq_true h3⟩
  have hsy : (symsS ys).Perm (((List.range cs.length).filter fun s => decide (0 < cs.getD s 0)).map fun s : Nat => (s : Int)) := by
    rw [← leafUp_syms]
    exact hp.flatMap_right _
  refine ⟨fun p hp' => ?_, ?_, fun s h1 h2 => ?_, ?_⟩
  · obtain ⟨x, hx, rfl⟩ := List.mem_map.1 hp'
    exact hmem x hx
  · rw [symsS_pc]
    refine hsy.nodup_iff.2 ?_
    refine List.pairwise_map.2 ((List.Pairwise.filter _ List.nodup_range).imp ?_)
    intro a b hab h
    exact hab (by omega)
  · rw [symsS_pc]
    refine hsy.mem_iff.2 (List.mem_map.2 ⟨s, List.mem_filter.2 ⟨List.mem_range.2 h1, decide_eq_true h2⟩, rfl⟩)
  · exact List.pairwise_map.2 hs
/-! ### the totals of levels -/
theorem mergedS_f0 : ∀ (n : Nat) (a b : List SP), a.length + b.length = n → (mergedS a b).map (·.f0) = mergedI (a.map (·.f0)) (b.map (·.f0))
  | _, [], b, _ => by rw [mergedS_nil, List.map_nil, mergedI_nil]
  | _, x :: a, [], _ => by rw [mergedS_end, List.map_nil, mergedI_end]
  | 0, x :: a, y :: b, h => by simp at h
  | n + 1, x :: a, y :: b, h => by
    simp only [List.length_cons] at h
    rw [mergedS, List.map_cons, List.map_cons, mergedI]
    by_cases hle : x.f0 ≤ y.f0
    · rw [if_pos hle, if_pos hle, List.map_cons, mergedS_f0 n a (y :: b) (by simp; omega), List.map_cons]
    · rw [if_neg hle, if_neg hle, List.map_cons, mergedS_f0 n (x :: a) b (by simp; omega), List.map_cons]
theorem pairedS_f0 : ∀ (l : List SP), (pairedS l).map (·.f0) = pairsI (l.map (·.f0))
  | [] => by simp [pairedS, pairsI]
  | [_] => by simp [pairedS, pairsI]
  | a :: b :: t => by
    rw [pairedS, List.map_cons, pairedS_f0 t, List.map_cons, List.map_cons, pairsI]
theorem levelS_f0 (lv : List SP) : ∀ k, (levelS lv k).map (·.f0) = levelI (lv.map (·.f0)) k
  | 0 => rfl
  | k + 1 => by rw [levelS, mergedS_f0 _ _ _ rfl, pairedS_f0, levelS_f0 lv k]; rfl
theorem putL_perm : ∀ (l : List Int) (x : Int), (putL l x).Perm (x :: l)
  | [], x => .refl _
  | y :: l, x => by
    rw [putL]
    split
    · exact ((putL_perm l x).cons y).trans (.swap x y l)
    · exact .refl _
theorem putL_sorted : ∀ (l : List Int) (x : Int), l.Pairwise (· ≤ ·) → (putL l x).Pairwise (· ≤ ·)
  | [], x, _ => by simp [putL]
  | y :: l, x, h => by
    obtain ⟨h1, h2⟩ := List.pairwise_cons.1 h
    rw [putL]
    split
    · rename_i hle
      refine List.pairwise_cons.2 ⟨fun z hz => ?_, putL_sorted l x h2⟩
      rcases List.mem_cons.1 ((putL_perm l x).mem_iff.1 hz) with rfl | hz
      · exact hle
      · exact h1 z hz
    · rename_i hle
      refine List.pairwise_cons.2 ⟨fun z hz => ?_, h⟩
      rcases List.mem_cons.1 hz with rfl | hz
      · omega
      · have := h1 z hz; omega
theorem coins_aux : ∀ (cs l : List Int), l.Pairwise (· ≤ ·) → (cs.foldl (fun l x => if 0 < x then putL l x else l) l).Pairwise (· ≤ ·) ∧ (cs.foldl (fun l x => if 0 < x then putL l x else l) l).Perm (cs.filter (fun x => decide (0 < x)) ++ l)
  | [], l, h => ⟨h, .refl _⟩
  | x :: cs, l, h => by
    rw [List.foldl_cons]
    by_cases hx : 0 < x
    · rw [if_pos hx]
      obtain ⟨h1, h2⟩ := coins_aux cs (putL l x) (putL_sorted l x h)
      refine ⟨h1, h2.trans ?_⟩
      rw [List.filter_cons_of_pos (by simpa using hx)]
      exact ((putL_perm l x).append_left _).trans List.perm_middle
    · rw [if_neg hx, List.filter_cons_of_neg (by simpa using hx)]
      exact coins_aux cs l h
theorem coins_sorted (cs : List Int) : (coinsI cs).Pairwise (· ≤ ·) := (coins_aux cs [] .nil).1
theorem coins_perm (cs : List Int) : (coinsI cs).Perm (cs.filter fun x => decide (0 < x)) := by
  have := (coins_aux cs [] .nil).2
  rwa [List.append_nil] at this
theorem coins_leaves {cs : List Int} {ys : List SP} (hp : ys.Perm (leafUp cs cs.length)) (hs : ys.Pairwise fun x y => x.f0 ≤ y.f0) : ys.map (·.f0) = coinsI cs := by
  refine List.Perm.eq_of_pairwise (le := fun a b : Int => a ≤ b) (fun a b _ _ h1 h2 => by omega) (List.pairwise_map.2 hs) (coins_sorted cs) ?_
  refine (hp.map _).trans ?_
  rw [leafUp_f0]
  exact (coins_perm cs).symm
theorem wsum_pc (l : List SP) : PM.wsum (l.map pcOf) = (l.map (·.f0)).sum := by
  unfold PM.wsum
  rw [List.map_map]
  rfl
/-! ### what Lengths lays -/
theorem lens_two {cs : List Int} {ys : List SP} (hp : ys.Perm (leafUp cs cs.length)) (hs : ys.Pairwise fun x y => x.f0 ≤ y.f0) (hN : cs.length ≤ 512) (M : Nat) (hM1 : 1 ≤ M) (hM : M ≤ 15) (h2 : 2 ≤ ys.length) (hn : ys.length ≤ 2 ^ M) :
    2 * ys.length - 2 ≤ (levelS ys (M - 1)).length ∧ lensOk cs M (PM.outs cs.length (symsS ((levelS ys (M - 1)).take (2 * ys.length - 2)))) := by
  obtain ⟨h3, h4, h5, h6⟩ := PM.lengths_ok (leaves_ok hp hs) hN M hM1 hM (by simpa using h2) (by simpa using hn)
  have e1 : (PM.level (ys.map pcOf) (M - 1)).take (2 * (ys.map pcOf).length - 2) = ((levelS ys (M - 1)).take (2 * ys.length - 2)).map pcOf := by rw [← levelS_pc, List.length_map, List.map_take]
  rw [e1, symsS_pc] at h4 h5 h6
  refine ⟨by rw [← levelS_pc, List.length_map, List.length_map] at h3; exact h3, PM.outs_length _ _, h4, fun s hs' => ?_, ?_⟩
  · rw [PM.outs_getD _ _ _ hs']
    obtain ⟨h7, h8⟩ := h5 s hs'
    exact ⟨⟨fun h => h7.1 (by omega), fun h => by have := h7.2 h; omega⟩, by omega⟩
  · rw [h6, wsum_pc, List.map_take, levelS_f0, coins_leaves hp hs]
    have hl : (coinsI cs).length = ys.length := by rw [← coins_leaves hp hs]; simp
    unfold leastI
    rw [hl, if_neg (by omega)]
theorem room_zeros : ∀ n, HP.room (List.replicate n 0) = 0 ∧ HP.many (List.replicate n 0) = 0
  | 0 => ⟨rfl, rfl⟩
  | n + 1 => by obtain ⟨h1, h2⟩ := room_zeros n; rw [List.replicate_succ]; simp [HP.room, HP.many, h1, h2]
theorem fits_zeros (n : Nat) : HP.fits (List.replicate n 0) := fun x hx => by rw [(List.mem_replicate.1 hx).2]; omega
theorem total_zeros (cs : List Int) (n : Nat) : PM.total (List.replicate n 0) cs = 0 := by
  unfold PM.total
  rw [List.length_replicate]
  have : (List.range n).map (fun i => (List.replicate n (0 : Int)).getD i 0 * cs.getD i 0) = (List.range n).map fun _ => 0 := by
    apply List.map_congr_left
    intro i hi
    have : (List.replicate n (0 : Int)).getD i 0 = 0 := by
      rw [List.getD_eq_getElem?_getD, List.getElem?_replicate]
      split <;> rfl
    rw [this, Int.zero_mul]
  rw [this]
  generalize List.range n = l
  induction l with
  | nil => rfl
  | cons a l ih => rw [List.map_cons, List.sum_cons, ih]; rfl
theorem getD_zeros (n i : Nat) : (List.replicate n (0 : Int)).getD i 0 = 0 := by
  rw [List.getD_eq_getElem?_getD, List.getElem?_replicate]
  split <;> rfl
theorem leafUp_mem {cs : List Int} {s : Nat} (h1 : s < cs.length) (h2 : 0 < cs.getD s 0) : (⟨cs.getD s 0, [(s : Int)]⟩ : SP) ∈ leafUp cs cs.length :=
  List.mem_map.2 ⟨s, List.mem_filter.2 ⟨List.mem_range.2 h1, decide_eq_true h2⟩, rfl⟩
theorem lens_none {cs : List Int} (M : Nat) (hN : cs.length ≤ 512) (h0 : leafUp cs cs.length = []) : lensOk cs M (List.replicate cs.length 0) := by
  have hc : coinsI cs = [] := by
    have := coins_leaves (cs := cs) (ys := []) (by rw [h0]) .nil
    rw [← this]; rfl
  refine ⟨by simp, ?_, fun s hs => ?_, ?_⟩
  · unfold HP.check
    rw [if_neg (by simp; omega), if_neg (fun h => h (fits_zeros _)), if_neg (by rw [(room_zeros _).1]; omega), if_pos (.inl (room_zeros _).2)]
  · rw [getD_zeros]
    refine ⟨⟨fun h => by omega, fun h => ?_⟩, by omega⟩
    have := leafUp_mem hs h
    rw [h0] at this
    cases this
  · rw [total_zeros]
    unfold leastI
    rw [hc]
    simp
theorem room_one : ∀ (n s : Nat), s < n → HP.room ((List.replicate n 0).set s 1) = 16384 ∧ HP.many ((List.replicate n 0).set s 1) = 1
  | n + 1, 0, _ => by rw [List.replicate_succ, List.set_cons_zero]; simp [HP.room, HP.many, room_zeros]
  | n + 1, s + 1, h => by
    obtain ⟨h1, h2⟩ := room_one n s (by omega)
    rw [List.replicate_succ, List.set_cons_succ]
    simp [HP.room, HP.many, h1, h2]
  | 0, s, h => by omega
theorem getD_one (n s i : Nat) (h : s < n) : ((List.replicate n (0 : Int)).set s 1).getD i 0 = if i = s then 1 else 0 := by
  rw [List.getD_eq_getElem?_getD, List.getElem?_set]
  by_cases e : s = i
  · subst e; simp [h]
  · rw [if_neg e, if_neg (fun h => e h.symm), List.getElem?_replicate]
    split <;> rfl
theorem lens_one {cs : List Int} (M : Nat) (hM : 1 ≤ M) (hN : cs.length ≤ 512) {x : SP} (h1 : leafUp cs cs.length = [x]) : ∃ s : Nat, x.f1 = [(s : Int)] ∧ s < cs.length ∧ lensOk cs M ((List.replicate cs.length 0).set s 1) := by
  have hx : x ∈ leafUp cs cs.length := by rw [h1]; simp
  obtain ⟨s, hs1, rfl⟩ := List.mem_map.1 hx
  obtain ⟨h2, h3⟩ := List.mem_filter.1 hs1
  have hs := List.mem_range.1 h2
  have hc : coinsI cs = [cs.getD s 0] := by
    have := coins_leaves (cs := cs) (ys := [⟨cs.getD s 0, [(s : Int)]⟩]) (by rw [h1]) (by simp)
    rw [← this]; rfl
  refine ⟨s, rfl, hs, by simp, ?_, fun i hi => ?_, ?_⟩
  · unfold HP.check
    have hf : HP.fits ((List.replicate cs.length 0).set s 1) := fun y hy => by
      rcases List.mem_or_eq_of_mem_set hy with h | h
      · rw [(List.mem_replicate.1 h).2]; omega
      · rw [h]; omega
    obtain ⟨r1, r2⟩ := room_one cs.length s hs
    rw [if_neg (by simp; omega), if_neg (fun h => h hf), if_neg (by rw [r1]; omega), if_pos (.inr (.inr ⟨r2, r1⟩))]
  · rw [getD_one _ _ _ hs]
    by_cases e : i = s
    · subst e
      rw [if_pos rfl]
      exact ⟨⟨fun _ => of_decide_eq_true h3, fun _ => by omega⟩, by omega⟩
    · rw [if_neg e]
      refine ⟨⟨fun h => by omega, fun h => ?_⟩, by omega⟩
      have := leafUp_mem hi h
      rw [h1] at this
      simp at this
      omega
  · have e2 : (List.replicate cs.length (0 : Int)).set s 1 = PM.outs cs.length [(s : Int)] := by
      apply List.ext_getElem
      · simp [PM.outs]
      · intro i h4 h5
        have hi : i < cs.length := by simpa using h4
        have e3 := getD_one cs.length s i hs
        have e4 := PM.outs_getD cs.length [(s : Int)] i hi
        rw [List.getD_eq_getElem?_getD, List.getElem?_eq_getElem h4, Option.getD_some] at e3
        rw [List.getD_eq_getElem?_getD, List.getElem?_eq_getElem h5, Option.getD_some] at e4
        rw [e3, e4, List.count_cons, List.count_nil]
        by_cases e : i = s
        · subst e; simp
        · rw [if_neg e]
          have : ((s : Int) == (i : Int)) = false := by simp; omega
          rw [this]; rfl
    rw [e2, PM.total_outs cs _ (fun y hy => by have := List.mem_singleton.1 hy; omega)]
    unfold leastI
    rw [hc]
    simp
/-! ### bounds of levels -/
theorem mem_mergedS : ∀ (n : Nat) (a b : List SP), a.length + b.length = n → ∀ x, x ∈ mergedS a b → x ∈ a ∨ x ∈ b
  | _, [], b, _, x, h => by rw [mergedS_nil] at h; exact .inr h
  | _, y :: a, [], _, x, h => by rw [mergedS_end] at h; exact .inl h
  | 0, y :: a, z :: b, h, _, _ => by simp at h
  | n + 1, y :: a, z :: b, h, x, hx => by
    simp only [List.length_cons] at h
    rw [mergedS] at hx
    split at hx
    · rcases List.mem_cons.1 hx with rfl | hx
      · exact .inl (List.mem_cons_self ..)
      · rcases mem_mergedS n a (z :: b) (by simp; omega) x hx with h | h
        · exact .inl (List.mem_cons_of_mem _ h)
        · exact .inr h
    · rcases List.mem_cons.1 hx with rfl | hx
      · exact .inr (List.mem_cons_self ..)
      · rcases mem_mergedS n (y :: a) b (by simp; omega) x hx with h | h
        · exact .inl h
        · exact .inr (List.mem_cons_of_mem _ h)
/-- Counts, symbols and how many these are, of a level's parcel. -/
def Lev (N B : Nat) (x : SP) : Prop := 0 ≤ x.f0 ∧ x.f0 ≤ (B : Int) * 2147483648 ∧ x.f1.length ≤ B ∧ ∀ s ∈ x.f1, 0 ≤ s ∧ s < (N : Int)
theorem lev_pairs {N B : Nat} : ∀ {l : List SP}, (∀ x ∈ l, Lev N B x) → ∀ x ∈ pairedS l, Lev N (2 * B) x
  | [], _, x, hx => by simp [pairedS] at hx
  | [_], _, x, hx => by simp [pairedS] at hx
  | a :: b :: t, h, x, hx => by
    rw [pairedS] at hx
    rcases List.mem_cons.1 hx with rfl | hx
    · obtain ⟨a1, a2, a3, a4⟩ := h a (by simp)
      obtain ⟨b1, b2, b3, b4⟩ := h b (by simp)
      refine ⟨by show 0 ≤ a.f0 + b.f0; omega, by show a.f0 + b.f0 ≤ _; omega, by show (a.f1 ++ b.f1).length ≤ _; rw [List.length_append]; omega, fun s hs => ?_⟩
      rcases List.mem_append.1 hs with hs | hs
      · exact a4 s hs
      · exact b4 s hs
    · exact lev_pairs (fun y hy => h y (by simp [hy])) x hx
theorem Lev.wide {N B C : Nat} {x : SP} (h : Lev N B x) (hb : B ≤ C) : Lev N C x := ⟨h.1, by have := h.2.1; omega, by have := h.2.2.1; omega, h.2.2.2⟩
theorem lev_level {N : Nat} {lv : List SP} (h : ∀ x ∈ lv, Lev N 1 x) : ∀ k, ∀ x ∈ levelS lv k, Lev N (2 ^ k) x
  | 0, x, hx => h x hx
  | k + 1, x, hx => by
    rw [levelS] at hx
    rcases mem_mergedS _ _ _ rfl x hx with h1 | h1
    · exact (h x h1).wide (Nat.one_le_two_pow)
    · rw [Nat.pow_succ, Nat.mul_comm]
      exact lev_pairs (lev_level h k) x h1
theorem mergedS_length (a b : List SP) : (mergedS a b).length = a.length + b.length := by
  have := congrArg List.length (mergedS_f0 _ a b rfl)
  rw [List.length_map, mergedI_length _ _ _ rfl, List.length_map, List.length_map] at this
  exact this
theorem levelS_length (lv : List SP) (k : Nat) : (levelS lv k).length ≤ 2 * lv.length := by
  have := congrArg List.length (levelS_f0 lv k)
  rw [List.length_map] at this
  have h2 := levelI_le (lv.map (·.f0)) k
  rw [List.length_map] at h2
  omega
theorem lev_small {N B : Nat} {l : List SP} (h : ∀ x ∈ l, Lev N B x) (hB : B ≤ 32768) : Small l := fun x hx => by
  obtain ⟨h1, h2, h3, _⟩ := h x hx
  exact ⟨h1, by omega, by omega⟩
theorem outs_snoc (N : Nat) (S : List Int) (s : Nat) (h : s < N) : PM.outs N (S ++ [(s : Int)]) = (PM.outs N S).set s ((PM.outs N S).getD s 0 + 1) := by
  apply List.ext_getElem
  · simp [PM.outs]
  · intro i h1 h2
    have hi : i < N := by simpa [PM.outs] using h1
    have e1 := PM.outs_getD N (S ++ [(s : Int)]) i hi
    have e2 := PM.outs_getD N S s h
    have e3 := PM.outs_getD N S i hi
    rw [List.getD_eq_getElem?_getD, List.getElem?_eq_getElem h1, Option.getD_some] at e1
    rw [e1, List.getElem_set]
    simp only [e2]
    rw [List.count_append, List.count_cons, List.count_nil]
    by_cases e : s = i
    · subst e; simp
    · rw [if_neg e]
      have : ((s : Int) == (i : Int)) = false := by simp; omega
      rw [this]
      have h4 : i < (PM.outs N S).length := by rw [PM.outs_length]; exact hi
      rw [List.getD_eq_getElem?_getD, List.getElem?_eq_getElem h4, Option.getD_some] at e3
      rw [e3]
      simp
end Go.Proofs.Ytjajkgemjgehiaa.St
