import Init.Data.List.Sort
/- Package-merge, plainly: levels of parcels, what their first ones hold, and the code that comes of it (no program). -/
set_option linter.unusedVariables false
set_option linter.unusedSimpArgs false
namespace Go.Proofs.Ytjajkgemjgehiaa
namespace PM
/-- A parcel: its count, its symbols. -/
structure Pc where
  w : Int
  ss : List Int
def pairedL : List Pc → List Pc
  | a :: b :: t => ⟨a.w + b.w, a.ss ++ b.ss⟩ :: pairedL t
  | _ => []
def mergedL : List Pc → List Pc → List Pc
  | [], b => b
  | x :: a, [] => x :: a
  | x :: a, y :: b => if x.w ≤ y.w then x :: mergedL a (y :: b) else y :: mergedL (x :: a) b
termination_by a b => a.length + b.length
def level (lv : List Pc) : Nat → List Pc
  | 0 => lv
  | k + 1 => mergedL lv (pairedL (level lv k))
def syms (l : List Pc) : List Int := l.flatMap (·.ss)
def wsum (l : List Pc) : Int := (l.map (·.w)).sum
def Rising (l : List Pc) : Prop := l.Pairwise fun x y => x.w ≤ y.w
theorem mergedL_nil (a : List Pc) : mergedL a [] = a := by cases a <;> simp [mergedL]
theorem nil_mergedL (b : List Pc) : mergedL [] b = b := by simp [mergedL]
theorem mergedL_le {x y : Pc} {a b : List Pc} (h : x.w ≤ y.w) : mergedL (x :: a) (y :: b) = x :: mergedL a (y :: b) := by rw [mergedL, if_pos h]
theorem mergedL_gt {x y : Pc} {a b : List Pc} (h : ¬ x.w ≤ y.w) : mergedL (x :: a) (y :: b) = y :: mergedL (x :: a) b := by rw [mergedL, if_neg h]
theorem mergedL_length : ∀ (n : Nat) (a b : List Pc), a.length + b.length = n → (mergedL a b).length = n
  | 0, [], [], _ => by rw [nil_mergedL]; rfl
  | n, [], b, h => by rw [nil_mergedL]; simpa using h
  | n, x :: a, [], h => by rw [mergedL_nil]; simpa using h
  | 0, x :: a, y :: b, h => by simp at h
  | n + 1, x :: a, y :: b, h => by
    by_cases hle : x.w ≤ y.w
    · rw [mergedL_le hle, List.length_cons, mergedL_length n a (y :: b) (by simp at h ⊢; omega)]
    · rw [mergedL_gt hle, List.length_cons, mergedL_length n (x :: a) b (by simp at h ⊢; omega)]
theorem pairedL_length : ∀ (l : List Pc), (pairedL l).length = l.length / 2
  | [] => by simp [pairedL]
  | [x] => by simp [pairedL]
  | a :: b :: t => by
    have := pairedL_length t
    simp only [pairedL, List.length_cons, this]
    omega
/-- The first p of two lists made one: the first i and the first j; what is left of the rising one is above all that was taken of the other. -/
theorem take_merge : ∀ (n : Nat) (a b : List Pc), a.length + b.length = n → Rising a → ∀ p, p ≤ n → ∃ i j, i + j = p ∧ i ≤ a.length ∧ j ≤ b.length ∧ ((mergedL a b).take p).Perm (a.take i ++ b.take j) ∧ ∀ x ∈ a.drop i, ∀ y ∈ b.take j, y.w < x.w
  | n, a, b, hn, ha, 0, _ => ⟨0, 0, rfl, Nat.zero_le _, Nat.zero_le _, by simp, fun x _ y hy => by simp at hy⟩
  | n, [], b, hn, ha, p + 1, hp => ⟨0, p + 1, by omega, Nat.zero_le _, by simp at hn; omega, by rw [nil_mergedL]; simp, fun x hx => by simp at hx⟩
  | n, x :: a, [], hn, ha, p + 1, hp => ⟨p + 1, 0, by omega, by simp at hn ⊢; omega, Nat.zero_le _, by rw [mergedL_nil]; simp, fun x _ y hy => by simp at hy⟩
  | 0, x :: a, y :: b, hn, ha, p + 1, hp => by omega
  | n + 1, x :: a, y :: b, hn, ha, p + 1, hp => by
    by_cases hle : x.w ≤ y.w
    · obtain ⟨i, j, h1, h2, h3, h4, h5⟩ := take_merge n a (y :: b) (by simp at hn ⊢; omega) (List.Pairwise.of_cons ha) p (by omega)
      refine ⟨i + 1, j, by omega, by simp; omega, h3, ?_, ?_⟩
      · rw [mergedL_le hle, List.take_succ_cons, List.take_succ_cons, List.cons_append]
        exact h4.cons x
      · rw [List.drop_succ_cons]; exact h5
    · obtain ⟨i, j, h1, h2, h3, h4, h5⟩ := take_merge n (x :: a) b (by simp at hn ⊢; omega) ha p (by omega)
      refine ⟨i, j + 1, by omega, h2, by simp; omega, ?_, ?_⟩
      · rw [mergedL_gt hle, List.take_succ_cons, List.take_succ_cons]
        exact (h4.cons y).trans List.perm_middle.symm
      · intro z hz u hu
        rw [List.take_succ_cons] at hu
        cases hu with
        | head =>
          have hz' : z ∈ x :: a := List.mem_of_mem_drop hz
          cases hz' with
          | head => omega
          | tail _ hz' => have := (List.pairwise_cons.1 ha).1 z hz'; omega
        | tail _ hu => exact h5 z hz u hu
theorem syms_perm {l m : List Pc} (h : l.Perm m) : (syms l).Perm (syms m) := h.flatMap_right _
theorem syms_append (l m : List Pc) : syms (l ++ m) = syms l ++ syms m := by simp [syms]
/-- The first j pairs hold the first 2 j. -/
theorem paired_take : ∀ (l : List Pc) (j : Nat), j ≤ (pairedL l).length → syms ((pairedL l).take j) = syms (l.take (2 * j))
  | l, 0, _ => by simp [syms]
  | [], j + 1, h => by simp [pairedL] at h
  | [x], j + 1, h => by simp [pairedL] at h
  | a :: b :: t, j + 1, h => by
    have := paired_take t j (by simp [pairedL] at h; omega)
    rw [show 2 * (j + 1) = (2 * j) + 1 + 1 from by omega, pairedL, List.take_succ_cons, List.take_succ_cons, List.take_succ_cons]
    show (a.ss ++ b.ss) ++ syms ((pairedL t).take j) = a.ss ++ (b.ss ++ syms (t.take (2 * j)))
    rw [this, List.append_assoc]
theorem paired_over : ∀ (l : List Pc) (j : Nat), (∀ x ∈ l, 0 ≤ x.w) → ∀ z ∈ l.take (2 * j), j ≤ (pairedL l).length → ∃ y ∈ (pairedL l).take j, z.w ≤ y.w
  | l, 0, _, z, hz, _ => by simp at hz
  | [], j + 1, _, z, hz, _ => by simp at hz
  | [x], j + 1, _, z, hz, h => by simp [pairedL] at h
  | a :: b :: t, j + 1, hw, z, hz, h => by
    rw [show 2 * (j + 1) = (2 * j) + 1 + 1 from by omega, List.take_succ_cons, List.take_succ_cons] at hz
    rw [pairedL, List.take_succ_cons]
    have h0 := hw a (by simp)
    have h1 := hw b (by simp)
    cases hz with
    | head => exact ⟨_, List.mem_cons_self .., by show a.w ≤ a.w + b.w; omega⟩
    | tail _ hz =>
      cases hz with
      | head => exact ⟨_, List.mem_cons_self .., by show b.w ≤ a.w + b.w; omega⟩
      | tail _ hz =>
        obtain ⟨y, hy, hle⟩ := paired_over t j (fun x hx => hw x (by simp [hx])) z hz (by simp [pairedL] at h; omega)
        exact ⟨y, List.mem_cons_of_mem _ hy, hle⟩
theorem paired_nonneg : ∀ (l : List Pc), (∀ x ∈ l, 0 ≤ x.w) → ∀ x ∈ pairedL l, 0 ≤ x.w
  | [], _, x, hx => by simp [pairedL] at hx
  | [y], _, x, hx => by simp [pairedL] at hx
  | a :: b :: t, hw, x, hx => by
    rw [pairedL] at hx
    cases hx with
    | head => have h0 := hw a (by simp); have h1 := hw b (by simp); show 0 ≤ a.w + b.w; omega
    | tail _ hx => exact paired_nonneg t (fun x hx => hw x (by simp [hx])) x hx
theorem mem_merged : ∀ (n : Nat) (a b : List Pc), a.length + b.length = n → ∀ x, x ∈ mergedL a b ↔ x ∈ a ∨ x ∈ b
  | n, [], b, _, x => by rw [nil_mergedL]; simp
  | n, y :: a, [], _, x => by rw [mergedL_nil]; simp
  | 0, y :: a, z :: b, h, x => by simp at h
  | n + 1, y :: a, z :: b, h, x => by
    by_cases hle : y.w ≤ z.w
    · rw [mergedL_le hle, List.mem_cons, mem_merged n a (z :: b) (by simp at h ⊢; omega), List.mem_cons, List.mem_cons]
      constructor
      · rintro (h | h | h | h) <;> simp [h]
      · rintro ((h | h) | h | h) <;> simp [h]
    · rw [mergedL_gt hle, List.mem_cons, mem_merged n (y :: a) b (by simp at h ⊢; omega), List.mem_cons, List.mem_cons]
      constructor
      · rintro (h | (h | h) | h) <;> simp [h]
      · rintro ((h | h) | h | h) <;> simp [h]
theorem level_nonneg {lv : List Pc} (hw : ∀ x ∈ lv, 0 ≤ x.w) : ∀ k, ∀ x ∈ level lv k, 0 ≤ x.w
  | 0 => hw
  | k + 1 => fun x hx => by
    rcases (mem_merged _ lv _ rfl x).1 hx with h | h
    · exact hw x h
    · exact paired_nonneg _ (level_nonneg hw k) x h
theorem level_length (lv : List Pc) (k : Nat) : (level lv (k + 1)).length = lv.length + (level lv k).length / 2 := by
  show (mergedL lv (pairedL (level lv k))).length = _
  rw [mergedL_length _ _ _ rfl, pairedL_length]
/-- n parcels, no more than 2 ^ (k + 1): the level k has 2 n - 2 parcels at least. -/
theorem level_enough (lv : List Pc) : ∀ k, 2 * lv.length * 2 ^ k ≤ (level lv k).length * 2 ^ k + lv.length + (2 ^ k - 1)
  | 0 => by simp [level]; omega
  | k + 1 => by
    have h := level_enough lv k
    rw [level_length]
    have hp : 2 ^ (k + 1) = 2 * 2 ^ k := by rw [Nat.pow_succ']
    have h1 : (level lv k).length ≤ 2 * ((level lv k).length / 2) + 1 := by omega
    have h2 : (level lv k).length * 2 ^ k ≤ (2 * ((level lv k).length / 2) + 1) * 2 ^ k := Nat.mul_le_mul_right _ h1
    have h0 : 0 < 2 ^ k := Nat.two_pow_pos k
    rw [hp]
    generalize (level lv k).length / 2 = q at *
    generalize (level lv k).length * 2 ^ k = u at *
    generalize 2 ^ k = p at *
    have e1 : (2 * q + 1) * p = 2 * (q * p) + p := by rw [Nat.add_mul, Nat.one_mul, Nat.mul_assoc]
    have e2 : 2 * lv.length * p = 2 * (lv.length * p) := Nat.mul_assoc _ _ _
    have e3 : 2 * lv.length * (2 * p) = 4 * (lv.length * p) := by rw [Nat.mul_assoc, Nat.mul_left_comm lv.length 2 p]; omega
    have e4 : (lv.length + q) * (2 * p) = 2 * (lv.length * p) + 2 * (q * p) := by rw [Nat.add_mul, Nat.mul_left_comm lv.length 2 p, Nat.mul_left_comm q 2 p]
    rw [e1] at h2
    rw [e2] at h
    rw [e3, e4]
    generalize q * p = b at *
    generalize lv.length * p = a at *
    omega
theorem level_two {lv : List Pc} {k : Nat} (h : lv.length ≤ 2 ^ (k + 1)) (h1 : 1 ≤ lv.length) : 2 * lv.length - 2 ≤ (level lv k).length := by
  have h2 := level_enough lv k
  have hp : 2 ^ (k + 1) = 2 * 2 ^ k := by rw [Nat.pow_succ']
  have h0 : 0 < 2 ^ k := Nat.two_pow_pos k
  rw [hp] at h
  apply Decidable.byContradiction
  intro hlt
  have h3 : (level lv k).length + 3 ≤ 2 * lv.length := by omega
  have h4 : ((level lv k).length + 3) * 2 ^ k ≤ 2 * lv.length * 2 ^ k := Nat.mul_le_mul_right _ h3
  rw [Nat.add_mul] at h4
  omega
/-- What the first p of a level hold: of the leaves the first so many, level by level, no fewer above. -/
def width : List Nat → Nat
  | [] => 0
  | i :: is => i * 2 ^ is.length + width is
theorem level_take {lv : List Pc} (hr : Rising lv) (hw : ∀ x ∈ lv, 0 ≤ x.w) : ∀ (k p : Nat), p ≤ (level lv k).length → ∃ (i : Nat) (is : List Nat), is.length = k ∧ (i :: is).Pairwise (· ≥ ·) ∧ i ≤ lv.length ∧ (syms ((level lv k).take p)).Perm ((i :: is).flatMap fun i => syms (lv.take i)) ∧ width (i :: is) = p * 2 ^ k ∧ ∀ x ∈ lv.take i, x ∈ (level lv k).take p
  | 0, p, hp => ⟨p, [], rfl, by simp, hp, by simp [level], by simp [width], fun x hx => hx⟩
  | k + 1, p, hp => by
    obtain ⟨i, j, h1, h2, h3, h4, h5⟩ := take_merge _ lv (pairedL (level lv k)) rfl hr p (by rw [← mergedL_length _ _ _ rfl]; exact hp)
    have h6 : 2 * j ≤ (level lv k).length := by rw [pairedL_length] at h3; omega
    obtain ⟨i', is, g1, g2, g3, g4, g5, g6⟩ := level_take hr hw k (2 * j) h6
    have hle : i' ≤ i := by
      apply Decidable.byContradiction
      intro hlt
      have hi : i < lv.length := by omega
      have hx : lv[i] ∈ lv.take i' := List.mem_take_iff_getElem.2 ⟨i, by omega, rfl⟩
      obtain ⟨y, hy, hyw⟩ := paired_over (level lv k) j (level_nonneg hw k) _ (g6 _ hx) h3
      have hd : lv[i] ∈ lv.drop i := by rw [List.drop_eq_getElem_cons hi]; exact List.mem_cons_self ..
      have := h5 _ hd y hy
      omega
    refine ⟨i, i' :: is, by simp [g1], ?_, h2, ?_, ?_, fun x hx => h4.symm.mem_iff.1 (List.mem_append_left _ hx)⟩
    · rw [List.pairwise_cons]
      refine ⟨fun z hz => ?_, g2⟩
      cases hz with
      | head => exact hle
      | tail _ hz => exact Nat.le_trans ((List.pairwise_cons.1 g2).1 z hz) hle
    · rw [List.flatMap_cons]
      refine (syms_perm h4).trans ?_
      rw [syms_append, paired_take _ _ h3]
      exact g4.append_left _
    · show i * 2 ^ (i' :: is).length + width (i' :: is) = p * 2 ^ (k + 1)
      rw [g5, List.length_cons, g1, ← h1, Nat.pow_succ', Nat.add_mul]
      rw [show 2 * j * 2 ^ k = j * (2 * 2 ^ k) from by rw [Nat.mul_comm 2 j, Nat.mul_assoc]]
/-- How many are above t. -/
def above (is : List Nat) (t : Nat) : Nat := is.countP fun i => decide (t < i)
theorem above_le (is : List Nat) (t : Nat) : above is t ≤ is.length := List.countP_le_length
/-- The sum of 2 ^ (length - above) over all t below n. -/
def kraft (is : List Nat) : Nat → Nat
  | 0 => 0
  | n + 1 => kraft is n + 2 ^ (is.length - above is n)
theorem above_cons (i : Nat) (is : List Nat) (t : Nat) : above (i :: is) t = above is t + (if t < i then 1 else 0) := by
  unfold above; rw [List.countP_cons]; simp
theorem above_zero {is : List Nat} {t : Nat} (h : ∀ i ∈ is, i ≤ t) : above is t = 0 := by
  unfold above; rw [List.countP_eq_zero]; intro i hi; have := h i hi; simp; omega
theorem kraft_cons_low (i : Nat) (is : List Nat) : ∀ n, n ≤ i → kraft (i :: is) n = kraft is n
  | 0, _ => rfl
  | n + 1, h => by
    show kraft (i :: is) n + 2 ^ ((i :: is).length - above (i :: is) n) = kraft is n + 2 ^ (is.length - above is n)
    rw [kraft_cons_low i is n (by omega), above_cons, if_pos (by omega), List.length_cons]
    congr 2
    omega
theorem kraft_cons_high (i : Nat) (is : List Nat) (hi : ∀ z ∈ is, z ≤ i) : ∀ d, kraft (i :: is) (i + d) = kraft is (i + d) + d * 2 ^ is.length
  | 0 => by rw [Nat.add_zero, kraft_cons_low i is i (Nat.le_refl _)]; simp
  | d + 1 => by
    show kraft (i :: is) (i + d) + 2 ^ ((i :: is).length - above (i :: is) (i + d)) = (kraft is (i + d) + 2 ^ (is.length - above is (i + d))) + (d + 1) * 2 ^ is.length
    rw [kraft_cons_high i is hi d, above_cons, if_neg (by omega), above_zero (fun z hz => by have := hi z hz; omega), List.length_cons, Nat.sub_zero, Nat.sub_zero, Nat.pow_succ, Nat.add_mul]
    omega
theorem kraft_width : ∀ (is : List Nat), is.Pairwise (· ≥ ·) → ∀ n, (∀ i ∈ is, i ≤ n) → kraft is n + width is = n * 2 ^ is.length
  | [], _, n, _ => by
    have : ∀ n, kraft [] n = n := fun n => by
      induction n with
      | zero => rfl
      | succ n ih => simp [kraft, ih, above]
    simp [width, this]
  | i :: is, hp, n, hn => by
    have hi := (List.pairwise_cons.1 hp).1
    have hin := hn i (List.mem_cons_self ..)
    have ih := kraft_width is (List.pairwise_cons.1 hp).2 n (fun z hz => hn z (List.mem_cons_of_mem _ hz))
    obtain ⟨d, rfl⟩ : ∃ d, n = i + d := ⟨n - i, by omega⟩
    rw [kraft_cons_high i is (fun z hz => hi z hz), List.length_cons, Nat.pow_succ]
    show kraft is (i + d) + d * 2 ^ is.length + (i * 2 ^ is.length + width is) = (i + d) * (2 ^ is.length * 2)
    have e : (i + d) * (2 ^ is.length * 2) = (i + d) * 2 ^ is.length + (i + d) * 2 ^ is.length := by rw [← Nat.mul_assoc, Nat.mul_two]
    rw [e, ← ih]
    have e2 : (i + d) * 2 ^ is.length = i * 2 ^ is.length + d * 2 ^ is.length := Nat.add_mul ..
    rw [e2] at ih
    omega
theorem width_le : ∀ (is : List Nat) (m : Nat), (∀ i ∈ is, i ≤ m) → width is + m ≤ m * 2 ^ is.length
  | [], m, _ => by simp [width]
  | i :: is, m, h => by
    have h1 := width_le is m (fun z hz => h z (List.mem_cons_of_mem _ hz))
    have h2 : i * 2 ^ is.length ≤ m * 2 ^ is.length := Nat.mul_le_mul_right _ (h i (List.mem_cons_self ..))
    show i * 2 ^ is.length + width is + m ≤ m * 2 ^ (is.length + 1)
    rw [Nat.pow_succ, ← Nat.mul_assoc]
    omega
end PM
end Go.Proofs.Ytjajkgemjgehiaa
