import Init.Data.List.Sort
/- The stable sort of the library, plainly: what a merge in place asks and gives, over functions from places (no program). -/
set_option linter.unusedVariables false
set_option linter.unusedSimpArgs false
namespace Go.Proofs.Ytjajkgemjgehiaa
namespace So
variable {α : Type}
/-- Sorted on [a, b). -/
def Srt (key : α → Int) (f : Nat → α) (a b : Nat) : Prop := ∀ i j, a ≤ i → i ≤ j → j < b → key (f i) ≤ key (f j)
/-- What stands on [a, b). -/
def seg (f : Nat → α) (a b : Nat) : List α := (List.range' a (b - a)).map f
/-- The same things on [a, b), and nothing else touched. -/
def Pm (f g : Nat → α) (a b : Nat) : Prop := (seg g a b).Perm (seg f a b) ∧ ∀ i, i < a ∨ b ≤ i → g i = f i
theorem Pm.refl (f : Nat → α) (a b : Nat) : Pm f f a b := ⟨.refl _, fun _ _ => rfl⟩
theorem Pm.trans {f g h : Nat → α} {a b : Nat} (h1 : Pm f g a b) (h2 : Pm g h a b) : Pm f h a b := ⟨h2.1.trans h1.1, fun i hi => (h2.2 i hi).trans (h1.2 i hi)⟩
theorem mem_seg {f : Nat → α} {a b : Nat} {x : α} : x ∈ seg f a b ↔ ∃ i, a ≤ i ∧ i < b ∧ f i = x := by
  unfold seg
  rw [List.mem_map]
  constructor
  · rintro ⟨i, hi, rfl⟩
    rw [List.mem_range'_1] at hi
    exact ⟨i, hi.1, by omega, rfl⟩
  · rintro ⟨i, h1, h2, rfl⟩
    exact ⟨i, by rw [List.mem_range'_1]; omega, rfl⟩
theorem Pm.of {f g : Nat → α} {a b : Nat} (h : Pm f g a b) {i : Nat} (h1 : a ≤ i) (h2 : i < b) : ∃ j, a ≤ j ∧ j < b ∧ g i = f j := by
  have := (h.1.mem_iff (a := g i)).1 (mem_seg.2 ⟨i, h1, h2, rfl⟩)
  obtain ⟨j, x, y, z⟩ := mem_seg.1 this
  exact ⟨j, x, y, z.symm⟩
theorem seg_split (f : Nat → α) {a m b : Nat} (h1 : a ≤ m) (h2 : m ≤ b) : seg f a b = seg f a m ++ seg f m b := by
  unfold seg
  rw [← List.map_append]
  congr 1
  have e : b - a = (m - a) + (b - m) := by omega
  rw [e, ← List.range'_append_1]
  congr 2
  omega
theorem seg_congr {f g : Nat → α} {a b : Nat} (h : ∀ i, a ≤ i → i < b → g i = f i) : seg g a b = seg f a b := by
  unfold seg
  refine List.map_congr_left (fun i hi => ?_)
  rw [List.mem_range'_1] at hi
  exact h i hi.1 (by omega)
/-- A part put in order is the whole put in order. -/
theorem Pm.wide {f g : Nat → α} {a b c d : Nat} (h : Pm f g c d) (h1 : a ≤ c) (h2 : c ≤ d) (h3 : d ≤ b) : Pm f g a b := by
  refine ⟨?_, fun i hi => h.2 i (by omega)⟩
  rw [seg_split g h1 (Nat.le_trans h2 h3), seg_split f h1 (Nat.le_trans h2 h3), seg_split g h2 h3, seg_split f h2 h3]
  rw [seg_congr (f := f) (g := g) (a := a) (b := c) (fun i _ hi => h.2 i (.inl hi)), seg_congr (f := f) (g := g) (a := d) (b := b) (fun i hi _ => h.2 i (.inr hi))]
  exact (List.Perm.refl _).append (h.1.append (.refl _))
theorem Srt.sub {key : α → Int} {f : Nat → α} {a b c d : Nat} (h : Srt key f a b) (h1 : a ≤ c) (h2 : d ≤ b) : Srt key f c d := fun i j hi hij hj => h i j (Nat.le_trans h1 hi) hij (Nat.lt_of_lt_of_le hj h2)
theorem Srt.congr {key : α → Int} {f g : Nat → α} {a b : Nat} (h : Srt key f a b) (e : ∀ i, a ≤ i → i < b → g i = f i) : Srt key g a b := fun i j hi hij hj => by
  rw [e i hi (by omega), e j (by omega) hj]
  exact h i j hi hij hj
/-- Two sorted parts, the first below the second. -/
theorem Srt.join {key : α → Int} {f : Nat → α} {a m b : Nat} (h1 : Srt key f a m) (h2 : Srt key f m b) (h : ∀ i j, a ≤ i → i < m → m ≤ j → j < b → key (f i) ≤ key (f j)) : Srt key f a b := fun i j hi hij hj => by
  by_cases x : j < m
  · exact h1 i j hi hij x
  · by_cases y : m ≤ i
    · exact h2 i j y hij hj
    · exact h i j hi (by omega) (by omega) hj
/-- [a, m) and [m, b) put in each other's place. -/
def rot (f : Nat → α) (a m b : Nat) : Nat → α := fun i => if i < a ∨ b ≤ i then f i else if i < a + (b - m) then f (i + (m - a)) else f (i - (b - m))
theorem seg_shift (f g : Nat → α) (a b k : Nat) (h : ∀ i, i < b → g (a + i) = f (k + i)) : seg g a (a + b) = seg f k (k + b) := by
  unfold seg
  rw [Nat.add_sub_cancel_left, Nat.add_sub_cancel_left]
  apply List.ext_getElem
  · simp
  · intro i h1 h2
    simp at h1 h2 ⊢
    exact h i h1
theorem rot_pm (f : Nat → α) {a m b : Nat} (h1 : a ≤ m) (h2 : m ≤ b) : Pm f (rot f a m b) a b := by
  refine ⟨?_, fun i hi => by unfold rot; rw [if_pos hi]⟩
  have e : a + (b - m) ≤ b := by omega
  rw [seg_split (rot f a m b) (Nat.le_add_right a (b - m)) e, seg_split f h1 h2]
  have p : seg (rot f a m b) a (a + (b - m)) = seg f m b := by
    have := seg_shift f (rot f a m b) a (b - m) m (fun i hi => by
      unfold rot
      rw [if_neg (by omega), if_pos (by omega)]
      congr 1
      omega)
    rw [this]
    congr 1
    omega
  have q : seg (rot f a m b) (a + (b - m)) b = seg f a m := by
    have := seg_shift f (rot f a m b) (a + (b - m)) (m - a) a (fun i hi => by
      unfold rot
      rw [if_neg (by omega), if_neg (by omega)]
      congr 1
      omega)
    rw [show a + (b - m) + (m - a) = b by omega, show a + (m - a) = m by omega] at this
    exact this
  rw [p, q]
  exact List.perm_append_comm
/-- What the search of a merge has found. -/
structure Cut (key : α → Int) (f : Nat → α) (a m b mid s e : Nat) : Prop where
  le1 : a ≤ s
  le2 : s ≤ m
  le3 : m ≤ e
  le4 : e ≤ b
  sum : s + (e - m) = mid
  lo : a < s → e < b → key (f (s - 1)) ≤ key (f e)
  hi : s < m → m < e → key (f (e - 1)) < key (f s)
/-- Behind the rotation, and the two halves put in order: all is in order. -/
theorem merged {key : α → Int} {f g : Nat → α} {a m b mid s e : Nat} (h1 : Srt key f a m) (h2 : Srt key f m b) (hc : Cut key f a m b mid s e)
    (hg : ∀ i, g i = rot f s m e i) {g1 g2 : Nat → α} (p1 : Pm g g1 a mid) (p2 : Pm g1 g2 mid b) (s1 : Srt key g1 a mid) (s2 : Srt key g2 mid b) :
    Pm f g2 a b ∧ Srt key g2 a b := by
  obtain ⟨l1, l2, l3, l4, hsum, hlo, hhi⟩ := hc
  have hmid1 : a ≤ mid := by omega
  have hmid2 : mid ≤ b := by omega
  have hgf : g = rot f s m e := funext hg
  have pf : Pm f g a b := by rw [hgf]; exact (rot_pm f l2 l3).wide l1 (Nat.le_trans l2 l3) l4
  refine ⟨(pf.trans (p1.wide (Nat.le_refl _) hmid1 hmid2)).trans (p2.wide hmid1 hmid2 (Nat.le_refl _)), ?_⟩
  refine Srt.join (s1.congr (fun i _ hi => p2.2 i (.inl hi))) s2 (fun i j hi1 hi2 hj1 hj2 => ?_)
  rw [p2.2 i (.inl hi2)]
  obtain ⟨i', x1, x2, x3⟩ := p1.of hi1 hi2
  obtain ⟨j', y1, y2, y3⟩ := p2.of hj1 hj2
  rw [x3, y3, p1.2 j' (.inr y1), hg, hg]
  unfold rot
  by_cases c1 : i' < s
  · rw [if_pos (.inl c1)]
    by_cases c2 : e ≤ j'
    · rw [if_pos (.inr c2)]
      have k1 := h1 i' (s - 1) x1 (by omega) (by omega)
      have k2 := hlo (by omega) (by omega)
      have k3 := h2 e j' l3 c2 y2
      omega
    · rw [if_neg (by omega), if_neg (by omega)]
      exact h1 i' (j' - (e - m)) x1 (by omega) (by omega)
  · rw [if_neg (by omega), if_pos (by omega)]
    by_cases c2 : e ≤ j'
    · rw [if_pos (.inr c2)]
      exact h2 (i' + (m - s)) j' (by omega) (by omega) y2
    · rw [if_neg (by omega), if_neg (by omega)]
      have k1 := h2 (i' + (m - s)) (e - 1) (by omega) (by omega) (by omega)
      have k2 := hhi (by omega) (by omega)
      have k3 := h1 s (j' - (e - m)) l1 (by omega) (by omega)
      omega
/-! ### the four parts behind a rotation -/
theorem rot_lo (f : Nat → α) {s m e i : Nat} (h : i < s) : rot f s m e i = f i := by unfold rot; rw [if_pos (.inl h)]
theorem rot_hi (f : Nat → α) {s m e i : Nat} (h : e ≤ i) : rot f s m e i = f i := by unfold rot; rw [if_pos (.inr h)]
theorem rot_in1 (f : Nat → α) {s m e i : Nat} (h1 : s ≤ i) (h2 : i < s + (e - m)) (hm : s ≤ m) (he : m ≤ e) : rot f s m e i = f (i + (m - s)) := by unfold rot; rw [if_neg (by omega), if_pos h2]
theorem rot_in2 (f : Nat → α) {s m e i : Nat} (h1 : s + (e - m) ≤ i) (h2 : i < e) (hm : s ≤ m) (he : m ≤ e) : rot f s m e i = f (i - (e - m)) := by unfold rot; rw [if_neg (by omega), if_neg (by omega)]
theorem rot_parts {key : α → Int} {f : Nat → α} {a m b s e : Nat} (h1 : Srt key f a m) (h2 : Srt key f m b) (l1 : a ≤ s) (l2 : s ≤ m) (l3 : m ≤ e) (l4 : e ≤ b) :
    Srt key (rot f s m e) a s ∧ Srt key (rot f s m e) s (s + (e - m)) ∧ Srt key (rot f s m e) (s + (e - m)) e ∧ Srt key (rot f s m e) e b := by
  refine ⟨fun i j hi hij hj => ?_, fun i j hi hij hj => ?_, fun i j hi hij hj => ?_, fun i j hi hij hj => ?_⟩
  · rw [rot_lo f (by omega), rot_lo f hj]
    exact h1 i j hi hij (by omega)
  · rw [rot_in1 f hi (by omega) l2 l3, rot_in1 f (by omega) hj l2 l3]
    exact h2 _ _ (by omega) (by omega) (by omega)
  · rw [rot_in2 f hi (by omega) l2 l3, rot_in2 f (by omega) hj l2 l3]
    exact h1 _ _ (by omega) (by omega) (by omega)
  · rw [rot_hi f hi, rot_hi f (by omega)]
    exact h2 _ _ (by omega) hij hj
/-- Nothing to part: the rotation alone puts all in order. -/
theorem ins_srt {key : α → Int} {f : Nat → α} {a m b s e : Nat} (h1 : Srt key f a m) (h2 : Srt key f m b) (l1 : a ≤ s) (l2 : s ≤ m) (l3 : m ≤ e) (l4 : e ≤ b)
    (c1 : ∀ i j, a ≤ i → i < s → m ≤ j → j < e → key (f i) ≤ key (f j)) (c2 : ∀ i j, s ≤ i → i < m → m ≤ j → j < e → key (f j) ≤ key (f i))
    (c3 : ∀ i j, s ≤ i → i < m → e ≤ j → j < b → key (f i) ≤ key (f j)) (c4 : ∀ i j, a ≤ i → i < s → e ≤ j → j < b → key (f i) ≤ key (f j)) : Srt key (rot f s m e) a b := by
  obtain ⟨r1, r2, r3, r4⟩ := rot_parts h1 h2 l1 l2 l3 l4
  refine Srt.join (m := s + (e - m)) (Srt.join r1 r2 (fun i j hi1 hi2 hj1 hj2 => ?_)) (Srt.join r3 r4 (fun i j hi1 hi2 hj1 hj2 => ?_)) (fun i j hi1 hi2 hj1 hj2 => ?_)
  · rw [rot_lo f hi2, rot_in1 f hj1 hj2 l2 l3]
    exact c1 _ _ hi1 hi2 (by omega) (by omega)
  · rw [rot_in2 f hi1 hi2 l2 l3, rot_hi f hj1]
    exact c3 _ _ (by omega) (by omega) hj1 hj2
  · by_cases x : i < s
    · rw [rot_lo f x]
      by_cases y : e ≤ j
      · rw [rot_hi f y]; exact c4 _ _ hi1 x y hj2
      · rw [rot_in2 f hj1 (by omega) l2 l3]; exact h1 _ _ hi1 (by omega) (by omega)
    · rw [rot_in1 f (by omega) hi2 l2 l3]
      by_cases y : e ≤ j
      · rw [rot_hi f y]; exact h2 _ _ (by omega) (by omega) hj2
      · rw [rot_in2 f hj1 (by omega) l2 l3]; exact c2 _ _ (by omega) (by omega) (by omega) (by omega)
/-- One thing ahead of a sorted part, put to its place. -/
theorem ins_left {key : α → Int} {f : Nat → α} {a b i : Nat} (hab : a + 1 ≤ b) (h2 : Srt key f (a + 1) b) (hi1 : a + 1 ≤ i) (hi2 : i ≤ b) (lo : a + 1 < i → key (f (i - 1)) < key (f a)) (hi : i < b → key (f a) ≤ key (f i)) : Srt key (rot f a (a + 1) i) a b := by
  refine ins_srt (m := a + 1) (fun i j x y z => by rw [show i = j by omega]; exact Int.le_refl _) h2 (Nat.le_refl _) (by omega) hi1 hi2 (fun _ _ _ _ => by omega) (fun x j x1 x2 j1 j2 => ?_) (fun x j x1 x2 j1 j2 => ?_) (fun _ _ _ _ => by omega)
  · obtain rfl : x = a := by omega
    have k1 := lo (by omega)
    have k2 := h2 j (i - 1) j1 (by omega) (by omega)
    omega
  · obtain rfl : x = a := by omega
    have k1 := hi (by omega)
    have k2 := h2 i j hi1 j1 j2
    omega
/-- One thing behind a sorted part, put to its place. -/
theorem ins_right {key : α → Int} {f : Nat → α} {a m i : Nat} (h1 : Srt key f a m) (hi1 : a ≤ i) (hi2 : i ≤ m) (lo : a < i → key (f (i - 1)) ≤ key (f m)) (hi : i < m → key (f m) < key (f i)) : Srt key (rot f i m (m + 1)) a (m + 1) := by
  refine ins_srt (m := m) h1 (fun i j x y z => by rw [show i = j by omega]; exact Int.le_refl _) hi1 hi2 (by omega) (Nat.le_refl _) (fun x j x1 x2 j1 j2 => ?_) (fun x j x1 x2 j1 j2 => ?_) (fun _ _ _ _ => by omega) (fun _ _ _ _ => by omega)
  · obtain rfl : j = m := by omega
    have k1 := lo (by omega)
    have k2 := h1 x (i - 1) x1 (by omega) (by omega)
    omega
  · obtain rfl : j = m := by omega
    have k1 := hi (by omega)
    have k2 := h1 i x hi1 x1 x2
    omega
/-! ### the search of a merge -/
/-- The search stands at start and r. -/
structure Sch (key : α → Int) (f : Nat → α) (lo hi n s r : Nat) : Prop where
  le1 : lo ≤ s
  le2 : s ≤ r
  le3 : r ≤ hi
  low : lo < s → key (f (s - 1)) ≤ key (f (n - s))
  high : r < hi → key (f (n - 1 - r)) < key (f r)
theorem Sch.up {key : α → Int} {f : Nat → α} {lo hi n s r c : Nat} (h : Sch key f lo hi n s r) (h1 : s ≤ c) (h2 : c < r) (hk : ¬ key (f (n - 1 - c)) < key (f c)) : Sch key f lo hi n (c + 1) r := by
  obtain ⟨a1, a2, a3, a4, a5⟩ := h
  refine ⟨by omega, by omega, a3, fun _ => ?_, a5⟩
  rw [Nat.add_sub_cancel, show n - (c + 1) = n - 1 - c by omega]
  omega
theorem Sch.down {key : α → Int} {f : Nat → α} {lo hi n s r c : Nat} (h : Sch key f lo hi n s r) (h1 : s ≤ c) (h2 : c < r) (hk : key (f (n - 1 - c)) < key (f c)) : Sch key f lo hi n s c := by
  obtain ⟨a1, a2, a3, a4, a5⟩ := h
  exact ⟨a1, h1, by omega, a4, fun _ => hk⟩
theorem Sch.cut {key : α → Int} {f : Nat → α} {a m b mid s : Nat} (hm : mid = (a + b) / 2) (h1 : a < m) (h2 : m < b) (h : Sch key f (if mid < m then mid + m - b else a) (if mid < m then mid else m) (mid + m) s s) : Cut key f a m b mid s (mid + m - s) := by
  obtain ⟨a1, a2, a3, a4, a5⟩ := h
  have e1 : mid + m - 1 - s = mid + m - s - 1 := by omega
  by_cases c : mid < m
  · rw [if_pos c] at a1 a3 a4 a5
    exact ⟨by omega, by omega, by omega, by omega, by omega, fun x y => a4 (by omega), fun x y => by rw [← e1]; exact a5 (by omega)⟩
  · rw [if_neg c] at a1 a3 a4 a5
    exact ⟨by omega, by omega, by omega, by omega, by omega, fun x y => a4 (by omega), fun x y => by rw [← e1]; exact a5 (by omega)⟩
/-! ### swaps -/
def swp (f : Nat → α) (i j : Nat) : Nat → α := fun k => if k = i then f j else if k = j then f i else f k
def swr (f : Nat → α) (a b n : Nat) : Nat → α := fun k => if a ≤ k ∧ k < a + n then f (k - a + b) else if b ≤ k ∧ k < b + n then f (k - b + a) else f k
theorem swr_zero (f : Nat → α) (a b : Nat) : swr f a b 0 = f := by
  funext k
  unfold swr
  rw [if_neg (by omega), if_neg (by omega)]
theorem swr_succ (f : Nat → α) {a b n : Nat} (h : a + (n + 1) ≤ b) : swp (swr f a b n) (a + n) (b + n) = swr f a b (n + 1) := by
  funext k
  unfold swp swr
  repeat' split
  all_goals first | (exfalso; omega) | rfl | (congr 1; omega)
theorem rot_none (f : Nat → α) (a m : Nat) : rot f a m m = f := by
  funext k
  unfold rot
  repeat' split
  all_goals first | (exfalso; omega) | rfl | (congr 1; omega)
theorem rot_none' (f : Nat → α) (m b : Nat) : rot f m m b = f := by
  funext k
  unfold rot
  repeat' split
  all_goals first | (exfalso; omega) | rfl | (congr 1; omega)
theorem rot_up (f : Nat → α) {a k : Nat} (h : a ≤ k) : swp (rot f a (a + 1) (k + 1)) k (k + 1) = rot f a (a + 1) (k + 1 + 1) := by
  funext x
  unfold swp rot
  repeat' split
  all_goals first | (exfalso; omega) | rfl | (congr 1; omega)
theorem rot_down (f : Nat → α) {k m : Nat} (h : k + 1 ≤ m) : swp (rot f (k + 1) m (m + 1)) (k + 1) k = rot f k m (m + 1) := by
  funext x
  unfold swp rot
  repeat' split
  all_goals first | (exfalso; omega) | rfl | (congr 1; omega)
theorem rot_eq (g : Nat → α) {i m : Nat} (h : i ≤ m) : rot g (m - i) m (m + i) = swr g (m - i) m i := by
  funext x
  unfold rot swr
  repeat' split
  all_goals first | (exfalso; omega) | rfl | (congr 1; omega)
theorem rot_gt (g : Nat → α) {i j m : Nat} (h : i ≤ m) (hij : j < i) : rot g (m - i) m (m + j) = rot (swr g (m - i) m j) (m - (i - j)) m (m + j) := by
  funext x
  unfold rot swr
  repeat' split
  all_goals first | (exfalso; omega) | rfl | (congr 1; omega)
theorem rot_lt (g : Nat → α) {i j m : Nat} (h : i ≤ m) (hij : i < j) : rot g (m - i) m (m + j) = rot (swr g (m - i) (m + j - i) i) (m - i) m (m + (j - i)) := by
  funext x
  unfold rot swr
  repeat' split
  all_goals first | (exfalso; omega) | rfl | (congr 1; omega)
/-! ### blocks -/
/-- Blocks of bs, each in order, from lo up to a. -/
inductive Fr (key : α → Int) (f : Nat → α) (bs lo : Nat) : Nat → Prop
  | nil : Fr key f bs lo lo
  | snoc {c : Nat} : Fr key f bs lo c → Srt key f c (c + bs) → Fr key f bs lo (c + bs)
/-- Blocks of bs, each in order, from c on up to n; the last may be short. -/
inductive Tl (key : α → Int) (f : Nat → α) (bs n : Nat) : Nat → Prop
  | last {c : Nat} : c ≤ n → n ≤ c + bs → Srt key f c n → Tl key f bs n c
  | more {c : Nat} : c + bs ≤ n → Srt key f c (c + bs) → Tl key f bs n (c + bs) → Tl key f bs n c
theorem Fr.le {key : α → Int} {f : Nat → α} {bs lo a : Nat} (h : Fr key f bs lo a) : lo ≤ a := by
  induction h with
  | nil => exact Nat.le_refl _
  | snoc _ _ ih => omega
theorem Tl.le {key : α → Int} {f : Nat → α} {bs n c : Nat} (h : Tl key f bs n c) : c ≤ n := by
  cases h with
  | last h _ _ => exact h
  | more h _ _ => omega
theorem Fr.join {key : α → Int} {f : Nat → α} {bs n lo a : Nat} (h : Fr key f bs lo a) (t : Tl key f bs n a) : Tl key f bs n lo := by
  induction h with
  | nil => exact t
  | snoc h s ih => exact ih (.more t.le s t)
theorem Fr.congr {key : α → Int} {f g : Nat → α} {bs lo a : Nat} (h : Fr key f bs lo a) (e : ∀ i, i < a → g i = f i) : Fr key g bs lo a := by
  induction h with
  | nil => exact .nil
  | snoc h s ih => exact .snoc (ih (fun i hi => e i (by omega))) (s.congr (fun i _ hi => e i hi))
theorem Tl.congr {key : α → Int} {f g : Nat → α} {bs n c : Nat} (h : Tl key f bs n c) (e : ∀ i, c ≤ i → g i = f i) : Tl key g bs n c := by
  induction h with
  | last h1 h2 s => exact .last h1 h2 (s.congr (fun i hi _ => e i hi))
  | more h1 s t ih => exact .more h1 (s.congr (fun i hi _ => e i hi)) (ih (fun i hi => e i (by omega)))
theorem Tl.whole {key : α → Int} {f : Nat → α} {bs n : Nat} (h : Tl key f bs n 0) (hb : n ≤ bs) : Srt key f 0 n := by
  cases h with
  | last _ _ s => exact s
  | more h1 s t => exact s.sub (Nat.le_refl _) (by omega)
/-- Two blocks stand ahead. -/
theorem Tl.two {key : α → Int} {f : Nat → α} {bs n a : Nat} (h : Tl key f bs n a) (hb : 1 ≤ bs) (hn : a + 2 * bs ≤ n) : Srt key f a (a + bs) ∧ Srt key f (a + bs) (a + 2 * bs) ∧ Tl key f bs n (a + 2 * bs) := by
  have e : a + 2 * bs = a + bs + bs := by omega
  cases h with
  | last h1 h2 s => omega
  | more h1 s t =>
    refine ⟨s, ?_⟩
    cases t with
    | last h3 h4 s2 =>
      obtain rfl : n = a + 2 * bs := by omega
      exact ⟨s2, .last (Nat.le_refl _) (by omega) (fun i j hi hij hj => by omega)⟩
    | more h3 s2 t2 => rw [e]; exact ⟨s2, t2⟩
/-- One block, and a short one behind it. -/
theorem Tl.one {key : α → Int} {f : Nat → α} {bs n a : Nat} (h : Tl key f bs n a) (hn : a + bs < n) (h2 : n < a + 2 * bs) : Srt key f a (a + bs) ∧ Srt key f (a + bs) n := by
  cases h with
  | last h1 h2 s => omega
  | more h1 s t =>
    refine ⟨s, ?_⟩
    cases t with
    | last h3 h4 s2 => exact s2
    | more h3 s2 t2 => omega
theorem Tl.none {key : α → Int} {f : Nat → α} {bs n a : Nat} (h : Tl key f bs n a) (hn : n ≤ a + bs) : Srt key f a n := by
  cases h with
  | last h1 h2 s => exact s
  | more h1 s t => exact s.sub (Nat.le_refl _) (by omega)
/-- A round of the merging of blocks. -/
theorem step_two {key : α → Int} {f g : Nat → α} {bs n a : Nat} (hf : Fr key f (2 * bs) 0 a) (ht : Tl key f bs n a) (hb : 1 ≤ bs) (hn : a + 2 * bs ≤ n) (hp : Pm f g a (a + 2 * bs)) (hs : Srt key g a (a + 2 * bs)) :
    Fr key g (2 * bs) 0 (a + 2 * bs) ∧ Tl key g bs n (a + 2 * bs) :=
  ⟨.snoc (hf.congr (fun i hi => hp.2 i (.inl hi))) hs, (ht.two hb hn).2.2.congr (fun i hi => hp.2 i (.inr hi))⟩
theorem step_one {key : α → Int} {f g : Nat → α} {bs n a : Nat} (hf : Fr key f (2 * bs) 0 a) (han : a ≤ n) (h2 : n < a + 2 * bs) (hp : Pm f g a n) (hs : Srt key g a n) : Tl key g (2 * bs) n 0 :=
  (hf.congr (fun i hi => hp.2 i (.inl hi))).join (.last han (by omega) hs)
theorem step_none {key : α → Int} {f : Nat → α} {bs n a : Nat} (hf : Fr key f (2 * bs) 0 a) (ht : Tl key f bs n a) (hn : n ≤ a + bs) : Tl key f (2 * bs) n 0 :=
  hf.join (.last ht.le (by omega) (ht.none hn))
/-- A round of the first phase: a block put in order. -/
theorem step_ins {key : α → Int} {f g : Nat → α} {bs a : Nat} (hf : Fr key f bs 0 a) (hp : Pm f g a (a + bs)) (hs : Srt key g a (a + bs)) : Fr key g bs 0 (a + bs) :=
  .snoc (hf.congr (fun i hi => hp.2 i (.inl hi))) hs
theorem step_rest {key : α → Int} {f g : Nat → α} {bs n a : Nat} (hf : Fr key f bs 0 a) (han : a ≤ n) (h2 : n ≤ a + bs) (hp : Pm f g a n) (hs : Srt key g a n) : Tl key g bs n 0 :=
  (hf.congr (fun i hi => hp.2 i (.inl hi))).join (.last han h2 hs)
/-! ### lists -/
theorem seg_list (L : List α) (d : α) : seg (fun i => L.getD i d) 0 L.length = L := by
  unfold seg
  apply List.ext_getElem
  · simp
  · intro i h1 h2
    simp [List.getD_eq_getElem?_getD, List.getElem?_eq_getElem h2]
theorem seg_length (f : Nat → α) (a b : Nat) : (seg f a b).length = b - a := by unfold seg; simp
theorem seg_get (f : Nat → α) (n i : Nat) (d : α) (h : i < n) : (seg f 0 n).getD i d = f i := by
  have hl : i < (seg f 0 n).length := by rw [seg_length]; omega
  rw [List.getD_eq_getElem?_getD, List.getElem?_eq_getElem hl]
  show (seg f 0 n)[i] = f i
  unfold seg
  simp
theorem seg_sorted {key : α → Int} {f : Nat → α} {n : Nat} (h : Srt key f 0 n) : (seg f 0 n).Pairwise (fun x y => key x ≤ key y) := by
  rw [List.pairwise_iff_getElem]
  intro i j hi hj hij
  have hi2 : i < n := by rw [seg_length] at hi; omega
  have hj2 : j < n := by rw [seg_length] at hj; omega
  have e1 : (seg f 0 n)[i] = f i := by unfold seg; simp
  have e2 : (seg f 0 n)[j] = f j := by unfold seg; simp
  rw [e1, e2]
  exact h i j (Nat.zero_le _) (Nat.le_of_lt hij) hj2
/-- What the sort leaves of a list: the same things, in order. -/
theorem sorted_list {key : α → Int} {L : List α} {d : α} {g : Nat → α} (hp : Pm (fun i => L.getD i d) g 0 L.length) (hs : Srt key g 0 L.length) :
    (seg g 0 L.length).Perm L ∧ (seg g 0 L.length).Pairwise (fun x y => key x ≤ key y) := by
  have h := hp.1
  rw [seg_list] at h
  exact ⟨h, seg_sorted hs⟩
end So
end Go.Proofs.Ytjajkgemjgehiaa
