import Derived.Test.YtjepodcgbfejgaaGreatDoorRpC
/- strings.Replacer: what stands for a text, in plain Lean. -/
namespace Go.Proofs.YtjepodcgbfejgaaGreatDoor.Hw
open Go.RowKit Go.Proofs.YtjepodcgbfejgaaGreatDoorW.PrintWords Go.Proofs.YtjepodcgbfejgaaGreatDoorW.PrintLast Go.Proofs.YtjepodcgbfejgaaGreatDoorW.PrintMore Go.Proofs.YtjepodcgbfejgaaGreatDoor.PH Go.Proofs.YtjepodcgbfejgaaGreatDoor.CP
set_option linter.unusedVariables false
set_option linter.unusedSimpArgs false
def outB (T : Ps) (s : List UInt8) : List UInt8 := s.flatMap fun c => (look T c.toNat).getD [c]
def addN (T : Ps) (c : UInt8) : Nat := match look T c.toNat with | some ys => ys.length - 1 | none => 0
theorem look_mem {T : Ps} {x : Nat} {ys : List UInt8} (h : look T x = some ys) : ∃ p ∈ T, p.2 = ys := by
  unfold look at h
  obtain ⟨p, hp, rfl⟩ := Option.map_eq_some_iff.1 h
  exact ⟨p, List.mem_of_find?_eq_some hp, rfl⟩
theorem outB_len (T : Ps) (hT : ∀ p ∈ T, 1 ≤ p.2.length) (s : List UInt8) : (outB T s).length = s.length + (s.map (addN T)).sum := by
  induction s with
  | nil => rfl
  | cons c s ih =>
    unfold outB at ih ⊢
    rw [List.flatMap_cons, List.length_append, ih, List.map_cons, List.sum_cons, List.length_cons]
    have : ((look T c.toNat).getD [c]).length = 1 + addN T c := by
      unfold addN
      cases h : look T c.toNat with
      | none => rfl
      | some ys =>
        obtain ⟨p, hp, rfl⟩ := look_mem h
        have := hT p hp
        simp only [Option.getD_some]
        omega
    omega
theorem add_look (T : Ps) (hnd : (T.map (·.1.toNat)).Nodup) (c : UInt8) : (T.map fun p => if p.1 = c then p.2.length - 1 else 0).sum = addN T c := by
  induction T with
  | nil => rfl
  | cons p T ih =>
    rw [List.map_cons, List.nodup_cons] at hnd
    rw [List.map_cons, List.sum_cons, ih hnd.2]
    unfold addN look
    by_cases e : p.1 = c
    · rw [if_pos e]
      have hn : T.find? (fun q => q.1.toNat == c.toNat) = none := List.find?_eq_none.2 (fun q hq => by
        simp only [beq_iff_eq]
        intro he
        exact hnd.1 (List.mem_map.2 ⟨q, hq, by rw [he, e]⟩))
      rw [List.find?_cons_of_pos (by simp [e]), hn]
      simp
    · rw [if_neg e, List.find?_cons_of_neg (by simp only [beq_iff_eq]; intro he; exact e (UInt8.toNat_inj.1 he))]
      simp
theorem cnt_sum (T : Ps) (hnd : (T.map (·.1.toNat)).Nodup) (s : List UInt8) : (T.map fun p => s.count p.1 * (p.2.length - 1)).sum = (s.map (addN T)).sum := by
  induction s with
  | nil => 
    simp only [List.count_nil, Nat.zero_mul, List.map_nil, List.sum_nil]
    induction T with
    | nil => rfl
    | cons p T ih => rw [List.map_cons, List.nodup_cons] at hnd; rw [List.map_cons, List.sum_cons, ih hnd.2]; rfl
  | cons c s ih =>
    rw [List.map_cons, List.sum_cons, ← ih, ← add_look T hnd c]
    clear ih hnd
    induction T with
    | nil => rfl
    | cons p T ih =>
      simp only [List.map_cons, List.sum_cons] at ih ⊢
      rw [ih, List.count_cons]
      by_cases e : c = p.1
      · subst e; simp [Nat.add_mul]; omega
      · have e2 : ¬ p.1 = c := fun h => e h.symm
        simp [e, e2]; omega
theorem outB_same (T : Ps) (s : List UInt8) (h : ∀ c ∈ s, look T c.toNat = none) : outB T s = s := by
  induction s with
  | nil => rfl
  | cons c s ih =>
    unfold outB at ih ⊢
    rw [List.flatMap_cons, ih (fun c hc => h c (List.mem_cons_of_mem _ hc)), h c (by simp)]
    rfl
theorem look_zero (T : Ps) (s : List UInt8) (h : ∀ p ∈ T, s.count p.1 = 0) : ∀ c ∈ s, look T c.toNat = none := by
  intro c hc
  refine look_none (fun p hp he => ?_)
  have h1 := h p hp
  rw [UInt8.toNat_inj.1 he, List.count_eq_zero] at h1
  exact h1 hc
theorem outB_snoc (T : Ps) (s : List UInt8) (i : Nat) (h : i < s.length) : outB T (s.take (i + 1)) = outB T (s.take i) ++ (look T s[i].toNat).getD [s[i]] := by
  unfold outB
  rw [List.take_succ_eq_append_getElem h, List.flatMap_append]
  simp
theorem outB_take_le (T : Ps) (s : List UInt8) (i : Nat) : (outB T (s.take i)).length ≤ (outB T s).length := by
  conv => rhs; rw [← List.take_append_drop i s]
  unfold outB
  rw [List.flatMap_append, List.length_append]
  omega
theorem sum_take_snoc (f : UInt8 → Nat) (s : List UInt8) (i : Nat) (h : i < s.length) : ((s.take (i + 1)).map f).sum = ((s.take i).map f).sum + f s[i] := by
  rw [List.take_succ_eq_append_getElem h, List.map_append, List.sum_append]; simp
theorem sumT_take_snoc (f : UInt8 × List UInt8 → Nat) (s : Ps) (i : Nat) (h : i < s.length) : ((s.take (i + 1)).map f).sum = ((s.take i).map f).sum + f s[i] := by
  rw [List.take_succ_eq_append_getElem h, List.map_append, List.sum_append]; simp
theorem add_le (T : Ps) (hT : ∀ p ∈ T, p.2.length ≤ 100) (s : List UInt8) : (s.map (addN T)).sum ≤ 100 * s.length := by
  induction s with
  | nil => simp
  | cons c s ih =>
    have : addN T c ≤ 100 := by
      unfold addN
      cases h : look T c.toNat with
      | none => simp
      | some ys => obtain ⟨p, hp, rfl⟩ := look_mem h; have := hT p hp; simp only []; omega
    simp only [List.map_cons, List.sum_cons, List.length_cons]
    omega
end Go.Proofs.YtjepodcgbfejgaaGreatDoor.Hw
