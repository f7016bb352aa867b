import Derived.Test.YtjajkgemjgehiaaLeastRef3
/- The document's Least, walked. -/
namespace Go.Proofs.Ytjajkgemjgehiaa.Hw
open Go.RowKit Go.Proofs.YtjajkgemjgehiaaW.PrintWords Go.Proofs.YtjajkgemjgehiaaW.PrintLast Go.Proofs.YtjajkgemjgehiaaW.PrintMore Go.Proofs.Ytjajkgemjgehiaa.PH
set_option linter.unusedVariables false
set_option linter.unusedSimpArgs false
/-- The counts above 0, rising. -/
def coinsI (cs : List Int) : List Int := cs.foldl (fun l x => if 0 < x then putL l x else l) []
def pairsI : List Int → List Int
  | x :: y :: t => (x + y) :: pairsI t
  | _ => []
def levelI (cs : List Int) : Nat → List Int
  | 0 => cs
  | k + 1 => mergedI cs (pairsI (levelI cs k))
def leastI (cs : List Int) (most : Nat) : Int :=
  if (coinsI cs).length < 2 then (if (coinsI cs).length = 1 then (coinsI cs).getD 0 0 else 0) else ((levelI (coinsI cs) (most - 1)).take (2 * (coinsI cs).length - 2)).sum
theorem coinsI_take (cs : List Int) (k : Nat) (hk : k < cs.length) : coinsI (cs.take (k + 1)) = if 0 < cs.getD k 0 then putL (coinsI (cs.take k)) (cs.getD k 0) else coinsI (cs.take k) := by
  unfold coinsI
  rw [List.take_succ_eq_append_getElem hk, List.foldl_append, List.getD_eq_getElem?_getD, List.getElem?_eq_getElem hk]
  rfl
theorem putL_length (l : List Int) (x : Int) : (putL l x).length = l.length + 1 := by
  induction l with
  | nil => rfl
  | cons y l ih => unfold putL; split <;> simp [ih]
theorem coinsI_length (cs : List Int) : (coinsI cs).length = HP.many cs := by
  have h : ∀ (l acc : List Int), (l.foldl (fun l x => if 0 < x then putL l x else l) acc).length = acc.length + HP.many l := by
    intro l
    induction l with
    | nil => intro acc; simp [HP.many]
    | cons x l ih =>
      intro acc
      simp only [List.foldl_cons, HP.many]
      rw [ih]
      by_cases hx : 0 < x
      · rw [if_pos hx, if_pos hx, putL_length]; omega
      · rw [if_neg hx, if_neg hx]; omega
  have := h cs []
  simpa [coinsI] using this
theorem pairsI_length : ∀ (l : List Int), (pairsI l).length = l.length / 2
  | [] => rfl
  | [x] => by simp [pairsI]
  | x :: y :: t => by rw [pairsI, List.length_cons, pairsI_length t]; simp; omega
theorem pairs_take : ∀ (L : List Int) (j : Nat), 2 * j + 1 < L.length → (pairsI L).take (j + 1) = (pairsI L).take j ++ [L.getD (2 * j) 0 + L.getD (2 * j + 1) 0]
  | [], j, h => by simp at h
  | [x], j, h => by simp at h
  | x :: y :: t, 0, h => by simp [pairsI]
  | x :: y :: t, j + 1, h => by
    have := pairs_take t j (by simp at h; omega)
    rw [pairsI, List.take_succ_cons, this, List.take_succ_cons, List.cons_append]
    rfl
theorem levelI_le (cs : List Int) : ∀ k, (levelI cs k).length ≤ 2 * cs.length
  | 0 => by show cs.length ≤ _; omega
  | k + 1 => by
    have := levelI_le cs k
    show (mergedI cs (pairsI (levelI cs k))).length ≤ _
    rw [mergedI_length _ _ _ rfl, pairsI_length]; omega
/-- All within 0 and m. -/
def upTo (m : Int) (l : List Int) : Prop := ∀ x ∈ l, 0 ≤ x ∧ x ≤ m
theorem mem_mergedI : ∀ (n : Nat) (a b : List Int), a.length + b.length = n → ∀ x, x ∈ mergedI a b ↔ x ∈ a ∨ x ∈ b
  | n, [], b, h, x => by rw [mergedI_nil]; simp
  | n, y :: a, [], h, x => by rw [mergedI_end]; simp
  | 0, y :: a, z :: b, h, x => by simp at h
  | n + 1, y :: a, z :: b, h, x => by
    rw [mergedI]
    split
    · rw [List.mem_cons, mem_mergedI n a (z :: b) (by simp at h ⊢; omega)]; simp [or_assoc]
    · rw [List.mem_cons, mem_mergedI n (y :: a) b (by simp at h ⊢; omega)]; simp only [List.mem_cons]; constructor
      · rintro (h | h | h)
        · exact .inr (.inl h)
        · exact .inl h
        · exact .inr (.inr h)
      · rintro (h | h | h)
        · exact .inr (.inl h)
        · exact .inl h
        · exact .inr (.inr h)
theorem upTo_pairs {m : Int} : ∀ {l : List Int}, upTo m l → upTo (2 * m) (pairsI l)
  | [], _ => fun x h => by cases h
  | [y], _ => fun x h => by simp [pairsI] at h
  | y :: z :: t, hl => fun x h => by
    rw [pairsI] at h
    rcases List.mem_cons.1 h with rfl | h
    · have h1 := hl y (by simp); have h2 := hl z (by simp); omega
    · exact upTo_pairs (fun q hq => hl q (by simp [hq])) x h
theorem upTo_level {m : Int} {cs : List Int} (hm : 0 ≤ m) (h : upTo m cs) : ∀ k : Nat, upTo (m * 2 ^ k) (levelI cs k)
  | 0 => by rw [Int.pow_zero, Int.mul_one]; exact h
  | k + 1 => fun x hx => by
    have ih := upTo_pairs (upTo_level hm h k)
    have e : 2 * (m * 2 ^ k) = m * 2 ^ (k + 1) := by rw [Int.pow_succ]; rw [← Int.mul_assoc, Int.mul_comm 2 m, Int.mul_assoc, Int.mul_comm 2]
    rcases (mem_mergedI _ cs (pairsI (levelI cs k)) rfl x).1 hx with h1 | h1
    · have h2 := h x h1
      have h3 : m * 1 ≤ m * 2 ^ (k + 1) := Int.mul_le_mul_of_nonneg_left (by have := Int.pow_pos (n := 2) (m := k + 1) (by decide); omega) hm
      omega
    · have := ih x h1
      rw [e] at this
      exact this
theorem mem_putL (l : List Int) (x y : Int) : y ∈ putL l x ↔ y = x ∨ y ∈ l := by
  rw [putL_at]
  have : y ∈ l ↔ y ∈ l.take (putAt l x) ∨ y ∈ l.drop (putAt l x) := by rw [← List.mem_append, List.take_append_drop]
  rw [this]
  simp only [List.mem_append, List.mem_cons]
  constructor
  · rintro (h | h | h)
    · exact .inr (.inl h)
    · exact .inl h
    · exact .inr (.inr h)
  · rintro (h | h | h)
    · exact .inr (.inl h)
    · exact .inl h
    · exact .inr (.inr h)
theorem coinsI_upTo {cs : List Int} (h : allR cs) : upTo 2147483648 (coinsI cs) := by
  have hf : ∀ (l acc : List Int), allR l → upTo 2147483648 acc → upTo 2147483648 (l.foldl (fun l x => if 0 < x then putL l x else l) acc) := by
    intro l
    induction l with
    | nil => intro acc _ h; exact h
    | cons x l ih =>
      intro acc hl hacc
      rw [allR_cons] at hl
      simp only [List.foldl_cons]
      apply ih _ hl.2
      split
      · intro y hy
        rcases (mem_putL _ _ _).1 hy with rfl | hy
        · exact hl.1
        · exact hacc y hy
      · exact hacc
  exact hf cs [] h (fun x hx => by cases hx)
/-- The k-th level's list, as slot 7 holds it. -/
def LvS (W1 wr : World) (v : Value) (l : List Int) (k : Nat) : Prop :=
  ∃ A c, v = .slice A (levelI l k).length c ∧ (levelI l k).length ≤ c ∧ Kd.C (Kd.int .i64) wr A (levelI l k).length (levelI l k) ∧ Below W1.heap.size W1 wr
/-- The pairs that are made. -/
def PkS (wr wi : World) (v : Value) (L : List Int) (j : Nat) : Prop :=
  Kd.R (Kd.int .i64) 3 wi wr.heap.size (fun _ => True) v ((pairsI L).take j) ∧ Below wr.heap.size wr wi
theorem pk_facts {i0 n : Nat} (h : i0 + 1 < n) (hn : n ≤ 1024) : i0 < n ∧ IntKind.i64.wrap ((i0 : Int) + 1) = (i0 : Int) + 1 ∧ (0 : Int) ≤ (i0 : Int) + 1 ∧ (i0 : Int) + 1 < (n : Int) :=
  ⟨by omega, by rw [IntKind.wrap_i64]; omega, by omega, by omega⟩
theorem sum_small {L : List Int} {k : Nat} (h : upTo (2147483648 * 2 ^ k) L) (hk : k ≤ 14) (i : Nat) (hi : i + 1 < L.length) : IntKind.i64.wrap (L.getD i 0 + L.getD (i + 1) 0) = L.getD i 0 + L.getD (i + 1) 0 := by
  have e : ∀ j, j < L.length → 0 ≤ L.getD j 0 ∧ L.getD j 0 ≤ 35184372088832 := fun j hj => by
    have h1 : L.getD j 0 = L[j] := by simp [List.getD_eq_getElem?_getD, hj]
    have h2 := h _ (List.getElem_mem hj)
    rw [h1]
    refine ⟨h2.1, Int.le_trans h2.2 ?_⟩
    have h3 : (2 : Nat) ^ k ≤ 2 ^ 14 := Nat.pow_le_pow_right (by omega) hk
    have h4 : ((2 : Int) ^ k) = ((2 ^ k : Nat) : Int) := by simp
    rw [h4]
    have : (2 : Nat) ^ 14 = 16384 := rfl
    omega
  have h1 := e i (by omega)
  have h2 := e (i + 1) hi
  rw [IntKind.wrap_i64]
  omega
theorem take_sum {L : List Int} {k : Nat} (h : upTo (2147483648 * 2 ^ k) L) (hk : k ≤ 14) (q : Nat) (hq : q < L.length) (hl : L.length ≤ 1024) : (L.take (q + 1)).sum = (L.take q).sum + L.getD q 0 ∧ IntKind.i64.wrap ((L.take q).sum + L.getD q 0) = (L.take q).sum + L.getD q 0 := by
  have e : ∀ x ∈ L, 0 ≤ x ∧ x ≤ 35184372088832 := fun x hx => by
    have h2 := h _ hx
    refine ⟨h2.1, Int.le_trans h2.2 ?_⟩
    have h3 : (2 : Nat) ^ k ≤ 2 ^ 14 := Nat.pow_le_pow_right (by omega) hk
    have h4 : ((2 : Int) ^ k) = ((2 ^ k : Nat) : Int) := by simp
    rw [h4]
    have : (2 : Nat) ^ 14 = 16384 := rfl
    omega
  have es : ∀ l : List Int, (∀ x ∈ l, 0 ≤ x ∧ x ≤ 35184372088832) → 0 ≤ l.sum ∧ l.sum ≤ 35184372088832 * (l.length : Int) := fun l => by
    induction l with
    | nil => intro _; simp
    | cons x l ih =>
      intro hx
      have h1 := hx x (List.mem_cons_self ..)
      have h2 := ih (fun y hy => hx y (List.mem_cons_of_mem _ hy))
      rw [List.sum_cons, List.length_cons]
      omega
  have h1 := es (L.take q) (fun x hx => e x (List.mem_of_mem_take hx))
  have h2 : L.getD q 0 = L[q] := by simp [List.getD_eq_getElem?_getD, hq]
  have h3 := e _ (List.getElem_mem hq)
  have h4 := List.length_take_le q L
  refine ⟨by rw [List.take_succ_eq_append_getElem hq, List.sum_append, h2]; simp, ?_⟩
  rw [h2, IntKind.wrap_i64]
  have h5 : ((L.take q).length : Int) ≤ 1024 := by omega
  omega
set_option maxRecDepth 100000 in
set_option maxHeartbeats 4000000 in
theorem least_calls (A : Option Addr) (c : Nat) (cs : List Int) (most : Nat) (w : World) (hC : Kd.C (Kd.int .i64) w A cs.length cs) (hc : cs.length ≤ c) (hl : cs.length ≤ 512) (hr : allR cs) (hm1 : 1 ≤ most) (hm : most ≤ 15) :
    Calls Try.prog 8 #[.slice A cs.length c, .int .i64 (most : Int)] w fun e w' => e = .returned (.int .i64 (leastI cs most)) ∧ Below w.heap.size w w' := by
  have HC := Aside0.mk hC
  have HR := Aside0.mk hr
  clear hC hr
  go_enter Try.func8, Try.ntmps8
  go_wp2
  go_loopw [5, 6] (fun v i wr => ∃ k : Nat, k ≤ cs.length ∧ i = .int .i64 k ∧ Aside0 (Kd.R (Kd.int .i64) 3 wr w.heap.size (fun _ => True) v (coinsI (cs.take k)) ∧ Below w.heap.size w wr)) (fun _ i _ => cs.length - (intOf i).toNat)
  case atStart => exact ⟨0, Nat.zero_le _, rfl, ⟨Kd.R_nil _ _ _ _ _, Below.refl _ _⟩⟩
  case round =>
    obtain ⟨k, hk, rfl, HS⟩ := hrel
    obtain ⟨l, hle⟩ : ∃ l, l = coinsI (cs.take k) := ⟨_, rfl⟩
    rw [← hle] at HS
    have HLE := Aside0.mk hle
    have HLL : Aside0 (l.length ≤ 512) := ⟨by rw [hle, coinsI_length]; have := HP.many_le (cs.take k); have := List.length_take_le k cs; omega⟩
    clear hle
    obtain ⟨Al, cl, hu, hcl, _⟩ := Kd.R_reads HS.out.1
    subst hu
    by_cases hlt : k < cs.length
    · obtain ⟨ad, e1, hx⟩ := Kd.at_int (Kd.C_below HC.out HS.out.2) (k : Int) (by omega) (by omega)
      subst e1
      have hrd : rd cs (k : Int) = cs.getD k 0 := by unfold rd; rw [Int.toNat_natCast]
      rw [Int.toNat_natCast, hrd] at hx
      have HX := Aside0.mk (coinsI_take cs k hlt)
      clear hrd
      generalize cs.getD k 0 = x at *
      by_cases hx0 : 0 < x
      · have t0 : decide (0 < x) = true := by simpa using hx0
        have HX2 : Aside0 (coinsI (cs.take (k + 1)) = putL l x) := ⟨by rw [HX.out, if_pos hx0, HLE.out]⟩
        clear hx0
        go_wp2_with fail
        refine (put77_calls Al cl l x _ (Kd.R_reads' HS.out.1).2.2 hcl HLL.out).mono ?_
        rintro e w3 ⟨u3, rfl, hu3, hb3⟩
        obtain ⟨A3, c3, rfl, hc3, _⟩ := Kd.R_reads hu3
        have HU3 := Aside0.mk (Kd.R_lower hu3 HS.out.2.size)
        have HB3 := Aside0.mk (below_step HS.out.2 hb3)
        clear hu3 hb3
        go_wp2
        refine ⟨?rel, ?measure⟩
        case rel => exact ⟨k + 1, by omega, by go_num, ⟨by rw [HX2.out]; exact HU3.out, HB3.out⟩⟩
        case measure => simp [intOf]; omega
      · have t0 : decide (0 < x) = false := by simpa using hx0
        have HX2 : Aside0 (coinsI (cs.take (k + 1)) = l) := ⟨by rw [HX.out, if_neg hx0, HLE.out]⟩
        clear hx0
        go_wp2
        refine ⟨?rel, ?measure⟩
        case rel => exact ⟨k + 1, by omega, by go_num, ⟨by rw [HX2.out]; exact HS.out.1, HS.out.2⟩⟩
        case measure => simp [intOf]; omega
    · obtain rfl : k = cs.length := by omega
      rw [List.take_length] at HLE
      have HK : Aside0 (leastI cs most = if l.length < 2 then (if l.length = 1 then l.getD 0 0 else 0) else ((levelI l (most - 1)).take (2 * l.length - 2)).sum) := ⟨by unfold leastI; rw [← HLE.out]⟩
      by_cases h2 : l.length < 2
      · have t2 : decide ((l.length : Int) < 2) = true := by simp; omega
        have t2n : decide (l.length < 2) = true := by simp; omega
        by_cases h1 : l.length = 1
        · have t1 : (((l.length : Nat) : Int) == 1) = true := by simp; omega
          have t1n : (l.length == 1) = true := by simp; omega
          obtain ⟨ad, e1, hx⟩ := Kd.at_int (Kd.R_reads' HS.out.1).2.2 (0 : Int) (by omega) (by omega)
          subst e1
          have hrd : rd l (0 : Int) = l.getD 0 0 := rfl
          rw [hrd] at hx
          have HE : Aside0 (leastI cs most = l.getD 0 0) := ⟨by rw [HK.out, if_pos h2, if_pos h1]⟩
          have e0 : ad.add 0 = ad := by cases ad; rfl
          have hx' : wr.cell? ad = some (.int .i64 (l.getD 0 0)) := by rw [show (0 : Int).toNat = 0 from rfl, e0] at hx; exact hx
          clear hrd hx e0
          generalize l.getD 0 0 = x at *
          go_wp2
          go_ret
          exact ⟨by rw [HE.out]; rfl, HS.out.2⟩
        · have t1 : (((l.length : Nat) : Int) == 1) = false := by simp; omega
          have t1n : (l.length == 1) = false := by simp; omega
          have HE : Aside0 (leastI cs most = 0) := ⟨by rw [HK.out, if_pos h2, if_neg h1]⟩
          go_wp2
          go_ret
          exact ⟨by rw [HE.out]; rfl, HS.out.2⟩
      · have t2 : decide ((l.length : Int) < 2) = false := by simp; omega
        have t2n : decide (l.length < 2) = false := by simp; omega
        have HE : Aside0 (leastI cs most = ((levelI l (most - 1)).take (2 * l.length - 2)).sum) := ⟨by rw [HK.out, if_neg h2]⟩
        have HUP : Aside0 (upTo 2147483648 l) := ⟨by rw [HLE.out]; exact coinsI_upTo HR.out⟩
        obtain ⟨W1, hW1⟩ : ∃ x, x = wr := ⟨_, rfl⟩
        subst hW1
        have HCL := Aside0.mk (Kd.R_reads' HS.out.1).2.2
        go_wp2
        go_loopw [7, 8] (fun v lv w2 => ∃ k : Nat, k ≤ most - 1 ∧ lv = .int .i64 ((k + 1 : Nat) : Int) ∧ Aside0 (LvS W1 w2 v l k)) (fun _ lv _ => most - (intOf lv).toNat)
        case atStart => exact ⟨0, Nat.zero_le _, rfl, ⟨Al, cl, rfl, hcl, HCL.out, Below.refl _ _⟩⟩
        case round =>
          obtain ⟨k, hk, rfl, HL⟩ := hrel
          obtain ⟨AL, cL, hu, hcL, hCL, hb2⟩ := HL.out
          subst hu
          obtain ⟨L, hLe⟩ : ∃ L, L = levelI l k := ⟨_, rfl⟩
          rw [← hLe] at hcL hCL
          have HLE2 := Aside0.mk hLe
          have HLB : Aside0 (L.length ≤ 1024) := ⟨by rw [hLe]; have := levelI_le l k; have := HLL.out; omega⟩
          have HUL : Aside0 (upTo (2147483648 * 2 ^ k) L) := ⟨by rw [hLe]; exact upTo_level (by decide) HUP.out k⟩
          rw [← hLe]
          clear hLe HL
          have HB2 := Aside0.mk hb2
          have HCLL := Aside0.mk hCL
          clear hb2 hCL
          by_cases hlt : k + 1 < most
          · have tk : decide (((k + 1 : Nat) : Int) < (most : Int)) = true := by simp; omega
            have tkn : decide (k + 1 < most) = true := by simp; omega
            have tki : decide ((k : Int) + 1 < (most : Int)) = true := by simp; omega
            obtain ⟨W2, hW2⟩ : ∃ x, x = wr := ⟨_, rfl⟩
            subst hW2
            go_wp2
            go_loopw [9, 10] (fun v i w3 => ∃ i0 : Nat, i0 ≤ L.length ∧ i = .int .i64 (i0 : Int) ∧ Aside0 (∃ j, i0 = 2 * j ∧ PkS W2 w3 v L j)) (fun _ i _ => L.length + 2 - (intOf i).toNat)
            case atStart => exact ⟨0, Nat.zero_le _, rfl, ⟨0, rfl, by rw [List.take_zero]; exact Kd.R_nil _ _ _ _ _, Below.refl _ _⟩⟩
            case round =>
              obtain ⟨i0, hi0, rfl, HP0⟩ := hrel
              obtain ⟨j, hij, HP⟩ := HP0.out
              have HIJ := Aside0.mk hij
              obtain ⟨o2, ho2⟩ : ∃ o, o = (pairsI L).take j := ⟨_, rfl⟩
              have HO : Aside0 (Kd.R (Kd.int .i64) 3 wr W2.heap.size (fun _ => True) u9 o2 ∧ Below W2.heap.size W2 wr) := ⟨by rw [ho2]; exact HP⟩
              have HOE := Aside0.mk ho2
              have HOL : Aside0 (o2.length ≤ 1024) := ⟨by rw [ho2, List.length_take, pairsI_length]; have := HLB.out; omega⟩
              clear ho2 HP HP0 hij
              obtain ⟨Ap, cp, hu9, hcp, _⟩ := Kd.R_reads HO.out.1
              subst hu9
              have hlb : L.length ≤ 1024 := HLB.out
              by_cases hj2 : i0 + 1 < L.length
              · have HPT := Aside0.mk (pairs_take L j (by have := HIJ.out; omega))
                rw [← HIJ.out] at HPT
                have tjn : decide (i0 + 1 < L.length) = true := by simp; omega
                have tji : decide ((i0 : Int) + 1 < (L.length : Int)) = true := by simp; omega
                obtain ⟨ada, e1, hxa⟩ := Kd.at_int (Kd.C_below HCLL.out HO.out.2) (i0 : Int) (by omega) (by omega)
                obtain ⟨ada2, e2, hxb⟩ := Kd.at_int (Kd.C_below HCLL.out HO.out.2) ((i0 + 1 : Nat) : Int) (by omega) (by omega)
                subst e1
                cases e2
                have hra : rd L (i0 : Int) = L.getD i0 0 := by unfold rd; rw [Int.toNat_natCast]
                have hrb : rd L ((i0 + 1 : Nat) : Int) = L.getD (i0 + 1) 0 := by unfold rd; rw [Int.toNat_natCast]
                rw [Int.toNat_natCast, hra] at hxa
                rw [Int.toNat_natCast, hrb] at hxb
                clear hra hrb
                have hsm := sum_small HUL.out (by omega : k ≤ 14) i0 hj2
                generalize L.getD i0 0 = x at *
                generalize L.getD (i0 + 1) 0 = y at *
                obtain ⟨g1, g2, g3, g4⟩ := pk_facts hj2 hlb
                have hxa' : wr.drew.cell? (ada.add i0) = some (.int .i64 x) := hxa
                have hxb' : wr.drew.cell? ⟨ada.block, ada.off + (i0 + 1), none⟩ = some (.int .i64 y) := hxb
                clear hxa hxb
                obtain ⟨W3, hW3⟩ : ∃ x, x = wr := ⟨_, rfl⟩
                subst hW3
                go_wp2_with fail
                refine start_ (n := 14) (S := fun w' => w'.cell? (ada.add i0) = some (.int .i64 x) ∧ w'.cell? ⟨ada.block, ada.off + (i0 + 1), none⟩ = some (.int .i64 y)) (ds := [11, 12]) #[false, false, false, false, false, false, false, false, false, false, false, false, false, false] (by kernel_rfl) rfl rfl ⟨hxa', hxb'⟩ (fun hHeld => ?_)
                refine pure_ (i := 0) (N := some 52) (v := ?_) (a' := ?_) #[true, false, false, false, false, false, false, false, false, false, false, false, false, false] rfl rfl (by kernel_rfl) (fun _ _ _ h => h) (Or.inl ⟨by rfl, ?_⟩) ?_ ?_
                rotate_left
                · intro w'
                  go_simp
                  with_reducible rfl
                rotate_left
                · simp only [Act.put, List.setIfInBounds_toArray, List.set_cons_zero, List.set_cons_succ, i64_w, i32_w]
                  rfl
                refine pure_ (i := 1) (N := some 53) (v := ?_) (a' := ?_) #[true, true, false, false, false, false, false, false, false, false, false, false, false, false] rfl rfl (by kernel_rfl) (fun _ _ _ h => h) (Or.inl ⟨by rfl, ?_⟩) ?_ ?_
                rotate_left
                · intro w'
                  go_simp
                  with_reducible rfl
                rotate_left
                · simp only [Act.put, List.setIfInBounds_toArray, List.set_cons_zero, List.set_cons_succ, i64_w, i32_w]
                  rfl
                refine pure_ (i := 2) (N := some 54) (v := ?_) (a' := ?_) #[true, true, true, false, false, false, false, false, false, false, false, false, false, false] rfl rfl (by kernel_rfl) (fun _ _ _ h => h) (Or.inl ⟨by rfl, ?_⟩) ?_ ?_
                rotate_left
                · intro w'
                  go_simp
                  with_reducible rfl
                rotate_left
                · simp only [Act.put, List.setIfInBounds_toArray, List.set_cons_zero, List.set_cons_succ, i64_w, i32_w]
                  rfl
                refine pure_ (i := 3) (N := some 55) (v := ?_) (a' := ?_) #[true, true, true, true, false, false, false, false, false, false, false, false, false, false] rfl rfl (by kernel_rfl) (fun _ _ _ h => h) (Or.inl ⟨by rfl, ?_⟩) ?_ ?_
                rotate_left
                · intro w'
                  go_simp
                  with_reducible rfl
                rotate_left
                · simp only [Act.put, List.setIfInBounds_toArray, List.set_cons_zero, List.set_cons_succ, i64_w, i32_w]
                  rfl
                refine pure_ (i := 5) (N := some 57) (v := ?_) (a' := ?_) #[true, true, true, true, false, true, false, false, false, false, false, false, false, false] rfl rfl (by kernel_rfl) (fun _ _ _ h => h) (Or.inl ⟨by rfl, ?_⟩) ?_ ?_
                rotate_left
                · intro w'
                  go_simp
                  with_reducible rfl
                rotate_left
                · simp only [Act.put, List.setIfInBounds_toArray, List.set_cons_zero, List.set_cons_succ, i64_w, i32_w]
                  rfl
                refine pure_ (i := 6) (N := some 58) (v := ?_) (a' := ?_) #[true, true, true, true, false, true, true, false, false, false, false, false, false, false] rfl rfl (by kernel_rfl) (fun _ _ _ h => h) (Or.inl ⟨by rfl, ?_⟩) ?_ ?_
                rotate_left
                · intro w'
                  go_simp
                  with_reducible rfl
                rotate_left
                · simp only [Act.put, List.setIfInBounds_toArray, List.set_cons_zero, List.set_cons_succ, i64_w, i32_w]
                  rfl
                refine pure_ (i := 7) (N := some 59) (v := ?_) (a' := ?_) #[true, true, true, true, false, true, true, true, false, false, false, false, false, false] rfl rfl (by kernel_rfl) (fun _ _ _ h => h) (Or.inl ⟨by rfl, ?_⟩) ?_ ?_
                rotate_left
                · intro w'
                  go_simp
                  with_reducible rfl
                rotate_left
                · simp only [Act.put, List.setIfInBounds_toArray, List.set_cons_zero, List.set_cons_succ, i64_w, i32_w]
                  rfl
                refine pure_ (i := 8) (N := some 60) (v := ?_) (a' := ?_) #[true, true, true, true, false, true, true, true, true, false, false, false, false, false] rfl rfl (by kernel_rfl) (fun _ _ _ h => h) (Or.inl ⟨by rfl, ?_⟩) ?_ ?_
                rotate_left
                · intro w'
                  go_simp
                  with_reducible rfl
                rotate_left
                · simp only [Act.put, List.setIfInBounds_toArray, List.set_cons_zero, List.set_cons_succ, i64_w, i32_w]
                  rfl
                refine take_ (i := 4) (N := some 56) (v := ?_) (a' := ?_) #[true, true, true, true, true, true, true, true, true, false, false, false, false, false] rfl rfl (by kernel_rfl) (fun _ _ _ h => h) (Or.inl ⟨by rfl, ?_⟩) hHeld ?_ ?_
                rotate_left
                · rintro w' ⟨s0, s1⟩
                  go_simp
                  with_reducible rfl
                rotate_left
                · simp only [Act.put, List.setIfInBounds_toArray, List.set_cons_zero, List.set_cons_succ, i64_w, i32_w]
                  rfl
                refine take_ (i := 9) (N := some 61) (v := ?_) (a' := ?_) #[true, true, true, true, true, true, true, true, true, true, false, false, false, false] rfl rfl (by kernel_rfl) (fun _ _ _ h => h) (Or.inl ⟨by rfl, ?_⟩) hHeld ?_ ?_
                rotate_left
                · rintro w' ⟨s0, s1⟩
                  go_simp
                  with_reducible rfl
                rotate_left
                · simp only [Act.put, List.setIfInBounds_toArray, List.set_cons_zero, List.set_cons_succ, i64_w, i32_w]
                  rfl
                refine pure_ (i := 10) (N := some 62) (v := ?_) (a' := ?_) #[true, true, true, true, true, true, true, true, true, true, true, false, false, false] rfl rfl (by kernel_rfl) (fun _ _ _ h => h) (Or.inl ⟨by rfl, ?_⟩) ?_ ?_
                rotate_left
                · intro w'
                  go_simp
                  with_reducible rfl
                rotate_left
                · simp only [Act.put, List.setIfInBounds_toArray, List.set_cons_zero, List.set_cons_succ, i64_w, i32_w]
                  rfl
                refine last_ (i := 11) (N := some 63) #[true, true, true, true, true, true, true, true, true, true, true, true, false, false] rfl rfl (by kernel_rfl) (by decide) (fun K hK => ?_)
                refine value_ (w1 := ?_) (v := ?_) (by rfl) rfl ?_ ?_
                rotate_left 2
                · go_simp
                  constructor
                  · rfl
                  · rfl
                refine hK.out _ _ ?_
                clear hK K
                refine norm_ (a' := ?_) ?_ ?_
                rotate_left
                · show Act.put _ (some 63) _ = _
                  simp only [Act.put, List.setIfInBounds_toArray, List.set_cons_zero, List.set_cons_succ, i64_w, i32_w]
                  rfl
                refine last_ (i := 12) (N := some 64) #[true, true, true, true, true, true, true, true, true, true, true, true, true, false] rfl rfl (by kernel_rfl) (by decide) (fun K hK => ?_)
                refine Kd.R_append_step (Kd.int .i64) (w0 := W2) W2.heap.size (by rfl) _ _ 22 3 (.int .i64 0) 8 rfl Try.underlying22 infoQ8 rfl (by decide) (by decide) (.slice Ap o2.length cp) o2 _ [_] (fun _ => True) (fun _ => False) rfl rfl rfl (fun _ h => h.elim) (fun _ _ => trivial) (Kd.R_drew HO.out.1) (below_drew HO.out.2) HO.out.2.size (by have := HOL.out; omega) ?_
                intro v3 w3 hv3 hb3 hg3 hat3
                obtain ⟨A3, c3, rfl, hc3, _⟩ := Kd.R_reads hv3
                have HV3 := Aside0.mk hv3
                have HB3 := Aside0.mk hb3
                clear hv3 hb3 hg3 hat3
                refine hK.out _ _ ?_
                clear hK K
                refine norm_ (a' := ?_) ?_ ?_
                rotate_left
                · show Act.put _ (some 64) _ = _
                  simp only [Act.put, List.setIfInBounds_toArray, List.set_cons_zero, List.set_cons_succ, i64_w, i32_w]
                  rfl
                refine pure_ (i := 13) (N := some 9) (v := ?_) (a' := ?_) #[true, true, true, true, true, true, true, true, true, true, true, true, true, true] rfl rfl (by kernel_rfl) (fun _ _ _ h => h) (Or.inl ⟨by rfl, ?_⟩) ?_ ?_
                rotate_left
                · intro w'
                  go_simp
                  with_reducible rfl
                rotate_left
                · simp only [Act.put, List.setIfInBounds_toArray, List.set_cons_zero, List.set_cons_succ, i64_w, i32_w]
                  rfl
                refine done_ (by kernel_rfl) ?_
                go_wp2
                refine ⟨?rel, ?measure⟩
                case rel => exact ⟨i0 + 2, by omega, by go_num, ⟨j + 1, by have := HIJ.out; omega, by have h4 := HV3.out; rw [List.length_append] at h4; rw [HPT.out, ← HOE.out]; exact h4, HB3.out⟩⟩
                case measure => simp [intOf]; omega
              · have tjn : decide (i0 + 1 < L.length) = false := by simp; omega
                have tji : decide ((i0 : Int) + 1 < (L.length : Int)) = false := by simp; omega
                have HOA : Aside0 (o2 = pairsI L) := ⟨by rw [HOE.out]; exact List.take_of_length_le (by rw [pairsI_length]; have := HIJ.out; omega)⟩
                have HMG := Aside0.mk (merged78_calls Al Ap cl cp l o2 wr (Kd.C_below (Kd.C_below HCL.out HB2.out) HO.out.2) hcl (Kd.R_reads' HO.out.1).2.2 hcp (by have := HLL.out; have := HOL.out; omega))
                go_wp2_with (go_at_call 19; refine HMG.out.mono ?_; rintro e w4 ⟨u4, rfl, hu4, hb4⟩; obtain ⟨A4, c4, hv4, hc4, _⟩ := Kd.R_reads hu4; have HV4 := Aside0.mk hu4; have HB4 := Aside0.mk (HB2.out.trans ((HO.out.2.mono HB2.out.size).trans (hb4.mono (Nat.le_trans HB2.out.size HO.out.2.size)))); clear hu4 hb4; subst hv4)
                refine ⟨?rel, ?measure⟩
                case rel => exact ⟨k + 1, by omega, by go_num, ⟨A4, c4, by rw [levelI, ← HLE2.out, ← HOA.out], by rw [levelI, ← HLE2.out, ← HOA.out]; exact hc4, by rw [levelI, ← HLE2.out, ← HOA.out]; exact (Kd.R_reads' HV4.out).2.2, HB4.out⟩⟩
                case measure => simp [intOf]; omega
          · have tk : decide (((k + 1 : Nat) : Int) < (most : Int)) = false := by simp; omega
            have tkn : decide (k + 1 < most) = false := by simp; omega
            have tki : decide ((k : Int) + 1 < (most : Int)) = false := by simp; omega
            obtain rfl : most = k + 1 := by omega
            rw [show k + 1 - 1 = k from by omega, ← HLE2.out] at HE
            have HBW : Aside0 (Below w.heap.size w wr) := ⟨HS.out.2.trans (HB2.out.mono HS.out.2.size)⟩
            obtain ⟨W4, hW4⟩ : ∃ x, x = wr := ⟨_, rfl⟩
            subst hW4
            have hlb := HLB.out
            have hll := HLL.out
            go_wp2
            go_loopw [11, 12] (fun sm i w5 => ∃ q : Nat, q ≤ 2 * l.length - 2 ∧ q ≤ L.length ∧ i = .int .i64 (q : Int) ∧ sm = .int .i64 (L.take q).sum ∧ Aside0 (W4 = w5)) (fun _ i _ => 2 * l.length - (intOf i).toNat)
            case atStart => exact ⟨0, by omega, by omega, rfl, rfl, by first | exact ⟨rfl⟩ | exact ⟨trivial⟩⟩
            case round =>
              obtain ⟨q, hq1, hq2, rfl, rfl, hW⟩ := hrel
              have hW' := hW.out
              subst hW'
              clear hW
              by_cases h1 : q < 2 * l.length - 2
              · have t1 : decide ((q : Int) < 2 * (l.length : Int) - 2) = true := by simp; omega
                by_cases h2 : q < L.length
                · have t2 : decide ((q : Int) < (L.length : Int)) = true := by simp; omega
                  have t2n : decide (q < L.length) = true := by simp; omega
                  obtain ⟨ad, e1, hx⟩ := Kd.at_int HCLL.out (q : Int) (by omega) (by omega)
                  subst e1
                  have hrd : rd L (q : Int) = L.getD q 0 := by unfold rd; rw [Int.toNat_natCast]
                  rw [Int.toNat_natCast, hrd] at hx
                  clear hrd
                  obtain ⟨hs1, hs2⟩ := take_sum HUL.out (by omega : k ≤ 14) q h2 hlb
                  have HS1 := Aside0.mk hs1
                  clear hs1
                  generalize L.getD q 0 = x at *
                  generalize (L.take q).sum = sm at *
                  go_wp2
                  refine ⟨?rel, ?measure⟩
                  case rel => exact ⟨q + 1, by omega, by omega, by go_num, by rw [HS1.out], by first | exact ⟨rfl⟩ | exact ⟨trivial⟩⟩
                  case measure => simp [intOf]; omega
                · have t2 : decide ((q : Int) < (L.length : Int)) = false := by simp; omega
                  have t2n : decide (q < L.length) = false := by simp; omega
                  have HF : Aside0 (L.take q = L.take (2 * l.length - 2)) := ⟨by rw [List.take_of_length_le (by omega), List.take_of_length_le (by omega)]⟩
                  generalize hsm : (L.take q).sum = sm at *
                  have HSM := Aside0.mk hsm
                  clear hsm
                  go_wp2
                  go_ret
                  exact ⟨by rw [HE.out, ← HF.out, HSM.out]; rfl, HBW.out⟩
              · have t1 : decide ((q : Int) < 2 * (l.length : Int) - 2) = false := by simp; omega
                have HF : Aside0 (L.take q = L.take (2 * l.length - 2)) := ⟨by rw [show q = 2 * l.length - 2 from by omega]⟩
                generalize hsm : (L.take q).sum = sm at *
                have HSM := Aside0.mk hsm
                clear hsm
                go_wp2
                go_ret
                exact ⟨by rw [HE.out, ← HF.out, HSM.out]; rfl, HBW.out⟩
end Go.Proofs.Ytjajkgemjgehiaa.Hw
