import Derived.Test.YtjbcdfbgbocblaaDoorQrL
/- refs.Common, walked: the cells of both. -/
namespace Go.Proofs.YtjbcdfbgbocblaaDoor.CP
open Go.RowKit Go.Proofs.YtjbcdfbgbocblaaDoorW.PrintWords Go.Proofs.YtjbcdfbgbocblaaDoorW.PrintLast Go.Proofs.YtjbcdfbgbocblaaDoorW.PrintMore Go.Proofs.YtjbcdfbgbocblaaDoor.PH Go.Proofs.YtjbcdfbgbocblaaDoor.Hw
set_option linter.unusedVariables false
set_option linter.unusedSimpArgs false
/-- Own blocks, by a list. -/
structure BK (w0 : World) (L : List (Nat × Array Value × TypeId)) (w : World) : Prop where
  below : Below w0.heap.size w0 w
  at_ : ∀ (i : Nat) (b : Nat × Array Value × TypeId), L[i]? = some b → w.heap[b.1]? = some (.cells b.2.1 b.2.2 (0, 0)) ∧ w0.heap.size ≤ b.1
  apart : ∀ (i j : Nat) (b c : Nat × Array Value × TypeId), L[i]? = some b → L[j]? = some c → b.1 = c.1 → i = j
theorem BK.start (w : World) : BK w [] w := ⟨Below.refl _ _, fun i b h => (by simp at h), fun i j b c h => (by simp at h)⟩
theorem BK.drew {w0 w : World} {L : List (Nat × Array Value × TypeId)} (h : BK w0 L w) : BK w0 L w.drew := ⟨h.below.drew, h.at_, h.apart⟩
theorem BK.drewN {w0 w : World} {L : List (Nat × Array Value × TypeId)} (h : BK w0 L w) (n : Nat) : BK w0 L (w.drewN n) := ⟨pw_below_drewN h.below n, h.at_, h.apart⟩
theorem BK.go {w0 w w' : World} {L : List (Nat × Array Value × TypeId)} (h : BK w0 L w) (hb : Below w.heap.size w w') : BK w0 L w' :=
  ⟨h.below.trans (hb.mono h.below.size), fun i b hi => ⟨(hb.block _ (blk_lt (h.at_ i b hi).1)).trans (h.at_ i b hi).1, (h.at_ i b hi).2⟩, h.apart⟩
theorem BK.new {w0 w w' : World} {L : List (Nat × Array Value × TypeId)} (h : BK w0 L w) {g : Nat} {cs : Array Value} {t : TypeId} (hg : g = w.heap.size) (hx : w'.heap[g]? = some (.cells cs t (0, 0))) (hb : Below w.heap.size w w') : BK w0 (L ++ [(g, cs, t)]) w' := by
  have h1 := h.go hb
  have hs := h.below.size
  have lt : ∀ (i : Nat) (b : Nat × Array Value × TypeId), L[i]? = some b → b.1 < g := fun i b hi => by rw [hg]; exact blk_lt (h.at_ i b hi).1
  refine ⟨h1.below, fun i b hi => ?_, fun i j b c hi hj e => ?_⟩
  · rcases Nat.lt_or_ge i L.length with hl | hl
    · rw [List.getElem?_append_left hl] at hi; exact h1.at_ i b hi
    · rw [List.getElem?_append_right hl] at hi
      rcases Nat.eq_zero_or_pos (i - L.length) with z | z
      · rw [z] at hi; simp only [List.getElem?_cons_zero, Option.some.injEq] at hi; subst hi; exact ⟨hx, by simp only []; omega⟩
      · rw [List.getElem?_eq_none (by simp only [List.length_cons, List.length_nil]; omega)] at hi; cases hi
  · rcases Nat.lt_or_ge i L.length with hl | hl <;> rcases Nat.lt_or_ge j L.length with hm | hm
    · rw [List.getElem?_append_left hl] at hi; rw [List.getElem?_append_left hm] at hj; exact h.apart i j b c hi hj e
    · rw [List.getElem?_append_left hl] at hi; rw [List.getElem?_append_right hm] at hj
      have l1 := lt i b hi
      rcases Nat.eq_zero_or_pos (j - L.length) with z | z
      · rw [z] at hj; simp only [List.getElem?_cons_zero, Option.some.injEq] at hj; subst hj; simp only [] at e; omega
      · rw [List.getElem?_eq_none (by simp only [List.length_cons, List.length_nil]; omega)] at hj; cases hj
    · rw [List.getElem?_append_left hm] at hj; rw [List.getElem?_append_right hl] at hi
      have l1 := lt j c hj
      rcases Nat.eq_zero_or_pos (i - L.length) with z | z
      · rw [z] at hi; simp only [List.getElem?_cons_zero, Option.some.injEq] at hi; subst hi; simp only [] at e; omega
      · rw [List.getElem?_eq_none (by simp only [List.length_cons, List.length_nil]; omega)] at hi; cases hi
    · rw [List.getElem?_append_right hl] at hi; rw [List.getElem?_append_right hm] at hj
      have q1 := (List.getElem?_eq_some_iff.1 hi).1
      have q2 := (List.getElem?_eq_some_iff.1 hj).1
      simp only [List.length_cons, List.length_nil] at q1 q2
      omega
theorem BK.set {w0 w : World} {L : List (Nat × Array Value × TypeId)} (h : BK w0 L w) (i g : Nat) (cs cs' : Array Value) (t : TypeId) (hi : L[i]? = some (g, cs, t)) : BK w0 (L.set i (g, cs', t)) (w.setRow g cs') := by
  have hl := (List.getElem?_eq_some_iff.1 hi).1
  have a := h.at_ i _ hi
  refine ⟨bsr2 h.below a.2 _, fun j b hj => ?_, fun j k b c hj hk e => ?_⟩
  · rcases Nat.decEq i j with ne | rfl
    · rw [List.getElem?_set_ne ne] at hj
      have n2 : b.1 ≠ g := fun e => ne (h.apart i j _ b hi hj e.symm)
      exact ⟨(setRow_other w g b.1 cs' n2).trans (h.at_ j b hj).1, (h.at_ j b hj).2⟩
    · rw [List.getElem?_set_self hl] at hj
      obtain rfl := Option.some.inj hj
      exact ⟨setRow_heap _ _ _ _ _ _ a.1, a.2⟩
  · have q : ∀ (j : Nat) (b : Nat × Array Value × TypeId), (L.set i (g, cs', t))[j]? = some b → ∃ b', L[j]? = some b' ∧ b'.1 = b.1 := fun j b hj => by
      rcases Nat.decEq i j with ne | rfl
      · rw [List.getElem?_set_ne ne] at hj; exact ⟨b, hj, rfl⟩
      · rw [List.getElem?_set_self hl] at hj
        obtain rfl := Option.some.inj hj
        exact ⟨_, hi, rfl⟩
    obtain ⟨b', hb, eb⟩ := q j b hj
    obtain ⟨c', hc, ec⟩ := q k c hk
    exact h.apart j k b' c' hb hc (by rw [eb, ec, e])
theorem BK.put {w0 w : World} {L : List (Nat × Array Value × TypeId)} (h : BK w0 L w) (i g : Nat) (cs : Array Value) (t : TypeId) (hi : L[i]? = some (g, cs, t)) (k : Nat) (v : Value) (cs' : Array Value) (hc : cs.setIfInBounds k v = cs') : BK w0 (L.set i (g, cs', t)) (w.setCell ⟨g, k, none⟩ v) := by
  have hl := (List.getElem?_eq_some_iff.1 hi).1
  have a := h.at_ i _ hi
  refine ⟨h.below.setCell a.2 _, fun j b hj => ?_, fun j m b c hj hk e => ?_⟩
  · rcases Nat.decEq i j with ne | rfl
    · rw [List.getElem?_set_ne ne] at hj
      have n2 : b.1 ≠ g := fun e => ne (h.apart i j _ b hi hj e.symm)
      exact ⟨(Below.heap_setCell w ⟨g, k, none⟩ v b.1 n2).trans (h.at_ j b hj).1, (h.at_ j b hj).2⟩
    · rw [List.getElem?_set_self hl] at hj
      obtain rfl := Option.some.inj hj
      exact ⟨blk_put a.1 k v hc, a.2⟩
  · have q : ∀ (j : Nat) (b : Nat × Array Value × TypeId), (L.set i (g, cs', t))[j]? = some b → ∃ b', L[j]? = some b' ∧ b'.1 = b.1 := fun j b hj => by
      rcases Nat.decEq i j with ne | rfl
      · rw [List.getElem?_set_ne ne] at hj; exact ⟨b, hj, rfl⟩
      · rw [List.getElem?_set_self hl] at hj
        obtain rfl := Option.some.inj hj
        exact ⟨_, hi, rfl⟩
    obtain ⟨b', hb, eb⟩ := q j b hj
    obtain ⟨c', hc, ec⟩ := q m c hk
    exact h.apart j m b' c' hb hc (by rw [eb, ec, e])
/-- A contract that leaves own blocks. -/
theorem BK.on {f : FuncId} {args : Array Value} {e0 : Ending} {w0 : World} (h : ∀ w1, Calls Tryd.prog f args w1 fun e w' => e = e0 ∧ Below w1.heap.size w1 w') :
    ∀ L w1, BK w0 L w1 → Calls Tryd.prog f args w1 fun e w' => e = e0 ∧ Aside0 (BK w0 L w') := fun L w1 hj => (h w1).mono fun e w' hq => ⟨hq.1, ⟨hj.go hq.2⟩⟩
abbrev co (r q : Int) (u v : Bool) : Array Value := #[.int .i64 r, .int .i64 q, .bool u, .bool v]
abbrev zRf : Array Value := #[.string ByteArray.empty, .string ByteArray.empty, .bool false, .bool false, .int .i64 0, .int .i64 0, .bool false, .bool false, .int .i64 0, .int .i64 0, .bool false, .bool false]
def top (x : Rf) : Int := if x.e = true ∧ x.r2 < x.r then x.r2 else x.r
def lef (x : Rf) : Int := if x.e = true ∧ x.q2 < x.q then x.q2 else x.q
def bot (x : Rf) : Int := if x.e = true then (if x.r2 < x.r then x.r else x.r2) else x.r
def rig (x : Rf) : Int := if x.e = true then (if x.q2 < x.q then x.q else x.q2) else x.q
theorem ends_is (x : Rf) : ∃ u v u' v', refs_ends.f x.s x.t x.f x.e x.r x.q x.u x.v x.r2 x.q2 x.u2 x.v2 = some (top x, lef x, u, v, bot x, rig x, u', v') := by
  obtain ⟨s, t, f, e, r, q, u, v, r2, q2, u2, v2⟩ := x
  cases e <;> by_cases h1 : r2 < r <;> by_cases h2 : q2 < q <;> simp [refs_ends.f, refs_Norm.f, top, lef, bot, rig, h1, h2]
theorem ends_on (x : Rf) : ∃ u v u' v', ∀ w1, Calls Tryd.prog 26 #[.agg x.cs] w1 fun e w' => e = .returned (.tuple #[.agg (co (top x) (lef x) u v), .agg (co (bot x) (rig x) u' v')]) ∧ Below w1.heap.size w1 w' := by
  obtain ⟨u, v, u', v', h⟩ := ends_is x
  exact ⟨u, v, u', v', fun w1 => refs_ends.calls _ _ _ _ _ _ _ _ _ _ _ _ _ _ _ _ _ _ _ _ w1 h⟩
theorem cof {w : World} {g : Nat} {a b c d : Value} {t : TypeId} (h : w.heap[g]? = some (.cells #[a, b, c, d] t (0, 0))) : w.cell? ⟨g, 0, none⟩ = some a ∧ w.cell? ⟨g, 1, none⟩ = some b ∧ w.cell? ⟨g, 2, none⟩ = some c ∧ w.cell? ⟨g, 3, none⟩ = some d :=
  ⟨(blk_cell h 0).trans rfl, (blk_cell h 1).trans rfl, (blk_cell h 2).trans rfl, (blk_cell h 3).trans rfl⟩
theorem rf_end {fn : Func} {p u : Tmp} {R : Ending → World → Prop} {tmps : Array Value} {W : World} {g : Nat} {x0 x1 x2 x3 x4 x5 x6 x7 x8 x9 x10 x11 : Value} {b : Bool} (hr : fn.results = #[.cell p 32, .tmp u]) (hp : tmps.getD p undef = .pointer (some ⟨g, 0, none⟩)) (hb : tmps.getD u undef = .bool b) (hg : W.heap[g]? = some (.cells #[x0, x1, x2, x3, x4, x5, x6, x7, x8, x9, x10, x11] 32 (0, 0)))
    (hR : R (.returned (.tuple #[.agg #[x0, x1, x2, x3, x4, x5, x6, x7, x8, x9, x10, x11], .bool b])) W) : bodyPost Tryd.prog fn R .ret { tmps := tmps, defers := [] } W := by
  refine bodyPost_ret (v := .tuple #[.agg #[x0, x1, x2, x3, x4, x5, x6, x7, x8, x9, x10, x11], .bool b]) ?_ rfl hR
  have := results_ct (P := Tryd.prog) (fn := fn) (p := p) (u := u) (ty := 32) hr tmps W g 32 #[x0, x1, x2, x3, x4, x5, x6, x7, x8, x9, x10, x11] (0, 0) _ hp hg Tryd.underlying32 rfl (by kernel_rfl)
  rw [hb] at this
  exact this
end Go.Proofs.YtjbcdfbgbocblaaDoor.CP
