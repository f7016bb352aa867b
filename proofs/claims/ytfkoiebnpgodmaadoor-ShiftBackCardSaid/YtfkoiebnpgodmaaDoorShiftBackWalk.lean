import Derived.Test.YtfkoiebnpgodmaaDoorShB
/- What comes and goes leaves all as it was. -/
namespace Go.Proofs.YtfkoiebnpgodmaaDoor.Hw
open Go.RowKit Go.Proofs.YtfkoiebnpgodmaaDoorW.PrintWords Go.Proofs.YtfkoiebnpgodmaaDoorW.PrintLast Go.Proofs.YtfkoiebnpgodmaaDoorW.PrintMore Go.Proofs.YtfkoiebnpgodmaaDoor.PH Go.Proofs.YtfkoiebnpgodmaaDoor.CP Go.Proofs.YtfkoiebnpgodmaaDoor.Op
set_option linter.unusedVariables false
set_option linter.unusedSimpArgs false
theorem span_up (sh nm : ByteArray) (a n lo hi : Int) (w : World) (ha : 0 ≤ a) (hn : 1 ≤ n) (han : a + n ≤ 1048576) (h0 : 0 ≤ lo) (h1 : lo ≤ hi) (h2 : hi < 1048576) (h3 : a ≤ hi → hi + n < 1048576) : Calls Tryd.prog 57 #[.int .i64 lo, .int .i64 hi, shA 1 sh a n nm] w fun e w' => e = .returned (.tuple #[.int .i64 (upI a n lo), .int .i64 (upI a n hi), .bool true]) ∧ Below w.heap.size w w' := by
  unfold upI
  by_cases g : a ≤ hi
  · by_cases g' : a ≤ lo
    · rw [if_pos g, if_pos g']; exact span_up2 sh nm a n lo hi w ha hn han h0 h1 g' (h3 g)
    · rw [if_pos g, if_neg g']; exact span_up1 sh nm a n lo hi w ha hn han h0 h1 (by omega) g (h3 g)
  · rw [if_neg g, if_neg (by omega)]; exact span_up0 sh nm a n lo hi w ha hn han h0 h1 (by omega)
theorem span_dn (sh nm : ByteArray) (a n lo hi : Int) (w : World) (ha : 0 ≤ a) (hn : 1 ≤ n) (han : a + n ≤ 1048576) (h0 : 0 ≤ lo) (h1 : lo ≤ hi) (h2 : hi < 1048576) (h3 : a ≤ hi → hi + n < 1048576) : Calls Tryd.prog 57 #[.int .i64 (upI a n lo), .int .i64 (upI a n hi), shA 2 sh a n nm] w fun e w' => e = .returned (.tuple #[.int .i64 lo, .int .i64 hi, .bool true]) ∧ Below w.heap.size w w' := by
  unfold upI
  by_cases g : a ≤ hi
  · by_cases g' : a ≤ lo
    · rw [if_pos g, if_pos g']
      have h := span_dn2 sh nm a n (lo + n) (hi + n) w ha hn han (by omega) (by omega) (by omega) (h3 g)
      rw [show lo + n - n = lo from by omega, show hi + n - n = hi from by omega] at h; exact h
    · rw [if_pos g, if_neg g']
      have h := span_dn1 sh nm a n lo (hi + n) w ha hn han h0 (by omega) (by omega) (by omega) (h3 g)
      rw [show hi + n - n = hi from by omega] at h; exact h
  · rw [if_neg g, if_neg (by omega)]; exact span_dn0 sh nm a n lo hi w ha hn han h0 h1 (by omega)
theorem one_up (sh nm : ByteArray) (a n r : Int) (w : World) (ha : 0 ≤ a) (hn : 1 ≤ n) (han : a + n ≤ 1048576) (h0 : 0 ≤ r) (h2 : r < 1048576) (h3 : a ≤ r → r + n < 1048576) : Calls Tryd.prog 30 #[.int .i64 r, shA 1 sh a n nm] w fun e w' => e = .returned (.tuple #[.int .i64 (upI a n r), .bool true]) ∧ Below w.heap.size w w' := by
  obtain ⟨K, v, hf, hv⟩ := lone_is 1 r sh a n nm 1048576 (by omega) (by omega) ⟨h0, h2⟩ ha hn han
  have e : oneI 1 a n 1048576 r = some (upI a n r) := by
    unfold oneI upI
    by_cases g : r < a
    · rw [if_pos g, if_neg (by omega)]
    · rw [if_neg g, if_pos (by omega), if_pos (by omega), if_pos (by omega)]
  rw [e] at hf hv
  rw [hv _ rfl] at hf
  exact shift_one.calls K r 1 sh a n nm (upI a n r) true w hf
theorem one_dn (sh nm : ByteArray) (a n r : Int) (w : World) (ha : 0 ≤ a) (hn : 1 ≤ n) (han : a + n ≤ 1048576) (h0 : 0 ≤ r) (h2 : r < 1048576) (h3 : a ≤ r → r + n < 1048576) : Calls Tryd.prog 30 #[.int .i64 (upI a n r), shA 2 sh a n nm] w fun e w' => e = .returned (.tuple #[.int .i64 r, .bool true]) ∧ Below w.heap.size w w' := by
  have hu : 0 ≤ upI a n r ∧ upI a n r < 1048576 := by unfold upI; split <;> omega
  obtain ⟨K, v, hf, hv⟩ := lone_is 2 (upI a n r) sh a n nm 1048576 (by omega) (by omega) hu ha hn han
  have e : oneI 2 a n 1048576 (upI a n r) = some r := by
    unfold oneI upI
    by_cases g : a ≤ r
    · rw [if_pos g, if_neg (by omega), if_neg (by omega), if_neg (by omega), show r + n - n = r from by omega]
    · rw [if_neg g, if_pos (by omega)]
  rw [e] at hf hv
  rw [hv _ rfl] at hf
  exact shift_one.calls K (upI a n r) 2 sh a n nm r true w hf
theorem chk_same (a n : Int) (len : Nat) (iS iN : Option Nat) (ok : Bool) : chkI 2 a n len iS iN ok = chkI 1 a n len iS iN ok := by
  unfold chkI; simp
theorem corB_iff (r q : Int) : corB r q = true ↔ 0 ≤ r ∧ r < 1048576 ∧ 0 ≤ q ∧ q < 1024 := by unfold corB; simp
/-- A reference under rows that come, and go again. -/
theorem ref_back (A : Option Addr) (c : Nat) (l : List ByteArray) (sh : ByteArray) (a n : Int) (nm own : ByteArray) (x : Rf) (hl : l.length ≤ 140737488351232) (hG : Small l) (h1 : sh.size ≤ 140737488351232) (h2 : nm.size ≤ 140737488351232) (h3 : own.size ≤ 140737488351232) (hs : x.s.size ≤ 140737488351232) (ht : x.t.size ≤ 140737488351232)
    (ha : -9223372036854775808 ≤ a ∧ a ≤ 9223372036854775807) (hn : -9223372036854775808 ≤ n ∧ n ≤ 9223372036854775807) (hz : chkI 1 a n l.length (fnd l sh) (fnd l nm) (nmOK nm) = 0) (hx : okR x) (hc : a ≤ max x.r x.r2 → max x.r x.r2 + n < 1048576) :
    ∃ y : Rf, (∀ w, ChW w → Kd.C Kd.string w A l.length l → Calls Tryd.prog 15 #[.slice A l.length c, shA 1 sh a n nm, .string own, .agg x.cs] w fun e w' => e = .returned (.tuple #[.agg y.cs, .bool true]) ∧ Below w.heap.size w w') ∧
      (∀ w, ChW w → Kd.C Kd.string w A l.length l → Calls Tryd.prog 15 #[.slice A l.length c, shA 2 sh a n nm, .string own, .agg y.cs] w fun e w' => e = .returned (.tuple #[.agg x.cs, .bool true]) ∧ Below w.heap.size w w') := by
  have hz2 : chkI 2 a n l.length (fnd l sh) (fnd l nm) (nmOK nm) = 0 := by rw [chk_same]; exact hz
  obtain ⟨k1, k2, k3, _⟩ := chk_ok hz
  obtain ⟨n1, a0, an⟩ := k3 (by omega)
  by_cases ht0 : x.t.size = 0
  · cases hal : alk (shOf x own) sh with
    | false => exact ⟨x, fun w hC hr => ref_off A c l 1 sh a n nm own x w hC hr hl hG h1 h2 h3 hs ht ha hn (by omega) hz hx ht0 hal, fun w hC hr => ref_off A c l 2 sh a n nm own x w hC hr hl hG h1 h2 h3 hs ht ha hn (by omega) hz2 hx ht0 hal⟩
    | true =>
      have hx0 := hx
      obtain ⟨o1, o2, o3, o4, o5, o6⟩ := hx
      have ho4 := (corB_iff _ _).1 o4
      cases he : x.e with
      | false =>
        obtain ⟨g1, g2, g3, g4, g5⟩ := o6 he
        have hup : 0 ≤ upI a n x.r ∧ upI a n x.r < 1048576 := by unfold upI; split <;> omega
        obtain ⟨s, t, f, e, r, q, u, v, r2, q2, u2, v2⟩ := x
        simp only [] at *
        subst he
        have hy : okR ⟨s, t, f, false, upI a n r, q, u, v, r2, q2, u2, v2⟩ := ⟨o1, o2, o3, (corB_iff _ _).2 ⟨hup.1, hup.2, ho4.2.2⟩, (fun h => by cases h), o6⟩
        have hH : ∀ (W : World), _ := fun W => one_up sh nm a n r W a0 n1 an ho4.1 ho4.2.1 (by intro g; omega)
        have hD : ∀ (W : World), _ := fun W => one_dn sh nm a n r W a0 n1 an ho4.1 ho4.2.1 (by intro g; omega)
        exact ⟨⟨s, t, f, false, upI a n r, q, u, v, r2, q2, u2, v2⟩,
          fun w hC hr => ref_line A c l 1 sh a n nm own _ w hC hr hl hG h1 h2 h3 hs ht ha hn (by omega) hz hx0 ht0 hal ⟨s, t, f, false, upI a n r, q, u, v, r2, q2, u2, v2⟩ (fun W => line_one s t f r q u v r2 q2 u2 v2 1 sh a n nm W (by omega) (upI a n r) 0 hH),
          fun w hC hr => ref_line A c l 2 sh a n nm own _ w hC hr hl hG h1 h2 h3 hs ht ha hn (by omega) hz2 hy ht0 hal ⟨s, t, f, false, r, q, u, v, r2, q2, u2, v2⟩ (fun W => line_one s t f (upI a n r) q u v r2 q2 u2 v2 2 sh a n nm W (by omega) r 0 hD)⟩
      | true =>
        have ho5 := (corB_iff _ _).1 (o5 he)
        have hup : 0 ≤ upI a n x.r ∧ upI a n x.r < 1048576 := by unfold upI; split <;> omega
        have hup2 : 0 ≤ upI a n x.r2 ∧ upI a n x.r2 < 1048576 := by unfold upI; split <;> omega
        obtain ⟨s, t, f, e, r, q, u, v, r2, q2, u2, v2⟩ := x
        simp only [] at *
        subst he
        have hy : okR ⟨s, t, f, true, upI a n r, q, u, v, upI a n r2, q2, u2, v2⟩ := ⟨o1, o2, o3, (corB_iff _ _).2 ⟨hup.1, hup.2, ho4.2.2⟩, fun _ => (corB_iff _ _).2 ⟨hup2.1, hup2.2, ho5.2.2⟩, (fun h => by cases h)⟩
        by_cases hle : r ≤ r2
        · have hH : ∀ (W : World), _ := fun W => span_up sh nm a n r r2 W a0 n1 an ho4.1 hle ho5.2.1 (by intro g; omega)
          have hD : ∀ (W : World), _ := fun W => span_dn sh nm a n r r2 W a0 n1 an ho4.1 hle ho5.2.1 (by intro g; omega)
          exact ⟨⟨s, t, f, true, upI a n r, q, u, v, upI a n r2, q2, u2, v2⟩,
            fun w hC hr => ref_line A c l 1 sh a n nm own _ w hC hr hl hG h1 h2 h3 hs ht ha hn (by omega) hz hx0 ht0 hal ⟨s, t, f, true, upI a n r, q, u, v, upI a n r2, q2, u2, v2⟩ (fun W => line_up s t f r q u v r2 q2 u2 v2 1 sh a n nm W (by omega) hle (upI a n r) (upI a n r2) hH),
            fun w hC hr => ref_line A c l 2 sh a n nm own _ w hC hr hl hG h1 h2 h3 hs ht ha hn (by omega) hz2 hy ht0 hal ⟨s, t, f, true, r, q, u, v, r2, q2, u2, v2⟩ (fun W => line_up s t f (upI a n r) q u v (upI a n r2) q2 u2 v2 2 sh a n nm W (by omega) (by unfold upI; repeat' split <;> omega) r r2 hD)⟩
        · have hH : ∀ (W : World), _ := fun W => span_up sh nm a n r2 r W a0 n1 an ho5.1 (by omega) ho4.2.1 (by intro g; omega)
          have hD : ∀ (W : World), _ := fun W => span_dn sh nm a n r2 r W a0 n1 an ho5.1 (by omega) ho4.2.1 (by intro g; omega)
          exact ⟨⟨s, t, f, true, upI a n r, q, u, v, upI a n r2, q2, u2, v2⟩,
            fun w hC hr => ref_line A c l 1 sh a n nm own _ w hC hr hl hG h1 h2 h3 hs ht ha hn (by omega) hz hx0 ht0 hal ⟨s, t, f, true, upI a n r, q, u, v, upI a n r2, q2, u2, v2⟩ (fun W => line_dn s t f r q u v r2 q2 u2 v2 1 sh a n nm W (by omega) (by omega) (upI a n r) (upI a n r2) hH),
            fun w hC hr => ref_line A c l 2 sh a n nm own _ w hC hr hl hG h1 h2 h3 hs ht ha hn (by omega) hz2 hy ht0 hal ⟨s, t, f, true, r, q, u, v, r2, q2, u2, v2⟩ (fun W => line_dn s t f (upI a n r) q u v (upI a n r2) q2 u2 v2 2 sh a n nm W (by omega) (by unfold upI; repeat' split <;> omega) r r2 hD)⟩
  · exact ⟨x, fun w hC hr => ref_to A c l 1 sh a n nm own x w hC hr hl hG h1 h2 h3 hs ht ha hn (by omega) hz hx (by omega), fun w hC hr => ref_to A c l 2 sh a n nm own x w hC hr hl hG h1 h2 h3 hs ht ha hn (by omega) hz2 hx (by omega)⟩
end Go.Proofs.YtfkoiebnpgodmaaDoor.Hw
/- What comes and goes leaves all as it was: the law ShiftBack, walked. -/
namespace Go.Proofs.YtfkoiebnpgodmaaDoor.Hw
open Go.RowKit Go.Proofs.YtfkoiebnpgodmaaDoorW.PrintWords Go.Proofs.YtfkoiebnpgodmaaDoorW.PrintLast Go.Proofs.YtfkoiebnpgodmaaDoorW.PrintMore Go.Proofs.YtfkoiebnpgodmaaDoor.PH Go.Proofs.YtfkoiebnpgodmaaDoor.CP Go.Proofs.YtfkoiebnpgodmaaDoor.Op
set_option linter.unusedVariables false
set_option linter.unusedSimpArgs false
theorem cell_back {a n : Int} {len : Nat} {iS iN : Option Nat} {ok : Bool} {s r q s' r' q' : Int} (h : cellI 1 a n len iS iN ok s r q = some (s', r', q')) : cellI 2 a n len iS iN ok s' r' q' = some (s, r, q) := by
  unfold cellI at h ⊢
  by_cases hb : chkI 1 a n len iS iN ok = 0 ∧ 0 ≤ s ∧ s < (len : Int) ∧ 0 ≤ r ∧ r < 1048576 ∧ 0 ≤ q ∧ q < 1024
  · rw [if_pos hb] at h
    obtain ⟨b0, b1, b2, b3, b4, b5, b6⟩ := hb
    obtain ⟨k1, k2, k3, _⟩ := chk_ok b0
    obtain ⟨n1, a0, an⟩ := k3 (by omega)
    have b0' : chkI 2 a n len iS iN ok = 0 := by rw [chk_same]; exact b0
    unfold goI at h
    rw [if_neg (by omega), if_neg (by omega), if_neg (by omega)] at h
    by_cases hs : (1 : Int) = 8 ∨ ¬ s = ((iS.getD 0 : Nat) : Int)
    · rw [if_pos hs] at h
      injection h with h; injection h with e1 h; injection h with e2 e3
      subst e1 e2 e3
      rw [if_pos ⟨b0', b1, b2, b3, b4, b5, b6⟩]
      unfold goI
      rw [if_neg (by omega), if_neg (by omega), if_neg (by omega), if_pos (by omega)]
    · rw [if_neg hs, if_pos (by omega)] at h
      unfold oneI at h
      by_cases g : r < a
      · rw [if_pos g] at h
        injection h with h; injection h with e1 h; injection h with e2 e3
        subst e1 e2 e3
        rw [if_pos ⟨b0', b1, b2, b3, b4, b5, b6⟩]
        unfold goI oneI
        rw [if_neg (by omega), if_neg (by omega), if_neg (by omega), if_neg (by omega), if_pos (by omega), if_pos g]; rfl
      · rw [if_neg g, if_pos (by omega)] at h
        by_cases g' : r + n < 1048576
        · rw [if_pos g'] at h
          injection h with h; injection h with e1 h; injection h with e2 e3
          subst e1 e2 e3
          rw [if_pos ⟨b0', b1, b2, by omega, by omega, b5, b6⟩]
          unfold goI oneI
          rw [if_neg (by omega), if_neg (by omega), if_neg (by omega), if_neg (by omega), if_pos (by omega), if_neg (by omega), if_neg (by omega), if_neg (by omega), show r + n - n = r from by omega]; rfl
        · rw [if_neg g'] at h; cases h
  · rw [if_neg hb] at h; cases h
theorem norm_is (x : Rf) : ∃ m : Rf, gridironref11_Norm.f x.s x.t x.f x.e x.r x.q x.u x.v x.r2 x.q2 x.u2 x.v2 = some (m.s, m.t, m.f, m.e, m.r, m.q, m.u, m.v, m.r2, m.q2, m.u2, m.v2) ∧ max m.r m.r2 = max x.r x.r2 := by
  unfold gridironref11_Norm.f
  by_cases he : x.e = true
  · rw [if_pos he]
    by_cases g : x.r > x.r2 <;> by_cases g' : x.q > x.q2
    · exact ⟨⟨x.s, x.t, x.f, x.e, x.r2, x.q2, x.u2, x.v2, x.r, x.q, x.u, x.v⟩, by rw [if_pos g, if_pos g'], by simp only []; omega⟩
    · exact ⟨⟨x.s, x.t, x.f, x.e, x.r2, x.q, x.u2, x.v, x.r, x.q2, x.u, x.v2⟩, by rw [if_pos g, if_neg g'], by simp only []; omega⟩
    · exact ⟨⟨x.s, x.t, x.f, x.e, x.r, x.q2, x.u, x.v2, x.r2, x.q, x.u2, x.v⟩, by rw [if_neg g, if_pos g'], rfl⟩
    · exact ⟨x, by rw [if_neg g, if_neg g'], rfl⟩
  · exact ⟨x, by rw [if_neg he], rfl⟩
/-- Behind a law's begin: the case, the reference, the cell and the shift back lie boxed; the names are read; the tables hold. -/
structure BJ (w0 : World) (A : Option Addr) (l : List ByteArray) (c : Nat) (sh : ByteArray) (a n : Int) (nm own : ByteArray) (x : Rf) (s r q : Int) (w : World) : Prop where
  below : Below w0.heap.size w0 w
  box0 : w.heap[w0.heap.size]? = some (.cells #[.slice A l.length c, .int .i64 1, .string sh, .int .i64 a, .int .i64 n, .string nm, .string own] 26 (0, 0))
  box1 : w.heap[w0.heap.size + 1]? = some (.cells x.cs 37 (0, 0))
  box2 : w.heap[w0.heap.size + 1 + 1]? = some (.cells #[.int .i64 s, .int .i64 r, .int .i64 q] 28 (0, 0))
  box3 : w.heap[w0.heap.size + 1 + 1 + 1]? = some (.cells (shC 2 sh a n nm) 24 (0, 0))
  row : Kd.C Kd.string w A l.length l
  tabs : ChW w
section
variable {w0 w w' : World} {A : Option Addr} {l : List ByteArray} {c : Nat} {sh : ByteArray} {a n : Int} {nm own : ByteArray} {x : Rf} {s r q : Int}
theorem BJ.go (h : BJ w0 A l c sh a n nm own x s r q w) (hb : Below w.heap.size w w') : BJ w0 A l c sh a n nm own x s r q w' :=
  ⟨h.below.trans (hb.mono h.below.size), (hb.block _ (blk_lt h.box0)).trans h.box0, (hb.block _ (blk_lt h.box1)).trans h.box1, (hb.block _ (blk_lt h.box2)).trans h.box2, (hb.block _ (blk_lt h.box3)).trans h.box3, Kd.C_below h.row hb, h.tabs.go hb⟩
theorem BJ.alloc (h : BJ w0 A l c sh a n nm own x s r q w) (o : Obj) : BJ w0 A l c sh a n nm own x s r q (w.alloc o) := h.go ((Below.refl _ _).alloc (Nat.le_refl _) _)
theorem case7 {g : Nat} (h : w.heap[g]? = some (.cells #[.slice A l.length c, .int .i64 1, .string sh, .int .i64 a, .int .i64 n, .string nm, .string own] 26 (0, 0))) : w.cell? ⟨g, 0, none⟩ = some (.slice A l.length c) ∧ w.cell? ⟨g, 1, none⟩ = some (.int .i64 1) ∧ w.cell? ⟨g, 2, none⟩ = some (.string sh) ∧ w.cell? ⟨g, 3, none⟩ = some (.int .i64 a) ∧ w.cell? ⟨g, 4, none⟩ = some (.int .i64 n) ∧ w.cell? ⟨g, 5, none⟩ = some (.string nm) ∧ w.cell? ⟨g, 6, none⟩ = some (.string own) :=
  ⟨(blk_cell h 0).trans rfl, (blk_cell h 1).trans rfl, (blk_cell h 2).trans rfl, (blk_cell h 3).trans rfl, (blk_cell h 4).trans rfl, (blk_cell h 5).trans rfl, (blk_cell h 6).trans rfl⟩
theorem BJ.start (hC : ChW w0) (hr : Kd.C Kd.string w0 A l.length l) : BJ w0 A l c sh a n nm own x s r q ((((w0.alloc (.cells #[.slice A l.length c, .int .i64 1, .string sh, .int .i64 a, .int .i64 n, .string nm, .string own] 26)).alloc (.cells x.cs 37)).alloc (.cells #[.int .i64 s, .int .i64 r, .int .i64 q] 28)).alloc (.cells (shC 2 sh a n nm) 24)) := by
  have z : ∀ (w : World) (o : Obj), (w.alloc o).heap.size = w.heap.size + 1 := fun w o => Array.size_push ..
  have b : Below w0.heap.size w0 ((((w0.alloc (.cells #[.slice A l.length c, .int .i64 1, .string sh, .int .i64 a, .int .i64 n, .string nm, .string own] 26)).alloc (.cells x.cs 37)).alloc (.cells #[.int .i64 s, .int .i64 r, .int .i64 q] 28)).alloc (.cells (shC 2 sh a n nm) 24)) := ((((Below.refl w0.heap.size w0).alloc (Nat.le_refl _) _).alloc (by rw [z]; omega) _).alloc (by rw [z, z]; omega) _).alloc (by rw [z, z, z]; omega) _
  refine ⟨b, blk_alloc (blk_alloc (blk_alloc (heap_alloc_new w0 _) _) _) _, blk_alloc (blk_alloc ?_ _) _, blk_alloc ?_ _, ?_, Kd.C_below hr b, hC.go b⟩
  · rw [← z w0 (.cells #[.slice A l.length c, .int .i64 1, .string sh, .int .i64 a, .int .i64 n, .string nm, .string own] 26)]; exact heap_alloc_new _ _
  · rw [← z w0 (.cells #[.slice A l.length c, .int .i64 1, .string sh, .int .i64 a, .int .i64 n, .string nm, .string own] 26), ← z _ (.cells x.cs 37)]; exact heap_alloc_new _ _
  · rw [← z w0 (.cells #[.slice A l.length c, .int .i64 1, .string sh, .int .i64 a, .int .i64 n, .string nm, .string own] 26), ← z _ (.cells x.cs 37), ← z _ (.cells #[.int .i64 s, .int .i64 r, .int .i64 q] 28)]; exact heap_alloc_new _ _
theorem BJ.on {f : FuncId} {args : Array Value} {R : Ending → Prop} (h : ∀ w, BJ w0 A l c sh a n nm own x s r q w → Calls Tryd.prog f args w fun e w' => R e ∧ Below w.heap.size w w') :
    ∀ w, BJ w0 A l c sh a n nm own x s r q w → Calls Tryd.prog f args w fun e w' => R e ∧ Aside0 (Below w.heap.size w w') := fun w hj =>
  (h w hj).mono fun e w' ⟨h1, h2⟩ => ⟨h1, ⟨h2⟩⟩
end
set_option maxRecDepth 100000 in
set_option maxHeartbeats 16000000 in
theorem back_bad (A : Option Addr) (c : Nat) (l : List ByteArray) (k0 : Int) (sh : ByteArray) (a n : Int) (nm own : ByteArray) (x : Rf) (s r q : Int) (w : World) (hC : ChW w) (hr : Kd.C Kd.string w A l.length l) (hl : l.length ≤ 140737488351232) (hG : Small l) (h1 : sh.size ≤ 140737488351232) (h2 : nm.size ≤ 140737488351232) (h3 : own.size ≤ 140737488351232) (hs : x.s.size ≤ 140737488351232) (ht : x.t.size ≤ 140737488351232)
    (ha : -9223372036854775808 ≤ a ∧ a ≤ 9223372036854775807) (hn : -9223372036854775808 ≤ n ∧ n ≤ 9223372036854775807) (hxr : -9223372036854775808 ≤ x.r ∧ x.r ≤ 9223372036854775807) (hxr2 : -9223372036854775808 ≤ x.r2 ∧ x.r2 ≤ 9223372036854775807) (hz : ¬ chkI 1 a n l.length (fnd l sh) (fnd l nm) (nmOK nm) = 0) :
    Calls Tryd.prog 5 #[.agg #[.slice A l.length c, .int .i64 k0, .string sh, .int .i64 a, .int .i64 n, .string nm, .string own], .agg x.cs, .agg #[.int .i64 s, .int .i64 r, .int .i64 q]] w fun e w' => e = .returned (.bool true) ∧ Below w.heap.size w w' := by
  have K0 := Aside0.mk (BJ.on (w0 := w) (A := A) (l := l) (c := c) (sh := sh) (a := a) (n := n) (nm := nm) (own := own) (x := x) (s := s) (r := r) (q := q) fun w1 hj => live15_calls w1 hj.tabs)
  have K1 := Aside0.mk (BJ.on (w0 := w) (A := A) (l := l) (c := c) (sh := sh) (a := a) (n := n) (nm := nm) (own := own) (x := x) (s := s) (r := r) (q := q) fun w1 hj => check_calls A c l 1 sh a n nm w1 hj.tabs hj.row hl hG h1 h2 ha hn)
  have K2 := Aside0.mk (BJ.on (w0 := w) (A := A) (l := l) (c := c) (sh := sh) (a := a) (n := n) (nm := nm) (own := own) (x := x) (s := s) (r := r) (q := q) fun w1 hj => rcheck_calls A c l 1 sh a n nm w1 hj.tabs hj.row hl hG h1 h2 ha hn)
  generalize chkI 1 a n l.length (fnd l sh) (fnd l nm) (nmOK nm) = ch at *
  have z1 : (ch == 0) = false := by simpa using hz
  have z2 : (ch != 0) = true := by simpa using hz
  clear hz
  have HJ : Aside0 (BJ w A l c sh a n nm own x s r q _) := ⟨BJ.start hC hr⟩
  clear hC hr
  go_enter Tryd.func5, Tryd.ntmps5
  go_wp2_with (first
    | (go_at_call 11; refine (K1.out _ HJ.out).mono ?_; rintro e w2 ⟨rfl, hb2⟩; have HJ' := Aside0.mk (HJ.out.go hb2.out); clear HJ; have HJ := HJ'; clear HJ'; obtain ⟨c0, c1, c2, c3, c4, c5, c6⟩ := case7 HJ.out.box0; obtain ⟨d0, d1, d2, d3, d4, d5, d6, d7, d8, d9, d10, d11⟩ := rfc HJ.out.box1; obtain ⟨e0, e1, e2⟩ := ad3 HJ.out.box2; obtain ⟨f0, f1, f2, f3, f4⟩ := shx _ _ _ _ _ _ HJ.out.box3; clear hb2)
    | (go_at_call 10; refine (K0.out _ HJ.out).mono ?_; rintro e w2 ⟨rfl, hb2⟩; have HJ' := Aside0.mk (HJ.out.go hb2.out); clear HJ; have HJ := HJ'; clear HJ'; obtain ⟨c0, c1, c2, c3, c4, c5, c6⟩ := case7 HJ.out.box0; obtain ⟨d0, d1, d2, d3, d4, d5, d6, d7, d8, d9, d10, d11⟩ := rfc HJ.out.box1; obtain ⟨e0, e1, e2⟩ := ad3 HJ.out.box2; obtain ⟨f0, f1, f2, f3, f4⟩ := shx _ _ _ _ _ _ HJ.out.box3; clear hb2)
    | (go_at_call 12; refine (K2.out _ HJ.out).mono ?_; rintro e w2 ⟨rfl, hb2⟩; have HJ' := Aside0.mk (HJ.out.go hb2.out); clear HJ; have HJ := HJ'; clear HJ'; obtain ⟨c0, c1, c2, c3, c4, c5, c6⟩ := case7 HJ.out.box0; obtain ⟨d0, d1, d2, d3, d4, d5, d6, d7, d8, d9, d10, d11⟩ := rfc HJ.out.box1; obtain ⟨e0, e1, e2⟩ := ad3 HJ.out.box2; obtain ⟨f0, f1, f2, f3, f4⟩ := shx _ _ _ _ _ _ HJ.out.box3; clear hb2))
  go_ret
  exact ⟨rfl, HJ.out.below⟩
set_option maxRecDepth 100000 in
set_option maxHeartbeats 16000000 in
theorem back_none_bad (A : Option Addr) (c : Nat) (l : List ByteArray) (k0 : Int) (sh : ByteArray) (a n : Int) (nm own : ByteArray) (x : Rf) (s r q : Int) (w : World) (hC : ChW w) (hr : Kd.C Kd.string w A l.length l) (hl : l.length ≤ 140737488351232) (hG : Small l) (h1 : sh.size ≤ 140737488351232) (h2 : nm.size ≤ 140737488351232) (h3 : own.size ≤ 140737488351232) (hs : x.s.size ≤ 140737488351232) (ht : x.t.size ≤ 140737488351232)
    (ha : -9223372036854775808 ≤ a ∧ a ≤ 9223372036854775807) (hn : -9223372036854775808 ≤ n ∧ n ≤ 9223372036854775807) (hxr : -9223372036854775808 ≤ x.r ∧ x.r ≤ 9223372036854775807) (hxr2 : -9223372036854775808 ≤ x.r2 ∧ x.r2 ≤ 9223372036854775807) (hz : chkI 1 a n l.length (fnd l sh) (fnd l nm) (nmOK nm) = 0) (ho : cellI 1 a n l.length (fnd l sh) (fnd l nm) (nmOK nm) s r q = none) (hx : ¬ okR x) :
    Calls Tryd.prog 5 #[.agg #[.slice A l.length c, .int .i64 k0, .string sh, .int .i64 a, .int .i64 n, .string nm, .string own], .agg x.cs, .agg #[.int .i64 s, .int .i64 r, .int .i64 q]] w fun e w' => e = .returned (.bool true) ∧ Below w.heap.size w w' := by
  have K0 := Aside0.mk (BJ.on (w0 := w) (A := A) (l := l) (c := c) (sh := sh) (a := a) (n := n) (nm := nm) (own := own) (x := x) (s := s) (r := r) (q := q) fun w1 hj => live15_calls w1 hj.tabs)
  have K1 := Aside0.mk (BJ.on (w0 := w) (A := A) (l := l) (c := c) (sh := sh) (a := a) (n := n) (nm := nm) (own := own) (x := x) (s := s) (r := r) (q := q) fun w1 hj => check_calls A c l 1 sh a n nm w1 hj.tabs hj.row hl hG h1 h2 ha hn)
  have K2 := Aside0.mk (BJ.on (w0 := w) (A := A) (l := l) (c := c) (sh := sh) (a := a) (n := n) (nm := nm) (own := own) (x := x) (s := s) (r := r) (q := q) fun w1 hj => rcheck_calls A c l 1 sh a n nm w1 hj.tabs hj.row hl hG h1 h2 ha hn)
  have K3 := Aside0.mk (BJ.on (w0 := w) (A := A) (l := l) (c := c) (sh := sh) (a := a) (n := n) (nm := nm) (own := own) (x := x) (s := s) (r := r) (q := q) fun w1 hj => cell_calls A c l 1 sh a n nm s r q w1 hj.tabs hj.row hl hG h1 h2 ha hn)
  rw [hz] at K1
  obtain ⟨m, hm, hmx⟩ := norm_is x
  have KN := Aside0.mk (BJ.on (w0 := w) (A := A) (l := l) (c := c) (sh := sh) (a := a) (n := n) (nm := nm) (own := own) (x := x) (s := s) (r := r) (q := q) fun w1 hj => gridironref11_Norm.calls x.s x.t x.f x.e x.r x.q x.u x.v x.r2 x.q2 x.u2 x.v2 m.s m.t m.f m.e m.r m.q m.u m.v m.r2 m.q2 m.u2 m.v2 w1 hm)
  rw [ho] at K3
  unfold cellV at K3
  have KR := Aside0.mk (BJ.on (w0 := w) (A := A) (l := l) (c := c) (sh := sh) (a := a) (n := n) (nm := nm) (own := own) (x := x) (s := s) (r := r) (q := q) fun w1 hj => ((rrcheck_bad x w1 hj.tabs hs ht hx).mono fun e w' ⟨v, h1, h2, h3⟩ => (⟨⟨v, h1, h2⟩, h3⟩ : (∃ v : Int, ¬ v = 0 ∧ e = .returned (.int .i64 v)) ∧ _)))
  clear hz hm hmx ho hx
  have HJ : Aside0 (BJ w A l c sh a n nm own x s r q _) := ⟨BJ.start hC hr⟩
  clear hC hr
  go_enter Tryd.func5, Tryd.ntmps5
  go_wp2_with (first
    | (go_at_call 11; refine (K1.out _ HJ.out).mono ?_; rintro e w2 ⟨rfl, hb2⟩; have HJ' := Aside0.mk (HJ.out.go hb2.out); clear HJ; have HJ := HJ'; clear HJ'; obtain ⟨c0, c1, c2, c3, c4, c5, c6⟩ := case7 HJ.out.box0; obtain ⟨d0, d1, d2, d3, d4, d5, d6, d7, d8, d9, d10, d11⟩ := rfc HJ.out.box1; obtain ⟨e0, e1, e2⟩ := ad3 HJ.out.box2; obtain ⟨f0, f1, f2, f3, f4⟩ := shx _ _ _ _ _ _ HJ.out.box3; clear hb2)
    | (go_at_call 10; refine (K0.out _ HJ.out).mono ?_; rintro e w2 ⟨rfl, hb2⟩; have HJ' := Aside0.mk (HJ.out.go hb2.out); clear HJ; have HJ := HJ'; clear HJ'; obtain ⟨c0, c1, c2, c3, c4, c5, c6⟩ := case7 HJ.out.box0; obtain ⟨d0, d1, d2, d3, d4, d5, d6, d7, d8, d9, d10, d11⟩ := rfc HJ.out.box1; obtain ⟨e0, e1, e2⟩ := ad3 HJ.out.box2; obtain ⟨f0, f1, f2, f3, f4⟩ := shx _ _ _ _ _ _ HJ.out.box3; clear hb2)
    | (go_at_call 8; ((with_reducible refine (K3.out _ HJ.out).mono ?_); rintro e w2 ⟨rfl, hb2⟩; have HJ' := Aside0.mk ((HJ.out.go hb2.out).alloc (.cells #[.int .i64 0, .int .i64 0, .int .i64 0] 28)); clear HJ; have HJ := HJ'; clear HJ'; obtain ⟨c0, c1, c2, c3, c4, c5, c6⟩ := case7 HJ.out.box0; obtain ⟨d0, d1, d2, d3, d4, d5, d6, d7, d8, d9, d10, d11⟩ := rfc HJ.out.box1; obtain ⟨e0, e1, e2⟩ := ad3 HJ.out.box2; obtain ⟨f0, f1, f2, f3, f4⟩ := shx _ _ _ _ _ _ HJ.out.box3; have HX := Aside0.mk (blk_new w2 (.cells #[.int .i64 0, .int .i64 0, .int .i64 0] 28)); obtain ⟨x0, x1, x2⟩ := ad3 HX.out; clear hb2 HX))
    | (go_at_call 13; refine (KN.out _ HJ.out).mono ?_; rintro e w2 ⟨rfl, hb2⟩; have HJ' := Aside0.mk ((HJ.out.go hb2.out).alloc (.cells m.cs 37)); clear HJ; have HJ := HJ'; clear HJ'; obtain ⟨c0, c1, c2, c3, c4, c5, c6⟩ := case7 HJ.out.box0; obtain ⟨d0, d1, d2, d3, d4, d5, d6, d7, d8, d9, d10, d11⟩ := rfc HJ.out.box1; obtain ⟨e0, e1, e2⟩ := ad3 HJ.out.box2; obtain ⟨f0, f1, f2, f3, f4⟩ := shx _ _ _ _ _ _ HJ.out.box3; have HM := Aside0.mk (blk_new w2 (.cells m.cs 37)); clear hb2)
    | (go_at_call 14; refine (KR.out _ HJ.out).mono ?_; rintro e w2 ⟨⟨vv, hvv, rfl⟩, hb2⟩; have hv1 : (vv == 0) = false := (by simpa using hvv); have hv2 : (vv != 0) = true := (by simpa using hvv); obtain ⟨m0, m1, m2, m3, m4, m5, m6, m7, m8, m9, m10, m11⟩ := rfc (blk_below HM.out hb2.out); have HJ' := Aside0.mk (HJ.out.go hb2.out); clear HJ; have HJ := HJ'; clear HJ'; obtain ⟨c0, c1, c2, c3, c4, c5, c6⟩ := case7 HJ.out.box0; obtain ⟨d0, d1, d2, d3, d4, d5, d6, d7, d8, d9, d10, d11⟩ := rfc HJ.out.box1; obtain ⟨e0, e1, e2⟩ := ad3 HJ.out.box2; obtain ⟨f0, f1, f2, f3, f4⟩ := shx _ _ _ _ _ _ HJ.out.box3; clear hb2 HM))
  go_ret
  exact ⟨rfl, HJ.out.below⟩
set_option maxRecDepth 100000 in
set_option maxHeartbeats 16000000 in
theorem back_none_out (A : Option Addr) (c : Nat) (l : List ByteArray) (k0 : Int) (sh : ByteArray) (a n : Int) (nm own : ByteArray) (x : Rf) (s r q : Int) (w : World) (hC : ChW w) (hr : Kd.C Kd.string w A l.length l) (hl : l.length ≤ 140737488351232) (hG : Small l) (h1 : sh.size ≤ 140737488351232) (h2 : nm.size ≤ 140737488351232) (h3 : own.size ≤ 140737488351232) (hs : x.s.size ≤ 140737488351232) (ht : x.t.size ≤ 140737488351232)
    (ha : -9223372036854775808 ≤ a ∧ a ≤ 9223372036854775807) (hn : -9223372036854775808 ≤ n ∧ n ≤ 9223372036854775807) (hxr : -9223372036854775808 ≤ x.r ∧ x.r ≤ 9223372036854775807) (hxr2 : -9223372036854775808 ≤ x.r2 ∧ x.r2 ≤ 9223372036854775807) (hz : chkI 1 a n l.length (fnd l sh) (fnd l nm) (nmOK nm) = 0) (ho : cellI 1 a n l.length (fnd l sh) (fnd l nm) (nmOK nm) s r q = none) (hx : okR x) (hc : a ≤ max x.r x.r2) (hc2 : 1048576 ≤ max x.r x.r2 + n) :
    Calls Tryd.prog 5 #[.agg #[.slice A l.length c, .int .i64 k0, .string sh, .int .i64 a, .int .i64 n, .string nm, .string own], .agg x.cs, .agg #[.int .i64 s, .int .i64 r, .int .i64 q]] w fun e w' => e = .returned (.bool true) ∧ Below w.heap.size w w' := by
  have K0 := Aside0.mk (BJ.on (w0 := w) (A := A) (l := l) (c := c) (sh := sh) (a := a) (n := n) (nm := nm) (own := own) (x := x) (s := s) (r := r) (q := q) fun w1 hj => live15_calls w1 hj.tabs)
  have K1 := Aside0.mk (BJ.on (w0 := w) (A := A) (l := l) (c := c) (sh := sh) (a := a) (n := n) (nm := nm) (own := own) (x := x) (s := s) (r := r) (q := q) fun w1 hj => check_calls A c l 1 sh a n nm w1 hj.tabs hj.row hl hG h1 h2 ha hn)
  have K2 := Aside0.mk (BJ.on (w0 := w) (A := A) (l := l) (c := c) (sh := sh) (a := a) (n := n) (nm := nm) (own := own) (x := x) (s := s) (r := r) (q := q) fun w1 hj => rcheck_calls A c l 1 sh a n nm w1 hj.tabs hj.row hl hG h1 h2 ha hn)
  have K3 := Aside0.mk (BJ.on (w0 := w) (A := A) (l := l) (c := c) (sh := sh) (a := a) (n := n) (nm := nm) (own := own) (x := x) (s := s) (r := r) (q := q) fun w1 hj => cell_calls A c l 1 sh a n nm s r q w1 hj.tabs hj.row hl hG h1 h2 ha hn)
  rw [hz] at K1
  obtain ⟨m, hm, hmx⟩ := norm_is x
  have KN := Aside0.mk (BJ.on (w0 := w) (A := A) (l := l) (c := c) (sh := sh) (a := a) (n := n) (nm := nm) (own := own) (x := x) (s := s) (r := r) (q := q) fun w1 hj => gridironref11_Norm.calls x.s x.t x.f x.e x.r x.q x.u x.v x.r2 x.q2 x.u2 x.v2 m.s m.t m.f m.e m.r m.q m.u m.v m.r2 m.q2 m.u2 m.v2 w1 hm)
  rw [ho] at K3
  unfold cellV at K3
  have KR := Aside0.mk (BJ.on (w0 := w) (A := A) (l := l) (c := c) (sh := sh) (a := a) (n := n) (nm := nm) (own := own) (x := x) (s := s) (r := r) (q := q) fun w1 hj => rrcheck_ok x w1 hj.tabs hs ht hx)
  obtain ⟨k1, k2, k3, _⟩ := chk_ok hz
  obtain ⟨n1, a0, an⟩ := k3 (by omega)
  have ho4 := (corB_iff _ _).1 hx.2.2.2.1
  have hr2 : 0 ≤ x.r2 ∧ x.r2 < 1048576 := by
    obtain ⟨_, _, _, _, o5, o6⟩ := hx
    cases he : x.e with
    | true => have := (corB_iff _ _).1 (o5 he); omega
    | false => have := (o6 he).1; omega
  rw [← hmx] at hc hc2
  have t1 : decide (a ≤ max m.r m.r2) = true := decide_eq_true hc
  have t2 : IntKind.i64.wrap (max m.r m.r2 + n) = max m.r m.r2 + n := IntWalk.i64_in _ (by omega)
  have t2w : wrap64 (max m.r m.r2 + n) = max m.r m.r2 + n := w64 (by omega)
  have t3 : decide (1048576 ≤ max m.r m.r2 + n) = true := decide_eq_true hc2
  clear k1 k2 k3
  clear hz hm hmx ho hx
  have HJ : Aside0 (BJ w A l c sh a n nm own x s r q _) := ⟨BJ.start hC hr⟩
  clear hC hr
  go_enter Tryd.func5, Tryd.ntmps5
  go_wp2_with (first
    | (go_at_call 11; refine (K1.out _ HJ.out).mono ?_; rintro e w2 ⟨rfl, hb2⟩; have HJ' := Aside0.mk (HJ.out.go hb2.out); clear HJ; have HJ := HJ'; clear HJ'; obtain ⟨c0, c1, c2, c3, c4, c5, c6⟩ := case7 HJ.out.box0; obtain ⟨d0, d1, d2, d3, d4, d5, d6, d7, d8, d9, d10, d11⟩ := rfc HJ.out.box1; obtain ⟨e0, e1, e2⟩ := ad3 HJ.out.box2; obtain ⟨f0, f1, f2, f3, f4⟩ := shx _ _ _ _ _ _ HJ.out.box3; clear hb2)
    | (go_at_call 10; refine (K0.out _ HJ.out).mono ?_; rintro e w2 ⟨rfl, hb2⟩; have HJ' := Aside0.mk (HJ.out.go hb2.out); clear HJ; have HJ := HJ'; clear HJ'; obtain ⟨c0, c1, c2, c3, c4, c5, c6⟩ := case7 HJ.out.box0; obtain ⟨d0, d1, d2, d3, d4, d5, d6, d7, d8, d9, d10, d11⟩ := rfc HJ.out.box1; obtain ⟨e0, e1, e2⟩ := ad3 HJ.out.box2; obtain ⟨f0, f1, f2, f3, f4⟩ := shx _ _ _ _ _ _ HJ.out.box3; clear hb2)
    | (go_at_call 8; ((with_reducible refine (K3.out _ HJ.out).mono ?_); rintro e w2 ⟨rfl, hb2⟩; have HJ' := Aside0.mk ((HJ.out.go hb2.out).alloc (.cells #[.int .i64 0, .int .i64 0, .int .i64 0] 28)); clear HJ; have HJ := HJ'; clear HJ'; obtain ⟨c0, c1, c2, c3, c4, c5, c6⟩ := case7 HJ.out.box0; obtain ⟨d0, d1, d2, d3, d4, d5, d6, d7, d8, d9, d10, d11⟩ := rfc HJ.out.box1; obtain ⟨e0, e1, e2⟩ := ad3 HJ.out.box2; obtain ⟨f0, f1, f2, f3, f4⟩ := shx _ _ _ _ _ _ HJ.out.box3; have HX := Aside0.mk (blk_new w2 (.cells #[.int .i64 0, .int .i64 0, .int .i64 0] 28)); obtain ⟨x0, x1, x2⟩ := ad3 HX.out; clear hb2 HX))
    | (go_at_call 13; refine (KN.out _ HJ.out).mono ?_; rintro e w2 ⟨rfl, hb2⟩; have HJ' := Aside0.mk ((HJ.out.go hb2.out).alloc (.cells m.cs 37)); clear HJ; have HJ := HJ'; clear HJ'; obtain ⟨c0, c1, c2, c3, c4, c5, c6⟩ := case7 HJ.out.box0; obtain ⟨d0, d1, d2, d3, d4, d5, d6, d7, d8, d9, d10, d11⟩ := rfc HJ.out.box1; obtain ⟨e0, e1, e2⟩ := ad3 HJ.out.box2; obtain ⟨f0, f1, f2, f3, f4⟩ := shx _ _ _ _ _ _ HJ.out.box3; have HM := Aside0.mk (blk_new w2 (.cells m.cs 37)); clear hb2)
    | (go_at_call 14; refine (KR.out _ HJ.out).mono ?_; rintro e w2 ⟨rfl, hb2⟩; obtain ⟨m0, m1, m2, m3, m4, m5, m6, m7, m8, m9, m10, m11⟩ := rfc (blk_below HM.out hb2.out); have HJ' := Aside0.mk (HJ.out.go hb2.out); clear HJ; have HJ := HJ'; clear HJ'; obtain ⟨c0, c1, c2, c3, c4, c5, c6⟩ := case7 HJ.out.box0; obtain ⟨d0, d1, d2, d3, d4, d5, d6, d7, d8, d9, d10, d11⟩ := rfc HJ.out.box1; obtain ⟨e0, e1, e2⟩ := ad3 HJ.out.box2; obtain ⟨f0, f1, f2, f3, f4⟩ := shx _ _ _ _ _ _ HJ.out.box3; clear hb2 HM))
  go_ret
  exact ⟨rfl, HJ.out.below⟩
set_option maxRecDepth 100000 in
set_option maxHeartbeats 16000000 in
theorem back_none_ok (A : Option Addr) (c : Nat) (l : List ByteArray) (k0 : Int) (sh : ByteArray) (a n : Int) (nm own : ByteArray) (x : Rf) (s r q : Int) (w : World) (hC : ChW w) (hr : Kd.C Kd.string w A l.length l) (hl : l.length ≤ 140737488351232) (hG : Small l) (h1 : sh.size ≤ 140737488351232) (h2 : nm.size ≤ 140737488351232) (h3 : own.size ≤ 140737488351232) (hs : x.s.size ≤ 140737488351232) (ht : x.t.size ≤ 140737488351232)
    (ha : -9223372036854775808 ≤ a ∧ a ≤ 9223372036854775807) (hn : -9223372036854775808 ≤ n ∧ n ≤ 9223372036854775807) (hxr : -9223372036854775808 ≤ x.r ∧ x.r ≤ 9223372036854775807) (hxr2 : -9223372036854775808 ≤ x.r2 ∧ x.r2 ≤ 9223372036854775807) (hz : chkI 1 a n l.length (fnd l sh) (fnd l nm) (nmOK nm) = 0) (ho : cellI 1 a n l.length (fnd l sh) (fnd l nm) (nmOK nm) s r q = none) (hx : okR x) (hc : a ≤ max x.r x.r2 → max x.r x.r2 + n < 1048576) :
    Calls Tryd.prog 5 #[.agg #[.slice A l.length c, .int .i64 k0, .string sh, .int .i64 a, .int .i64 n, .string nm, .string own], .agg x.cs, .agg #[.int .i64 s, .int .i64 r, .int .i64 q]] w fun e w' => e = .returned (.bool true) ∧ Below w.heap.size w w' := by
  have K0 := Aside0.mk (BJ.on (w0 := w) (A := A) (l := l) (c := c) (sh := sh) (a := a) (n := n) (nm := nm) (own := own) (x := x) (s := s) (r := r) (q := q) fun w1 hj => live15_calls w1 hj.tabs)
  have K1 := Aside0.mk (BJ.on (w0 := w) (A := A) (l := l) (c := c) (sh := sh) (a := a) (n := n) (nm := nm) (own := own) (x := x) (s := s) (r := r) (q := q) fun w1 hj => check_calls A c l 1 sh a n nm w1 hj.tabs hj.row hl hG h1 h2 ha hn)
  have K2 := Aside0.mk (BJ.on (w0 := w) (A := A) (l := l) (c := c) (sh := sh) (a := a) (n := n) (nm := nm) (own := own) (x := x) (s := s) (r := r) (q := q) fun w1 hj => rcheck_calls A c l 1 sh a n nm w1 hj.tabs hj.row hl hG h1 h2 ha hn)
  have K3 := Aside0.mk (BJ.on (w0 := w) (A := A) (l := l) (c := c) (sh := sh) (a := a) (n := n) (nm := nm) (own := own) (x := x) (s := s) (r := r) (q := q) fun w1 hj => cell_calls A c l 1 sh a n nm s r q w1 hj.tabs hj.row hl hG h1 h2 ha hn)
  rw [hz] at K1
  obtain ⟨m, hm, hmx⟩ := norm_is x
  have KN := Aside0.mk (BJ.on (w0 := w) (A := A) (l := l) (c := c) (sh := sh) (a := a) (n := n) (nm := nm) (own := own) (x := x) (s := s) (r := r) (q := q) fun w1 hj => gridironref11_Norm.calls x.s x.t x.f x.e x.r x.q x.u x.v x.r2 x.q2 x.u2 x.v2 m.s m.t m.f m.e m.r m.q m.u m.v m.r2 m.q2 m.u2 m.v2 w1 hm)
  rw [ho] at K3
  unfold cellV at K3
  have KR := Aside0.mk (BJ.on (w0 := w) (A := A) (l := l) (c := c) (sh := sh) (a := a) (n := n) (nm := nm) (own := own) (x := x) (s := s) (r := r) (q := q) fun w1 hj => rrcheck_ok x w1 hj.tabs hs ht hx)
  obtain ⟨k1, k2, k3, _⟩ := chk_ok hz
  obtain ⟨n1, a0, an⟩ := k3 (by omega)
  have ho4 := (corB_iff _ _).1 hx.2.2.2.1
  have hr2 : 0 ≤ x.r2 ∧ x.r2 < 1048576 := by
    obtain ⟨_, _, _, _, o5, o6⟩ := hx
    cases he : x.e with
    | true => have := (corB_iff _ _).1 (o5 he); omega
    | false => have := (o6 he).1; omega
  obtain ⟨y, hy1, hy2⟩ := ref_back A c l sh a n nm own x hl hG h1 h2 h3 hs ht ha hn hz hx hc
  have KY := Aside0.mk (BJ.on (w0 := w) (A := A) (l := l) (c := c) (sh := sh) (a := a) (n := n) (nm := nm) (own := own) (x := x) (s := s) (r := r) (q := q) fun w1 hj => hy1 w1 hj.tabs hj.row)
  have KZ := Aside0.mk (BJ.on (w0 := w) (A := A) (l := l) (c := c) (sh := sh) (a := a) (n := n) (nm := nm) (own := own) (x := x) (s := s) (r := r) (q := q) fun w1 hj => hy2 w1 hj.tabs hj.row)
  rw [← hmx] at hc
  have hcc : (a ≤ max m.r m.r2 ∧ max m.r m.r2 + n < 1048576) ∨ max m.r m.r2 < a := by
    by_cases g : a ≤ max m.r m.r2
    · exact .inl ⟨g, hc g⟩
    · exact .inr (by omega)
  have t2 : IntKind.i64.wrap (max m.r m.r2 + n) = max m.r m.r2 + n := IntWalk.i64_in _ (by omega)
  have t2w : wrap64 (max m.r m.r2 + n) = max m.r m.r2 + n := w64 (by omega)
  clear hy1 hy2 hc k1 k2 k3
  clear hz hm hmx ho hx
  have HJ : Aside0 (BJ w A l c sh a n nm own x s r q _) := ⟨BJ.start hC hr⟩
  clear hC hr
  rcases hcc with ⟨g1, g2⟩ | g1
  · have t1 : decide (a ≤ max m.r m.r2) = true := decide_eq_true g1
    have t3 : decide (1048576 ≤ max m.r m.r2 + n) = false := decide_eq_false (by omega)
    go_enter Tryd.func5, Tryd.ntmps5
    go_wp2_with (first
      | (go_at_call 11; refine (K1.out _ HJ.out).mono ?_; rintro e w2 ⟨rfl, hb2⟩; have HJ' := Aside0.mk (HJ.out.go hb2.out); clear HJ; have HJ := HJ'; clear HJ'; obtain ⟨c0, c1, c2, c3, c4, c5, c6⟩ := case7 HJ.out.box0; obtain ⟨d0, d1, d2, d3, d4, d5, d6, d7, d8, d9, d10, d11⟩ := rfc HJ.out.box1; obtain ⟨e0, e1, e2⟩ := ad3 HJ.out.box2; obtain ⟨f0, f1, f2, f3, f4⟩ := shx _ _ _ _ _ _ HJ.out.box3; clear hb2)
      | (go_at_call 10; refine (K0.out _ HJ.out).mono ?_; rintro e w2 ⟨rfl, hb2⟩; have HJ' := Aside0.mk (HJ.out.go hb2.out); clear HJ; have HJ := HJ'; clear HJ'; obtain ⟨c0, c1, c2, c3, c4, c5, c6⟩ := case7 HJ.out.box0; obtain ⟨d0, d1, d2, d3, d4, d5, d6, d7, d8, d9, d10, d11⟩ := rfc HJ.out.box1; obtain ⟨e0, e1, e2⟩ := ad3 HJ.out.box2; obtain ⟨f0, f1, f2, f3, f4⟩ := shx _ _ _ _ _ _ HJ.out.box3; clear hb2)
      | (go_at_call 8; ((with_reducible refine (K3.out _ HJ.out).mono ?_); rintro e w2 ⟨rfl, hb2⟩; have HJ' := Aside0.mk ((HJ.out.go hb2.out).alloc (.cells #[.int .i64 0, .int .i64 0, .int .i64 0] 28)); clear HJ; have HJ := HJ'; clear HJ'; obtain ⟨c0, c1, c2, c3, c4, c5, c6⟩ := case7 HJ.out.box0; obtain ⟨d0, d1, d2, d3, d4, d5, d6, d7, d8, d9, d10, d11⟩ := rfc HJ.out.box1; obtain ⟨e0, e1, e2⟩ := ad3 HJ.out.box2; obtain ⟨f0, f1, f2, f3, f4⟩ := shx _ _ _ _ _ _ HJ.out.box3; have HX := Aside0.mk (blk_new w2 (.cells #[.int .i64 0, .int .i64 0, .int .i64 0] 28)); obtain ⟨x0, x1, x2⟩ := ad3 HX.out; clear hb2 HX))
      | (go_at_call 13; refine (KN.out _ HJ.out).mono ?_; rintro e w2 ⟨rfl, hb2⟩; have HJ' := Aside0.mk ((HJ.out.go hb2.out).alloc (.cells m.cs 37)); clear HJ; have HJ := HJ'; clear HJ'; obtain ⟨c0, c1, c2, c3, c4, c5, c6⟩ := case7 HJ.out.box0; obtain ⟨d0, d1, d2, d3, d4, d5, d6, d7, d8, d9, d10, d11⟩ := rfc HJ.out.box1; obtain ⟨e0, e1, e2⟩ := ad3 HJ.out.box2; obtain ⟨f0, f1, f2, f3, f4⟩ := shx _ _ _ _ _ _ HJ.out.box3; have HM := Aside0.mk (blk_new w2 (.cells m.cs 37)); clear hb2)
      | (go_at_call 14; refine (KR.out _ HJ.out).mono ?_; rintro e w2 ⟨rfl, hb2⟩; obtain ⟨m0, m1, m2, m3, m4, m5, m6, m7, m8, m9, m10, m11⟩ := rfc (blk_below HM.out hb2.out); have HJ' := Aside0.mk (HJ.out.go hb2.out); clear HJ; have HJ := HJ'; clear HJ'; obtain ⟨c0, c1, c2, c3, c4, c5, c6⟩ := case7 HJ.out.box0; obtain ⟨d0, d1, d2, d3, d4, d5, d6, d7, d8, d9, d10, d11⟩ := rfc HJ.out.box1; obtain ⟨e0, e1, e2⟩ := ad3 HJ.out.box2; obtain ⟨f0, f1, f2, f3, f4⟩ := shx _ _ _ _ _ _ HJ.out.box3; clear hb2 HM)
      | (go_at_call 15; first | ((with_reducible refine (KY.out _ HJ.out).mono ?_); rintro e w2 ⟨rfl, hb2⟩; have HJ' := Aside0.mk ((HJ.out.go hb2.out).alloc (.cells y.cs 37)); clear HJ; have HJ := HJ'; clear HJ'; obtain ⟨c0, c1, c2, c3, c4, c5, c6⟩ := case7 HJ.out.box0; obtain ⟨d0, d1, d2, d3, d4, d5, d6, d7, d8, d9, d10, d11⟩ := rfc HJ.out.box1; obtain ⟨e0, e1, e2⟩ := ad3 HJ.out.box2; obtain ⟨f0, f1, f2, f3, f4⟩ := shx _ _ _ _ _ _ HJ.out.box3; have HX := Aside0.mk (blk_new w2 (.cells y.cs 37)); obtain ⟨y0, y1, y2, y3, y4, y5, y6, y7, y8, y9, y10, y11⟩ := rfc HX.out; clear hb2 HX) | ((with_reducible refine (KZ.out _ HJ.out).mono ?_); rintro e w2 ⟨rfl, hb2⟩; have HJ' := Aside0.mk ((HJ.out.go hb2.out).alloc (.cells x.cs 37)); clear HJ; have HJ := HJ'; clear HJ'; obtain ⟨c0, c1, c2, c3, c4, c5, c6⟩ := case7 HJ.out.box0; obtain ⟨d0, d1, d2, d3, d4, d5, d6, d7, d8, d9, d10, d11⟩ := rfc HJ.out.box1; obtain ⟨e0, e1, e2⟩ := ad3 HJ.out.box2; obtain ⟨f0, f1, f2, f3, f4⟩ := shx _ _ _ _ _ _ HJ.out.box3; have HX := Aside0.mk (blk_new w2 (.cells x.cs 37)); obtain ⟨y0, y1, y2, y3, y4, y5, y6, y7, y8, y9, y10, y11⟩ := rfc HX.out; clear hb2 HX)))
    go_ret
    exact ⟨rfl, HJ.out.below⟩
  · have t1 : decide (a ≤ max m.r m.r2) = false := decide_eq_false (by omega)
    go_enter Tryd.func5, Tryd.ntmps5
    go_wp2_with (first
      | (go_at_call 11; refine (K1.out _ HJ.out).mono ?_; rintro e w2 ⟨rfl, hb2⟩; have HJ' := Aside0.mk (HJ.out.go hb2.out); clear HJ; have HJ := HJ'; clear HJ'; obtain ⟨c0, c1, c2, c3, c4, c5, c6⟩ := case7 HJ.out.box0; obtain ⟨d0, d1, d2, d3, d4, d5, d6, d7, d8, d9, d10, d11⟩ := rfc HJ.out.box1; obtain ⟨e0, e1, e2⟩ := ad3 HJ.out.box2; obtain ⟨f0, f1, f2, f3, f4⟩ := shx _ _ _ _ _ _ HJ.out.box3; clear hb2)
      | (go_at_call 10; refine (K0.out _ HJ.out).mono ?_; rintro e w2 ⟨rfl, hb2⟩; have HJ' := Aside0.mk (HJ.out.go hb2.out); clear HJ; have HJ := HJ'; clear HJ'; obtain ⟨c0, c1, c2, c3, c4, c5, c6⟩ := case7 HJ.out.box0; obtain ⟨d0, d1, d2, d3, d4, d5, d6, d7, d8, d9, d10, d11⟩ := rfc HJ.out.box1; obtain ⟨e0, e1, e2⟩ := ad3 HJ.out.box2; obtain ⟨f0, f1, f2, f3, f4⟩ := shx _ _ _ _ _ _ HJ.out.box3; clear hb2)
      | (go_at_call 8; ((with_reducible refine (K3.out _ HJ.out).mono ?_); rintro e w2 ⟨rfl, hb2⟩; have HJ' := Aside0.mk ((HJ.out.go hb2.out).alloc (.cells #[.int .i64 0, .int .i64 0, .int .i64 0] 28)); clear HJ; have HJ := HJ'; clear HJ'; obtain ⟨c0, c1, c2, c3, c4, c5, c6⟩ := case7 HJ.out.box0; obtain ⟨d0, d1, d2, d3, d4, d5, d6, d7, d8, d9, d10, d11⟩ := rfc HJ.out.box1; obtain ⟨e0, e1, e2⟩ := ad3 HJ.out.box2; obtain ⟨f0, f1, f2, f3, f4⟩ := shx _ _ _ _ _ _ HJ.out.box3; have HX := Aside0.mk (blk_new w2 (.cells #[.int .i64 0, .int .i64 0, .int .i64 0] 28)); obtain ⟨x0, x1, x2⟩ := ad3 HX.out; clear hb2 HX))
      | (go_at_call 13; refine (KN.out _ HJ.out).mono ?_; rintro e w2 ⟨rfl, hb2⟩; have HJ' := Aside0.mk ((HJ.out.go hb2.out).alloc (.cells m.cs 37)); clear HJ; have HJ := HJ'; clear HJ'; obtain ⟨c0, c1, c2, c3, c4, c5, c6⟩ := case7 HJ.out.box0; obtain ⟨d0, d1, d2, d3, d4, d5, d6, d7, d8, d9, d10, d11⟩ := rfc HJ.out.box1; obtain ⟨e0, e1, e2⟩ := ad3 HJ.out.box2; obtain ⟨f0, f1, f2, f3, f4⟩ := shx _ _ _ _ _ _ HJ.out.box3; have HM := Aside0.mk (blk_new w2 (.cells m.cs 37)); clear hb2)
      | (go_at_call 14; refine (KR.out _ HJ.out).mono ?_; rintro e w2 ⟨rfl, hb2⟩; obtain ⟨m0, m1, m2, m3, m4, m5, m6, m7, m8, m9, m10, m11⟩ := rfc (blk_below HM.out hb2.out); have HJ' := Aside0.mk (HJ.out.go hb2.out); clear HJ; have HJ := HJ'; clear HJ'; obtain ⟨c0, c1, c2, c3, c4, c5, c6⟩ := case7 HJ.out.box0; obtain ⟨d0, d1, d2, d3, d4, d5, d6, d7, d8, d9, d10, d11⟩ := rfc HJ.out.box1; obtain ⟨e0, e1, e2⟩ := ad3 HJ.out.box2; obtain ⟨f0, f1, f2, f3, f4⟩ := shx _ _ _ _ _ _ HJ.out.box3; clear hb2 HM)
      | (go_at_call 15; first | ((with_reducible refine (KY.out _ HJ.out).mono ?_); rintro e w2 ⟨rfl, hb2⟩; have HJ' := Aside0.mk ((HJ.out.go hb2.out).alloc (.cells y.cs 37)); clear HJ; have HJ := HJ'; clear HJ'; obtain ⟨c0, c1, c2, c3, c4, c5, c6⟩ := case7 HJ.out.box0; obtain ⟨d0, d1, d2, d3, d4, d5, d6, d7, d8, d9, d10, d11⟩ := rfc HJ.out.box1; obtain ⟨e0, e1, e2⟩ := ad3 HJ.out.box2; obtain ⟨f0, f1, f2, f3, f4⟩ := shx _ _ _ _ _ _ HJ.out.box3; have HX := Aside0.mk (blk_new w2 (.cells y.cs 37)); obtain ⟨y0, y1, y2, y3, y4, y5, y6, y7, y8, y9, y10, y11⟩ := rfc HX.out; clear hb2 HX) | ((with_reducible refine (KZ.out _ HJ.out).mono ?_); rintro e w2 ⟨rfl, hb2⟩; have HJ' := Aside0.mk ((HJ.out.go hb2.out).alloc (.cells x.cs 37)); clear HJ; have HJ := HJ'; clear HJ'; obtain ⟨c0, c1, c2, c3, c4, c5, c6⟩ := case7 HJ.out.box0; obtain ⟨d0, d1, d2, d3, d4, d5, d6, d7, d8, d9, d10, d11⟩ := rfc HJ.out.box1; obtain ⟨e0, e1, e2⟩ := ad3 HJ.out.box2; obtain ⟨f0, f1, f2, f3, f4⟩ := shx _ _ _ _ _ _ HJ.out.box3; have HX := Aside0.mk (blk_new w2 (.cells x.cs 37)); obtain ⟨y0, y1, y2, y3, y4, y5, y6, y7, y8, y9, y10, y11⟩ := rfc HX.out; clear hb2 HX)))
    go_ret
    exact ⟨rfl, HJ.out.below⟩
set_option maxRecDepth 100000 in
set_option maxHeartbeats 16000000 in
theorem back_some_bad (A : Option Addr) (c : Nat) (l : List ByteArray) (k0 : Int) (sh : ByteArray) (a n : Int) (nm own : ByteArray) (x : Rf) (s r q : Int) (w : World) (hC : ChW w) (hr : Kd.C Kd.string w A l.length l) (hl : l.length ≤ 140737488351232) (hG : Small l) (h1 : sh.size ≤ 140737488351232) (h2 : nm.size ≤ 140737488351232) (h3 : own.size ≤ 140737488351232) (hs : x.s.size ≤ 140737488351232) (ht : x.t.size ≤ 140737488351232)
    (ha : -9223372036854775808 ≤ a ∧ a ≤ 9223372036854775807) (hn : -9223372036854775808 ≤ n ∧ n ≤ 9223372036854775807) (hxr : -9223372036854775808 ≤ x.r ∧ x.r ≤ 9223372036854775807) (hxr2 : -9223372036854775808 ≤ x.r2 ∧ x.r2 ≤ 9223372036854775807) (hz : chkI 1 a n l.length (fnd l sh) (fnd l nm) (nmOK nm) = 0) (s' r' q' : Int) (ho : cellI 1 a n l.length (fnd l sh) (fnd l nm) (nmOK nm) s r q = some (s', r', q')) (hx : ¬ okR x) :
    Calls Tryd.prog 5 #[.agg #[.slice A l.length c, .int .i64 k0, .string sh, .int .i64 a, .int .i64 n, .string nm, .string own], .agg x.cs, .agg #[.int .i64 s, .int .i64 r, .int .i64 q]] w fun e w' => e = .returned (.bool true) ∧ Below w.heap.size w w' := by
  have K0 := Aside0.mk (BJ.on (w0 := w) (A := A) (l := l) (c := c) (sh := sh) (a := a) (n := n) (nm := nm) (own := own) (x := x) (s := s) (r := r) (q := q) fun w1 hj => live15_calls w1 hj.tabs)
  have K1 := Aside0.mk (BJ.on (w0 := w) (A := A) (l := l) (c := c) (sh := sh) (a := a) (n := n) (nm := nm) (own := own) (x := x) (s := s) (r := r) (q := q) fun w1 hj => check_calls A c l 1 sh a n nm w1 hj.tabs hj.row hl hG h1 h2 ha hn)
  have K2 := Aside0.mk (BJ.on (w0 := w) (A := A) (l := l) (c := c) (sh := sh) (a := a) (n := n) (nm := nm) (own := own) (x := x) (s := s) (r := r) (q := q) fun w1 hj => rcheck_calls A c l 1 sh a n nm w1 hj.tabs hj.row hl hG h1 h2 ha hn)
  have K3 := Aside0.mk (BJ.on (w0 := w) (A := A) (l := l) (c := c) (sh := sh) (a := a) (n := n) (nm := nm) (own := own) (x := x) (s := s) (r := r) (q := q) fun w1 hj => cell_calls A c l 1 sh a n nm s r q w1 hj.tabs hj.row hl hG h1 h2 ha hn)
  have K4 := Aside0.mk (BJ.on (w0 := w) (A := A) (l := l) (c := c) (sh := sh) (a := a) (n := n) (nm := nm) (own := own) (x := x) (s := s) (r := r) (q := q) fun w1 hj => cell_calls A c l 2 sh a n nm s' r' q' w1 hj.tabs hj.row hl hG h1 h2 ha hn)
  rw [hz] at K1
  obtain ⟨m, hm, hmx⟩ := norm_is x
  have KN := Aside0.mk (BJ.on (w0 := w) (A := A) (l := l) (c := c) (sh := sh) (a := a) (n := n) (nm := nm) (own := own) (x := x) (s := s) (r := r) (q := q) fun w1 hj => gridironref11_Norm.calls x.s x.t x.f x.e x.r x.q x.u x.v x.r2 x.q2 x.u2 x.v2 m.s m.t m.f m.e m.r m.q m.u m.v m.r2 m.q2 m.u2 m.v2 w1 hm)
  rw [ho] at K3
  rw [cell_back ho] at K4
  unfold cellV at K3 K4
  have KR := Aside0.mk (BJ.on (w0 := w) (A := A) (l := l) (c := c) (sh := sh) (a := a) (n := n) (nm := nm) (own := own) (x := x) (s := s) (r := r) (q := q) fun w1 hj => ((rrcheck_bad x w1 hj.tabs hs ht hx).mono fun e w' ⟨v, h1, h2, h3⟩ => (⟨⟨v, h1, h2⟩, h3⟩ : (∃ v : Int, ¬ v = 0 ∧ e = .returned (.int .i64 v)) ∧ _)))
  clear hz hm hmx ho hx
  have HJ : Aside0 (BJ w A l c sh a n nm own x s r q _) := ⟨BJ.start hC hr⟩
  clear hC hr
  go_enter Tryd.func5, Tryd.ntmps5
  go_wp2_with (first
    | (go_at_call 11; refine (K1.out _ HJ.out).mono ?_; rintro e w2 ⟨rfl, hb2⟩; have HJ' := Aside0.mk (HJ.out.go hb2.out); clear HJ; have HJ := HJ'; clear HJ'; obtain ⟨c0, c1, c2, c3, c4, c5, c6⟩ := case7 HJ.out.box0; obtain ⟨d0, d1, d2, d3, d4, d5, d6, d7, d8, d9, d10, d11⟩ := rfc HJ.out.box1; obtain ⟨e0, e1, e2⟩ := ad3 HJ.out.box2; obtain ⟨f0, f1, f2, f3, f4⟩ := shx _ _ _ _ _ _ HJ.out.box3; clear hb2)
    | (go_at_call 10; refine (K0.out _ HJ.out).mono ?_; rintro e w2 ⟨rfl, hb2⟩; have HJ' := Aside0.mk (HJ.out.go hb2.out); clear HJ; have HJ := HJ'; clear HJ'; obtain ⟨c0, c1, c2, c3, c4, c5, c6⟩ := case7 HJ.out.box0; obtain ⟨d0, d1, d2, d3, d4, d5, d6, d7, d8, d9, d10, d11⟩ := rfc HJ.out.box1; obtain ⟨e0, e1, e2⟩ := ad3 HJ.out.box2; obtain ⟨f0, f1, f2, f3, f4⟩ := shx _ _ _ _ _ _ HJ.out.box3; clear hb2)
    | (go_at_call 8; first | ((with_reducible refine (K3.out _ HJ.out).mono ?_); rintro e w2 ⟨rfl, hb2⟩; have HJ' := Aside0.mk ((HJ.out.go hb2.out).alloc (.cells #[.int .i64 s', .int .i64 r', .int .i64 q'] 28)); clear HJ; have HJ := HJ'; clear HJ'; obtain ⟨c0, c1, c2, c3, c4, c5, c6⟩ := case7 HJ.out.box0; obtain ⟨d0, d1, d2, d3, d4, d5, d6, d7, d8, d9, d10, d11⟩ := rfc HJ.out.box1; obtain ⟨e0, e1, e2⟩ := ad3 HJ.out.box2; obtain ⟨f0, f1, f2, f3, f4⟩ := shx _ _ _ _ _ _ HJ.out.box3; have HX := Aside0.mk (blk_new w2 (.cells #[.int .i64 s', .int .i64 r', .int .i64 q'] 28)); obtain ⟨x0, x1, x2⟩ := ad3 HX.out; clear hb2 HX) | ((with_reducible refine (K4.out _ HJ.out).mono ?_); rintro e w2 ⟨rfl, hb2⟩; have HJ' := Aside0.mk ((HJ.out.go hb2.out).alloc (.cells #[.int .i64 s, .int .i64 r, .int .i64 q] 28)); clear HJ; have HJ := HJ'; clear HJ'; obtain ⟨c0, c1, c2, c3, c4, c5, c6⟩ := case7 HJ.out.box0; obtain ⟨d0, d1, d2, d3, d4, d5, d6, d7, d8, d9, d10, d11⟩ := rfc HJ.out.box1; obtain ⟨e0, e1, e2⟩ := ad3 HJ.out.box2; obtain ⟨f0, f1, f2, f3, f4⟩ := shx _ _ _ _ _ _ HJ.out.box3; have HX := Aside0.mk (blk_new w2 (.cells #[.int .i64 s, .int .i64 r, .int .i64 q] 28)); obtain ⟨x0, x1, x2⟩ := ad3 HX.out; clear hb2 HX))
    | (go_at_call 13; refine (KN.out _ HJ.out).mono ?_; rintro e w2 ⟨rfl, hb2⟩; have HJ' := Aside0.mk ((HJ.out.go hb2.out).alloc (.cells m.cs 37)); clear HJ; have HJ := HJ'; clear HJ'; obtain ⟨c0, c1, c2, c3, c4, c5, c6⟩ := case7 HJ.out.box0; obtain ⟨d0, d1, d2, d3, d4, d5, d6, d7, d8, d9, d10, d11⟩ := rfc HJ.out.box1; obtain ⟨e0, e1, e2⟩ := ad3 HJ.out.box2; obtain ⟨f0, f1, f2, f3, f4⟩ := shx _ _ _ _ _ _ HJ.out.box3; have HM := Aside0.mk (blk_new w2 (.cells m.cs 37)); clear hb2)
    | (go_at_call 14; refine (KR.out _ HJ.out).mono ?_; rintro e w2 ⟨⟨vv, hvv, rfl⟩, hb2⟩; have hv1 : (vv == 0) = false := (by simpa using hvv); have hv2 : (vv != 0) = true := (by simpa using hvv); obtain ⟨m0, m1, m2, m3, m4, m5, m6, m7, m8, m9, m10, m11⟩ := rfc (blk_below HM.out hb2.out); have HJ' := Aside0.mk (HJ.out.go hb2.out); clear HJ; have HJ := HJ'; clear HJ'; obtain ⟨c0, c1, c2, c3, c4, c5, c6⟩ := case7 HJ.out.box0; obtain ⟨d0, d1, d2, d3, d4, d5, d6, d7, d8, d9, d10, d11⟩ := rfc HJ.out.box1; obtain ⟨e0, e1, e2⟩ := ad3 HJ.out.box2; obtain ⟨f0, f1, f2, f3, f4⟩ := shx _ _ _ _ _ _ HJ.out.box3; clear hb2 HM))
  go_ret
  exact ⟨rfl, HJ.out.below⟩
set_option maxRecDepth 100000 in
set_option maxHeartbeats 16000000 in
theorem back_some_out (A : Option Addr) (c : Nat) (l : List ByteArray) (k0 : Int) (sh : ByteArray) (a n : Int) (nm own : ByteArray) (x : Rf) (s r q : Int) (w : World) (hC : ChW w) (hr : Kd.C Kd.string w A l.length l) (hl : l.length ≤ 140737488351232) (hG : Small l) (h1 : sh.size ≤ 140737488351232) (h2 : nm.size ≤ 140737488351232) (h3 : own.size ≤ 140737488351232) (hs : x.s.size ≤ 140737488351232) (ht : x.t.size ≤ 140737488351232)
    (ha : -9223372036854775808 ≤ a ∧ a ≤ 9223372036854775807) (hn : -9223372036854775808 ≤ n ∧ n ≤ 9223372036854775807) (hxr : -9223372036854775808 ≤ x.r ∧ x.r ≤ 9223372036854775807) (hxr2 : -9223372036854775808 ≤ x.r2 ∧ x.r2 ≤ 9223372036854775807) (hz : chkI 1 a n l.length (fnd l sh) (fnd l nm) (nmOK nm) = 0) (s' r' q' : Int) (ho : cellI 1 a n l.length (fnd l sh) (fnd l nm) (nmOK nm) s r q = some (s', r', q')) (hx : okR x) (hc : a ≤ max x.r x.r2) (hc2 : 1048576 ≤ max x.r x.r2 + n) :
    Calls Tryd.prog 5 #[.agg #[.slice A l.length c, .int .i64 k0, .string sh, .int .i64 a, .int .i64 n, .string nm, .string own], .agg x.cs, .agg #[.int .i64 s, .int .i64 r, .int .i64 q]] w fun e w' => e = .returned (.bool true) ∧ Below w.heap.size w w' := by
  have K0 := Aside0.mk (BJ.on (w0 := w) (A := A) (l := l) (c := c) (sh := sh) (a := a) (n := n) (nm := nm) (own := own) (x := x) (s := s) (r := r) (q := q) fun w1 hj => live15_calls w1 hj.tabs)
  have K1 := Aside0.mk (BJ.on (w0 := w) (A := A) (l := l) (c := c) (sh := sh) (a := a) (n := n) (nm := nm) (own := own) (x := x) (s := s) (r := r) (q := q) fun w1 hj => check_calls A c l 1 sh a n nm w1 hj.tabs hj.row hl hG h1 h2 ha hn)
  have K2 := Aside0.mk (BJ.on (w0 := w) (A := A) (l := l) (c := c) (sh := sh) (a := a) (n := n) (nm := nm) (own := own) (x := x) (s := s) (r := r) (q := q) fun w1 hj => rcheck_calls A c l 1 sh a n nm w1 hj.tabs hj.row hl hG h1 h2 ha hn)
  have K3 := Aside0.mk (BJ.on (w0 := w) (A := A) (l := l) (c := c) (sh := sh) (a := a) (n := n) (nm := nm) (own := own) (x := x) (s := s) (r := r) (q := q) fun w1 hj => cell_calls A c l 1 sh a n nm s r q w1 hj.tabs hj.row hl hG h1 h2 ha hn)
  have K4 := Aside0.mk (BJ.on (w0 := w) (A := A) (l := l) (c := c) (sh := sh) (a := a) (n := n) (nm := nm) (own := own) (x := x) (s := s) (r := r) (q := q) fun w1 hj => cell_calls A c l 2 sh a n nm s' r' q' w1 hj.tabs hj.row hl hG h1 h2 ha hn)
  rw [hz] at K1
  obtain ⟨m, hm, hmx⟩ := norm_is x
  have KN := Aside0.mk (BJ.on (w0 := w) (A := A) (l := l) (c := c) (sh := sh) (a := a) (n := n) (nm := nm) (own := own) (x := x) (s := s) (r := r) (q := q) fun w1 hj => gridironref11_Norm.calls x.s x.t x.f x.e x.r x.q x.u x.v x.r2 x.q2 x.u2 x.v2 m.s m.t m.f m.e m.r m.q m.u m.v m.r2 m.q2 m.u2 m.v2 w1 hm)
  rw [ho] at K3
  rw [cell_back ho] at K4
  unfold cellV at K3 K4
  have KR := Aside0.mk (BJ.on (w0 := w) (A := A) (l := l) (c := c) (sh := sh) (a := a) (n := n) (nm := nm) (own := own) (x := x) (s := s) (r := r) (q := q) fun w1 hj => rrcheck_ok x w1 hj.tabs hs ht hx)
  obtain ⟨k1, k2, k3, _⟩ := chk_ok hz
  obtain ⟨n1, a0, an⟩ := k3 (by omega)
  have ho4 := (corB_iff _ _).1 hx.2.2.2.1
  have hr2 : 0 ≤ x.r2 ∧ x.r2 < 1048576 := by
    obtain ⟨_, _, _, _, o5, o6⟩ := hx
    cases he : x.e with
    | true => have := (corB_iff _ _).1 (o5 he); omega
    | false => have := (o6 he).1; omega
  rw [← hmx] at hc hc2
  have t1 : decide (a ≤ max m.r m.r2) = true := decide_eq_true hc
  have t2 : IntKind.i64.wrap (max m.r m.r2 + n) = max m.r m.r2 + n := IntWalk.i64_in _ (by omega)
  have t2w : wrap64 (max m.r m.r2 + n) = max m.r m.r2 + n := w64 (by omega)
  have t3 : decide (1048576 ≤ max m.r m.r2 + n) = true := decide_eq_true hc2
  clear k1 k2 k3
  clear hz hm hmx ho hx
  have HJ : Aside0 (BJ w A l c sh a n nm own x s r q _) := ⟨BJ.start hC hr⟩
  clear hC hr
  go_enter Tryd.func5, Tryd.ntmps5
  go_wp2_with (first
    | (go_at_call 11; refine (K1.out _ HJ.out).mono ?_; rintro e w2 ⟨rfl, hb2⟩; have HJ' := Aside0.mk (HJ.out.go hb2.out); clear HJ; have HJ := HJ'; clear HJ'; obtain ⟨c0, c1, c2, c3, c4, c5, c6⟩ := case7 HJ.out.box0; obtain ⟨d0, d1, d2, d3, d4, d5, d6, d7, d8, d9, d10, d11⟩ := rfc HJ.out.box1; obtain ⟨e0, e1, e2⟩ := ad3 HJ.out.box2; obtain ⟨f0, f1, f2, f3, f4⟩ := shx _ _ _ _ _ _ HJ.out.box3; clear hb2)
    | (go_at_call 10; refine (K0.out _ HJ.out).mono ?_; rintro e w2 ⟨rfl, hb2⟩; have HJ' := Aside0.mk (HJ.out.go hb2.out); clear HJ; have HJ := HJ'; clear HJ'; obtain ⟨c0, c1, c2, c3, c4, c5, c6⟩ := case7 HJ.out.box0; obtain ⟨d0, d1, d2, d3, d4, d5, d6, d7, d8, d9, d10, d11⟩ := rfc HJ.out.box1; obtain ⟨e0, e1, e2⟩ := ad3 HJ.out.box2; obtain ⟨f0, f1, f2, f3, f4⟩ := shx _ _ _ _ _ _ HJ.out.box3; clear hb2)
    | (go_at_call 8; first | ((with_reducible refine (K3.out _ HJ.out).mono ?_); rintro e w2 ⟨rfl, hb2⟩; have HJ' := Aside0.mk ((HJ.out.go hb2.out).alloc (.cells #[.int .i64 s', .int .i64 r', .int .i64 q'] 28)); clear HJ; have HJ := HJ'; clear HJ'; obtain ⟨c0, c1, c2, c3, c4, c5, c6⟩ := case7 HJ.out.box0; obtain ⟨d0, d1, d2, d3, d4, d5, d6, d7, d8, d9, d10, d11⟩ := rfc HJ.out.box1; obtain ⟨e0, e1, e2⟩ := ad3 HJ.out.box2; obtain ⟨f0, f1, f2, f3, f4⟩ := shx _ _ _ _ _ _ HJ.out.box3; have HX := Aside0.mk (blk_new w2 (.cells #[.int .i64 s', .int .i64 r', .int .i64 q'] 28)); obtain ⟨x0, x1, x2⟩ := ad3 HX.out; clear hb2 HX) | ((with_reducible refine (K4.out _ HJ.out).mono ?_); rintro e w2 ⟨rfl, hb2⟩; have HJ' := Aside0.mk ((HJ.out.go hb2.out).alloc (.cells #[.int .i64 s, .int .i64 r, .int .i64 q] 28)); clear HJ; have HJ := HJ'; clear HJ'; obtain ⟨c0, c1, c2, c3, c4, c5, c6⟩ := case7 HJ.out.box0; obtain ⟨d0, d1, d2, d3, d4, d5, d6, d7, d8, d9, d10, d11⟩ := rfc HJ.out.box1; obtain ⟨e0, e1, e2⟩ := ad3 HJ.out.box2; obtain ⟨f0, f1, f2, f3, f4⟩ := shx _ _ _ _ _ _ HJ.out.box3; have HX := Aside0.mk (blk_new w2 (.cells #[.int .i64 s, .int .i64 r, .int .i64 q] 28)); obtain ⟨x0, x1, x2⟩ := ad3 HX.out; clear hb2 HX))
    | (go_at_call 13; refine (KN.out _ HJ.out).mono ?_; rintro e w2 ⟨rfl, hb2⟩; have HJ' := Aside0.mk ((HJ.out.go hb2.out).alloc (.cells m.cs 37)); clear HJ; have HJ := HJ'; clear HJ'; obtain ⟨c0, c1, c2, c3, c4, c5, c6⟩ := case7 HJ.out.box0; obtain ⟨d0, d1, d2, d3, d4, d5, d6, d7, d8, d9, d10, d11⟩ := rfc HJ.out.box1; obtain ⟨e0, e1, e2⟩ := ad3 HJ.out.box2; obtain ⟨f0, f1, f2, f3, f4⟩ := shx _ _ _ _ _ _ HJ.out.box3; have HM := Aside0.mk (blk_new w2 (.cells m.cs 37)); clear hb2)
    | (go_at_call 14; refine (KR.out _ HJ.out).mono ?_; rintro e w2 ⟨rfl, hb2⟩; obtain ⟨m0, m1, m2, m3, m4, m5, m6, m7, m8, m9, m10, m11⟩ := rfc (blk_below HM.out hb2.out); have HJ' := Aside0.mk (HJ.out.go hb2.out); clear HJ; have HJ := HJ'; clear HJ'; obtain ⟨c0, c1, c2, c3, c4, c5, c6⟩ := case7 HJ.out.box0; obtain ⟨d0, d1, d2, d3, d4, d5, d6, d7, d8, d9, d10, d11⟩ := rfc HJ.out.box1; obtain ⟨e0, e1, e2⟩ := ad3 HJ.out.box2; obtain ⟨f0, f1, f2, f3, f4⟩ := shx _ _ _ _ _ _ HJ.out.box3; clear hb2 HM))
  go_ret
  exact ⟨rfl, HJ.out.below⟩
set_option maxRecDepth 100000 in
set_option maxHeartbeats 16000000 in
theorem back_some_ok (A : Option Addr) (c : Nat) (l : List ByteArray) (k0 : Int) (sh : ByteArray) (a n : Int) (nm own : ByteArray) (x : Rf) (s r q : Int) (w : World) (hC : ChW w) (hr : Kd.C Kd.string w A l.length l) (hl : l.length ≤ 140737488351232) (hG : Small l) (h1 : sh.size ≤ 140737488351232) (h2 : nm.size ≤ 140737488351232) (h3 : own.size ≤ 140737488351232) (hs : x.s.size ≤ 140737488351232) (ht : x.t.size ≤ 140737488351232)
    (ha : -9223372036854775808 ≤ a ∧ a ≤ 9223372036854775807) (hn : -9223372036854775808 ≤ n ∧ n ≤ 9223372036854775807) (hxr : -9223372036854775808 ≤ x.r ∧ x.r ≤ 9223372036854775807) (hxr2 : -9223372036854775808 ≤ x.r2 ∧ x.r2 ≤ 9223372036854775807) (hz : chkI 1 a n l.length (fnd l sh) (fnd l nm) (nmOK nm) = 0) (s' r' q' : Int) (ho : cellI 1 a n l.length (fnd l sh) (fnd l nm) (nmOK nm) s r q = some (s', r', q')) (hx : okR x) (hc : a ≤ max x.r x.r2 → max x.r x.r2 + n < 1048576) :
    Calls Tryd.prog 5 #[.agg #[.slice A l.length c, .int .i64 k0, .string sh, .int .i64 a, .int .i64 n, .string nm, .string own], .agg x.cs, .agg #[.int .i64 s, .int .i64 r, .int .i64 q]] w fun e w' => e = .returned (.bool true) ∧ Below w.heap.size w w' := by
  have K0 := Aside0.mk (BJ.on (w0 := w) (A := A) (l := l) (c := c) (sh := sh) (a := a) (n := n) (nm := nm) (own := own) (x := x) (s := s) (r := r) (q := q) fun w1 hj => live15_calls w1 hj.tabs)
  have K1 := Aside0.mk (BJ.on (w0 := w) (A := A) (l := l) (c := c) (sh := sh) (a := a) (n := n) (nm := nm) (own := own) (x := x) (s := s) (r := r) (q := q) fun w1 hj => check_calls A c l 1 sh a n nm w1 hj.tabs hj.row hl hG h1 h2 ha hn)
  have K2 := Aside0.mk (BJ.on (w0 := w) (A := A) (l := l) (c := c) (sh := sh) (a := a) (n := n) (nm := nm) (own := own) (x := x) (s := s) (r := r) (q := q) fun w1 hj => rcheck_calls A c l 1 sh a n nm w1 hj.tabs hj.row hl hG h1 h2 ha hn)
  have K3 := Aside0.mk (BJ.on (w0 := w) (A := A) (l := l) (c := c) (sh := sh) (a := a) (n := n) (nm := nm) (own := own) (x := x) (s := s) (r := r) (q := q) fun w1 hj => cell_calls A c l 1 sh a n nm s r q w1 hj.tabs hj.row hl hG h1 h2 ha hn)
  have K4 := Aside0.mk (BJ.on (w0 := w) (A := A) (l := l) (c := c) (sh := sh) (a := a) (n := n) (nm := nm) (own := own) (x := x) (s := s) (r := r) (q := q) fun w1 hj => cell_calls A c l 2 sh a n nm s' r' q' w1 hj.tabs hj.row hl hG h1 h2 ha hn)
  rw [hz] at K1
  obtain ⟨m, hm, hmx⟩ := norm_is x
  have KN := Aside0.mk (BJ.on (w0 := w) (A := A) (l := l) (c := c) (sh := sh) (a := a) (n := n) (nm := nm) (own := own) (x := x) (s := s) (r := r) (q := q) fun w1 hj => gridironref11_Norm.calls x.s x.t x.f x.e x.r x.q x.u x.v x.r2 x.q2 x.u2 x.v2 m.s m.t m.f m.e m.r m.q m.u m.v m.r2 m.q2 m.u2 m.v2 w1 hm)
  rw [ho] at K3
  rw [cell_back ho] at K4
  unfold cellV at K3 K4
  have KR := Aside0.mk (BJ.on (w0 := w) (A := A) (l := l) (c := c) (sh := sh) (a := a) (n := n) (nm := nm) (own := own) (x := x) (s := s) (r := r) (q := q) fun w1 hj => rrcheck_ok x w1 hj.tabs hs ht hx)
  obtain ⟨k1, k2, k3, _⟩ := chk_ok hz
  obtain ⟨n1, a0, an⟩ := k3 (by omega)
  have ho4 := (corB_iff _ _).1 hx.2.2.2.1
  have hr2 : 0 ≤ x.r2 ∧ x.r2 < 1048576 := by
    obtain ⟨_, _, _, _, o5, o6⟩ := hx
    cases he : x.e with
    | true => have := (corB_iff _ _).1 (o5 he); omega
    | false => have := (o6 he).1; omega
  obtain ⟨y, hy1, hy2⟩ := ref_back A c l sh a n nm own x hl hG h1 h2 h3 hs ht ha hn hz hx hc
  have KY := Aside0.mk (BJ.on (w0 := w) (A := A) (l := l) (c := c) (sh := sh) (a := a) (n := n) (nm := nm) (own := own) (x := x) (s := s) (r := r) (q := q) fun w1 hj => hy1 w1 hj.tabs hj.row)
  have KZ := Aside0.mk (BJ.on (w0 := w) (A := A) (l := l) (c := c) (sh := sh) (a := a) (n := n) (nm := nm) (own := own) (x := x) (s := s) (r := r) (q := q) fun w1 hj => hy2 w1 hj.tabs hj.row)
  rw [← hmx] at hc
  have hcc : (a ≤ max m.r m.r2 ∧ max m.r m.r2 + n < 1048576) ∨ max m.r m.r2 < a := by
    by_cases g : a ≤ max m.r m.r2
    · exact .inl ⟨g, hc g⟩
    · exact .inr (by omega)
  have t2 : IntKind.i64.wrap (max m.r m.r2 + n) = max m.r m.r2 + n := IntWalk.i64_in _ (by omega)
  have t2w : wrap64 (max m.r m.r2 + n) = max m.r m.r2 + n := w64 (by omega)
  clear hy1 hy2 hc k1 k2 k3
  clear hz hm hmx ho hx
  have HJ : Aside0 (BJ w A l c sh a n nm own x s r q _) := ⟨BJ.start hC hr⟩
  clear hC hr
  rcases hcc with ⟨g1, g2⟩ | g1
  · have t1 : decide (a ≤ max m.r m.r2) = true := decide_eq_true g1
    have t3 : decide (1048576 ≤ max m.r m.r2 + n) = false := decide_eq_false (by omega)
    go_enter Tryd.func5, Tryd.ntmps5
    go_wp2_with (first
      | (go_at_call 11; refine (K1.out _ HJ.out).mono ?_; rintro e w2 ⟨rfl, hb2⟩; have HJ' := Aside0.mk (HJ.out.go hb2.out); clear HJ; have HJ := HJ'; clear HJ'; obtain ⟨c0, c1, c2, c3, c4, c5, c6⟩ := case7 HJ.out.box0; obtain ⟨d0, d1, d2, d3, d4, d5, d6, d7, d8, d9, d10, d11⟩ := rfc HJ.out.box1; obtain ⟨e0, e1, e2⟩ := ad3 HJ.out.box2; obtain ⟨f0, f1, f2, f3, f4⟩ := shx _ _ _ _ _ _ HJ.out.box3; clear hb2)
      | (go_at_call 10; refine (K0.out _ HJ.out).mono ?_; rintro e w2 ⟨rfl, hb2⟩; have HJ' := Aside0.mk (HJ.out.go hb2.out); clear HJ; have HJ := HJ'; clear HJ'; obtain ⟨c0, c1, c2, c3, c4, c5, c6⟩ := case7 HJ.out.box0; obtain ⟨d0, d1, d2, d3, d4, d5, d6, d7, d8, d9, d10, d11⟩ := rfc HJ.out.box1; obtain ⟨e0, e1, e2⟩ := ad3 HJ.out.box2; obtain ⟨f0, f1, f2, f3, f4⟩ := shx _ _ _ _ _ _ HJ.out.box3; clear hb2)
      | (go_at_call 8; first | ((with_reducible refine (K3.out _ HJ.out).mono ?_); rintro e w2 ⟨rfl, hb2⟩; have HJ' := Aside0.mk ((HJ.out.go hb2.out).alloc (.cells #[.int .i64 s', .int .i64 r', .int .i64 q'] 28)); clear HJ; have HJ := HJ'; clear HJ'; obtain ⟨c0, c1, c2, c3, c4, c5, c6⟩ := case7 HJ.out.box0; obtain ⟨d0, d1, d2, d3, d4, d5, d6, d7, d8, d9, d10, d11⟩ := rfc HJ.out.box1; obtain ⟨e0, e1, e2⟩ := ad3 HJ.out.box2; obtain ⟨f0, f1, f2, f3, f4⟩ := shx _ _ _ _ _ _ HJ.out.box3; have HX := Aside0.mk (blk_new w2 (.cells #[.int .i64 s', .int .i64 r', .int .i64 q'] 28)); obtain ⟨x0, x1, x2⟩ := ad3 HX.out; clear hb2 HX) | ((with_reducible refine (K4.out _ HJ.out).mono ?_); rintro e w2 ⟨rfl, hb2⟩; have HJ' := Aside0.mk ((HJ.out.go hb2.out).alloc (.cells #[.int .i64 s, .int .i64 r, .int .i64 q] 28)); clear HJ; have HJ := HJ'; clear HJ'; obtain ⟨c0, c1, c2, c3, c4, c5, c6⟩ := case7 HJ.out.box0; obtain ⟨d0, d1, d2, d3, d4, d5, d6, d7, d8, d9, d10, d11⟩ := rfc HJ.out.box1; obtain ⟨e0, e1, e2⟩ := ad3 HJ.out.box2; obtain ⟨f0, f1, f2, f3, f4⟩ := shx _ _ _ _ _ _ HJ.out.box3; have HX := Aside0.mk (blk_new w2 (.cells #[.int .i64 s, .int .i64 r, .int .i64 q] 28)); obtain ⟨x0, x1, x2⟩ := ad3 HX.out; clear hb2 HX))
      | (go_at_call 13; refine (KN.out _ HJ.out).mono ?_; rintro e w2 ⟨rfl, hb2⟩; have HJ' := Aside0.mk ((HJ.out.go hb2.out).alloc (.cells m.cs 37)); clear HJ; have HJ := HJ'; clear HJ'; obtain ⟨c0, c1, c2, c3, c4, c5, c6⟩ := case7 HJ.out.box0; obtain ⟨d0, d1, d2, d3, d4, d5, d6, d7, d8, d9, d10, d11⟩ := rfc HJ.out.box1; obtain ⟨e0, e1, e2⟩ := ad3 HJ.out.box2; obtain ⟨f0, f1, f2, f3, f4⟩ := shx _ _ _ _ _ _ HJ.out.box3; have HM := Aside0.mk (blk_new w2 (.cells m.cs 37)); clear hb2)
      | (go_at_call 14; refine (KR.out _ HJ.out).mono ?_; rintro e w2 ⟨rfl, hb2⟩; obtain ⟨m0, m1, m2, m3, m4, m5, m6, m7, m8, m9, m10, m11⟩ := rfc (blk_below HM.out hb2.out); have HJ' := Aside0.mk (HJ.out.go hb2.out); clear HJ; have HJ := HJ'; clear HJ'; obtain ⟨c0, c1, c2, c3, c4, c5, c6⟩ := case7 HJ.out.box0; obtain ⟨d0, d1, d2, d3, d4, d5, d6, d7, d8, d9, d10, d11⟩ := rfc HJ.out.box1; obtain ⟨e0, e1, e2⟩ := ad3 HJ.out.box2; obtain ⟨f0, f1, f2, f3, f4⟩ := shx _ _ _ _ _ _ HJ.out.box3; clear hb2 HM)
      | (go_at_call 15; first | ((with_reducible refine (KY.out _ HJ.out).mono ?_); rintro e w2 ⟨rfl, hb2⟩; have HJ' := Aside0.mk ((HJ.out.go hb2.out).alloc (.cells y.cs 37)); clear HJ; have HJ := HJ'; clear HJ'; obtain ⟨c0, c1, c2, c3, c4, c5, c6⟩ := case7 HJ.out.box0; obtain ⟨d0, d1, d2, d3, d4, d5, d6, d7, d8, d9, d10, d11⟩ := rfc HJ.out.box1; obtain ⟨e0, e1, e2⟩ := ad3 HJ.out.box2; obtain ⟨f0, f1, f2, f3, f4⟩ := shx _ _ _ _ _ _ HJ.out.box3; have HX := Aside0.mk (blk_new w2 (.cells y.cs 37)); obtain ⟨y0, y1, y2, y3, y4, y5, y6, y7, y8, y9, y10, y11⟩ := rfc HX.out; clear hb2 HX) | ((with_reducible refine (KZ.out _ HJ.out).mono ?_); rintro e w2 ⟨rfl, hb2⟩; have HJ' := Aside0.mk ((HJ.out.go hb2.out).alloc (.cells x.cs 37)); clear HJ; have HJ := HJ'; clear HJ'; obtain ⟨c0, c1, c2, c3, c4, c5, c6⟩ := case7 HJ.out.box0; obtain ⟨d0, d1, d2, d3, d4, d5, d6, d7, d8, d9, d10, d11⟩ := rfc HJ.out.box1; obtain ⟨e0, e1, e2⟩ := ad3 HJ.out.box2; obtain ⟨f0, f1, f2, f3, f4⟩ := shx _ _ _ _ _ _ HJ.out.box3; have HX := Aside0.mk (blk_new w2 (.cells x.cs 37)); obtain ⟨y0, y1, y2, y3, y4, y5, y6, y7, y8, y9, y10, y11⟩ := rfc HX.out; clear hb2 HX)))
    go_ret
    exact ⟨rfl, HJ.out.below⟩
  · have t1 : decide (a ≤ max m.r m.r2) = false := decide_eq_false (by omega)
    go_enter Tryd.func5, Tryd.ntmps5
    go_wp2_with (first
      | (go_at_call 11; refine (K1.out _ HJ.out).mono ?_; rintro e w2 ⟨rfl, hb2⟩; have HJ' := Aside0.mk (HJ.out.go hb2.out); clear HJ; have HJ := HJ'; clear HJ'; obtain ⟨c0, c1, c2, c3, c4, c5, c6⟩ := case7 HJ.out.box0; obtain ⟨d0, d1, d2, d3, d4, d5, d6, d7, d8, d9, d10, d11⟩ := rfc HJ.out.box1; obtain ⟨e0, e1, e2⟩ := ad3 HJ.out.box2; obtain ⟨f0, f1, f2, f3, f4⟩ := shx _ _ _ _ _ _ HJ.out.box3; clear hb2)
      | (go_at_call 10; refine (K0.out _ HJ.out).mono ?_; rintro e w2 ⟨rfl, hb2⟩; have HJ' := Aside0.mk (HJ.out.go hb2.out); clear HJ; have HJ := HJ'; clear HJ'; obtain ⟨c0, c1, c2, c3, c4, c5, c6⟩ := case7 HJ.out.box0; obtain ⟨d0, d1, d2, d3, d4, d5, d6, d7, d8, d9, d10, d11⟩ := rfc HJ.out.box1; obtain ⟨e0, e1, e2⟩ := ad3 HJ.out.box2; obtain ⟨f0, f1, f2, f3, f4⟩ := shx _ _ _ _ _ _ HJ.out.box3; clear hb2)
      | (go_at_call 8; first | ((with_reducible refine (K3.out _ HJ.out).mono ?_); rintro e w2 ⟨rfl, hb2⟩; have HJ' := Aside0.mk ((HJ.out.go hb2.out).alloc (.cells #[.int .i64 s', .int .i64 r', .int .i64 q'] 28)); clear HJ; have HJ := HJ'; clear HJ'; obtain ⟨c0, c1, c2, c3, c4, c5, c6⟩ := case7 HJ.out.box0; obtain ⟨d0, d1, d2, d3, d4, d5, d6, d7, d8, d9, d10, d11⟩ := rfc HJ.out.box1; obtain ⟨e0, e1, e2⟩ := ad3 HJ.out.box2; obtain ⟨f0, f1, f2, f3, f4⟩ := shx _ _ _ _ _ _ HJ.out.box3; have HX := Aside0.mk (blk_new w2 (.cells #[.int .i64 s', .int .i64 r', .int .i64 q'] 28)); obtain ⟨x0, x1, x2⟩ := ad3 HX.out; clear hb2 HX) | ((with_reducible refine (K4.out _ HJ.out).mono ?_); rintro e w2 ⟨rfl, hb2⟩; have HJ' := Aside0.mk ((HJ.out.go hb2.out).alloc (.cells #[.int .i64 s, .int .i64 r, .int .i64 q] 28)); clear HJ; have HJ := HJ'; clear HJ'; obtain ⟨c0, c1, c2, c3, c4, c5, c6⟩ := case7 HJ.out.box0; obtain ⟨d0, d1, d2, d3, d4, d5, d6, d7, d8, d9, d10, d11⟩ := rfc HJ.out.box1; obtain ⟨e0, e1, e2⟩ := ad3 HJ.out.box2; obtain ⟨f0, f1, f2, f3, f4⟩ := shx _ _ _ _ _ _ HJ.out.box3; have HX := Aside0.mk (blk_new w2 (.cells #[.int .i64 s, .int .i64 r, .int .i64 q] 28)); obtain ⟨x0, x1, x2⟩ := ad3 HX.out; clear hb2 HX))
      | (go_at_call 13; refine (KN.out _ HJ.out).mono ?_; rintro e w2 ⟨rfl, hb2⟩; have HJ' := Aside0.mk ((HJ.out.go hb2.out).alloc (.cells m.cs 37)); clear HJ; have HJ := HJ'; clear HJ'; obtain ⟨c0, c1, c2, c3, c4, c5, c6⟩ := case7 HJ.out.box0; obtain ⟨d0, d1, d2, d3, d4, d5, d6, d7, d8, d9, d10, d11⟩ := rfc HJ.out.box1; obtain ⟨e0, e1, e2⟩ := ad3 HJ.out.box2; obtain ⟨f0, f1, f2, f3, f4⟩ := shx _ _ _ _ _ _ HJ.out.box3; have HM := Aside0.mk (blk_new w2 (.cells m.cs 37)); clear hb2)
      | (go_at_call 14; refine (KR.out _ HJ.out).mono ?_; rintro e w2 ⟨rfl, hb2⟩; obtain ⟨m0, m1, m2, m3, m4, m5, m6, m7, m8, m9, m10, m11⟩ := rfc (blk_below HM.out hb2.out); have HJ' := Aside0.mk (HJ.out.go hb2.out); clear HJ; have HJ := HJ'; clear HJ'; obtain ⟨c0, c1, c2, c3, c4, c5, c6⟩ := case7 HJ.out.box0; obtain ⟨d0, d1, d2, d3, d4, d5, d6, d7, d8, d9, d10, d11⟩ := rfc HJ.out.box1; obtain ⟨e0, e1, e2⟩ := ad3 HJ.out.box2; obtain ⟨f0, f1, f2, f3, f4⟩ := shx _ _ _ _ _ _ HJ.out.box3; clear hb2 HM)
      | (go_at_call 15; first | ((with_reducible refine (KY.out _ HJ.out).mono ?_); rintro e w2 ⟨rfl, hb2⟩; have HJ' := Aside0.mk ((HJ.out.go hb2.out).alloc (.cells y.cs 37)); clear HJ; have HJ := HJ'; clear HJ'; obtain ⟨c0, c1, c2, c3, c4, c5, c6⟩ := case7 HJ.out.box0; obtain ⟨d0, d1, d2, d3, d4, d5, d6, d7, d8, d9, d10, d11⟩ := rfc HJ.out.box1; obtain ⟨e0, e1, e2⟩ := ad3 HJ.out.box2; obtain ⟨f0, f1, f2, f3, f4⟩ := shx _ _ _ _ _ _ HJ.out.box3; have HX := Aside0.mk (blk_new w2 (.cells y.cs 37)); obtain ⟨y0, y1, y2, y3, y4, y5, y6, y7, y8, y9, y10, y11⟩ := rfc HX.out; clear hb2 HX) | ((with_reducible refine (KZ.out _ HJ.out).mono ?_); rintro e w2 ⟨rfl, hb2⟩; have HJ' := Aside0.mk ((HJ.out.go hb2.out).alloc (.cells x.cs 37)); clear HJ; have HJ := HJ'; clear HJ'; obtain ⟨c0, c1, c2, c3, c4, c5, c6⟩ := case7 HJ.out.box0; obtain ⟨d0, d1, d2, d3, d4, d5, d6, d7, d8, d9, d10, d11⟩ := rfc HJ.out.box1; obtain ⟨e0, e1, e2⟩ := ad3 HJ.out.box2; obtain ⟨f0, f1, f2, f3, f4⟩ := shx _ _ _ _ _ _ HJ.out.box3; have HX := Aside0.mk (blk_new w2 (.cells x.cs 37)); obtain ⟨y0, y1, y2, y3, y4, y5, y6, y7, y8, y9, y10, y11⟩ := rfc HX.out; clear hb2 HX)))
    go_ret
    exact ⟨rfl, HJ.out.below⟩
abbrev kdCorner := Kd.pair (Kd.int .i64) (Kd.pair (Kd.int .i64) (Kd.pair Kd.bool Kd.bool))
abbrev kdRef := Kd.pair Kd.string (Kd.pair Kd.string (Kd.pair Kd.bool (Kd.pair Kd.bool (Kd.pair kdCorner kdCorner))))
abbrev TRef := ByteArray × ByteArray × Bool × Bool × (Int × Int × Bool × Bool) × (Int × Int × Bool × Bool)
/-- What a reference that may be read has. -/
def GRef (x : TRef) : Prop := x.1.size ≤ 140737488351232 ∧ x.2.1.size ≤ 140737488351232 ∧ True ∧ True ∧ ((Lit.int .i64 x.2.2.2.2.1.1).wf = true ∧ (Lit.int .i64 x.2.2.2.2.1.2.1).wf = true ∧ True ∧ True) ∧ ((Lit.int .i64 x.2.2.2.2.2.1).wf = true ∧ (Lit.int .i64 x.2.2.2.2.2.2.1).wf = true ∧ True ∧ True)
section
variable {H : Type} {enc : TypeId × Value → H} {w : World}
set_option maxRecDepth 100000 in
theorem opens_corner : Opens enc Tryd.prog w 35 kdCorner (fun x => (Lit.int .i64 x.1).wf = true ∧ (Lit.int .i64 x.2.1).wf = true ∧ True ∧ True) := by
  refine opens_struct Tryd.underlying35 (by kernel_rfl) (opensF_cons (opens_int Tryd.underlying3) rfl (by kernel_rfl) rfl (opensF_cons (opens_int Tryd.underlying3) rfl (by kernel_rfl) rfl (opensF_cons (opens_bool Tryd.underlying4) rfl (by kernel_rfl) rfl (opensF_one (opens_bool Tryd.underlying4) rfl (by kernel_rfl)))))
set_option maxRecDepth 100000 in
theorem opens_ref : Opens enc Tryd.prog w 37 kdRef GRef := by
  refine (opens_struct Tryd.underlying37 (by kernel_rfl) (opensF_cons (opens_string Tryd.underlying9) rfl (by kernel_rfl) rfl (opensF_cons (opens_string Tryd.underlying9) rfl (by kernel_rfl) rfl (opensF_cons (opens_bool Tryd.underlying4) rfl (by kernel_rfl) rfl (opensF_cons (opens_bool Tryd.underlying4) rfl (by kernel_rfl) rfl (opensF_cons opens_corner rfl (by kernel_rfl) rfl (opensF_one opens_corner rfl (by kernel_rfl)))))))).imp ?_
  rintro ⟨x1, x2, x3, x4, x5, x6⟩ ⟨h1, h2, h3, h4, h5, h6⟩
  exact ⟨h1, h2, h3, h4, h5, h6⟩
end
def rfOf (x : TRef) : Rf := ⟨x.1, x.2.1, x.2.2.1, x.2.2.2.1, x.2.2.2.2.1.1, x.2.2.2.2.1.2.1, x.2.2.2.2.1.2.2.1, x.2.2.2.2.1.2.2.2, x.2.2.2.2.2.1, x.2.2.2.2.2.2.1, x.2.2.2.2.2.2.2.1, x.2.2.2.2.2.2.2.2⟩
theorem ref_cells {w : World} {x : TRef} {cs : Array Value} (h : kdRef.K w x cs.toList) : cs = (rfOf x).cs := by
  obtain ⟨_, _, h1, e1, _, _, rfl, e2, _, _, rfl, e3, _, _, rfl, e4, _, _, rfl, ⟨_, _, rfl, a1, _, _, rfl, a2, _, _, rfl, a3, a4⟩, ⟨_, _, rfl, b1, _, _, rfl, b2, _, _, rfl, b3, b4⟩⟩ := h
  obtain rfl := (show _ = _ from e1); obtain rfl := (show _ = _ from e2); obtain rfl := (show _ = _ from e3); obtain rfl := (show _ = _ from e4)
  obtain rfl := (show _ = _ from a1); obtain rfl := (show _ = _ from a2); obtain rfl := (show _ = _ from a3); obtain rfl := (show _ = _ from a4)
  obtain rfl := (show _ = _ from b1); obtain rfl := (show _ = _ from b2); obtain rfl := (show _ = _ from b3); obtain rfl := (show _ = _ from b4)
  cases cs; simpa [rfOf, Rf.cs] using h1
theorem shiftBack_walk (w : World) (hC : ChW w) (cs0 : Array Value) (x0 : List ByteArray × (Int × ByteArray × Int × Int × ByteArray) × ByteArray) (hK0 : kdCase.K w x0 cs0.toList) (hG0 : GCase x0) (cs1 : Array Value) (x1 : TRef) (hK1 : kdRef.K w x1 cs1.toList) (hG1 : GRef x1) (cs2 : Array Value) (x2 : Int × Int × Int) (hK2 : kdAddr.K w x2 cs2.toList) (hG2 : GAddr x2) :
    Calls Tryd.prog 5 #[.agg cs0, .agg cs1, .agg cs2] w fun e w' => e = .returned (.bool true) ∧ Below w.heap.size w w' := by
  obtain ⟨A, c, rfl, hc, hr⟩ := case_cells hK0
  obtain rfl := ref_cells hK1
  obtain rfl := addr_cells hK2
  obtain ⟨l, ⟨k, sh, a, n, nm⟩, own⟩ := x0
  obtain ⟨s, r, q⟩ := x2
  obtain ⟨hl, hG, ⟨_, h1, wa, wn, h2⟩, h3⟩ := hG0
  obtain ⟨hs, ht, _, _, ⟨wr, _⟩, ⟨wr2, _⟩⟩ := hG1
  by_cases hz : chkI 1 a n l.length (fnd l sh) (fnd l nm) (nmOK nm) = 0
  · by_cases hx : okR (rfOf x1)
    · by_cases hc : a ≤ max (rfOf x1).r (rfOf x1).r2 → max (rfOf x1).r (rfOf x1).r2 + n < 1048576
      · cases ho : cellI 1 a n l.length (fnd l sh) (fnd l nm) (nmOK nm) s r q with
        | none => exact back_none_ok A c l k sh a n nm own (rfOf x1) s r q w hC hr hl hG h1 h2 h3 hs ht (wf64 wa) (wf64 wn) (wf64 wr) (wf64 wr2) hz ho hx hc
        | some o => exact back_some_ok A c l k sh a n nm own (rfOf x1) s r q w hC hr hl hG h1 h2 h3 hs ht (wf64 wa) (wf64 wn) (wf64 wr) (wf64 wr2) hz o.1 o.2.1 o.2.2 ho hx hc
      · have g1 : a ≤ max (rfOf x1).r (rfOf x1).r2 := Classical.byContradiction fun h => hc fun h' => absurd h' h
        have g2 : 1048576 ≤ max (rfOf x1).r (rfOf x1).r2 + n := Int.not_lt.1 fun h => hc fun _ => h
        cases ho : cellI 1 a n l.length (fnd l sh) (fnd l nm) (nmOK nm) s r q with
        | none => exact back_none_out A c l k sh a n nm own (rfOf x1) s r q w hC hr hl hG h1 h2 h3 hs ht (wf64 wa) (wf64 wn) (wf64 wr) (wf64 wr2) hz ho hx g1 g2
        | some o => exact back_some_out A c l k sh a n nm own (rfOf x1) s r q w hC hr hl hG h1 h2 h3 hs ht (wf64 wa) (wf64 wn) (wf64 wr) (wf64 wr2) hz o.1 o.2.1 o.2.2 ho hx g1 g2
    · cases ho : cellI 1 a n l.length (fnd l sh) (fnd l nm) (nmOK nm) s r q with
      | none => exact back_none_bad A c l k sh a n nm own (rfOf x1) s r q w hC hr hl hG h1 h2 h3 hs ht (wf64 wa) (wf64 wn) (wf64 wr) (wf64 wr2) hz ho hx
      | some o => exact back_some_bad A c l k sh a n nm own (rfOf x1) s r q w hC hr hl hG h1 h2 h3 hs ht (wf64 wa) (wf64 wn) (wf64 wr) (wf64 wr2) hz o.1 o.2.1 o.2.2 ho hx
  · exact back_bad A c l k sh a n nm own (rfOf x1) s r q w hC hr hl hG h1 h2 h3 hs ht (wf64 wa) (wf64 wn) (wf64 wr) (wf64 wr2) hz
end Go.Proofs.YtfkoiebnpgodmaaDoor.Hw
