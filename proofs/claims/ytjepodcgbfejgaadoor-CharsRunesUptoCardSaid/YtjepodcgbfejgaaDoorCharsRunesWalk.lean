import Derived.Sort.BigQuietIn
import Derived.Test.YtjepodcgbfejgaaDoorChI
import Derived.Test.YtjepodcgbfejgaaDoorChR
/- The law CharsRunes, walked. -/
namespace Go.Proofs.YtjepodcgbfejgaaDoor.Hw
open Go.RowKit Go.Proofs.YtjepodcgbfejgaaDoorW.PrintWords Go.Proofs.YtjepodcgbfejgaaDoorW.PrintLast Go.Proofs.YtjepodcgbfejgaaDoorW.PrintMore Go.Proofs.YtjepodcgbfejgaaDoor.PH Go.Proofs.YtjepodcgbfejgaaDoor.CP
open Go.Shelf
set_option linter.unusedVariables false
set_option linter.unusedSimpArgs false
attribute [local go_sem] Oper.semAt_some
theorem runesfn_calls (s : ByteArray) (w : World) :
    Calls Tryd.prog 20 #[.string s] w fun e w' => e = .returned (.func (.func 41) #[] #[.pointer (some ⟨w.heap.size, 0, none⟩)]) ∧ w' = w.alloc (.cells #[.string s] 9) := by
  go_enter Tryd.func20, Tryd.ntmps20
  go_wp2
  go_ret
  exact ⟨rfl, rfl⟩
theorem runes1_stops (s : ByteArray) (hs : s.size ≤ maxLen) (F : Fence) (n : Nat) (hF : F.fn 41) (hro : F.round = none) (hn : 1 ≤ n) (B : Nat) (w : World) (hB : w.cell? ⟨B, 0, none⟩ = some (.string s)) :
    SeqStopsK F n Tryd.prog 41 #[.pointer (some ⟨B, 0, none⟩)] encP KeepsWalks (fun xs => xs = prL s) (fun pre => pre <+: prL s) (prL s).length w := fun l J Jx W hW hJ _ hY h0 =>
  runes1_in F n hF hro hn l B s hs J Jx W hJ hY ((hW.cell (p := ⟨B, 0, none⟩) (lt_of_cell hB)).trans hB) h0
theorem prF_runes (s : ByteArray) : ∀ f p, (prF s f p).map (·.2) = runesF s f p
  | 0, p => rfl
  | f + 1, p => by
    rw [prF, runesF]
    split
    · rw [List.map_cons, prF_runes s f]
    · rfl
theorem prF_places (s : ByteArray) : ∀ f p, (prF s f p).map (·.1) = placesF s f p
  | 0, p => rfl
  | f + 1, p => by
    rw [prF, placesF]
    split
    · rw [List.map_cons, prF_places s f]
    · rfl
/-- The range's law, the round's slots as a function of those ahead of it. -/
theorem rangeT {α : Type} {g : Operand} {ps : Array Tmp} {assign body : Code} {Q : Exit → Act → World → Prop} {T : Array Value} {ds : List Deferred} {w : World} {F : Fence} {n : Nat} {P : Program}
    (hro : F.round = none) (h1 : 1 ≤ n) {gf : Nat} {lb : Array Value} (hg : Act.eval { tmps := T, defers := ds } g = .func (.func gf) #[] lb) (hFg : F.fn gf) (eg : ∀ args w, (callFunc gf args).run P w = .ok (.enter gf args) w)
    {encs : α → Array Value} {S Sp : List α → Prop} {N : Nat} {w0 : World} (hseq : SeqStopsK F (n - 1) P gf lb encs KeepsWalks S Sp N w0) (hb0 : Below w0.heap.size w0 w) (hps : ∀ x, (encs x).size = ps.size)
    (I : List α → World → Prop) (Ix : Code → List α → World → Prop) (hI : OwnFrom w.heap.size I) (hIx : ∀ c, OwnFrom w.heap.size (Ix c)) (h0 : I [] w) (a₁ : Array Value → α → Act)
    (hassign : ∀ (l : Nat) (x : α) (W : World) (K : Act → World → Prop), K (a₁ T x) W →
      assign.wpIn (F.inRound l) (n - 1 - 1) P (Exit.then K (fun _ _ _ => False)) { tmps := (ps.zip (encs x)).foldl (fun t (p, v) => t.setIfInBounds p v) T, defers := [] } W)
    (hbody : ∀ (l : Nat) (pre : List α) (x : α) (W : World), I pre W → pre.length < N → body.wpIn (F.inRound l) (n - 1 - 1) P (ownPostK KeepsWalks I Ix (pre ++ [x]) W) (a₁ T x) W)
    (hdone : ∀ (D : Nat) (xs : List α) (W : World), w.heap.size ≤ D → S xs → I xs W → W.heap[D]? = some (.deferred (some [])) → Q .normal { tmps := T, defers := { target := .collected D, args := #[] } :: ds } W)
    (hstop : ∀ (D : Nat) (c : Code) (pre : List α) (W : World), w.heap.size ≤ D → Sp pre → Ix c pre W → W.heap[D]? = some (.deferred (some [])) → c.wpIn F n P Q { tmps := T, defers := { target := .collected D, args := #[] } :: ds } W) :
    (Code.rangeFunc g ps assign body).wpIn F n P Q { tmps := T, defers := ds } w :=
  wpIn_rangeFunc_ownF hro h1 hg hFg eg hseq walksK_t walksK_b hb0 hps I Ix hI hIx h0 (a₁ T) hassign hbody hdone hstop
/-- A block of one cell. -/
def One (w : World) (g : Nat) (v : Value) (t : TypeId) : Prop := w.heap[g]? = some (.cells #[v] t)
theorem One.lt {w : World} {g : Nat} {v : Value} {t : TypeId} (h : One w g v t) : g < w.heap.size := (Array.getElem?_eq_some_iff.1 h).1
theorem One.cell {w : World} {g : Nat} {v : Value} {t : TypeId} (h : One w g v t) : w.cell? ⟨g, 0, none⟩ = some v := by unfold World.cell?; simp [show w.heap[g]? = _ from h]
theorem One.frozen {w : World} {g : Nat} {v : Value} {t : TypeId} (h : One w g v t) : w.frozen? ⟨g, 0, none⟩ = false := by unfold World.frozen?; simp [show w.heap[g]? = _ from h]
theorem One.new (w : World) (v : Value) (t : TypeId) : One (w.alloc (.cells #[v] t)) w.heap.size v t := World.alloc_heap_new w _
theorem One.below {w w' : World} {g B : Nat} {v : Value} {t : TypeId} (h : One w g v t) (hb : Below B w w') (hg : g < B) : One w' g v t := (hb.block _ hg).trans h
theorem One.set {w : World} {g : Nat} {v : Value} {t : TypeId} (h : One w g v t) (x : Value) : One (w.setCell ⟨g, 0, none⟩ x) g x t := by unfold One at h ⊢; simp [World.setCell, Array.getElem?_modify, h]
theorem One.grown {w w' : World} {g : Nat} {v : Value} {t : TypeId} {row : Option Nat} (h : One w g v t) (hg : w.grownBy w' row) (hr : ∀ r, row = some r → ∃ o : Obj, w.heap[r]? = some o ∧ o.isCells = false) : One w' g v t :=
  (grownBy_keeps_cells hg hr h rfl).trans h
/-- What the law's two rounds go by. -/
structure RnB (w W : World) (s : ByteArray) (a : Int) (b5 b6 b7 : Nat) (A1 A2 : Option Addr) (c1 c2 : Nat) : Prop where
  bel : Below w.heap.size w W
  stop : One W w.heap.size (.int .i64 a) 3
  res : One W (w.heap.size + 1) (.bool false) 4
  want : One W b5 (.slice A1 (runesL s).length c1) 24
  at' : One W b6 (.slice A2 ((placesL s).length + 1) c2) 26
  str : One W b7 (.string s) 9
  rows1 : Kd.C (Kd.int .i32) W A1 (runesL s).length (runesL s)
  rows2 : Kd.C (Kd.int .i64) W A2 (placesL s ++ [(s.size : Int)]).length (placesL s ++ [(s.size : Int)])
theorem RnB.go {w W W' : World} {s : ByteArray} {a : Int} {b5 b6 b7 : Nat} {A1 A2 : Option Addr} {c1 c2 : Nat} (h : RnB w W s a b5 b6 b7 A1 A2 c1 c2) (hb : Below W.heap.size W W') : RnB w W' s a b5 b6 b7 A1 A2 c1 c2 :=
  ⟨h.bel.trans (hb.mono h.bel.size), h.stop.below hb h.stop.lt, h.res.below hb h.res.lt, h.want.below hb h.want.lt, h.at'.below hb h.at'.lt, h.str.below hb h.str.lt, Kd.C_below h.rows1 hb, Kd.C_below h.rows2 hb⟩
theorem w64r {x : Int} (h0 : -9223372036854775808 ≤ x) (h1 : x ≤ 9223372036854775807) : wrap64 x = x := by unfold wrap64; omega
theorem prL_len (s : ByteArray) : (prL s).length = (runesL s).length ∧ (placesL s).length = (runesL s).length := by
  have h1 := congrArg List.length (prF_runes s s.size 0)
  have h2 := congrArg List.length (prF_places s s.size 0)
  rw [List.length_map] at h1 h2
  exact ⟨h1, by unfold placesL runesL; rw [← h1, ← h2]⟩
theorem prL_get (s : ByteArray) (k : Nat) (h : k < (prL s).length) : (prL s)[k] = ((placesL s ++ [(s.size : Int)]).getD k 0, (runesL s).getD k 0) := by
  have hl := prL_len s
  have h1 : (runesL s).getD k 0 = (prL s)[k].2 := by unfold runesL; rw [← prF_runes]; simp [List.getD_eq_getElem?_getD, show k < (prF s s.size 0).length from h]; rfl
  have h2 : (placesL s ++ [(s.size : Int)]).getD k 0 = (prL s)[k].1 := by
    rw [List.getD_eq_getElem?_getD, List.getElem?_append_left (by omega)]
    unfold placesL; rw [← prF_places]; simp [show k < (prF s s.size 0).length from h]; rfl
  rw [h1, h2]
theorem pre_next {L pre : List (Int × Int)} (hp : pre <+: L) (hl : pre.length < L.length) (x : Int × Int) (hx : L[pre.length] = x) : pre ++ [x] <+: L := by
  obtain ⟨t, rfl⟩ := hp
  cases t with
  | nil => simp at hl
  | cons y t =>
    have : (pre ++ y :: t)[pre.length] = y := by simp
    rw [this] at hx
    subst hx
    exact ⟨t, by simp⟩
theorem pre_other {L pre : List (Int × Int)} (x : Int × Int) (hl : pre.length < L.length) (hx : L[pre.length] ≠ x) : ¬ (pre ++ [x] <+: L) := by
  rintro ⟨t, rfl⟩
  simp at hx
set_option maxRecDepth 100000 in
set_option maxHeartbeats 4000000 in
theorem charsRunes_walk (w : World) (hC : ChW w) (s : ByteArray) (hs : s.size ≤ 1048576) (a : Int) (wa : (Lit.int .i64 a).wf = true) :
    Calls Tryd.prog 4 #[.string s, .int .i64 a] w fun e w' => e = .returned (.bool true) ∧ Below w.heap.size w w' := by
  have HC := Aside0.mk hC
  clear hC
  refine (callsIn_wide (n := 6)).1 ?_
  refine callsIn_of_wp_marks Tryd.func4 rfl trivial ?_ rfl
  simp only [Tryd.ntmps4, List.size_toArray, List.length_cons, List.length_nil, Nat.reduceAdd, Nat.reduceSub, Array.replicate_succ, Array.replicate_zero, List.push_toArray, List.append_toArray, List.nil_append, List.cons_append]
  gi_wp2
  obtain ⟨W0, hW0⟩ : ∃ x, x = (w.alloc (.cells #[.int .i64 a] 3)).alloc (.cells #[.bool false] 4) := ⟨_, rfl⟩
  rw [← hW0]
  have HB0 : Aside0 (Below w.heap.size w W0) := ⟨by rw [hW0]; exact ((Below.refl _ w).alloc (Nat.le_refl _) _).alloc (by simp) _⟩
  have HS0 : Aside0 (One W0 w.heap.size (.int .i64 a) 3) := ⟨by rw [hW0]; exact (One.new w _ _).below ((Below.refl _ _).alloc (Nat.le_refl _) _) (by simp)⟩
  have HR0 : Aside0 (One W0 (w.heap.size + 1) (.bool false) 4) := ⟨by rw [hW0]; have := One.new (w.alloc (.cells #[.int .i64 a] 3)) (.bool false) 4; rwa [World.size_alloc] at this⟩
  clear hW0
  refine ⟨trivial, ?_⟩
  refine (callsIn_wide.2 (live_calls W0 (HC.out.go HB0.out))).mono ?_
  rintro e w1 ⟨rfl, hb1⟩
  have HB1 := Aside0.mk hb1
  clear hb1
  gi_wp2
  refine ⟨trivial, ?_⟩
  refine (callsIn_wide.2 (runes_calls s w1 ((HC.out.go HB0.out).go HB1.out) (by omega))).mono ?_
  rintro e w2 ⟨A1, c1, rfl, hR1, hb2⟩
  have HR1 := Aside0.mk hR1
  have HB2 := Aside0.mk hb2
  clear hR1 hb2
  gi_wp2
  refine ⟨trivial, ?_⟩
  refine (callsIn_wide.2 (places_calls s w2 (((HC.out.go HB0.out).go HB1.out).go HB2.out) (by omega))).mono ?_
  rintro e w3 ⟨A2, c2, rfl, hR2, hb3⟩
  have HR2 := Aside0.mk hR2
  have HB3 := Aside0.mk hb3
  clear hR2 hb3
  gi_wp2
  refine ⟨trivial, ?_⟩
  refine (callsIn_wide.2 (runesfn_calls s _)).mono ?_
  rintro e w4 ⟨rfl, rfl⟩
  obtain ⟨W5, hW5⟩ : ∃ x, x = ((w3.alloc (Obj.cells #[Value.slice A1 (runesL s).length c1] 24)).alloc (Obj.cells #[Value.slice A2 ((placesL s).length + 1) c2] 26)).alloc (.cells #[.string s] 9) := ⟨_, rfl⟩
  have hsz : ((w3.alloc (Obj.cells #[Value.slice A1 (runesL s).length c1] 24)).alloc (Obj.cells #[Value.slice A2 ((placesL s).length + 1) c2] 26)).heap.size = w3.heap.size + 1 + 1 := by simp
  rw [← hW5, hsz]
  have HN : Aside0 (RnB w W5 s a w3.heap.size (w3.heap.size + 1) (w3.heap.size + 1 + 1) A1 A2 c1 c2) := ⟨by
    have b23 := HB2.out.trans (HB3.out.mono HB2.out.size)
    have b13 := HB1.out.trans (b23.mono HB1.out.size)
    have bx : Below w3.heap.size w3 W5 := by rw [hW5]; exact (((Below.refl _ w3).alloc (Nat.le_refl _) _).alloc (by simp) _).alloc (by simp; omega) _
    have b05 : Below W0.heap.size W0 W5 := b13.trans (bx.mono b13.size)
    refine ⟨HB0.out.trans (b05.mono HB0.out.size), HS0.out.below b05 HS0.out.lt, HR0.out.below b05 HR0.out.lt, ?_, ?_, ?_, ?_, ?_⟩
    · rw [hW5]; exact ((One.new w3 _ _).below ((Below.refl _ _).alloc (Nat.le_refl _) _) (by simp)).below ((Below.refl _ _).alloc (Nat.le_refl _) _) (by simp; omega)
    · rw [hW5]; have := One.new (w3.alloc (Obj.cells #[Value.slice A1 (runesL s).length c1] 24)) (Value.slice A2 ((placesL s).length + 1) c2) 26; rw [World.size_alloc] at this; exact this.below ((Below.refl _ _).alloc (Nat.le_refl _) _) (by simp)
    · rw [hW5]; have := One.new ((w3.alloc (Obj.cells #[Value.slice A1 (runesL s).length c1] 24)).alloc (Obj.cells #[Value.slice A2 ((placesL s).length + 1) c2] 26)) (.string s) 9; rwa [hsz] at this
    · exact Kd.C_below (Kd.C_below (Kd.R_reads' HR1.out).2.2 HB3.out) bx
    · exact Kd.C_below (Kd.R_reads' HR2.out).2.2 bx⟩
  generalize w3.heap.size + 1 + 1 = b7 at *
  generalize w3.heap.size + 1 = b6 at *
  generalize w3.heap.size = b5 at *
  clear hW5 hsz HR1 HR2 HB1 HB2 HB3 HB0 HS0 HR0
  gi_wp2
  refine wpIn_loop_rounds 3 ?_
  rw [roundsIn_succ]
  gi_wp2
  refine rangeT rfl (by decide) (gf := 41) (lb := #[.pointer (some ⟨b7, 0, none⟩)]) rfl trivial (enters_of Tryd.func41 (by kernel_rfl) rfl)
    (runes1_stops s (by unfold maxLen; omega) Fence.wide 5 trivial rfl (by decide) b7 W5 HN.out.str.cell) ((Below.refl _ W5).alloc (Nat.le_refl _) _) (fun _ => rfl)
    (fun pre W => One W W5.heap.size (.int .i64 (pre.length : Int)) 3 ∧ pre <+: prL s ∧ Below W5.heap.size W5 W)
    (fun c pre W => (c = .exit 2 ∧ One W W5.heap.size (.int .i64 (pre.length : Int)) 3 ∧ (pre.length : Int) = a ∧ Below W5.heap.size W5 W) ∨ (c = .ret ∧ ¬ (pre <+: prL s)))
    (fun pre A B row hs hg hr => ⟨hs.1.grown hg (fun r e => (hr r e).2), hs.2.1, ownFrom_below (β := Unit) (Nat.le_refl _) (by simp) () A B row hs.2.2 hg hr⟩)
    (fun c pre A B row hs hg hr => hs.elim (fun h => .inl ⟨h.1, h.2.1.grown hg (fun r e => (hr r e).2), h.2.2.1, ownFrom_below (β := Unit) (Nat.le_refl _) (by simp) () A B row h.2.2.2 hg hr⟩) .inr)
    ⟨One.new W5 _ _, ⟨prL s, rfl⟩, (Below.refl _ W5).alloc (Nat.le_refl _) _⟩
    (fun T x => { tmps := (((T.setIfInBounds 22 (.int .i64 x.1)).setIfInBounds 23 (.int .i32 x.2)).setIfInBounds 9 (.int .i64 x.1)).setIfInBounds 10 (.int .i32 x.2), defers := [] }) ?assign ?body ?done ?stop
  case assign =>
    intro l x W K hK
    simp only [List.setIfInBounds_toArray, List.set_cons_succ, List.set_cons_zero] at hK
    gi_wp2
    exact hK
  case body =>
    rintro l pre x W ⟨hn, hpre, hbl⟩ hlen
    simp only [List.setIfInBounds_toArray, List.set_cons_succ, List.set_cons_zero]
    have hl := prL_len s
    have hN := HN.out.go hbl
    have cs := hN.stop.cell
    have cw := hN.want.cell
    have ca := hN.at'.cell
    have cn := hn.cell
    have fn_ := hn.frozen
    have cr := hN.res.cell
    have fr := hN.res.frozen
    have HG : Aside0 (∀ h, (prL s)[pre.length]'h = ((placesL s ++ [(s.size : Int)]).getD pre.length 0, (runesL s).getD pre.length 0)) := ⟨fun h => prL_get s pre.length h⟩
    have HP := Aside0.mk hpre
    have HBL := Aside0.mk hbl
    have HLEN := Aside0.mk hlen
    have HNN := Aside0.mk hn
    have HWZ : Aside0 (w.heap.size + 1 < W5.heap.size) := ⟨HN.out.res.lt⟩
    obtain ⟨ad1, e1, hx1⟩ := Kd.at_int hN.rows1 (pre.length : Int) (by omega) (by omega)
    obtain ⟨ad2, e2, hx2⟩ := Kd.at_int hN.rows2 (pre.length : Int) (by omega) (by rw [List.length_append]; simp; omega)
    have hrd1 : rd (runesL s) (pre.length : Int) = (runesL s).getD pre.length 0 := by unfold rd; rw [Int.toNat_natCast]
    have hrd2 : rd (placesL s ++ [(s.size : Int)]) (pre.length : Int) = (placesL s ++ [(s.size : Int)]).getD pre.length 0 := by unfold rd; rw [Int.toNat_natCast]
    rw [Int.toNat_natCast, hrd1] at hx1
    rw [Int.toNat_natCast, hrd2] at hx2
    rw [e1] at cw ⊢
    rw [e2] at ca ⊢
    have tn : decide ((runesL s).length ≤ pre.length) = false := by simp; omega
    have ti : decide (((runesL s).length : Int) ≤ (pre.length : Int)) = false := by simp; omega
    have hk1 : pre.length < (runesL s).length := by omega
    have hk2 : pre.length < (placesL s).length + 1 := by omega
    have hk3 : pre.length ≤ 1048576 := by have := runesF_len s s.size 0; unfold runesL at hk1; omega
    have hwr : wrap64 ((pre.length : Int) + 1) = (pre.length : Int) + 1 := w64r (by omega) (by omega)
    clear hrd1 hrd2 hN hn hpre hbl hl hlen e1 e2
    generalize hy : (runesL s).getD pre.length 0 = y at *
    generalize hz : (placesL s ++ [(s.size : Int)]).getD pre.length 0 = z at *
    obtain ⟨x1, x2⟩ := x
    by_cases h2 : x2 = y
    · subst h2
      by_cases h1 : x1 = z
      · subst h1
        have HG2 : Aside0 (pre ++ [(x1, x2)] <+: prL s) := ⟨pre_next HP.out HLEN.out _ (HG.out _)⟩
        have HL2 : Aside0 ((((pre ++ [(x1, x2)]).length : Nat) : Int) = (pre.length : Int) + 1) := ⟨by simp⟩
        have HSET : Aside0 (One (W.setCell ⟨W5.heap.size, 0, none⟩ (.int .i64 ((pre.length : Int) + 1))) W5.heap.size (.int .i64 ((pre.length : Int) + 1)) 3) := ⟨HNN.out.set _⟩
        have cs2 : (W.setCell ⟨W5.heap.size, 0, none⟩ (.int .i64 ((pre.length : Int) + 1))).cell? ⟨w.heap.size, 0, none⟩ = some (.int .i64 a) := by rw [World.cell?_setCell_other _ _ _ _ (by have := HWZ.out; simp; try omega)]; exact cs
        clear hy hz
        by_cases h3 : (pre.length : Int) + 1 = a
        · have t3 : ((pre.length : Int) + 1 == a) = true := by simpa using h3
          have H3 := Aside0.mk h3
          clear h3
          gi_wp2
          exact ⟨KeepsOthers.setCell _ _ _, .inl ⟨rfl, by rw [HL2.out]; exact HSET.out, by rw [HL2.out]; exact H3.out, HBL.out.setCell (p := ⟨W5.heap.size, 0, none⟩) (Nat.le_refl _) _⟩⟩
        · have t3 : ((pre.length : Int) + 1 == a) = false := by simpa using h3
          clear h3
          gi_wp2
          exact ⟨KeepsOthers.setCell _ _ _, (KeepsOthers.setCell _ _ _).walks, by rw [HL2.out]; exact HSET.out, HG2.out, HBL.out.setCell (p := ⟨W5.heap.size, 0, none⟩) (Nat.le_refl _) _⟩
      · have t1 : (x1 == z) = false := by simpa using h1
        have HQ : Aside0 (¬ (pre ++ [(x1, x2)] <+: prL s)) := ⟨pre_other _ HLEN.out (fun e => h1 (congrArg Prod.fst ((HG.out HLEN.out).symm.trans e)).symm)⟩
        clear hy hz h1
        gi_wp2
        exact ⟨KeepsOthers.setCell _ _ _, .inr ⟨rfl, HQ.out⟩⟩
    · have t2 : (x2 == y) = false := by simpa using h2
      have HQ : Aside0 (¬ (pre ++ [(x1, x2)] <+: prL s)) := ⟨pre_other _ HLEN.out (fun e => h2 (congrArg Prod.snd ((HG.out HLEN.out).symm.trans e)).symm)⟩
      clear hy hz h2
      gi_wp2
      exact ⟨KeepsOthers.setCell _ _ _, .inr ⟨rfl, HQ.out⟩⟩
  case done =>
    rintro D xs W6 hD rfl ⟨hn, hpre, hbl⟩ hK
    have HN6 := Aside0.mk (HN.out.go hbl)
    have cn := hn.cell
    have cw := HN6.out.want.cell
    have cs := HN6.out.stop.cell
    rw [(prL_len s).1] at cn
    have HK := Aside0.mk hK
    have HDZ : Aside0 (w.heap.size ≤ D) := ⟨by have := HN.out.bel.size; simp at hD; omega⟩
    clear hn hpre hbl hK
    gi_wp2
    rw [roundsIn_succ]
    gi_wp2
    refine rangeT rfl (by decide) (gf := 41) (lb := #[.pointer (some ⟨b7, 0, none⟩)]) rfl trivial (enters_of Tryd.func41 (by kernel_rfl) rfl)
      (runes1_stops s (by unfold maxLen; omega) Fence.wide 5 trivial rfl (by decide) b7 W6 HN6.out.str.cell) ((Below.refl _ W6).alloc (Nat.le_refl _) _) (fun _ => rfl)
      (fun pre W => One W W6.heap.size (.int .i64 (pre.length : Int)) 3 ∧ pre <+: prL s ∧ Below W6.heap.size W6 W)
      (fun c pre W => (c = .exit 2 ∧ One W W6.heap.size (.int .i64 (pre.length : Int)) 3 ∧ (pre.length : Int) = a ∧ Below W6.heap.size W6 W) ∨ (c = .ret ∧ ¬ (pre <+: prL s)))
      (fun pre A B row hs hg hr => ⟨hs.1.grown hg (fun r e => (hr r e).2), hs.2.1, ownFrom_below (β := Unit) (Nat.le_refl _) (by simp) () A B row hs.2.2 hg hr⟩)
      (fun c pre A B row hs hg hr => hs.elim (fun h => .inl ⟨h.1, h.2.1.grown hg (fun r e => (hr r e).2), h.2.2.1, ownFrom_below (β := Unit) (Nat.le_refl _) (by simp) () A B row h.2.2.2 hg hr⟩) .inr)
      ⟨One.new W6 _ _, ⟨prL s, rfl⟩, (Below.refl _ W6).alloc (Nat.le_refl _) _⟩
      (fun T x => { tmps := (((T.setIfInBounds 22 (.int .i64 x.1)).setIfInBounds 23 (.int .i32 x.2)).setIfInBounds 9 (.int .i64 x.1)).setIfInBounds 10 (.int .i32 x.2), defers := [] }) ?assign2 ?body2 ?done2 ?stop2
    case assign2 =>
      intro l x W K hK
      simp only [List.setIfInBounds_toArray, List.set_cons_succ, List.set_cons_zero] at hK
      gi_wp2
      exact hK
    case body2 =>
      rintro l pre x W ⟨hn, hpre, hbl⟩ hlen
      simp only [List.setIfInBounds_toArray, List.set_cons_succ, List.set_cons_zero]
      have hl := prL_len s
      have hN := HN6.out.go hbl
      have cs := hN.stop.cell
      have cw := hN.want.cell
      have ca := hN.at'.cell
      have cn := hn.cell
      have fn_ := hn.frozen
      have cr := hN.res.cell
      have fr := hN.res.frozen
      have HG : Aside0 (∀ h, (prL s)[pre.length]'h = ((placesL s ++ [(s.size : Int)]).getD pre.length 0, (runesL s).getD pre.length 0)) := ⟨fun h => prL_get s pre.length h⟩
      have HP := Aside0.mk hpre
      have HBL := Aside0.mk hbl
      have HLEN := Aside0.mk hlen
      have HNN := Aside0.mk hn
      have HWZ : Aside0 (w.heap.size + 1 < W6.heap.size) := ⟨HN6.out.res.lt⟩
      obtain ⟨ad1, e1, hx1⟩ := Kd.at_int hN.rows1 (pre.length : Int) (by omega) (by omega)
      obtain ⟨ad2, e2, hx2⟩ := Kd.at_int hN.rows2 (pre.length : Int) (by omega) (by rw [List.length_append]; simp; omega)
      have hrd1 : rd (runesL s) (pre.length : Int) = (runesL s).getD pre.length 0 := by unfold rd; rw [Int.toNat_natCast]
      have hrd2 : rd (placesL s ++ [(s.size : Int)]) (pre.length : Int) = (placesL s ++ [(s.size : Int)]).getD pre.length 0 := by unfold rd; rw [Int.toNat_natCast]
      rw [Int.toNat_natCast, hrd1] at hx1
      rw [Int.toNat_natCast, hrd2] at hx2
      rw [e1] at cw ⊢
      rw [e2] at ca ⊢
      have tn : decide ((runesL s).length ≤ pre.length) = false := by simp; omega
      have ti : decide (((runesL s).length : Int) ≤ (pre.length : Int)) = false := by simp; omega
      have hk1 : pre.length < (runesL s).length := by omega
      have hk2 : pre.length < (placesL s).length + 1 := by omega
      have hk3 : pre.length ≤ 1048576 := by have := runesF_len s s.size 0; unfold runesL at hk1; omega
      have hwr : wrap64 ((pre.length : Int) + 1) = (pre.length : Int) + 1 := w64r (by omega) (by omega)
      clear hrd1 hrd2 hN hn hpre hbl hl hlen e1 e2
      generalize hy : (runesL s).getD pre.length 0 = y at *
      generalize hz : (placesL s ++ [(s.size : Int)]).getD pre.length 0 = z at *
      obtain ⟨x1, x2⟩ := x
      by_cases h2 : x2 = y
      · subst h2
        by_cases h1 : x1 = z
        · subst h1
          have HG2 : Aside0 (pre ++ [(x1, x2)] <+: prL s) := ⟨pre_next HP.out HLEN.out _ (HG.out _)⟩
          have HL2 : Aside0 ((((pre ++ [(x1, x2)]).length : Nat) : Int) = (pre.length : Int) + 1) := ⟨by simp⟩
          have HSET : Aside0 (One (W.setCell ⟨W6.heap.size, 0, none⟩ (.int .i64 ((pre.length : Int) + 1))) W6.heap.size (.int .i64 ((pre.length : Int) + 1)) 3) := ⟨HNN.out.set _⟩
          have cs2 : (W.setCell ⟨W6.heap.size, 0, none⟩ (.int .i64 ((pre.length : Int) + 1))).cell? ⟨w.heap.size, 0, none⟩ = some (.int .i64 a) := by rw [World.cell?_setCell_other _ _ _ _ (by have := HWZ.out; simp; try omega)]; exact cs
          clear hy hz
          by_cases h3 : (pre.length : Int) + 1 = a
          · have t3 : ((pre.length : Int) + 1 == a) = true := by simpa using h3
            have H3 := Aside0.mk h3
            clear h3
            gi_wp2
            exact ⟨KeepsOthers.setCell _ _ _, .inl ⟨rfl, by rw [HL2.out]; exact HSET.out, by rw [HL2.out]; exact H3.out, HBL.out.setCell (p := ⟨W6.heap.size, 0, none⟩) (Nat.le_refl _) _⟩⟩
          · have t3 : ((pre.length : Int) + 1 == a) = false := by simpa using h3
            clear h3
            gi_wp2
            exact ⟨KeepsOthers.setCell _ _ _, (KeepsOthers.setCell _ _ _).walks, by rw [HL2.out]; exact HSET.out, HG2.out, HBL.out.setCell (p := ⟨W6.heap.size, 0, none⟩) (Nat.le_refl _) _⟩
        · have t1 : (x1 == z) = false := by simpa using h1
          have HQ : Aside0 (¬ (pre ++ [(x1, x2)] <+: prL s)) := ⟨pre_other _ HLEN.out (fun e => h1 (congrArg Prod.fst ((HG.out HLEN.out).symm.trans e)).symm)⟩
          clear hy hz h1
          gi_wp2
          exact ⟨KeepsOthers.setCell _ _ _, .inr ⟨rfl, HQ.out⟩⟩
      · have t2 : (x2 == y) = false := by simpa using h2
        have HQ : Aside0 (¬ (pre ++ [(x1, x2)] <+: prL s)) := ⟨pre_other _ HLEN.out (fun e => h2 (congrArg Prod.snd ((HG.out HLEN.out).symm.trans e)).symm)⟩
        clear hy hz h2
        gi_wp2
        exact ⟨KeepsOthers.setCell _ _ _, .inr ⟨rfl, HQ.out⟩⟩
    case done2 =>
      rintro D2 xs W7 hD rfl ⟨hn, hpre, hbl⟩ hK2
      have HN7 := Aside0.mk (HN6.out.go hbl)
      have cn := hn.cell
      have cw := HN7.out.want.cell
      have cs := HN7.out.stop.cell
      have HKB : Aside0 (W7.heap[D]? = some (.deferred (some []))) := ⟨(hbl.block _ (Array.getElem?_eq_some_iff.1 HK.out).1).trans HK.out⟩
      rw [(prL_len s).1] at cn
      have HK2 := Aside0.mk hK2
      have HDD : Aside0 (D < W6.heap.size ∧ W6.heap.size + 1 ≤ D2) := ⟨(Array.getElem?_eq_some_iff.1 HK.out).1, by simpa using hD⟩
      clear hn hpre hbl hK2
      gi_wp2
      rw [roundsIn_succ]
      gi_wp2
      refine ⟨trivial, ?_⟩
      refine (callsIn_wide.2 (live_calls _ (HC.out.go HN7.out.bel))).mono ?_
      rintro e w8 ⟨rfl, hb8⟩
      have HN8 := Aside0.mk (HN7.out.go hb8)
      have cr := HN8.out.res.cell
      have fr := HN8.out.res.frozen
      have HB8 := Aside0.mk hb8
      clear hb8
      gi_wp2
      have hres := HN8.out.res.set (.bool true)
      have hbel := HN8.out.bel.setCell (p := ⟨w.heap.size + 1, 0, none⟩) (by simp) (.bool true)
      have k2 := (KeepsOthers.setCell w8 ⟨w.heap.size + 1, 0, none⟩ (.bool true)).same D2 _ ((HB8.out.block _ (Array.getElem?_eq_some_iff.1 HK2.out).1).trans HK2.out) rfl
      have k1 := (KeepsOthers.setCell w8 ⟨w.heap.size + 1, 0, none⟩ (.bool true)).same D _ ((HB8.out.block _ (Array.getElem?_eq_some_iff.1 HKB.out).1).trans HKB.out) rfl
      generalize w8.setCell ⟨w.heap.size + 1, 0, none⟩ (.bool true) = W9 at *
      refine ⟨by simp, .inl ⟨_, _, rfl, run_takeDeferred k2, ?_⟩⟩
      have hdd := HDD.out
      have hsz6 := HN6.out.bel.size
      have k1' := (World.putObj_heap_other (o := .deferred none) (show D ≠ D2 by omega)).trans k1
      refine ⟨by simp, .inl ⟨_, _, rfl, run_takeDeferred k1', ?_⟩⟩
      have hres2 := (hres.grown (grownBy_putObj' _ D2 (.deferred none)) (fun r e => by cases e; exact ⟨_, k2, rfl⟩)).grown (grownBy_putObj' _ D (.deferred none)) (fun r e => by cases e; exact ⟨_, k1', rfl⟩)
      have hc9 := hres2.cell
      refine ⟨.bool true, ?_, rfl, (hbel.trans (belowK_b (w := w) (Nat.le_refl _) W9 D2 _ _ (by omega) k2 rfl rfl)).trans (belowK_b (w := w) (Nat.le_refl _) _ D _ _ HDZ.out k1' rfl rfl)⟩
      simp [results, Tryd.f4, go_sem, hc9]
    case stop2 =>
      rintro D2 c pre W7 hD hpre (⟨rfl, hn, ha, hbl⟩ | ⟨_, hno⟩) hK2
      · have HN7 := Aside0.mk (HN6.out.go hbl)
        have cn := hn.cell
        have cw := HN7.out.want.cell
        have cs := HN7.out.stop.cell
        have HKB : Aside0 (W7.heap[D]? = some (.deferred (some []))) := ⟨(hbl.block _ (Array.getElem?_eq_some_iff.1 HK.out).1).trans HK.out⟩
        rw [ha] at cn
        have HK2 := Aside0.mk hK2
        have HDD : Aside0 (D < W6.heap.size ∧ W6.heap.size + 1 ≤ D2) := ⟨(Array.getElem?_eq_some_iff.1 HK.out).1, by simpa using hD⟩
        clear hn hpre hbl hK2
        by_cases hal : a = ((runesL s).length : Int)
        · have tal : (a == ((runesL s).length : Int)) = true := by simpa using hal
          have tal2 : (a != ((runesL s).length : Int)) = false := by simpa using hal
          clear hal
          gi_wp2
          rw [roundsIn_succ]
          gi_wp2
          refine ⟨trivial, ?_⟩
          refine (callsIn_wide.2 (live_calls _ (HC.out.go HN7.out.bel))).mono ?_
          rintro e w8 ⟨rfl, hb8⟩
          have HN8 := Aside0.mk (HN7.out.go hb8)
          have cr := HN8.out.res.cell
          have fr := HN8.out.res.frozen
          have HB8 := Aside0.mk hb8
          clear hb8
          gi_wp2
          have hres := HN8.out.res.set (.bool true)
          have hbel := HN8.out.bel.setCell (p := ⟨w.heap.size + 1, 0, none⟩) (by simp) (.bool true)
          have k2 := (KeepsOthers.setCell w8 ⟨w.heap.size + 1, 0, none⟩ (.bool true)).same D2 _ ((HB8.out.block _ (Array.getElem?_eq_some_iff.1 HK2.out).1).trans HK2.out) rfl
          have k1 := (KeepsOthers.setCell w8 ⟨w.heap.size + 1, 0, none⟩ (.bool true)).same D _ ((HB8.out.block _ (Array.getElem?_eq_some_iff.1 HKB.out).1).trans HKB.out) rfl
          generalize w8.setCell ⟨w.heap.size + 1, 0, none⟩ (.bool true) = W9 at *
          refine ⟨by simp, .inl ⟨_, _, rfl, run_takeDeferred k2, ?_⟩⟩
          have hdd := HDD.out
          have hsz6 := HN6.out.bel.size
          have k1' := (World.putObj_heap_other (o := .deferred none) (show D ≠ D2 by omega)).trans k1
          refine ⟨by simp, .inl ⟨_, _, rfl, run_takeDeferred k1', ?_⟩⟩
          have hres2 := (hres.grown (grownBy_putObj' _ D2 (.deferred none)) (fun r e => by cases e; exact ⟨_, k2, rfl⟩)).grown (grownBy_putObj' _ D (.deferred none)) (fun r e => by cases e; exact ⟨_, k1', rfl⟩)
          have hc9 := hres2.cell
          refine ⟨.bool true, ?_, rfl, (hbel.trans (belowK_b (w := w) (Nat.le_refl _) W9 D2 _ _ (by omega) k2 rfl rfl)).trans (belowK_b (w := w) (Nat.le_refl _) _ D _ _ HDZ.out k1' rfl rfl)⟩
          simp [results, Tryd.f4, go_sem, hc9]
        · have tal : (a == ((runesL s).length : Int)) = false := by simpa using hal
          have tal2 : (a != ((runesL s).length : Int)) = true := by simpa using hal
          clear hal
          gi_wp2
          rw [roundsIn_succ]
          gi_wp2
          refine ⟨trivial, ?_⟩
          refine (callsIn_wide.2 (live_calls _ (HC.out.go HN7.out.bel))).mono ?_
          rintro e w8 ⟨rfl, hb8⟩
          have HN8 := Aside0.mk (HN7.out.go hb8)
          have cr := HN8.out.res.cell
          have fr := HN8.out.res.frozen
          have HB8 := Aside0.mk hb8
          clear hb8
          gi_wp2
          have hres := HN8.out.res.set (.bool true)
          have hbel := HN8.out.bel.setCell (p := ⟨w.heap.size + 1, 0, none⟩) (by simp) (.bool true)
          have k2 := (KeepsOthers.setCell w8 ⟨w.heap.size + 1, 0, none⟩ (.bool true)).same D2 _ ((HB8.out.block _ (Array.getElem?_eq_some_iff.1 HK2.out).1).trans HK2.out) rfl
          have k1 := (KeepsOthers.setCell w8 ⟨w.heap.size + 1, 0, none⟩ (.bool true)).same D _ ((HB8.out.block _ (Array.getElem?_eq_some_iff.1 HKB.out).1).trans HKB.out) rfl
          generalize w8.setCell ⟨w.heap.size + 1, 0, none⟩ (.bool true) = W9 at *
          refine ⟨by simp, .inl ⟨_, _, rfl, run_takeDeferred k2, ?_⟩⟩
          have hdd := HDD.out
          have hsz6 := HN6.out.bel.size
          have k1' := (World.putObj_heap_other (o := .deferred none) (show D ≠ D2 by omega)).trans k1
          refine ⟨by simp, .inl ⟨_, _, rfl, run_takeDeferred k1', ?_⟩⟩
          have hres2 := (hres.grown (grownBy_putObj' _ D2 (.deferred none)) (fun r e => by cases e; exact ⟨_, k2, rfl⟩)).grown (grownBy_putObj' _ D (.deferred none)) (fun r e => by cases e; exact ⟨_, k1', rfl⟩)
          have hc9 := hres2.cell
          refine ⟨.bool true, ?_, rfl, (hbel.trans (belowK_b (w := w) (Nat.le_refl _) W9 D2 _ _ (by omega) k2 rfl rfl)).trans (belowK_b (w := w) (Nat.le_refl _) _ D _ _ HDZ.out k1' rfl rfl)⟩
          simp [results, Tryd.f4, go_sem, hc9]
      · exact absurd hpre hno
  case stop =>
    rintro D c pre W6 hD hpre (⟨rfl, hn, ha, hbl⟩ | ⟨_, hno⟩) hK
    · have HN6 := Aside0.mk (HN.out.go hbl)
      have cn := hn.cell
      have cw := HN6.out.want.cell
      have cs := HN6.out.stop.cell
      rw [ha] at cn
      have HK := Aside0.mk hK
      have HDZ : Aside0 (w.heap.size ≤ D) := ⟨by have := HN.out.bel.size; simp at hD; omega⟩
      clear hn hpre hbl hK
      by_cases hal : a = ((runesL s).length : Int)
      · have tal : (a == ((runesL s).length : Int)) = true := by simpa using hal
        have tal2 : (a != ((runesL s).length : Int)) = false := by simpa using hal
        clear hal
        gi_wp2
        rw [roundsIn_succ]
        gi_wp2
        refine rangeT rfl (by decide) (gf := 41) (lb := #[.pointer (some ⟨b7, 0, none⟩)]) rfl trivial (enters_of Tryd.func41 (by kernel_rfl) rfl)
          (runes1_stops s (by unfold maxLen; omega) Fence.wide 5 trivial rfl (by decide) b7 W6 HN6.out.str.cell) ((Below.refl _ W6).alloc (Nat.le_refl _) _) (fun _ => rfl)
          (fun pre W => One W W6.heap.size (.int .i64 (pre.length : Int)) 3 ∧ pre <+: prL s ∧ Below W6.heap.size W6 W)
          (fun c pre W => (c = .exit 2 ∧ One W W6.heap.size (.int .i64 (pre.length : Int)) 3 ∧ (pre.length : Int) = a ∧ Below W6.heap.size W6 W) ∨ (c = .ret ∧ ¬ (pre <+: prL s)))
          (fun pre A B row hs hg hr => ⟨hs.1.grown hg (fun r e => (hr r e).2), hs.2.1, ownFrom_below (β := Unit) (Nat.le_refl _) (by simp) () A B row hs.2.2 hg hr⟩)
          (fun c pre A B row hs hg hr => hs.elim (fun h => .inl ⟨h.1, h.2.1.grown hg (fun r e => (hr r e).2), h.2.2.1, ownFrom_below (β := Unit) (Nat.le_refl _) (by simp) () A B row h.2.2.2 hg hr⟩) .inr)
          ⟨One.new W6 _ _, ⟨prL s, rfl⟩, (Below.refl _ W6).alloc (Nat.le_refl _) _⟩
          (fun T x => { tmps := (((T.setIfInBounds 22 (.int .i64 x.1)).setIfInBounds 23 (.int .i32 x.2)).setIfInBounds 9 (.int .i64 x.1)).setIfInBounds 10 (.int .i32 x.2), defers := [] }) ?assign2 ?body2 ?done2 ?stop2
        case assign2 =>
          intro l x W K hK
          simp only [List.setIfInBounds_toArray, List.set_cons_succ, List.set_cons_zero] at hK
          gi_wp2
          exact hK
        case body2 =>
          rintro l pre x W ⟨hn, hpre, hbl⟩ hlen
          simp only [List.setIfInBounds_toArray, List.set_cons_succ, List.set_cons_zero]
          have hl := prL_len s
          have hN := HN6.out.go hbl
          have cs := hN.stop.cell
          have cw := hN.want.cell
          have ca := hN.at'.cell
          have cn := hn.cell
          have fn_ := hn.frozen
          have cr := hN.res.cell
          have fr := hN.res.frozen
          have HG : Aside0 (∀ h, (prL s)[pre.length]'h = ((placesL s ++ [(s.size : Int)]).getD pre.length 0, (runesL s).getD pre.length 0)) := ⟨fun h => prL_get s pre.length h⟩
          have HP := Aside0.mk hpre
          have HBL := Aside0.mk hbl
          have HLEN := Aside0.mk hlen
          have HNN := Aside0.mk hn
          have HWZ : Aside0 (w.heap.size + 1 < W6.heap.size) := ⟨HN6.out.res.lt⟩
          obtain ⟨ad1, e1, hx1⟩ := Kd.at_int hN.rows1 (pre.length : Int) (by omega) (by omega)
          obtain ⟨ad2, e2, hx2⟩ := Kd.at_int hN.rows2 (pre.length : Int) (by omega) (by rw [List.length_append]; simp; omega)
          have hrd1 : rd (runesL s) (pre.length : Int) = (runesL s).getD pre.length 0 := by unfold rd; rw [Int.toNat_natCast]
          have hrd2 : rd (placesL s ++ [(s.size : Int)]) (pre.length : Int) = (placesL s ++ [(s.size : Int)]).getD pre.length 0 := by unfold rd; rw [Int.toNat_natCast]
          rw [Int.toNat_natCast, hrd1] at hx1
          rw [Int.toNat_natCast, hrd2] at hx2
          rw [e1] at cw ⊢
          rw [e2] at ca ⊢
          have tn : decide ((runesL s).length ≤ pre.length) = false := by simp; omega
          have ti : decide (((runesL s).length : Int) ≤ (pre.length : Int)) = false := by simp; omega
          have hk1 : pre.length < (runesL s).length := by omega
          have hk2 : pre.length < (placesL s).length + 1 := by omega
          have hk3 : pre.length ≤ 1048576 := by have := runesF_len s s.size 0; unfold runesL at hk1; omega
          have hwr : wrap64 ((pre.length : Int) + 1) = (pre.length : Int) + 1 := w64r (by omega) (by omega)
          clear hrd1 hrd2 hN hn hpre hbl hl hlen e1 e2
          generalize hy : (runesL s).getD pre.length 0 = y at *
          generalize hz : (placesL s ++ [(s.size : Int)]).getD pre.length 0 = z at *
          obtain ⟨x1, x2⟩ := x
          by_cases h2 : x2 = y
          · subst h2
            by_cases h1 : x1 = z
            · subst h1
              have HG2 : Aside0 (pre ++ [(x1, x2)] <+: prL s) := ⟨pre_next HP.out HLEN.out _ (HG.out _)⟩
              have HL2 : Aside0 ((((pre ++ [(x1, x2)]).length : Nat) : Int) = (pre.length : Int) + 1) := ⟨by simp⟩
              have HSET : Aside0 (One (W.setCell ⟨W6.heap.size, 0, none⟩ (.int .i64 ((pre.length : Int) + 1))) W6.heap.size (.int .i64 ((pre.length : Int) + 1)) 3) := ⟨HNN.out.set _⟩
              have cs2 : (W.setCell ⟨W6.heap.size, 0, none⟩ (.int .i64 ((pre.length : Int) + 1))).cell? ⟨w.heap.size, 0, none⟩ = some (.int .i64 a) := by rw [World.cell?_setCell_other _ _ _ _ (by have := HWZ.out; simp; try omega)]; exact cs
              clear hy hz
              by_cases h3 : (pre.length : Int) + 1 = a
              · have t3 : ((pre.length : Int) + 1 == a) = true := by simpa using h3
                have H3 := Aside0.mk h3
                clear h3
                gi_wp2
                exact ⟨KeepsOthers.setCell _ _ _, .inl ⟨rfl, by rw [HL2.out]; exact HSET.out, by rw [HL2.out]; exact H3.out, HBL.out.setCell (p := ⟨W6.heap.size, 0, none⟩) (Nat.le_refl _) _⟩⟩
              · have t3 : ((pre.length : Int) + 1 == a) = false := by simpa using h3
                clear h3
                gi_wp2
                exact ⟨KeepsOthers.setCell _ _ _, (KeepsOthers.setCell _ _ _).walks, by rw [HL2.out]; exact HSET.out, HG2.out, HBL.out.setCell (p := ⟨W6.heap.size, 0, none⟩) (Nat.le_refl _) _⟩
            · have t1 : (x1 == z) = false := by simpa using h1
              have HQ : Aside0 (¬ (pre ++ [(x1, x2)] <+: prL s)) := ⟨pre_other _ HLEN.out (fun e => h1 (congrArg Prod.fst ((HG.out HLEN.out).symm.trans e)).symm)⟩
              clear hy hz h1
              gi_wp2
              exact ⟨KeepsOthers.setCell _ _ _, .inr ⟨rfl, HQ.out⟩⟩
          · have t2 : (x2 == y) = false := by simpa using h2
            have HQ : Aside0 (¬ (pre ++ [(x1, x2)] <+: prL s)) := ⟨pre_other _ HLEN.out (fun e => h2 (congrArg Prod.snd ((HG.out HLEN.out).symm.trans e)).symm)⟩
            clear hy hz h2
            gi_wp2
            exact ⟨KeepsOthers.setCell _ _ _, .inr ⟨rfl, HQ.out⟩⟩
        case done2 =>
          rintro D2 xs W7 hD rfl ⟨hn, hpre, hbl⟩ hK2
          have HN7 := Aside0.mk (HN6.out.go hbl)
          have cn := hn.cell
          have cw := HN7.out.want.cell
          have cs := HN7.out.stop.cell
          have HKB : Aside0 (W7.heap[D]? = some (.deferred (some []))) := ⟨(hbl.block _ (Array.getElem?_eq_some_iff.1 HK.out).1).trans HK.out⟩
          rw [(prL_len s).1] at cn
          have HK2 := Aside0.mk hK2
          have HDD : Aside0 (D < W6.heap.size ∧ W6.heap.size + 1 ≤ D2) := ⟨(Array.getElem?_eq_some_iff.1 HK.out).1, by simpa using hD⟩
          clear hn hpre hbl hK2
          gi_wp2
          rw [roundsIn_succ]
          gi_wp2
          refine ⟨trivial, ?_⟩
          refine (callsIn_wide.2 (live_calls _ (HC.out.go HN7.out.bel))).mono ?_
          rintro e w8 ⟨rfl, hb8⟩
          have HN8 := Aside0.mk (HN7.out.go hb8)
          have cr := HN8.out.res.cell
          have fr := HN8.out.res.frozen
          have HB8 := Aside0.mk hb8
          clear hb8
          gi_wp2
          have hres := HN8.out.res.set (.bool true)
          have hbel := HN8.out.bel.setCell (p := ⟨w.heap.size + 1, 0, none⟩) (by simp) (.bool true)
          have k2 := (KeepsOthers.setCell w8 ⟨w.heap.size + 1, 0, none⟩ (.bool true)).same D2 _ ((HB8.out.block _ (Array.getElem?_eq_some_iff.1 HK2.out).1).trans HK2.out) rfl
          have k1 := (KeepsOthers.setCell w8 ⟨w.heap.size + 1, 0, none⟩ (.bool true)).same D _ ((HB8.out.block _ (Array.getElem?_eq_some_iff.1 HKB.out).1).trans HKB.out) rfl
          generalize w8.setCell ⟨w.heap.size + 1, 0, none⟩ (.bool true) = W9 at *
          refine ⟨by simp, .inl ⟨_, _, rfl, run_takeDeferred k2, ?_⟩⟩
          have hdd := HDD.out
          have hsz6 := HN6.out.bel.size
          have k1' := (World.putObj_heap_other (o := .deferred none) (show D ≠ D2 by omega)).trans k1
          refine ⟨by simp, .inl ⟨_, _, rfl, run_takeDeferred k1', ?_⟩⟩
          have hres2 := (hres.grown (grownBy_putObj' _ D2 (.deferred none)) (fun r e => by cases e; exact ⟨_, k2, rfl⟩)).grown (grownBy_putObj' _ D (.deferred none)) (fun r e => by cases e; exact ⟨_, k1', rfl⟩)
          have hc9 := hres2.cell
          refine ⟨.bool true, ?_, rfl, (hbel.trans (belowK_b (w := w) (Nat.le_refl _) W9 D2 _ _ (by omega) k2 rfl rfl)).trans (belowK_b (w := w) (Nat.le_refl _) _ D _ _ HDZ.out k1' rfl rfl)⟩
          simp [results, Tryd.f4, go_sem, hc9]
        case stop2 =>
          rintro D2 c pre W7 hD hpre (⟨rfl, hn, ha, hbl⟩ | ⟨_, hno⟩) hK2
          · have HN7 := Aside0.mk (HN6.out.go hbl)
            have cn := hn.cell
            have cw := HN7.out.want.cell
            have cs := HN7.out.stop.cell
            have HKB : Aside0 (W7.heap[D]? = some (.deferred (some []))) := ⟨(hbl.block _ (Array.getElem?_eq_some_iff.1 HK.out).1).trans HK.out⟩
            rw [ha] at cn
            have HK2 := Aside0.mk hK2
            have HDD : Aside0 (D < W6.heap.size ∧ W6.heap.size + 1 ≤ D2) := ⟨(Array.getElem?_eq_some_iff.1 HK.out).1, by simpa using hD⟩
            clear hn hpre hbl hK2
            by_cases hal : a = ((runesL s).length : Int)
            · have tal : (a == ((runesL s).length : Int)) = true := by simpa using hal
              have tal2 : (a != ((runesL s).length : Int)) = false := by simpa using hal
              clear hal
              gi_wp2
              rw [roundsIn_succ]
              gi_wp2
              refine ⟨trivial, ?_⟩
              refine (callsIn_wide.2 (live_calls _ (HC.out.go HN7.out.bel))).mono ?_
              rintro e w8 ⟨rfl, hb8⟩
              have HN8 := Aside0.mk (HN7.out.go hb8)
              have cr := HN8.out.res.cell
              have fr := HN8.out.res.frozen
              have HB8 := Aside0.mk hb8
              clear hb8
              gi_wp2
              have hres := HN8.out.res.set (.bool true)
              have hbel := HN8.out.bel.setCell (p := ⟨w.heap.size + 1, 0, none⟩) (by simp) (.bool true)
              have k2 := (KeepsOthers.setCell w8 ⟨w.heap.size + 1, 0, none⟩ (.bool true)).same D2 _ ((HB8.out.block _ (Array.getElem?_eq_some_iff.1 HK2.out).1).trans HK2.out) rfl
              have k1 := (KeepsOthers.setCell w8 ⟨w.heap.size + 1, 0, none⟩ (.bool true)).same D _ ((HB8.out.block _ (Array.getElem?_eq_some_iff.1 HKB.out).1).trans HKB.out) rfl
              generalize w8.setCell ⟨w.heap.size + 1, 0, none⟩ (.bool true) = W9 at *
              refine ⟨by simp, .inl ⟨_, _, rfl, run_takeDeferred k2, ?_⟩⟩
              have hdd := HDD.out
              have hsz6 := HN6.out.bel.size
              have k1' := (World.putObj_heap_other (o := .deferred none) (show D ≠ D2 by omega)).trans k1
              refine ⟨by simp, .inl ⟨_, _, rfl, run_takeDeferred k1', ?_⟩⟩
              have hres2 := (hres.grown (grownBy_putObj' _ D2 (.deferred none)) (fun r e => by cases e; exact ⟨_, k2, rfl⟩)).grown (grownBy_putObj' _ D (.deferred none)) (fun r e => by cases e; exact ⟨_, k1', rfl⟩)
              have hc9 := hres2.cell
              refine ⟨.bool true, ?_, rfl, (hbel.trans (belowK_b (w := w) (Nat.le_refl _) W9 D2 _ _ (by omega) k2 rfl rfl)).trans (belowK_b (w := w) (Nat.le_refl _) _ D _ _ HDZ.out k1' rfl rfl)⟩
              simp [results, Tryd.f4, go_sem, hc9]
            · have tal : (a == ((runesL s).length : Int)) = false := by simpa using hal
              have tal2 : (a != ((runesL s).length : Int)) = true := by simpa using hal
              clear hal
              gi_wp2
              rw [roundsIn_succ]
              gi_wp2
              refine ⟨trivial, ?_⟩
              refine (callsIn_wide.2 (live_calls _ (HC.out.go HN7.out.bel))).mono ?_
              rintro e w8 ⟨rfl, hb8⟩
              have HN8 := Aside0.mk (HN7.out.go hb8)
              have cr := HN8.out.res.cell
              have fr := HN8.out.res.frozen
              have HB8 := Aside0.mk hb8
              clear hb8
              gi_wp2
              have hres := HN8.out.res.set (.bool true)
              have hbel := HN8.out.bel.setCell (p := ⟨w.heap.size + 1, 0, none⟩) (by simp) (.bool true)
              have k2 := (KeepsOthers.setCell w8 ⟨w.heap.size + 1, 0, none⟩ (.bool true)).same D2 _ ((HB8.out.block _ (Array.getElem?_eq_some_iff.1 HK2.out).1).trans HK2.out) rfl
              have k1 := (KeepsOthers.setCell w8 ⟨w.heap.size + 1, 0, none⟩ (.bool true)).same D _ ((HB8.out.block _ (Array.getElem?_eq_some_iff.1 HKB.out).1).trans HKB.out) rfl
              generalize w8.setCell ⟨w.heap.size + 1, 0, none⟩ (.bool true) = W9 at *
              refine ⟨by simp, .inl ⟨_, _, rfl, run_takeDeferred k2, ?_⟩⟩
              have hdd := HDD.out
              have hsz6 := HN6.out.bel.size
              have k1' := (World.putObj_heap_other (o := .deferred none) (show D ≠ D2 by omega)).trans k1
              refine ⟨by simp, .inl ⟨_, _, rfl, run_takeDeferred k1', ?_⟩⟩
              have hres2 := (hres.grown (grownBy_putObj' _ D2 (.deferred none)) (fun r e => by cases e; exact ⟨_, k2, rfl⟩)).grown (grownBy_putObj' _ D (.deferred none)) (fun r e => by cases e; exact ⟨_, k1', rfl⟩)
              have hc9 := hres2.cell
              refine ⟨.bool true, ?_, rfl, (hbel.trans (belowK_b (w := w) (Nat.le_refl _) W9 D2 _ _ (by omega) k2 rfl rfl)).trans (belowK_b (w := w) (Nat.le_refl _) _ D _ _ HDZ.out k1' rfl rfl)⟩
              simp [results, Tryd.f4, go_sem, hc9]
          · exact absurd hpre hno
      · have tal : (a == ((runesL s).length : Int)) = false := by simpa using hal
        have tal2 : (a != ((runesL s).length : Int)) = true := by simpa using hal
        clear hal
        gi_wp2
        rw [roundsIn_succ]
        gi_wp2
        refine rangeT rfl (by decide) (gf := 41) (lb := #[.pointer (some ⟨b7, 0, none⟩)]) rfl trivial (enters_of Tryd.func41 (by kernel_rfl) rfl)
          (runes1_stops s (by unfold maxLen; omega) Fence.wide 5 trivial rfl (by decide) b7 W6 HN6.out.str.cell) ((Below.refl _ W6).alloc (Nat.le_refl _) _) (fun _ => rfl)
          (fun pre W => One W W6.heap.size (.int .i64 (pre.length : Int)) 3 ∧ pre <+: prL s ∧ Below W6.heap.size W6 W)
          (fun c pre W => (c = .exit 2 ∧ One W W6.heap.size (.int .i64 (pre.length : Int)) 3 ∧ (pre.length : Int) = a ∧ Below W6.heap.size W6 W) ∨ (c = .ret ∧ ¬ (pre <+: prL s)))
          (fun pre A B row hs hg hr => ⟨hs.1.grown hg (fun r e => (hr r e).2), hs.2.1, ownFrom_below (β := Unit) (Nat.le_refl _) (by simp) () A B row hs.2.2 hg hr⟩)
          (fun c pre A B row hs hg hr => hs.elim (fun h => .inl ⟨h.1, h.2.1.grown hg (fun r e => (hr r e).2), h.2.2.1, ownFrom_below (β := Unit) (Nat.le_refl _) (by simp) () A B row h.2.2.2 hg hr⟩) .inr)
          ⟨One.new W6 _ _, ⟨prL s, rfl⟩, (Below.refl _ W6).alloc (Nat.le_refl _) _⟩
          (fun T x => { tmps := (((T.setIfInBounds 22 (.int .i64 x.1)).setIfInBounds 23 (.int .i32 x.2)).setIfInBounds 9 (.int .i64 x.1)).setIfInBounds 10 (.int .i32 x.2), defers := [] }) ?assign2 ?body2 ?done2 ?stop2
        case assign2 =>
          intro l x W K hK
          simp only [List.setIfInBounds_toArray, List.set_cons_succ, List.set_cons_zero] at hK
          gi_wp2
          exact hK
        case body2 =>
          rintro l pre x W ⟨hn, hpre, hbl⟩ hlen
          simp only [List.setIfInBounds_toArray, List.set_cons_succ, List.set_cons_zero]
          have hl := prL_len s
          have hN := HN6.out.go hbl
          have cs := hN.stop.cell
          have cw := hN.want.cell
          have ca := hN.at'.cell
          have cn := hn.cell
          have fn_ := hn.frozen
          have cr := hN.res.cell
          have fr := hN.res.frozen
          have HG : Aside0 (∀ h, (prL s)[pre.length]'h = ((placesL s ++ [(s.size : Int)]).getD pre.length 0, (runesL s).getD pre.length 0)) := ⟨fun h => prL_get s pre.length h⟩
          have HP := Aside0.mk hpre
          have HBL := Aside0.mk hbl
          have HLEN := Aside0.mk hlen
          have HNN := Aside0.mk hn
          have HWZ : Aside0 (w.heap.size + 1 < W6.heap.size) := ⟨HN6.out.res.lt⟩
          obtain ⟨ad1, e1, hx1⟩ := Kd.at_int hN.rows1 (pre.length : Int) (by omega) (by omega)
          obtain ⟨ad2, e2, hx2⟩ := Kd.at_int hN.rows2 (pre.length : Int) (by omega) (by rw [List.length_append]; simp; omega)
          have hrd1 : rd (runesL s) (pre.length : Int) = (runesL s).getD pre.length 0 := by unfold rd; rw [Int.toNat_natCast]
          have hrd2 : rd (placesL s ++ [(s.size : Int)]) (pre.length : Int) = (placesL s ++ [(s.size : Int)]).getD pre.length 0 := by unfold rd; rw [Int.toNat_natCast]
          rw [Int.toNat_natCast, hrd1] at hx1
          rw [Int.toNat_natCast, hrd2] at hx2
          rw [e1] at cw ⊢
          rw [e2] at ca ⊢
          have tn : decide ((runesL s).length ≤ pre.length) = false := by simp; omega
          have ti : decide (((runesL s).length : Int) ≤ (pre.length : Int)) = false := by simp; omega
          have hk1 : pre.length < (runesL s).length := by omega
          have hk2 : pre.length < (placesL s).length + 1 := by omega
          have hk3 : pre.length ≤ 1048576 := by have := runesF_len s s.size 0; unfold runesL at hk1; omega
          have hwr : wrap64 ((pre.length : Int) + 1) = (pre.length : Int) + 1 := w64r (by omega) (by omega)
          clear hrd1 hrd2 hN hn hpre hbl hl hlen e1 e2
          generalize hy : (runesL s).getD pre.length 0 = y at *
          generalize hz : (placesL s ++ [(s.size : Int)]).getD pre.length 0 = z at *
          obtain ⟨x1, x2⟩ := x
          by_cases h2 : x2 = y
          · subst h2
            by_cases h1 : x1 = z
            · subst h1
              have HG2 : Aside0 (pre ++ [(x1, x2)] <+: prL s) := ⟨pre_next HP.out HLEN.out _ (HG.out _)⟩
              have HL2 : Aside0 ((((pre ++ [(x1, x2)]).length : Nat) : Int) = (pre.length : Int) + 1) := ⟨by simp⟩
              have HSET : Aside0 (One (W.setCell ⟨W6.heap.size, 0, none⟩ (.int .i64 ((pre.length : Int) + 1))) W6.heap.size (.int .i64 ((pre.length : Int) + 1)) 3) := ⟨HNN.out.set _⟩
              have cs2 : (W.setCell ⟨W6.heap.size, 0, none⟩ (.int .i64 ((pre.length : Int) + 1))).cell? ⟨w.heap.size, 0, none⟩ = some (.int .i64 a) := by rw [World.cell?_setCell_other _ _ _ _ (by have := HWZ.out; simp; try omega)]; exact cs
              clear hy hz
              by_cases h3 : (pre.length : Int) + 1 = a
              · have t3 : ((pre.length : Int) + 1 == a) = true := by simpa using h3
                have H3 := Aside0.mk h3
                clear h3
                gi_wp2
                exact ⟨KeepsOthers.setCell _ _ _, .inl ⟨rfl, by rw [HL2.out]; exact HSET.out, by rw [HL2.out]; exact H3.out, HBL.out.setCell (p := ⟨W6.heap.size, 0, none⟩) (Nat.le_refl _) _⟩⟩
              · have t3 : ((pre.length : Int) + 1 == a) = false := by simpa using h3
                clear h3
                gi_wp2
                exact ⟨KeepsOthers.setCell _ _ _, (KeepsOthers.setCell _ _ _).walks, by rw [HL2.out]; exact HSET.out, HG2.out, HBL.out.setCell (p := ⟨W6.heap.size, 0, none⟩) (Nat.le_refl _) _⟩
            · have t1 : (x1 == z) = false := by simpa using h1
              have HQ : Aside0 (¬ (pre ++ [(x1, x2)] <+: prL s)) := ⟨pre_other _ HLEN.out (fun e => h1 (congrArg Prod.fst ((HG.out HLEN.out).symm.trans e)).symm)⟩
              clear hy hz h1
              gi_wp2
              exact ⟨KeepsOthers.setCell _ _ _, .inr ⟨rfl, HQ.out⟩⟩
          · have t2 : (x2 == y) = false := by simpa using h2
            have HQ : Aside0 (¬ (pre ++ [(x1, x2)] <+: prL s)) := ⟨pre_other _ HLEN.out (fun e => h2 (congrArg Prod.snd ((HG.out HLEN.out).symm.trans e)).symm)⟩
            clear hy hz h2
            gi_wp2
            exact ⟨KeepsOthers.setCell _ _ _, .inr ⟨rfl, HQ.out⟩⟩
        case done2 =>
          rintro D2 xs W7 hD rfl ⟨hn, hpre, hbl⟩ hK2
          have HN7 := Aside0.mk (HN6.out.go hbl)
          have cn := hn.cell
          have cw := HN7.out.want.cell
          have cs := HN7.out.stop.cell
          have HKB : Aside0 (W7.heap[D]? = some (.deferred (some []))) := ⟨(hbl.block _ (Array.getElem?_eq_some_iff.1 HK.out).1).trans HK.out⟩
          rw [(prL_len s).1] at cn
          have HK2 := Aside0.mk hK2
          have HDD : Aside0 (D < W6.heap.size ∧ W6.heap.size + 1 ≤ D2) := ⟨(Array.getElem?_eq_some_iff.1 HK.out).1, by simpa using hD⟩
          clear hn hpre hbl hK2
          gi_wp2
          rw [roundsIn_succ]
          gi_wp2
          refine ⟨trivial, ?_⟩
          refine (callsIn_wide.2 (live_calls _ (HC.out.go HN7.out.bel))).mono ?_
          rintro e w8 ⟨rfl, hb8⟩
          have HN8 := Aside0.mk (HN7.out.go hb8)
          have cr := HN8.out.res.cell
          have fr := HN8.out.res.frozen
          have HB8 := Aside0.mk hb8
          clear hb8
          gi_wp2
          have hres := HN8.out.res.set (.bool true)
          have hbel := HN8.out.bel.setCell (p := ⟨w.heap.size + 1, 0, none⟩) (by simp) (.bool true)
          have k2 := (KeepsOthers.setCell w8 ⟨w.heap.size + 1, 0, none⟩ (.bool true)).same D2 _ ((HB8.out.block _ (Array.getElem?_eq_some_iff.1 HK2.out).1).trans HK2.out) rfl
          have k1 := (KeepsOthers.setCell w8 ⟨w.heap.size + 1, 0, none⟩ (.bool true)).same D _ ((HB8.out.block _ (Array.getElem?_eq_some_iff.1 HKB.out).1).trans HKB.out) rfl
          generalize w8.setCell ⟨w.heap.size + 1, 0, none⟩ (.bool true) = W9 at *
          refine ⟨by simp, .inl ⟨_, _, rfl, run_takeDeferred k2, ?_⟩⟩
          have hdd := HDD.out
          have hsz6 := HN6.out.bel.size
          have k1' := (World.putObj_heap_other (o := .deferred none) (show D ≠ D2 by omega)).trans k1
          refine ⟨by simp, .inl ⟨_, _, rfl, run_takeDeferred k1', ?_⟩⟩
          have hres2 := (hres.grown (grownBy_putObj' _ D2 (.deferred none)) (fun r e => by cases e; exact ⟨_, k2, rfl⟩)).grown (grownBy_putObj' _ D (.deferred none)) (fun r e => by cases e; exact ⟨_, k1', rfl⟩)
          have hc9 := hres2.cell
          refine ⟨.bool true, ?_, rfl, (hbel.trans (belowK_b (w := w) (Nat.le_refl _) W9 D2 _ _ (by omega) k2 rfl rfl)).trans (belowK_b (w := w) (Nat.le_refl _) _ D _ _ HDZ.out k1' rfl rfl)⟩
          simp [results, Tryd.f4, go_sem, hc9]
        case stop2 =>
          rintro D2 c pre W7 hD hpre (⟨rfl, hn, ha, hbl⟩ | ⟨_, hno⟩) hK2
          · have HN7 := Aside0.mk (HN6.out.go hbl)
            have cn := hn.cell
            have cw := HN7.out.want.cell
            have cs := HN7.out.stop.cell
            have HKB : Aside0 (W7.heap[D]? = some (.deferred (some []))) := ⟨(hbl.block _ (Array.getElem?_eq_some_iff.1 HK.out).1).trans HK.out⟩
            rw [ha] at cn
            have HK2 := Aside0.mk hK2
            have HDD : Aside0 (D < W6.heap.size ∧ W6.heap.size + 1 ≤ D2) := ⟨(Array.getElem?_eq_some_iff.1 HK.out).1, by simpa using hD⟩
            clear hn hpre hbl hK2
            by_cases hal : a = ((runesL s).length : Int)
            · have tal : (a == ((runesL s).length : Int)) = true := by simpa using hal
              have tal2 : (a != ((runesL s).length : Int)) = false := by simpa using hal
              clear hal
              gi_wp2
              rw [roundsIn_succ]
              gi_wp2
              refine ⟨trivial, ?_⟩
              refine (callsIn_wide.2 (live_calls _ (HC.out.go HN7.out.bel))).mono ?_
              rintro e w8 ⟨rfl, hb8⟩
              have HN8 := Aside0.mk (HN7.out.go hb8)
              have cr := HN8.out.res.cell
              have fr := HN8.out.res.frozen
              have HB8 := Aside0.mk hb8
              clear hb8
              gi_wp2
              have hres := HN8.out.res.set (.bool true)
              have hbel := HN8.out.bel.setCell (p := ⟨w.heap.size + 1, 0, none⟩) (by simp) (.bool true)
              have k2 := (KeepsOthers.setCell w8 ⟨w.heap.size + 1, 0, none⟩ (.bool true)).same D2 _ ((HB8.out.block _ (Array.getElem?_eq_some_iff.1 HK2.out).1).trans HK2.out) rfl
              have k1 := (KeepsOthers.setCell w8 ⟨w.heap.size + 1, 0, none⟩ (.bool true)).same D _ ((HB8.out.block _ (Array.getElem?_eq_some_iff.1 HKB.out).1).trans HKB.out) rfl
              generalize w8.setCell ⟨w.heap.size + 1, 0, none⟩ (.bool true) = W9 at *
              refine ⟨by simp, .inl ⟨_, _, rfl, run_takeDeferred k2, ?_⟩⟩
              have hdd := HDD.out
              have hsz6 := HN6.out.bel.size
              have k1' := (World.putObj_heap_other (o := .deferred none) (show D ≠ D2 by omega)).trans k1
              refine ⟨by simp, .inl ⟨_, _, rfl, run_takeDeferred k1', ?_⟩⟩
              have hres2 := (hres.grown (grownBy_putObj' _ D2 (.deferred none)) (fun r e => by cases e; exact ⟨_, k2, rfl⟩)).grown (grownBy_putObj' _ D (.deferred none)) (fun r e => by cases e; exact ⟨_, k1', rfl⟩)
              have hc9 := hres2.cell
              refine ⟨.bool true, ?_, rfl, (hbel.trans (belowK_b (w := w) (Nat.le_refl _) W9 D2 _ _ (by omega) k2 rfl rfl)).trans (belowK_b (w := w) (Nat.le_refl _) _ D _ _ HDZ.out k1' rfl rfl)⟩
              simp [results, Tryd.f4, go_sem, hc9]
            · have tal : (a == ((runesL s).length : Int)) = false := by simpa using hal
              have tal2 : (a != ((runesL s).length : Int)) = true := by simpa using hal
              clear hal
              gi_wp2
              rw [roundsIn_succ]
              gi_wp2
              refine ⟨trivial, ?_⟩
              refine (callsIn_wide.2 (live_calls _ (HC.out.go HN7.out.bel))).mono ?_
              rintro e w8 ⟨rfl, hb8⟩
              have HN8 := Aside0.mk (HN7.out.go hb8)
              have cr := HN8.out.res.cell
              have fr := HN8.out.res.frozen
              have HB8 := Aside0.mk hb8
              clear hb8
              gi_wp2
              have hres := HN8.out.res.set (.bool true)
              have hbel := HN8.out.bel.setCell (p := ⟨w.heap.size + 1, 0, none⟩) (by simp) (.bool true)
              have k2 := (KeepsOthers.setCell w8 ⟨w.heap.size + 1, 0, none⟩ (.bool true)).same D2 _ ((HB8.out.block _ (Array.getElem?_eq_some_iff.1 HK2.out).1).trans HK2.out) rfl
              have k1 := (KeepsOthers.setCell w8 ⟨w.heap.size + 1, 0, none⟩ (.bool true)).same D _ ((HB8.out.block _ (Array.getElem?_eq_some_iff.1 HKB.out).1).trans HKB.out) rfl
              generalize w8.setCell ⟨w.heap.size + 1, 0, none⟩ (.bool true) = W9 at *
              refine ⟨by simp, .inl ⟨_, _, rfl, run_takeDeferred k2, ?_⟩⟩
              have hdd := HDD.out
              have hsz6 := HN6.out.bel.size
              have k1' := (World.putObj_heap_other (o := .deferred none) (show D ≠ D2 by omega)).trans k1
              refine ⟨by simp, .inl ⟨_, _, rfl, run_takeDeferred k1', ?_⟩⟩
              have hres2 := (hres.grown (grownBy_putObj' _ D2 (.deferred none)) (fun r e => by cases e; exact ⟨_, k2, rfl⟩)).grown (grownBy_putObj' _ D (.deferred none)) (fun r e => by cases e; exact ⟨_, k1', rfl⟩)
              have hc9 := hres2.cell
              refine ⟨.bool true, ?_, rfl, (hbel.trans (belowK_b (w := w) (Nat.le_refl _) W9 D2 _ _ (by omega) k2 rfl rfl)).trans (belowK_b (w := w) (Nat.le_refl _) _ D _ _ HDZ.out k1' rfl rfl)⟩
              simp [results, Tryd.f4, go_sem, hc9]
          · exact absurd hpre hno
    · exact absurd hpre hno
end Go.Proofs.YtjepodcgbfejgaaDoor.Hw
