import Derived.Test.YtjajkgemjgehiaaSoG
/- The library's stable sort at rows of structs: stableCmpFunc. -/
set_option linter.unusedVariables false
set_option linter.unusedSimpArgs false
namespace Go.Proofs.Ytjajkgemjgehiaa.St
open Go.Shelf Go.RowKit Go.Lib Go.Sort Go.Proofs
variable {P : Program} {k : Nat} {α : Type} [Inhabited α]
theorem symMerge_calls (L : SoL P k) (enc : α → List Value) (cf : α → α → Int) (key : α → Int) (hK : ByKey cf key) (g : Nat) (cb : Array Value) (blk off cap : Nat) (d0 : Array α) (w0 : World)
    (eg : ∀ args w, (callFunc g args).run P w = .ok (.enter g args) w) (hcmp : CmpLays P g cb enc k cf blk off d0.size w0) (R : RowK enc k w0 blk off d0) (hsz : d0.size < 2305843009213693952) :
    ∀ N, MergeOk P enc k key g cb blk off cap d0 w0 N := by
  intro N
  induction N with
  | zero => intro a m b d w h; exact absurd h (Nat.not_lt_zero _)
  | succ N ih =>
    intro a m b d w hN hs S ham hmb hb h1 h2
    by_cases c1 : m = a + 1
    · subst c1
      exact symMerge_left L enc cf key hK g cb blk off cap a b d0 d w0 w eg hcmp R hs S hmb hb (by omega) h2
    · by_cases c2 : b = m + 1
      · subst c2
        exact symMerge_right L enc cf key hK g cb blk off cap a m d0 d w0 w eg hcmp R hs S (by omega) hb (by omega) h1
      · refine symMerge_gen L enc cf key hK g cb blk off cap a m b d0 d w0 w eg hcmp R hs S (by omega) (by omega) hb (by omega) h1 h2 ?_
        intro a' m' b' d' w' h
        exact ih a' m' b' d' w' (by omega)
/-! ### insertionSortCmpFunc, by the library's own law -/
def renS : Ren := ⟨fun | 20 => 24 | n => n, fun | 0 => 0 | 3 => 3 | 4 => 4 | 22 => 32 | 24 => 34 | 25 => 37 | n => n, fun n => n⟩
theorem insBody : Try.f24 = { SlBodyF.n20 renS with name := Try.f24.name } := by kernel_rfl
theorem insLays (L : SoL P k) : SlLaysF0.n20 P renS := {
  mixed := L.mixed
  f20 := ⟨_, by kernel_rfl, L.fI.trans (congrArg some insBody)⟩
  t0 := L.t0, a0 := L.a0, z0 := L.z0, v0 := L.v0
  t3 := L.t3, a3 := L.a3, z3 := L.z3, v3 := L.v3
  t4 := L.t4, a4 := L.a4, z4 := L.z4, v4 := L.v4
  t22 := L.tS, a22 := L.aS, z22 := L.zS, v22 := L.vS
  t25 := L.tC, a25 := L.aC, z25 := L.zC, v25 := L.vC }
theorem ltOf_key {β : Type} {cf : β → β → Int} {key : β → Int} (hK : ∀ x y, cf x y < 0 ↔ key x < key y) (x y : β) : ltOf cf x y = decide (key x < key y) := by
  unfold ltOf
  by_cases h : key x < key y
  · rw [decide_eq_true h, decide_eq_true ((hK x y).2 h)]
  · rw [decide_eq_false h, decide_eq_false (fun h' => h ((hK x y).1 h'))]
theorem swo_key {β : Type} {cf : β → β → Int} {key : β → Int} (hK : ∀ x y, cf x y < 0 ↔ key x < key y) : SWO (ltOf cf) where
  irrefl x := by rw [ltOf_key hK]; simp
  trans x y z h1 h2 := by rw [ltOf_key hK] at *; simp at *; omega
  ntrans x y z h1 h2 := by rw [ltOf_key hK] at *; simp at *; omega
theorem seg_extract (d : Array α) {a b : Nat} (hab : a ≤ b) (hb : b ≤ d.size) : So.seg (Fn d) a b = (d.extract a b).toList := by
  apply List.ext_getElem
  · simp [So.seg]; omega
  · intro i h1 h2
    have hi : i < b - a := by simpa [So.seg] using h1
    simp only [So.seg, List.getElem_map, List.getElem_range', Array.getElem_toList, Array.getElem_extract, Nat.one_mul]
    unfold Fn
    rw [getElem!_pos d (a + i) (by omega)]
theorem insertion_calls (L : SoL P k) (enc : α → List Value) (cf : α → α → Int) (key : α → Int) (hK : ByKey cf key) (g : Nat) (cb : Array Value) (blk off cap a b : Nat) (d0 d : Array α) (w0 w : World)
    (eg : ∀ args w, (callFunc g args).run P w = .ok (.enter g args) w) (hcmp : CmpLays P g cb enc k cf blk off d0.size w0) (R : RowK enc k w0 blk off d0) (hs : d0.size = d.size) (S : SWK enc k w0 blk off d w) (hab : a ≤ b) (hb : b ≤ d.size) (hsz : d.size < 2305843009213693952) :
    Calls P 24 #[.slice (some ⟨blk, off, none⟩) d.size cap, .int .i64 a, .int .i64 b, .func (.func g) #[] cb] w fun e w' => e = .returned (.tuple #[]) ∧ ∃ d', d'.size = d.size ∧ So.Pm (Fn d) (Fn d') a b ∧ So.Srt key (Fn d') a b ∧ SWK enc k w0 blk off d' w' := by
  obtain ⟨hP, hO⟩ := insertionSort_holds (swo_key hK) d a b hab hb
  have hC : CmpLays P g cb enc k cf blk off d.size w := fun m os dk hdk x y => by
    obtain ⟨n0, os0, rfl⟩ := S
    rw [sortWorldK_on enc k w0 blk off n0 m d dk os0 os R.hblk hdk]
    exact hcmp _ _ dk (by omega) x y
  refine (AnyQ.insertionSortCmpFunc (insLays L) k L.aE L.zE enc R.hk R.h1 cf g cb blk off cap a b d w eg hC (S.holds R.hblk R.hH hs.symm) (S.lt R.hblk) hab hb (by omega)).mono ?_
  rintro e w' ⟨rfl, n, os, rfl⟩
  refine ⟨rfl, _, hP.1, ⟨?_, hP.2.1⟩, ?_, S.on R.hblk n _ os hP.1⟩
  · rw [seg_extract _ hab hb, seg_extract _ hab (by rw [hP.1]; exact hb)]
    exact hP.2.2
  · intro i j hi hij hj
    rcases Nat.lt_or_eq_of_le hij with h | h
    · have := hO i j hi h hj
      rw [ltOf_key hK] at this
      exact Int.not_lt.1 (of_decide_eq_false this)
    · rw [h]; exact Int.le_refl _

set_option maxHeartbeats 8000000 in
set_option maxRecDepth 1000000 in
theorem stable_calls (L : SoL P k) (enc : α → List Value) (cf : α → α → Int) (key : α → Int) (hK : ByKey cf key) (g : Nat) (cb : Array Value) (blk off cap : Nat) (d : Array α) (w : World)
    (eg : ∀ args w, (callFunc g args).run P w = .ok (.enter g args) w) (hcmp : CmpLays P g cb enc k cf blk off d.size w) (R : RowK enc k w blk off d) (hsz : d.size < 1152921504606846976) :
    Calls P 20 #[.slice (some ⟨blk, off, none⟩) d.size cap, .int .i64 d.size, .func (.func g) #[] cb] w fun e w' => e = .returned (.tuple #[]) ∧ ∃ d', d'.size = d.size ∧ So.Pm (Fn d) (Fn d') 0 d.size ∧ So.Srt key (Fn d') 0 d.size ∧ SWK enc k w blk off d' w' := by
  have mixed := L.mixed; have t0 := L.t0; have a0 := L.a0; have z0 := L.z0; have v0 := L.v0; have t3 := L.t3; have a3 := L.a3; have z3 := L.z3; have v3 := L.v3; have t4 := L.t4; have a4 := L.a4; have z4 := L.z4; have v4 := L.v4; have t22 := L.tS; have a22 := L.aS; have z22 := L.zS; have v22 := L.vS; have t25 := L.tC; have a25 := L.aC; have z25 := L.zC; have v25 := L.vC
  have u3 := run_underlying L.t3
  have e24 : ∀ args w, (callFunc 24 args).run P w = .ok (.enter 24 args) w := enters_of L.fI (by rfl) rfl
  have e25 : ∀ args w, (callFunc 25 args).run P w = .ok (.enter 25 args) w := enters_of L.fM (by rfl) rfl
  have HI : Aside (∀ a b (dk : Array α) (W : World), d.size = dk.size → SWK enc k w blk off dk W → a ≤ b → b ≤ dk.size → Calls P 24 #[.slice (some ⟨blk, off, none⟩) dk.size cap, .int .i64 a, .int .i64 b, .func (.func g) #[] cb] W fun e w' => e = .returned (.tuple #[]) ∧ ∃ d', d'.size = dk.size ∧ So.Pm (Fn dk) (Fn d') a b ∧ So.Srt key (Fn d') a b ∧ SWK enc k w blk off d' w') :=
    fun a b dk W h1 h2 h3 h4 => insertion_calls L enc cf key hK g cb blk off cap a b d dk w W eg hcmp R h1 h2 h3 h4 (by omega)
  have HM : Aside (∀ N, MergeOk P enc k key g cb blk off cap d w N) := symMerge_calls L enc cf key hK g cb blk off cap d w eg hcmp R (by omega)
  have S0 : Aside (SWK enc k w blk off d w) := SWK.start R.hH
  clear hcmp hK eg R
  obtain ⟨n, hn⟩ : ∃ n, n = d.size := ⟨_, rfl⟩
  go_enter L.fS, Try.ntmps20
  go_wp2
  go_loopg [7, 8] d.size (fun kx s7 s8 wr => ∃ (a : Nat) (dk : Array α), s7 = .int .i64 a ∧ s8 = .int .i64 ((a : Int) + 20) ∧ a ≤ d.size ∧ d.size - a ≤ kx ∧ dk.size = d.size ∧ Aside (SWK enc k w blk off dk wr) ∧ Hid (So.Pm (Fn d) (Fn dk) 0 d.size ∧ So.Fr key (Fn dk) 20 0 a))
  case atStart => exact ⟨0, d, rfl, rfl, by omega, by omega, rfl, S0, ⟨So.Pm.refl _ _ _, .nil⟩⟩
  case round =>
    clear S0
    obtain ⟨a, dk, rfl, rfl, ha, hkx, hds, S1, HE⟩ := hrel
    by_cases hlt : a + 20 ≤ d.size
    · have hltz : (a : Int) + 20 ≤ (d.size : Int) := by omega
      have hc := HI.out a (a + 20) dk wr hds.symm S1.out (by omega) (by omega)
      rw [hds, show ((a + 20 : Nat) : Int) = (a : Int) + 20 from by omega] at hc
      have HCR : Aside _ := hc
      clear hc S1
      go_wp2_with (go_at_fn 24; refine Calls.mono HCR.out ?_; rintro _ w1 ⟨rfl, d1, hd1, hp1, hs1, S2⟩; have S3 : Aside _ := S2; clear S2; have H1 : Hid _ := And.intro hp1 hs1; clear hp1 hs1)
      go_roundg (d.size - (a + 20))
      case measure => omega
      case rel => exact ⟨a + 20, d1, by first | rfl | go_num | (congr 1; omega), by first | rfl | go_num | (congr 1; omega), hlt, Nat.le_refl _, hd1, S3, ⟨HE.out.1.trans (H1.out.1.wide (by omega) (by omega) (by omega)), So.step_ins HE.out.2 H1.out.1 H1.out.2⟩⟩
    · have hltz : ¬ (a : Int) + 20 ≤ (d.size : Int) := by omega
      have hc := HI.out a d.size dk wr hds.symm S1.out (by omega) (by omega)
      rw [hds] at hc
      have HCR : Aside _ := hc
      clear hc S1
      go_wp2_with (go_at_fn 24; refine Calls.mono HCR.out ?_; rintro _ w1 ⟨rfl, d1, hd1, hp1, hs1, S2⟩; have S3 : Aside _ := S2; clear S2; have H1 : Hid _ := And.intro hp1 hs1; clear hp1 hs1)
      have H2 : Hid (So.Pm (Fn d) (Fn d1) 0 d.size ∧ So.Tl key (Fn d1) 20 d.size 0) := ⟨HE.out.1.trans (H1.out.1.wide (by omega) (by omega) (by omega)), So.step_rest HE.out.2 ha (by omega) H1.out.1 H1.out.2⟩
      clear HE H1
      -- the merging passes
      go_loopg [6] d.size (fun kx s6 wr => ∃ (bs : Nat) (dk : Array α), s6 = .int .i64 bs ∧ 1 ≤ bs ∧ bs ≤ 2 * d.size + 20 ∧ d.size - bs ≤ kx ∧ dk.size = d.size ∧ Aside (SWK enc k w blk off dk wr) ∧ Hid (So.Pm (Fn d) (Fn dk) 0 d.size ∧ So.Tl key (Fn dk) bs d.size 0))
      case atStart => exact ⟨20, d1, rfl, by omega, by omega, by omega, hd1, S3, H2⟩
      case round =>
        clear S3 H2
        obtain ⟨bs, dk, rfl, hb1, hb2, hkx2, hds, S1, HE⟩ := hrel
        by_cases hbn : bs < d.size
        · have hbz : (bs : Int) < (d.size : Int) := by omega
          go_wp2
          go_loopg [7, 8] d.size (fun kx s7 s8 wr => ∃ (a : Nat) (dj : Array α), s7 = .int .i64 a ∧ s8 = .int .i64 ((a : Int) + 2 * (bs : Int)) ∧ a ≤ d.size ∧ d.size - a ≤ kx ∧ dj.size = d.size ∧ Aside (SWK enc k w blk off dj wr) ∧ Hid (So.Pm (Fn d) (Fn dj) 0 d.size ∧ So.Fr key (Fn dj) (2 * bs) 0 a ∧ So.Tl key (Fn dj) bs d.size a))
          case atStart => exact ⟨0, dk, rfl, by first | rfl | go_num | (congr 1; omega), by omega, by omega, hds, S1, ⟨HE.out.1, .nil, HE.out.2⟩⟩
          case round =>
            clear S1 HE
            obtain ⟨a, dj, rfl, rfl, ha, hkx3, hdj, S1, HE⟩ := hrel
            by_cases hlt : a + 2 * bs ≤ d.size
            · have hltz : (a : Int) + 2 * (bs : Int) ≤ (d.size : Int) := by omega
              have hc := HM.out (2 * bs + 1) a (a + bs) (a + 2 * bs) dj wr (by omega) hdj.symm S1.out (by omega) (by omega) (by omega) (HE.out.2.2.two hb1 hlt).1 (HE.out.2.2.two hb1 hlt).2.1
              rw [hdj, show ((a + bs : Nat) : Int) = (a : Int) + (bs : Int) from by omega, show ((a + 2 * bs : Nat) : Int) = (a : Int) + 2 * (bs : Int) from by omega] at hc
              have HCR : Aside _ := hc
              clear hc S1
              go_wp2_with (go_at_fn 25; refine Calls.mono HCR.out ?_; rintro _ w1 ⟨rfl, d1, hd1, hp1, hs1, S2⟩; have S3 : Aside _ := S2; clear S2; have H1 : Hid _ := And.intro hp1 hs1; clear hp1 hs1)
              go_roundg (d.size - (a + 2 * bs))
              case measure => omega
              case rel => exact ⟨a + 2 * bs, d1, by first | rfl | go_num | (congr 1; omega), by first | rfl | go_num | (congr 1; omega), hlt, Nat.le_refl _, hd1, S3, ⟨HE.out.1.trans (H1.out.1.wide (by omega) (by omega) (by omega)), So.step_two HE.out.2.1 HE.out.2.2 hb1 hlt H1.out.1 H1.out.2⟩⟩
            · have hltz : ¬ (a : Int) + 2 * (bs : Int) ≤ (d.size : Int) := by omega
              by_cases hm : a + bs < d.size
              · have hmz : (a : Int) + (bs : Int) < (d.size : Int) := by omega
                have hc := HM.out (2 * bs + 1) a (a + bs) d.size dj wr (by omega) hdj.symm S1.out (by omega) (by omega) (by omega) (HE.out.2.2.one hm (by omega)).1 (HE.out.2.2.one hm (by omega)).2
                rw [hdj, show ((a + bs : Nat) : Int) = (a : Int) + (bs : Int) from by omega] at hc
                have HCR : Aside _ := hc
                clear hc S1
                go_wp2_with (go_at_fn 25; refine Calls.mono HCR.out ?_; rintro _ w1 ⟨rfl, d1, hd1, hp1, hs1, S2⟩; have S3 : Aside _ := S2; clear S2; have H1 : Hid _ := And.intro hp1 hs1; clear hp1 hs1)
                go_roundg (d.size - 2 * bs)
                case measure => omega
                case rel => exact ⟨2 * bs, d1, by first | rfl | go_num | (congr 1; omega), by omega, by omega, Nat.le_refl _, hd1, S3, ⟨HE.out.1.trans (H1.out.1.wide (by omega) (by omega) (by omega)), So.step_one HE.out.2.1 ha (by omega) H1.out.1 H1.out.2⟩⟩
              · have hmz : ¬ (a : Int) + (bs : Int) < (d.size : Int) := by omega
                go_wp2
                go_roundg (d.size - 2 * bs)
                case measure => omega
                case rel => exact ⟨2 * bs, dj, by first | rfl | go_num | (congr 1; omega), by omega, by omega, Nat.le_refl _, hdj, S1, ⟨HE.out.1, So.step_none HE.out.2.1 HE.out.2.2 (by omega)⟩⟩
        · have hbz : ¬ (bs : Int) < (d.size : Int) := by omega
          go_wp2
          go_end0
          exact ⟨rfl, dk, hds, HE.out.1, HE.out.2.whole (by omega), S1.out⟩
end Go.Proofs.Ytjajkgemjgehiaa.St
