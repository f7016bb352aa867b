import Derived.Test.YtjepodcgbfejgaaGreatDoorChS
import Derived.Test.YtjepodcgbfejgaaGreatDoorBl
import Derived.Lib.IndexMore
/- Unescape, walked: what a text with references says. -/
namespace Go.Proofs.YtjepodcgbfejgaaGreatDoor.CP
open Go.RowKit Go.Proofs.YtjepodcgbfejgaaGreatDoorW.PrintWords
theorem isb_below {T e : TypeId} {B b : Nat} {bs : List Value} {W W' : World} (h : Lib.IsBuilderF T e B b bs W) (hb : Below W.heap.size W W') : Lib.IsBuilderF T e B b bs W' := by
  have go : ∀ {p : Value}, Lib.BuilderAtF T e B b p bs W → Lib.BuilderAtF T e B b p bs W' := by
    intro p h
    obtain ⟨hB, v, hbb, hown, hne⟩ := h
    have hk : ∀ {k : Nat} {o : Obj}, W.heap[k]? = some o → W'.heap[k]? = some o := fun {k o} hx => (hb.block k (Array.getElem?_eq_some_iff.1 hx).1).trans hx
    refine ⟨hB, v, hk hbb, ⟨hown.1, ?_⟩, hne⟩
    rcases hown.2 with hn | ⟨g, cap, cur, fz, hv, hbg, hg, rest⟩
    · exact .inl hn
    · exact .inr ⟨g, cap, cur, fz, hv, hbg, hk hg, rest⟩
  exact h.elim (fun x => .inl (go x)) (fun x => .inr (go x))
abbrev cutU (s : ByteArray) (c : UInt8) : List UInt8 × List UInt8 × Bool := Lib.cut s.data.toList [c]
/-- What a cut finds: a piece no longer than the text, and behind it the byte, if it was there. -/
theorem cutU_le (s : ByteArray) (c : UInt8) : (cutU s c).1.length ≤ s.size ∧ ((cutU s c).2.2 = true → (cutU s c).1.length + 1 ≤ s.size) := by
  unfold cutU Lib.cut
  split
  · rename_i h
    have hr := Lib.index_room s.data.toList [c] h
    simp only [List.length_cons, List.length_nil] at hr
    have hz := Lib.size_eq s
    simp only [List.length_take]
    constructor
    · omega
    · intro _; omega
  · have hz := Lib.size_eq s
    simp only []
    constructor
    · omega
    · intro h; cases h
/-- The text (or none, at a reference that may not be), and its place. -/
def unT (k : Nat → List UInt8 → Option (List UInt8) × Int) (q : Nat) (acc : List UInt8) (D : List UInt8 × List UInt8 × Bool) : Option (List UInt8) × Int :=
  if D.2.2 = true ∧ (saidV ⟨D.1.toArray⟩).2 = true then k (q + (D.1.length + 2)) (acc ++ Lib.encodeRune (saidV ⟨D.1.toArray⟩).1) else (none, (q : Int))
def unS (k : Nat → List UInt8 → Option (List UInt8) × Int) (s : ByteArray) (p : Nat) (acc : List UInt8) (C : List UInt8 × List UInt8 × Bool) : Option (List UInt8) × Int :=
  if C.2.2 = true then unT k (p + C.1.length) (acc ++ C.1) (cutU (s.extract (p + C.1.length + 1) s.size) 59) else (some (acc ++ C.1), 0)
def unF (s : ByteArray) : Nat → Nat → List UInt8 → Option (List UInt8) × Int
  | 0, _, acc => (some acc, 0)
  | f + 1, p, acc => if p < s.size then unS (unF s f) s p acc (cutU (s.extract p s.size) 38) else (some acc, 0)
theorem unF_end (s : ByteArray) (f p : Nat) (acc : List UInt8) (h : ¬ p < s.size) : unF s f p acc = (some acc, 0) := by cases f <;> simp [unF, h]
/-- What a walk says of it. -/
def unW : Option (List UInt8) × Int → Value
  | (some l, n) => .tuple #[.string ⟨l.toArray⟩, .int .i64 n, .int .i64 0]
  | (none, n) => .tuple #[.string ⟨#[]⟩, .int .i64 n, .int .i64 51]
def unE (s : ByteArray) : Option Nat → Value
  | some p => .tuple #[.string ⟨#[]⟩, .int .i64 (p : Int), .int .i64 50]
  | none => unW (unF s s.size 0 [])
def unV (s : ByteArray) : Value := unE s (vld s)
theorem saidV_range (s : ByteArray) : -2147483648 ≤ (saidV s).1 ∧ (saidV s).1 ≤ 2147483647 := by
  have hF : ∀ (d : ByteArray) (b : Int), 0 ≤ b → b ≤ 16 → ∀ (f p : Nat) (n m : Int), 0 ≤ n → n ≤ 1114112 → digF d b f p n = some m → 0 ≤ m ∧ m ≤ 1114112 := by
    intro d b hb hb2 f
    induction f with
    | zero => intro p n m h0 h1 h; simp only [digF, Option.some.injEq] at h; omega
    | succ f ih =>
      intro p n m h0 h1 h
      rw [digF] at h
      split at h
      · split at h
        · cases h
        · have hd := dig_le ((Utf8.decode d p).1 : Int)
          have hm := Int.mul_nonneg h0 hb
          exact ih _ _ _ (by omega) (by omega) h
      · simp only [Option.some.injEq] at h; omega
  have hV : ∀ (d : ByteArray) (b : Int), 0 ≤ b → b ≤ 16 → 0 ≤ (digV d b).1 ∧ (digV d b).1 ≤ 1114112 := by
    intro d b hb hb2
    unfold digV
    split
    · simp
    · cases hx : digF d b d.size 0 0 with
      | none => simp [digE]
      | some m => exact hF d b hb hb2 d.size 0 0 m (by omega) (by omega) hx
  unfold saidV saidT
  repeat' split
  all_goals first | (simp only []; omega) | (have := hV ⟨(Lib.trimPrefix s.data.toList [35, 120]).toArray⟩ 16 (by omega) (by omega); omega) | (have := hV ⟨(Lib.trimPrefix s.data.toList [35]).toArray⟩ 10 (by omega) (by omega); omega)
end Go.Proofs.YtjepodcgbfejgaaGreatDoor.CP
namespace Go.Proofs.YtjepodcgbfejgaaGreatDoor.Hw
open Go.RowKit Go.Proofs.YtjepodcgbfejgaaGreatDoorW.PrintWords Go.Proofs.YtjepodcgbfejgaaGreatDoorW.PrintLast Go.Proofs.YtjepodcgbfejgaaGreatDoorW.PrintMore Go.Proofs.YtjepodcgbfejgaaGreatDoor.PH Go.Proofs.YtjepodcgbfejgaaGreatDoor.CP
set_option linter.unusedVariables false
set_option linter.unusedSimpArgs false
theorem cut_calls (s : ByteArray) (c : UInt8) (w : World) (hC : ChW w) (hs : s.size < 4294967281) :
    Calls Tryz.prog 14 #[.string s, .string ⟨#[c]⟩] w fun e w' => e = .returned (.tuple #[.string ⟨(cutU s c).1.toArray⟩, .string ⟨(cutU s c).2.1.toArray⟩, .bool (cutU s c).2.2]) ∧ Drawn0 w w' := by
  obtain ⟨m, hm⟩ := hC.2.1
  exact (Tryz.strings_Cut s ⟨#[c]⟩ m w hs hm).mono fun e w' ⟨h1, n, h2⟩ => ⟨h1, ⟨⟨n, h2⟩⟩⟩
set_option maxRecDepth 100000 in
set_option maxHeartbeats 4000000 in
theorem unescape_bad (s : ByteArray) (p : Nat) (w : World) (hC : ChW w) (hs : s.size ≤ 4000000000) (hv : vld s = some p) :
    Calls Tryz.prog 6 #[.string s] w fun e w' => e = .returned (unV s) ∧ Below w.heap.size w w' := by
  have hcv := valid_calls s w hC (by unfold maxLen; omega)
  have HV : Aside0 (unV s = unE s (some p)) := ⟨by unfold unV; rw [hv]⟩
  rw [hv] at hcv
  have HCV := Aside0.mk hcv
  clear hcv hv hC
  go_enter Tryz.func6, Tryz.ntmps6
  go_wp2_with fail
  refine HCV.out.mono ?_
  rintro e w1 ⟨rfl, hb1⟩
  have HB1 := Aside0.mk hb1
  clear hb1
  unfold vldV
  go_wp2
  go_ret3
  exact ⟨by rw [HV.out]; rfl, HB1.out⟩
theorem wstr_calls (B b : Nat) (acc : List UInt8) (s : ByteArray) (w : World) (h : Lib.IsBuilderF 39 5 B b (Lib.byteCells acc) w) (hlen : acc.length + s.size ≤ 140737488355328) (hBw : B ≤ w.heap.size) :
    Calls Tryz.prog 15 #[.pointer (some ⟨b, 0, none⟩), .string s] w fun e w' => e = .returned (.tuple #[.int .i64 s.size, .nilIface]) ∧ Lib.IsBuilderF 39 5 B b (Lib.byteCells (acc ++ s.data.toList)) w' ∧ Below B w w' := by
  have := Any.Builder_WriteString_k Tryz.laysH166 Tryz.extraH B b (Lib.byteCells acc) s w h (by rw [Lib.byteCells_length]; exact hlen) hBw
  refine this.mono fun e w' ⟨h1, h2, h3, _⟩ => ⟨h1, ?_, h3⟩
  rw [Lib.byteCells_append]
  exact Or.inr h2
theorem wrune_calls (B b : Nat) (acc : List UInt8) (r : Int) (hr0 : -2147483648 ≤ r) (hr1 : r ≤ 2147483647) (w : World) (h : Lib.IsBuilderF 39 5 B b (Lib.byteCells acc) w) (hlen : acc.length + 4 ≤ 140737488355328) (hBw : B ≤ w.heap.size) :
    Calls Tryz.prog 17 #[.pointer (some ⟨b, 0, none⟩), .int .i32 r] w fun e w' => e = .returned (.tuple #[.int .i64 (Lib.runeCells r).length, .nilIface]) ∧ Lib.IsBuilderF 39 5 B b (Lib.byteCells (acc ++ Lib.encodeRune r)) w' ∧ Below B w w' := by
  have := Any.Builder_WriteRune_k Tryz.laysH168 Tryz.extraH B b (Lib.byteCells acc) r hr0 hr1 w h (by rw [Lib.byteCells_length]; exact hlen) hBw
  refine this.mono fun e w' ⟨h1, h2, h3, _⟩ => ⟨h1, ?_, h3⟩
  rw [Lib.byteCells_append, Lib.byteCells_encodeRune]
  exact Or.inr h2
theorem enc_len (r : Int) : (Lib.encodeRune r).length ≤ 4 := by
  have h := Lib.runeCells_le r
  rw [Lib.runeCells_length] at h
  omega
set_option maxRecDepth 100000 in
set_option maxHeartbeats 4000000 in
theorem unescape_good (s : ByteArray) (w : World) (hC : ChW w) (hs : s.size ≤ 4000000000) (hv : vld s = none) :
    Calls Tryz.prog 6 #[.string s] w fun e w' => e = .returned (unV s) ∧ Below w.heap.size w w' := by
  have hcv := valid_calls s w hC (by unfold maxLen; omega)
  have HV : Aside0 (unV s = unW (unF s s.size 0 [])) := ⟨by unfold unV; rw [hv]; rfl⟩
  rw [hv] at hcv
  have HCV := Aside0.mk hcv
  have HC := Aside0.mk hC
  clear hcv hv hC
  go_enter Tryz.func6, Tryz.ntmps6
  go_wp2_with fail
  refine HCV.out.mono ?_
  rintro e w1 ⟨rfl, hb1⟩
  have HB1 := Aside0.mk hb1
  clear hb1
  unfold vldV
  go_wp2_with fail
  go_loopw [8] (fun i wr => ∃ (pos f : Nat) (acc : List UInt8), i = .int .i64 pos ∧ Aside0 (Lib.IsBuilderF 39 5 w1.heap.size w1.heap.size (Lib.byteCells acc) wr) ∧ Aside0 (Below w1.heap.size w1 wr) ∧ Aside0 (unF s f pos acc = unF s s.size 0 []) ∧ s.size ≤ pos + f ∧ pos ≤ s.size ∧ acc.length ≤ 4 * pos) (fun i _ => s.size - (intOf i).toNat)
  case atStart => exact ⟨0, s.size, [], rfl, ⟨Lib.IsBuilderF.of (Lib.fresh_isBuilder _ _ w1)⟩, ⟨(Below.refl _ w1).alloc (Nat.le_refl _) _⟩, ⟨rfl⟩, by omega, by omega, by simp⟩
  case round =>
    obtain ⟨pos, f, acc, rfl, HI, HB, HU, hf, hps, hal⟩ := hrel
    have HBW : Aside0 (Below w.heap.size w wr) := ⟨HB1.out.trans (HB.out.mono HB1.out.size)⟩
    have HCr := Aside0.mk (HC.out.go HBW.out)
    by_cases hp : pos < s.size
    · obtain ⟨g, rfl⟩ : ∃ g, f = g + 1 := ⟨f - 1, by omega⟩
      have hsx : (s.extract pos s.size).size = s.size - pos := by simp [ByteArray.size_extract]
      have hce := cutU_le (s.extract pos s.size) 38
      have hst : unF s (g + 1) pos acc = unS (unF s g) s pos acc (cutU (s.extract pos s.size) 38) := by rw [unF, if_pos hp]
      have hcc := cut_calls (s.extract pos s.size) 38 wr HCr.out (by rw [hsx]; omega)
      rw [hsx] at hce
      generalize cutU (s.extract pos s.size) 38 = C at *
      obtain ⟨c1, c2, c3⟩ := C
      simp only [] at hce hst hcc
      have HST := Aside0.mk hst
      have HCC := Aside0.mk hcc
      clear hst hcc hsx
      go_wp2_with fail
      refine HCC.out.mono ?_
      rintro e w2 ⟨rfl, hd2⟩
      obtain ⟨n2, rfl⟩ := hd2.out
      clear hd2
      have HI2 : Aside0 (Lib.IsBuilderF 39 5 w1.heap.size w1.heap.size (Lib.byteCells acc) (wr.drewN n2)) := ⟨isb_below HI.out (pw_below_drewN (Below.refl _ _) n2)⟩
      have HB2 : Aside0 (Below w1.heap.size w1 (wr.drewN n2)) := ⟨pw_below_drewN HB.out n2⟩
      have HS1 : Aside0 ((⟨c1.toArray⟩ : ByteArray).size = c1.length) := ⟨size_mk c1⟩
      go_wp2_with fail
      refine (wstr_calls w1.heap.size w1.heap.size acc ⟨c1.toArray⟩ _ HI2.out (by rw [HS1.out]; omega) HB2.out.size).mono ?_
      rintro e w3 ⟨rfl, hI3, hb3⟩
      have HI3 := Aside0.mk hI3
      have HB3 := Aside0.mk (HB2.out.trans hb3)
      clear hI3 hb3
      cases c3 with
      | false =>
        have h1 := HST.out
        rw [unS, if_neg (by simp), HU.out] at h1
        have HF := Aside0.mk h1
        clear h1
        go_wp2_with fail
        refine (Any.Builder_String_any_k Tryz.lays169 Tryz.Builder_Extra_169 w1.heap.size w1.heap.size (acc ++ c1) _ HI3.out HB3.out.size).mono ?_
        rintro e w4 ⟨rfl, _, hb4, _⟩
        have HB4 := Aside0.mk (HB3.out.trans hb4)
        clear hb4
        go_wp2
        go_ret3
        exact ⟨by rw [HV.out, HF.out]; rfl, HB1.out.trans (HB4.out.mono HB1.out.size)⟩
      | true =>
        have hce2 := hce.2 rfl
        have hq : pos + c1.length + 1 ≤ s.size := by omega
        have hsx : (s.extract (pos + c1.length + 1) s.size).size = s.size - (pos + c1.length + 1) := by simp [ByteArray.size_extract]
        have hde := cutU_le (s.extract (pos + c1.length + 1) s.size) 59
        have h1 := HST.out
        rw [unS, if_pos rfl, HU.out] at h1
        have HC3 := Aside0.mk (HC.out.go (HB1.out.trans (HB3.out.mono HB1.out.size)))
        have hdd := cut_calls (s.extract (pos + c1.length + 1) s.size) 59 w3 HC3.out (by rw [hsx]; omega)
        rw [hsx] at hde
        generalize cutU (s.extract (pos + c1.length + 1) s.size) 59 = D at *
        obtain ⟨d1, d2, d3⟩ := D
        simp only [] at hde h1 hdd
        have HF := Aside0.mk h1
        have HDD := Aside0.mk hdd
        clear h1 hdd hsx
        go_wp2_with fail
        refine HDD.out.mono ?_
        rintro e w4 ⟨rfl, hd4⟩
        obtain ⟨n4, rfl⟩ := hd4.out
        clear hd4
        go_wp2_with fail
        refine (said_calls ⟨d1.toArray⟩ _).mono ?_
        rintro e w5 ⟨rfl, hb5⟩
        have HB5 : Aside0 (Below w3.heap.size w3 w5) := ⟨(pw_below_drewN (Below.refl _ _) n4).trans hb5⟩
        have HI5 := Aside0.mk (isb_below HI3.out HB5.out)
        have HBW5 := Aside0.mk (HB3.out.trans (HB5.out.mono HB3.out.size))
        have hsr := saidV_range ⟨d1.toArray⟩
        generalize hS : saidV ⟨d1.toArray⟩ = S at *
        have HSS := Aside0.mk hS
        obtain ⟨r, ok⟩ := S
        simp only [] at hsr
        clear hb5 hS
        unfold saidW
        have HS2 : Aside0 ((⟨d1.toArray⟩ : ByteArray).size = d1.length) := ⟨size_mk d1⟩
        have h1 := HF.out
        rw [unT] at h1
        simp only [HSS.out] at h1
        cases d3 with
        | false =>
          rw [if_neg (by simp)] at h1
          have HF2 := Aside0.mk h1
          clear h1
          go_wp2
          go_ret3
          refine ⟨by rw [HV.out, HF2.out]; first | rfl | (simp only [unW]; go_num), HB1.out.trans (HBW5.out.mono HB1.out.size)⟩
        | true =>
          cases ok with
          | false =>
            rw [if_neg (by simp)] at h1
            have HF2 := Aside0.mk h1
            clear h1
            go_wp2
            go_ret3
            refine ⟨by rw [HV.out, HF2.out]; first | rfl | (simp only [unW]; go_num), HB1.out.trans (HBW5.out.mono HB1.out.size)⟩
          | true =>
            rw [if_pos ⟨rfl, rfl⟩] at h1
            have HF2 := Aside0.mk h1
            have hde2 := hde.2 rfl
            clear h1
            have hel := enc_len r
            go_wp2_with fail
            refine (wrune_calls w1.heap.size w1.heap.size (acc ++ c1) r hsr.1 hsr.2 _ HI5.out (by rw [List.length_append]; omega) HBW5.out.size).mono ?_
            rintro e w6 ⟨rfl, hI6, hb6⟩
            have HI6 := Aside0.mk hI6
            have HB6 := Aside0.mk (HBW5.out.trans hb6)
            clear hI6 hb6
            go_wp2
            go_roundw
            case rel =>
              exact ⟨pos + c1.length + (d1.length + 2), g, acc ++ c1 ++ Lib.encodeRune r, by go_num, HI6, HB6, ⟨HF2.out.symm⟩, by omega, by omega, by simp only [List.length_append]; omega⟩
            case measure =>
              simp only [intOf]
              omega
    · go_wp2_with fail
      refine (Any.Builder_String_any_k Tryz.lays169 Tryz.Builder_Extra_169 w1.heap.size w1.heap.size acc _ HI.out HB.out.size).mono ?_
      rintro e w4 ⟨rfl, _, hb4, _⟩
      have HB4 := Aside0.mk (HB.out.trans hb4)
      clear hb4
      have h1 := HU.out
      rw [unF_end s f pos acc hp] at h1
      have HF := Aside0.mk h1
      clear h1
      go_wp2
      go_ret3
      exact ⟨by rw [HV.out, ← HF.out]; rfl, HB1.out.trans (HB4.out.mono HB1.out.size)⟩
end Go.Proofs.YtjepodcgbfejgaaGreatDoor.Hw
