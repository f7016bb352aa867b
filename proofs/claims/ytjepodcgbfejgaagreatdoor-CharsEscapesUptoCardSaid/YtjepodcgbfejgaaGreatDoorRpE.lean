import Derived.Test.YtjepodcgbfejgaaGreatDoorRpR
/- strings.Replacer: Replace, walked. -/
namespace Go.Proofs.YtjepodcgbfejgaaGreatDoor.Hw
open Go.RowKit Go.Proofs.YtjepodcgbfejgaaGreatDoorW.PrintWords Go.Proofs.YtjepodcgbfejgaaGreatDoorW.PrintLast Go.Proofs.YtjepodcgbfejgaaGreatDoorW.PrintMore Go.Proofs.YtjepodcgbfejgaaGreatDoor.PH Go.Proofs.YtjepodcgbfejgaaGreatDoor.CP
set_option linter.unusedVariables false
set_option linter.unusedSimpArgs false
set_option maxRecDepth 100000 in
set_option maxHeartbeats 2000000 in
theorem replace_calls (g b0 c : Nat) (ps : Ps) (s : ByteArray) (w W1 : World) (hB : RpB w g 0 0 .nilIface (.slice (some ⟨b0, 0, none⟩) (2 * ps.length) c)) (hz : W1.heap.size = g)
    (hC : Kd.C Kd.string W1 (some ⟨b0, 0, none⟩) (2 * ps.length) (strs ps)) (hbW : Below g W1 w) (hs : s.size ≤ 4000000000) (h2 : 2 ≤ ps.length) (hk : ps.length ≤ 100)
    (hlen : ∀ p ∈ ps, 2 ≤ p.2.length ∧ p.2.length ≤ 100) (hnd : (ps.map (·.1.toNat)).Nodup) :
    Calls Tryz.prog 11 #[.pointer (some ⟨g, 0, none⟩), .string s] w fun e w' => e = .returned (.string ⟨(outB ps.reverse s.data.toList).toArray⟩) ∧ Below g w w' := by
  have HD := Aside0.mk (do_calls g .nilIface (.slice (some ⟨b0, 0, none⟩) (2 * ps.length) c) w hB (.slice none 0 0) (RpR g ps.reverse) RpR.set RpR.drew (fun w1 hw1 hb1 =>
    once_calls g .nilIface b0 c ps w w1 hw1 hb1 (Kd.C_below hC (by rw [hz]; exact hbW.trans hb1)) h2 hk hlen hnd))
  have HS : Aside0 (∀ (b base : Nat) (W : World), BsW W base b ps.reverse → Calls Tryz.prog 111 #[.pointer (some ⟨b, 0, none⟩), .string s] W fun e w' => e = .returned (.string ⟨(outB ps.reverse s.data.toList).toArray⟩) ∧ Below W.heap.size W w') := ⟨fun b base W hW => by
    obtain ⟨A, c', hr⟩ := hW.reads
    exact bsrep_calls b ps.reverse A c' s W hr hs (by simpa using hk) (fun p hp => hlen p (by simpa using hp)) (by rw [List.map_reverse]; exact List.pairwise_reverse.2 (List.Pairwise.imp (fun h => Ne.symm h) hnd))⟩
  have HG : Aside0 (g < w.heap.size) := ⟨hB.lt⟩
  clear hB hz hC hbW hs hlen hnd
  go_enter Tryz.func11, Tryz.ntmps11
  go_wp2_with (go_at_call 24; refine HD.out.mono ?_; rintro e w1 ⟨rfl, r2, hr2, hRR, hb1⟩; obtain ⟨b, base, rfl, hgb, hbb, hbs⟩ := hRR; have c3 := hr2.cells.2.2.1; have HBS := Aside0.mk hbs; have HB1 := Aside0.mk hb1; have HG1 := Aside0.mk hr2.lt; clear hbs hb1 hr2 hgb hbb)
  refine (HS.out b base w1 HBS.out).mono ?_
  rintro e w2 ⟨rfl, hb2⟩
  have HB2 := Aside0.mk (HB1.out.trans (hb2.mono (Nat.le_of_lt HG1.out)))
  clear hb2
  go_wp2
  go_ret
  exact ⟨rfl, HB2.out⟩
/-- What is escaped, and how. -/
def escP : Bool → Ps
  | false => [(38, [38, 97, 109, 112, 59]), (60, [38, 108, 116, 59]), (62, [38, 103, 116, 59]), (13, [38, 35, 49, 51, 59])]
  | true => [(38, [38, 97, 109, 112, 59]), (60, [38, 108, 116, 59]), (62, [38, 103, 116, 59]), (13, [38, 35, 49, 51, 59]), (34, [38, 113, 117, 111, 116, 59]), (9, [38, 35, 57, 59]), (10, [38, 35, 49, 48, 59])]
def escT (attr : Bool) (s : ByteArray) : List UInt8 := outB (escP attr).reverse s.data.toList
def escE (attr : Bool) (s : ByteArray) : Option Nat → Value
  | some _ => .tuple #[.string ⟨#[]⟩, .int .i64 50]
  | none => .tuple #[.string ⟨(escT attr s).toArray⟩, .int .i64 0]
def row8 : Array Value := #[.string ⟨#[38]⟩, .string ⟨#[38, 97, 109, 112, 59]⟩, .string ⟨#[60]⟩, .string ⟨#[38, 108, 116, 59]⟩, .string ⟨#[62]⟩, .string ⟨#[38, 103, 116, 59]⟩, .string ⟨#[13]⟩, .string ⟨#[38, 35, 49, 51, 59]⟩]
def row6 : Array Value := #[.string ⟨#[34]⟩, .string ⟨#[38, 113, 117, 111, 116, 59]⟩, .string ⟨#[9]⟩, .string ⟨#[38, 35, 57, 59]⟩, .string ⟨#[10]⟩, .string ⟨#[38, 35, 49, 48, 59]⟩]
theorem esc_len (attr : Bool) : ∀ p ∈ escP attr, 2 ≤ p.2.length ∧ p.2.length ≤ 100 := by cases attr <;> decide
theorem esc_nd (attr : Bool) : ((escP attr).map (·.1.toNat)).Nodup := by cases attr <;> decide
theorem esc_row8 (W : World) : Kd.R Kd.string 9 (W.alloc (.cells row8 9)) W.heap.size (fun _ => True) (.slice (some ⟨W.heap.size, 0, none⟩) 8 8) (strs (escP false)) :=
  Kd.R_of_own (World.ownsRow_lit (base := W.heap.size) (e := 9) (size := 1) W row8 8 (Nat.le_refl _) (by decide) (by decide)) (fun _ _ => trivial)
theorem esc_row6 (W : World) : Kd.R Kd.string 9 (W.alloc (.cells row6 9)) W.heap.size (fun _ => True) (.slice (some ⟨W.heap.size, 0, none⟩) 6 6) ((strs (escP true)).drop 8) :=
  Kd.R_of_own (World.ownsRow_lit (base := W.heap.size) (e := 9) (size := 1) W row6 6 (Nat.le_refl _) (by decide) (by decide)) (fun _ _ => trivial)
set_option maxRecDepth 100000 in
set_option maxHeartbeats 2000000 in
theorem escape_calls (s : ByteArray) (attr : Bool) (w : World) (hC : ChW w) (hs : s.size ≤ 4000000000) :
    Calls Tryz.prog 4 #[.string s, .bool attr] w fun e w' => e = .returned (escE attr s (vld s)) ∧ Below w.heap.size w w' := by
  have HC := Aside0.mk hC
  have HCV := Aside0.mk (valid_calls s w hC (by unfold maxLen; omega))
  have HSZ := Aside0.mk hs
  clear hs hC
  cases hv : vld s with
  | some p =>
    rw [hv] at HCV
    clear hv
    go_enter Tryz.func4, Tryz.ntmps4
    go_wp2_with fail
    refine HCV.out.mono ?_
    rintro e w1 ⟨rfl, hb1⟩
    have HB1 := Aside0.mk hb1
    clear hb1
    unfold vldV
    go_wp2
    go_ret2
    exact ⟨rfl, HB1.out⟩
  | none =>
    rw [hv] at HCV
    clear hv
    cases attr with
    | false =>
      go_enter Tryz.func4, Tryz.ntmps4
      go_wp2_with fail
      refine HCV.out.mono ?_
      rintro e w1 ⟨rfl, hb1⟩
      have HB1 := Aside0.mk hb1
      clear hb1
      unfold vldV
      go_wp2_with fail
      refine (newrep_calls (some ⟨w1.heap.size, 0, none⟩) 8 (strs (escP false)) (w1.alloc (.cells row8 9)) (Kd.R_reads' (esc_row8 w1)).2.2 4 rfl (by decide) (by decide)).mono ?_
      rintro e w2 ⟨g, b0, c2, W1, rfl, hg, hRB, hz, hCC, hbW, hb2⟩
      have HR := Aside0.mk (replace_calls g b0 c2 (escP false) s w2 W1 hRB hz hCC hbW HSZ.out (by decide) (by decide) (esc_len false) (esc_nd false))
      have hb12 : Below w1.heap.size w1 w2 := ((Below.refl _ w1).alloc (Nat.le_refl _) _).trans (hb2.mono (by simp))
      have HB2 := Aside0.mk (HB1.out.trans (hb12.mono HB1.out.size))
      have HG : Aside0 (w.heap.size ≤ g) := ⟨by have := HB1.out.size; simp at hg; omega⟩
      clear hg hRB hz hCC hbW hb2 hb12
      go_wp2_with fail
      refine HR.out.mono ?_
      rintro e w3 ⟨rfl, hb3⟩
      have HB3 := Aside0.mk (HB2.out.trans (hb3.mono HG.out))
      clear hb3
      go_wp2
      go_ret2
      exact ⟨rfl, HB3.out⟩
    | true =>
      go_enter Tryz.func4, Tryz.ntmps4
      go_wp2_with fail
      refine HCV.out.mono ?_
      rintro e w1 ⟨rfl, hb1⟩
      have HB1 := Aside0.mk hb1
      clear hb1
      unfold vldV
      have h8 : Aside0 (Kd.R Kd.string 9 ((w1.alloc (.cells row8 9)).alloc (.cells row6 9)) w1.heap.size (fun _ => True) (.slice (some ⟨w1.heap.size, 0, none⟩) 8 8) (strs (escP false))) := ⟨Kd.R_alloc (esc_row8 w1) _⟩
      have h6 : Aside0 (Kd.C Kd.string ((w1.alloc (.cells row8 9)).alloc (.cells row6 9)) (some ⟨w1.heap.size + 1, 0, none⟩) 6 ((strs (escP true)).drop 8)) := ⟨by
        have := (Kd.R_reads' (esc_row6 (w1.alloc (.cells row8 9)))).2.2
        rwa [World.size_alloc] at this⟩
      have hB12 : Aside0 (Below w1.heap.size w1 ((w1.alloc (.cells row8 9)).alloc (.cells row6 9))) := ⟨((Below.refl _ _).alloc (Nat.le_refl _) _).alloc (by simp) _⟩
      go_wp2_with (at_builtin; refine mark_ ?_)
      refine ⟨?_⟩
      refine Kd.R_append_row (Value.string) ByteArray.empty (w0 := w1) w1.heap.size rfl _ _ 31 9 (.string ByteArray.empty) 16 rfl Tryz.underlying31 infoS9 rfl (by decide) (.slice (some ⟨w1.heap.size, 0, none⟩) 8 8) (strs (escP false)) ((strs (escP true)).drop 8) (some ⟨w1.heap.size + 1, 0, none⟩) 6 6 (fun _ => True) rfl rfl (fun _ _ => trivial) h8.out h6.out hB12.out hB12.out.size (by decide) ?_
      intro v2 w2 hv2 hb2 hg2 hat2
      obtain ⟨A2, c2, rfl, hc2, hCr⟩ := Kd.R_reads hv2
      have HV2 : Aside0 (Kd.C Kd.string w2 A2 (strs (escP true)).length (strs (escP true))) := ⟨hCr⟩
      have HB2 := Aside0.mk (HB1.out.trans (hb2.mono HB1.out.size))
      clear hv2 hb2 hg2 hat2 hCr h8 h6 hB12
      have hl : (strs (escP false) ++ (strs (escP true)).drop 8).length = 14 := by decide
      rw [hl]
      clear hc2
      go_wp2_with fail
      refine (newrep_calls A2 c2 (strs (escP true)) w2 HV2.out 7 rfl (by decide) (by decide)).mono ?_
      rintro e w3 ⟨g, b0, c3, W1, rfl, hg, hRB, hz, hCC, hbW, hb3⟩
      have HR := Aside0.mk (replace_calls g b0 c3 (escP true) s w3 W1 hRB hz hCC hbW HSZ.out (by decide) (by decide) (esc_len true) (esc_nd true))
      have HB3 := Aside0.mk (HB2.out.trans (hb3.mono HB2.out.size))
      have HG : Aside0 (w.heap.size ≤ g) := ⟨by have := HB2.out.size; omega⟩
      clear hg hRB hz hCC hbW hb3 hl
      go_wp2_with fail
      refine HR.out.mono ?_
      rintro e w4 ⟨rfl, hb4⟩
      have HB4 := Aside0.mk (HB3.out.trans (hb4.mono HG.out))
      clear hb4
      go_wp2
      go_ret2
      exact ⟨rfl, HB4.out⟩
end Go.Proofs.YtjepodcgbfejgaaGreatDoor.Hw
