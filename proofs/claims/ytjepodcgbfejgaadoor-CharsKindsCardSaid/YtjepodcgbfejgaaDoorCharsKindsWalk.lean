import Derived.Test.YtjepodcgbfejgaaDoorChL
/- The law CharsKinds, walked. -/
namespace Go.Proofs.YtjepodcgbfejgaaDoor.Hw
open Go.RowKit Go.Proofs.YtjepodcgbfejgaaDoorW.PrintWords Go.Proofs.YtjepodcgbfejgaaDoorW.PrintLast Go.Proofs.YtjepodcgbfejgaaDoorW.PrintMore Go.Proofs.YtjepodcgbfejgaaDoor.PH Go.Proofs.YtjepodcgbfejgaaDoor.CP
set_option linter.unusedVariables false
set_option linter.unusedSimpArgs false
set_option maxRecDepth 100000 in
set_option maxHeartbeats 2000000 in
theorem charsKinds_walk (w : World) (hC : ChW w) (r : Int) (hw : (Lit.int .i32 r).wf = true) :
    Calls Tryd.prog 3 #[.int .i32 r] w fun e w' => e = .returned (.bool true) ∧ Below w.heap.size w w' := by
  have HL := Aside0.mk (live_calls w hC)
  have e1 := chars_Char.calls r (xc r) 
  have e2 := gridironref05_Char.calls 1001 r (xc r)
  have e3 := chars_Space.calls r (sp r)
  have e4 := gridironref05_Space.calls r (sp r)
  have e5 := chars_NameStart.calls 12 r (nst r)
  have e6 := gridironref05_NameStart.calls 1001 r (nst r)
  have e7 := chars_NameChar.calls 12 r (nch r)
  have e8 := gridironref05_NameChar.calls 1001 r (nch r)
  have H1 := Aside0.mk (fun w => e1 w (char_is r)); have H2 := Aside0.mk (fun w => e2 w (rchar_is r)); have H3 := Aside0.mk (fun w => e3 w (space_is r)); have H4 := Aside0.mk (fun w => e4 w (rspace_is r))
  have H5 := Aside0.mk (fun w => e5 w (start_is r)); have H6 := Aside0.mk (fun w => e6 w (rstart_is r)); have H7 := Aside0.mk (fun w => e7 w (nchar_is r)); have H8 := Aside0.mk (fun w => e8 w (rnchar_is r))
  clear hC e1 e2 e3 e4 e5 e6 e7 e8
  generalize xc r = b1 at *
  generalize sp r = b2 at *
  generalize nst r = b3 at *
  generalize nch r = b4 at *
  have q1 : (b1 == b1) = true := by cases b1 <;> rfl
  have q2 : (b2 == b2) = true := by cases b2 <;> rfl
  have q3 : (b3 == b3) = true := by cases b3 <;> rfl
  have q4 : (b4 == b4) = true := by cases b4 <;> rfl
  go_enter Tryd.func3, Tryd.ntmps3
  go_wp2_with (first
    | (go_at_call 9; refine HL.out.mono ?_; rintro e w1 ⟨rfl, hb1⟩; have HB1 := Aside0.mk hb1; clear hb1)
    | (go_at_call 10; refine (H1.out _).mono ?_; rintro e w2 ⟨rfl, hd2⟩; obtain ⟨n2, rfl⟩ := hd2.out; clear hd2)
    | (go_at_call 11; refine (H2.out _).mono ?_; rintro e w3 ⟨rfl, hb3⟩; have HB3 := Aside0.mk ((pw_below_drewN HB1.out n2).trans (hb3.mono HB1.out.size)); clear hb3)
    | (go_at_call 12; refine (H3.out _).mono ?_; rintro e w4 ⟨rfl, hd4⟩; obtain ⟨n4, rfl⟩ := hd4.out; clear hd4)
    | (go_at_call 13; refine (H4.out _).mono ?_; rintro e w5 ⟨rfl, hd5⟩; obtain ⟨n5, rfl⟩ := hd5.out; clear hd5)
    | (go_at_call 14; refine (H5.out _).mono ?_; rintro e w6 ⟨rfl, hd6⟩; obtain ⟨n6, rfl⟩ := hd6.out; clear hd6)
    | (go_at_call 15; refine (H6.out _).mono ?_; rintro e w7 ⟨rfl, hb7⟩; have HB7 := Aside0.mk ((pw_below_drewN HB3.out _).trans (hb7.mono HB3.out.size)); clear hb7)
    | (go_at_call 16; refine (H7.out _).mono ?_; rintro e w8 ⟨rfl, hd8⟩; obtain ⟨n8, rfl⟩ := hd8.out; clear hd8)
    | (go_at_call 17; refine (H8.out _).mono ?_; rintro e w9 ⟨rfl, hb9⟩; have HB9 := Aside0.mk ((pw_below_drewN HB7.out n8).trans (hb9.mono HB7.out.size)); clear hb9))
  go_ret
  exact ⟨rfl, HB9.out⟩
end Go.Proofs.YtjepodcgbfejgaaDoor.Hw
