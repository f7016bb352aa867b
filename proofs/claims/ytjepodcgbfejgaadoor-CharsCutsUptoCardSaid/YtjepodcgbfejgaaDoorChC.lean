import Derived.Test.YtjepodcgbfejgaaDoorChQ
import Derived.Test.YtjepodcgbfejgaaDoorChL
/- Cut, walked: the program's. -/
namespace Go.Proofs.YtjepodcgbfejgaaDoor.CP
theorem skF_step (s : ByteArray) (f p m : Nat) (h : p < s.size) (hf : s.size ≤ p + f) (hm : 0 < m) : ∃ g, f = g + 1 ∧ skF s f p m = skF s g (p + (Utf8.decode s p).2) (m - 1) ∧ s.size ≤ p + (Utf8.decode s p).2 + g := by
  have := Lib.decode_width_pos s p h
  obtain ⟨g, rfl⟩ : ∃ g, f = g + 1 := ⟨f - 1, by omega⟩
  exact ⟨g, rfl, by rw [skF, if_pos h, if_neg (by omega)], by omega⟩
end Go.Proofs.YtjepodcgbfejgaaDoor.CP
namespace Go.Proofs.YtjepodcgbfejgaaDoor.Hw
open Go.RowKit Go.Proofs.YtjepodcgbfejgaaDoorW.PrintWords Go.Proofs.YtjepodcgbfejgaaDoorW.PrintLast Go.Proofs.YtjepodcgbfejgaaDoorW.PrintMore Go.Proofs.YtjepodcgbfejgaaDoor.PH Go.Proofs.YtjepodcgbfejgaaDoor.CP
set_option linter.unusedVariables false
set_option linter.unusedSimpArgs false
set_option maxRecDepth 100000 in
set_option maxHeartbeats 4000000 in
theorem cutc_calls (s : ByteArray) (a b : Int) (w : World) (hs : s.size ≤ 140737488351232) :
    Calls Tryd.prog 27 #[.string s, .int .i64 a, .int .i64 b] w fun e w' => e = .returned (.string (cutV s a b)) ∧ Below w.heap.size w w' := by
  obtain ⟨F, hF⟩ : ∃ F : Nat, max a 0 = (F : Int) := ⟨(max a 0).toNat, by omega⟩
  obtain ⟨M, hM⟩ : ∃ M : Nat, max b 0 = (M : Int) := ⟨(max b 0).toNat, by omega⟩
  have HV : Aside0 (cutV s a b = s.extract (sk s F) (sk s F + sk (s.extract (sk s F) s.size) M)) := ⟨by unfold cutV; rw [hF, hM]; rfl⟩
  go_enter Tryd.func27, Tryd.ntmps27
  go_wp2
  go_loopw [7, 8] (fun bg kk wr => ∃ (pos f k : Nat), bg = .int .i64 s.size ∧ kk = .int .i64 k ∧ wr.heap[w.heap.size]? = some (.stringIter s pos) ∧ Aside0 (Below w.heap.size w wr) ∧ Aside0 (skF s f pos (F - k) = sk s F) ∧ s.size ≤ pos + f ∧ k ≤ F ∧ k ≤ pos ∧ pos ≤ s.size) (fun bg kk wr => s.size - wr.iterPos w.heap.size)
  case atStart => exact ⟨0, s.size, 0, rfl, rfl, World.iter_heap w s 0, ⟨(Below.refl _ w).alloc (Nat.le_refl _) _⟩, ⟨rfl⟩, by omega, by omega, by omega, by omega⟩
  case round =>
    obtain ⟨pos, f, k, rfl, rfl, hit, HB, HN, hf, hkF, hkp, hps⟩ := hrel
    have HIT := Aside0.mk hit
    have hsz : w.heap.size < wr.heap.size := (Array.getElem?_eq_some_iff.1 hit).1
    by_cases hp : pos < s.size
    · have hnx : ∀ ty, (Instr.next (.pointer (some ⟨w.heap.size, 0, none⟩)) true ty).run Tryd.prog wr = _ := fun ty => Lib.run_next_any_at wr w.heap.size s pos ty hit hp
      have HIT2 := Aside0.mk (Lib.iterAt_heap wr w.heap.size s pos (pos + (Utf8.decode s pos).2) hit)
      have HBW2 := Aside0.mk (Lib.below_iterAt HB.out (k := w.heap.size) (Nat.le_refl _) s (pos + (Utf8.decode s pos).2))
      have hwd := Lib.decode_width_pos s pos hp
      have hin := decode_in' s pos hp
      clear hit
      by_cases hk : k = F
      · subst hk
        have hB : sk s k = pos := by rw [← HN.out, Nat.sub_self]; exact skF_zero s f pos hps hf
        have HBB := Aside0.mk hB
        clear hB
        have t0 : ((k : Int) == (k : Int)) = true := by simp
        generalize hW : wr.iterAt w.heap.size s (pos + (Utf8.decode s pos).2) = W at *
        clear hW
        have HWW := HBW2
        obtain ⟨T, hT⟩ : ∃ T, s.extract pos s.size = T := ⟨_, rfl⟩
        have hTs : T.size = s.size - pos := by rw [← hT, size_piece s pos s.size (by omega) (Nat.le_refl _)]
        have HV2 : Aside0 (cutV s a b = s.extract pos (pos + sk T M)) := ⟨by rw [HV.out, HBB.out, hT]⟩
        have HTT := Aside0.mk hT
        have HTS := Aside0.mk hTs
        have hTl : pos + T.size ≤ s.size := by omega
        clear hTs
        go_wp2
        clear hT
        go_loopw [8, 10] (fun kk en wr => ∃ (pos f k : Nat), en = .int .i64 s.size ∧ kk = .int .i64 k ∧ wr.heap[W.heap.size]? = some (.stringIter T pos) ∧ Aside0 (Below w.heap.size w wr) ∧ Aside0 (skF T f pos (M - k) = sk T M) ∧ T.size ≤ pos + f ∧ k ≤ M ∧ k ≤ pos ∧ pos ≤ T.size) (fun kk en wr => T.size - wr.iterPos W.heap.size)
        case atStart => exact ⟨0, T.size, 0, rfl, rfl, World.iter_heap W T 0, ⟨HWW.out.alloc HWW.out.size _⟩, ⟨rfl⟩, by omega, by omega, by omega, by omega⟩
        case round =>
          obtain ⟨pos2, f2, k2, rfl, rfl, hit2, HB2, HN2, hf2, hkF2, hkp2, hps2⟩ := hrel
          have HITT := Aside0.mk hit2
          by_cases hp2 : pos2 < T.size
          · have hnx2 : ∀ ty, (Instr.next (.pointer (some ⟨W.heap.size, 0, none⟩)) true ty).run Tryd.prog wr = _ := fun ty => Lib.run_next_any_at wr W.heap.size T pos2 ty hit2 hp2
            have HIT3 := Aside0.mk (Lib.iterAt_heap wr W.heap.size T pos2 (pos2 + (Utf8.decode T pos2).2) hit2)
            have HBW3 := Aside0.mk (Lib.below_iterAt HB2.out (k := W.heap.size) HWW.out.size T (pos2 + (Utf8.decode T pos2).2))
            have hwd2 := Lib.decode_width_pos T pos2 hp2
            have hin2 := decode_in' T pos2 hp2
            clear hit2
            by_cases hk2 : k2 = M
            · subst hk2
              have HE : Aside0 (sk T k2 = pos2) := ⟨by rw [← HN2.out, Nat.sub_self]; exact skF_zero T f2 pos2 hps2 hf2⟩
              have t2 : ((k2 : Int) == (k2 : Int)) = true := by simp
              generalize hW3 : wr.iterAt W.heap.size T (pos2 + (Utf8.decode T pos2).2) = W3 at *
              clear hW3
              have hbd : pos + pos2 ≤ s.size := by omega
              have hsl : ∀ wx, (Instr.slice 9 (.string s) (some (.int .i64 (pos : Int))) (some (.int .i64 ((pos : Int) + (pos2 : Int)))) none).run Tryd.prog wx = .ok (.string (s.extract pos (pos + pos2))) wx := fun wx => by
                have := run_slice_string (P := Tryd.prog) wx 9 s .i64 .i64 (pos : Int) ((pos : Int) + (pos2 : Int)) Tryd.underlying9 (by omega) (by omega) (by omega)
                rw [show ((pos : Int)).toNat = pos from rfl, show ((pos : Int) + (pos2 : Int)).toNat = pos + pos2 from by omega] at this
                exact this
              go_wp2
              go_ret
              exact ⟨by rw [HV2.out, HE.out]; rfl, HBW3.out⟩
            · obtain ⟨g2, rfl, hst2, hg2⟩ := skF_step T f2 pos2 (M - k2) hp2 hf2 (by omega)
              have HST2 := Aside0.mk hst2
              clear hst2
              generalize hW3 : wr.iterAt W.heap.size T (pos2 + (Utf8.decode T pos2).2) = W3 at *
              generalize hR2 : (Utf8.decode T pos2).1 = R2 at *
              generalize hK2 : (Utf8.decode T pos2).2 = K2 at *
              have HR2 := Aside0.mk hR2
              have HK2 := Aside0.mk hK2
              clear hR2 hK2 hW3
              have t2 : ((k2 : Int) == (M : Int)) = false := by simp; omega
              have t3 : (k2 == M) = false := by simp [hk2]
              have HK := Aside0.mk hk2
              clear hk2
              go_wp2
              go_roundw
              case rel => exact ⟨pos2 + K2, g2, k2 + 1, rfl, by go_num, HIT3.out, HBW3, ⟨by rw [← HN2.out, HST2.out]; congr 1⟩, hg2, by have := HK.out; omega, by omega, hin2⟩
              case measure =>
                simp only [World.iterPos, HIT3.out, HITT.out]
                omega
          · have hnx2 : ∀ ty, (Instr.next (.pointer (some ⟨W.heap.size, 0, none⟩)) true ty).run Tryd.prog wr = _ := fun ty => Lib.run_next_end_at wr W.heap.size T pos2 ty hit2 hp2
            have HE : Aside0 (sk T M = T.size) := ⟨by rw [← HN2.out]; exact skF_end T f2 pos2 _ hp2⟩
            clear hit2
            go_wp2
            go_ret
            exact ⟨by rw [HV2.out, HE.out, HTS.out, show pos + (s.size - pos) = s.size from by omega]; rfl, HB2.out⟩
      · obtain ⟨g, rfl, hst, hg⟩ := skF_step s f pos (F - k) hp hf (by omega)
        have HST := Aside0.mk hst
        clear hst
        generalize hW : wr.iterAt w.heap.size s (pos + (Utf8.decode s pos).2) = W at *
        generalize hR : (Utf8.decode s pos).1 = R at *
        generalize hK : (Utf8.decode s pos).2 = K at *
        have HR0 := Aside0.mk hR
        have HK0 := Aside0.mk hK
        clear hR hK hW
        have t0 : ((k : Int) == (F : Int)) = false := by simp; omega
        have t1 : (k == F) = false := by simp [hk]
        have HK := Aside0.mk hk
        clear hk
        go_wp2
        go_roundw
        case rel => exact ⟨pos + K, g, k + 1, rfl, by go_num, HIT2.out, HBW2, ⟨by rw [← HN.out, HST.out]; congr 1⟩, hg, by have := HK.out; omega, by omega, hin⟩
        case measure =>
          simp only [World.iterPos, HIT2.out, HIT.out]
          omega
    · have hnx : ∀ ty, (Instr.next (.pointer (some ⟨w.heap.size, 0, none⟩)) true ty).run Tryd.prog wr = _ := fun ty => Lib.run_next_end_at wr w.heap.size s pos ty hit hp
      have hB : sk s F = s.size := by rw [← HN.out]; exact skF_end s f pos _ hp
      have HBB := Aside0.mk hB
      clear hB hit
      have HWW := HB
      have hemp : s.extract s.size s.size = ByteArray.empty := by simp
      have HV2 : Aside0 (cutV s a b = ByteArray.empty) := ⟨by rw [HV.out, HBB.out, hemp]; have h1 := sk_le ByteArray.empty M; have h2 : ByteArray.empty.size = 0 := rfl; rw [show s.size + sk ByteArray.empty M = s.size from by omega, hemp]⟩
      have HEMP := Aside0.mk hemp
      clear hemp
      go_wp2
      go_loopw [8, 10] (fun kk en w2 => en = .int .i64 s.size ∧ kk = .int .i64 0 ∧ w2 = wr.iter ByteArray.empty 0) (fun kk en wr => 0)
      case atStart => exact ⟨rfl, rfl, rfl⟩
      case round =>
        obtain ⟨rfl, rfl, rfl⟩ := hrel
        have hnx2 : ∀ ty, (Instr.next (.pointer (some ⟨wr.heap.size, 0, none⟩)) true ty).run Tryd.prog (wr.iter ByteArray.empty 0) = _ := fun ty => run_next_end wr ByteArray.empty 0 ty (by decide)
        go_wp2
        go_ret
        exact ⟨by rw [HV2.out]; first | rfl | (rw [← HEMP.out]; rfl), HB.out.alloc HB.out.size _⟩
end Go.Proofs.YtjepodcgbfejgaaDoor.Hw
