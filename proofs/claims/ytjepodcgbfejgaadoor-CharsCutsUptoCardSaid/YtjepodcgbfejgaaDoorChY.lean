import Derived.Test.YtjepodcgbfejgaaDoorChR
import Derived.Test.YtjepodcgbfejgaaDoorChC
import Derived.Deep.QuietTactic
import Derived.BigQuiet
import Derived.IntWalk
/- The document's Count and Cut, walked. -/
namespace Go.Proofs.YtjepodcgbfejgaaDoor.CP
open Go.RowKit Go.Proofs.YtjepodcgbfejgaaDoorW.PrintWords
theorem runesF_count (s : ByteArray) : ∀ f p, (runesF s f p).length = Lib.runeCountFrom s f p
  | 0, p => rfl
  | f + 1, p => by
    unfold runesF Lib.runeCountFrom
    split
    · rw [List.length_cons, runesF_count s f]; omega
    · rfl
theorem runesL_count (s : ByteArray) : (runesL s).length = Lib.runeCount s := runesF_count s _ _
theorem placesL_count (s : ByteArray) : (placesL s).length = Lib.runeCount s := (placesF_len s _ _).trans (runesF_count s _ _)
theorem places_sk (s : ByteArray) : ∀ (f p i : Nat), p ≤ s.size → s.size ≤ p + f → i ≤ (placesF s f p).length → (placesF s f p ++ [(s.size : Int)]).getD i 0 = (skF s f p i : Int)
  | 0, p, i, hp, hf, hi => by
    simp only [placesF, List.length_nil] at hi
    obtain rfl : i = 0 := by omega
    rfl
  | f + 1, p, i, hp, hf, hi => by
    by_cases h : p < s.size
    · rw [placesF, if_pos h] at hi ⊢
      cases i with
      | zero => rw [skF_zero s _ p hp hf]; rfl
      | succ i =>
        have h1 := Lib.decode_width_pos s p h
        have h2 := decode_in' s p h
        have ih := places_sk s f (p + (Utf8.decode s p).2) i h2 (by omega) (by simpa using hi)
        rw [skF, if_pos h, if_neg (by omega), Nat.add_sub_cancel]
        rw [← ih]
        simp [List.getD_eq_getElem?_getD]
    · rw [placesF, if_neg h] at hi ⊢
      simp only [List.length_nil] at hi
      obtain rfl : i = 0 := by omega
      rw [skF_end s _ p _ h]
      rfl
theorem sk_min (s : ByteArray) (m : Nat) : sk s m = sk s (min m (Lib.runeCount s)) := by
  by_cases h : m ≤ Lib.runeCount s
  · rw [Nat.min_eq_left h]
  · rw [Nat.min_eq_right (by omega)]
    have h1 : sk s m = s.size := sk_all s _ 0 m (by omega) (by omega) (by show Lib.runeCount s ≤ m; omega)
    have h2 : sk s (Lib.runeCount s) = s.size := sk_all s _ 0 _ (by omega) (by omega) (Nat.le_refl _)
    rw [h1, h2]
theorem sk_add (s : ByteArray) : ∀ (f p a m : Nat), p ≤ s.size → s.size ≤ p + f → skF s f (skF s f p a) m = skF s f p (a + m)
  | 0, p, a, m, hp, hf => rfl
  | f + 1, p, a, m, hp, hf => by
    by_cases h : p < s.size
    · by_cases ha : a = 0
      · subst ha
        rw [skF_zero s _ p hp hf, Nat.zero_add]
      · have h1 := Lib.decode_width_pos s p h
        have h2 := decode_in' s p h
        have ih := sk_add s f (p + (Utf8.decode s p).2) (a - 1) m h2 (by omega)
        have e1 : skF s (f + 1) p a = skF s f (p + (Utf8.decode s p).2) (a - 1) := by rw [skF, if_pos h, if_neg ha]
        have e2 : skF s (f + 1) p (a + m) = skF s f (p + (Utf8.decode s p).2) (a - 1 + m) := by rw [skF, if_pos h, if_neg (by omega)]; congr 1; omega
        rw [e1, e2, ← ih]
        have hb := skF_le s f (p + (Utf8.decode s p).2) (a - 1) h2 (by omega)
        exact skF_fuel s _ _ _ m hb.2 (by omega) (by omega)
    · rw [skF_end s _ p a h, skF_end s _ p _ h, skF_end s _ _ m (by omega)]
theorem cutV_sk (s : ByteArray) (a b : Int) (F M : Nat) (hF : max a 0 = (F : Int)) (hM : max b 0 = (M : Int)) : cutV s a b = s.extract (sk s (min F (Lib.runeCount s))) (sk s (min F (Lib.runeCount s) + min M (Lib.runeCount s - min F (Lib.runeCount s)))) := by
  have e1 : (max a 0).toNat = F := by omega
  have e2 : (max b 0).toNat = M := by omega
  unfold cutV
  rw [e1, e2]
  have hle := sk_le s F
  have h1 : sk s F + sk (s.extract (sk s F) s.size) M = sk s (F + M) := by
    have hr := sk_rest s (sk s F) hle (s.extract (sk s F) s.size).size 0 M
    rw [Nat.add_zero] at hr
    rw [show sk (s.extract (sk s F) s.size) M = skF (s.extract (sk s F) s.size) (s.extract (sk s F) s.size).size 0 M from rfl, hr]
    have hz := size_piece s (sk s F) s.size hle (Nat.le_refl _)
    rw [skF_fuel s _ s.size (sk s F) M hle (by omega) (by omega)]
    exact sk_add s s.size 0 F M (by omega) (by omega)
  rw [h1, sk_min s F, sk_min s (F + M)]
  congr 2
  omega
end Go.Proofs.YtjepodcgbfejgaaDoor.CP
namespace Go.Proofs.YtjepodcgbfejgaaDoor.Hw
open Go.RowKit Go.Proofs.YtjepodcgbfejgaaDoorW.PrintWords Go.Proofs.YtjepodcgbfejgaaDoorW.PrintLast Go.Proofs.YtjepodcgbfejgaaDoorW.PrintMore Go.Proofs.YtjepodcgbfejgaaDoor.PH Go.Proofs.YtjepodcgbfejgaaDoor.CP
set_option linter.unusedVariables false
set_option linter.unusedSimpArgs false
set_option maxHeartbeats 1000000 in
theorem rcount_calls (s : ByteArray) (w : World) (hC : ChW w) (hs : s.size ≤ 4000000000) : Calls Tryd.prog 31 #[.string s] w fun e w' => e = .returned (.int .i64 (Lib.runeCount s)) ∧ Below w.heap.size w w' := by
  have HR := Aside0.mk (runes_calls s w hC hs)
  have hl : (runesL s).length = Lib.runeCount s := runesL_count s
  have HL := Aside0.mk hl
  clear hl hC
  go_enter Tryd.func31, Tryd.ntmps31
  go_wp2_with fail
  refine HR.out.mono ?_
  rintro e w1 ⟨A, c, rfl, _, hb⟩
  have HB := Aside0.mk hb
  clear hb
  go_wp2
  go_ret
  exact ⟨by rw [← HL.out]; rfl, HB.out⟩
set_option maxRecDepth 100000 in
set_option maxHeartbeats 2000000 in
theorem rcut_calls (s : ByteArray) (a b : Int) (w : World) (hC : ChW w) (hs : s.size ≤ 4000000000) :
    Calls Tryd.prog 32 #[.string s, .int .i64 a, .int .i64 b] w fun e w' => e = .returned (.string (cutV s a b)) ∧ Below w.heap.size w w' := by
  obtain ⟨F, hF⟩ : ∃ F : Nat, max a 0 = (F : Int) := ⟨(max a 0).toNat, by omega⟩
  obtain ⟨M, hM⟩ : ∃ M : Nat, max b 0 = (M : Int) := ⟨(max b 0).toNat, by omega⟩
  have HV := Aside0.mk (cutV_sk s a b F M hF hM)
  have HR := Aside0.mk (places_calls s w hC hs)
  have hlen : (placesL s ++ [(s.size : Int)]).length = Lib.runeCount s + 1 := by rw [List.length_append, placesL_count]; rfl
  have HPS : Aside0 (∀ i, i ≤ Lib.runeCount s → (placesL s ++ [(s.size : Int)]).getD i 0 = (sk s i : Int)) := ⟨fun i hi => places_sk s s.size 0 i (by omega) (by omega) (by show i ≤ (placesL s).length; rw [placesL_count]; exact hi)⟩
  have hcs : Lib.runeCount s ≤ s.size := Lib.runeCount_le s
  generalize hPL : placesL s ++ [(s.size : Int)] = PL at *
  generalize hN : Lib.runeCount s = N at *
  have HLEN := Aside0.mk hlen
  obtain ⟨K1, hK1⟩ : ∃ K1, min F N = K1 := ⟨_, rfl⟩
  obtain ⟨K2, hK2⟩ : ∃ K2, min M (N - K1) = K2 := ⟨_, rfl⟩
  have hk1 : K1 ≤ N := by omega
  have hk2 : K1 + K2 ≤ N := by omega
  have q0 : (PL.length : Int) - 1 = (N : Int) := by omega
  have q1 : min (F : Int) (N : Int) = (K1 : Int) := by omega
  have q2 : min (M : Int) ((N : Int) - (K1 : Int)) = (K2 : Int) := by omega
  have HV2 : Aside0 (cutV s a b = s.extract (sk s K1) (sk s (K1 + K2))) := ⟨by rw [HV.out, hK1, hK2]⟩
  have hs1 := HPS.out K1 hk1
  have hs2 := HPS.out (K1 + K2) hk2
  have hle1 : sk s K1 ≤ sk s (K1 + K2) := by
    have := sk_add s s.size 0 K1 K2 (by omega) (by omega)
    have h2 := (skF_le s s.size (sk s K1) K2 (sk_le s K1) (by omega)).1
    have e : skF s s.size (sk s K1) K2 = sk s (K1 + K2) := this
    rw [e] at h2
    exact h2
  have hle2 := sk_le s (K1 + K2)
  generalize sk s K1 = P1 at *
  generalize sk s (K1 + K2) = P2 at *
  have HS1 := Aside0.mk hs1
  have HS2 := Aside0.mk hs2
  have HK1 := Aside0.mk hK1
  have HK2 := Aside0.mk hK2
  clear hC hPL hN hlen hs1 hs2 hK1 hK2
  go_enter Tryd.func32, Tryd.ntmps32
  go_wp2_with fail
  refine HR.out.mono ?_
  rintro e w1 ⟨A, c, rfl, hr, hb⟩
  obtain ⟨A', c', e1, hc1, hC1⟩ := Kd.R_reads hr
  simp only [Value.slice.injEq] at e1
  obtain ⟨rfl, _, rfl⟩ := e1
  have HB := Aside0.mk hb
  have hl := HLEN.out
  obtain ⟨ad, e1, hx1⟩ := Kd.at_int hC1 (K1 : Int) (by omega) (by omega)
  subst e1
  obtain ⟨ad2, e2, hx2⟩ := Kd.at_int hC1 ((K1 + K2 : Nat) : Int) (by omega) (by omega)
  obtain rfl := Option.some.inj e2
  rw [Int.toNat_natCast, show rd PL (K1 : Int) = PL.getD K1 0 from by unfold rd; rw [Int.toNat_natCast], HS1.out] at hx1
  rw [Int.toNat_natCast, show rd PL ((K1 + K2 : Nat) : Int) = PL.getD (K1 + K2) 0 from by unfold rd; rw [Int.toNat_natCast], HS2.out] at hx2
  have hlt1 : K1 < PL.length := by omega
  have hlt2 : K1 + K2 < PL.length := by omega
  clear hb hr hC1 hl e2
  go_wp2
  have w3 : IntKind.i64.wrap ((K1 : Int) + (K2 : Int)) = ((K1 + K2 : Nat) : Int) := by rw [IntWalk.i64_in _ (by omega)]; omega
  go_quiet (fail)
  go_wp2
  go_ret
  exact ⟨by rw [HV2.out]; rfl, pw_below_drewN HB.out _⟩
end Go.Proofs.YtjepodcgbfejgaaDoor.Hw
