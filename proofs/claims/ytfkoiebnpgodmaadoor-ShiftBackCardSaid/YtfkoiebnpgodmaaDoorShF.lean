import Derived.Test.YtfkoiebnpgodmaaDoorShA
/- The number of the sheet with a name, walked: the program's and the document's. -/
namespace Go.Proofs.YtfkoiebnpgodmaaDoor.Hw
open Go.RowKit Go.Proofs.YtfkoiebnpgodmaaDoorW.PrintWords Go.Proofs.YtfkoiebnpgodmaaDoorW.PrintLast Go.Proofs.YtfkoiebnpgodmaaDoorW.PrintMore Go.Proofs.YtfkoiebnpgodmaaDoor.PH Go.Proofs.YtfkoiebnpgodmaaDoor.CP
set_option linter.unusedVariables false
set_option linter.unusedSimpArgs false
def fnd : List ByteArray → ByteArray → Option Nat
  | [], _ => none
  | s :: l, n => if alk s n = true then some 0 else (fnd l n).map (· + 1)
theorem fnd_hit : ∀ (l : List ByteArray) (n : ByteArray) (k : Nat) (h : k < l.length), alk l[k] n = true → (∀ j, (hj : j < k) → alk (l[j]'(by omega)) n = false) → fnd l n = some k
  | s :: l, n, 0, _, h, _ => by rw [fnd, if_pos (by simpa using h)]
  | s :: l, n, k + 1, hk, h, hno => by
    have h0 := hno 0 (by omega)
    rw [fnd, if_neg (by simpa using h0), fnd_hit l n k (by simpa using hk) h (fun j hj => hno (j + 1) (by omega))]
    rfl
theorem fnd_miss : ∀ (l : List ByteArray) (n : ByteArray), (∀ j, (hj : j < l.length) → alk l[j] n = false) → fnd l n = none
  | [], n, _ => rfl
  | s :: l, n, hno => by
    have h0 := hno 0 (by simp)
    rw [fnd, if_neg (by simpa using h0), fnd_miss l n (fun j hj => hno (j + 1) (by simpa using hj))]
    rfl
theorem fnd_lt : ∀ (l : List ByteArray) (n : ByteArray) (k : Nat), fnd l n = some k → k < l.length
  | [], n, k, h => by cases h
  | s :: l, n, k, h => by
    rw [fnd] at h
    split at h
    · cases h; simp
    · cases hf : fnd l n with
      | none => rw [hf] at h; cases h
      | some j =>
        rw [hf] at h
        simp only [Option.map_some, Option.some.injEq] at h
        have := fnd_lt l n j hf
        simp; omega
def fndI (o : Option Nat) : Int := match o with
  | none => -1
  | some k => (k : Int)
def fndV (o : Option Nat) : Value := match o with
  | none => .tuple #[.int .i64 0, .bool false]
  | some k => .tuple #[.int .i64 (k : Int), .bool true]
/-- Names that may be read: none is of more than 2^47 bytes. -/
def Small (l : List ByteArray) : Prop := ∀ s ∈ l, s.size ≤ 140737488351232
set_option maxHeartbeats 1000000 in
theorem find1_calls (s n : ByteArray) (p : Addr) (w : World) (hp : w.cell? p = some (.string n)) (hs : s.size ≤ 140737488351232) (hn : n.size ≤ 140737488351232) :
    Calls Tryd.prog 47 #[.string s, .pointer (some p)] w fun e w' => e = .returned (.bool (alk s n)) ∧ Below w.heap.size w w' := by
  have H := Aside0.mk (alike_calls s n w hs hn)
  go_enter Tryd.func47, Tryd.ntmps47
  go_wp2_with (go_at_call 21; refine H.out.mono ?_; rintro e w1 ⟨rfl, hb⟩)
  go_ret
  exact ⟨rfl, hb⟩
set_option maxRecDepth 100000 in
set_option maxHeartbeats 1000000 in
theorem ixf_calls (A : Option Addr) (c : Nat) (l : List ByteArray) (n : ByteArray) (p : Addr) (w : World) (hC : Kd.C Kd.string w A l.length l) (hl : l.length ≤ 140737488351232) (hG : Small l) (hp : w.cell? p = some (.string n)) (hn : n.size ≤ 140737488351232) :
    Calls Tryd.prog 46 #[.slice A l.length c, .func (.func 47) #[] #[.pointer (some p)]] w fun e w' => e = .returned (.int .i64 (fndI (fnd l n))) ∧ Below w.heap.size w w' := by
  have HC := Aside0.mk hC
  have HG := Aside0.mk hG
  have HP := Aside0.mk hp
  clear hC hG hp
  go_enter Tryd.func46, Tryd.ntmps46
  go_wp2
  go_loopw [8] (fun i wr => ∃ k : Nat, k ≤ l.length ∧ i = .int .i64 k ∧ Aside0 (Below w.heap.size w wr) ∧ Aside0 (∀ j, (hj : j < l.length) → j < k → alk l[j] n = false)) (fun i _ => l.length - (intOf i).toNat)
  case atStart => exact ⟨0, by omega, rfl, ⟨Below.refl _ _⟩, ⟨fun j _ hj => by omega⟩⟩
  case round =>
    obtain ⟨k, hk, rfl, HB, HN⟩ := hrel
    by_cases hlt : k < l.length
    · obtain ⟨ad, e1, hx⟩ := Kd.at_string (Kd.C_below HC.out HB.out) (k : Int) (by omega) (by omega)
      subst e1
      rw [Int.toNat_natCast, show rdOf ByteArray.empty l (k : Int) = l[k] from by simp [rdOf, List.getD_eq_getElem?_getD, hlt]] at hx
      have HX : Aside0 (alk l[k] n = alk l[k] n) := ⟨rfl⟩
      have hsz := HG.out l[k] (List.getElem_mem hlt)
      have HL : Aside0 (l[k] = l[k]) := ⟨rfl⟩
      have HK : Aside0 (∀ b, alk l[k] n = b → (b = true → fnd l n = some k) ∧ (b = false → ∀ j, (hj : j < l.length) → j < k + 1 → alk l[j] n = false)) := ⟨fun b hb => ⟨fun ht => fnd_hit l n k hlt (hb.trans ht) (fun j hj => HN.out j (by omega) hj), fun hf j hj hjk => by
        by_cases e : j = k
        · subst e; exact hb.trans hf
        · exact HN.out j hj (by omega)⟩⟩
      clear HX HL
      generalize l[k] = s at *
      have HP2 := Aside0.mk ((HB.out.cell (lt_of_cell HP.out)).trans HP.out)
      cases hb : alk s n with
      | true =>
        have HBB := Aside0.mk hb
        clear hb
        go_wp2_with (go_at_call 47; refine (find1_calls s n p _ HP2.out hsz hn).mono ?_; rw [HBB.out]; rintro e w1 ⟨rfl, hb1⟩; have HB1 := Aside0.mk (HB.out.trans (hb1.mono HB.out.size)); clear hb1)
        go_ret
        exact ⟨by rw [(HK.out _ HBB.out).1 rfl]; rfl, HB1.out⟩
      | false =>
        have HBB := Aside0.mk hb
        clear hb
        go_wp2_with (go_at_call 47; refine (find1_calls s n p _ HP2.out hsz hn).mono ?_; rw [HBB.out]; rintro e w1 ⟨rfl, hb1⟩; have HB1 := Aside0.mk (HB.out.trans (hb1.mono HB.out.size)); clear hb1)
        go_roundw
        case rel => exact ⟨k + 1, by omega, by go_num, HB1, ⟨(HK.out _ HBB.out).2 rfl⟩⟩
        case measure =>
          simp only [intOf]
          omega
    · go_wp2
      go_ret
      exact ⟨by rw [fnd_miss l n (fun j hj => HN.out j hj (by omega))]; rfl, HB.out⟩
set_option maxRecDepth 100000 in
set_option maxHeartbeats 1000000 in
theorem find_calls (A : Option Addr) (c : Nat) (l : List ByteArray) (n : ByteArray) (w : World) (hC : Kd.C Kd.string w A l.length l) (hl : l.length ≤ 140737488351232) (hG : Small l) (hn : n.size ≤ 140737488351232) :
    Calls Tryd.prog 18 #[.slice A l.length c, .string n] w fun e w' => e = .returned (fndV (fnd l n)) ∧ Below w.heap.size w w' := by
  have HC := Aside0.mk hC
  have HG := Aside0.mk hG
  clear hC hG
  obtain ⟨o, ho⟩ : ∃ o, fnd l n = o := ⟨_, rfl⟩
  have HO := Aside0.mk ho
  rw [ho]
  clear ho
  cases o with
  | none =>
    go_enter Tryd.func18, Tryd.ntmps18
    go_wp2_with fail
    refine (ixf_calls A c l n ⟨w.heap.size, 0, none⟩ _ (Kd.C_below HC.out ((Below.refl _ w).alloc (Nat.le_refl _) _)) hl HG.out (by simp [World.cell?_alloc_mark]) hn).mono ?_
    rw [HO.out]
    rintro e w1 ⟨rfl, hb⟩
    have HB := Aside0.mk (((Below.refl _ w).alloc (Nat.le_refl _) _).trans (hb.mono (by simp)))
    clear hb
    unfold fndI
    go_wp2
    go_ret2
    exact ⟨rfl, HB.out⟩
  | some k =>
    go_enter Tryd.func18, Tryd.ntmps18
    go_wp2_with fail
    refine (ixf_calls A c l n ⟨w.heap.size, 0, none⟩ _ (Kd.C_below HC.out ((Below.refl _ w).alloc (Nat.le_refl _) _)) hl HG.out (by simp [World.cell?_alloc_mark]) hn).mono ?_
    rw [HO.out]
    rintro e w1 ⟨rfl, hb⟩
    have HB := Aside0.mk (((Below.refl _ w).alloc (Nat.le_refl _) _).trans (hb.mono (by simp)))
    clear hb
    unfold fndI
    have h0 : max (k : Int) 0 = (k : Int) := by omega
    go_wp2
    go_ret2
    exact ⟨rfl, HB.out⟩
set_option maxRecDepth 100000 in
set_option maxHeartbeats 1000000 in
theorem rfind_calls (A : Option Addr) (c : Nat) (l : List ByteArray) (n : ByteArray) (w : World) (hC : Kd.C Kd.string w A l.length l) (hl : l.length ≤ 140737488351232) (hG : Small l) (hn : n.size ≤ 140737488351232) :
    Calls Tryd.prog 19 #[.slice A l.length c, .string n] w fun e w' => e = .returned (fndV (fnd l n)) ∧ Below w.heap.size w w' := by
  have HC := Aside0.mk hC
  have HG := Aside0.mk hG
  clear hC hG
  go_enter Tryd.func19, Tryd.ntmps19
  go_wp2
  go_loopw [6] (fun i wr => ∃ k : Nat, k ≤ l.length ∧ i = .int .i64 k ∧ Aside0 (Below w.heap.size w wr) ∧ Aside0 (∀ j, (hj : j < l.length) → j < k → alk l[j] n = false)) (fun i _ => l.length - (intOf i).toNat)
  case atStart => exact ⟨0, by omega, rfl, ⟨Below.refl _ _⟩, ⟨fun j _ hj => by omega⟩⟩
  case round =>
    obtain ⟨k, hk, rfl, HB, HN⟩ := hrel
    by_cases hlt : k < l.length
    · obtain ⟨ad, e1, hx⟩ := Kd.at_string (Kd.C_below HC.out HB.out) (k : Int) (by omega) (by omega)
      subst e1
      rw [Int.toNat_natCast, show rdOf ByteArray.empty l (k : Int) = l[k] from by simp [rdOf, List.getD_eq_getElem?_getD, hlt]] at hx
      have hsz := HG.out l[k] (List.getElem_mem hlt)
      have HK : Aside0 (∀ b, alk l[k] n = b → (b = true → fnd l n = some k) ∧ (b = false → ∀ j, (hj : j < l.length) → j < k + 1 → alk l[j] n = false)) := ⟨fun b hb => ⟨fun ht => fnd_hit l n k hlt (hb.trans ht) (fun j hj => HN.out j (by omega) hj), fun hf j hj hjk => by
        by_cases e : j = k
        · subst e; exact hb.trans hf
        · exact HN.out j hj (by omega)⟩⟩
      generalize l[k] = s at *
      cases hb : alk s n with
      | true =>
        have HBB := Aside0.mk hb
        clear hb
        go_wp2_with (go_at_call 22; refine (ralike_calls s n _ hsz hn).mono ?_; rw [HBB.out]; rintro e w1 ⟨rfl, hb1⟩; have HB1 := Aside0.mk (HB.out.trans (hb1.mono HB.out.size)); clear hb1)
        go_ret2
        exact ⟨by rw [(HK.out _ HBB.out).1 rfl]; rfl, HB1.out⟩
      | false =>
        have HBB := Aside0.mk hb
        clear hb
        go_wp2_with (go_at_call 22; refine (ralike_calls s n _ hsz hn).mono ?_; rw [HBB.out]; rintro e w1 ⟨rfl, hb1⟩; have HB1 := Aside0.mk (HB.out.trans (hb1.mono HB.out.size)); clear hb1)
        go_roundw
        case rel => exact ⟨k + 1, by omega, by go_num, HB1, ⟨(HK.out _ HBB.out).2 rfl⟩⟩
        case measure =>
          simp only [intOf]
          omega
    · go_wp2
      go_ret2
      exact ⟨by rw [fnd_miss l n (fun j hj => HN.out j hj (by omega))]; rfl, HB.out⟩
end Go.Proofs.YtfkoiebnpgodmaaDoor.Hw
