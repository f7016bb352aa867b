import Derived.Test.YtjajkgemjgehiaaSoK
/- The library's stable sort at rows of structs: symMergeCmpFunc, walked. -/
set_option linter.unusedVariables false
set_option linter.unusedSimpArgs false
namespace Go.Proofs.Ytjajkgemjgehiaa.St
open Go.Shelf Go.RowKit Go.Lib Go.Sort Go.Proofs
variable {P : Program} {k : Nat} {α : Type} [Inhabited α]
/-- What a comparison must be: it tells by a key. -/
def ByKey (cf : α → α → Int) (key : α → Int) : Prop := ∀ x y, cf x y < 0 ↔ key x < key y

set_option maxHeartbeats 4000000 in
set_option maxRecDepth 1000000 in
/-- One element on the left. -/
theorem symMerge_left (L : SoL P k) (enc : α → List Value) (cf : α → α → Int) (key : α → Int) (hK : ByKey cf key) (g : Nat) (cb : Array Value) (blk off cap a b : Nat) (d0 d : Array α) (w0 w : World)
    (eg : ∀ args w, (callFunc g args).run P w = .ok (.enter g args) w) (hcmp : CmpLays P g cb enc k cf blk off d0.size w0)
    (R : RowK enc k w0 blk off d0) (hs : d0.size = d.size) (S : SWK enc k w0 blk off d w) (hab : a + 1 < b) (hb : b ≤ d.size) (hsz : d.size < 2305843009213693952) (hS : So.Srt key (Fn d) (a + 1) b) :
    Calls P 25 #[.slice (some ⟨blk, off, none⟩) d.size cap, .int .i64 a, .int .i64 ((a : Int) + 1), .int .i64 b, .func (.func g) #[] cb] w fun e w' => e = .returned (.tuple #[]) ∧ ∃ d', d'.size = d.size ∧ So.Pm (Fn d) (Fn d') a b ∧ So.Srt key (Fn d') a b ∧ SWK enc k w0 blk off d' w' := by
  have mixed := L.mixed; have t0 := L.t0; have a0 := L.a0; have z0 := L.z0; have v0 := L.v0; have t3 := L.t3; have a3 := L.a3; have z3 := L.z3; have v3 := L.v3; have t4 := L.t4; have a4 := L.a4; have z4 := L.z4; have v4 := L.v4; have t22 := L.tS; have a22 := L.aS; have z22 := L.zS; have v22 := L.vS; have t25 := L.tC; have a25 := L.aC; have z25 := L.zC; have v25 := L.vC; have aE := L.aE; have zE := L.zE; have tU := L.tU; have aU := L.aU; have zU := L.zU; have vU := L.vU
  have u3 := run_underlying L.t3; have uU := run_underlying L.tU
  have HC : Aside (CmpLays P g cb enc k cf blk off d0.size w0) := hcmp
  have S0 : Aside (SWK enc k w0 blk off d w) := S
  have HS : Aside (So.Srt key (Fn d) (a + 1) b) := hS
  have HK : Aside (ByKey cf key) := hK
  clear S hcmp hS hK
  have hone : (a : Int) + 1 - (a : Int) = 1 := by omega
  go_enter L.fM, Try.ntmps25
  go_wp2
  go_loopg [10, 11] (b - a) (fun kx s10 s11 wr => ∃ (i j : Nat), s10 = .int .i64 i ∧ s11 = .int .i64 j ∧ a + 1 ≤ i ∧ i ≤ j ∧ j ≤ b ∧ j - i ≤ kx ∧ Aside (SWK enc k w0 blk off d wr) ∧ Hid ((a + 1 < i → key (Fn d (i - 1)) < key (Fn d a)) ∧ (j < b → key (Fn d a) ≤ key (Fn d j))))
  case atStart => exact ⟨a + 1, b, by go_num, rfl, by omega, by omega, by omega, by omega, S0, ⟨fun h => by omega, fun h => by omega⟩⟩
  case round =>
    clear S0
    obtain ⟨i, j, rfl, rfl, hi1, hij, hjb, hkx, S1, HE⟩ := hrel
    by_cases hlt : i < j
    · have hltz : (i : Int) < (j : Int) := by omega
      go_wp2_with fail
      have hh : ((i : Int) + (j : Int)) / 2 = (((i + j) / 2 : Nat) : Int) := by omega
      rw [hh]
      have hh1 : i ≤ (i + j) / 2 := by omega
      have hh2 : (i + j) / 2 < j := by omega
      clear hh
      generalize (i + j) / 2 = h at hh1 hh2 ⊢
      have eaA : ((h : Int)).toNat = h := by omega
      have paA : (0 : Int) ≤ (h : Int) := by omega
      have baA : (h : Int) < (d.size : Int) := by omega
      have raA : IntKind.i64.wrap ((h : Int)) = (h : Int) := by rw [IntKind.wrap_i64]; omega
      have ecA : ((a : Int)).toNat = a := by omega
      have pcA : (0 : Int) ≤ (a : Int) := by omega
      have bcA : (a : Int) < (d.size : Int) := by omega
      have rcA : IntKind.i64.wrap ((a : Int)) = (a : Int) := by rw [IntKind.wrap_i64]; omega
      have lAa := fun n' os' => S1.out.ld R (by omega) P (h) (by omega) n' os'
      have lAb := fun n' os' => S1.out.ld R (by omega) P (a) (by omega) n' os'
      have hcg := fun n' os' => S1.out.cmp HC.out (by omega) d[h]! d[a]! n' os'
      have S9 : Aside (∀ n' os', SWK enc k w0 blk off d (grow (wr.drewN n') os')) := fun n' os' => S1.out.grown n' os'
      clear S1
      have hkv : Aside (cf d[h]! d[a]! < 0 ↔ key (Fn d (h)) < key (Fn d (a))) := HK.out _ _
      generalize cf d[h]! d[a]! = cv at hcg hkv
      generalize d[h]! = XA at lAa hcg
      generalize d[a]! = XB at lAb hcg
      by_cases hlv : cv < 0
      · have hkk := hkv.out.1 hlv
        have HKK : Hid _ := hkk
        clear hkk hkv
        go_wp2_with fail
        go_quiet_grown (first | (go_at_fn g; refine Calls.grown_of (hcg _ _)))
        go_wp2
        go_roundg (j - (h + 1))
        case measure => omega
        case rel => exact ⟨h + 1, j, by go_num, rfl, by omega, by omega, by omega, Nat.le_refl _, S9.out _ _, ⟨fun _ => HKK.out, HE.out.2⟩⟩
      · have hkk := Int.not_lt.1 (fun h => hlv (hkv.out.2 h))
        have HKK : Hid _ := hkk
        clear hkk hkv
        go_wp2_with fail
        go_quiet_grown (first | (go_at_fn g; refine Calls.grown_of (hcg _ _)))
        go_wp2
        go_roundg (h - i)
        case measure => omega
        case rel => exact ⟨i, h, rfl, rfl, by omega, by omega, by omega, Nat.le_refl _, S9.out _ _, ⟨HE.out.1, fun _ => HKK.out⟩⟩
    · -- the search is done: i = j; now it goes up
      obtain rfl : i = j := by omega
      clear hlt
      go_wp2
      go_loopg [13] (b - a) (fun kx s13 wr => ∃ (q : Nat) (dk : Array α), s13 = .int .i64 q ∧ a ≤ q ∧ q + 1 ≤ i ∧ i - (q + 1) ≤ kx ∧ dk.size = d.size ∧ Aside (SWK enc k w0 blk off dk wr) ∧ Hid (Fn dk = So.rot (Fn d) a (a + 1) (q + 1)))
      case atStart => exact ⟨a, d, rfl, Nat.le_refl _, by omega, by omega, rfl, S1, by show _ = _; rw [So.rot_none]⟩
      case round =>
        clear S1
        obtain ⟨q, dk, rfl, hq1, hq2, hkq, hds, S1, HF⟩ := hrel
        by_cases hqi : q + 1 < i
        · have hqz : (q : Int) < (i : Int) - 1 := by omega
          go_wp2_with fail
          have eaX : ((q : Int)).toNat = q := by omega
          have paX : (0 : Int) ≤ (q : Int) := by omega
          have baX : (q : Int) < (d.size : Int) := by omega
          have raX : IntKind.i64.wrap ((q : Int)) = (q : Int) := by rw [IntKind.wrap_i64]; omega
          have ecX : (((q : Int) + 1)).toNat = q + 1 := by omega
          have pcX : (0 : Int) ≤ ((q : Int) + 1) := by omega
          have bcX : ((q : Int) + 1) < (d.size : Int) := by omega
          have rcX : IntKind.i64.wrap (((q : Int) + 1)) = ((q : Int) + 1) := by rw [IntKind.wrap_i64]; omega
          have S2 : Aside (SWK enc k w0 blk off (Sort.swp dk (q) (q + 1)) ((wr.drew.setCells blk (off + (q) * k) (enc dk[q + 1]!)).setCells blk (off + (q + 1) * k) (enc dk[q]!))) := S1.out.swapped R (q) (q + 1) (by omega) (by omega)
          have lXa := S1.out.ld1 R (by omega) P (q) (by omega)
          have lXb := S1.out.ld1 R (by omega) P (q + 1) (by omega)
          have sXa := S1.out.st1 R (by omega) P (q) (by omega) dk[q + 1]!
          have sXb := S1.out.st2 R (by omega) P (q) (q + 1) (by omega) (by omega) dk[q + 1]! dk[q]!
          have nXa : (enc dk[q]!).length = k := R.hk _
          have nXb : (enc dk[q + 1]!).length = k := R.hk _
          generalize enc dk[q]! = cIX at S2 lXa sXb nXa
          generalize enc dk[q + 1]! = cJX at S2 lXb sXa sXb nXb
          clear S1
          go_wp2_with fail
          go_big_region_o
          clear lXa lXb sXa sXb
          generalize (wr.drew.setCells blk (off + (q) * k) cJX).setCells blk (off + (q + 1) * k) cIX = w2 at S2 ⊢
          go_wp2
          go_roundg (i - (q + 1 + 1))
          case measure => omega
          case rel =>
            exact ⟨q + 1, Sort.swp dk (q) (q + 1), by go_num, by omega, by omega, Nat.le_refl _, by rw [size_swp]; exact hds, S2, (show Hid _ from by show _ = _; rw [Fn_swp dk (by omega) (by omega), HF.out]; exact So.rot_up (Fn d) (by omega))⟩
        · obtain rfl : i = q + 1 := by omega
          have hqz : ¬ (q : Int) < ((q + 1 : Nat) : Int) - 1 := by omega
          go_wp2
          (try simp only [Exit.inBlock, Exit.then])
          refine bodyPost_ret (results_none rfl _ _ _) rfl ?_
          refine ⟨rfl, dk, hds, ?_, ?_, S1.out⟩
          · rw [HF.out]; exact (So.rot_pm (Fn d) (by omega) (by omega)).wide (Nat.le_refl _) (by omega) (by omega)
          · rw [HF.out]; exact So.ins_left (by omega) HS.out (by omega) (by omega) HE.out.1 HE.out.2
set_option maxHeartbeats 4000000 in
set_option maxRecDepth 1000000 in
/-- One element on the right. -/
theorem symMerge_right (L : SoL P k) (enc : α → List Value) (cf : α → α → Int) (key : α → Int) (hK : ByKey cf key) (g : Nat) (cb : Array Value) (blk off cap a m : Nat) (d0 d : Array α) (w0 w : World)
    (eg : ∀ args w, (callFunc g args).run P w = .ok (.enter g args) w) (hcmp : CmpLays P g cb enc k cf blk off d0.size w0)
    (R : RowK enc k w0 blk off d0) (hs : d0.size = d.size) (S : SWK enc k w0 blk off d w) (hab : a + 1 < m) (hb : m + 1 ≤ d.size) (hsz : d.size < 2305843009213693952) (hS : So.Srt key (Fn d) a m) :
    Calls P 25 #[.slice (some ⟨blk, off, none⟩) d.size cap, .int .i64 a, .int .i64 m, .int .i64 ((m : Int) + 1), .func (.func g) #[] cb] w fun e w' => e = .returned (.tuple #[]) ∧ ∃ d', d'.size = d.size ∧ So.Pm (Fn d) (Fn d') a (m + 1) ∧ So.Srt key (Fn d') a (m + 1) ∧ SWK enc k w0 blk off d' w' := by
  have mixed := L.mixed; have t0 := L.t0; have a0 := L.a0; have z0 := L.z0; have v0 := L.v0; have t3 := L.t3; have a3 := L.a3; have z3 := L.z3; have v3 := L.v3; have t4 := L.t4; have a4 := L.a4; have z4 := L.z4; have v4 := L.v4; have t22 := L.tS; have a22 := L.aS; have z22 := L.zS; have v22 := L.vS; have t25 := L.tC; have a25 := L.aC; have z25 := L.zC; have v25 := L.vC; have aE := L.aE; have zE := L.zE; have tU := L.tU; have aU := L.aU; have zU := L.zU; have vU := L.vU
  have u3 := run_underlying L.t3; have uU := run_underlying L.tU
  have HC : Aside (CmpLays P g cb enc k cf blk off d0.size w0) := hcmp
  have S0 : Aside (SWK enc k w0 blk off d w) := S
  have HS : Aside (So.Srt key (Fn d) a m) := hS
  have HK : Aside (ByKey cf key) := hK
  clear S hcmp hS hK
  have hone : (m : Int) + 1 - (m : Int) = 1 := by omega
  have hmore : ((m : Int) - (a : Int) == 1) = false := by simp; omega
  go_enter L.fM, Try.ntmps25
  go_wp2
  go_loopg [14, 15] (m - a) (fun kx s14 s15 wr => ∃ (i j : Nat), s14 = .int .i64 i ∧ s15 = .int .i64 j ∧ a ≤ i ∧ i ≤ j ∧ j ≤ m ∧ j - i ≤ kx ∧ Aside (SWK enc k w0 blk off d wr) ∧ Hid ((a < i → key (Fn d (i - 1)) ≤ key (Fn d m)) ∧ (j < m → key (Fn d m) < key (Fn d j))))
  case atStart => exact ⟨a, m, rfl, rfl, by omega, by omega, by omega, by omega, S0, ⟨fun h => by omega, fun h => by omega⟩⟩
  case round =>
    clear S0
    obtain ⟨i, j, rfl, rfl, hi1, hij, hjb, hkx, S1, HE⟩ := hrel
    by_cases hlt : i < j
    · have hltz : (i : Int) < (j : Int) := by omega
      go_wp2_with fail
      have hh : ((i : Int) + (j : Int)) / 2 = (((i + j) / 2 : Nat) : Int) := by omega
      rw [hh]
      have hh1 : i ≤ (i + j) / 2 := by omega
      have hh2 : (i + j) / 2 < j := by omega
      clear hh
      generalize (i + j) / 2 = h at hh1 hh2 ⊢
      have eaA : ((m : Int)).toNat = m := by omega
      have paA : (0 : Int) ≤ (m : Int) := by omega
      have baA : (m : Int) < (d.size : Int) := by omega
      have raA : IntKind.i64.wrap ((m : Int)) = (m : Int) := by rw [IntKind.wrap_i64]; omega
      have ecA : ((h : Int)).toNat = h := by omega
      have pcA : (0 : Int) ≤ (h : Int) := by omega
      have bcA : (h : Int) < (d.size : Int) := by omega
      have rcA : IntKind.i64.wrap ((h : Int)) = (h : Int) := by rw [IntKind.wrap_i64]; omega
      have lAa := fun n' os' => S1.out.ld R (by omega) P (m) (by omega) n' os'
      have lAb := fun n' os' => S1.out.ld R (by omega) P (h) (by omega) n' os'
      have hcg := fun n' os' => S1.out.cmp HC.out (by omega) d[m]! d[h]! n' os'
      have S9 : Aside (∀ n' os', SWK enc k w0 blk off d (grow (wr.drewN n') os')) := fun n' os' => S1.out.grown n' os'
      clear S1
      have hkv : Aside (cf d[m]! d[h]! < 0 ↔ key (Fn d (m)) < key (Fn d (h))) := HK.out _ _
      generalize cf d[m]! d[h]! = cv at hcg hkv
      generalize d[m]! = XA at lAa hcg
      generalize d[h]! = XB at lAb hcg
      by_cases hlv : cv < 0
      · have hkk := hkv.out.1 hlv
        have hlb : (!decide (cv < 0)) = false := by rw [decide_eq_true hlv]; rfl
        have HKK : Hid _ := hkk
        clear hkk hkv
        go_wp2_with fail
        go_quiet_grown (first | (go_at_fn g; refine Calls.grown_of (hcg _ _)))
        go_wp2
        go_roundg (h - i)
        case measure => omega
        case rel => exact ⟨i, h, rfl, rfl, by omega, by omega, by omega, Nat.le_refl _, S9.out _ _, ⟨HE.out.1, fun _ => HKK.out⟩⟩
      · have hkk := Int.not_lt.1 (fun h => hlv (hkv.out.2 h))
        have hlb : (!decide (cv < 0)) = true := by rw [decide_eq_false hlv]; rfl
        have HKK : Hid _ := hkk
        clear hkk hkv
        go_wp2_with fail
        go_quiet_grown (first | (go_at_fn g; refine Calls.grown_of (hcg _ _)))
        go_wp2
        go_roundg (j - (h + 1))
        case measure => omega
        case rel => exact ⟨h + 1, j, by go_num, rfl, by omega, by omega, by omega, Nat.le_refl _, S9.out _ _, ⟨fun _ => HKK.out, HE.out.2⟩⟩
    · -- the search is done: i = j; now it goes down
      obtain rfl : i = j := by omega
      clear hlt
      go_wp2
      go_loopg [17] (m - a) (fun kx s17 wr => ∃ (q : Nat) (dk : Array α), s17 = .int .i64 q ∧ i ≤ q ∧ q ≤ m ∧ q - i ≤ kx ∧ dk.size = d.size ∧ Aside (SWK enc k w0 blk off dk wr) ∧ Hid (Fn dk = So.rot (Fn d) q m (m + 1)))
      case atStart => exact ⟨m, d, rfl, by omega, by omega, by omega, rfl, S1, by show _ = _; rw [So.rot_none']⟩
      case round =>
        clear S1
        obtain ⟨q, dk, rfl, hq1, hq2, hkq, hds, S1, HF⟩ := hrel
        by_cases hqi : i < q
        · obtain ⟨q, rfl⟩ : ∃ q', q = q' + 1 := ⟨q - 1, by omega⟩
          have hqz : (i : Int) < ((q + 1 : Nat) : Int) := by omega
          have hq1' : IntKind.i64.wrap (q : Int) = (q : Int) := by rw [IntKind.wrap_i64]; omega
          go_wp2_with fail
          have eaX : (((q : Int) + 1)).toNat = q + 1 := by omega
          have paX : (0 : Int) ≤ ((q : Int) + 1) := by omega
          have baX : ((q : Int) + 1) < (d.size : Int) := by omega
          have raX : IntKind.i64.wrap (((q : Int) + 1)) = ((q : Int) + 1) := by rw [IntKind.wrap_i64]; omega
          have ecX : ((q : Int)).toNat = q := by omega
          have pcX : (0 : Int) ≤ (q : Int) := by omega
          have bcX : (q : Int) < (d.size : Int) := by omega
          have rcX : IntKind.i64.wrap ((q : Int)) = (q : Int) := by rw [IntKind.wrap_i64]; omega
          have S2 : Aside (SWK enc k w0 blk off (Sort.swp dk (q + 1) (q)) ((wr.drew.setCells blk (off + (q + 1) * k) (enc dk[q]!)).setCells blk (off + (q) * k) (enc dk[q + 1]!))) := S1.out.swapped R (q + 1) (q) (by omega) (by omega)
          have lXa := S1.out.ld1 R (by omega) P (q + 1) (by omega)
          have lXb := S1.out.ld1 R (by omega) P (q) (by omega)
          have sXa := S1.out.st1 R (by omega) P (q + 1) (by omega) dk[q]!
          have sXb := S1.out.st2 R (by omega) P (q + 1) (q) (by omega) (by omega) dk[q]! dk[q + 1]!
          have nXa : (enc dk[q + 1]!).length = k := R.hk _
          have nXb : (enc dk[q]!).length = k := R.hk _
          generalize enc dk[q + 1]! = cIX at S2 lXa sXb nXa
          generalize enc dk[q]! = cJX at S2 lXb sXa sXb nXb
          clear S1
          go_wp2_with fail
          go_big_region_o
          clear lXa lXb sXa sXb
          generalize (wr.drew.setCells blk (off + (q + 1) * k) cJX).setCells blk (off + (q) * k) cIX = w2 at S2 ⊢
          go_wp2
          go_roundg (q - i)
          case measure => omega
          case rel =>
            exact ⟨q, Sort.swp dk (q + 1) (q), by first | rfl | go_num | (congr 1; omega), by omega, by omega, Nat.le_refl _, by rw [size_swp]; exact hds, S2, (show Hid _ from by show _ = _; rw [Fn_swp dk (by omega) (by omega), HF.out]; exact So.rot_down (Fn d) (by omega))⟩
        · obtain rfl : i = q := by omega
          have hqz : ¬ (i : Int) < (i : Int) := by omega
          go_wp2
          (try simp only [Exit.inBlock, Exit.then])
          refine bodyPost_ret (results_none rfl _ _ _) rfl ?_
          refine ⟨rfl, dk, hds, ?_, ?_, S1.out⟩
          · rw [HF.out]; exact (So.rot_pm (Fn d) (by omega) (by omega)).wide (by omega) (by omega) (Nat.le_refl _)
          · rw [HF.out]; exact So.ins_right HS.out (by omega) (by omega) HE.out.1 HE.out.2
end Go.Proofs.Ytjajkgemjgehiaa.St
