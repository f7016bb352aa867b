import Derived.Test.YtjajkgemjgehiaaSoP
import Derived.Test.YtjajkgemjgehiaaProg
import Derived.Shelf.SlSortCmp.KitK
import Derived.Sort.WalkB2
import Derived.Sort.WalkB12
import Derived.Deep.LoopGhost
/- The library's stable sort at rows of structs, walked function by function (any comparison that is a weak order): insertionSortCmpFunc, swapRangeCmpFunc, rotateCmpFunc. -/
set_option linter.unusedVariables false
set_option linter.unusedSimpArgs false
namespace Go.Proofs.Ytjajkgemjgehiaa.St
open Go.Shelf Go.RowKit Go.Lib Go.Sort Go.Proofs
/-- What the walks want of the program (k: the element's cells). -/
structure SoL (P : Program) (k : Nat) : Prop where
  mixed : P.follows .mixedOrders = true
  fI : P.funcs[24]? = some Try.f24
  fW : P.funcs[28]? = some Try.f28
  fR : P.funcs[27]? = some Try.f27
  fM : P.funcs[25]? = some Try.f25
  fS : P.funcs[20]? = some Try.f20
  t0 : P.underlying 0 = some (TypeDesc.tuple #[])
  a0 : ∀ w, (isAgg 0).run P w = .ok false w
  z0 : ∀ w, (Go.sizeOf 0).run P w = .ok 1 w
  v0 : ∀ w, (zeroValue 0).run P w = .ok (Value.tuple #[]) w
  t3 : P.underlying 3 = some (TypeDesc.int IntKind.i64)
  a3 : ∀ w, (isAgg 3).run P w = .ok false w
  z3 : ∀ w, (Go.sizeOf 3).run P w = .ok 1 w
  v3 : ∀ w, (zeroValue 3).run P w = .ok (Value.int IntKind.i64 0) w
  t4 : P.underlying 4 = some (TypeDesc.bool)
  a4 : ∀ w, (isAgg 4).run P w = .ok false w
  z4 : ∀ w, (Go.sizeOf 4).run P w = .ok 1 w
  v4 : ∀ w, (zeroValue 4).run P w = .ok (Value.bool false) w
  tS : P.underlying 32 = some (TypeDesc.slice 34)
  aS : ∀ w, (isAgg 32).run P w = .ok false w
  zS : ∀ w, (Go.sizeOf 32).run P w = .ok 1 w
  vS : ∀ w, (zeroValue 32).run P w = .ok (Value.slice none 0 0) w
  tC : P.underlying 37 = some (TypeDesc.func #[34, 34] #[3] false)
  aC : ∀ w, (isAgg 37).run P w = .ok false w
  zC : ∀ w, (Go.sizeOf 37).run P w = .ok 1 w
  vC : ∀ w, (zeroValue 37).run P w = .ok (Value.nilFunc) w
  tU : P.underlying 57 = some (TypeDesc.int IntKind.u64)
  aU : ∀ w, (isAgg 57).run P w = .ok false w
  zU : ∀ w, (Go.sizeOf 57).run P w = .ok 1 w
  vU : ∀ w, (zeroValue 57).run P w = .ok (Value.int IntKind.u64 0) w
  aE : ∀ w, (isAgg 34).run P w = .ok true w
  zE : ∀ w, (Go.sizeOf 34).run P w = .ok k w
theorem soL : SoL Try.prog 2 := {
  mixed := by kernel_rfl, fI := by kernel_rfl, fW := by kernel_rfl, fR := by kernel_rfl, fM := by kernel_rfl, fS := by kernel_rfl
  t0 := by kernel_rfl, a0 := fun _ => by kernel_rfl, z0 := fun _ => by kernel_rfl, v0 := fun _ => by kernel_rfl
  t3 := by kernel_rfl, a3 := fun _ => by kernel_rfl, z3 := fun _ => by kernel_rfl, v3 := fun _ => by kernel_rfl
  t4 := by kernel_rfl, a4 := fun _ => by kernel_rfl, z4 := fun _ => by kernel_rfl, v4 := fun _ => by kernel_rfl
  tS := by kernel_rfl, aS := fun _ => by kernel_rfl, zS := fun _ => by kernel_rfl, vS := fun _ => by kernel_rfl
  tC := by kernel_rfl, aC := fun _ => by kernel_rfl, zC := fun _ => by kernel_rfl, vC := fun _ => by kernel_rfl
  tU := by kernel_rfl, aU := fun _ => by kernel_rfl, zU := fun _ => by kernel_rfl, vU := fun _ => by kernel_rfl
  aE := fun _ => by kernel_rfl, zE := fun _ => by kernel_rfl }
variable {P : Program} {k : Nat} {α : Type} [Inhabited α]
/-- The row's data as a function of places. -/
def Fn (d : Array α) : Nat → α := fun i => d[i]!
theorem Fn_swp (d : Array α) {i j : Nat} (hi : i < d.size) (hj : j < d.size) : Fn (Sort.swp d i j) = So.swp (Fn d) i j := by
  funext q
  unfold Fn So.swp
  rw [swp_get d hi hj]
  by_cases h1 : q = i
  · by_cases h2 : q = j
    · subst h1; subst h2; simp
    · rw [if_neg h2, if_pos h1, if_pos h1]
  · by_cases h2 : q = j
    · rw [if_pos h2, if_neg h1, if_pos h2]
    · rw [if_neg h2, if_neg h1, if_neg h1, if_neg h2]
theorem so_wrap {i : Nat} (h : i < 4611686018427387904) : IntKind.i64.wrap (i : Int) = (i : Int) := by rw [IntKind.wrap_i64]; omega

set_option maxHeartbeats 4000000 in
set_option maxRecDepth 1000000 in
theorem swapRange_calls (L : SoL P k) (enc : α → List Value) (g : Nat) (cb : Array Value) (blk off cap a b n : Nat) (d0 d : Array α) (w0 w : World)
    (R : RowK enc k w0 blk off d0) (hs : d0.size = d.size) (S : SWK enc k w0 blk off d w) (hab : a + n ≤ b) (hb : b + n ≤ d.size) (hsz : d.size < 4611686018427387904) :
    Calls P 28 #[.slice (some ⟨blk, off, none⟩) d.size cap, .int .i64 a, .int .i64 b, .int .i64 n, .func (.func g) #[] cb] w fun e w' => e = .returned (.tuple #[]) ∧ ∃ d', d'.size = d.size ∧ Fn d' = So.swr (Fn d) a b n ∧ SWK enc k w0 blk off d' w' := by
  have mixed := L.mixed; have t0 := L.t0; have a0 := L.a0; have z0 := L.z0; have v0 := L.v0; have t3 := L.t3; have a3 := L.a3; have z3 := L.z3; have v3 := L.v3; have t4 := L.t4; have a4 := L.a4; have z4 := L.z4; have v4 := L.v4; have t22 := L.tS; have a22 := L.aS; have z22 := L.zS; have v22 := L.vS; have t25 := L.tC; have a25 := L.aC; have z25 := L.zC; have v25 := L.vC; have aE := L.aE; have zE := L.zE
  have S0 : Aside (SWK enc k w0 blk off d w) := S
  clear S
  go_enter L.fW, Try.ntmps28
  go_wp2
  go_loopg [10] n (fun kx s10 wr => ∃ (i : Nat) (dk : Array α), s10 = .int .i64 i ∧ i + kx = n ∧ dk.size = d.size ∧ Aside (SWK enc k w0 blk off dk wr) ∧ Hid (Fn dk = So.swr (Fn d) a b i))
  case atStart => exact ⟨0, d, rfl, by omega, rfl, S0, (So.swr_zero _ _ _).symm⟩
  case round =>
    clear S0
    obtain ⟨i, dk, rfl, hik, hds, S1, HE⟩ := hrel
    cases gk with
    | zero =>
      obtain rfl : i = n := by omega
      go_wp2
      go_end0
      exact ⟨rfl, dk, hds, HE.out, S1.out⟩
    | succ kx =>
      have hlt : (i : Int) < (n : Int) := by omega
      go_wp2_with fail
      have eaX : (((a : Int) + (i : Int))).toNat = a + i := by omega
      have paX : (0 : Int) ≤ ((a : Int) + (i : Int)) := by omega
      have baX : ((a : Int) + (i : Int)) < (d.size : Int) := by omega
      have raX : IntKind.i64.wrap (((a : Int) + (i : Int))) = ((a : Int) + (i : Int)) := by rw [IntKind.wrap_i64]; omega
      have ecX : (((b : Int) + (i : Int))).toNat = b + i := by omega
      have pcX : (0 : Int) ≤ ((b : Int) + (i : Int)) := by omega
      have bcX : ((b : Int) + (i : Int)) < (d.size : Int) := by omega
      have rcX : IntKind.i64.wrap (((b : Int) + (i : Int))) = ((b : Int) + (i : Int)) := by rw [IntKind.wrap_i64]; omega
      have S2 : Aside (SWK enc k w0 blk off (Sort.swp dk (a + i) (b + i)) ((wr.drew.setCells blk (off + (a + i) * k) (enc dk[b + i]!)).setCells blk (off + (b + i) * k) (enc dk[a + i]!))) := S1.out.swapped R (a + i) (b + i) (by omega) (by omega)
      have lXa := S1.out.ld1 R (by omega) P (a + i) (by omega)
      have lXb := S1.out.ld1 R (by omega) P (b + i) (by omega)
      have sXa := S1.out.st1 R (by omega) P (a + i) (by omega) dk[b + i]!
      have sXb := S1.out.st2 R (by omega) P (a + i) (b + i) (by omega) (by omega) dk[b + i]! dk[a + i]!
      have nXa : (enc dk[a + i]!).length = k := R.hk _
      have nXb : (enc dk[b + i]!).length = k := R.hk _
      generalize enc dk[a + i]! = cIX at S2 lXa sXb nXa
      generalize enc dk[b + i]! = cJX at S2 lXb sXa sXb nXb
      clear S1
      go_wp2_with fail
      go_big_region_o
      clear lXa lXb sXa sXb
      generalize (wr.drew.setCells blk (off + (a + i) * k) cJX).setCells blk (off + (b + i) * k) cIX = w2 at S2 ⊢
      go_wp2
      go_roundg kx
      case measure => omega
      case rel =>
        exact ⟨i + 1, Sort.swp dk (a + i) (b + i), by go_num, by omega, by rw [size_swp]; exact hds, S2, (show Hid _ from by show _ = _; rw [Fn_swp dk (by omega) (by omega), HE.out]; exact So.swr_succ (Fn d) (by omega))⟩
set_option maxHeartbeats 4000000 in
set_option maxRecDepth 1000000 in
theorem rotate_calls (L : SoL P k) (enc : α → List Value) (g : Nat) (cb : Array Value) (blk off cap a m b : Nat) (d0 d : Array α) (w0 w : World)
    (R : RowK enc k w0 blk off d0) (hs : d0.size = d.size) (S : SWK enc k w0 blk off d w) (ham : a < m) (hmb : m < b) (hb : b ≤ d.size) (hsz : d.size < 2305843009213693952) :
    Calls P 27 #[.slice (some ⟨blk, off, none⟩) d.size cap, .int .i64 a, .int .i64 m, .int .i64 b, .func (.func g) #[] cb] w fun e w' => e = .returned (.tuple #[]) ∧ ∃ d', d'.size = d.size ∧ Fn d' = So.rot (Fn d) a m b ∧ SWK enc k w0 blk off d' w' := by
  have mixed := L.mixed; have t0 := L.t0; have a0 := L.a0; have z0 := L.z0; have v0 := L.v0; have t3 := L.t3; have a3 := L.a3; have z3 := L.z3; have v3 := L.v3; have t4 := L.t4; have a4 := L.a4; have z4 := L.z4; have v4 := L.v4; have t22 := L.tS; have a22 := L.aS; have z22 := L.zS; have v22 := L.vS; have t25 := L.tC; have a25 := L.aC; have z25 := L.zC; have v25 := L.vC
  have e28 : ∀ args w, (callFunc 28 args).run P w = .ok (.enter 28 args) w := enters_of L.fW (by rfl) rfl
  have S0 : Aside (SWK enc k w0 blk off d w) := S
  clear S
  go_enter L.fR, Try.ntmps27
  go_wp2
  go_loopg [10, 11] (b - a) (fun kx s10 s11 wr => ∃ (i j : Nat) (dk : Array α), s10 = .int .i64 i ∧ s11 = .int .i64 j ∧ 1 ≤ i ∧ 1 ≤ j ∧ a + i ≤ m ∧ m + j ≤ b ∧ i + j ≤ kx ∧ dk.size = d.size ∧ Aside (SWK enc k w0 blk off dk wr) ∧ Hid (So.rot (Fn dk) (m - i) m (m + j) = So.rot (Fn d) a m b))
  case atStart => exact ⟨m - a, b - m, d, by congr 1; omega, by congr 1; omega, by omega, by omega, by omega, by omega, by omega, rfl, S0, by show _ = _; rw [show m - (m - a) = a from by omega, show m + (b - m) = b from by omega]⟩
  case round =>
    clear S0
    obtain ⟨i, j, dk, rfl, rfl, hi1, hj1, him, hjb, hkx, hds, S1, HE⟩ := hrel
    by_cases hij : i = j
    · subst hij
      have hc := swapRange_calls L enc g cb blk off cap (m - i) m i d0 dk w0 wr R (by omega) S1.out (by omega) (by omega) (by omega)
      rw [hds, show ((m - i : Nat) : Int) = (m : Int) - (i : Int) from by omega] at hc
      have HC : Aside _ := hc
      clear hc S1
      go_wp2_with (go_at_fn 28; refine Calls.mono HC.out ?_; rintro e w1 ⟨rfl, d1, hd1, hf1, S2⟩)
      (try simp only [Exit.inBlock, Exit.then])
      refine bodyPost_end (results_none rfl _ _ _) rfl ?_
      exact ⟨rfl, d1, hd1, by rw [hf1, ← HE.out]; exact (So.rot_eq (Fn dk) (by omega)).symm, S2⟩
    · have hne : ¬ ((i : Int) = (j : Int)) := by omega
      by_cases hlt : j < i
      · have hgt : (j : Int) < (i : Int) := by omega
        have hc := swapRange_calls L enc g cb blk off cap (m - i) m j d0 dk w0 wr R (by omega) S1.out (by omega) (by omega) (by omega)
        rw [hds, show ((m - i : Nat) : Int) = (m : Int) - (i : Int) from by omega] at hc
        have HC : Aside _ := hc
        clear hc S1
        go_wp2_with (go_at_fn 28; refine Calls.mono HC.out ?_; rintro e w1 ⟨rfl, d1, hd1, hf1, S2⟩; have S3 : Aside _ := S2; clear S2; have H1 : Hid _ := hf1; clear hf1)
        go_roundg (i - j + j)
        case measure => omega
        case rel => exact ⟨i - j, j, d1, by congr 1; omega, rfl, by omega, by omega, by omega, by omega, by omega, hd1, S3, by show _ = _; rw [H1.out, ← HE.out]; exact (So.rot_gt (Fn dk) (by omega) hlt).symm⟩
      · have hgt : ¬ (j : Int) < (i : Int) := by omega
        have hc := swapRange_calls L enc g cb blk off cap (m - i) (m + j - i) i d0 dk w0 wr R (by omega) S1.out (by omega) (by omega) (by omega)
        rw [hds, show ((m - i : Nat) : Int) = (m : Int) - (i : Int) from by omega, show ((m + j - i : Nat) : Int) = (m : Int) + (j : Int) - (i : Int) from by omega] at hc
        have HC : Aside _ := hc
        clear hc S1
        go_wp2_with (go_at_fn 28; refine Calls.mono HC.out ?_; rintro e w1 ⟨rfl, d1, hd1, hf1, S2⟩; have S3 : Aside _ := S2; clear S2; have H1 : Hid _ := hf1; clear hf1)
        go_roundg (i + (j - i))
        case measure => omega
        case rel => exact ⟨i, j - i, d1, rfl, by congr 1; omega, by omega, by omega, by omega, by omega, by omega, hd1, S3, by show _ = _; rw [H1.out, ← HE.out]; exact (So.rot_lt (Fn dk) (by omega) (by omega)).symm⟩
end Go.Proofs.Ytjajkgemjgehiaa.St
