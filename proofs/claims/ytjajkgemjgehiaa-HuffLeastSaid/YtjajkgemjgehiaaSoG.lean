import Derived.Test.YtjajkgemjgehiaaSoM
import Derived.Deep.CutRange
/- The library's stable sort at rows of structs: symMergeCmpFunc whole, stableCmpFunc, SortStableFunc. -/
set_option linter.unusedVariables false
set_option linter.unusedSimpArgs false
namespace Go.Proofs.Ytjajkgemjgehiaa.St
open Go.Shelf Go.RowKit Go.Lib Go.Sort Go.Proofs
variable {P : Program} {k : Nat} {α : Type} [Inhabited α]
/-- What symMerge does to data of such a part. -/
def MergeOk (P : Program) (enc : α → List Value) (k : Nat) (key : α → Int) (g : Nat) (cb : Array Value) (blk off cap : Nat) (d0 : Array α) (w0 : World) (N : Nat) : Prop :=
  ∀ (a m b : Nat) (d : Array α) (w : World), b - a < N → d0.size = d.size → SWK enc k w0 blk off d w → a < m → m < b → b ≤ d.size → So.Srt key (Fn d) a m → So.Srt key (Fn d) m b →
    Calls P 25 #[.slice (some ⟨blk, off, none⟩) d.size cap, .int .i64 a, .int .i64 m, .int .i64 b, .func (.func g) #[] cb] w fun e w' => e = .returned (.tuple #[]) ∧ ∃ d', d'.size = d.size ∧ So.Pm (Fn d) (Fn d') a b ∧ So.Srt key (Fn d') a b ∧ SWK enc k w0 blk off d' w'

set_option maxHeartbeats 8000000 in
set_option maxRecDepth 1000000 in
theorem symMerge_gen (L : SoL P k) (enc : α → List Value) (cf : α → α → Int) (key : α → Int) (hK : ByKey cf key) (g : Nat) (cb : Array Value) (blk off cap a m b : Nat) (d0 d : Array α) (w0 w : World)
    (eg : ∀ args w, (callFunc g args).run P w = .ok (.enter g args) w) (hcmp : CmpLays P g cb enc k cf blk off d0.size w0)
    (R : RowK enc k w0 blk off d0) (hs : d0.size = d.size) (S : SWK enc k w0 blk off d w) (ham : a + 1 < m) (hmb : m + 1 < b) (hb : b ≤ d.size) (hsz : d.size < 2305843009213693952) (hS1 : So.Srt key (Fn d) a m) (hS2 : So.Srt key (Fn d) m b)
    (hIH : MergeOk P enc k key g cb blk off cap d0 w0 (b - a)) :
    Calls P 25 #[.slice (some ⟨blk, off, none⟩) d.size cap, .int .i64 a, .int .i64 m, .int .i64 b, .func (.func g) #[] cb] w fun e w' => e = .returned (.tuple #[]) ∧ ∃ d', d'.size = d.size ∧ So.Pm (Fn d) (Fn d') a b ∧ So.Srt key (Fn d') a b ∧ SWK enc k w0 blk off d' w' := by
  have mixed := L.mixed; have t0 := L.t0; have a0 := L.a0; have z0 := L.z0; have v0 := L.v0; have t3 := L.t3; have a3 := L.a3; have z3 := L.z3; have v3 := L.v3; have t4 := L.t4; have a4 := L.a4; have z4 := L.z4; have v4 := L.v4; have t22 := L.tS; have a22 := L.aS; have z22 := L.zS; have v22 := L.vS; have t25 := L.tC; have a25 := L.aC; have z25 := L.zC; have v25 := L.vC; have aE := L.aE; have zE := L.zE; have tU := L.tU; have aU := L.aU; have zU := L.zU; have vU := L.vU
  have u3 := run_underlying L.t3; have uU := run_underlying L.tU
  have e27 : ∀ args w, (callFunc 27 args).run P w = .ok (.enter 27 args) w := enters_of L.fR (by rfl) rfl
  have e25 : ∀ args w, (callFunc 25 args).run P w = .ok (.enter 25 args) w := enters_of L.fM (by rfl) rfl
  have HC : Aside (CmpLays P g cb enc k cf blk off d0.size w0) := hcmp
  have S0 : Aside (SWK enc k w0 blk off d w) := S
  have HS1 : Aside (So.Srt key (Fn d) a m) := hS1
  have HS2 : Aside (So.Srt key (Fn d) m b) := hS2
  have HK : Aside (ByKey cf key) := hK
  have IH : Aside (MergeOk P enc k key g cb blk off cap d0 w0 (b - a)) := hIH
  clear S hcmp hS1 hS2 hK hIH
  have hm1 : ((m : Int) - (a : Int) == 1) = false := by simp; omega
  have hm2 : ((b : Int) - (m : Int) == 1) = false := by simp; omega
  go_enter L.fM, Try.ntmps25
  go_upto_if 140 with fail
  have hh : ((a : Int) + (b : Int)) / 2 = (((a + b) / 2 : Nat) : Int) := by omega
  rw [hh]
  clear hh
  obtain ⟨mid, hmid⟩ : ∃ x, x = (a + b) / 2 := ⟨_, rfl⟩
  rw [← hmid]
  have HM : Hid (mid = (a + b) / 2) := hmid
  have hmid1 : a < mid := by omega
  have hmid2 : mid < b := by omega
  have hmid3 : mid + m ≤ 2 * b := by omega
  clear hmid
  go_cut [20, 21] from 129 to 140 (fun s20 s21 wc => ∃ (s r : Nat), s20 = .int .i64 s ∧ s21 = .int .i64 r ∧ s = (if mid < m then mid + m - b else a) ∧ r = (if mid < m then mid else m) ∧ Aside (SWK enc k w0 blk off d wc))
  case first =>
    by_cases hc : mid < m
    · have hcz : (mid : Int) < (m : Int) := by omega
      have hbb : b ≤ mid + m := by have := HM.out; omega
      go_wp2
      go_meet
      case rel => exact ⟨mid + m - b, mid, by congr 1; omega, rfl, by rw [if_pos hc], by rw [if_pos hc], S0⟩
    · have hcz : ¬ (mid : Int) < (m : Int) := by omega
      go_wp2
      go_meet
      case rel => exact ⟨a, m, rfl, rfl, by rw [if_neg hc], by rw [if_neg hc], S0⟩
  case rest =>
    obtain ⟨s0, r0, rfl, rfl, hs0, hr0, S0⟩ := hcut
    have hlow : mid + m ≤ b + s0 := by have := HM.out; by_cases hc : mid < m <;> simp only [hc, if_true, if_false] at hs0 <;> omega
    have hr1 : r0 ≤ mid ∧ r0 ≤ m := by by_cases hc : mid < m <;> simp only [hc, if_true, if_false] at hr0 <;> omega
    have hsr : s0 ≤ r0 ∧ a ≤ s0 := by have := HM.out; by_cases hc : mid < m <;> simp only [hc, if_true, if_false] at hr0 hs0 <;> omega
    obtain ⟨hr1, hr2⟩ := hr1
    obtain ⟨hsr, has⟩ := hsr
    have HS0 : Hid (s0 = (if mid < m then mid + m - b else a)) := hs0
    have HR0 : Hid (r0 = (if mid < m then mid else m)) := hr0
    clear hs0 hr0
    go_wp2
    go_loopg [20, 21] (r0 - s0) (fun kx s20 s21 wr => ∃ (s r : Nat), s20 = .int .i64 s ∧ s21 = .int .i64 r ∧ s0 ≤ s ∧ s ≤ r ∧ r ≤ r0 ∧ r - s ≤ kx ∧ Aside (SWK enc k w0 blk off d wr) ∧ Hid (So.Sch key (Fn d) s0 r0 (mid + m) s r))
    case atStart => exact ⟨s0, r0, rfl, rfl, Nat.le_refl _, hsr, Nat.le_refl _, Nat.le_refl _, S0, ⟨Nat.le_refl _, hsr, Nat.le_refl _, fun h => by omega, fun h => by omega⟩⟩
    case round =>
      clear S0
      obtain ⟨s, r, rfl, rfl, hs1, hsr1, hr3, hkx, S1, HE⟩ := hrel
      by_cases hlt : s < r
      · have hltz : (s : Int) < (r : Int) := by omega
        go_wp2_with fail
        have hh : ((s : Int) + (r : Int)) / 2 = (((s + r) / 2 : Nat) : Int) := by omega
        rw [hh]
        have hh1 : s ≤ (s + r) / 2 := by omega
        have hh2 : (s + r) / 2 < r := by omega
        clear hh
        generalize (s + r) / 2 = c at hh1 hh2 ⊢
        obtain ⟨q, hq⟩ : ∃ q, q = mid + m - 1 - c := ⟨_, rfl⟩
        have hpq : (mid : Int) + (m : Int) - 1 - (c : Int) = (q : Int) := by omega
        have HQ : Hid (q = mid + m - 1 - c) := hq
        have hqs : q < d.size := by omega
        clear hq
        have eaA : ((q : Int)).toNat = q := by omega
        have paA : (0 : Int) ≤ (q : Int) := by omega
        have baA : (q : Int) < (d.size : Int) := by omega
        have raA : IntKind.i64.wrap ((q : Int)) = (q : Int) := by rw [IntKind.wrap_i64]; omega
        have ecA : ((c : Int)).toNat = c := by omega
        have pcA : (0 : Int) ≤ (c : Int) := by omega
        have bcA : (c : Int) < (d.size : Int) := by omega
        have rcA : IntKind.i64.wrap ((c : Int)) = (c : Int) := by rw [IntKind.wrap_i64]; omega
        have lAa := fun n' os' => S1.out.ld R (by omega) P (q) (by omega) n' os'
        have lAb := fun n' os' => S1.out.ld R (by omega) P (c) (by omega) n' os'
        have hcg := fun n' os' => S1.out.cmp HC.out (by omega) d[q]! d[c]! n' os'
        have S9 : Aside (∀ n' os', SWK enc k w0 blk off d (grow (wr.drewN n') os')) := fun n' os' => S1.out.grown n' os'
        clear S1
        have hkv : Aside (cf d[q]! d[c]! < 0 ↔ key (Fn d (q)) < key (Fn d (c))) := HK.out _ _
        generalize cf d[q]! d[c]! = cv at hcg hkv
        generalize d[q]! = XA at lAa hcg
        generalize d[c]! = XB at lAb hcg
        by_cases hlv : cv < 0
        · have hkk := hkv.out.1 hlv
          have hlb : (!decide (cv < 0)) = false := by rw [decide_eq_true hlv]; rfl
          have HKK : Hid _ := hkk
          clear hkk hkv
          go_wp2_with fail
          go_quiet_grown (first | (go_at_fn g; refine Calls.grown_of (hcg _ _)))
          go_wp2
          go_roundg (c - s)
          case measure => omega
          case rel => exact ⟨s, c, rfl, rfl, by omega, by omega, by omega, Nat.le_refl _, S9.out _ _, HE.out.down hh1 hh2 (by rw [← HQ.out]; exact HKK.out)⟩
        · have hkk := Int.not_lt.1 (fun h => hlv (hkv.out.2 h))
          have hlb : (!decide (cv < 0)) = true := by rw [decide_eq_false hlv]; rfl
          have HKK : Hid _ := hkk
          clear hkk hkv
          go_wp2_with fail
          go_quiet_grown (first | (go_at_fn g; refine Calls.grown_of (hcg _ _)))
          go_wp2
          go_roundg (r - (c + 1))
          case measure => omega
          case rel => exact ⟨c + 1, r, by go_num, rfl, by omega, by omega, by omega, Nat.le_refl _, S9.out _ _, HE.out.up hh1 hh2 (by rw [← HQ.out]; exact Int.not_lt.2 HKK.out)⟩
      · obtain rfl : s = r := by omega
        have hcut : So.Cut key (Fn d) a m b mid s (mid + m - s) := So.Sch.cut HM.out (by omega) (by omega) (by have h1 := HE.out; rw [HS0.out, HR0.out] at h1; exact h1)
        obtain ⟨e, he⟩ : ∃ e, e = mid + m - s := ⟨_, rfl⟩
        rw [← he] at hcut
        have HCUT : Hid _ := hcut
        obtain ⟨l1, l2, l3, l4, lsum, _, _⟩ := hcut
        have HP : Hid _ := So.rot_parts HS1.out HS2.out l1 l2 l3 l4
        go_upto_region 39 with fail
        rw [show (mid : Int) + (m : Int) - (s : Int) = (e : Int) from by omega]
        clear he HE HS0 HR0 HM
        go_cut [185] from 185 to 185 (fun s185 wc => s185 = .bool (decide (s < m ∧ m < e)) ∧ Aside (SWK enc k w0 blk off d wc))
        case first =>
          by_cases h1 : s < m
          · have h1z : (s : Int) < (m : Int) := by omega
            by_cases h2 : m < e
            · have h2z : (m : Int) < (e : Int) := by omega
              go_wp2
              go_meet
              case rel => exact ⟨by simp [h1, h2], S1⟩
            · have h2z : ¬ (m : Int) < (e : Int) := by omega
              go_wp2
              go_meet
              case rel => exact ⟨by simp [h1, h2], S1⟩
          · have h1z : ¬ (s : Int) < (m : Int) := by omega
            go_wp2
            go_meet
            case rel => exact ⟨by simp [h1], S1⟩
        case rest =>
        obtain ⟨rfl, S1⟩ := hcut
        go_upto_if 185 with fail
        go_cut [] from 178 to 191 (fun wc => ∃ d1, d1.size = d.size ∧ Hid (Fn d1 = So.rot (Fn d) s m e) ∧ Aside (SWK enc k w0 blk off d1 wc))
        case first =>
          by_cases hrot : s < m ∧ m < e
          · rw [decide_eq_true hrot]
            have hc := rotate_calls L enc g cb blk off cap s m e d0 d w0 _ R hs S1.out hrot.1 hrot.2 (by omega) hsz
            have HCR : Aside _ := hc
            clear hc
            go_wp2_with (go_at_fn 27; refine Calls.mono HCR.out ?_; rintro _ w1 ⟨rfl, d1, hd1, hf1, S2⟩; have S3 : Aside _ := S2; clear S2; have H1 : Hid _ := hf1; clear hf1)
            go_meet
            case rel => exact ⟨d1, hd1, H1, S3⟩
          · rw [decide_eq_false hrot]
            go_wp2
            go_meet
            case rel =>
              refine ⟨d, rfl, ?_, S1⟩
              show _ = _
              by_cases h1 : s < m
              · obtain rfl : m = e := by omega
                rw [So.rot_none]
              · obtain rfl : s = m := by omega
                rw [So.rot_none']
        case rest =>
        obtain ⟨d1, hd1, HF1, S1⟩ := hcut
        go_upto_region 41 with fail
        go_cut [199] from 199 to 199 (fun s199 wc => s199 = .bool (decide (a < s ∧ s < mid)) ∧ Aside (SWK enc k w0 blk off d1 wc))
        case first =>
          by_cases h1 : a < s
          · have h1z : (a : Int) < (s : Int) := by omega
            by_cases h2 : s < mid
            · have h2z : (s : Int) < (mid : Int) := by omega
              go_wp2
              go_meet
              case rel => exact ⟨by simp [h1, h2], S1⟩
            · have h2z : ¬ (s : Int) < (mid : Int) := by omega
              go_wp2
              go_meet
              case rel => exact ⟨by simp [h1, h2], S1⟩
          · have h1z : ¬ (a : Int) < (s : Int) := by omega
            go_wp2
            go_meet
            case rel => exact ⟨by simp [h1], S1⟩
        case rest =>
        obtain ⟨rfl, S1⟩ := hcut
        go_upto_if 199 with fail
        go_cut [] from 192 to 205 (fun wc => ∃ d2, d2.size = d.size ∧ Hid (So.Pm (Fn d1) (Fn d2) a mid ∧ So.Srt key (Fn d2) a mid) ∧ Aside (SWK enc k w0 blk off d2 wc))
        case first =>
          by_cases hrot : a < s ∧ s < mid
          · rw [decide_eq_true hrot]
            have hc := IH.out a s mid d1 _ (by omega) (by omega) S1.out hrot.1 hrot.2 (by omega) (by rw [HF1.out]; exact HP.out.1) (by rw [HF1.out, ← lsum]; exact HP.out.2.1)
            rw [hd1] at hc
            have HCR : Aside _ := hc
            clear hc
            go_wp2_with (go_at_fn 25; refine Calls.mono HCR.out ?_; rintro _ w1 ⟨rfl, d2, hd2, hp2, hs2, S2⟩; have S3 : Aside _ := S2; clear S2; have H1 : Hid _ := And.intro hp2 hs2; clear hp2 hs2)
            go_meet
            case rel => exact ⟨d2, hd2, H1, S3⟩
          · rw [decide_eq_false hrot]
            go_wp2
            go_meet
            case rel =>
              refine ⟨d1, hd1, ⟨So.Pm.refl _ _ _, ?_⟩, S1⟩
              rw [HF1.out]
              by_cases h1 : a < s
              · obtain rfl : s = mid := by omega
                exact HP.out.1
              · obtain rfl : a = s := by omega
                rw [← lsum]
                exact HP.out.2.1
        case rest =>
        obtain ⟨d2, hd2, HF2, S1⟩ := hcut
        have hp3 : So.Srt key (Fn d2) mid e := So.Srt.congr (by rw [← lsum]; exact HP.out.2.2.1) (fun i h1 h2 => by rw [HF2.out.1.2 i (.inr h1), HF1.out])
        have hp4 : So.Srt key (Fn d2) e b := So.Srt.congr HP.out.2.2.2 (fun i h1 h2 => by rw [HF2.out.1.2 i (.inr (by omega)), HF1.out])
        have HP3 : Hid _ := hp3
        have HP4 : Hid _ := hp4
        clear hp3 hp4
        go_upto_region 43 with fail
        go_cut [213] from 213 to 213 (fun s213 wc => s213 = .bool (decide (mid < e ∧ e < b)) ∧ Aside (SWK enc k w0 blk off d2 wc))
        case first =>
          by_cases h1 : mid < e
          · have h1z : (mid : Int) < (e : Int) := by omega
            by_cases h2 : e < b
            · have h2z : (e : Int) < (b : Int) := by omega
              go_wp2
              go_meet
              case rel => exact ⟨by simp [h1, h2], S1⟩
            · have h2z : ¬ (e : Int) < (b : Int) := by omega
              go_wp2
              go_meet
              case rel => exact ⟨by simp [h1, h2], S1⟩
          · have h1z : ¬ (mid : Int) < (e : Int) := by omega
            go_wp2
            go_meet
            case rel => exact ⟨by simp [h1], S1⟩
        case rest =>
        obtain ⟨rfl, S1⟩ := hcut
        go_upto_if 213 with fail
        by_cases hrot : mid < e ∧ e < b
        · rw [decide_eq_true hrot]
          have hc := IH.out mid e b d2 _ (by omega) (by omega) S1.out hrot.1 hrot.2 (by omega) HP3.out HP4.out
          rw [hd2] at hc
          have HCR : Aside _ := hc
          clear hc
          go_wp2_with (go_at_fn 25; refine Calls.mono HCR.out ?_; rintro _ w1 ⟨rfl, d3, hd3, hp2, hs2, S2⟩)
          go_end0
          obtain ⟨hA, hB⟩ := So.merged HS1.out HS2.out HCUT.out (fun i => congrFun HF1.out i) HF2.out.1 hp2 HF2.out.2 hs2
          exact ⟨rfl, d3, hd3, hA, hB, S2⟩
        · rw [decide_eq_false hrot]
          go_wp2
          go_end0
          have hs2 : So.Srt key (Fn d2) mid b := by
            by_cases h1 : mid < e
            · obtain rfl : e = b := by omega
              exact HP3.out
            · obtain rfl : mid = e := by omega
              exact HP4.out
          obtain ⟨hA, hB⟩ := So.merged HS1.out HS2.out HCUT.out (fun i => congrFun HF1.out i) HF2.out.1 (So.Pm.refl _ _ _) HF2.out.2 hs2
          exact ⟨rfl, d2, hd2, hA, hB, S1.out⟩
end Go.Proofs.Ytjajkgemjgehiaa.St
