import Derived.RangeFuncNested
import Derived.RangeFuncBound
import Derived.RangeFuncCalls
import Derived.RangeFuncLeaves
import Derived.Shelf.Abstract
import Derived.Shelf.RegionOpen
import Derived.WalkKit
import Derived.OwnWalkIn
import Derived.TacticsInMore
import Derived.LoopNIn
import Derived.LoopIn
import Derived.Test.YtjepodcgbfejgaaDoorChL
/- chars.Runes: the iterator's contract. -/
namespace Go.Proofs.YtjepodcgbfejgaaDoor.Hw
open Go.RowKit Go.Proofs.YtjepodcgbfejgaaDoorW.PrintWords Go.Proofs.YtjepodcgbfejgaaDoorW.PrintLast Go.Proofs.YtjepodcgbfejgaaDoorW.PrintMore Go.Proofs.YtjepodcgbfejgaaDoor.PH Go.Proofs.YtjepodcgbfejgaaDoor.CP
open Go.Shelf
set_option linter.unusedVariables false
set_option linter.unusedSimpArgs false
attribute [local go_sem] Oper.semAt_some
/-- Characters with their places. -/
def prF (s : ByteArray) : Nat → Nat → List (Int × Int)
  | 0, _ => []
  | f + 1, p => if p < s.size then ((p : Int), ((Utf8.decode s p).1 : Int)) :: prF s f (p + (Utf8.decode s p).2) else []
def prL (s : ByteArray) : List (Int × Int) := prF s s.size 0
theorem prF_end (s : ByteArray) (f p : Nat) (h : ¬ p < s.size) : prF s f p = [] := by cases f <;> simp [prF, h]
theorem prF_step (s : ByteArray) (f p : Nat) (h : p < s.size) (hf : s.size ≤ p + f) : ∃ g, f = g + 1 ∧ prF s f p = ((p : Int), ((Utf8.decode s p).1 : Int)) :: prF s g (p + (Utf8.decode s p).2) ∧ s.size ≤ p + (Utf8.decode s p).2 + g := by
  obtain ⟨g, rfl⟩ : ∃ g, f = g + 1 := ⟨f - 1, by omega⟩
  have := Lib.decode_width_pos s p h
  exact ⟨g, rfl, by rw [prF, if_pos h], by omega⟩
abbrev encP (p : Int × Int) : Array Value := #[.int .i64 p.1, .int .i32 p.2]
theorem grownBy_iterAt (W : World) (k : Nat) (s : ByteArray) (p : Nat) : W.grownBy (W.iterAt k s p) (some k) := ⟨rfl, rfl, rfl, by simp [World.iterAt], fun j _ hj => Lib.iterAt_other _ _ _ _ _ (fun e => hj (by rw [e]))⟩
set_option maxRecDepth 100000 in
set_option maxHeartbeats 2000000 in
theorem runes1_in (F : Fence) (n : Nat) (hF : F.fn 41) (hro : F.round = none) (hn : 1 ≤ n) (l B : Nat) (s : ByteArray) (hs : s.size ≤ maxLen) (J Jx : List (Int × Int) → World → Prop) (W : World)
    (hJ : AbidesFrom W.heap.size J)
    (hY : ∀ pre x W1, J pre W1 → pre.length < (prL s).length → YieldAt F (n - 1) Tryd.prog l (encP x) W1 fun e W' =>
      (e = .returned (.bool true) ∧ J (pre ++ [x]) W' ∧ KeepsWalks W1 W') ∨ (e = .returned (.bool false) ∧ Jx (pre ++ [x]) W'))
    (hB : W.cell? ⟨B, 0, none⟩ = some (.string s)) (h0 : J [] W) :
    CallsIn F n Tryd.prog 41 #[.func (.yield l) #[] #[], .pointer (some ⟨B, 0, none⟩)] W fun e W' => (∃ v, e = .returned v) ∧
      ((∃ xs, xs = prL s ∧ J xs W') ∨ (∃ pre, pre <+: prL s ∧ Jx pre W')) := by
  have HS := Aside0.mk hs
  unfold maxLen at hs
  refine callsIn_of_wp Tryd.func41 rfl hF ?_ hro
  simp only [Tryd.ntmps41, List.size_toArray, List.length_cons, List.length_nil, Nat.reduceAdd, Nat.reduceSub, Array.replicate_succ, Array.replicate_zero, List.push_toArray, List.append_toArray, List.nil_append, List.cons_append]
  gi_wp2
  gi_loopw [] (fun wr => ∃ (pos f : Nat) (pre : List (Int × Int)), wr.heap[W.heap.size]? = some (.stringIter s pos) ∧ Aside0 (J pre wr) ∧ Aside0 (prL s = pre ++ prF s f pos) ∧ s.size ≤ pos + f) (fun wr => s.size - wr.iterPos W.heap.size)
  case atStart => exact ⟨0, s.size, [], World.iter_heap W s 0, ⟨hJ _ _ _ none h0 (World.grownBy_alloc W _ none) (fun r e => by cases e)⟩, ⟨rfl⟩, by omega⟩
  case round =>
    obtain ⟨pos, f, pre, hit, hj, hv, hf⟩ := hrel
    have HIT := Aside0.mk hit
    have hsz : W.heap.size < wr.heap.size := (Array.getElem?_eq_some_iff.1 hit).1
    by_cases hp : pos < s.size
    · have hnx : ∀ ty, (Instr.next (.pointer (some ⟨W.heap.size, 0, none⟩)) true ty).run Tryd.prog wr = _ := fun ty => Lib.run_next_any_at wr W.heap.size s pos ty hit hp
      have hwd := Lib.decode_width_pos s pos hp
      obtain ⟨g, rfl, hst, hg⟩ := prF_step s f pos hp hf
      have HST := Aside0.mk hst
      have hit2 := Lib.iterAt_heap wr W.heap.size s pos (pos + (Utf8.decode s pos).2) hit
      have HIT2 := Aside0.mk hit2
      have hj2 : J pre (wr.iterAt W.heap.size s (pos + (Utf8.decode s pos).2)) := hJ _ _ _ (some W.heap.size) hj.out (grownBy_iterAt _ _ _ _) (fun r e => by cases e; exact ⟨Nat.le_refl _, _, hit, rfl⟩)
      obtain ⟨fn, tmps, assign, body, hy, hR⟩ := hY pre ((pos : Int), ((Utf8.decode s pos).1 : Int)) _ hj2 (by rw [hv.out, hst, List.length_append, List.length_cons]; omega)
      dsimp only [encP] at hy
      clear hit hit2 hst hj2
      generalize hW2 : wr.iterAt W.heap.size s (pos + (Utf8.decode s pos).2) = W2 at *
      gi_wp2
      refine hR.mono ?_
      rintro e W3 (⟨rfl, hJ3, hk3⟩ | ⟨rfl, hJx3⟩)
      · have hit3 : W3.heap[W.heap.size]? = some (.stringIter s (pos + (Utf8.decode s pos).2)) := hk3.same _ _ HIT2.out rfl
        have HIT3 := Aside0.mk hit3
        clear hit3
        gi_wp2
        go_roundw
        case rel => exact ⟨_, g, pre ++ [((pos : Int), ((Utf8.decode s pos).1 : Int))], HIT3.out, ⟨hJ3⟩, ⟨by rw [hv.out, HST.out]; simp⟩, hg⟩
        case measure =>
          simp only [World.iterPos, HIT3.out, HIT.out]
          omega
      · gi_wp2
        refine bodyPost_ret (results_none rfl _ _ _) rfl ?_
        exact ⟨⟨_, rfl⟩, .inr ⟨_, ⟨prF s g (pos + (Utf8.decode s pos).2), by rw [hv.out, HST.out]; simp⟩, hJx3⟩⟩
    · have hend := Aside0.mk (prF_end s f pos hp)
      have hnx : ∀ ty, (Instr.next (.pointer (some ⟨W.heap.size, 0, none⟩)) true ty).run Tryd.prog wr = _ := fun ty => Lib.run_next_end_at wr W.heap.size s pos ty hit hp
      clear hit
      gi_wp2
      go_end0
      exact ⟨⟨_, rfl⟩, .inl ⟨pre, by rw [hv.out, hend.out, List.append_nil], hj.out⟩⟩
end Go.Proofs.YtjepodcgbfejgaaDoor.Hw
