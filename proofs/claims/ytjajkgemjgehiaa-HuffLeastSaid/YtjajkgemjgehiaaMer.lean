import Derived.Test.YtjajkgemjgehiaaPai
import Derived.Test.YtjajkgemjgehiaaPm2
/- huff.merged: what the printed function says is the plain merge; parcels as the plain ones. -/
set_option linter.unusedVariables false
set_option linter.unusedSimpArgs false
namespace Go.Proofs.Ytjajkgemjgehiaa.St
open Go.RowKit Go.Proofs.YtjajkgemjgehiaaW.PrintWords Go.Proofs.YtjajkgemjgehiaaW.PrintLast Go.Proofs.YtjajkgemjgehiaaW.PrintMore Go.Proofs.Ytjajkgemjgehiaa.PH Go.Proofs.Ytjajkgemjgehiaa.Ct
def mergedS : List SP → List SP → List SP
  | [], b => b
  | a, [] => a
  | x :: a, y :: b => if x.f0 ≤ y.f0 then x :: mergedS a (y :: b) else y :: mergedS (x :: a) b
theorem mergedS_nil (b : List SP) : mergedS [] b = b := by rw [mergedS]
theorem mergedS_end (a : List SP) : mergedS a [] = a := by cases a <;> simp [mergedS]
theorem merged_l0 : ∀ (n : Nat) (a b o : List SP), a.length + b.length = n → o.length + n < 4398046511104 → huff_merged.l0 (2 * n + 2) a b o = some (o ++ mergedS a b)
  | n, [], b, o, h, hb => by
    simp only [List.length_nil, Nat.zero_add] at h
    rw [huff_merged.l0, if_neg (by simp), huff_merged.j1, if_neg (by simp), if_pos (by simp; omega)]
    simp only [List.append_nil, Option.bind_some]
    rw [if_pos (by omega), mergedS_nil]
  | n, x :: a, [], o, h, hb => by
    simp only [List.length_nil, Nat.add_zero] at h
    rw [huff_merged.l0, if_pos (by simp), huff_merged.j1, if_neg (by simp), if_pos (by omega)]
    simp only [Option.bind_some]
    rw [if_pos (by rw [List.length_append]; simp at h ⊢; omega), mergedS_end, List.append_nil]
  | 0, x :: a, y :: b, o, h, hb => by simp at h
  | n + 1, x :: a, y :: b, o, h, hb => by
    simp only [List.length_cons] at h
    rw [show 2 * (n + 1) + 2 = (2 * n + 2) + 1 + 1 by omega, huff_merged.l0, if_pos (by simp), huff_merged.j1, if_pos (by simp), if_pos (by simp), if_pos (by simp)]
    have e0 : rdP (x :: a) 0 = x := rfl
    have e1 : rdP (y :: b) 0 = y := rfl
    change (if (rdP (x :: a) 0).f0 ≤ (rdP (y :: b) 0).f0 then _ else _) = _
    rw [e0, e1, mergedS]
    by_cases hle : x.f0 ≤ y.f0
    · rw [if_pos hle, if_pos hle, if_pos (by omega), if_pos (by simp; omega)]
      change huff_merged.l0 (2 * n + 2) a (y :: b) (o ++ [x]) = _
      rw [merged_l0 n a (y :: b) (o ++ [x]) (by simp; omega) (by rw [List.length_append]; simp; omega)]
      simp
    · rw [if_neg hle, if_neg hle, if_pos (by omega), if_pos (by simp; omega)]
      change huff_merged.l0 (2 * n + 2) (x :: a) b (o ++ [y]) = _
      rw [merged_l0 n (x :: a) b (o ++ [y]) (by simp; omega) (by rw [List.length_append]; simp; omega)]
      simp
theorem merged_f (a b : List SP) (h : a.length + b.length < 4398046511104) : huff_merged.f (2 * (a.length + b.length) + 2) a b = some (mergedS a b) := by
  unfold huff_merged.f
  rw [merged_l0 _ a b [] rfl (by simpa using h), List.nil_append]
/-! ### the plain parcels -/
def pcOf (x : SP) : PM.Pc := ⟨x.f0, x.f1⟩
theorem pairedS_pc : ∀ (l : List SP), (pairedS l).map pcOf = PM.pairedL (l.map pcOf)
  | [] => by simp [pairedS, PM.pairedL]
  | [_] => by simp [pairedS, PM.pairedL]
  | a :: b :: t => by
    rw [pairedS, List.map_cons, pairedS_pc t, List.map_cons, List.map_cons, PM.pairedL]
    rfl
theorem mergedS_pc : ∀ (n : Nat) (a b : List SP), a.length + b.length = n → (mergedS a b).map pcOf = PM.mergedL (a.map pcOf) (b.map pcOf)
  | _, [], b, _ => by rw [mergedS_nil, List.map_nil, PM.nil_mergedL]
  | _, x :: a, [], _ => by rw [mergedS_end, List.map_nil, PM.mergedL_nil]
  | 0, x :: a, y :: b, h => by simp at h
  | n + 1, x :: a, y :: b, h => by
    simp only [List.length_cons] at h
    rw [mergedS, List.map_cons, List.map_cons]
    by_cases hle : x.f0 ≤ y.f0
    · rw [if_pos hle, PM.mergedL_le (x := pcOf x) (y := pcOf y) hle, List.map_cons, mergedS_pc n a (y :: b) (by simp; omega), List.map_cons]
    · rw [if_neg hle, PM.mergedL_gt (x := pcOf x) (y := pcOf y) hle, List.map_cons, mergedS_pc n (x :: a) b (by simp; omega), List.map_cons]
def levelS (lv : List SP) : Nat → List SP
  | 0 => lv
  | k + 1 => mergedS lv (pairedS (levelS lv k))
theorem levelS_pc (lv : List SP) : ∀ k, (levelS lv k).map pcOf = PM.level (lv.map pcOf) k
  | 0 => rfl
  | k + 1 => by rw [levelS, mergedS_pc _ _ _ rfl, pairedS_pc, levelS_pc lv k]; rfl
end Go.Proofs.Ytjajkgemjgehiaa.St
