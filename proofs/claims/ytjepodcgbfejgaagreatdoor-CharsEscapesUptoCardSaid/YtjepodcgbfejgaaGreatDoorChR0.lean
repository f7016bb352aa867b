import Derived.Test.YtjepodcgbfejgaaGreatDoorChRv
/- The document's texts of the characters, walked: which runes there are, and where. -/
namespace Go.Proofs.YtjepodcgbfejgaaGreatDoor.CP
open Go.RowKit Go.Proofs.YtjepodcgbfejgaaGreatDoorW.PrintWords
def runesF (s : ByteArray) : Nat → Nat → List Int
  | 0, _ => []
  | f + 1, p => if p < s.size then ((Utf8.decode s p).1 : Int) :: runesF s f (p + (Utf8.decode s p).2) else []
def placesF (s : ByteArray) : Nat → Nat → List Int
  | 0, _ => []
  | f + 1, p => if p < s.size then (p : Int) :: placesF s f (p + (Utf8.decode s p).2) else []
def endF (s : ByteArray) : Nat → Nat → Nat
  | 0, p => p
  | f + 1, p => if p < s.size then endF s f (p + (Utf8.decode s p).2) else p
def runesL (s : ByteArray) : List Int := runesF s s.size 0
def placesL (s : ByteArray) : List Int := placesF s s.size 0
theorem runesF_end (s : ByteArray) (f p : Nat) (h : ¬ p < s.size) : runesF s f p = [] := by cases f <;> simp [runesF, h]
theorem placesF_end (s : ByteArray) (f p : Nat) (h : ¬ p < s.size) : placesF s f p = [] := by cases f <;> simp [placesF, h]
theorem runesF_len (s : ByteArray) : ∀ f p, (runesF s f p).length ≤ s.size - p
  | 0, p => by simp [runesF]
  | f + 1, p => by
    unfold runesF
    split
    · rename_i h
      have := runesF_len s f (p + (Utf8.decode s p).2)
      have := Lib.decode_width_pos s p h
      simp only [List.length_cons]; omega
    · simp
theorem placesF_len (s : ByteArray) : ∀ f p, (placesF s f p).length = (runesF s f p).length
  | 0, p => rfl
  | f + 1, p => by
    unfold placesF runesF
    split
    · simp only [List.length_cons, placesF_len s f]
    · rfl
end Go.Proofs.YtjepodcgbfejgaaGreatDoor.CP
