/- The signs of a text, place by place, as a plain list: what a range over a string goes through. No condition. -/
import Derived.Lib.DecodeN
import Derived.Lib.RuneBytes
import Derived.Lib.RuneCount
import Derived.Laws.RangeAny
set_option linter.unusedVariables false
set_option linter.unusedSimpArgs false
namespace Go.Proofs.YtilomlohjhhbnaaDoor
open Go

def sgF (s : ByteArray) : Nat → Nat → List (Int × Nat)
  | 0, _ => []
  | f + 1, p => if p < s.size then (((Utf8.decode s p).1 : Int), p) :: sgF s f (p + (Utf8.decode s p).2) else []
/-- The signs from place p on. -/
def rest (s : ByteArray) (p : Nat) : List (Int × Nat) := sgF s (s.size - p) p
/-- All signs. -/
def rn (s : ByteArray) : List Int := (rest s 0).map (·.1)

theorem wpos (s : ByteArray) (p : Nat) (h : p < s.size) : 1 ≤ (Utf8.decode s p).2 := Lib.decode_width_pos s p h
theorem sgF_fuel (s : ByteArray) : ∀ (f g p : Nat), s.size ≤ p + f → s.size ≤ p + g → sgF s f p = sgF s g p
  | 0, 0, _, _, _ => rfl
  | 0, g + 1, p, h, _ => by simp [sgF, show ¬ p < s.size by omega]
  | f + 1, 0, p, _, h => by simp [sgF, show ¬ p < s.size by omega]
  | f + 1, g + 1, p, h, h' => by
    by_cases hp : p < s.size
    · have := wpos s p hp
      simp only [sgF, hp, if_true]
      rw [sgF_fuel s f g (p + (Utf8.decode s p).2) (by omega) (by omega)]
    · simp [sgF, hp]
theorem rest_cons (s : ByteArray) (p : Nat) (h : p < s.size) : rest s p = (((Utf8.decode s p).1 : Int), p) :: rest s (p + (Utf8.decode s p).2) := by
  have hw := wpos s p h
  unfold rest
  obtain ⟨f, hf⟩ : ∃ f, s.size - p = f + 1 := ⟨s.size - p - 1, by omega⟩
  rw [hf]
  simp only [sgF, h, if_true]
  rw [sgF_fuel s f (s.size - (p + (Utf8.decode s p).2)) _ (by omega) (by omega)]
theorem rest_nil (s : ByteArray) (p : Nat) (h : ¬ p < s.size) : rest s p = [] := by
  unfold rest
  rw [show s.size - p = 0 by omega]
  rfl
theorem rest_length (s : ByteArray) (p : Nat) : (rest s p).length ≤ s.size - p := by
  unfold rest
  generalize s.size - p = f
  induction f generalizing p with
  | zero => simp [sgF]
  | succ f ih =>
    simp only [sgF]
    split
    · simp; exact ih _
    · simp
theorem rn_length (s : ByteArray) : (rn s).length ≤ s.size := by simpa [rn] using rest_length s 0
end Go.Proofs.YtilomlohjhhbnaaDoor
