/- What name.Fold and name.Same answer: the small form of each sign, written one behind the other; whether both are alike. Condition: a text has at most 2^45 bytes. -/
import Derived.Test.YtilomlohjhhbnaaDoorLeaf
import Derived.Test.YtilomlohjhhbnaaDoorSg
import Derived.Test.YtilomlohjhhbnaaDoorBld
import Derived.Test.YtilomlohjhhbnaaDoorShelf
import Derived.Lib.OthersKept
import Derived.Lib.Builder
import Derived.Lib.Hide
set_option linter.unusedVariables false
set_option linter.unusedSimpArgs false
namespace Go.Proofs.YtilomlohjhhbnaaDoor
open Go.Proofs Go.RowKit

theorem dec_le (s : ByteArray) (pos : Nat) : (Utf8.decode s pos).1 ≤ 1114111 := by
  have h0 := (s.get! pos).toNat_lt
  rw [Lib.decode_at]
  unfold Lib.decodeN
  repeat' split
  all_goals simp only []
  all_goals omega
theorem lowV_range (c : Int) (h0 : 0 ≤ c) (h1 : c ≤ 1114111) : 0 ≤ lowV c ∧ lowV c ≤ 1114111 := by unfold lowV; repeat' split <;> omega

/-- The bytes of Fold. -/
def foldL (l : List Int) : List UInt8 := l.flatMap fun r => Lib.encodeRune (lowV r)
def foldS (s : ByteArray) : ByteArray := ⟨(foldL (rn s)).toArray⟩
theorem encodeRune_length (r : Int) : 1 ≤ (Lib.encodeRune r).length ∧ (Lib.encodeRune r).length ≤ 4 := by
  have := Lib.runeCells_le r
  rw [Lib.runeCells_length] at this
  exact this
theorem foldL_length (l : List Int) : (foldL l).length ≤ 4 * l.length := by
  unfold foldL
  induction l with
  | nil => simp
  | cons a l ih => have := encodeRune_length (lowV a); simp at *; omega
theorem foldS_size (s : ByteArray) : (foldS s).size ≤ 4 * s.size := by
  have := foldL_length (rn s)
  have := rn_length s
  have e : (foldS s).size = (foldL (rn s)).length := by simp [foldS, ByteArray.size]
  omega

set_option maxHeartbeats 4000000 in
set_option maxRecDepth 1000000 in
theorem fold_any (s : ByteArray) (w : World) (hs : s.size ≤ 35184372088832) :
    Calls Tryd.prog 18 #[.string s] w fun e w' => e = .returned (.string (foldS s)) ∧ Below w.heap.size w w' := by
  go_enter Tryd.func18, Tryd.ntmps18
  go_wp2
  go_loopw [] (fun wr => ∃ (pos : Nat) (acc : List UInt8), Lib.IsBuilderF 45 5 w.heap.size w.heap.size (Lib.byteCells acc) wr ∧ wr.heap[w.heap.size + 1]? = some (.stringIter s pos) ∧ Below w.heap.size w wr ∧ acc ++ foldL ((rest s pos).map (·.1)) = foldL (rn s) ∧ acc.length ≤ 4 * pos) (fun wr => s.size - wr.iterPos (w.heap.size + 1))
  case atStart =>
    refine ⟨0, [], (Lib.IsBuilderF.of (Lib.fresh_isBuilder 45 5 w)).alloc _, ?_, ((Below.refl _ w).alloc (Nat.le_refl _) _).alloc (by simp) _, rfl, by simp⟩
    have := World.iter_heap (w.alloc (.cells #[.pointer none, .slice none 0 0] 45)) s 0
    simpa using this
  case round =>
    obtain ⟨pos, acc, hI, hit, hbw, hacc, hal⟩ := hrel
    have hsz : w.heap.size + 1 < wr.heap.size := (Array.getElem?_eq_some_iff.1 hit).1
    by_cases hp : pos < s.size
    · have hnx : ∀ ty, (Instr.next (.pointer (some ⟨w.heap.size + 1, 0, none⟩)) true ty).run Tryd.prog wr = _ := fun ty => Lib.run_next_any_at wr (w.heap.size + 1) s pos ty hit hp
      have hwd := wpos s pos hp
      have hdl := dec_le s pos
      have hlr := lowV_range (Utf8.decode s pos).1 (by omega) (by omega)
      have hI2 := hI.iterAt hit (pos + (Utf8.decode s pos).2)
      have hit2 := Lib.iterAt_heap wr (w.heap.size + 1) s pos (pos + (Utf8.decode s pos).2) hit
      have hbw2 := Lib.below_iterAt hbw (k := w.heap.size + 1) (by omega) s (pos + (Utf8.decode s pos).2)
      have hsz2 : w.heap.size ≤ (wr.iterAt (w.heap.size + 1) s (pos + (Utf8.decode s pos).2)).heap.size := by rw [Lib.iterAt_size]; omega
      have hl4 := encodeRune_length (lowV (Utf8.decode s pos).1)
      have hrc := rest_cons s pos hp
      have hacc2 : (acc ++ Lib.encodeRune (lowV (Utf8.decode s pos).1)) ++ foldL ((rest s (pos + (Utf8.decode s pos).2)).map (·.1)) = foldL (rn s) := by
        rw [← hacc, hrc]; simp [foldL]
      have HA := Lib.hid hacc2
      clear hacc hacc2 hrc
      go_wp2_with first | (go_at_call 41; refine (low_any _ (by omega) (by omega) _).mono ?_; rintro e w' ⟨rfl, rfl⟩) | (go_at_call 30; refine (Bld.Builder_WriteRune_k w.heap.size w.heap.size _ _ (by omega) (by omega) _ hI2 (by rw [Lib.byteCells_length]; omega) hsz2).mono ?_)
      rintro e W1 ⟨rfl, h1, b1, k1⟩
      go_wp2
      go_roundw
      case rel =>
        refine ⟨pos + (Utf8.decode s pos).2, acc ++ Lib.encodeRune (lowV (Utf8.decode s pos).1), ?_, k1.iter hit2 (by omega), hbw2.trans b1, HA.out, by simp; omega⟩
        rw [Lib.byteCells_append, Lib.byteCells_encodeRune]; exact Or.inr h1
      case measure =>
        simp only [World.iterPos, k1.iter hit2 (by omega), hit]
        omega
    · have hnx : ∀ ty, (Instr.next (.pointer (some ⟨w.heap.size + 1, 0, none⟩)) true ty).run Tryd.prog wr = _ := fun ty => Lib.run_next_end_at wr (w.heap.size + 1) s pos ty hit hp
      go_wp2_with (go_at_call 34; refine (Tryd.Builder_String_any_k w.heap.size w.heap.size acc _ hI (by omega)).mono ?_)
      rintro e W1 ⟨rfl, _, b1, _⟩
      go_wp2
      go_ret
      rw [rest_nil s pos hp] at hacc
      simp [foldL] at hacc
      subst hacc
      exact ⟨rfl, hbw.trans b1⟩

set_option maxHeartbeats 1000000 in
theorem same_any (s t : ByteArray) (w : World) (hs : s.size ≤ 35184372088832) (ht : t.size ≤ 35184372088832) :
    Calls Tryd.prog 20 #[.string s, .string t] w fun e w' => e = .returned (.bool ((foldS s).toList == (foldS t).toList)) ∧ Below w.heap.size w w' := by
  go_enter Tryd.func20, Tryd.ntmps20
  go_wp2_with (go_at_call 18; refine (fold_any s _ hs).mono ?_)
  rintro e w1 ⟨rfl, b1⟩
  go_wp2_with (go_at_call 18; refine (fold_any t _ ht).mono ?_)
  rintro e w2 ⟨rfl, b2⟩
  go_wp2
  go_ret
  exact ⟨rfl, b1.trans (b2.mono b1.size)⟩
end Go.Proofs.YtilomlohjhhbnaaDoor
