/- How many signs a text has, and how many columns it takes: name.Count, name.Width. Condition: the text's length is an int. -/
import Derived.Test.YtilomlohjhhbnaaDoorLeaf
import Derived.Test.YtilomlohjhhbnaaDoorSg
import Derived.Lib.OthersKept
import Derived.Lib.Builder
import Derived.Lib.Hide
set_option linter.unusedVariables false
set_option linter.unusedSimpArgs false
namespace Go.Proofs.YtilomlohjhhbnaaDoor
open Go.Proofs Go.RowKit

def sumW (l : List Int) : Int := (l.map wideV).sum
theorem wideV_range (c : Int) : 0 ≤ wideV c ∧ wideV c ≤ 2 := by unfold wideV; repeat' split <;> omega
theorem sumW_range (l : List Int) : 0 ≤ sumW l ∧ sumW l ≤ 2 * l.length := by
  unfold sumW
  induction l with
  | nil => simp
  | cons a l ih => have := wideV_range a; simp; omega

set_option maxHeartbeats 1000000 in
set_option maxRecDepth 100000 in
theorem count_any (s : ByteArray) (w : World) (hs : s.size ≤ 9223372036854775807) :
    Calls Tryd.prog 21 #[.string s] w fun e w' => e = .returned (.int .i64 (rn s).length) ∧ Below w.heap.size w w' := by
  go_enter Tryd.func21, Tryd.ntmps21
  go_wp2
  go_loopw [3] (fun n wr => ∃ (pos : Nat) (k : Nat), n = .int .i64 k ∧ wr.heap[w.heap.size]? = some (.stringIter s pos) ∧ Below w.heap.size w wr ∧ k + (rest s pos).length = (rn s).length) (fun _ wr => s.size - wr.iterPos w.heap.size)
  case atStart =>
    refine ⟨0, 0, rfl, World.iter_heap w s 0, (Below.refl _ w).alloc (Nat.le_refl _) _, by simp [rn]⟩
  case round =>
    obtain ⟨pos, k, rfl, hit, hbw, hk⟩ := hrel
    have hl := rest_length s pos
    have hr := rn_length s
    have hsz : w.heap.size < wr.heap.size := (Array.getElem?_eq_some_iff.1 hit).1
    by_cases hp : pos < s.size
    · have hnx : ∀ ty, (Instr.next (.pointer (some ⟨w.heap.size, 0, none⟩)) true ty).run Tryd.prog wr = _ := fun ty => Lib.run_next_any_at wr w.heap.size s pos ty hit hp
      have hwd := wpos s pos hp
      have hit2 := Lib.iterAt_heap wr w.heap.size s pos (pos + (Utf8.decode s pos).2) hit
      have hbw2 := Lib.below_iterAt hbw (k := w.heap.size) (by omega) s (pos + (Utf8.decode s pos).2)
      have hrc := rest_cons s pos hp
      have hk2 : k + 1 + (rest s (pos + (Utf8.decode s pos).2)).length = (rn s).length := by rw [hrc] at hk; simp at hk; omega
      have hk3 := hk2
      clear hrc hl
      go_wp2
      go_roundw
      case rel => exact ⟨_, k + 1, by go_num, hit2, hbw2, hk2⟩
      case measure => simp only [World.iterPos, hit2, hit]; omega
    · have hnx : ∀ ty, (Instr.next (.pointer (some ⟨w.heap.size, 0, none⟩)) true ty).run Tryd.prog wr = _ := fun ty => Lib.run_next_end_at wr w.heap.size s pos ty hit hp
      have hrc := rest_nil s pos hp
      have hkk : k = (rn s).length := by rw [hrc] at hk; simpa using hk
      go_wp2
      go_ret
      exact ⟨ret_int (by omega), hbw⟩

set_option maxHeartbeats 1000000 in
set_option maxRecDepth 100000 in
theorem width_any (s : ByteArray) (w : World) (hs : s.size ≤ 4611686018427387903) :
    Calls Tryd.prog 17 #[.string s] w fun e w' => e = .returned (.int .i64 (sumW (rn s))) ∧ Below w.heap.size w w' := by
  go_enter Tryd.func17, Tryd.ntmps17
  go_wp2
  go_loopw [3] (fun n wr => ∃ (pos : Nat) (k : Int), n = .int .i64 k ∧ wr.heap[w.heap.size]? = some (.stringIter s pos) ∧ Below w.heap.size w wr ∧ 0 ≤ k ∧ k + sumW ((rest s pos).map (·.1)) = sumW (rn s)) (fun _ wr => s.size - wr.iterPos w.heap.size)
  case atStart =>
    refine ⟨0, 0, rfl, World.iter_heap w s 0, (Below.refl _ w).alloc (Nat.le_refl _) _, by omega, by simp [rn]⟩
  case round =>
    obtain ⟨pos, k, rfl, hit, hbw, hk0, hk⟩ := hrel
    have hr := rn_length s
    have hr2 := sumW_range (rn s)
    have hsz : w.heap.size < wr.heap.size := (Array.getElem?_eq_some_iff.1 hit).1
    by_cases hp : pos < s.size
    · have hnx : ∀ ty, (Instr.next (.pointer (some ⟨w.heap.size, 0, none⟩)) true ty).run Tryd.prog wr = _ := fun ty => Lib.run_next_any_at wr w.heap.size s pos ty hit hp
      have hwd := wpos s pos hp
      have hit2 := Lib.iterAt_heap wr w.heap.size s pos (pos + (Utf8.decode s pos).2) hit
      have hbw2 := Lib.below_iterAt hbw (k := w.heap.size) (by omega) s (pos + (Utf8.decode s pos).2)
      have hrc := rest_cons s pos hp
      have hk2 : k + wideV (Utf8.decode s pos).1 + sumW ((rest s (pos + (Utf8.decode s pos).2)).map (·.1)) = sumW (rn s) := by rw [hrc] at hk; simp [sumW] at hk; simp [sumW]; omega
      have hk3 := sumW_range ((rest s (pos + (Utf8.decode s pos).2)).map (·.1))
      have hw2 := wideV_range (Utf8.decode s pos).1
      have hkb : 0 ≤ k + wideV (Utf8.decode s pos).1 := by omega
      have hkc : k + wideV (Utf8.decode s pos).1 ≤ 9223372036854775807 := by omega
      have HK := Lib.hid hk2
      clear hrc hk hk2 hr2 hk3 hr
      go_wp2_with (go_at_call 40; refine (wide_any _ _).mono ?_; rintro e w' ⟨rfl, rfl⟩)
      go_roundw
      case rel => exact ⟨_, _, rfl, hit2, hbw2, hkb, HK.out⟩
      case measure => simp only [World.iterPos, hit2, hit]; omega
    · have hnx : ∀ ty, (Instr.next (.pointer (some ⟨w.heap.size, 0, none⟩)) true ty).run Tryd.prog wr = _ := fun ty => Lib.run_next_end_at wr w.heap.size s pos ty hit hp
      have hrc := rest_nil s pos hp
      have hkk : k = sumW (rn s) := by rw [hrc] at hk; simpa [sumW] using hk
      go_wp2
      go_ret
      exact ⟨ret_int hkk, hbw⟩
end Go.Proofs.YtilomlohjhhbnaaDoor
