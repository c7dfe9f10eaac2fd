/- What the small functions of package name answer of one sign: is it a letter, a digit, a joint; how many columns it takes; its small form. No condition. -/
import Derived.Test.YtilomlohjhhbnaaDoorProg
import Derived.WalkKit
import Derived.WalkSpells
import Derived.WalkLawsBesides
import Derived.KernelRfl
import Derived.BigCall
import Derived.Laws.BitsLemmas
set_option linter.unusedVariables false
set_option linter.unusedSimpArgs false
namespace Go.Proofs.YtilomlohjhhbnaaDoor
open Go.Proofs Go.RowKit

/-- A letter of names. -/
def letterB (c : Int) : Bool := decide (97 ≤ c ∧ c ≤ 122 ∨ 65 ≤ c ∧ c ≤ 90 ∨ 192 ≤ c ∧ c ≤ 383 ∧ c ≠ 215 ∧ c ≠ 247)
def digitB (c : Int) : Bool := decide (48 ≤ c ∧ c ≤ 57)
def jointB (c : Int) : Bool := decide (c = 32 ∨ c = 45 ∨ c = 46 ∨ c = 38 ∨ c = 39)
def wideV (c : Int) : Int :=
  if c < 32 ∨ (127 ≤ c ∧ c < 160) ∨ (768 ≤ c ∧ c < 880) then 0
  else if (4352 ≤ c ∧ c < 4448) ∨ (11904 ≤ c ∧ c < 42192) ∨ (44032 ≤ c ∧ c < 55204) ∨ (63744 ≤ c ∧ c < 64256) ∨ (65281 ≤ c ∧ c < 65377) ∨ (127744 ≤ c ∧ c < 128592) then 2 else 1
def lowV (c : Int) : Int :=
  if (65 ≤ c ∧ c ≤ 90) ∨ (192 ≤ c ∧ c ≤ 222 ∧ c ≠ 215) then c + 32
  else if c = 376 then 255
  else if (256 ≤ c ∧ c ≤ 311) ∨ (330 ≤ c ∧ c ≤ 375) then c / 2 * 2 + 1
  else if (313 ≤ c ∧ c ≤ 328) ∨ (377 ≤ c ∧ c ≤ 382) then c + c % 2
  else c

theorem ret_bool {a b : Bool} (h : a = b) : Ending.returned (.bool a) = .returned (.bool b) := by rw [h]
theorem ret_int {k : IntKind} {a b : Int} (h : a = b) : Ending.returned (.int k a) = .returned (.int k b) := by rw [h]

set_option maxHeartbeats 400000 in
theorem letter_any (c : Int) (w : World) : Calls Tryd.prog 24 #[.int .i32 c] w fun e w' => e = .returned (.bool (letterB c)) ∧ w = w' := by
  go_enter Tryd.func24, Tryd.ntmps24
  go_wp2
  all_goals (go_ret; refine ⟨ret_bool ?_, rfl⟩; unfold letterB; rw [Bool.eq_iff_iff]; simp only [beq_iff_eq, beq_eq_false_iff_ne, ne_eq, decide_eq_true_eq, true_iff, iff_true, false_iff, iff_false, Bool.false_eq_true] at *; omega)
set_option maxHeartbeats 400000 in
theorem digit_any (c : Int) (w : World) : Calls Tryd.prog 25 #[.int .i32 c] w fun e w' => e = .returned (.bool (digitB c)) ∧ w = w' := by
  go_enter Tryd.func25, Tryd.ntmps25
  go_wp2
  all_goals (go_ret; refine ⟨ret_bool ?_, rfl⟩; unfold digitB; rw [Bool.eq_iff_iff]; simp only [decide_eq_true_eq, true_iff, iff_true, false_iff, iff_false, Bool.false_eq_true] at *; omega)
set_option maxHeartbeats 400000 in
theorem joint_any (c : Int) (w : World) : Calls Tryd.prog 26 #[.int .i32 c] w fun e w' => e = .returned (.bool (jointB c)) ∧ w = w' := by
  go_enter Tryd.func26, Tryd.ntmps26
  go_wp2
  all_goals (go_ret; refine ⟨ret_bool ?_, rfl⟩; unfold jointB; rw [Bool.eq_iff_iff]; simp only [beq_iff_eq, beq_eq_false_iff_ne, ne_eq, decide_eq_true_eq, true_iff, iff_true, false_iff, iff_false, Bool.false_eq_true] at *; omega)
set_option maxHeartbeats 800000 in
theorem wide_any (c : Int) (w : World) : Calls Tryd.prog 40 #[.int .i32 c] w fun e w' => e = .returned (.int .i64 (wideV c)) ∧ w = w' := by
  go_enter Tryd.func40, Tryd.ntmps40
  go_wp2
  all_goals (go_ret; refine ⟨ret_int ?_, rfl⟩; unfold wideV; (try simp only [beq_iff_eq, beq_eq_false_iff_ne, ne_eq, decide_eq_true_eq, decide_eq_false_iff_not] at *); repeat' split)
  all_goals first | rfl | (exfalso; omega)

theorem or_one : ∀ n : Fin 512, bits BinOp.or IntKind.i32 (n.val : Int) 1 = (n.val : Int) / 2 * 2 + 1 := by decide +kernel
theorem and_one : ∀ n : Fin 512, bits BinOp.and IntKind.i32 (n.val : Int) 1 = (n.val : Int) % 2 := by decide +kernel
theorem or_one' (c : Int) (h0 : 0 ≤ c) (h1 : c < 512) : bits BinOp.or IntKind.i32 c 1 = c / 2 * 2 + 1 := by
  obtain ⟨n, rfl⟩ := Int.eq_ofNat_of_zero_le h0
  exact or_one ⟨n, by omega⟩
theorem and_one' (c : Int) (h0 : 0 ≤ c) (h1 : c < 512) : bits BinOp.and IntKind.i32 c 1 = c % 2 := by
  obtain ⟨n, rfl⟩ := Int.eq_ofNat_of_zero_le h0
  exact and_one ⟨n, by omega⟩
set_option maxHeartbeats 800000 in
theorem low_any (c : Int) (h0 : 0 ≤ c) (h1 : c ≤ 2000000) (w : World) : Calls Tryd.prog 41 #[.int .i32 c] w fun e w' => e = .returned (.int .i32 (lowV c)) ∧ w = w' := by
  go_enter Tryd.func41, Tryd.ntmps41
  go_wp2
  all_goals go_ret
  all_goals refine ⟨ret_int ?_, rfl⟩
  all_goals unfold lowV
  all_goals try simp only [beq_iff_eq, beq_eq_false_iff_ne, bne_iff_ne, bne_eq_false_iff_eq, ne_eq, decide_eq_true_eq, decide_eq_false_iff_not] at *
  all_goals repeat' split
  all_goals first | omega | (rw [or_one' c (by omega) (by omega)]) | (rw [and_one' c (by omega) (by omega)]; unfold wrap32; omega)
end Go.Proofs.YtilomlohjhhbnaaDoor
