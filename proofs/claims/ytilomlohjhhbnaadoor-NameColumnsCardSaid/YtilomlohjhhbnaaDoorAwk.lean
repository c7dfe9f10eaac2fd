/- The chapter's examples: lombardlaw04.awake answers true. Condition: the library's variables are as they are laid. -/
import Derived.Test.YtilomlohjhhbnaaDoorShort
import Derived.Test.YtilomlohjhhbnaaDoorFit
import Derived.Test.YtilomlohjhhbnaaDoorChk
set_option linter.unusedVariables false
set_option linter.unusedSimpArgs false
namespace Go.Proofs.YtilomlohjhhbnaaDoor
open Go.Proofs Go.RowKit

def bankB : ByteArray := ⟨#[66, 97, 110, 107, 32, 38, 32, 67, 111]⟩
def muellerB : ByteArray := ⟨#[77, 195, 188, 108, 108, 101, 114, 45, 195, 150, 108]⟩
def abcB : ByteArray := ⟨#[97, 98, 99, 100, 101, 102]⟩
def zhongB : ByteArray := ⟨#[228, 184, 173]⟩
set_option maxRecDepth 100000 in
theorem bank_check : chkS bankB = (9, 0) := by decide +kernel
set_option maxRecDepth 100000 in
theorem mueller_plain : plainS muellerB = ⟨#[77, 85, 69, 76, 76, 69, 82, 32, 79, 69, 76]⟩ := by decide +kernel
set_option maxRecDepth 100000 in
theorem mueller_short : shortS muellerB = ⟨#[77, 79]⟩ := by decide +kernel
set_option maxRecDepth 100000 in
theorem abc_fit : fitS abcB 4 = ⟨#[97, 98, 99, 46]⟩ := by decide +kernel
set_option maxRecDepth 100000 in
theorem zhong_width : sumW (rn zhongB) = 2 := by decide +kernel

set_option maxHeartbeats 4000000 in
set_option maxRecDepth 1000000 in
theorem awake_any (w : World) (hE : Env w) : Calls Tryd.prog 11 #[] w fun e w' => e = .returned (.bool true) ∧ Below w.heap.size w w' := by
  have h1 : ∀ W : World, Calls Tryd.prog 9 #[.string bankB] W fun e w' => e = .returned (.tuple #[.int .i64 9, .int .i64 0]) ∧ Below W.heap.size W w' := fun W => by
    have := check_any bankB W; rw [bank_check] at this; exact this
  have h2 : ∀ W : World, Env W → Calls Tryd.prog 12 #[.string muellerB] W fun e w' => e = .returned (.string ⟨#[77, 85, 69, 76, 76, 69, 82, 32, 79, 69, 76]⟩) ∧ Below W.heap.size W w' := fun W hE => by
    have := plain_walk muellerB W (by decide) hE; rw [mueller_plain] at this; exact this
  have h3 : ∀ W : World, Env W → Calls Tryd.prog 14 #[.string muellerB] W fun e w' => e = .returned (.string ⟨#[77, 79]⟩) ∧ Below W.heap.size W w' := fun W hE => by
    have := short_walk muellerB W (by decide) hE; rw [mueller_short] at this; exact this
  have h4 : ∀ W : World, Calls Tryd.prog 16 #[.string abcB, .int .i64 4] W fun e w' => e = .returned (.string ⟨#[97, 98, 99, 46]⟩) ∧ Below W.heap.size W w' := fun W => by
    have := fit_any abcB 4 W (by decide); rw [abc_fit] at this; exact this
  have h5 : ∀ W : World, Calls Tryd.prog 17 #[.string zhongB] W fun e w' => e = .returned (.int .i64 2) ∧ Below W.heap.size W w' := fun W => by
    have := width_any zhongB W (by decide); rw [zhong_width] at this; exact this
  unfold bankB at h1
  unfold muellerB at h2 h3
  unfold abcB at h4
  unfold zhongB at h5
  have H1 := Lib.hid h1
  have H2 := Lib.hid h2
  have H3 := Lib.hid h3
  have H4 := Lib.hid h4
  have H5 := Lib.hid h5
  clear h1 h2 h3 h4 h5
  go_enter Tryd.func11, Tryd.ntmps11
  go_wp2_with (go_at_call 9; refine (H1.out _).mono ?_; rintro e w1 ⟨rfl, b1⟩)
  have hE1 := hE.below b1
  go_wp2_with (go_at_call 12; refine (H2.out _ hE1).mono ?_; rintro e w2 ⟨rfl, b2⟩)
  have b2' := b1.trans (b2.mono b1.size)
  have hE2 := hE.below b2'
  clear b1 b2 hE1
  go_wp2_with (go_at_call 14; refine (H3.out _ hE2).mono ?_; rintro e w3 ⟨rfl, b3⟩)
  have b3' := b2'.trans (b3.mono b2'.size)
  clear b2' b3 hE2
  go_wp2_with (go_at_call 16; refine (H4.out _).mono ?_; rintro e w4 ⟨rfl, b4⟩)
  have b4' := b3'.trans (b4.mono b3'.size)
  clear b3' b4
  go_wp2_with (go_at_call 17; refine (H5.out _).mono ?_; rintro e w5 ⟨rfl, b5⟩)
  have b5' := b4'.trans (b5.mono b4'.size)
  clear b4' b5
  go_wp2
  go_ret
  exact ⟨rfl, b5'⟩
end Go.Proofs.YtilomlohjhhbnaaDoor
