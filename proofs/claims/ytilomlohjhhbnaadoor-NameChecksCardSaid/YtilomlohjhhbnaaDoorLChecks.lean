/- lombardlaw04.NameChecks answers true at every text, where the library's variables are as they are laid. -/
import Derived.Test.YtilomlohjhhbnaaDoorRefB
import Derived.Test.YtilomlohjhhbnaaDoorAwk
set_option linter.unusedVariables false
set_option linter.unusedSimpArgs false
namespace Go.Proofs.YtilomlohjhhbnaaDoor
open Go.Proofs Go.RowKit Go.Proofs.YtilomlohjhhbnaaDoorW.PrintWords R

set_option maxHeartbeats 4000000 in
set_option maxRecDepth 1000000 in
theorem checks_walk (s : ByteArray) (w : World) (hE : Env w) : Calls Tryd.prog 3 #[.string s] w fun e w' => e = .returned (.bool true) ∧ Below w.heap.size w w' := by
  have h1 := check_any s
  have h2 := fun W => lombardref04_Check.calls 1000 s (chkS s).1 (chkS s).2 W (check_ref s)
  obtain ⟨⟨A, E⟩, hAE⟩ : ∃ x, chkS s = x := ⟨_, rfl⟩
  rw [hAE] at h1 h2
  have H1 := Lib.hid h1
  have H2 := Lib.hid h2
  clear h1 h2 hAE
  go_enter Tryd.func3, Tryd.ntmps3
  go_wp2_with (go_at_call 9; refine (H1.out _).mono ?_; rintro e w1 ⟨rfl, b1⟩)
  have hE1 := hE.below b1
  go_wp2_with (go_at_call 10; refine (H2.out _).mono ?_; rintro e w2 ⟨rfl, b2⟩)
  have b2' := b1.trans (b2.mono b1.size)
  have hE2 := hE.below b2'
  clear b1 b2 hE1
  go_wp2_with (go_at_call 11; refine (awake_any _ hE2).mono ?_; rintro e w3 ⟨rfl, b3⟩)
  go_ret
  exact ⟨rfl, b2'.trans (b3.mono b2'.size)⟩
end Go.Proofs.YtilomlohjhhbnaaDoor
