/- lombardlaw04.NamePlain answers true at every text, where the library's variables are as they are laid. -/
import Derived.Test.YtilomlohjhhbnaaDoorRefF
import Derived.Test.YtilomlohjhhbnaaDoorAwk
set_option linter.unusedVariables false
set_option linter.unusedSimpArgs false
namespace Go.Proofs.YtilomlohjhhbnaaDoor
open Go.Proofs Go.RowKit Go.Proofs.YtilomlohjhhbnaaDoorW.PrintWords R

set_option maxHeartbeats 4000000 in
set_option maxRecDepth 1000000 in
theorem plainlaw_walk (s : ByteArray) (w : World) (hE : Env w) : Calls Tryd.prog 4 #[.string s] w fun e w' => e = .returned (.bool true) ∧ Below w.heap.size w w' := by
  have HA := Lib.hid awake_any
  by_cases hs : s.size ≤ 600
  · have h1 := fun W => plain_walk s W (by omega)
    have h2 := fun W => lombardref04_Plain.calls (6 * s.size + 20) s (plainS s) W (plain_val s (by omega) _ (Nat.le_refl _))
    have h3 := fun W => short_walk s W (by omega)
    have h4 := fun W => lombardref04_Short.calls (16 * s.size + 20) s (shortS s) W (short_val s (by omega) _ (Nat.le_refl _))
    obtain ⟨F, hF⟩ : ∃ x, plainS s = x := ⟨_, rfl⟩
    obtain ⟨G, hG⟩ : ∃ x, shortS s = x := ⟨_, rfl⟩
    simp only [hF, hG] at h1 h2 h3 h4
    have H1 := Lib.hid h1
    have H2 := Lib.hid h2
    have H3 := Lib.hid h3
    have H4 := Lib.hid h4
    clear h1 h2 h3 h4 hF hG
    have B := Below.refl w.heap.size w
    go_enter Tryd.func4, Tryd.ntmps4
    go_wp2_with first | (go_at_call 12; (with_reducible refine (H1.out _ (hE.below B)).mono ?_); rintro e w' ⟨rfl, b'⟩; replace B := B.trans (b'.mono B.size); clear b') | (go_at_call 13; (with_reducible refine (H2.out _).mono ?_); rintro e w' ⟨rfl, b'⟩; replace B := B.trans (b'.mono B.size); clear b') | (go_at_call 14; (with_reducible refine (H3.out _ (hE.below B)).mono ?_); rintro e w' ⟨rfl, b'⟩; replace B := B.trans (b'.mono B.size); clear b') | (go_at_call 15; (with_reducible refine (H4.out _).mono ?_); rintro e w' ⟨rfl, b'⟩; replace B := B.trans (b'.mono B.size); clear b') | (go_at_call 11; (with_reducible refine (HA.out _ (hE.below B)).mono ?_); rintro e w' ⟨rfl, b'⟩; replace B := B.trans (b'.mono B.size); clear b')
    go_ret
    exact ⟨rfl, B⟩
  · go_enter Tryd.func4, Tryd.ntmps4
    go_wp2_with (go_at_call 11; refine (HA.out _ hE).mono ?_; rintro e w6 ⟨rfl, b6⟩)
    go_ret
    exact ⟨rfl, b6⟩
end Go.Proofs.YtilomlohjhhbnaaDoor
