/- lombardlaw04.NameFolds answers true at every two texts, where the library's variables are as they are laid. -/
import Derived.Test.YtilomlohjhhbnaaDoorRefC
import Derived.Test.YtilomlohjhhbnaaDoorAwk
set_option linter.unusedVariables false
set_option linter.unusedSimpArgs false
namespace Go.Proofs.YtilomlohjhhbnaaDoor
open Go.Proofs Go.RowKit Go.Proofs.YtilomlohjhhbnaaDoorW.PrintWords R

set_option maxHeartbeats 4000000 in
set_option maxRecDepth 1000000 in
theorem folds_walk (s t : ByteArray) (w : World) (hE : Env w) : Calls Tryd.prog 6 #[.string s, .string t] w fun e w' => e = .returned (.bool true) ∧ Below w.heap.size w w' := by
  have HA := Lib.hid awake_any
  by_cases hs : s.size ≤ 600
  · by_cases ht : t.size ≤ 600
    · have h1 := fun W => fold_any s W (by omega)
      have h2 := fun W => lombardref04_Fold.calls (s.size + 6) s (foldS s) W (fold_ref s (by omega))
      have h3 := fun W => same_any s t W (by omega) (by omega)
      have h4 := fun W => lombardref04_Fold.calls (t.size + 6) t (foldS t) W (fold_ref t (by omega))
      obtain ⟨F, hF⟩ : ∃ x, foldS s = x := ⟨_, rfl⟩
      obtain ⟨G, hG⟩ : ∃ x, foldS t = x := ⟨_, rfl⟩
      simp only [hF, hG] at h1 h2 h3 h4
      have H1 := Lib.hid h1
      have H2 := Lib.hid h2
      have H3 := Lib.hid h3
      have H4 := Lib.hid h4
      clear h1 h2 h3 h4 hF hG
      have B := Below.refl w.heap.size w
      go_enter Tryd.func6, Tryd.ntmps6
      go_wp2_with first | (go_at_call 18; (with_reducible refine (H1.out _).mono ?_); rintro e w' ⟨rfl, b'⟩; replace B := B.trans (b'.mono B.size); clear b') | (go_at_call 19; (with_reducible refine (H2.out _).mono ?_); rintro e w' ⟨rfl, b'⟩; replace B := B.trans (b'.mono B.size); clear b') | (go_at_call 20; (with_reducible refine (H3.out _).mono ?_); rintro e w' ⟨rfl, b'⟩; replace B := B.trans (b'.mono B.size); clear b') | (go_at_call 19; (with_reducible refine (H4.out _).mono ?_); rintro e w' ⟨rfl, b'⟩; replace B := B.trans (b'.mono B.size); clear b') | (go_at_call 11; (with_reducible refine (HA.out _ (hE.below B)).mono ?_); rintro e w' ⟨rfl, b'⟩; replace B := B.trans (b'.mono B.size); clear b')
      go_ret
      exact ⟨rfl, B⟩
    · go_enter Tryd.func6, Tryd.ntmps6
      go_wp2_with (go_at_call 11; refine (HA.out _ hE).mono ?_; rintro e w6 ⟨rfl, b6⟩)
      go_ret
      exact ⟨rfl, b6⟩
  · go_enter Tryd.func6, Tryd.ntmps6
    go_wp2_with (go_at_call 11; refine (HA.out _ hE).mono ?_; rintro e w6 ⟨rfl, b6⟩)
    go_ret
    exact ⟨rfl, b6⟩
end Go.Proofs.YtilomlohjhhbnaaDoor
