/- lombardlaw04.NameOnce answers true at every two texts, where the library's variables are as they are laid. -/
import Derived.Test.YtilomlohjhhbnaaDoorUtf
import Derived.Test.YtilomlohjhhbnaaDoorAwk
set_option linter.unusedVariables false
set_option linter.unusedSimpArgs false
namespace Go.Proofs.YtilomlohjhhbnaaDoor
open Go.Proofs Go.RowKit

theorem toList_ne {a b : ByteArray} (h : a ≠ b) : (a.toList == b.toList) = false := by
  rw [beq_eq_false_iff_ne]
  intro e
  rw [ByteArray.toList_eq, ByteArray.toList_eq] at e
  exact h (ByteArray.ext (Array.toList_inj.1 e))

set_option maxHeartbeats 4000000 in
set_option maxRecDepth 1000000 in
theorem once_walk (s t : ByteArray) (w : World) (hE : Env w) : Calls Tryd.prog 7 #[.string s, .string t] w fun e w' => e = .returned (.bool true) ∧ Below w.heap.size w w' := by
  have HA := Lib.hid awake_any
  by_cases hs : s.size ≤ 1000
  · by_cases ht : t.size ≤ 1000
    · have hfs := foldS_size s
      have h1 := fun W => fold_any s W (by omega)
      have h2 := fun W => fold_any (foldS s) W (by omega)
      have h3 := fun W => count_any (foldS s) W (by omega)
      have h4 := fun W => count_any s W (by omega)
      have h5 := fun W => same_any s (foldS s) W (by omega) (by omega)
      have h6 := fun W => same_any s t W (by omega) (by omega)
      have h7 := fun W hE => plain_walk s W (by omega) hE
      have h8 := fun W hE => plain_walk t W (by omega) hE
      have e3 : (rn (foldS s)).length = (rn s).length := by rw [rn_fold]; simp
      simp only [fold_fold, e3] at h2 h3 h5
      clear e3
      by_cases hst : foldS s = foldS t
      · have hpl : plainS t = plainS s := by unfold plainS; rw [hst]
        simp only [hpl, ← hst] at h6 h8
        obtain ⟨F, hF⟩ : ∃ x, foldS s = x := ⟨_, rfl⟩
        simp only [hF] at h1 h2 h3 h5 h6
        have H1 := Lib.hid h1
        have H2 := Lib.hid h2
        have H3 := Lib.hid h3
        have H4 := Lib.hid h4
        have H5 := Lib.hid h5
        have H6 := Lib.hid h6
        have H7 := Lib.hid h7
        have H8 := Lib.hid h8
        clear h1 h2 h3 h4 h5 h6 h7 h8 hF hfs hpl hst
        have B := Below.refl w.heap.size w
        go_enter Tryd.func7, Tryd.ntmps7
        go_wp2_with first | (go_at_call 18; (with_reducible refine (H1.out _).mono ?_); rintro e w' ⟨rfl, b'⟩; replace B := B.trans (b'.mono B.size); clear b') | (go_at_call 18; (with_reducible refine (H2.out _).mono ?_); rintro e w' ⟨rfl, b'⟩; replace B := B.trans (b'.mono B.size); clear b') | (go_at_call 21; (with_reducible refine (H3.out _).mono ?_); rintro e w' ⟨rfl, b'⟩; replace B := B.trans (b'.mono B.size); clear b') | (go_at_call 21; (with_reducible refine (H4.out _).mono ?_); rintro e w' ⟨rfl, b'⟩; replace B := B.trans (b'.mono B.size); clear b') | (go_at_call 20; (with_reducible refine (H5.out _).mono ?_); rintro e w' ⟨rfl, b'⟩; replace B := B.trans (b'.mono B.size); clear b') | (go_at_call 20; (with_reducible refine (H6.out _).mono ?_); rintro e w' ⟨rfl, b'⟩; replace B := B.trans (b'.mono B.size); clear b') | (go_at_call 12; (with_reducible refine (H7.out _ (hE.below B)).mono ?_); rintro e w' ⟨rfl, b'⟩; replace B := B.trans (b'.mono B.size); clear b') | (go_at_call 12; (with_reducible refine (H8.out _ (hE.below B)).mono ?_); rintro e w' ⟨rfl, b'⟩; replace B := B.trans (b'.mono B.size); clear b') | (go_at_call 11; (with_reducible refine (HA.out _ (hE.below B)).mono ?_); rintro e w' ⟨rfl, b'⟩; replace B := B.trans (b'.mono B.size); clear b')
        go_ret
        exact ⟨rfl, B⟩
      · have hne := toList_ne hst
        simp only [hne] at h6
        obtain ⟨F, hF⟩ : ∃ x, foldS s = x := ⟨_, rfl⟩
        simp only [hF] at h1 h2 h3 h5
        have H1 := Lib.hid h1
        have H2 := Lib.hid h2
        have H3 := Lib.hid h3
        have H4 := Lib.hid h4
        have H5 := Lib.hid h5
        have H6 := Lib.hid h6
        have H7 := Lib.hid h7
        have H8 := Lib.hid h8
        clear h1 h2 h3 h4 h5 h6 h7 h8 hF hfs hne hst
        have B := Below.refl w.heap.size w
        go_enter Tryd.func7, Tryd.ntmps7
        go_wp2_with first | (go_at_call 18; (with_reducible refine (H1.out _).mono ?_); rintro e w' ⟨rfl, b'⟩; replace B := B.trans (b'.mono B.size); clear b') | (go_at_call 18; (with_reducible refine (H2.out _).mono ?_); rintro e w' ⟨rfl, b'⟩; replace B := B.trans (b'.mono B.size); clear b') | (go_at_call 21; (with_reducible refine (H3.out _).mono ?_); rintro e w' ⟨rfl, b'⟩; replace B := B.trans (b'.mono B.size); clear b') | (go_at_call 21; (with_reducible refine (H4.out _).mono ?_); rintro e w' ⟨rfl, b'⟩; replace B := B.trans (b'.mono B.size); clear b') | (go_at_call 20; (with_reducible refine (H5.out _).mono ?_); rintro e w' ⟨rfl, b'⟩; replace B := B.trans (b'.mono B.size); clear b') | (go_at_call 20; (with_reducible refine (H6.out _).mono ?_); rintro e w' ⟨rfl, b'⟩; replace B := B.trans (b'.mono B.size); clear b') | (go_at_call 12; (with_reducible refine (H7.out _ (hE.below B)).mono ?_); rintro e w' ⟨rfl, b'⟩; replace B := B.trans (b'.mono B.size); clear b') | (go_at_call 12; (with_reducible refine (H8.out _ (hE.below B)).mono ?_); rintro e w' ⟨rfl, b'⟩; replace B := B.trans (b'.mono B.size); clear b') | (go_at_call 11; (with_reducible refine (HA.out _ (hE.below B)).mono ?_); rintro e w' ⟨rfl, b'⟩; replace B := B.trans (b'.mono B.size); clear b')
        go_ret
        exact ⟨rfl, B⟩
    · have B := Below.refl w.heap.size w
      go_enter Tryd.func7, Tryd.ntmps7
      go_wp2_with (go_at_call 11; (with_reducible refine (HA.out _ (hE.below B)).mono ?_); rintro e w' ⟨rfl, b'⟩; replace B := B.trans (b'.mono B.size); clear b')
      go_ret
      exact ⟨rfl, B⟩
  · have B := Below.refl w.heap.size w
    go_enter Tryd.func7, Tryd.ntmps7
    go_wp2_with (go_at_call 11; (with_reducible refine (HA.out _ (hE.below B)).mono ?_); rintro e w' ⟨rfl, b'⟩; replace B := B.trans (b'.mono B.size); clear b')
    go_ret
    exact ⟨rfl, B⟩
end Go.Proofs.YtilomlohjhhbnaaDoor
