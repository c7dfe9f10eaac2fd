/- lombardlaw04.NameColumns answers true at every text and number of columns, where the library's variables are as they are laid. -/
import Derived.Test.YtilomlohjhhbnaaDoorRefI
import Derived.Test.YtilomlohjhhbnaaDoorAwk
import Derived.Deep.QuietTactic
set_option linter.unusedVariables false
set_option linter.unusedSimpArgs false
namespace Go.Proofs.YtilomlohjhhbnaaDoor
open Go.Proofs Go.RowKit Go.Proofs.YtilomlohjhhbnaaDoorW.PrintWords R

theorem u8_range {n : Int} (h : (Lit.int .u8 n).wf = true) : 0 ≤ n ∧ n ≤ 255 := by
  have e1 : IntKind.u8.min = 0 := rfl
  have e2 : IntKind.u8.max = 255 := rfl
  simp only [Lit.wf, e1, e2, Bool.and_eq_true, decide_eq_true_eq] at h
  exact h
theorem fit_long (s : ByteArray) (W : Int) (h0 : 0 ≤ W) (h1 : W ≤ 4096) (h : sumW (rn s) ≤ W) : s.size ≤ (fitS s W).size ∧ ∀ j, j < s.size → (fitS s W).get! j = s.get! j := by
  rw [fitS_full s W (by omega) h]
  obtain ⟨ha, _⟩ := agr_of s.data.toList (List.replicate (W - sumW (rn s)).toNat 32) s.size (by rw [sz_list]; omega) (fun x hx => .inr (List.eq_of_mem_replicate hx))
  have hS : (⟨s.data.toList.toArray⟩ : ByteArray) = s := by simp
  rw [hS] at ha
  exact ⟨ha.let_, ha.low⟩

theorem fitS_size (s : ByteArray) (W : Int) : (fitS s W).size ≤ s.size + 8193 := by
  unfold fitS
  have hr := sumW_range (rn s)
  split
  · exact Nat.zero_le _
  · split
    · rw [ByteArray.size_append, blanks_size]; omega
    · split
      · exact Nat.zero_le _
      · have e4 : sw (rest s 0) = sumW (rn s) := rfl
        obtain ⟨a1, a2, a3, a4, a5⟩ := fit_go s W s.size 0 0 (by omega) (by omega) (by omega) (by omega)
        have e1 : (⟨#[46]⟩ : ByteArray).size = 1 := rfl
        rw [ByteArray.size_append, ByteArray.size_append, blanks_size, ByteArray.size_extract, e1]
        omega

set_option maxHeartbeats 4000000 in
set_option maxRecDepth 1000000 in
theorem columns_walk (s : ByteArray) (n : Int) (hw8 : (Lit.int .u8 n).wf = true) (w : World) (hE : Env w) : Calls Tryd.prog 5 #[.string s, .int .u8 n] w fun e w' => e = .returned (.bool true) ∧ Below w.heap.size w w' := by
  have HA := Lib.hid awake_any
  obtain ⟨hn0, hn1⟩ := u8_range hw8
  clear hw8
  by_cases hs : s.size ≤ 1000
  · have h1 := fun W => fit_any s n W (by omega)
    have h2 := fun W => width_any (fitS s n) W (by have := fitS_size s n; omega)
    have h3 := fun W => width_any s W (by omega)
    have hfl := fun h => fit_long s n hn0 (by omega) h
    rw [fit_width s n hn0 (by omega)] at h2
    obtain ⟨T, hT⟩ : ∃ x, fitS s n = x := ⟨_, rfl⟩
    obtain ⟨S, hS⟩ : ∃ x, sumW (rn s) = x := ⟨_, rfl⟩
    simp only [hT, hS] at h1 h2 h3 hfl
    have H1 := Lib.hid h1
    have H2 := Lib.hid h2
    have H3 := Lib.hid h3
    have HF := Lib.hid hfl
    clear h1 h2 h3 hfl hT hS
    have B := Below.refl w.heap.size w
    go_enter Tryd.func5, Tryd.ntmps5
    go_wp2_with first | (go_at_call 16; (with_reducible refine (H1.out _).mono ?_); rintro e w' ⟨rfl, b'⟩; replace B := B.trans (b'.mono B.size); clear b') | (go_at_call 17; (with_reducible refine (H2.out _).mono ?_); rintro e w' ⟨rfl, b'⟩; replace B := B.trans (b'.mono B.size); clear b')
    go_loopw [6] (fun u wr => ∃ k : Nat, u = .int .i64 k ∧ k ≤ s.size ∧ Below w.heap.size w wr) (fun u _ => s.size - (intOf u).toNat)
    case atStart => exact ⟨0, rfl, by omega, B⟩
    case round =>
      clear B
      obtain ⟨k, rfl, hk, B⟩ := hrel
      by_cases hlt : k < s.size
      · have hxs : ∀ h : k < s.size, ((s[k]'h).toNat : Int) = bt s k := fun h => by simpa using bt_at s k (by simpa using h)
        by_cases hlt2 : k < T.size
        · have hxt : ∀ h : k < T.size, ((T[k]'h).toNat : Int) = bt T k := fun h => by simpa using bt_at T k (by simpa using h)
          by_cases hab : bt s k = bt T k
          · rw [hab] at hxs
            go_wp2
            go_quiet (fail)
            replace B : Below w.heap.size w (wr.drewN nq) := pw_below_drewN B nq
            go_wp2
            go_roundw
            case rel => exact ⟨k + 1, by go_num, by omega, B⟩
            case measure => simp [intOf]; omega
          · have hSn : n < S := by
              rcases (by omega : n < S ∨ S ≤ n) with h | h
              · exact h
              · exfalso
                apply hab
                rw [bt_get s k hlt, bt_get T k hlt2, (HF.out h).2 k hlt]
            have hab' : (bt s k == bt T k) = false := beq_eq_false_iff_ne.2 hab
            clear hab
            obtain ⟨x, hx⟩ : ∃ x, bt s k = x := ⟨_, rfl⟩
            obtain ⟨y, hy⟩ : ∃ y, bt T k = y := ⟨_, rfl⟩
            rw [hx] at hxs hab'
            rw [hy] at hxt hab'
            clear hx hy
            go_wp2
            go_quiet (fail)
            replace B : Below w.heap.size w (wr.drewN nq) := pw_below_drewN B nq
            go_wp2_with first | (go_at_call 17; (with_reducible refine (H3.out _).mono ?_); rintro e w' ⟨rfl, b'⟩; replace B := B.trans (b'.mono B.size); clear b') | (go_at_call 11; (with_reducible refine (HA.out _ (hE.below B)).mono ?_); rintro e w' ⟨rfl, b'⟩; replace B := B.trans (b'.mono B.size); clear b')
            go_ret
            exact ⟨rfl, B⟩
        · have hSn : n < S := by
            rcases (by omega : n < S ∨ S ≤ n) with h | h
            · exact h
            · have := (HF.out h).1
              omega
          go_wp2
          go_quiet (fail)
          replace B : Below w.heap.size w (wr.drewN nq) := pw_below_drewN B nq
          go_wp2_with first | (go_at_call 17; (with_reducible refine (H3.out _).mono ?_); rintro e w' ⟨rfl, b'⟩; replace B := B.trans (b'.mono B.size); clear b') | (go_at_call 11; (with_reducible refine (HA.out _ (hE.below B)).mono ?_); rintro e w' ⟨rfl, b'⟩; replace B := B.trans (b'.mono B.size); clear b')
          go_ret
          exact ⟨rfl, B⟩
      · have hkk : k = s.size := by omega
        clear hk hlt
        subst hkk
        by_cases hSn : n < S
        · go_wp2
          go_quiet (fail)
          replace B : Below w.heap.size w (wr.drewN nq) := pw_below_drewN B nq
          go_wp2_with first | (go_at_call 17; (with_reducible refine (H3.out _).mono ?_); rintro e w' ⟨rfl, b'⟩; replace B := B.trans (b'.mono B.size); clear b') | (go_at_call 11; (with_reducible refine (HA.out _ (hE.below B)).mono ?_); rintro e w' ⟨rfl, b'⟩; replace B := B.trans (b'.mono B.size); clear b')
          go_ret
          exact ⟨rfl, B⟩
        · go_wp2
          go_quiet (fail)
          replace B : Below w.heap.size w (wr.drewN nq) := pw_below_drewN B nq
          go_wp2_with first | (go_at_call 17; (with_reducible refine (H3.out _).mono ?_); rintro e w' ⟨rfl, b'⟩; replace B := B.trans (b'.mono B.size); clear b') | (go_at_call 11; (with_reducible refine (HA.out _ (hE.below B)).mono ?_); rintro e w' ⟨rfl, b'⟩; replace B := B.trans (b'.mono B.size); clear b')
          go_ret
          exact ⟨rfl, B⟩
  · go_enter Tryd.func5, Tryd.ntmps5
    go_wp2_with (go_at_call 11; refine (HA.out _ hE).mono ?_; rintro e w6 ⟨rfl, b6⟩)
    go_ret
    exact ⟨rfl, b6⟩
end Go.Proofs.YtilomlohjhhbnaaDoor
