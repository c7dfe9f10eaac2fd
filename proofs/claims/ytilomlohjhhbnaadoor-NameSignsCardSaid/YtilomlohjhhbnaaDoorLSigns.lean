/- lombardlaw04.NameSigns answers true at every text, where the library's variables are as they are laid. -/
import Derived.Test.YtilomlohjhhbnaaDoorRefG
import Derived.Test.YtilomlohjhhbnaaDoorAwk
set_option linter.unusedVariables false
set_option linter.unusedSimpArgs false
namespace Go.Proofs.YtilomlohjhhbnaaDoor
open Go.Proofs Go.RowKit Go.Proofs.YtilomlohjhhbnaaDoorW.PrintWords R

theorem len34 (A : Option Addr) (n c : Nat) (ty : TypeId) (w : World) : (Builtin.len_ #[34] ty #[.slice A n c]).run Tryd.prog w = .ok (goInt n) w := run_len_slice w 34 ty A n c (by kernel_rfl)
theorem len37 (A : Option Addr) (n c : Nat) (ty : TypeId) (w : World) : (Builtin.len_ #[37] ty #[.slice A n c]).run Tryd.prog w = .ok (goInt n) w := run_len_slice w 37 ty A n c (by kernel_rfl)
attribute [local go_sem] len34 len37
theorem runes_R (s : ByteArray) (w : World) (hs : s.size ≤ 1099511627776) :
    Calls Tryd.prog 22 #[.string s] w fun e w' => ∃ v, e = .returned (.tuple #[v, .bool (okL s (rest s 0))]) ∧ Kd.R (Kd.int .i32) 21 w' w.heap.size (fun _ => True) v (rn s) ∧ Below w.heap.size w w' := by
  refine (runes_any s w hs).mono ?_
  rintro e w' ⟨v, he, ho, hb⟩
  rw [good_ok s s.size 0 (by omega)] at he
  exact ⟨v, he, Kd.R_of_own ho (fun _ _ => trivial), hb⟩

set_option maxHeartbeats 4000000 in
set_option maxRecDepth 1000000 in
theorem signslaw_walk (s : ByteArray) (w : World) (hE : Env w) : Calls Tryd.prog 8 #[.string s] w fun e w' => e = .returned (.bool true) ∧ Below w.heap.size w w' := by
  have HA := Lib.hid awake_any
  by_cases hs : s.size ≤ 2000
  · have h1 := fun W => runes_R s W (by omega)
    have h2 := fun W => lombardref04_Signs.calls (s.size + 6) s (rn s) (places (rest s 0)) (okL s (rest s 0)) W (signs_val s (by omega) _ (Nat.le_refl _))
    have h3 := fun W => count_any s W (by omega)
    obtain ⟨G, hG⟩ : ∃ x, okL s (rest s 0) = x := ⟨_, rfl⟩
    obtain ⟨L, hL⟩ : ∃ x, rn s = x := ⟨_, rfl⟩
    obtain ⟨P, hP⟩ : ∃ x, places (rest s 0) = x := ⟨_, rfl⟩
    simp only [hG, hL, hP] at h1 h2 h3
    have HV : ∀ c ∈ L, 0 ≤ c ∧ c ≤ 1114111 := by rw [← hL]; exact fun c hc => ⟨(rn_vld s c hc).1, (rn_vld s c hc).2.1⟩
    replace HV := Lib.hid HV
    have hl : L.length ≤ 2000 := by have := rn_length s; rw [← hL]; omega
    have H1 := Lib.hid h1
    have H2 := Lib.hid h2
    have H3 := Lib.hid h3
    clear h1 h2 h3 hG hL hP
    have B := Below.refl w.heap.size w
    go_enter Tryd.func8, Tryd.ntmps8
    go_wp2_with (go_at_call 22; (with_reducible refine (H1.out _).mono ?_); rintro e w1 ⟨v, rfl, r1, b1⟩)
    go_wp2_with (go_at_call 23; (with_reducible refine (H2.out _).mono ?_); rintro e w2 ⟨u, u2, rfl, r2, _, b2⟩)
    have B2 := b1.trans (b2.mono b1.size)
    have r1' := Kd.R_below r1 b2
    obtain ⟨A1, c1, rfl⟩ := Kd.R_slice r1'
    obtain ⟨A2, c2, rfl⟩ := Kd.R_slice r2
    have B3 := B2
    go_wp2
    simp only [len34]
    go_wp2_with (go_at_call 21; (with_reducible refine (H3.out _).mono ?_); rintro e w3 ⟨rfl, b3⟩)
    have B4 := B2.trans (b3.mono B2.size)
    have r1b := Kd.R_below r1' b3
    have r2b := Kd.R_below r2 b3
    clear r1 r1' r2 b1 b2 B2 B3 b3 B
    go_loopw [8] (fun u wr => ∃ k : Nat, u = .int .i64 k ∧ k ≤ L.length ∧ (Kd.int IntKind.i32).R 21 wr w.heap.size (fun x => True) (.slice A1 L.length c1) L ∧ (Kd.int IntKind.i64).R 3 wr w1.heap.size (fun k_ => some k_ ≠ u2.ownBlock) (.slice A2 L.length c2) L ∧ Below w.heap.size w wr) (fun u _ => L.length - (intOf u).toNat)
    case atStart => exact ⟨0, rfl, by omega, r1b, r2b, B4⟩
    case round =>
      clear r1b r2b B4
      obtain ⟨k, rfl, hk, R1, R2, B⟩ := hrel
      by_cases hlt : k < L.length
      · obtain ⟨ad1, e1, hx1⟩ := Kd.at_int (Kd.R_reads' R1).2.2 k (by omega) (by omega)
        obtain ⟨ad2, e2, hx2⟩ := Kd.at_int (Kd.R_reads' R2).2.2 k (by omega) (by omega)
        cases e1
        cases e2
        have hv := HV.out (rd L (k : Int)) (by rw [rd_at]; simp [List.getD_eq_getElem?_getD, hlt])
        obtain ⟨c, hc⟩ : ∃ c, rd L (k : Int) = c := ⟨_, rfl⟩
        rw [hc] at hv hx1 hx2
        rw [Int.toNat_natCast] at hx1 hx2
        clear hc
        have hv0 := hv.1
        have hv1 := hv.2
        clear hv
        go_wp2
        go_quiet (fail)
        have R1' := Kd.R_drewN R1 nq
        have R2' := Kd.R_drewN R2 nq
        have B' : Below w.heap.size w (wr.drewN nq) := pw_below_drewN B nq
        clear hx1 hx2 R1 R2 B
        go_wp2
        go_roundw
        case rel => exact ⟨k + 1, by go_num, by omega, R1', R2', B'⟩
        case measure => simp [intOf]; omega
      · have hkk : k = L.length := by omega
        go_wp2_with (go_at_call 11; (with_reducible refine (HA.out _ (hE.below B)).mono ?_); rintro e w' ⟨rfl, b'⟩; replace B := B.trans (b'.mono B.size); clear b')
        go_ret
        exact ⟨rfl, B⟩
  · go_enter Tryd.func8, Tryd.ntmps8
    go_wp2_with (go_at_call 11; refine (HA.out _ hE).mono ?_; rintro e w6 ⟨rfl, b6⟩)
    go_ret
    exact ⟨rfl, b6⟩
end Go.Proofs.YtilomlohjhhbnaaDoor
