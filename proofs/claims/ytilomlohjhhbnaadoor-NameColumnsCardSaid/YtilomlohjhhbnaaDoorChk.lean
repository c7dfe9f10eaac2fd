/- What name.Check answers: where the first fault of a text is, and which. No condition. -/
import Derived.Test.YtilomlohjhhbnaaDoorLeaf
import Derived.Test.YtilomlohjhhbnaaDoorSg
import Derived.Test.YtilomlohjhhbnaaDoorFold
set_option linter.unusedVariables false
set_option linter.unusedSimpArgs false
namespace Go.Proofs.YtilomlohjhhbnaaDoor
open Go.Proofs Go.RowKit

/-- The faults of signs, n ahead of them, the last one before. -/
def chkGo (z : Int) : List (Int × Nat) → Int → Int → Int × Int
  | [], n, last => if n = 0 ∨ last = 32 then (z, 11) else (z, 0)
  | (c, p) :: l, n, last =>
    if n = 40 then (p, 2)
    else if ¬ letterB c ∧ ¬ digitB c ∧ ¬ jointB c then (p, 11)
    else if (n = 0 ∧ ¬ letterB c) ∨ (c = 32 ∧ jointB last ∧ last ≠ 46 ∧ last ≠ 38) then (p, 11)
    else chkGo z l (n + 1) c
def chkS (s : ByteArray) : Int × Int := if s.size > 160 then (0, 2) else chkGo s.size (rest s 0) 0 32

set_option maxHeartbeats 4000000 in
set_option maxRecDepth 1000000 in
theorem check_any (s : ByteArray) (w : World) :
    Calls Tryd.prog 9 #[.string s] w fun e w' => e = .returned (.tuple #[.int .i64 (chkS s).1, .int .i64 (chkS s).2]) ∧ Below w.heap.size w w' := by
  by_cases hs : s.size > 160
  · have h1 : chkS s = (0, 2) := by unfold chkS; rw [if_pos hs]
    rw [h1]
    go_enter Tryd.func9, Tryd.ntmps9
    go_wp2
    go_ret2
    exact ⟨rfl, Below.refl _ _⟩
  have hs2 : s.size ≤ 160 := by omega
  have hck : chkGo s.size (rest s 0) 0 32 = chkS s := by unfold chkS; rw [if_neg hs]
  obtain ⟨⟨A, E⟩, hAE⟩ : ∃ x, chkS s = x := ⟨_, rfl⟩
  rw [hAE] at hck ⊢
  have HC := Lib.hid hck
  clear hck hAE hs
  go_enter Tryd.func9, Tryd.ntmps9
  go_wp2
  go_loopw [4, 5] (fun u v wr => ∃ (pos n : Nat) (last : Int), u = .int .i64 n ∧ v = .int .i32 last ∧ wr.heap[w.heap.size]? = some (.stringIter s pos) ∧ Below w.heap.size w wr ∧ n ≤ pos ∧ chkGo s.size (rest s pos) n last = (A, E)) (fun _ _ wr => s.size - wr.iterPos w.heap.size)
  case atStart => exact ⟨0, 0, 32, rfl, rfl, World.iter_heap w s 0, (Below.refl _ w).alloc (Nat.le_refl _) _, Nat.le_refl _, HC.out⟩
  case round =>
    obtain ⟨pos, n, last, rfl, rfl, hit, hbw, hnp, hgo⟩ := hrel
    have hsz : w.heap.size < wr.heap.size := (Array.getElem?_eq_some_iff.1 hit).1
    by_cases hp : pos < s.size
    · have hnx0 : ∀ ty, (Instr.next (.pointer (some ⟨w.heap.size, 0, none⟩)) true ty).run Tryd.prog wr = _ := fun ty => Lib.run_next_any_at wr w.heap.size s pos ty hit hp
      have hwd := wpos s pos hp
      obtain ⟨c, hc⟩ : ∃ c : Int, ((Utf8.decode s pos).1 : Int) = c := ⟨_, rfl⟩
      obtain ⟨q, hq⟩ : ∃ q : Nat, pos + (Utf8.decode s pos).2 = q := ⟨_, rfl⟩
      have hit2 := Lib.iterAt_heap wr w.heap.size s pos q hit
      have hbw2 := Lib.below_iterAt hbw (k := w.heap.size) (Nat.le_refl _) s q
      rw [rest_cons s pos hp, hc, hq] at hgo
      unfold chkGo at hgo
      have hq1 : pos < q := by omega
      obtain ⟨w2, hw2⟩ : ∃ w2, wr.iterAt w.heap.size s q = w2 := ⟨_, rfl⟩
      have hnx : ∀ ty, (Instr.next (.pointer (some ⟨w.heap.size, 0, none⟩)) true ty).run Tryd.prog wr = .ok (.tuple #[.bool true, .int .i64 pos, .int .i32 c]) w2 := by
        intro ty; rw [hnx0 ty, hc, hq, hw2]
      rw [hw2] at hit2 hbw2
      have hn0 : ((n : Int) = 0) = (n = 0) := by simp
      have HGO := Lib.hid hgo
      clear hnx0 hc hq hwd hw2 hgo hn0
      have hL := letter_any c
      have hD := digit_any c
      have hJ := joint_any c
      have hJl := joint_any last
      obtain ⟨bL, hbL⟩ : ∃ b, letterB c = b := ⟨_, rfl⟩
      obtain ⟨bD, hbD⟩ : ∃ b, digitB c = b := ⟨_, rfl⟩
      obtain ⟨bJ, hbJ⟩ : ∃ b, jointB c = b := ⟨_, rfl⟩
      obtain ⟨bK, hbK⟩ : ∃ b, jointB last = b := ⟨_, rfl⟩
      rw [hbL] at hL
      rw [hbD] at hD
      rw [hbJ] at hJ
      rw [hbK] at hJl
      have HL := Lib.hid hL
      have HD := Lib.hid hD
      have HJ := Lib.hid hJ
      have HJL := Lib.hid hJl
      have HB := Lib.hid (And.intro hbL (And.intro hbD (And.intro hbJ hbK)))
      clear hL hD hJ hJl hbL hbD hbJ hbK
      by_cases n40 : n = 40
      · have k40 : ((n : Int) == 40) = true := beq_iff_eq.2 (by omega)
        obtain ⟨hX1, hX2⟩ : A = (pos : Int) ∧ E = 2 := by
          have h := HGO.out
          obtain ⟨b1, b2, b3, b4⟩ := HB.out
          rw [if_pos (by omega)] at h
          injection h with h1 h2
          exact ⟨h1.symm, h2.symm⟩
        subst hX1; subst hX2
        clear HGO HB
        go_wp2_with first | (go_at_call 24; (with_reducible refine (HL.out _).mono ?_); rintro e w' ⟨rfl, rfl⟩) | (go_at_call 25; (with_reducible refine (HD.out _).mono ?_); rintro e w' ⟨rfl, rfl⟩) | (go_at_call 26; (with_reducible refine (HJ.out _).mono ?_); rintro e w' ⟨rfl, rfl⟩) | (go_at_call 26; (with_reducible refine (HJL.out _).mono ?_); rintro e w' ⟨rfl, rfl⟩)
        go_ret2
        exact ⟨rfl, hbw2⟩
      have k40 : ((n : Int) == 40) = false := beq_eq_false_iff_ne.2 (by omega)
      cases bL with
      | true =>
        have c32 : (c == 32) = false := by
          have h := HB.out.1
          unfold letterB at h
          simp only [decide_eq_true_eq] at h
          exact beq_eq_false_iff_ne.2 (by omega)
        by_cases n0 : n = 0
        · have k0 : ((n : Int) == 0) = true := beq_iff_eq.2 (by omega)
          have HX := Lib.hid (show chkGo s.size (rest s q) ((n : Int) + 1) c = (A, E) by
            have h := HGO.out
            obtain ⟨b1, b2, b3, b4⟩ := HB.out
            rw [if_neg (by omega)] at h
            rw [if_neg (by simp [b1])] at h
            rw [if_neg (by simp only [beq_eq_false_iff_ne, ne_eq] at c32; simp [b1, c32])] at h
            exact h)
          clear HGO HB
          go_wp2_with first | (go_at_call 24; (with_reducible refine (HL.out _).mono ?_); rintro e w' ⟨rfl, rfl⟩) | (go_at_call 25; (with_reducible refine (HD.out _).mono ?_); rintro e w' ⟨rfl, rfl⟩) | (go_at_call 26; (with_reducible refine (HJ.out _).mono ?_); rintro e w' ⟨rfl, rfl⟩) | (go_at_call 26; (with_reducible refine (HJL.out _).mono ?_); rintro e w' ⟨rfl, rfl⟩)
          go_roundw
          case rel => exact ⟨q, n + 1, c, by go_num, rfl, hit2, hbw2, by omega, HX.out⟩
          case measure => simp only [World.iterPos, hit2, hit]; omega
        · have k0 : ((n : Int) == 0) = false := beq_eq_false_iff_ne.2 (by omega)
          have HX := Lib.hid (show chkGo s.size (rest s q) ((n : Int) + 1) c = (A, E) by
            have h := HGO.out
            obtain ⟨b1, b2, b3, b4⟩ := HB.out
            rw [if_neg (by omega)] at h
            rw [if_neg (by simp [b1])] at h
            rw [if_neg (by simp only [beq_eq_false_iff_ne, ne_eq] at c32; simp [b1, c32])] at h
            exact h)
          clear HGO HB
          go_wp2_with first | (go_at_call 24; (with_reducible refine (HL.out _).mono ?_); rintro e w' ⟨rfl, rfl⟩) | (go_at_call 25; (with_reducible refine (HD.out _).mono ?_); rintro e w' ⟨rfl, rfl⟩) | (go_at_call 26; (with_reducible refine (HJ.out _).mono ?_); rintro e w' ⟨rfl, rfl⟩) | (go_at_call 26; (with_reducible refine (HJL.out _).mono ?_); rintro e w' ⟨rfl, rfl⟩)
          go_roundw
          case rel => exact ⟨q, n + 1, c, by go_num, rfl, hit2, hbw2, by omega, HX.out⟩
          case measure => simp only [World.iterPos, hit2, hit]; omega
      | false =>
      by_cases n0 : n = 0
      · have k0 : ((n : Int) == 0) = true := beq_iff_eq.2 (by omega)
        rcases Bool.eq_false_or_eq_true (bD || bJ) with hDJ | hDJ
        · cases bD with
          | true =>
            obtain ⟨hX1, hX2⟩ : A = (pos : Int) ∧ E = 11 := by
              have h := HGO.out
              obtain ⟨b1, b2, b3, b4⟩ := HB.out
              rw [if_neg (by omega)] at h
              rw [if_neg (by simp [b2])] at h
              rw [if_pos (by simp [b1, n0])] at h
              injection h with h1 h2
              exact ⟨h1.symm, h2.symm⟩
            subst hX1; subst hX2
            clear HGO HB
            go_wp2_with first | (go_at_call 24; (with_reducible refine (HL.out _).mono ?_); rintro e w' ⟨rfl, rfl⟩) | (go_at_call 25; (with_reducible refine (HD.out _).mono ?_); rintro e w' ⟨rfl, rfl⟩) | (go_at_call 26; (with_reducible refine (HJ.out _).mono ?_); rintro e w' ⟨rfl, rfl⟩) | (go_at_call 26; (with_reducible refine (HJL.out _).mono ?_); rintro e w' ⟨rfl, rfl⟩)
            go_ret2
            exact ⟨rfl, hbw2⟩
          | false =>
            cases bJ with
            | false => simp at hDJ
            | true =>
              obtain ⟨hX1, hX2⟩ : A = (pos : Int) ∧ E = 11 := by
                have h := HGO.out
                obtain ⟨b1, b2, b3, b4⟩ := HB.out
                rw [if_neg (by omega)] at h
                rw [if_neg (by simp [b3])] at h
                rw [if_pos (by simp [b1, n0])] at h
                injection h with h1 h2
                exact ⟨h1.symm, h2.symm⟩
              subst hX1; subst hX2
              clear HGO HB
              go_wp2_with first | (go_at_call 24; (with_reducible refine (HL.out _).mono ?_); rintro e w' ⟨rfl, rfl⟩) | (go_at_call 25; (with_reducible refine (HD.out _).mono ?_); rintro e w' ⟨rfl, rfl⟩) | (go_at_call 26; (with_reducible refine (HJ.out _).mono ?_); rintro e w' ⟨rfl, rfl⟩) | (go_at_call 26; (with_reducible refine (HJL.out _).mono ?_); rintro e w' ⟨rfl, rfl⟩)
              go_ret2
              exact ⟨rfl, hbw2⟩
        · have hd : bD = false := by cases bD <;> simp_all
          have hj : bJ = false := by cases bJ <;> simp_all
          subst hd; subst hj
          obtain ⟨hX1, hX2⟩ : A = (pos : Int) ∧ E = 11 := by
            have h := HGO.out
            obtain ⟨b1, b2, b3, b4⟩ := HB.out
            rw [if_neg (by omega)] at h
            rw [if_pos (by simp [b1, b2, b3])] at h
            injection h with h1 h2
            exact ⟨h1.symm, h2.symm⟩
          subst hX1; subst hX2
          clear HGO HB
          go_wp2_with first | (go_at_call 24; (with_reducible refine (HL.out _).mono ?_); rintro e w' ⟨rfl, rfl⟩) | (go_at_call 25; (with_reducible refine (HD.out _).mono ?_); rintro e w' ⟨rfl, rfl⟩) | (go_at_call 26; (with_reducible refine (HJ.out _).mono ?_); rintro e w' ⟨rfl, rfl⟩) | (go_at_call 26; (with_reducible refine (HJL.out _).mono ?_); rintro e w' ⟨rfl, rfl⟩)
          go_ret2
          exact ⟨rfl, hbw2⟩
      have k0 : ((n : Int) == 0) = false := beq_eq_false_iff_ne.2 (by omega)
      have n0' : ¬ (n : Int) = 0 := by omega
      cases bD with
      | true =>
        have c32 : (c == 32) = false := by
          have h := HB.out.2.1
          unfold digitB at h
          simp only [decide_eq_true_eq] at h
          exact beq_eq_false_iff_ne.2 (by omega)
        have HX := Lib.hid (show chkGo s.size (rest s q) ((n : Int) + 1) c = (A, E) by
          have h := HGO.out
          obtain ⟨b1, b2, b3, b4⟩ := HB.out
          rw [if_neg (by omega)] at h
          rw [if_neg (by simp [b2])] at h
          rw [if_neg (by simp only [beq_eq_false_iff_ne, ne_eq] at c32; simp [n0, n0', c32])] at h
          exact h)
        clear HGO HB
        go_wp2_with first | (go_at_call 24; (with_reducible refine (HL.out _).mono ?_); rintro e w' ⟨rfl, rfl⟩) | (go_at_call 25; (with_reducible refine (HD.out _).mono ?_); rintro e w' ⟨rfl, rfl⟩) | (go_at_call 26; (with_reducible refine (HJ.out _).mono ?_); rintro e w' ⟨rfl, rfl⟩) | (go_at_call 26; (with_reducible refine (HJL.out _).mono ?_); rintro e w' ⟨rfl, rfl⟩)
        go_roundw
        case rel => exact ⟨q, n + 1, c, by go_num, rfl, hit2, hbw2, by omega, HX.out⟩
        case measure => simp only [World.iterPos, hit2, hit]; omega
      | false =>
      cases bJ with
      | false =>
        obtain ⟨hX1, hX2⟩ : A = (pos : Int) ∧ E = 11 := by
          have h := HGO.out
          obtain ⟨b1, b2, b3, b4⟩ := HB.out
          rw [if_neg (by omega)] at h
          rw [if_pos (by simp [b1, b2, b3])] at h
          injection h with h1 h2
          exact ⟨h1.symm, h2.symm⟩
        subst hX1; subst hX2
        clear HGO HB
        go_wp2_with first | (go_at_call 24; (with_reducible refine (HL.out _).mono ?_); rintro e w' ⟨rfl, rfl⟩) | (go_at_call 25; (with_reducible refine (HD.out _).mono ?_); rintro e w' ⟨rfl, rfl⟩) | (go_at_call 26; (with_reducible refine (HJ.out _).mono ?_); rintro e w' ⟨rfl, rfl⟩) | (go_at_call 26; (with_reducible refine (HJL.out _).mono ?_); rintro e w' ⟨rfl, rfl⟩)
        go_ret2
        exact ⟨rfl, hbw2⟩
      | true =>
      rcases Bool.eq_false_or_eq_true (c == 32) with c32 | c32
      · have c32' := Lib.hid (show c = 32 from beq_iff_eq.1 c32)
        cases bK with
        | false =>
          have HX := Lib.hid (show chkGo s.size (rest s q) ((n : Int) + 1) c = (A, E) by
            have h := HGO.out
            obtain ⟨b1, b2, b3, b4⟩ := HB.out
            rw [if_neg (by omega)] at h
            rw [if_neg (by simp [b3])] at h
            rw [if_neg (by simp [n0, n0', b4])] at h
            exact h)
          clear HGO HB
          go_wp2_with first | (go_at_call 24; (with_reducible refine (HL.out _).mono ?_); rintro e w' ⟨rfl, rfl⟩) | (go_at_call 25; (with_reducible refine (HD.out _).mono ?_); rintro e w' ⟨rfl, rfl⟩) | (go_at_call 26; (with_reducible refine (HJ.out _).mono ?_); rintro e w' ⟨rfl, rfl⟩) | (go_at_call 26; (with_reducible refine (HJL.out _).mono ?_); rintro e w' ⟨rfl, rfl⟩)
          go_roundw
          case rel => exact ⟨q, n + 1, c, by go_num, rfl, hit2, hbw2, by omega, HX.out⟩
          case measure => simp only [World.iterPos, hit2, hit]; omega
        | true =>
        rcases Bool.eq_false_or_eq_true (last == 46) with l46 | l46
        · have l46' := Lib.hid (show last = 46 from beq_iff_eq.1 l46)
          have m46 : (last != 46) = false := by rw [bne, l46]; rfl
          have HX := Lib.hid (show chkGo s.size (rest s q) ((n : Int) + 1) c = (A, E) by
            have h := HGO.out
            obtain ⟨b1, b2, b3, b4⟩ := HB.out
            rw [if_neg (by omega)] at h
            rw [if_neg (by simp [b3])] at h
            rw [if_neg (by simp [n0, n0', l46'.out])] at h
            exact h)
          clear HGO HB
          go_wp2_with first | (go_at_call 24; (with_reducible refine (HL.out _).mono ?_); rintro e w' ⟨rfl, rfl⟩) | (go_at_call 25; (with_reducible refine (HD.out _).mono ?_); rintro e w' ⟨rfl, rfl⟩) | (go_at_call 26; (with_reducible refine (HJ.out _).mono ?_); rintro e w' ⟨rfl, rfl⟩) | (go_at_call 26; (with_reducible refine (HJL.out _).mono ?_); rintro e w' ⟨rfl, rfl⟩)
          go_roundw
          case rel => exact ⟨q, n + 1, c, by go_num, rfl, hit2, hbw2, by omega, HX.out⟩
          case measure => simp only [World.iterPos, hit2, hit]; omega
        have l46' : ¬ last = 46 := beq_eq_false_iff_ne.1 l46
        have m46 : (last != 46) = true := by rw [bne, l46]; rfl
        rcases Bool.eq_false_or_eq_true (last == 38) with l38 | l38
        · have l38' := Lib.hid (show last = 38 from beq_iff_eq.1 l38)
          have m38 : (last != 38) = false := by rw [bne, l38]; rfl
          have HX := Lib.hid (show chkGo s.size (rest s q) ((n : Int) + 1) c = (A, E) by
            have h := HGO.out
            obtain ⟨b1, b2, b3, b4⟩ := HB.out
            rw [if_neg (by omega)] at h
            rw [if_neg (by simp [b3])] at h
            rw [if_neg (by simp [n0, n0', l38'.out])] at h
            exact h)
          clear HGO HB
          go_wp2_with first | (go_at_call 24; (with_reducible refine (HL.out _).mono ?_); rintro e w' ⟨rfl, rfl⟩) | (go_at_call 25; (with_reducible refine (HD.out _).mono ?_); rintro e w' ⟨rfl, rfl⟩) | (go_at_call 26; (with_reducible refine (HJ.out _).mono ?_); rintro e w' ⟨rfl, rfl⟩) | (go_at_call 26; (with_reducible refine (HJL.out _).mono ?_); rintro e w' ⟨rfl, rfl⟩)
          go_roundw
          case rel => exact ⟨q, n + 1, c, by go_num, rfl, hit2, hbw2, by omega, HX.out⟩
          case measure => simp only [World.iterPos, hit2, hit]; omega
        have l38' : ¬ last = 38 := beq_eq_false_iff_ne.1 l38
        have m38 : (last != 38) = true := by rw [bne, l38]; rfl
        obtain ⟨hX1, hX2⟩ : A = (pos : Int) ∧ E = 11 := by
          have h := HGO.out
          obtain ⟨b1, b2, b3, b4⟩ := HB.out
          rw [if_neg (by omega)] at h
          rw [if_neg (by simp [b3])] at h
          rw [if_pos (.inr ⟨c32'.out, by simp [b4], l46', l38'⟩)] at h
          injection h with h1 h2
          exact ⟨h1.symm, h2.symm⟩
        subst hX1; subst hX2
        clear HGO HB
        go_wp2_with first | (go_at_call 24; (with_reducible refine (HL.out _).mono ?_); rintro e w' ⟨rfl, rfl⟩) | (go_at_call 25; (with_reducible refine (HD.out _).mono ?_); rintro e w' ⟨rfl, rfl⟩) | (go_at_call 26; (with_reducible refine (HJ.out _).mono ?_); rintro e w' ⟨rfl, rfl⟩) | (go_at_call 26; (with_reducible refine (HJL.out _).mono ?_); rintro e w' ⟨rfl, rfl⟩)
        go_ret2
        exact ⟨rfl, hbw2⟩
      · have HX := Lib.hid (show chkGo s.size (rest s q) ((n : Int) + 1) c = (A, E) by
          have h := HGO.out
          obtain ⟨b1, b2, b3, b4⟩ := HB.out
          rw [if_neg (by omega)] at h
          rw [if_neg (by simp [b3])] at h
          rw [if_neg (by simp only [beq_eq_false_iff_ne, ne_eq] at c32; simp [n0, n0', c32])] at h
          exact h)
        clear HGO HB
        go_wp2_with first | (go_at_call 24; (with_reducible refine (HL.out _).mono ?_); rintro e w' ⟨rfl, rfl⟩) | (go_at_call 25; (with_reducible refine (HD.out _).mono ?_); rintro e w' ⟨rfl, rfl⟩) | (go_at_call 26; (with_reducible refine (HJ.out _).mono ?_); rintro e w' ⟨rfl, rfl⟩) | (go_at_call 26; (with_reducible refine (HJL.out _).mono ?_); rintro e w' ⟨rfl, rfl⟩)
        go_roundw
        case rel => exact ⟨q, n + 1, c, by go_num, rfl, hit2, hbw2, by omega, HX.out⟩
        case measure => simp only [World.iterPos, hit2, hit]; omega
    · have hnx : ∀ ty, (Instr.next (.pointer (some ⟨w.heap.size, 0, none⟩)) true ty).run Tryd.prog wr = _ := fun ty => Lib.run_next_end_at wr w.heap.size s pos ty hit hp
      rw [rest_nil s pos hp] at hgo
      unfold chkGo at hgo
      have HGO := Lib.hid hgo
      clear hgo
      rcases Bool.eq_false_or_eq_true ((n : Int) == 0) with k0 | k0
      · obtain ⟨hX1, hX2⟩ : A = (s.size : Int) ∧ E = 11 := by
          have h := HGO.out
          rw [if_pos (.inl (beq_iff_eq.1 k0))] at h
          injection h with h1 h2
          exact ⟨h1.symm, h2.symm⟩
        subst hX1; subst hX2
        clear HGO
        go_wp2
        go_ret2
        exact ⟨rfl, hbw⟩
      rcases Bool.eq_false_or_eq_true (last == 32) with k32 | k32
      · obtain ⟨hX1, hX2⟩ : A = (s.size : Int) ∧ E = 11 := by
          have h := HGO.out
          rw [if_pos (.inr (beq_iff_eq.1 k32))] at h
          injection h with h1 h2
          exact ⟨h1.symm, h2.symm⟩
        subst hX1; subst hX2
        clear HGO
        go_wp2
        go_ret2
        exact ⟨rfl, hbw⟩
      · obtain ⟨hX1, hX2⟩ : A = (s.size : Int) ∧ E = 0 := by
          have h := HGO.out
          rw [if_neg (by simp only [beq_eq_false_iff_ne, ne_eq] at k0 k32; rintro (h | h); exact k0 h; exact k32 h)] at h
          injection h with h1 h2
          exact ⟨h1.symm, h2.symm⟩
        subst hX1; subst hX2
        clear HGO
        go_wp2
        go_ret2
        exact ⟨rfl, hbw⟩
end Go.Proofs.YtilomlohjhhbnaaDoor
