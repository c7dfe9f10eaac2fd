/- What the document's Signs and Check come to: all signs of a text, where each begins, whether all bytes are part of one; the first fault. Condition: the text has at most 2^40 bytes. -/
import Derived.Test.YtilomlohjhhbnaaDoorRefA
import Derived.Test.YtilomlohjhhbnaaDoorChk
import Derived.Lib.Hide
set_option linter.unusedVariables false
set_option linter.unusedSimpArgs false
namespace Go.Proofs.YtilomlohjhhbnaaDoor
open Go.Proofs Go.RowKit Go.Proofs.YtilomlohjhhbnaaDoorW.PrintWords R

def places (l : List (Int × Nat)) : List Int := l.map fun x => (x.2 : Int)
def okL (s : ByteArray) (l : List (Int × Nat)) : Bool := l.all fun x => okB s x.2
theorem wid_le (s : ByteArray) (p : Nat) : (Utf8.decode s p).2 ≤ 4 := by
  rw [Lib.decode_at]; unfold Lib.decodeN; repeat' split
  all_goals simp

theorem sign_val' (k : Nat) (hk : 4 ≤ k) (s : ByteArray) (hs : s.size ≤ 1099511627776) (p : Nat) (hp : p < s.size) : lombardref04_Sign.f k s p = some (((Utf8.decode s p).1 : Int), ((Utf8.decode s p).2 : Int), okB s p) := by
  obtain ⟨m, rfl⟩ : ∃ m, k = m + 4 := ⟨k - 4, by omega⟩
  rw [sign_val m s hs p hp, signV_dec s p hp]
theorem signs_go (s : ByteArray) (hs : s.size ≤ 1099511627776) (d : Nat) : ∀ (k p : Nat) (A Pl : List Int) (g : Bool), s.size - p ≤ d → d + 6 ≤ k → A.length ≤ p → Pl.length ≤ p → p ≤ s.size + 4 →
    lombardref04_Signs.l0 k s A Pl g p = some (A ++ (rest s p).map (·.1), Pl ++ places (rest s p), g && okL s (rest s p)) := by
  induction d with
  | zero =>
    intro k p A Pl g hd hk hA hP hp4
    obtain ⟨k, rfl⟩ : ∃ m, k = m + 1 := ⟨k - 1, by omega⟩
    simp only [lombardref04_Signs.l0]
    rw [if_neg (by omega), rest_nil s p (by omega)]
    simp [places, okL]
  | succ d ih =>
    intro k p A Pl g hd hk hA hP hp4
    by_cases hp : p < s.size
    · obtain ⟨k, rfl⟩ : ∃ m, k = m + 1 := ⟨k - 1, by omega⟩
      have hw := wpos s p hp
      have hw4 := wid_le s p
      simp only [lombardref04_Signs.l0]
      rw [if_pos (by omega), sign_val' k (by omega) s hs p hp]
      simp only [Option.bind_some]
      rw [if_pos (by omega), if_pos (by omega), show wrap64 ((p : Int) + ((Utf8.decode s p).2 : Int)) = ((p + (Utf8.decode s p).2 : Nat) : Int) by rw [w64 (by omega) (by omega)]; omega]
      rw [rest_cons s p hp]
      have I := fun g' => ih k (p + (Utf8.decode s p).2) (A ++ [((Utf8.decode s p).1 : Int)]) (Pl ++ [(p : Int)]) g' (by omega) (by omega) (by simp; omega) (by simp; omega) (by omega)
      cases g with
      | true => rw [if_pos rfl, I]; simp [places, okL]
      | false => rw [if_neg (by simp), I]; simp [places, okL]
    · obtain ⟨k, rfl⟩ : ∃ m, k = m + 1 := ⟨k - 1, by omega⟩
      simp only [lombardref04_Signs.l0]
      rw [if_neg (by omega), rest_nil s p (by omega)]
      simp [places, okL]
theorem signs_val (s : ByteArray) (hs : s.size ≤ 1099511627776) (k : Nat) (hk : s.size + 6 ≤ k) : lombardref04_Signs.f k s = some (rn s, places (rest s 0), okL s (rest s 0)) := by
  unfold lombardref04_Signs.f
  have := signs_go s hs s.size k 0 [] [] true (by omega) hk (by simp) (by simp) (by omega)
  simpa [rn] using this

theorem letter_ref (c : Int) : lombardref04_letter.f c = some (letterB c) := by
  unfold lombardref04_letter.f lombardref04_ascii.f letterB
  by_cases h1 : 97 ≤ c <;> by_cases h2 : c ≤ 122 <;> by_cases h3 : 65 ≤ c <;> by_cases h4 : c ≤ 90 <;> by_cases h5 : 192 ≤ c <;> by_cases h6 : c ≤ 383 <;> by_cases h7 : c = 215 <;> by_cases h8 : c = 247 <;> first | (exfalso; omega) | simp [h1, h2, h3, h4, h5, h6, h7, h8]
theorem digit_ref (c : Int) : lombardref04_digit.f c = some (digitB c) := by
  unfold lombardref04_digit.f digitB
  by_cases h1 : 48 ≤ c <;> by_cases h2 : c ≤ 57 <;> simp [h1, h2]
theorem joint_ref (c : Int) : lombardref04_joint.f c = some (jointB c) := by
  unfold lombardref04_joint.f jointB
  by_cases h1 : c = 32
  · simp [h1]
  by_cases h2 : c = 45
  · simp [h2]
  by_cases h3 : c = 46
  · simp [h3]
  by_cases h4 : c = 38
  · simp [h4]
  by_cases h5 : c = 39 <;> simp [h1, h2, h3, h4, h5]

theorem wrap_succ (i : Nat) (h : (i : Int) ≤ 9223372036854775806) : wrap64 ((i : Int) + 1) = ((i + 1 : Nat) : Int) := by rw [w64 (by omega) (by omega)]; omega
theorem wrap_pred (i : Nat) (h : 1 ≤ i) (h2 : (i : Int) ≤ 9223372036854775806) : wrap64 ((i : Int) - 1) = ((i - 1 : Nat) : Int) := by rw [w64 (by omega) (by omega)]; omega
/-- The sign ahead of place i; at the begin a blank. -/
def lastI (L : List Int) (i : Nat) : Int := if i = 0 then 32 else L.getD (i - 1) 0
theorem rd_at (L : List Int) (i : Nat) : rd L (i : Int) = L.getD i 0 := by unfold rd; simp

theorem check_go (s : ByteArray) (L : List (Int × Nat)) (hL : (L.length : Int) ≤ 9223372036854775806) (d : Nat) : ∀ (k i : Nat), L.length - i ≤ d → 2 * d + 2 ≤ k → i ≤ L.length →
    lombardref04_Check.l0 k s (L.map (·.1)) (places L) i = some (chkGo s.size (L.drop i) i (lastI (L.map (·.1)) i)) := by
  induction d with
  | zero =>
    intro k i hd hk hi
    obtain ⟨k, rfl⟩ : ∃ m, k = m + 1 := ⟨k - 1, by omega⟩
    have hil : i = L.length := by omega
    subst hil
    simp only [lombardref04_Check.l0, List.length_map]
    rw [if_neg (by omega), List.drop_length]
    unfold chkGo lastI
    by_cases h0 : L.length = 0
    · rw [if_pos (by omega), if_pos (.inl (by omega))]
    · rw [if_neg (by omega), wrap_pred L.length (by omega) hL]
      rw [if_pos (by omega), if_pos (by omega), rd_at, if_neg h0]
      by_cases h32 : (L.map (·.1)).getD (L.length - 1) 0 = 32
      · rw [if_pos h32, if_pos (.inr h32)]
      · rw [if_neg h32, if_neg (by rintro (h | h); exact h0 (by omega); exact h32 h)]
  | succ d ih =>
    intro k i hd hk hi
    by_cases hlt : i < L.length
    · obtain ⟨k, rfl⟩ : ∃ m, k = m + 1 := ⟨k - 1, by omega⟩
      have hpl : (places L).length = L.length := by simp [places]
      have hdr : L.drop i = L[i] :: L.drop (i + 1) := List.drop_eq_getElem_cons hlt
      have hw0 : (i : Int) ≤ 9223372036854775806 := by omega
      obtain ⟨⟨c, pp⟩, hLi⟩ : ∃ x, L[i] = x := ⟨_, rfl⟩
      rw [hLi] at hdr
      have hc : (L.map (·.1)).getD i 0 = c := by simp [List.getD_eq_getElem?_getD, hlt, hLi]
      have hp : (places L).getD i 0 = (pp : Int) := by simp [places, List.getD_eq_getElem?_getD, hlt, hLi]
      have hln : lastI (L.map (·.1)) (i + 1) = c := by unfold lastI; rw [if_neg (Nat.succ_ne_zero i), Nat.add_sub_cancel, hc]
      have HC := Lib.hid hc
      have HP := Lib.hid hp
      have HLN := Lib.hid hln
      clear hc hp hln hLi
      simp only [lombardref04_Check.l0, List.length_map, hpl, rd_at, HC.out, HP.out]
      rw [if_pos (by omega), if_pos (by omega), hdr]
      unfold chkGo
      by_cases h40 : i = 40
      · rw [if_pos (by omega), if_pos (by omega), if_pos (by omega)]
      have n40 : ¬ ((i : Int) = 40) := by omega
      rw [if_neg n40, if_neg n40]
      simp only [letter_ref, digit_ref, joint_ref, Option.bind_some]
      have J : ∀ b, lombardref04_Check.j1 k s (L.map (·.1)) (places L) i c b = some (if b = true then ((pp : Int), 11) else if (i ≠ 0 ∧ c = 32 ∧ jointB (lastI (L.map (·.1)) i) = true ∧ lastI (L.map (·.1)) i ≠ 46 ∧ lastI (L.map (·.1)) i ≠ 38) then ((pp : Int), 11) else chkGo s.size (L.drop (i + 1)) ((i : Int) + 1) c) := by
        intro b
        obtain ⟨k, rfl⟩ : ∃ m, k = m + 1 := ⟨k - 1, by omega⟩
        have I := ih k (i + 1) (by omega) (by omega) (by omega)
        rw [HLN.out] at I
        simp only [lombardref04_Check.j1, List.length_map, hpl, rd_at, HP.out, wrap_succ i hw0, I]
        clear I
        cases b with
        | true => rw [if_pos (rfl : true = true), if_pos (by omega), if_pos (by omega), if_pos (rfl : true = true)]
        | false =>
          rw [if_neg (show ¬ (false = true) by simp), if_neg (show ¬ (false = true) by simp)]
          have e1 : ((i + 1 : Nat) : Int) = (i : Int) + 1 := by omega
          rw [e1]
          by_cases h0 : i = 0
          · rw [if_neg (show ¬ ((i : Int) > 0) by omega), if_neg (fun h => h.1 h0)]
          · rw [if_pos (show (i : Int) > 0 by omega)]
            by_cases h32 : c = 32
            · rw [if_pos h32, wrap_pred i (by omega) hw0]
              rw [if_pos (by omega), if_pos (by omega), rd_at]
              have hlast : lastI (L.map (·.1)) i = (L.map (·.1)).getD (i - 1) 0 := by unfold lastI; rw [if_neg h0]
              rw [hlast]
              generalize (L.map (·.1)).getD (i - 1) 0 = la
              simp only [joint_ref, Option.bind_some]
              cases hj : jointB la with
              | false => rw [if_neg (show ¬ (false = true) by simp), if_neg (fun h => by simpa using h.2.2.1)]
              | true =>
                rw [if_pos (rfl : true = true)]
                by_cases h46 : la = 46
                · rw [if_pos h46, if_neg (fun h => h.2.2.2.1 h46)]
                · rw [if_neg h46]
                  by_cases h38 : la = 38
                  · rw [if_pos h38, if_neg (fun h => h.2.2.2.2 h38)]
                  · rw [if_neg h38, if_pos (by omega), if_pos (by omega), if_pos ⟨h0, h32, rfl, h46, h38⟩]
            · rw [if_neg h32, if_neg (fun h => h32 h.2.1)]
      simp only [J]
      have hne : letterB c = true → ¬ c = 32 := by
        intro h
        unfold letterB at h
        simp only [decide_eq_true_eq] at h
        omega
      clear J ih HC HP HLN
      generalize lastI (L.map (·.1)) i = la
      generalize chkGo s.size (L.drop (i + 1)) ((i : Int) + 1) c = R
      cases hl : letterB c <;> cases hd : digitB c <;> cases hj : jointB c <;> by_cases h0 : i = 0 <;> simp [h0, hl] at hne ⊢ <;> simp [hne]
    · obtain rfl : i = L.length := by omega
      have := ih k L.length (by omega) (by omega) (Nat.le_refl _)
      exact this

theorem check_ref (s : ByteArray) : lombardref04_Check.f 1000 s = some (chkS s) := by
  unfold lombardref04_Check.f chkS
  by_cases hs : s.size > 160
  · rw [if_pos (by omega), if_pos hs]
  · rw [if_neg (by omega), if_neg hs, signs_val s (by omega) 1000 (by omega)]
    have hl := rest_length s 0
    have := check_go s (rest s 0) (by omega) (rest s 0).length 1000 0 (by omega) (by omega) (by omega)
    simpa [rn, lastI] using this
end Go.Proofs.YtilomlohjhhbnaaDoor
