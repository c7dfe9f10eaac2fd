/- What the document's low, Text and Fold come to. Condition: the text has at most 2^40 bytes. -/
import Derived.Test.YtilomlohjhhbnaaDoorRefB
import Derived.Test.YtilomlohjhhbnaaDoorFold
set_option linter.unusedVariables false
set_option linter.unusedSimpArgs false
namespace Go.Proofs.YtilomlohjhhbnaaDoor
open Go.Proofs Go.RowKit Go.Proofs.YtilomlohjhhbnaaDoorW.PrintWords R

/-- A code point that is no surrogate. -/
def vld (c : Int) : Prop := 0 ≤ c ∧ c ≤ 1114111 ∧ ¬ (55296 ≤ c ∧ c ≤ 57343)
theorem dec_vld (s : ByteArray) (p : Nat) : vld (Utf8.decode s p).1 := by
  have h0 := (s.get! p).toNat_lt
  rw [Lib.decode_at]
  unfold Lib.decodeN vld
  repeat' split
  all_goals simp only []
  all_goals omega
theorem lowV_vld (c : Int) (h : vld c) : vld (lowV c) := by
  unfold vld at *
  unfold lowV
  repeat' split
  all_goals omega

theorem low_j1 (k : Nat) (c : Int) (x : Bool) (h0 : 0 ≤ c) (h1 : c ≤ 1114111) (hx : x = decide ((256 ≤ c ∧ c ≤ 311) ∨ (330 ≤ c ∧ c ≤ 375))) (hn : ¬ ((65 ≤ c ∧ c ≤ 90) ∨ (192 ≤ c ∧ c ≤ 222 ∧ c ≠ 215))) (hm : ¬ c = 376) : lombardref04_low.j1 (k + 1) c x = some (lowV c) := by
  have e1 : Int.tdiv c 2 = c / 2 := Int.tdiv_eq_ediv_of_nonneg h0
  have e2 : Int.tmod c 2 = c % 2 := Int.tmod_eq_emod_of_nonneg h0
  simp only [lombardref04_low.j1, e1, e2]
  rw [w64 (x := c + 1) (by omega) (by omega), w64 (x := c / 2) (by omega) (by omega), w64 (x := c / 2 * 2) (by omega) (by omega), w64 (x := c / 2 * 2 + 1) (by omega) (by omega)]
  unfold lowV
  rw [if_neg hn, if_neg hm]
  subst hx
  by_cases h : (256 ≤ c ∧ c ≤ 311) ∨ (330 ≤ c ∧ c ≤ 375)
  · rw [if_pos h, if_pos (decide_eq_true h)]
  · rw [if_neg h, if_neg (by simpa using h)]
    repeat' split
    all_goals first | rfl | (exfalso; omega) | (congr 1; omega)
theorem low_ref (k : Nat) (hk : 2 ≤ k) (c : Int) (h0 : 0 ≤ c) (h1 : c ≤ 1114111) : lombardref04_low.f k c = some (lowV c) := by
  obtain ⟨k, rfl⟩ : ∃ m, k = m + 2 := ⟨k - 2, by omega⟩
  have J0 : ∀ x, x = decide ((65 ≤ c ∧ c ≤ 90) ∨ (192 ≤ c ∧ c ≤ 222 ∧ c ≠ 215)) → lombardref04_low.j0 (k + 2) c x = some (lowV c) := by
    intro x hx
    have J1 := fun x hx hn hm => low_j1 k c x h0 h1 hx hn hm
    subst hx
    by_cases h : (65 ≤ c ∧ c ≤ 90) ∨ (192 ≤ c ∧ c ≤ 222 ∧ c ≠ 215)
    · rw [decide_eq_true h]
      simp only [lombardref04_low.j0, if_true]
      unfold lowV
      rw [if_pos h, w64 (by omega) (by omega)]
    · rw [decide_eq_false h]
      simp only [lombardref04_low.j0]
      rw [if_neg (show ¬ (false = true) by simp)]
      by_cases hm : c = 376
      · rw [if_pos hm]; unfold lowV; rw [if_neg h, if_pos hm]
      · rw [if_neg hm]
        repeat' split
        all_goals apply J1 _ _ h hm
        all_goals first | (symm; exact decide_eq_true (by omega)) | (symm; exact decide_eq_false (by omega)) | (simp only [decide_eq_decide]; omega)
  unfold lombardref04_low.f
  repeat' split
  all_goals apply J0
  all_goals first | (symm; exact decide_eq_true (by omega)) | (symm; exact decide_eq_false (by omega)) | (rw [Bool.eq_iff_iff]; simp only [bne_iff_ne, decide_eq_true_eq]; omega)

theorem text_ref (c : Int) (h : vld c) : lombardref04_Text.f c = some (strOfNums (Lib.encodeRuneZ c)) := by
  obtain ⟨h0, h1, h2⟩ := h
  have t := fun (m : Int) => Int.tdiv_eq_ediv_of_nonneg (b := m) h0
  have tm := Int.tmod_eq_emod_of_nonneg (b := 64) h0
  have m1 : Int.tmod (c / 64) 64 = c / 64 % 64 := Int.tmod_eq_emod_of_nonneg (by omega)
  have m2 : Int.tmod (c / 4096) 64 = c / 4096 % 64 := Int.tmod_eq_emod_of_nonneg (by omega)
  unfold lombardref04_Text.f
  simp only [t, tm, w64 (x := c / 64) (by omega) (by omega), w64 (x := c / 4096) (by omega) (by omega), w64 (x := c / 262144) (by omega) (by omega), m1, m2,
    w64 (x := 192 + c / 64) (by omega) (by omega), w64 (x := 128 + c % 64) (by omega) (by omega), w64 (x := 224 + c / 4096) (by omega) (by omega), w64 (x := 128 + c / 64 % 64) (by omega) (by omega), w64 (x := 240 + c / 262144) (by omega) (by omega), w64 (x := 128 + c / 4096 % 64) (by omega) (by omega)]
  by_cases c1 : c < 128
  · rw [if_pos c1, Lib.encodeRuneZ_one h0 (by omega)]
    rw [show c % 256 = c by omega]
  rw [if_neg c1]
  by_cases c2 : c < 2048
  · rw [if_pos c2, Lib.encodeRuneZ_two (by omega) (by omega)]
    rw [show (192 + c / 64) % 256 = 192 + c / 64 by omega, show (128 + c % 64) % 256 = 128 + c % 64 by omega]
  rw [if_neg c2]
  by_cases c3 : c < 65536
  · rw [if_pos c3, Lib.encodeRuneZ_three (by omega)]
    rw [show (224 + c / 4096) % 256 = 224 + c / 4096 by omega, show (128 + c / 64 % 64) % 256 = 128 + c / 64 % 64 by omega, show (128 + c % 64) % 256 = 128 + c % 64 by omega]
  · rw [if_neg c3, Lib.encodeRuneZ_four (by omega) (by omega)]
    rw [show (240 + c / 262144) % 256 = 240 + c / 262144 by omega, show (128 + c / 4096 % 64) % 256 = 128 + c / 4096 % 64 by omega, show (128 + c / 64 % 64) % 256 = 128 + c / 64 % 64 by omega, show (128 + c % 64) % 256 = 128 + c % 64 by omega]

theorem encode_str (c : Int) : strOfNums (Lib.encodeRuneZ c) = ⟨(Lib.encodeRune c).toArray⟩ := rfl
theorem ba_append (a b : List UInt8) : (⟨a.toArray⟩ : ByteArray) ++ ⟨b.toArray⟩ = ⟨(a ++ b).toArray⟩ := by
  apply ByteArray.ext
  rw [ByteArray.data_append]
  simp
theorem ba_size (a : List UInt8) : (⟨a.toArray⟩ : ByteArray).size = a.length := by rw [Lib.size_eq]

theorem fold_go (L : List Int) (hL : (L.length : Int) ≤ 1099511627776) (hv : ∀ c ∈ L, vld c) (d : Nat) : ∀ (k i : Nat) (A : List UInt8), L.length - i ≤ d → d + 4 ≤ k → i ≤ L.length → A.length ≤ 4 * i →
    lombardref04_Fold.l0 k L ⟨A.toArray⟩ i = some ⟨(A ++ foldL (L.drop i)).toArray⟩ := by
  induction d with
  | zero =>
    intro k i A hd hk hi hA
    obtain ⟨k, rfl⟩ : ∃ m, k = m + 1 := ⟨k - 1, by omega⟩
    have hil : i = L.length := by omega
    subst hil
    simp only [lombardref04_Fold.l0]
    rw [if_neg (by omega), List.drop_length]
    simp [foldL]
  | succ d ih =>
    intro k i A hd hk hi hA
    by_cases hlt : i < L.length
    · obtain ⟨k, rfl⟩ : ∃ m, k = m + 1 := ⟨k - 1, by omega⟩
      have hdr : L.drop i = L[i] :: L.drop (i + 1) := List.drop_eq_getElem_cons hlt
      have hvi := hv L[i] (List.getElem_mem hlt)
      have hc : L.getD i 0 = L[i] := by simp [List.getD_eq_getElem?_getD, hlt]
      have hw := wrap_succ i (by omega)
      have he := encodeRune_length (lowV L[i])
      have I := ih k (i + 1) (A ++ Lib.encodeRune (lowV L[i])) (by omega) (by omega) (by omega) (by simp; omega)
      simp only [lombardref04_Fold.l0, rd_at, hc, hw]
      rw [if_pos (by omega), if_pos (by omega), low_ref k (by omega) _ hvi.1 hvi.2.1]
      simp only [Option.bind_some, text_ref _ (lowV_vld _ hvi), encode_str, ba_size]
      rw [if_pos (by omega), ba_append, I, hdr]
      simp only [foldL, List.flatMap_cons, List.append_assoc]
    · obtain rfl : i = L.length := by omega
      exact ih k L.length A (by omega) (by omega) (Nat.le_refl _) hA
theorem rn_vld (s : ByteArray) : ∀ c ∈ rn s, vld c := by
  have key : ∀ f p, ∀ x ∈ sgF s f p, vld x.1 := by
    intro f
    induction f with
    | zero => intro p x h; simp [sgF] at h
    | succ f ih =>
      intro p x h
      unfold sgF at h
      split at h
      · rcases List.mem_cons.1 h with rfl | h
        · exact dec_vld s p
        · exact ih _ x h
      · simp at h
  intro c hc
  unfold rn rest at hc
  obtain ⟨x, hx, rfl⟩ := List.mem_map.1 hc
  exact key _ _ x hx
theorem fold_ref (s : ByteArray) (hs : s.size ≤ 1099511627776) : lombardref04_Fold.f (s.size + 6) s = some (foldS s) := by
  unfold lombardref04_Fold.f
  rw [signs_val s hs _ (Nat.le_refl _)]
  have hr := rn_length s
  have := fold_go (rn s) (by omega) (rn_vld s) (rn s).length (s.size + 6) 0 [] (by omega) (by omega) (by omega) (by simp)
  simpa [foldS] using this
end Go.Proofs.YtilomlohjhhbnaaDoor
