/- A text cut between two signs and filled up with dots and blanks: its signs ahead of the cut are those of the whole. name.Fit takes just so many columns. No condition. -/
import Derived.Test.YtilomlohjhhbnaaDoorFit
import Derived.Test.YtilomlohjhhbnaaDoorUtf
set_option linter.unusedVariables false
set_option linter.unusedSimpArgs false
namespace Go.Proofs.YtilomlohjhhbnaaDoor
open Go.Proofs Go.RowKit

set_option maxHeartbeats 4000000 in
theorem dec_same (n m e b0 b1 b2 b3 c1 c2 c3 : Nat) (he : 0 < e) (hn : e ≤ n) (hm : e ≤ m)
    (h1 : 1 < e → c1 = b1) (k1 : e ≤ 1 → c1 < 128) (h2 : 2 < e → c2 = b2) (k2 : e ≤ 2 → c2 < 128) (h3 : 3 < e → c3 = b3) (k3 : e ≤ 3 → c3 < 128)
    (hw : (Lib.decodeN n b0 b1 b2 b3).2 ≤ e) : Lib.decodeN m b0 c1 c2 c3 = Lib.decodeN n b0 b1 b2 b3 := by
  by_cases e4 : 3 < e
  · rw [h1 (by omega), h2 (by omega), h3 e4]
    have t1 : (1 < m) = (1 < n) := propext ⟨fun _ => by omega, fun _ => by omega⟩
    have t2 : (2 < m) = (2 < n) := propext ⟨fun _ => by omega, fun _ => by omega⟩
    have t3 : (3 < m) = (3 < n) := propext ⟨fun _ => by omega, fun _ => by omega⟩
    unfold Lib.decodeN
    simp only [t1, t2, t3]
  · have k3' := k3 (by omega)
    have f3 : ¬ (c3 / 64 = 2) := by omega
    by_cases e3 : 2 < e
    · rw [h1 (by omega), h2 e3]
      have t1 : (1 < m) = (1 < n) := propext ⟨fun _ => by omega, fun _ => by omega⟩
      have t2 : (2 < m) = (2 < n) := propext ⟨fun _ => by omega, fun _ => by omega⟩
      unfold Lib.decodeN at hw ⊢
      simp only [t1, t2, f3, and_false, if_false]
      clear h1 h2 h3 k1 k2 k3 t1 t2
      repeat' split
      all_goals first | rfl | (exfalso; revert hw; repeat' split; all_goals (intro hw; simp only at hw; omega))
    · have k2' := k2 (by omega)
      have f2 : ¬ (c2 / 64 = 2) := by omega
      by_cases e2 : 1 < e
      · rw [h1 e2]
        have t1 : (1 < m) = (1 < n) := propext ⟨fun _ => by omega, fun _ => by omega⟩
        unfold Lib.decodeN at hw ⊢
        simp only [t1, f2, f3, and_false, false_and, if_false]
        clear h1 h2 h3 k1 k2 k3 t1
        repeat' split
        all_goals first | rfl | (exfalso; revert hw; repeat' split; all_goals (intro hw; simp only at hw; omega))
      · have k1' := k1 (by omega)
        have f1 : ¬ (c1 / 64 = 2) := by omega
        unfold Lib.decodeN at hw ⊢
        simp only [f1, and_false, false_and, if_false]
        clear h1 h2 h3 k1 k2 k3
        repeat' split
        all_goals first | rfl | (exfalso; revert hw; repeat' split; all_goals (intro hw; simp only at hw; omega))
theorem dec_wid (n b0 b1 b2 b3 : Nat) (hn : 0 < n) : (Lib.decodeN n b0 b1 b2 b3).2 ≤ n := by
  unfold Lib.decodeN
  repeat' split
  all_goals (dsimp only; omega)
theorem wid_size (s : ByteArray) (p : Nat) (hp : p < s.size) : p + (Utf8.decode s p).2 ≤ s.size := by
  rw [Lib.decode_at]
  have := dec_wid (s.size - p) (s.get! p).toNat (s.get! (p + 1)).toNat (s.get! (p + 2)).toNat (s.get! (p + 3)).toNat (by omega)
  omega
structure Agr (s t : ByteArray) (e : Nat) : Prop where
  les : e ≤ s.size
  let_ : e ≤ t.size
  low : ∀ j, j < e → t.get! j = s.get! j
  hi : ∀ j, e ≤ j → (t.get! j).toNat < 128
theorem dec_agr {s t : ByteArray} {e : Nat} (h : Agr s t e) (q : Nat) (hq : q < e) (hw : q + (Utf8.decode s q).2 ≤ e) : Utf8.decode t q = Utf8.decode s q := by
  rw [Lib.decode_at] at hw
  rw [Lib.decode_at, Lib.decode_at, h.low q hq]
  have h1 := h.les
  have h2 := h.let_
  refine dec_same (s.size - q) (t.size - q) (e - q) _ _ _ _ _ _ _ (by omega) (by omega) (by omega) (fun _ => ?_) (fun _ => ?_) (fun _ => ?_) (fun _ => ?_) (fun _ => ?_) (fun _ => ?_) (by omega)
  · rw [h.low _ (by omega)]
  · exact h.hi _ (by omega)
  · rw [h.low _ (by omega)]
  · exact h.hi _ (by omega)
  · rw [h.low _ (by omega)]
  · exact h.hi _ (by omega)
end Go.Proofs.YtilomlohjhhbnaaDoor
