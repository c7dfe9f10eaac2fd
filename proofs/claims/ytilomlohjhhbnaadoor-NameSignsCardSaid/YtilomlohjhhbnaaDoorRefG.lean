/- All bytes of a text are part of a sign, in the words of name.Runes and in those of the document's Signs: the same. No condition. -/
import Derived.Test.YtilomlohjhhbnaaDoorRefB
import Derived.Test.YtilomlohjhhbnaaDoorRun
import Derived.Test.YtilomlohjhhbnaaDoorUtf
set_option linter.unusedVariables false
set_option linter.unusedSimpArgs false
namespace Go.Proofs.YtilomlohjhhbnaaDoor
open Go.Proofs Go.RowKit Go.Proofs.YtilomlohjhhbnaaDoorW.PrintWords R

theorem u8_eq (a : UInt8) (n : Nat) (h : n < 256) : (a = UInt8.ofNat n) ↔ a.toNat = n := by
  constructor
  · intro e; subst e; simp; omega
  · intro e; apply UInt8.toNat_inj.1; simp; omega
theorem pre3 (s : ByteArray) (p : Nat) : Lib.hasPrefix (s.data.toList.drop p) [239, 191, 189] = decide (2 < s.size - p ∧ (s.get! p).toNat = 239 ∧ (s.get! (p + 1)).toNat = 191 ∧ (s.get! (p + 2)).toNat = 189) := by
  obtain ⟨⟨S⟩⟩ := s
  simp only [get_list]
  have g : ∀ j, S.getD (p + j) 0 = (S.drop p).getD j 0 := fun j => by simp [List.getD_eq_getElem?_getD]
  have g0 := g 0
  rw [Nat.add_zero] at g0
  have e : (⟨⟨S⟩⟩ : ByteArray).size - p = (S.drop p).length := by simp [ByteArray.size]
  rw [g0, g 1, g 2, e]
  show Lib.hasPrefix (S.drop p) _ = _
  generalize S.drop p = l
  unfold Lib.hasPrefix
  rw [Bool.eq_iff_iff]
  have h1 := fun a : UInt8 => u8_eq a 239 (by omega)
  have h2 := fun a : UInt8 => u8_eq a 191 (by omega)
  have h3 := fun a : UInt8 => u8_eq a 189 (by omega)
  have e1 : UInt8.ofNat 239 = 239 := rfl
  have e2 : UInt8.ofNat 191 = 191 := rfl
  have e3 : UInt8.ofNat 189 = 189 := rfl
  rw [e1] at h1
  rw [e2] at h2
  rw [e3] at h3
  rcases l with _ | ⟨a, _ | ⟨b, _ | ⟨c, l⟩⟩⟩
  · simp [List.isPrefixOf]
  · simp [List.isPrefixOf]
  · simp [List.isPrefixOf]
  · simp only [List.isPrefixOf, Bool.and_eq_true, beq_iff_eq, and_true, decide_eq_true_eq, List.getD_cons_zero, List.getD_cons_succ, List.length_cons]
    rw [eq_comm (a := (239 : UInt8)), eq_comm (a := (191 : UInt8)), eq_comm (a := (189 : UInt8)), h1, h2, h3]
    constructor
    · rintro ⟨x, y, z⟩; exact ⟨by omega, x, y, z⟩
    · rintro ⟨_, x, y, z⟩; exact ⟨x, y, z⟩
theorem dec_bad (n a b c d : Nat) (hn : 0 < n) (ha : a < 256) (hb : b < 256) (hc : c < 256) (hd : d < 256) :
    ((Lib.decodeN n a b c d).1 = 65533 ∧ ¬ (2 < n ∧ a = 239 ∧ b = 191 ∧ c = 189)) ↔ ¬ ((Lib.decodeN n a b c d).1 < 128 ∨ (Lib.decodeN n a b c d).2 ≠ 1) := by
  unfold Lib.decodeN
  repeat' split
  all_goals (dsimp only; omega)
theorem bad_ok (s : ByteArray) (p : Nat) (hp : p < s.size) : badB s ((Utf8.decode s p).1 : Int) p = !(okB s p) := by
  unfold badB okB
  rw [pre3, Lib.decode_at]
  have h0 := (s.get! p).toNat_lt
  have h1 := (s.get! (p + 1)).toNat_lt
  have h2 := (s.get! (p + 2)).toNat_lt
  have h3 := (s.get! (p + 3)).toNat_lt
  have h := dec_bad (s.size - p) _ _ _ _ (by omega) h0 h1 h2 h3
  rw [Bool.eq_iff_iff]
  simp only [Bool.and_eq_true, beq_iff_eq, Bool.not_eq_true', decide_eq_false_iff_not]
  rw [← h]
  have e : ((((Lib.decodeN (s.size - p) (s.get! p).toNat (s.get! (p + 1)).toNat (s.get! (p + 2)).toNat (s.get! (p + 3)).toNat).1 : Nat) : Int) = 65533) ↔ (Lib.decodeN (s.size - p) (s.get! p).toNat (s.get! (p + 1)).toNat (s.get! (p + 2)).toNat (s.get! (p + 3)).toNat).1 = 65533 := by omega
  rw [e]
theorem good_ok (s : ByteArray) : ∀ (d p : Nat), s.size - p ≤ d → goodL s (rest s p) = okL s (rest s p)
  | 0, p, h => by rw [rest_nil s p (by omega)]; rfl
  | d + 1, p, h => by
    by_cases hp : p < s.size
    · have hw := wpos s p hp
      rw [rest_cons s p hp]
      have ih := good_ok s d (p + (Utf8.decode s p).2) (by omega)
      unfold goodL okL at ih ⊢
      rw [List.all_cons, List.all_cons, ih]
      simp only [bad_ok s p hp, Bool.not_not]
    · rw [rest_nil s p (by omega)]; rfl
end Go.Proofs.YtilomlohjhhbnaaDoor
