/- The document's Plain and Short are what name.Plain and name.Short answer. Condition: the text has at most 2^18 bytes. -/
import Derived.Test.YtilomlohjhhbnaaDoorRefD
set_option linter.unusedVariables false
set_option linter.unusedSimpArgs false
namespace Go.Proofs.YtilomlohjhhbnaaDoor
open Go.Proofs Go.RowKit Go.Proofs.YtilomlohjhhbnaaDoorW.PrintWords R

def pc5 (c : Int) : List UInt8 := if 128 ≤ c then greatL (plainR c) else []
def pc4 (c : Int) : List UInt8 := if 97 ≤ c ∧ c ≤ 122 then [UInt8.ofNat (c - 32).toNat] else []
def pc2 (c : Int) : List UInt8 := if c = 32 ∨ c = 45 then [32] else []
def pc0 (c : Int) : List UInt8 := if digitB c = true then [UInt8.ofNat c.toNat] else []
theorem pieceR_eq (c : Int) : pieceR c = pc0 c ++ pc2 c ++ pc4 c ++ pc5 c := rfl
theorem pc5_length (c : Int) : (pc5 c).length ≤ 2 := by
  unfold pc5; split
  · exact Nat.le_trans (greatL_length _) (plainR_length c)
  · simp
theorem pc4_length (c : Int) : (pc4 c).length ≤ 1 := by unfold pc4; split <;> simp
theorem pc2_length (c : Int) : (pc2 c).length ≤ 1 := by unfold pc2; split <;> simp
theorem pc0_length (c : Int) : (pc0 c).length ≤ 1 := by unfold pc0; split <;> simp
theorem pieceR_length (c : Int) : (pieceR c).length ≤ 5 := by
  rw [pieceR_eq]
  have := pc5_length c; have := pc4_length c; have := pc2_length c; have := pc0_length c
  simp only [List.length_append]; omega

theorem p5 (k : Nat) (hk : 12 ≤ k) (L : List Int) (A : List UInt8) (hA : A.length ≤ 10000000) (i : Nat) (hi : (i : Int) ≤ 9223372036854775806) (c : Int) (h0 : 0 ≤ c) (h1 : c ≤ 1114111) :
    lombardref04_Plain.j5 (k + 1) L ⟨A.toArray⟩ i c = lombardref04_Plain.l0 k L ⟨(A ++ pc5 c).toArray⟩ ((i + 1 : Nat) : Int) := by
  have hl := plainR_length c
  have hg := greatL_length (plainR c)
  simp only [lombardref04_Plain.j5, wrap_succ i hi]
  unfold pc5
  by_cases h : 128 ≤ c
  · rw [if_pos h, if_pos h, plain_ref k hk c h0 h1]
    simp only [Option.bind_some]
    rw [great_ref _ (by omega) k (by omega)]
    simp only [Option.bind_some, ba_size, ba_append]
    rw [if_pos (by omega)]
  · rw [if_neg h, if_neg h, List.append_nil]
theorem p4 (k : Nat) (hk : 12 ≤ k) (L : List Int) (A : List UInt8) (hA : A.length ≤ 9999990) (i : Nat) (hi : (i : Int) ≤ 9223372036854775806) (c : Int) (h0 : 0 ≤ c) (h1 : c ≤ 1114111) (x : Bool) (hx : x = decide (97 ≤ c ∧ c ≤ 122)) :
    lombardref04_Plain.j4 (k + 2) L ⟨A.toArray⟩ i c x = lombardref04_Plain.l0 k L ⟨(A ++ pc4 c ++ pc5 c).toArray⟩ ((i + 1 : Nat) : Int) := by
  simp only [lombardref04_Plain.j4, Option.bind_some]
  subst hx
  unfold pc4
  by_cases h : 97 ≤ c ∧ c ≤ 122
  · rw [if_pos (decide_eq_true h), if_pos h, w64 (x := c - 32) (by omega) (by omega), show (c - 32) % 256 = c - 32 by omega]
    have e : strOfNums [c - 32] = ⟨[UInt8.ofNat (c - 32).toNat].toArray⟩ := rfl
    rw [e]
    simp only [ba_size, ba_append, List.length_cons, List.length_nil]
    rw [if_pos (by omega), p5 k hk L _ (by simp; omega) i hi c h0 h1]
  · rw [if_neg (by simpa using h), if_neg h, List.append_nil, p5 k hk L A (by omega) i hi c h0 h1]
theorem p3 (k : Nat) (hk : 12 ≤ k) (L : List Int) (A : List UInt8) (hA : A.length ≤ 9999990) (i : Nat) (hi : (i : Int) ≤ 9223372036854775806) (c : Int) (h0 : 0 ≤ c) (h1 : c ≤ 1114111) :
    lombardref04_Plain.j3 (k + 3) L ⟨A.toArray⟩ i c = lombardref04_Plain.l0 k L ⟨(A ++ pc4 c ++ pc5 c).toArray⟩ ((i + 1 : Nat) : Int) := by
  have S := fun x hx => p4 k hk L A hA i hi c h0 h1 x hx
  unfold lombardref04_Plain.j3
  by_cases h : 97 ≤ c
  · rw [if_pos h, S _ (by simp [h])]
  · rw [if_neg h, S _ (by simp [h])]
theorem p2 (k : Nat) (hk : 12 ≤ k) (L : List Int) (A : List UInt8) (hA : A.length ≤ 9999980) (i : Nat) (hi : (i : Int) ≤ 9223372036854775806) (c : Int) (h0 : 0 ≤ c) (h1 : c ≤ 1114111) (x : Bool) (hx : x = decide (c = 32 ∨ c = 45)) :
    lombardref04_Plain.j2 (k + 4) L ⟨A.toArray⟩ i c x = lombardref04_Plain.l0 k L ⟨(A ++ pc2 c ++ pc4 c ++ pc5 c).toArray⟩ ((i + 1 : Nat) : Int) := by
  unfold lombardref04_Plain.j2
  subst hx
  unfold pc2
  have e : (⟨#[32]⟩ : ByteArray) = ⟨[32].toArray⟩ := rfl
  by_cases h : c = 32 ∨ c = 45
  · rw [if_pos (decide_eq_true h), if_pos h, e]
    simp only [ba_size, ba_append]
    rw [if_pos (by omega), p3 k hk L _ (by simp; omega) i hi c h0 h1]
  · rw [if_neg (by simpa using h), if_neg h, List.append_nil, p3 k hk L A (by omega) i hi c h0 h1]
theorem p1 (k : Nat) (hk : 12 ≤ k) (L : List Int) (A : List UInt8) (hA : A.length ≤ 9999980) (i : Nat) (hi : (i : Int) ≤ 9223372036854775806) (c : Int) (h0 : 0 ≤ c) (h1 : c ≤ 1114111) :
    lombardref04_Plain.j1 (k + 5) L ⟨A.toArray⟩ i c = lombardref04_Plain.l0 k L ⟨(A ++ pc2 c ++ pc4 c ++ pc5 c).toArray⟩ ((i + 1 : Nat) : Int) := by
  have S := fun x hx => p2 k hk L A hA i hi c h0 h1 x hx
  unfold lombardref04_Plain.j1
  by_cases h : c = 32
  · rw [if_pos h, S _ (by simp [h])]
  · rw [if_neg h, S _ (by rw [Bool.eq_iff_iff]; simp [h])]
theorem p0 (k : Nat) (hk : 12 ≤ k) (L : List Int) (A : List UInt8) (hA : A.length ≤ 9999970) (i : Nat) (hi : i < L.length) (hL : (L.length : Int) ≤ 9223372036854775806) (hv : vld L[i]) :
    lombardref04_Plain.l0 (k + 6) L ⟨A.toArray⟩ i = lombardref04_Plain.l0 k L ⟨(A ++ pieceR (lowV L[i])).toArray⟩ ((i + 1 : Nat) : Int) := by
  have hc : L.getD i 0 = L[i] := by simp [List.getD_eq_getElem?_getD, hi]
  have hl := lowV_vld _ hv
  rw [show lombardref04_Plain.l0 (k + 6) L ⟨A.toArray⟩ i = _ from by unfold lombardref04_Plain.l0; rfl]
  simp only [rd_at, hc]
  rw [if_pos (by omega), if_pos (by omega), low_ref (k + 5) (by omega) _ hv.1 hv.2.1]
  simp only [Option.bind_some, digit_ref]
  obtain ⟨c, hcc⟩ : ∃ c, lowV L[i] = c := ⟨_, rfl⟩
  rw [hcc] at hl ⊢
  rw [pieceR_eq]
  unfold pc0
  cases hd : digitB c with
  | true =>
    have hr : 48 ≤ c ∧ c ≤ 57 := by unfold digitB at hd; exact of_decide_eq_true hd
    rw [if_pos (rfl : true = true), if_pos (rfl : true = true), show c % 256 = c by omega]
    have e : strOfNums [c] = ⟨[UInt8.ofNat c.toNat].toArray⟩ := rfl
    rw [e]
    simp only [ba_size, ba_append, List.length_cons, List.length_nil]
    rw [if_pos (by omega), p1 k hk L _ (by simp; omega) i (by omega) c hl.1 hl.2.1]
    simp only [List.append_assoc]
  | false =>
    rw [if_neg (show ¬ (false = true) by simp), if_neg (show ¬ (false = true) by simp), p1 k hk L A (by omega) i (by omega) c hl.1 hl.2.1]
    simp only [List.nil_append, List.append_assoc]
theorem plain_go (L : List Int) (hL : L.length ≤ 1000000) (hv : ∀ c ∈ L, vld c) (d : Nat) : ∀ (k i : Nat) (A : List UInt8), L.length - i ≤ d → 6 * d + 20 ≤ k → i ≤ L.length → A.length ≤ 5 * i →
    lombardref04_Plain.l0 k L ⟨A.toArray⟩ i = some ⟨(A ++ (L.drop i).flatMap fun c => pieceR (lowV c)).toArray⟩ := by
  induction d with
  | zero =>
    intro k i A hd hk hi hA
    obtain ⟨k, rfl⟩ : ∃ m, k = m + 1 := ⟨k - 1, by omega⟩
    have hil : i = L.length := by omega
    subst hil
    simp only [lombardref04_Plain.l0]
    rw [if_neg (by omega), List.drop_length]
    simp
  | succ d ih =>
    intro k i A hd hk hi hA
    by_cases hlt : i < L.length
    · obtain ⟨k, rfl⟩ : ∃ m, k = m + 6 := ⟨k - 6, by omega⟩
      have hl := pieceR_length (lowV L[i])
      rw [p0 k (by omega) L A (by omega) i hlt (by omega) (hv _ (List.getElem_mem hlt)), ih k (i + 1) _ (by omega) (by omega) (by omega) (by simp; omega)]
      rw [show L.drop i = L[i] :: L.drop (i + 1) from List.drop_eq_getElem_cons hlt]
      simp only [List.flatMap_cons, List.append_assoc]
    · obtain rfl : i = L.length := by omega
      exact ih k L.length A (by omega) (by omega) (Nat.le_refl _) hA
theorem plain_val (s : ByteArray) (hs : s.size ≤ 262144) (k : Nat) (hk : 6 * s.size + 20 ≤ k) : lombardref04_Plain.f k s = some (plainS s) := by
  unfold lombardref04_Plain.f
  rw [signs_val s (by omega) k (by omega), plainS_eq]
  have hr := rn_length s
  have := plain_go (rn s) (by omega) (rn_vld s) (rn s).length k 0 [] (by omega) (by omega) (by omega) (by simp)
  simpa using this
end Go.Proofs.YtilomlohjhhbnaaDoor
