/- What is written sign by sign is read sign by sign: the signs of the bytes of code points are these code points. No condition. -/
import Derived.Test.YtilomlohjhhbnaaDoorRefC
set_option linter.unusedVariables false
set_option linter.unusedSimpArgs false
namespace Go.Proofs.YtilomlohjhhbnaaDoor
open Go.Proofs Go.RowKit

theorem get_list (l : List UInt8) (i : Nat) : ((⟨l.toArray⟩ : ByteArray).get! i) = l.getD i 0 := by
  rw [← Lib.getD_get!']
/-- The bytes of a code point, as numbers. -/
def encN (c : Nat) : List Nat :=
  if c < 128 then [c] else if c < 2048 then [192 + c / 64, 128 + c % 64] else if c < 65536 then [224 + c / 4096, 128 + c / 64 % 64, 128 + c % 64] else [240 + c / 262144, 128 + c / 4096 % 64, 128 + c / 64 % 64, 128 + c % 64]
theorem enc_nat (c : Nat) (h : vld c) : (Lib.encodeRune (c : Int)).map (·.toNat) = encN c := by
  obtain ⟨h0, h1, h2⟩ := h
  unfold Lib.encodeRune encN
  rw [List.map_map]
  by_cases c1 : c < 128
  · rw [if_pos c1, Lib.encodeRuneZ_one (by omega) (by omega)]
    simp only [List.map_cons, List.map_nil, Function.comp_apply, Nat.toUInt8, UInt8.toNat_ofNat']
    congr 1; omega
  rw [if_neg c1]
  by_cases c2 : c < 2048
  · rw [if_pos c2, Lib.encodeRuneZ_two (by omega) (by omega)]
    simp only [List.map_cons, List.map_nil, Function.comp_apply, Nat.toUInt8, UInt8.toNat_ofNat']
    congr 1
    · omega
    · congr 1; omega
  rw [if_neg c2]
  by_cases c3 : c < 65536
  · rw [if_pos c3, Lib.encodeRuneZ_three (by omega)]
    simp only [List.map_cons, List.map_nil, Function.comp_apply, Nat.toUInt8, UInt8.toNat_ofNat']
    congr 1
    · omega
    congr 1
    · omega
    congr 1; omega
  · rw [if_neg c3, Lib.encodeRuneZ_four (by omega) (by omega)]
    simp only [List.map_cons, List.map_nil, Function.comp_apply, Nat.toUInt8, UInt8.toNat_ofNat']
    congr 1
    · omega
    congr 1
    · omega
    congr 1
    · omega
    congr 1; omega
theorem getD_map_nat (l : List UInt8) (i : Nat) : (l.getD i 0).toNat = (l.map (·.toNat)).getD i 0 := by
  simp only [List.getD_eq_getElem?_getD, List.getElem?_map]
  cases l[i]? <;> rfl

/-- Decoding where a code point's bytes stand. -/
theorem dec_enc (pre tl : List UInt8) (c : Nat) (h : vld c) : Utf8.decode ⟨(pre ++ Lib.encodeRune c ++ tl).toArray⟩ pre.length = (c, (Lib.encodeRune c).length) := by
  have hlen : (Lib.encodeRune (c : Int)).length = (encN c).length := by rw [← enc_nat c h]; simp
  rw [Lib.decode_at]
  simp only [get_list, ba_size, getD_map_nat, List.map_append, enc_nat c h]
  have hsz : (pre ++ Lib.encodeRune (c : Int) ++ tl).length - pre.length = (encN c).length + tl.length := by simp [hlen]
  rw [hsz, hlen]
  have hg : ∀ i, i < (encN c).length → (List.map (·.toNat) pre ++ encN c ++ List.map (·.toNat) tl).getD (pre.length + i) 0 = (encN c).getD i 0 := by
    intro i hi
    simp only [List.getD_eq_getElem?_getD]
    rw [List.getElem?_append_left (by simp; omega), List.getElem?_append_right (by simp)]
    simp
  generalize (List.map (·.toNat) pre ++ encN c ++ List.map (·.toNat) tl) = M at *
  have h0 := hg 0
  have h1 := hg 1
  have h2 := hg 2
  have h3 := hg 3
  obtain ⟨v0, v1, v2⟩ := h
  clear hg hsz hlen
  simp only [Nat.add_zero] at h0
  generalize M.getD pre.length 0 = b0 at *
  generalize M.getD (pre.length + 1) 0 = b1 at *
  generalize M.getD (pre.length + 2) 0 = b2 at *
  generalize M.getD (pre.length + 3) 0 = b3 at *
  by_cases c1 : c < 128
  · have E : encN c = [c] := by unfold encN; rw [if_pos c1]
    rw [E] at h0 h1 h2 h3 ⊢
    simp only [List.length_cons, List.length_nil, List.getD_cons_zero, List.getD_cons_succ] at h0 h1 h2 h3 ⊢
    have := h0 (by omega)
    subst this
    unfold Lib.decodeN
    rw [if_pos c1]
  by_cases c2 : c < 2048
  · have E : encN c = [192 + c / 64, 128 + c % 64] := by unfold encN; rw [if_neg c1, if_pos c2]
    rw [E] at h0 h1 h2 h3 ⊢
    simp only [List.length_cons, List.length_nil, List.getD_cons_zero, List.getD_cons_succ] at h0 h1 h2 h3 ⊢
    have e0 := h0 (by omega)
    have e1 := h1 (by omega)
    clear h0 h1 h2 h3 E
    unfold Lib.decodeN
    rw [if_neg (by omega), if_pos (by omega), if_pos (by omega)]
    congr 1; omega
  by_cases c3 : c < 65536
  · have E : encN c = [224 + c / 4096, 128 + c / 64 % 64, 128 + c % 64] := by unfold encN; rw [if_neg c1, if_neg c2, if_pos c3]
    rw [E] at h0 h1 h2 h3 ⊢
    simp only [List.length_cons, List.length_nil, List.getD_cons_zero, List.getD_cons_succ] at h0 h1 h2 h3 ⊢
    have e0 := h0 (by omega)
    have e1 := h1 (by omega)
    have e2 := h2 (by omega)
    clear h0 h1 h2 h3 E
    unfold Lib.decodeN
    rw [if_neg (by omega), if_neg (by omega), if_pos (by omega), if_pos (by omega)]
    congr 1; omega
  · have E : encN c = [240 + c / 262144, 128 + c / 4096 % 64, 128 + c / 64 % 64, 128 + c % 64] := by unfold encN; rw [if_neg c1, if_neg c2, if_neg c3]
    rw [E] at h0 h1 h2 h3 ⊢
    simp only [List.length_cons, List.length_nil, List.getD_cons_zero, List.getD_cons_succ] at h0 h1 h2 h3 ⊢
    have e0 := h0 (by omega)
    have e1 := h1 (by omega)
    have e2 := h2 (by omega)
    have e3 := h3 (by omega)
    clear h0 h1 h2 h3 E
    unfold Lib.decodeN
    rw [if_neg (by omega), if_neg (by omega), if_neg (by omega), if_pos (by omega), if_pos (by omega)]
    congr 1; omega

theorem rest_enc (l : List Int) (hv : ∀ c ∈ l, vld c) : ∀ (pre : List UInt8), (rest ⟨(pre ++ l.flatMap Lib.encodeRune).toArray⟩ pre.length).map (·.1) = l := by
  induction l with
  | nil => intro pre; rw [rest_nil _ _ (by rw [ba_size]; simp)]; rfl
  | cons c l ih =>
    intro pre
    have hc := hv c (List.mem_cons_self ..)
    obtain ⟨n, rfl⟩ := Int.eq_ofNat_of_zero_le hc.1
    have hel := encodeRune_length (n : Int)
    have hd := dec_enc pre (l.flatMap Lib.encodeRune) n hc
    have e : pre ++ (((n : Int)) :: l).flatMap Lib.encodeRune = pre ++ Lib.encodeRune n ++ l.flatMap Lib.encodeRune := by simp
    rw [e, rest_cons _ _ (by rw [ba_size]; simp; omega), hd]
    have := ih (fun c hc => hv c (List.mem_cons_of_mem _ hc)) (pre ++ Lib.encodeRune n)
    simp only [List.map_cons, List.length_append] at this ⊢
    rw [this]
theorem rn_fold (s : ByteArray) : rn (foldS s) = (rn s).map lowV := by
  have h := rest_enc ((rn s).map lowV) (fun c hc => by obtain ⟨x, hx, rfl⟩ := List.mem_map.1 hc; exact lowV_vld x (rn_vld s x hx)) []
  have e : foldL (rn s) = ((rn s).map lowV).flatMap Lib.encodeRune := by unfold foldL; rw [List.flatMap_map]
  have e2 : foldS s = ⟨(((rn s).map lowV).flatMap Lib.encodeRune).toArray⟩ := by unfold foldS; rw [e]
  rw [e2]
  simpa [rn] using h
theorem lowV_low (c : Int) : lowV (lowV c) = lowV c := by
  unfold lowV
  repeat' split
  all_goals first | rfl | (exfalso; omega) | omega
theorem fold_fold (s : ByteArray) : foldS (foldS s) = foldS s := by
  have h := rn_fold s
  unfold foldS at *
  rw [h]
  unfold foldL
  rw [List.flatMap_map]
  simp only [lowV_low]
end Go.Proofs.YtilomlohjhhbnaaDoor
