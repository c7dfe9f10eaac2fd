/- name.Fit takes just so many columns; where the text fits, what is filled up begins with it. No condition. -/
import Derived.Test.YtilomlohjhhbnaaDoorRefH
set_option linter.unusedVariables false
set_option linter.unusedSimpArgs false
namespace Go.Proofs.YtilomlohjhhbnaaDoor
open Go.Proofs Go.RowKit

theorem sz_list (s : ByteArray) : s.data.toList.length = s.size := (Lib.size_eq s).symm
def sw (l : List (Int × Nat)) : Int := sumW (l.map (·.1))
theorem sw_nil : sw [] = 0 := rfl
theorem sw_cons (c : Int) (p : Nat) (l : List (Int × Nat)) : sw ((c, p) :: l) = wideV c + sw l := by simp [sw, sumW]
theorem fit_go (s : ByteArray) (W : Int) : ∀ (d q : Nat) (n : Int), s.size - q ≤ d → q ≤ s.size → n + sw (rest s q) > W - 1 → n ≤ W - 1 →
    (fitGo W (rest s q) n).1 ≤ W - 1 ∧ n ≤ (fitGo W (rest s q) n).1 ∧ q ≤ (fitGo W (rest s q) n).2 ∧ (fitGo W (rest s q) n).2 ≤ s.size ∧
      ∀ t, Agr s t (fitGo W (rest s q) n).2 → sw (rest t q) = (fitGo W (rest s q) n).1 - n + sw (rest t (fitGo W (rest s q) n).2)
  | 0, q, n, hd, hq, h1, h2 => by
    rw [rest_nil s q (by omega), sw_nil] at h1
    omega
  | d + 1, q, n, hd, hq, h1, h2 => by
    by_cases hp : q < s.size
    · have hw := wpos s q hp
      have hws := wid_size s q hp
      rw [rest_cons s q hp] at h1 ⊢
      rw [sw_cons] at h1
      unfold fitGo
      by_cases hb : n + wideV ((Utf8.decode s q).1 : Int) > W - 1
      · rw [if_pos hb]
        refine ⟨h2, by omega, by omega, by omega, fun t _ => ?_⟩
        show sw (rest t q) = n - n + sw (rest t q)
        omega
      · rw [if_neg hb]
        have hr := wideV_range ((Utf8.decode s q).1 : Int)
        obtain ⟨a1, a2, a3, a4, a5⟩ := fit_go s W d (q + (Utf8.decode s q).2) (n + wideV ((Utf8.decode s q).1 : Int)) (by omega) hws (by omega) (by omega)
        refine ⟨a1, by omega, by omega, a4, fun t ht => ?_⟩
        have hdt := dec_agr ht q (by omega) a3
        have hlt : q < t.size := by have := ht.let_; omega
        rw [rest_cons t q hlt, hdt, sw_cons, a5 t ht]
        omega
    · rw [rest_nil s q hp, sw_nil] at h1
      omega
theorem whole_sw (s t : ByteArray) (ht : Agr s t s.size) : ∀ (d q : Nat), s.size - q ≤ d → q ≤ s.size → sw (rest t q) = sw (rest s q) + sw (rest t s.size)
  | 0, q, hd, hq => by
    have : q = s.size := by omega
    subst this
    rw [rest_nil s s.size (by omega), sw_nil]
    omega
  | d + 1, q, hd, hq => by
    by_cases hp : q < s.size
    · have hw := wpos s q hp
      have hws := wid_size s q hp
      have hdt := dec_agr ht q hp hws
      have hlt : q < t.size := by have := ht.let_; omega
      rw [rest_cons s q hp, rest_cons t q hlt, hdt, sw_cons, sw_cons, whole_sw s t ht d _ (by omega) hws]
      omega
    · have : q = s.size := by omega
      subst this
      rw [rest_nil s s.size (by omega), sw_nil]
      omega
theorem dec_ascii (t : ByteArray) (q : Nat) (h : (t.get! q).toNat < 128) : Utf8.decode t q = ((t.get! q).toNat, 1) := by
  rw [Lib.decode_at]; unfold Lib.decodeN; rw [if_pos h]
theorem fill_sw (t : ByteArray) (e : Nat) (h : ∀ j, e ≤ j → j < t.size → (t.get! j).toNat = 46 ∨ (t.get! j).toNat = 32) : ∀ (d q : Nat), t.size - q ≤ d → e ≤ q → q ≤ t.size → sw (rest t q) = (t.size : Int) - q
  | 0, q, hd, he, hq => by rw [rest_nil t q (by omega), sw_nil]; omega
  | d + 1, q, hd, he, hq => by
    by_cases hp : q < t.size
    · have hb := h q he hp
      have hd1 := dec_ascii t q (by omega)
      rw [rest_cons t q hp, hd1, sw_cons]
      simp only
      rw [fill_sw t e h d (q + 1) (by omega) (by omega) (by omega)]
      have : wideV (((t.get! q).toNat : Nat) : Int) = 1 := by
        rcases hb with hb | hb <;> rw [hb] <;> rfl
      rw [this]; omega
    · rw [rest_nil t q hp, sw_nil]; omega
theorem agr_of (S X : List UInt8) (e : Nat) (he : e ≤ S.length) (hX : ∀ x ∈ X, x = 46 ∨ x = 32) :
    Agr ⟨S.toArray⟩ ⟨(S.take e ++ X).toArray⟩ e ∧ ∀ j, e ≤ j → j < e + X.length → ((⟨(S.take e ++ X).toArray⟩ : ByteArray).get! j).toNat = 46 ∨ ((⟨(S.take e ++ X).toArray⟩ : ByteArray).get! j).toNat = 32 := by
  have hl : (S.take e).length = e := by simp; omega
  have hx : ∀ j, e ≤ j → (S.take e ++ X).getD j 0 = X.getD (j - e) 0 := by
    intro j hj
    rw [List.getD_eq_getElem?_getD, List.getElem?_append_right (by omega), hl, List.getD_eq_getElem?_getD]
  refine ⟨⟨by simp [ByteArray.size]; omega, by simp [ByteArray.size]; omega, fun j hj => ?_, fun j hj => ?_⟩, fun j h1 h2 => ?_⟩
  · rw [get_list, get_list, List.getD_eq_getElem?_getD, List.getElem?_append_left (by omega), List.getElem?_take, if_pos hj, List.getD_eq_getElem?_getD]
  · rw [get_list, hx j hj]
    rcases Nat.lt_or_ge (j - e) X.length with hlt | hge
    · rw [List.getD_eq_getElem?_getD, List.getElem?_eq_getElem hlt]
      rcases hX _ (List.getElem_mem hlt) with h | h <;> simp [h]
    · rw [List.getD_eq_getElem?_getD, List.getElem?_eq_none hge]; simp
  · rw [get_list, hx j h1]
    have hlt : j - e < X.length := by omega
    rw [List.getD_eq_getElem?_getD, List.getElem?_eq_getElem hlt]
    rcases hX _ (List.getElem_mem hlt) with h | h <;> simp [h]
theorem fitS_cut (s : ByteArray) (W : Int) (h0 : ¬ (W < 0 ∨ W > 4096)) (h1 : ¬ sumW (rn s) ≤ W) (h2 : W ≠ 0) :
    fitS s W = ⟨(s.data.toList.take (fitGo W (rest s 0) 0).2 ++ (46 :: List.replicate (W - 1 - (fitGo W (rest s 0) 0).1).toNat 32)).toArray⟩ := by
  unfold fitS
  rw [if_neg h0, if_neg h1, if_neg h2]
  obtain ⟨⟨S⟩⟩ := s
  apply ByteArray.ext
  apply Array.toList_inj.1
  unfold blanks
  simp [Lib.extract_data]
theorem fitS_full (s : ByteArray) (W : Int) (h0 : ¬ (W < 0 ∨ W > 4096)) (h1 : sumW (rn s) ≤ W) :
    fitS s W = ⟨(s.data.toList.take s.size ++ (List.replicate (W - sumW (rn s)).toNat 32)).toArray⟩ := by
  unfold fitS
  rw [if_neg h0, if_pos h1]
  obtain ⟨⟨S⟩⟩ := s
  apply ByteArray.ext
  apply Array.toList_inj.1
  unfold blanks
  simp [ByteArray.size]
theorem fit_width (s : ByteArray) (W : Int) (h0 : 0 ≤ W) (h1 : W ≤ 4096) : sumW (rn (fitS s W)) = W := by
  have hr := sumW_range (rn s)
  by_cases hf : sumW (rn s) ≤ W
  · rw [fitS_full s W (by omega) hf]
    obtain ⟨ha, hx⟩ := agr_of s.data.toList (List.replicate (W - sumW (rn s)).toNat 32) s.size (by rw [sz_list]; omega) (fun x hx => .inr (List.eq_of_mem_replicate hx))
    have hsz : (⟨(s.data.toList.take s.size ++ (List.replicate (W - sumW (rn s)).toNat 32)).toArray⟩ : ByteArray).size = s.size + (W - sumW (rn s)).toNat := by
      have := sz_list s
      show (s.data.toList.take s.size ++ (List.replicate (W - sumW (rn s)).toNat 32)).length = _
      rw [List.length_append, List.length_take, List.length_replicate, this, Nat.min_self]
    have hS : (⟨s.data.toList.toArray⟩ : ByteArray) = s := by simp
    rw [hS] at ha
    generalize (⟨(s.data.toList.take s.size ++ (List.replicate (W - sumW (rn s)).toNat 32)).toArray⟩ : ByteArray) = t at *
    have e1 := whole_sw s t ha s.size 0 (by omega) (by omega)
    have e2 := fill_sw t s.size (fun j h1 h2 => hx j h1 (by simp; omega)) t.size s.size (by omega) (by omega) (by omega)
    have e3 : sw (rest t 0) = sumW (rn t) := rfl
    have e4 : sw (rest s 0) = sumW (rn s) := rfl
    omega
  · by_cases hz : W = 0
    · subst hz
      have : fitS s 0 = ⟨#[]⟩ := by unfold fitS; rw [if_neg (by omega), if_neg hf, if_pos rfl]
      rw [this]; rfl
    · rw [fitS_cut s W (by omega) hf hz]
      have e4 : sw (rest s 0) = sumW (rn s) := rfl
      obtain ⟨a1, a2, a3, a4, a5⟩ := fit_go s W s.size 0 0 (by omega) (by omega) (by omega) (by omega)
      obtain ⟨⟨N, P⟩, hNP⟩ : ∃ x, fitGo W (rest s 0) 0 = x := ⟨_, rfl⟩
      rw [hNP] at a1 a2 a3 a4 a5 ⊢
      simp only at a1 a2 a3 a4 a5 ⊢
      obtain ⟨ha, hx⟩ := agr_of s.data.toList (46 :: List.replicate (W - 1 - N).toNat 32) P (by rw [sz_list]; omega) (fun x hx => by
        rcases List.mem_cons.1 hx with h | h
        · exact .inl h
        · exact .inr (List.eq_of_mem_replicate h))
      have hsz : (⟨(s.data.toList.take P ++ (46 :: List.replicate (W - 1 - N).toNat 32)).toArray⟩ : ByteArray).size = P + (1 + (W - 1 - N).toNat) := by
        have := sz_list s
        show (s.data.toList.take P ++ (46 :: List.replicate (W - 1 - N).toNat 32)).length = _
        rw [List.length_append, List.length_take, List.length_cons, List.length_replicate, this]
        omega
      have hS : (⟨s.data.toList.toArray⟩ : ByteArray) = s := by simp
      rw [hS] at ha
      generalize (⟨(s.data.toList.take P ++ (46 :: List.replicate (W - 1 - N).toNat 32)).toArray⟩ : ByteArray) = t at *
      have e1 := a5 t ha
      have e2 := fill_sw t P (fun j h1 h2 => hx j h1 (by simp; omega)) t.size P (by omega) (by omega) (by omega)
      have e3 : sw (rest t 0) = sumW (rn t) := rfl
      omega
end Go.Proofs.YtilomlohjhhbnaaDoor
