/- The document's Short is what name.Short answers. Condition: the text has at most 2^18 bytes. -/
import Derived.Test.YtilomlohjhhbnaaDoorRefE
set_option linter.unusedVariables false
set_option linter.unusedSimpArgs false
namespace Go.Proofs.YtilomlohjhhbnaaDoor
open Go.Proofs Go.RowKit Go.Proofs.YtilomlohjhhbnaaDoorW.PrintWords R

def sgo : Bool → List UInt8 → List UInt8
  | _, [] => []
  | b, c :: l => if c = 32 then sgo true l else (if b then c :: sgo false l else sgo false l)
theorem sgo_cons (b : Bool) (c : UInt8) (l : List UInt8) : sgo b (c :: l) = if c = 32 then sgo true l else (if b then c :: sgo false l else sgo false l) := by rw [sgo]
theorem sgo_none : ∀ l : List UInt8, 32 ∉ l → sgo false l = []
  | [], _ => rfl
  | c :: l, h => by
    simp only [List.mem_cons, not_or] at h
    rw [sgo_cons]
    rw [if_neg (fun e => h.1 e.symm)]
    simpa using sgo_none l h.2
theorem sgo_none_t (l : List UInt8) (h : 32 ∉ l) : sgo true l = l.take 1 := by
  cases l with
  | nil => rfl
  | cons c l =>
    simp only [List.mem_cons, not_or] at h
    rw [sgo_cons]
    rw [if_neg (fun e => h.1 e.symm), sgo_none l h.2]
    simp
theorem sgo_cut_f : ∀ a r : List UInt8, 32 ∉ a → sgo false (a ++ 32 :: r) = sgo true r
  | [], r, _ => by simp only [List.nil_append]; rw [sgo_cons]
                   simp
  | c :: a, r, h => by
    simp only [List.mem_cons, not_or] at h
    rw [List.cons_append]
    rw [sgo_cons]
    rw [if_neg (fun e => h.1 e.symm), sgo_cut_f a r h.2]
    simp
theorem sgo_cut (a r : List UInt8) (h : 32 ∉ a) : sgo true (a ++ 32 :: r) = a.take 1 ++ sgo true r := by
  cases a with
  | nil =>
    simp only [List.nil_append, List.take_nil]
    rw [sgo_cons]
    simp
  | cons c a =>
    simp only [List.mem_cons, not_or] at h
    rw [List.cons_append]
    rw [sgo_cons]
    rw [if_neg (fun e => h.1 e.symm), sgo_cut_f a r h.2]
    simp
theorem split_sgo : ∀ (n : Nat) (l : List UInt8), l.count 32 = n → (Lib.splitK [32] 0 n l).flatMap (fun w => w.take 1) = sgo true l
  | 0, l, h => by
    rw [sgo_none_t l (List.count_eq_zero.1 h)]
    simp [Lib.splitK]
  | n + 1, l, h => by
    unfold Lib.splitK
    rw [Lib.index_one]
    by_cases hm : Lib.indexByte l 32 = -1
    · have hc := Lib.count_miss (s := l) (sub := [32]) (by rw [Lib.index_one]; exact hm)
      rw [Lib.count_one] at hc
      omega
    · have hg := Lib.indexByte_ge l 32
      obtain ⟨i, hi⟩ : ∃ i : Nat, Lib.indexByte l 32 = i := ⟨(Lib.indexByte l 32).toNat, by omega⟩
      obtain ⟨h1, h2⟩ := Lib.indexByte_some hi
      rw [if_neg (by simpa using hm), hi]
      have hlt : i < l.length := by
        rcases Nat.lt_or_ge i l.length with h | h
        · exact h
        · rw [List.getElem?_eq_none h] at h1; simp at h1
      have hli : l[i] = 32 := by rw [List.getElem?_eq_getElem hlt] at h1; exact Option.some.inj h1
      have hna : (32 : UInt8) ∉ l.take i := by
        intro hmem
        obtain ⟨j, hj, e⟩ := List.mem_iff_getElem.1 hmem
        have hj' : j < i := by rw [List.length_take] at hj; omega
        refine h2 j hj' ?_
        rw [List.getElem_take] at e
        rw [List.getElem?_eq_getElem (by omega), e]
      have hl : l = l.take i ++ 32 :: l.drop (i + 1) := by
        rw [← hli, ← List.drop_eq_getElem_cons hlt, List.take_append_drop]
      have hcount : (l.drop (i + 1)).count 32 = n := by
        have hh := h
        rw [hl, List.count_append, List.count_cons_self, List.count_eq_zero.2 hna] at hh
        omega
      have hr := sgo_cut (l.take i) (l.drop (i + 1)) hna
      rw [← hl] at hr
      rw [hr, List.flatMap_cons]
      have ih := split_sgo n (l.drop (i + 1)) hcount
      simp only [Int.toNat_natCast, Nat.add_zero, List.length_cons, List.length_nil, Nat.zero_add] at ih ⊢
      rw [ih]
theorem firsts_sgo (p : ByteArray) : firstsL (piecesS p) = sgo true p.data.toList := by
  unfold piecesS firstsL
  have hd := Lib.splitB_data ⟨#[32]⟩ 0 (Lib.countB p ⟨#[32]⟩) p
  have hc : Lib.countB p ⟨#[32]⟩ = p.data.toList.count 32 := Lib.count_one 32 p.data.toList
  have := split_sgo (Lib.countB p ⟨#[32]⟩) p.data.toList hc.symm
  rw [← this]
  have e : (⟨#[32]⟩ : ByteArray).data.toList = [32] := rfl
  rw [e] at hd
  rw [← hd, List.flatMap_map]
theorem ext_one (l : List UInt8) (i : Nat) (h : i < l.length) : (⟨l.toArray⟩ : ByteArray).extract i (i + 1) = ⟨[l[i]].toArray⟩ := by
  apply ByteArray.ext
  apply Array.toList_inj.1
  rw [Lib.extract_data]
  show (l.drop i).take (i + 1 - i) = [l[i]]
  rw [show i + 1 - i = 1 by omega, List.drop_eq_getElem_cons h]
  rfl
theorem b32 (b : UInt8) : ((b.toNat : Int) = 32) ↔ b = 32 := ⟨fun h => UInt8.toNat_inj.1 (by simpa using (by omega : b.toNat = 32)), fun h => by subst h; rfl⟩
def prevB (l : List UInt8) (i : Nat) : Bool := decide (i = 0) || decide (l.getD (i - 1) 0 = 32)
theorem short_go (l : List UInt8) (hl : l.length ≤ 10000000) (d : Nat) : ∀ (k i : Nat) (A : List UInt8), l.length - i ≤ d → d + 1 ≤ k → i ≤ l.length → A.length ≤ i →
    lombardref04_Short.l0 k ⟨l.toArray⟩ ⟨A.toArray⟩ i = some ⟨(A ++ sgo (prevB l i) (l.drop i)).toArray⟩ := by
  induction d with
  | zero =>
    intro k i A hd hk hi hA
    obtain ⟨k, rfl⟩ : ∃ m, k = m + 1 := ⟨k - 1, by omega⟩
    have hil : i = l.length := by omega
    subst hil
    simp only [lombardref04_Short.l0, ba_size]
    rw [if_neg (by omega), List.drop_length]
    simp [sgo]
  | succ d ih =>
    intro k i A hd hk hi hA
    by_cases hlt : i < l.length
    · obtain ⟨k, rfl⟩ : ∃ m, k = m + 1 := ⟨k - 1, by omega⟩
      have hw := wrap_succ i (by omega)
      have hp1 : prevB l (i + 1) = decide (l[i] = 32) := by
        unfold prevB
        simp [List.getD_eq_getElem?_getD, hlt]
      have hx := ext_one l i hlt
      have hn1 : ((i : Int)).toNat = i := by omega
      have hn2 : (((i + 1 : Nat) : Int)).toNat = i + 1 := by omega
      have hdr : l.drop i = l[i] :: l.drop (i + 1) := List.drop_eq_getElem_cons hlt
      simp only [lombardref04_Short.l0, hw, ba_size, hn1, hn2, hx, ba_append, List.length_cons, List.length_nil]
      rw [if_pos (by omega), if_pos (by omega), bt_list l i hlt, hdr]
      have ihA := ih k (i + 1) A (by omega) (by omega) (by omega) (by omega)
      have ihB := ih k (i + 1) (A ++ [l[i]]) (by omega) (by omega) (by omega) (by simp; omega)
      rw [hp1] at ihA ihB
      by_cases hb : l[i] = 32
      · rw [if_pos ((b32 _).2 hb), ihA]
        rw [sgo_cons]
        rw [if_pos hb, decide_eq_true hb]
      · rw [if_neg (fun e => hb ((b32 _).1 e))]
        rw [decide_eq_false hb] at ihA ihB
        by_cases h0 : i = 0
        · have hpb : prevB l i = true := by unfold prevB; simp [h0]
          rw [if_pos (by omega), if_pos (by omega), if_pos (by omega), if_pos (by omega), ihB, hpb]
          rw [sgo_cons]
          rw [if_neg hb]
          simp
        · have hwm : wrap64 ((i : Int) - 1) = ((i - 1 : Nat) : Int) := by
            rw [w64 (by omega) (by omega)]; omega
          rw [if_neg (by omega), hwm, if_pos (by omega), if_pos (by omega), bt_list l (i - 1) (by omega)]
          by_cases hp : l[i - 1] = 32
          · have hpb : prevB l i = true := by unfold prevB; simp [List.getD_eq_getElem?_getD, show i - 1 < l.length by omega, hp]
            rw [if_pos ((b32 _).2 hp), if_pos (by omega), if_pos (by omega), if_pos (by omega), ihB, hpb]
            rw [sgo_cons]
            rw [if_neg hb]
            simp
          · have hpb : prevB l i = false := by unfold prevB; simp [List.getD_eq_getElem?_getD, show i - 1 < l.length by omega, hp, h0]
            rw [if_neg (fun e => hp ((b32 _).1 e)), ihA, hpb]
            rw [sgo_cons]
            rw [if_neg hb]
            simp
    · obtain rfl : i = l.length := by omega
      exact ih k l.length A (by omega) (by omega) (Nat.le_refl _) hA
theorem short_val (s : ByteArray) (hs : s.size ≤ 262144) (k : Nat) (hk : 16 * s.size + 20 ≤ k) : lombardref04_Short.f k s = some (shortS s) := by
  unfold lombardref04_Short.f
  rw [plain_val s hs k (by omega)]
  have hp := plainS_size s
  have h := short_go (plainS s).data.toList (by rw [size_toList]; omega) (plainS s).size k 0 [] (by rw [size_toList]; omega) (by omega) (by omega) (by simp)
  rw [Option.bind_some]
  unfold shortS
  rw [firsts_sgo]
  simpa [prevB] using h
end Go.Proofs.YtilomlohjhhbnaaDoor
