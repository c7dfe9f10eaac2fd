/- What the document's Plain and Short come to, and that they are what name.Plain and name.Short answer. Condition: the text has at most 2^20 bytes. -/
import Derived.Test.YtilomlohjhhbnaaDoorUtf
import Derived.Test.YtilomlohjhhbnaaDoorShort
import Derived.Lib.IndexBytes
set_option linter.unusedVariables false
set_option linter.unusedSimpArgs false
namespace Go.Proofs.YtilomlohjhhbnaaDoor
open Go.Proofs Go.RowKit Go.Proofs.YtilomlohjhhbnaaDoorW.PrintWords R

theorem bt_list (l : List UInt8) (i : Nat) (h : i < l.length) : bt ⟨l.toArray⟩ (i : Int) = (l[i].toNat : Int) := by
  rw [bt_get _ i (by rw [ba_size]; exact h), get_list]
  simp [List.getD_eq_getElem?_getD, h]
def grB (b : UInt8) : List UInt8 := if 97 ≤ b.toNat ∧ b.toNat ≤ 122 then [UInt8.ofNat (b.toNat - 32)] else []
def greatL (l : List UInt8) : List UInt8 := l.flatMap grB
theorem grB_length (b : UInt8) : (grB b).length ≤ 1 := by unfold grB; split <;> simp
theorem greatL_length (l : List UInt8) : (greatL l).length ≤ l.length := by
  unfold greatL
  induction l with
  | nil => simp
  | cons a l ih => have := grB_length a; rw [List.flatMap_cons, List.length_append, List.length_cons]; omega
theorem great_go (l : List UInt8) (hl : l.length ≤ 1000000) (d : Nat) : ∀ (k i : Nat) (A : List UInt8), l.length - i ≤ d → d + 1 ≤ k → i ≤ l.length → A.length ≤ i →
    lombardref04_great.l0 k ⟨l.toArray⟩ ⟨A.toArray⟩ i = some ⟨(A ++ greatL (l.drop i)).toArray⟩ := by
  induction d with
  | zero =>
    intro k i A hd hk hi hA
    obtain ⟨k, rfl⟩ : ∃ m, k = m + 1 := ⟨k - 1, by omega⟩
    have hil : i = l.length := by omega
    subst hil
    simp only [lombardref04_great.l0, ba_size]
    rw [if_neg (by omega), List.drop_length]
    simp [greatL]
  | succ d ih =>
    intro k i A hd hk hi hA
    by_cases hlt : i < l.length
    · obtain ⟨k, rfl⟩ : ∃ m, k = m + 1 := ⟨k - 1, by omega⟩
      have hdr : l.drop i = l[i] :: l.drop (i + 1) := List.drop_eq_getElem_cons hlt
      have hw := wrap_succ i (by omega)
      have I := fun A' (h : A'.length ≤ i + 1) => ih k (i + 1) A' (by omega) (by omega) (by omega) h
      have hg := grB_length l[i]
      simp only [lombardref04_great.l0, ba_size, bt_list l i hlt, hw, Option.bind_some]
      rw [if_pos (by omega), if_pos (by omega), hdr]
      have hcat : greatL (l[i] :: l.drop (i + 1)) = grB l[i] ++ greatL (l.drop (i + 1)) := by unfold greatL; rw [List.flatMap_cons]
      rw [hcat]
      obtain ⟨b, hb⟩ : ∃ b, l[i] = b := ⟨_, rfl⟩
      rw [hb]
      have hlt2 := b.toNat_lt
      by_cases h1 : 97 ≤ b.toNat
      · rw [if_pos (by omega)]
        by_cases h2 : b.toNat ≤ 122
        · rw [if_pos (by omega)]
          have e : strOfNums [((b.toNat : Int) - 32) % 256] = ⟨(grB b).toArray⟩ := by
            unfold strOfNums grB
            rw [if_pos ⟨h1, h2⟩, show (((b.toNat : Int) - 32) % 256) = ((b.toNat - 32 : Nat) : Int) by omega]
            simp
          rw [e, ba_size, if_pos (by rw [hb] at hg; omega), ba_append, I _ (by rw [hb] at hg; simp; omega)]
          simp only [List.append_assoc]
        · rw [if_neg (by omega), I _ (by omega)]
          have : grB b = [] := by unfold grB; rw [if_neg (by omega)]
          rw [this]; rfl
      · rw [if_neg (by omega), I _ (by omega)]
        have : grB b = [] := by unfold grB; rw [if_neg (by omega)]
        rw [this]; rfl
    · obtain rfl : i = l.length := by omega
      exact ih k l.length A (by omega) (by omega) (Nat.le_refl _) hA
theorem great_ref (l : List UInt8) (hl : l.length ≤ 1000000) (k : Nat) (hk : l.length + 1 ≤ k) : lombardref04_great.f k ⟨l.toArray⟩ = some ⟨(greatL l).toArray⟩ := by
  unfold lombardref04_great.f
  have := great_go l hl l.length k 0 [] (by omega) hk (by omega) (by simp)
  simpa using this

/-- The document's plain letters of a sign. -/
def plainR (c : Int) : List UInt8 :=
  if c = 228 ∨ c = 230 then [97, 101] else if c = 246 ∨ c = 248 ∨ c = 339 then [111, 101] else if c = 252 then [117, 101] else if c = 223 then [115, 115] else if c = 254 then [116, 104] else if c = 229 then [97, 97]
  else if 224 ≤ c ∧ c ≤ 255 then [rowsB.data.toList.getD (c - 224).toNat 0] else if 256 ≤ c ∧ c ≤ 383 then [moreB.data.toList.getD (c - 256).toNat 0] else []
theorem plainR_length (c : Int) : (plainR c).length ≤ 2 := by
  unfold plainR
  repeat' split
  all_goals simp
theorem rows_bt : ∀ i : Fin 32, strOfNums [bt rowsB (i.val : Int)] = ⟨[rowsB.data.toList.getD i.val 0].toArray⟩ := by decide +kernel
theorem more_bt : ∀ i : Fin 128, strOfNums [bt moreB (i.val : Int)] = ⟨[moreB.data.toList.getD i.val 0].toArray⟩ := by decide +kernel

def pairsP : List Int := [228, 230, 246, 248, 339, 252, 223, 254, 229]
def textsT : List ByteArray := [⟨#[97, 101]⟩, ⟨#[97, 101]⟩, ⟨#[111, 101]⟩, ⟨#[111, 101]⟩, ⟨#[111, 101]⟩, ⟨#[117, 101]⟩, ⟨#[115, 115]⟩, ⟨#[116, 104]⟩, ⟨#[97, 97]⟩]
theorem rdOf_at (L : List ByteArray) (i : Nat) : rdOf ByteArray.empty L (i : Int) = L.getD i ByteArray.empty := by unfold rdOf; simp
theorem plain_step (k : Nat) (c : Int) (i : Nat) (hi : i < 9) : lombardref04_plain.l0 (k + 1) c pairsP textsT i = if pairsP.getD i 0 = c then some (textsT.getD i ByteArray.empty) else lombardref04_plain.l0 k c pairsP textsT ((i + 1 : Nat) : Int) := by
  have e1 : pairsP.length = 9 := rfl
  have e2 : textsT.length = 9 := rfl
  simp only [lombardref04_plain.l0, e1, e2, rd_at, rdOf_at, wrap_succ i (by omega)]
  rw [if_pos (by omega), if_pos (by omega)]
  by_cases h : pairsP.getD i 0 = c
  · rw [if_pos h, if_pos h, if_pos (by omega)]
  · rw [if_neg h, if_neg h]
theorem plain_j1 (k : Nat) (c : Int) (x : Bool) (h0 : 0 ≤ c) (h1 : c ≤ 1114111) (hx : x = decide (224 ≤ c ∧ c ≤ 255)) : lombardref04_plain.j1 (k + 1) c x = some (if 224 ≤ c ∧ c ≤ 255 then ⟨[rowsB.data.toList.getD (c - 224).toNat 0].toArray⟩ else if 256 ≤ c ∧ c ≤ 383 then ⟨[moreB.data.toList.getD (c - 256).toNat 0].toArray⟩ else ⟨#[]⟩) := by
  simp only [lombardref04_plain.j1]
  subst hx
  by_cases h : 224 ≤ c ∧ c ≤ 255
  · rw [if_pos (decide_eq_true h), if_pos h, w64 (x := c - 224) (by omega) (by omega), if_pos (by omega), if_pos (by omega)]
    have := rows_bt ⟨(c - 224).toNat, by omega⟩
    simp only [show (((c - 224).toNat : Nat) : Int) = c - 224 by omega] at this
    exact congrArg some this
  · rw [if_neg (by simpa using h), if_neg h]
    by_cases h2 : 256 ≤ c
    · rw [if_pos h2]
      by_cases h3 : c ≤ 383
      · rw [if_pos h3, if_pos (show 256 ≤ c ∧ c ≤ 383 from ⟨h2, h3⟩), w64 (x := c - 256) (by omega) (by omega), if_pos (by omega), if_pos (by omega)]
        have := more_bt ⟨(c - 256).toNat, by omega⟩
        simp only [show (((c - 256).toNat : Nat) : Int) = c - 256 by omega] at this
        exact congrArg some this
      · rw [if_neg h3, if_neg (show ¬ (256 ≤ c ∧ c ≤ 383) from fun h => h3 h.2)]
    · rw [if_neg h2, if_neg (show ¬ (256 ≤ c ∧ c ≤ 383) from fun h => h2 h.1)]
theorem plain_ref (k : Nat) (hk : 12 ≤ k) (c : Int) (h0 : 0 ≤ c) (h1 : c ≤ 1114111) : lombardref04_plain.f k c = some ⟨(plainR c).toArray⟩ := by
  obtain ⟨k, rfl⟩ : ∃ m, k = m + 11 := ⟨k - 11, by omega⟩
  show lombardref04_plain.l0 (k + 11) c pairsP textsT ((0 : Nat) : Int) = _
  have S := fun k i hi => plain_step k c i hi
  rw [S _ 0 (by omega), S _ 1 (by omega), S _ 2 (by omega), S _ 3 (by omega), S _ 4 (by omega), S _ 5 (by omega), S _ 6 (by omega), S _ 7 (by omega), S _ 8 (by omega)]
  have e9 : lombardref04_plain.l0 (k + 2) c pairsP textsT ((8 + 1 : Nat) : Int) = some (if 224 ≤ c ∧ c ≤ 255 then ⟨[rowsB.data.toList.getD (c - 224).toNat 0].toArray⟩ else if 256 ≤ c ∧ c ≤ 383 then ⟨[moreB.data.toList.getD (c - 256).toNat 0].toArray⟩ else ⟨#[]⟩) := by
    have e1 : pairsP.length = 9 := rfl
    simp only [lombardref04_plain.l0, e1]
    rw [if_neg (by omega)]
    by_cases h : 224 ≤ c
    · rw [if_pos h, plain_j1 k c _ h0 h1 (by simp [h])]
    · rw [if_neg h, plain_j1 k c _ h0 h1 (by simp [h])]
  rw [e9]
  have g : ∀ i v, pairsP.getD i 0 = v → (pairsP.getD i 0 = c) = (c = v) := fun i v h => by rw [h]; exact propext ⟨Eq.symm, Eq.symm⟩
  simp only [g 0 228 rfl, g 1 230 rfl, g 2 246 rfl, g 3 248 rfl, g 4 339 rfl, g 5 252 rfl, g 6 223 rfl, g 7 254 rfl, g 8 229 rfl]
  unfold plainR
  generalize rowsB.data.toList.getD (c - 224).toNat 0 = A
  generalize moreB.data.toList.getD (c - 256).toNat 0 = B
  by_cases c1 : c = 228
  · simp [c1]; rfl
  by_cases c2 : c = 230
  · simp [c2]; rfl
  by_cases c3 : c = 246
  · simp [c3]; rfl
  by_cases c4 : c = 248
  · simp [c4]; rfl
  by_cases c5 : c = 339
  · simp [c5]; rfl
  by_cases c6 : c = 252
  · simp [c6]; rfl
  by_cases c7 : c = 223
  · simp [c7]; rfl
  by_cases c8 : c = 254
  · simp [c8]; rfl
  by_cases c9 : c = 229
  · simp [c9]; rfl
  simp only [c1, c2, c3, c4, c5, c6, c7, c8, c9, if_false, or_self]
  repeat' split
  all_goals rfl

def pieceR (c : Int) : List UInt8 :=
  (if digitB c = true then [UInt8.ofNat c.toNat] else []) ++ (if c = 32 ∨ c = 45 then [32] else []) ++ (if 97 ≤ c ∧ c ≤ 122 then [UInt8.ofNat (c - 32).toNat] else []) ++ (if 128 ≤ c then greatL (plainR c) else [])
def upB (b : UInt8) : UInt8 := UInt8.ofNat (upZ (b.toNat : Int)).toNat
set_option maxRecDepth 100000 in
theorem piece_small : ∀ n : Fin 384, ¬ (65 ≤ n.val ∧ n.val ≤ 90) → (pieceL (n.val : Int)).map upB = pieceR (n.val : Int) := by decide +kernel
theorem plainL_big (c : Int) (h : 384 ≤ c) : plainL c = [] := by
  unfold plainL
  repeat' split
  all_goals first | rfl | (exfalso; omega)
theorem plainR_big (c : Int) (h : 384 ≤ c) : plainR c = [] := by
  unfold plainR
  repeat' split
  all_goals first | rfl | (exfalso; omega)
theorem piece_eq (c : Int) (h0 : 0 ≤ c) (hu : ¬ (65 ≤ c ∧ c ≤ 90)) : (pieceL c).map upB = pieceR c := by
  by_cases h : c < 384
  · obtain ⟨n, rfl⟩ := Int.eq_ofNat_of_zero_le h0
    exact piece_small ⟨n, by omega⟩ (by simp only []; omega)
  · have hd : digitB c = false := by unfold digitB; exact decide_eq_false (by omega)
    have e1 : pieceL c = [] := by
      unfold pieceL
      rw [if_neg (show ¬ (c < 128 ∧ (letterB c = true ∨ digitB c = true)) from fun h => by omega), if_neg (show ¬ (c = 32 ∨ c = 45) by omega), if_pos (show 128 ≤ c by omega), plainL_big c (by omega)]
    have e2 : pieceR c = [] := by
      unfold pieceR
      rw [hd, if_neg (show ¬ (false = true) by simp), if_neg (show ¬ (c = 32 ∨ c = 45) by omega), if_neg (show ¬ (97 ≤ c ∧ c ≤ 122) by omega), if_pos (show 128 ≤ c by omega), plainR_big c (by omega)]
      rfl
    rw [e1, e2]
    rfl
theorem lowV_upper (c : Int) : ¬ (65 ≤ lowV c ∧ lowV c ≤ 90) := by
  unfold lowV
  repeat' split
  all_goals omega
theorem plainS_eq (s : ByteArray) : plainS s = ⟨((rn s).flatMap fun c => pieceR (lowV c)).toArray⟩ := by
  unfold plainS
  rw [rn_fold]
  have e : ∀ l : List UInt8, strOfNums ((numsOf l).map upZ) = ⟨(l.map upB).toArray⟩ := by
    intro l
    unfold strOfNums numsOf
    rw [List.map_map, List.map_map]
    rfl
  rw [e]
  congr 2
  unfold plL
  rw [List.map_flatMap, List.flatMap_map]
  have key : ∀ l : List Int, (∀ c ∈ l, vld c) → (l.flatMap fun a => (pieceL (lowV a)).map upB) = l.flatMap fun c => pieceR (lowV c) := by
    intro l hl
    induction l with
    | nil => rfl
    | cons a l ih =>
      rw [List.flatMap_cons, List.flatMap_cons, ih (fun c hc => hl c (List.mem_cons_of_mem _ hc)), piece_eq (lowV a) (lowV_vld a (hl a (List.mem_cons_self ..))).1 (lowV_upper a)]
  exact key _ (rn_vld s)
end Go.Proofs.YtilomlohjhhbnaaDoor
