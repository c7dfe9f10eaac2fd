/- What wire.Reader's methods answer, as plain functions of the text, the place and the fault; that the printed functions are these. Condition: the text has at most 2^40 bytes. What wire.Reader's other methods answer. Condition: the text has at most 2^40 bytes. Readers and the bytes that they read: what is read without a fault is its own encoding, byte for byte, and an encoding is read back. Closed under pairs and lists. No program in sight. Readers of whole numbers with a sign, of texts, of truths: what they read. No program in sight. The Reader's contracts with the plain functions; the record of a link. Condition: the text has at most 1000000 bytes. The groups of seven bits, from the highest down, as wire.Writer.Uint writes them, are encU. No program in sight. wire.Writer's state: a byte more behind an append and a store. What wire.Writer.Uint writes. What wire.Writer's Int writes. What wire.Writer's Ints writes; movers of a writer's state. The state in which a decoder walks: the list so far, the Reader, the receiver's box; its movers. A store into a block, as a step. What Reader.Ints reads. -/
import Derived.Test.YtlkfbdeddfhocaaQx8
import Derived.Test.YtlkfbdeddfhocaaQx9
import Derived.Lib.Hide
import Derived.Lib.Strings
import Derived.Laws.Bits64
set_option linter.unusedVariables false
set_option linter.unusedSimpArgs false
namespace Go.Proofs.Ytlkfbdeddfhocaa
open Go.Proofs Go.RowKit Go.Proofs.YtlkfbdeddfhocaaW.PrintWords Q

theorem w64 {x : Int} (h0 : -9223372036854775808 ≤ x) (h1 : x ≤ 9223372036854775807) : wrap64 x = x := by
  unfold wrap64
  omega
theorem u64w {x : Int} (h0 : 0 ≤ x) (h1 : x < 18446744073709551616) : IntKind.u64.wrap x = x := by rw [IntKind.wrap_u64]; omega
theorem wraps_u64 (n : Int) (h₀ : 0 ≤ n) (h₁ : n < 2 ^ 64) : IntKind.u64.wrap n = n := u64w h₀ (by omega)
theorem and127 (x : Int) (h0 : 0 ≤ x) (h1 : x < 256) : Go.bits .and .u8 x 127 = x % 128 := bits_mask .u8 8 (by decide) wraps_u8 7 (by decide) x h0 h1
theorem or7 (x y : Int) (hx0 : 0 ≤ x) (hx : x % 128 = 0) (hx1 : x < 18446744073709551616) (h0 : 0 ≤ y) (h1 : y < 128) : Go.bits .or .u64 x y = x + y :=
  bits_join .u64 64 (by decide) wraps_u64 7 x y hx0 hx (by omega) h0 h1 (by omega)
theorem ba_size (l : List UInt8) : (⟨l.toArray⟩ : ByteArray).size = l.length := by simp [ByteArray.size]
theorem bt_drop (S : List UInt8) (q : Nat) (c : UInt8) (l : List UInt8) (h : S.drop q = c :: l) : bt ⟨S.toArray⟩ (q : Int) = (c.toNat : Int) := by
  have hq : q < S.length := by
    rcases Nat.lt_or_ge q S.length with h1 | h1
    · exact h1
    · rw [List.drop_eq_nil_of_le h1] at h; cases h
  rw [List.drop_eq_getElem_cons hq] at h
  injection h with h1 h2
  unfold bt
  rw [dif_pos (by rw [ba_size]; simpa using hq)]
  subst h1
  rfl
theorem drop_next {S : List UInt8} {q : Nat} {c : UInt8} {l : List UInt8} (h : S.drop q = c :: l) : S.drop (q + 1) = l ∧ q < S.length := by
  have hq : q < S.length := by
    rcases Nat.lt_or_ge q S.length with h1 | h1
    · exact h1
    · rw [List.drop_eq_nil_of_le h1] at h; cases h
  rw [List.drop_eq_getElem_cons hq] at h
  injection h with h1 h2
  exact ⟨h2, hq⟩

/-- A number in groups of seven bits: the fault, the number, how many bytes. -/
def uN : List UInt8 → Nat → Nat → Int × Nat × Nat
  | [], _, _ => (14, 0, 0)
  | c :: l, n, i => if (i = 0 ∧ c.toNat = 128) ∨ 144115188075855872 ≤ n then (15, 0, 0) else if c.toNat < 128 then (0, n * 128 + c.toNat, i + 1) else uN l (n * 128 + (c.toNat - 128)) (i + 1)
/-- What a method answers, the place, the fault. -/
abbrev Rs (α : Type) := α × Nat × Int
def uintR (S : List UInt8) (p : Nat) (e : Int) : Rs Nat :=
  if e = 0 then (if (uN (S.drop p) 0 0).1 = 0 then ((uN (S.drop p) 0 0).2.1, p + (uN (S.drop p) 0 0).2.2, 0) else (0, p, (uN (S.drop p) 0 0).1)) else (0, p, e)
theorem step_bits (n c : Nat) (hn : ¬ 144115188075855872 ≤ n) (hc : c < 256) : Go.bits .or .u64 (IntKind.u64.wrap ((n : Int) * 128)) (IntKind.u64.wrap (Go.bits .and .u8 (c : Int) 127)) = ((n * 128 + c % 128 : Nat) : Int) := by
  have hn' : n < 144115188075855872 := by omega
  rw [and127 _ (by omega) (by omega), u64w (x := (n : Int) * 128) (by omega) (by omega), u64w (x := (c : Int) % 128) (by omega) (by omega), or7 _ _ (by omega) (by omega) (by omega) (by omega) (by omega)]
  omega
theorem j1_true (k : Nat) (n i c p : Int) (s : ByteArray) : wire_Reader_Uint.j1 (k + 1) n i c true s p 0 = some (0, s, p, 15) := by
  unfold wire_Reader_Uint.j1
  rw [if_pos rfl]
  rfl
theorem j1_small (k n i c p : Nat) (s : ByteArray) (hn : ¬ 144115188075855872 ≤ n) (hc : c < 128) (hp : p + i + 1 ≤ 9223372036854775807) : wire_Reader_Uint.j1 (k + 1) n i c false s p 0 = some (((n * 128 + c : Nat) : Int), s, ((p + (i + 1) : Nat) : Int), 0) := by
  unfold wire_Reader_Uint.j1
  have a4 := step_bits n c hn (by omega)
  have a5 : wrap64 ((i : Int) + 1) = ((i + 1 : Nat) : Int) := by rw [w64 (by omega) (by omega)]; omega
  have a6 : wrap64 ((p : Int) + ((i + 1 : Nat) : Int)) = ((p + (i + 1) : Nat) : Int) := by rw [w64 (by omega) (by omega)]; omega
  rw [if_neg (by simp), if_pos (by omega), a4, a5, a6, show c % 128 = c by omega]
theorem j1_more (k n i c : Nat) (p : Int) (s : ByteArray) (hn : ¬ 144115188075855872 ≤ n) (hc : ¬ c < 128) (hc2 : c < 256) (hi : i + 1 ≤ 9223372036854775807) : wire_Reader_Uint.j1 (k + 1) n i c false s p 0 = wire_Reader_Uint.l0 k ((n * 128 + (c - 128) : Nat) : Int) ((i + 1 : Nat) : Int) s p 0 := by
  conv => lhs; unfold wire_Reader_Uint.j1
  have a4 := step_bits n c hn hc2
  have a5 : wrap64 ((i : Int) + 1) = ((i + 1 : Nat) : Int) := by rw [w64 (by omega) (by omega)]; omega
  rw [if_neg (by simp), if_neg (by omega), a4, a5, show c % 128 = c - 128 by omega]
theorem l0_cons (S : List UInt8) (hS : S.length ≤ 1099511627776) (p n i k : Nat) (c : UInt8) (l : List UInt8) (hl : S.drop (p + i) = c :: l) :
    wire_Reader_Uint.l0 (k + 1) n i ⟨S.toArray⟩ p 0 = wire_Reader_Uint.j1 k n i c.toNat (decide ((i = 0 ∧ c.toNat = 128) ∨ 144115188075855872 ≤ n)) ⟨S.toArray⟩ p 0 := by
  obtain ⟨_, hlt⟩ := drop_next hl
  have hb := bt_drop S (p + i) c l hl
  have e1 : wrap64 ((p : Int) + i) = ((p + i : Nat) : Int) := by rw [w64 (by omega) (by omega)]; omega
  conv => lhs; unfold wire_Reader_Uint.l0
  rw [ba_size, e1, hb, if_pos rfl, if_neg (by omega), if_pos (by omega), if_pos (by omega)]
  have hd : (((n : Int) / 144115188075855872) != 0) = decide (144115188075855872 ≤ n) := by
    rw [Bool.eq_iff_iff, bne_iff_ne, decide_eq_true_iff]; omega
  rw [hd]
  by_cases h0 : i = 0
  · rw [if_pos (by omega)]
    by_cases hc : c.toNat = 128
    · rw [if_pos (by omega), decide_eq_true (.inl ⟨h0, hc⟩)]
    · rw [if_neg (by omega)]
      congr 1
      exact decide_eq_decide.2 ⟨fun h => .inr h, fun h => h.resolve_left (fun x => hc x.2)⟩
  · rw [if_neg (by omega)]
    congr 1
    exact decide_eq_decide.2 ⟨fun h => .inr h, fun h => h.resolve_left (fun x => h0 x.1)⟩
/-- What is said of a result. -/
def resU (s : ByteArray) (p : Nat) (R : Int × Nat × Nat) : Int × ByteArray × Int × Int := if R.1 = 0 then ((R.2.1 : Int), s, ((p + R.2.2 : Nat) : Int), 0) else (0, s, (p : Int), R.1)
theorem uint_go (S : List UInt8) (hS : S.length ≤ 1099511627776) (p : Nat) : ∀ (l : List UInt8) (n i k : Nat), S.drop (p + i) = l → p + i ≤ S.length → 2 * l.length + 1 ≤ k →
    wire_Reader_Uint.l0 k n i ⟨S.toArray⟩ p 0 = some (resU ⟨S.toArray⟩ p (uN l n i))
  | [], n, i, k, hl, hp, hk => by
    obtain ⟨k, rfl⟩ : ∃ m, k = m + 1 := ⟨k - 1, by omega⟩
    have hge : S.length ≤ p + i := by have := congrArg List.length hl; simp at this; omega
    conv => lhs; unfold wire_Reader_Uint.l0
    rw [ba_size, w64 (x := (p : Int) + i) (by omega) (by omega), if_pos rfl, if_pos (by omega)]
    rfl
  | c :: l, n, i, k, hl, hp, hk => by
    obtain ⟨k, rfl⟩ : ∃ m, k = m + 2 := ⟨k - 2, by simp at hk; omega⟩
    obtain ⟨hn1, hlt⟩ := drop_next hl
    have hc := c.toNat_lt
    have ih := uint_go S hS p l (n * 128 + (c.toNat - 128)) (i + 1) k (by rw [← hn1]; rfl) (by omega) (by simp at hk; omega)
    rw [l0_cons S hS p n i (k + 1) c l hl]
    rw [uN]
    by_cases hbad : (i = 0 ∧ c.toNat = 128) ∨ 144115188075855872 ≤ n
    · rw [if_pos hbad, decide_eq_true hbad, j1_true]
      rfl
    · rw [if_neg hbad, decide_eq_false hbad]
      have hn : ¬ 144115188075855872 ≤ n := fun h => hbad (.inr h)
      by_cases h128 : c.toNat < 128
      · rw [if_pos h128, j1_small k n i c.toNat p _ hn h128 (by omega)]
        rfl
      · rw [if_neg h128, j1_more k n i c.toNat p _ hn h128 hc (by omega), ih]
theorem uint_ref (S : List UInt8) (hS : S.length ≤ 1099511627776) (p : Nat) (hp : p ≤ S.length) (e : Int) (k : Nat) (hk : 2 * S.length + 2 ≤ k) :
    wire_Reader_Uint.f k ⟨S.toArray⟩ p e = some (((uintR S p e).1 : Int), ⟨S.toArray⟩, ((uintR S p e).2.1 : Int), (uintR S p e).2.2) := by
  unfold wire_Reader_Uint.f uintR
  by_cases he : e = 0
  · subst he
    have := uint_go S hS p (S.drop p) 0 0 k rfl (by omega) (by simp; omega)
    rw [if_pos rfl]
    refine this.trans ?_
    unfold resU
    split <;> rfl
  · obtain ⟨k, rfl⟩ : ∃ m, k = m + 1 := ⟨k - 1, by omega⟩
    rw [if_neg he]
    simp only [wire_Reader_Uint.l0]
    rw [if_neg he]
    rfl
end Go.Proofs.Ytlkfbdeddfhocaa

set_option linter.unusedVariables false
set_option linter.unusedSimpArgs false
namespace Go.Proofs.Ytlkfbdeddfhocaa
open Go.Proofs Go.RowKit Go.Proofs.YtlkfbdeddfhocaaW.PrintWords Q

theorem uN_le : ∀ (l : List UInt8) (n i : Nat), n < 18446744073709551616 → (uN l n i).2.1 < 18446744073709551616 ∧ ((uN l n i).1 = 0 → (uN l n i).2.2 ≤ i + l.length) ∧ 0 ≤ (uN l n i).1
  | [], n, i, h => by simp [uN]
  | c :: l, n, i, h => by
    rw [uN]
    have hc := c.toNat_lt
    by_cases hbad : (i = 0 ∧ c.toNat = 128) ∨ 144115188075855872 ≤ n
    · rw [if_pos hbad]
      exact ⟨by show 0 < _; omega, fun h => by simp at h, by show (0 : Int) ≤ 15; omega⟩
    · rw [if_neg hbad]
      have hn : ¬ 144115188075855872 ≤ n := fun h => hbad (.inr h)
      by_cases h128 : c.toNat < 128
      · rw [if_pos h128]
        exact ⟨by show n * 128 + c.toNat < _; omega, fun _ => by show i + 1 ≤ _; simp, by show (0 : Int) ≤ 0; omega⟩
      · rw [if_neg h128]
        obtain ⟨a, b, d⟩ := uN_le l (n * 128 + (c.toNat - 128)) (i + 1) (by omega)
        exact ⟨a, fun h => by have := b h; simp; omega, d⟩
theorem uintR_le (S : List UInt8) (p : Nat) (e : Int) (hp : p ≤ S.length) : (uintR S p e).1 < 18446744073709551616 ∧ (uintR S p e).2.1 ≤ S.length ∧ p ≤ (uintR S p e).2.1 := by
  obtain ⟨a, b, d⟩ := uN_le (S.drop p) 0 0 (by omega)
  unfold uintR
  by_cases he : e = 0
  · rw [if_pos he]
    by_cases h : (uN (S.drop p) 0 0).1 = 0
    · rw [if_pos h]
      have := b h
      rw [List.length_drop] at this
      exact ⟨a, by show p + _ ≤ _; omega, by show p ≤ p + _; omega⟩
    · rw [if_neg h]; exact ⟨by show 0 < _; omega, hp, Nat.le_refl _⟩
  · rw [if_neg he]; exact ⟨by show 0 < _; omega, hp, Nat.le_refl _⟩

/-- A number with a sign, out of its groups. -/
def zag (u : Nat) : Int := if u % 2 = 1 then -1 - ((u / 2 : Nat) : Int) else ((u / 2 : Nat) : Int)
def intR (S : List UInt8) (p : Nat) (e : Int) : Rs Int := (zag (uintR S p e).1, (uintR S p e).2)
theorem and1 (x : Int) (h0 : 0 ≤ x) (h1 : x < 18446744073709551616) : Go.bits .and .u64 x 1 = x % 2 := bits_mask .u64 64 (by decide) wraps_u64 1 (by decide) x h0 (by omega)
theorem not_i64 (x : Int) (h0 : 0 ≤ x) (h1 : x < 9223372036854775808) : Go.bits .xor .i64 (-1) x = -1 - x := by
  obtain ⟨a, rfl⟩ := Int.eq_ofNat_of_zero_le h0
  show IntKind.i64.wrap ((BitVec.ofInt 64 (-1) ^^^ BitVec.ofInt 64 (a : Int)).toNat : Int) = _
  have e : BitVec.ofInt 64 (-1) = BitVec.allOnes 64 := by decide
  have h2 : (BitVec.ofInt 64 (a : Int)).toNat = a := by
    rw [BitVec.ofInt_natCast, BitVec.toNat_ofNat]; exact Nat.mod_eq_of_lt (by omega)
  rw [e, BitVec.allOnes_xor, BitVec.toNat_not, h2, IntKind.wrap_i64]
  omega
theorem int_ref (S : List UInt8) (hS : S.length ≤ 1099511627776) (p : Nat) (hp : p ≤ S.length) (e : Int) (k : Nat) (hk : 2 * S.length + 2 ≤ k) :
    wire_Reader_Int.f k ⟨S.toArray⟩ p e = some ((intR S p e).1, ⟨S.toArray⟩, ((intR S p e).2.1 : Int), (intR S p e).2.2) := by
  unfold wire_Reader_Int.f
  rw [uint_ref S hS p hp e k hk]
  obtain ⟨hu, _, _⟩ := uintR_le S p e hp
  unfold intR zag
  obtain ⟨⟨u, q, e'⟩, hR⟩ : ∃ x, uintR S p e = x := ⟨_, rfl⟩
  rw [hR] at hu ⊢
  simp only at hu
  simp only [Option.bind_some]
  have e1 : wrap64 ((u : Int) / 2) = ((u / 2 : Nat) : Int) := by rw [w64 (by omega) (by omega)]; omega
  rw [and1 _ (by omega) (by omega), e1, not_i64 _ (by omega) (by omega)]
  by_cases h : u % 2 = 1
  · rw [if_pos (by omega), if_pos h]
  · rw [if_neg (by omega), if_neg h]

/-- A count, at most so many. -/
def countR (most : Nat) (S : List UInt8) (p : Nat) (e : Int) : Rs Nat :=
  if (uintR S p e).2.2 = 0 then (if (uintR S p e).1 > most then (0, p, 2) else uintR S p e) else (0, (uintR S p e).2)
theorem count_ref (most : Nat) (hm : most ≤ 1000000) (S : List UInt8) (hS : S.length ≤ 1099511627776) (p : Nat) (hp : p ≤ S.length) (e : Int) (k : Nat) (hk : 2 * S.length + 3 ≤ k) :
    wire_Reader_Count.f k ⟨S.toArray⟩ p e most = some (((countR most S p e).1 : Int), ⟨S.toArray⟩, ((countR most S p e).2.1 : Int), (countR most S p e).2.2) := by
  unfold wire_Reader_Count.f
  rw [uint_ref S hS p hp e k (by omega)]
  obtain ⟨hu, _, _⟩ := uintR_le S p e hp
  unfold countR
  obtain ⟨⟨u, q, e'⟩, hR⟩ : ∃ x, uintR S p e = x := ⟨_, rfl⟩
  rw [hR] at hu ⊢
  simp only at hu
  simp only [Option.bind_some]
  obtain ⟨k, rfl⟩ : ∃ m, k = m + 1 := ⟨k - 1, by omega⟩
  rw [u64w (x := (most : Int)) (by omega) (by omega)]
  by_cases he : e' = 0
  · subst he
    rw [if_pos rfl, if_neg (by omega), if_pos rfl]
    by_cases hgt : u > most
    · rw [if_pos hgt, decide_eq_true (by omega)]
      rfl
    · rw [if_neg hgt, decide_eq_false (by omega)]
      rw [wire_Reader_Count.j0]
      rw [if_neg (by simp), if_pos rfl, w64 (by omega) (by omega)]
  · rw [if_neg he, if_neg he]
    rw [wire_Reader_Count.j0]
    rw [if_neg (by simp), if_neg he]
    rfl
/-- A text behind its length, of at most so many bytes. -/
def textR (most : Nat) (S : List UInt8) (p : Nat) (e : Int) : Rs (List UInt8) :=
  if (uintR S p e).2.2 = 0 then (if (uintR S p e).1 > most then ([], p, 2) else if (uintR S p e).1 > S.length - (uintR S p e).2.1 then ([], p, 14)
    else ((S.drop (uintR S p e).2.1).take (uintR S p e).1, (uintR S p e).2.1 + (uintR S p e).1, 0)) else ([], (uintR S p e).2)
theorem ext_list (S : List UInt8) (a b : Nat) : (⟨S.toArray⟩ : ByteArray).extract a b = ⟨((S.drop a).take (b - a)).toArray⟩ := by
  apply ByteArray.ext
  apply Array.toList_inj.1
  rw [Lib.extract_data]
theorem text_ref (most : Nat) (hm : most ≤ 1000000) (S : List UInt8) (hS : S.length ≤ 1099511627776) (p : Nat) (hp : p ≤ S.length) (e : Int) (k : Nat) (hk : 2 * S.length + 3 ≤ k) :
    wire_Reader_Text.f k ⟨S.toArray⟩ p e most = some (⟨(textR most S p e).1.toArray⟩, ⟨S.toArray⟩, ((textR most S p e).2.1 : Int), (textR most S p e).2.2) := by
  unfold wire_Reader_Text.f
  rw [uint_ref S hS p hp e k (by omega)]
  obtain ⟨hu, hq, _⟩ := uintR_le S p e hp
  unfold textR
  obtain ⟨⟨u, q, e'⟩, hR⟩ : ∃ x, uintR S p e = x := ⟨_, rfl⟩
  rw [hR] at hu hq ⊢
  simp only at hu hq
  simp only [Option.bind_some]
  obtain ⟨k, rfl⟩ : ∃ m, k = m + 1 := ⟨k - 1, by omega⟩
  rw [u64w (x := (most : Int)) (by omega) (by omega)]
  by_cases he : e' = 0
  · subst he
    rw [if_pos rfl, if_neg (by omega), if_pos rfl]
    by_cases hgt : u > most
    · rw [if_pos hgt, decide_eq_true (by omega)]
      rfl
    · rw [if_neg hgt, decide_eq_false (by omega)]
      rw [wire_Reader_Text.j0]
      rw [if_neg (by simp), ba_size, w64 (x := (S.length : Int) - q) (by omega) (by omega), u64w (by omega) (by omega), w64 (x := (u : Int)) (by omega) (by omega), w64 (x := (q : Int) + u) (by omega) (by omega)]
      by_cases h2 : u > S.length - q
      · rw [if_pos (by omega), if_pos h2]
        rfl
      · rw [if_neg (by omega), if_neg h2, if_pos (by omega), if_pos (by omega), if_pos (by omega), ext_list]
        rw [show ((q : Int) + u).toNat - (q : Int).toNat = u by omega, show ((q : Int)).toNat = q by omega]
        rw [show ((q : Int) + u) = ((q + u : Nat) : Int) by omega]
  · rw [if_neg he, if_neg he]
/-- A truth. -/
def boolR (S : List UInt8) (p : Nat) (e : Int) : Rs Bool :=
  if e = 0 then (match S.drop p with
    | [] => (false, p, 14)
    | c :: _ => if c.toNat > 1 then (false, p, 15) else (c.toNat == 1, p + 1, 0)) else (false, p, e)
theorem bool_ref (S : List UInt8) (hS : S.length ≤ 1099511627776) (p : Nat) (hp : p ≤ S.length) (e : Int) :
    wire_Reader_Bool.f ⟨S.toArray⟩ p e = some ((boolR S p e).1, ⟨S.toArray⟩, ((boolR S p e).2.1 : Int), (boolR S p e).2.2) := by
  unfold wire_Reader_Bool.f boolR
  by_cases he : e = 0
  · subst he
    rw [if_pos rfl, if_pos rfl, ba_size]
    cases hd : S.drop p with
    | nil =>
      have hge : S.length ≤ p := by have := congrArg List.length hd; simp at this; omega
      rw [if_pos (by omega)]
      rfl
    | cons c l =>
      obtain ⟨_, hlt⟩ := drop_next hd
      have hb := bt_drop S p c l hd
      have e1 : wrap64 ((p : Int) + 1) = ((p + 1 : Nat) : Int) := by rw [w64 (by omega) (by omega)]; omega
      have e2 : wrap64 (((p + 1 : Nat) : Int) - 1) = (p : Int) := by rw [w64 (by omega) (by omega)]; omega
      rw [if_neg (by omega), if_pos (by omega), if_pos (by omega), e1, e2, hb]
      simp only
      by_cases h1 : c.toNat > 1
      · rw [if_pos (by omega), if_pos h1]
        rfl
      · rw [if_neg (by omega), if_neg h1, if_pos (by omega), if_pos (by omega)]
        have : (((c.toNat : Nat) : Int) == 1) = (c.toNat == 1) := by
          rw [Bool.eq_iff_iff, beq_iff_eq, beq_iff_eq]; omega
        rw [this]
  · rw [if_neg he, if_neg he]
def endR (S : List UInt8) (p : Nat) (e : Int) : Rs Bool := if e = 0 ∧ p < S.length then (false, p, 16) else (e == 0, p, e)
theorem end_ref (S : List UInt8) (p : Nat) (e : Int) : wire_Reader_End.f ⟨S.toArray⟩ p e = some ((endR S p e).1, ⟨S.toArray⟩, ((endR S p e).2.1 : Int), (endR S p e).2.2) := by
  unfold wire_Reader_End.f endR
  rw [ba_size]
  by_cases he : e = 0
  · subst he
    rw [if_pos rfl]
    by_cases hlt : p < S.length
    · rw [if_pos (by omega), if_pos ⟨rfl, hlt⟩]
      rfl
    · rw [if_neg (by omega), if_neg (fun h => hlt h.2)]
  · rw [if_neg he, if_neg (fun h => he h.1)]
end Go.Proofs.Ytlkfbdeddfhocaa

set_option linter.unusedVariables false
set_option linter.unusedSimpArgs false
namespace Go.Proofs.Ytlkfbdeddfhocaa

/-- A reader: the text, the place, the fault. -/
abbrev Rdr (α : Type) := List UInt8 → Nat → Int → Rs α
structure Good {α : Type} (f : Rdr α) (enc : α → List UInt8) (ok : α → Prop) : Prop where
  place : ∀ S p e, p ≤ S.length → p ≤ (f S p e).2.1 ∧ (f S p e).2.1 ≤ S.length
  stays : ∀ S p e, e ≠ 0 → (f S p e).2.2 ≠ 0
  sound : ∀ S p e, p ≤ S.length → (f S p e).2.2 = 0 → S.drop p = enc (f S p e).1 ++ S.drop (f S p e).2.1 ∧ ok (f S p e).1
  full : ∀ S p x r, p ≤ S.length → S.drop p = enc x ++ r → ok x → f S p 0 = (x, p + (enc x).length, 0)

def encHi (n : Nat) : List UInt8 := if h : n = 0 then [] else encHi (n / 128) ++ [UInt8.ofNat (128 + n % 128)]
termination_by n
decreasing_by omega
def encU (n : Nat) : List UInt8 := encHi (n / 128) ++ [UInt8.ofNat (n % 128)]
theorem encHi_zero : encHi 0 = [] := by rw [encHi]; simp
theorem encHi_pos (n : Nat) (h : n ≠ 0) : encHi n = encHi (n / 128) ++ [UInt8.ofNat (128 + n % 128)] := by rw [encHi]; simp [h]
theorem ofNat_toNat (c : UInt8) : UInt8.ofNat c.toNat = c := by simp
theorem toNat_ofNat (n : Nat) (h : n < 256) : (UInt8.ofNat n).toNat = n := by simp; omega
theorem uN_sound : ∀ (l : List UInt8) (m i : Nat), (i = 0 → m = 0) → (i ≠ 0 → m ≠ 0) → (uN l m i).1 = 0 →
    ∃ j, (uN l m i).2.2 = i + j ∧ j ≤ l.length ∧ encHi m ++ l.take j = encU (uN l m i).2.1 ∧ (uN l m i).2.1 < 18446744073709551616
  | [], m, i, _, _, h => by simp [uN] at h
  | c :: l, m, i, h0, h1, h => by
    have hc := c.toNat_lt
    rw [uN] at h ⊢
    by_cases hbad : (i = 0 ∧ c.toNat = 128) ∨ 144115188075855872 ≤ m
    · rw [if_pos hbad] at h; exact absurd h (by simp)
    · rw [if_neg hbad] at h ⊢
      have hm : ¬ 144115188075855872 ≤ m := fun h => hbad (.inr h)
      by_cases h128 : c.toNat < 128
      · rw [if_pos h128]
        refine ⟨1, rfl, by simp, ?_, ?_⟩
        · show encHi m ++ [c] = encU (m * 128 + c.toNat)
          unfold encU
          rw [show (m * 128 + c.toNat) / 128 = m by omega, show (m * 128 + c.toNat) % 128 = c.toNat by omega, ofNat_toNat]
        · show m * 128 + c.toNat < _
          omega
      · rw [if_neg h128] at h ⊢
        have hne : m * 128 + (c.toNat - 128) ≠ 0 := by
          intro he
          by_cases hi : i = 0
          · exact hbad (.inl ⟨hi, by omega⟩)
          · have := h1 hi; omega
        obtain ⟨j, e1, e2, e3, e4⟩ := uN_sound l (m * 128 + (c.toNat - 128)) (i + 1) (fun h => by omega) (fun _ => hne) h
        refine ⟨j + 1, by omega, by simp; omega, ?_, e4⟩
        rw [← e3, encHi_pos _ hne, show (m * 128 + (c.toNat - 128)) / 128 = m by omega, show 128 + (m * 128 + (c.toNat - 128)) % 128 = c.toNat by omega, ofNat_toNat]
        simp
theorem encHi_len : ∀ (d n : Nat), n ≤ d → n < 128 → (encHi n).length ≤ 1
  | d, n, _, h => by
    by_cases hn : n = 0
    · rw [hn, encHi_zero]; simp
    · rw [encHi_pos n hn, show n / 128 = 0 by omega, encHi_zero]; simp
/-- Groups ahead read: the number so far. -/
theorem uN_hi : ∀ (d n : Nat), n ≤ d → n < 144115188075855872 → ∀ r i, i = 0 → uN (encHi n ++ r) 0 i = uN r n (i + (encHi n).length)
  | 0, n, hd, hn, r, i, hi => by
    have : n = 0 := by omega
    subst this
    rw [encHi_zero]; rfl
  | d + 1, n, hd, hn, r, i, hi => by
    by_cases h0 : n = 0
    · subst h0; rw [encHi_zero]; rfl
    · rw [encHi_pos n h0, List.append_assoc, uN_hi d (n / 128) (by omega) (by omega) _ i hi]
      rw [List.singleton_append, uN, toNat_ofNat _ (by omega)]
      have hg : ¬ ((i + (encHi (n / 128)).length = 0 ∧ 128 + n % 128 = 128) ∨ 144115188075855872 ≤ n / 128) := by
        rintro (⟨h1, h2⟩ | h)
        · have hz : n / 128 = 0 := by
            rcases Nat.eq_zero_or_pos (n / 128) with h | h
            · exact h
            · rw [encHi_pos (n / 128) (by omega)] at h1; simp at h1
          omega
        · omega
      rw [if_neg hg, if_neg (by omega), show n / 128 * 128 + (128 + n % 128 - 128) = n by omega]
      simp only [List.length_append, List.length_cons, List.length_nil, Nat.zero_add, Nat.add_assoc]
theorem uN_full (n : Nat) (h : n < 18446744073709551616) (r : List UInt8) : uN (encU n ++ r) 0 0 = (0, n, (encU n).length) := by
  unfold encU
  rw [List.append_assoc, uN_hi (n / 128) (n / 128) (by omega) (by omega) _ 0 rfl, List.singleton_append, uN, toNat_ofNat _ (by omega)]
  have hg : ¬ ((0 + (encHi (n / 128)).length = 0 ∧ n % 128 = 128) ∨ 144115188075855872 ≤ n / 128) := by
    rintro (⟨h1, h2⟩ | h) <;> omega
  rw [if_neg hg, if_pos (by omega), show n / 128 * 128 + n % 128 = n by omega]
  simp
theorem take_of_drop {S B T : List UInt8} {p : Nat} (h : S.drop p = B ++ T) (hp : p ≤ S.length) : p + B.length ≤ S.length ∧ S.drop (p + B.length) = T := by
  have := congrArg List.length h
  simp at this
  refine ⟨by omega, ?_⟩
  rw [← List.drop_drop, h]
  simp
theorem good_uint : Good uintR encU (fun n => n < 18446744073709551616) where
  place S p e h := ⟨(uintR_le S p e h).2.2, (uintR_le S p e h).2.1⟩
  stays S p e he := by unfold uintR; rw [if_neg he]; exact he
  sound S p e hp h := by
    unfold uintR at h ⊢
    by_cases he : e = 0
    · rw [if_pos he] at h ⊢
      by_cases hz : (uN (S.drop p) 0 0).1 = 0
      · rw [if_pos hz]
        obtain ⟨j, e1, e2, e3, e4⟩ := uN_sound (S.drop p) 0 0 (fun _ => rfl) (fun h => absurd rfl h) hz
        rw [encHi_zero, List.nil_append] at e3
        refine ⟨?_, e4⟩
        show S.drop p = encU (uN (S.drop p) 0 0).2.1 ++ S.drop (p + (uN (S.drop p) 0 0).2.2)
        rw [← e3, e1, Nat.zero_add, ← List.drop_drop, List.take_append_drop]
      · rw [if_neg hz] at h; exact absurd h hz
    · rw [if_neg he] at h; exact absurd h he
  full S p x r hp h hx := by
    unfold uintR
    rw [if_pos rfl, h, uN_full x hx r]
    rfl

def pairR {α β : Type} (f : Rdr α) (g : Rdr β) : Rdr (α × β) := fun S p e =>
  let a := f S p e
  let b := g S a.2.1 a.2.2
  ((a.1, b.1), b.2)
theorem good_pair {α β : Type} {f : Rdr α} {g : Rdr β} {ea : α → List UInt8} {eb : β → List UInt8} {oa : α → Prop} {ob : β → Prop} (hf : Good f ea oa) (hg : Good g eb ob) :
    Good (pairR f g) (fun x => ea x.1 ++ eb x.2) (fun x => oa x.1 ∧ ob x.2) where
  place S p e h := by
    have h1 := hf.place S p e h
    have h2 := hg.place S (f S p e).2.1 (f S p e).2.2 h1.2
    exact ⟨Nat.le_trans h1.1 h2.1, h2.2⟩
  stays S p e he := hg.stays S _ _ (hf.stays S p e he)
  sound S p e hp h := by
    have h1 := hf.place S p e hp
    have he : (f S p e).2.2 = 0 := by
      by_cases hz : (f S p e).2.2 = 0
      · exact hz
      · exact absurd h (hg.stays S _ _ hz)
    have a := hf.sound S p e hp he
    have b := hg.sound S (f S p e).2.1 (f S p e).2.2 h1.2 h
    refine ⟨?_, a.2, b.2⟩
    rw [a.1, b.1]
    simp [pairR]
  full S p x r hp h hx := by
    have a := hf.full S p x.1 (eb x.2 ++ r) hp (by rw [h, List.append_assoc]) hx.1
    obtain ⟨b1, b2⟩ := take_of_drop (B := ea x.1) (T := eb x.2 ++ r) (by rw [h, List.append_assoc]) hp
    have b := hg.full S (p + (ea x.1).length) x.2 r b1 b2 hx.2
    unfold pairR
    simp only [a, b, List.length_append]
    rw [Nat.add_assoc]
def isoR {α β : Type} (f : Rdr α) (u : α → β) : Rdr β := fun S p e => (u (f S p e).1, (f S p e).2)
theorem good_iso {α β : Type} {f : Rdr α} {ea : α → List UInt8} {oa : α → Prop} (hf : Good f ea oa) (u : α → β) (v : β → α) (h1 : ∀ x, oa x → v (u x) = x) (h2 : ∀ y, oa (v y) → u (v y) = y) :
    Good (isoR f u) (fun y => ea (v y)) (fun y => oa (v y)) where
  place S p e h := hf.place S p e h
  stays S p e he := hf.stays S p e he
  sound S p e hp h := by
    have a := hf.sound S p e hp h
    have e := h1 _ a.2
    unfold isoR
    simp only [e]
    exact a
  full S p x r hp h hx := by
    unfold isoR
    rw [hf.full S p (v x) r hp h hx, h2 x hx]
def manyR {α : Type} (f : Rdr α) : Nat → Rdr (List α)
  | 0 => fun S p e => ([], p, e)
  | n + 1 => fun S p e => ((f S p e).1 :: (manyR f n S (f S p e).2.1 (f S p e).2.2).1, (manyR f n S (f S p e).2.1 (f S p e).2.2).2)
theorem good_many {α : Type} {f : Rdr α} {ea : α → List UInt8} {oa : α → Prop} (hf : Good f ea oa) : ∀ n, Good (manyR f n) (fun l => l.flatMap ea) (fun l => l.length = n ∧ ∀ x ∈ l, oa x)
  | 0 => { place := fun S p e h => ⟨Nat.le_refl _, h⟩, stays := fun S p e he => he, sound := fun S p e hp h => by simp [manyR], full := fun S p x r hp h hx => by
            obtain ⟨h1, _⟩ := hx
            rw [List.length_eq_zero_iff] at h1
            subst h1
            rfl }
  | n + 1 => by
    have ih := good_many hf n
    refine ⟨fun S p e h => ?_, fun S p e he => ?_, fun S p e hp h => ?_, fun S p x r hp h hx => ?_⟩
    · have h1 := hf.place S p e h
      have h2 := ih.place S (f S p e).2.1 (f S p e).2.2 h1.2
      exact ⟨Nat.le_trans h1.1 h2.1, h2.2⟩
    · exact ih.stays S _ _ (hf.stays S p e he)
    · have h1 := hf.place S p e hp
      have he : (f S p e).2.2 = 0 := by
        by_cases hz : (f S p e).2.2 = 0
        · exact hz
        · exact absurd h (ih.stays S _ _ hz)
      have a := hf.sound S p e hp he
      have b := ih.sound S (f S p e).2.1 (f S p e).2.2 h1.2 h
      refine ⟨?_, ?_, ?_⟩
      · rw [a.1, b.1]; simp [manyR]
      · have := b.2.1
        simp [manyR, this]
      · intro y hy
        have hy' : y = (f S p e).1 ∨ y ∈ (manyR f n S (f S p e).2.1 (f S p e).2.2).1 := by simpa [manyR] using hy
        rcases hy' with rfl | hy'
        · exact a.2
        · exact b.2.2 y hy'
    · obtain ⟨hl, hx2⟩ := hx
      cases x with
      | nil => simp at hl
      | cons y ys =>
        rw [List.flatMap_cons, List.append_assoc] at h
        have a := hf.full S p y _ hp h (hx2 y (by simp))
        obtain ⟨b1, b2⟩ := take_of_drop h hp
        have b := ih.full S (p + (ea y).length) ys r b1 b2 ⟨by simpa using hl, fun z hz => hx2 z (by simp [hz])⟩
        unfold manyR
        simp only [a, b, List.flatMap_cons, List.length_append]
        rw [Nat.add_assoc]
theorem good_count (most : Nat) (hm : most < 18446744073709551616) : Good (countR most) encU (fun n => n ≤ most) where
  place S p e h := by
    have hu := good_uint.place S p e h
    unfold countR
    split
    · split
      · exact ⟨Nat.le_refl _, h⟩
      · exact hu
    · exact hu
  stays S p e he := by
    have hu := good_uint.stays S p e he
    unfold countR
    rw [if_neg hu]
    exact hu
  sound S p e hp h := by
    have hu := good_uint.sound S p e hp
    unfold countR at h ⊢
    by_cases hz : (uintR S p e).2.2 = 0
    · rw [if_pos hz] at h ⊢
      by_cases hgt : (uintR S p e).1 > most
      · rw [if_pos hgt] at h; exact absurd h (by simp)
      · rw [if_neg hgt]; exact ⟨(hu hz).1, by omega⟩
    · rw [if_neg hz] at h; exact absurd h hz
  full S p x r hp h hx := by
    have hu := good_uint.full S p x r hp h (by omega)
    unfold countR
    rw [hu, if_pos rfl, if_neg (by omega)]
def listR {α : Type} (most : Nat) (f : Rdr α) : Rdr (List α) := fun S p e => manyR f (countR most S p e).1 S (countR most S p e).2.1 (countR most S p e).2.2
theorem good_list {α : Type} {f : Rdr α} {ea : α → List UInt8} {oa : α → Prop} (hf : Good f ea oa) (most : Nat) (hm : most < 18446744073709551616) :
    Good (listR most f) (fun l => encU l.length ++ l.flatMap ea) (fun l => l.length ≤ most ∧ ∀ x ∈ l, oa x) where
  place S p e h := by
    have h1 := (good_count most hm).place S p e h
    have h2 := (good_many hf (countR most S p e).1).place S _ (countR most S p e).2.2 h1.2
    exact ⟨Nat.le_trans h1.1 h2.1, h2.2⟩
  stays S p e he := (good_many hf _).stays S _ _ ((good_count most hm).stays S p e he)
  sound S p e hp h := by
    have h1 := (good_count most hm).place S p e hp
    have he : (countR most S p e).2.2 = 0 := by
      by_cases hz : (countR most S p e).2.2 = 0
      · exact hz
      · exact absurd h ((good_many hf _).stays S _ _ hz)
    have a := (good_count most hm).sound S p e hp he
    have b := (good_many hf (countR most S p e).1).sound S (countR most S p e).2.1 (countR most S p e).2.2 h1.2 h
    have hl : (listR most f S p e).1.length = (countR most S p e).1 := b.2.1
    refine ⟨?_, by rw [hl]; exact a.2, b.2.2⟩
    rw [hl, a.1, b.1, List.append_assoc]
    rfl
  full S p x r hp h hx := by
    have a := (good_count most hm).full S p x.length (x.flatMap ea ++ r) hp (by rw [h, List.append_assoc]) hx.1
    obtain ⟨b1, b2⟩ := take_of_drop (B := encU x.length) (T := x.flatMap ea ++ r) (by rw [h, List.append_assoc]) hp
    have b := (good_many hf x.length).full S (p + (encU x.length).length) x r b1 b2 ⟨rfl, hx.2⟩
    unfold listR
    rw [a, b, List.length_append, Nat.add_assoc]
end Go.Proofs.Ytlkfbdeddfhocaa

set_option linter.unusedVariables false
set_option linter.unusedSimpArgs false
namespace Go.Proofs.Ytlkfbdeddfhocaa

def zig (n : Int) : Nat := if n < 0 then (-1 - n).toNat * 2 + 1 else n.toNat * 2
def isI64 (n : Int) : Prop := -9223372036854775808 ≤ n ∧ n ≤ 9223372036854775807
def encI (n : Int) : List UInt8 := encU (zig n)
theorem zig_zag (u : Nat) : zig (zag u) = u := by
  unfold zig zag
  by_cases h : u % 2 = 1
  · rw [if_pos h, if_pos (by omega)]; omega
  · rw [if_neg h, if_neg (by omega)]; omega
theorem zag_zig (n : Int) : zag (zig n) = n := by
  unfold zig zag
  by_cases h : n < 0
  · rw [if_pos h, if_pos (by omega)]; omega
  · rw [if_neg h, if_neg (by omega)]; omega
theorem zig_lt (n : Int) (h : isI64 n) : zig n < 18446744073709551616 := by
  unfold isI64 at h; unfold zig; split <;> omega
theorem zag_range (u : Nat) (h : u < 18446744073709551616) : isI64 (zag u) := by
  unfold isI64 zag; split <;> omega
theorem good_int : Good intR encI isI64 where
  place := good_uint.place
  stays := good_uint.stays
  sound S p e hp h := by
    have a := good_uint.sound S p e hp h
    refine ⟨?_, zag_range _ a.2⟩
    unfold encI intR
    rw [zig_zag]
    exact a.1
  full S p x r hp h hx := by
    have a := good_uint.full S p (zig x) r hp h (zig_lt x hx)
    unfold intR
    rw [a, zag_zig]
    rfl
def encT (t : List UInt8) : List UInt8 := encU t.length ++ t
theorem good_text (most : Nat) (hm : most < 18446744073709551616) : Good (textR most) encT (fun t => t.length ≤ most) where
  place S p e h := by
    have hu := good_uint.place S p e h
    unfold textR
    split
    · split
      · exact ⟨Nat.le_refl _, h⟩
      · split
        · exact ⟨Nat.le_refl _, h⟩
        · exact ⟨by show p ≤ _ + _; omega, by show _ + _ ≤ _; omega⟩
    · exact hu
  stays S p e he := by
    have hu := good_uint.stays S p e he
    unfold textR
    rw [if_neg hu]
    exact hu
  sound S p e hp h := by
    have hu := good_uint.sound S p e hp
    have hq := good_uint.place S p e hp
    unfold textR at h ⊢
    by_cases hz : (uintR S p e).2.2 = 0
    · rw [if_pos hz] at h ⊢
      by_cases hgt : (uintR S p e).1 > most
      · rw [if_pos hgt] at h; exact absurd h (by simp)
      · rw [if_neg hgt] at h ⊢
        by_cases h2 : (uintR S p e).1 > S.length - (uintR S p e).2.1
        · rw [if_pos h2] at h; exact absurd h (by simp)
        · rw [if_neg h2]
          have hl : ((S.drop (uintR S p e).2.1).take (uintR S p e).1).length = (uintR S p e).1 := by rw [List.length_take, List.length_drop]; omega
          refine ⟨?_, by show ((S.drop (uintR S p e).2.1).take (uintR S p e).1).length ≤ most; omega⟩
          unfold encT
          simp only [hl]
          rw [(hu hz).1, List.append_assoc, ← List.drop_drop, List.take_append_drop]
    · rw [if_neg hz] at h; exact absurd h hz
  full S p x r hp h hx := by
    unfold encT at h
    have hu := good_uint.full S p x.length (x ++ r) hp (by rw [h, List.append_assoc]) (by omega)
    obtain ⟨b1, b2⟩ := take_of_drop (B := encU x.length) (T := x ++ r) (by rw [h, List.append_assoc]) hp
    have hl := congrArg List.length b2
    simp at hl
    unfold textR
    rw [hu, if_pos rfl, if_neg (by show ¬ x.length > most; omega), if_neg (by show ¬ x.length > S.length - (p + (encU x.length).length); omega)]
    simp only [b2, List.take_left]
    unfold encT
    rw [List.length_append, Nat.add_assoc]
def encB (b : Bool) : List UInt8 := [if b then 1 else 0]
theorem good_bool : Good boolR encB (fun _ => True) where
  place S p e h := by
    unfold boolR
    split
    · split
      · exact ⟨Nat.le_refl _, h⟩
      · rename_i c l hd
        obtain ⟨_, hlt⟩ := drop_next hd
        split
        · exact ⟨Nat.le_refl _, h⟩
        · exact ⟨by show p ≤ p + 1; omega, hlt⟩
    · exact ⟨Nat.le_refl _, h⟩
  stays S p e he := by unfold boolR; rw [if_neg he]; exact he
  sound S p e hp h := by
    unfold boolR at h ⊢
    by_cases he : e = 0
    · rw [if_pos he] at h ⊢
      cases hd : S.drop p with
      | nil => rw [hd] at h; exact absurd h (by simp)
      | cons c l =>
        rw [hd] at h
        simp only at h ⊢
        obtain ⟨h1, hlt⟩ := drop_next hd
        by_cases hc : c.toNat > 1
        · rw [if_pos hc] at h; exact absurd h (by simp)
        · rw [if_neg hc]
          refine ⟨?_, trivial⟩
          show c :: l = encB (c.toNat == 1) ++ S.drop (p + 1)
          rw [h1]
          unfold encB
          by_cases h0 : c.toNat = 0
          · have : c = 0 := UInt8.toNat_inj.1 (by simpa using h0)
            subst this; rfl
          · have : c = 1 := UInt8.toNat_inj.1 (by show c.toNat = 1; omega)
            subst this; rfl
    · rw [if_neg he] at h; exact absurd h he
  full S p x r hp h hx := by
    unfold boolR
    rw [if_pos rfl, h]
    cases x <;> rfl
end Go.Proofs.Ytlkfbdeddfhocaa

set_option linter.unusedVariables false
set_option linter.unusedSimpArgs false
namespace Go.Proofs.Ytlkfbdeddfhocaa
open Go.Proofs Go.RowKit Go.Proofs.YtlkfbdeddfhocaaW.PrintWords Go.Proofs.YtlkfbdeddfhocaaW.PrintLast Go.Proofs.YtlkfbdeddfhocaaW.PrintMore Q

theorem count_le (S : List UInt8) (p : Nat) (e : Int) : (countR 4096 S p e).1 ≤ 4096 := by unfold countR; split; split; all_goals (try simp only); all_goals omega
theorem count_call (S : List UInt8) (hS : S.length ≤ 1000000) (g : Nat) (w0 : World) (q : Nat) (e : Int) (hq : q ≤ S.length) (W : World) (hi : IsS132 w0 W g ⟨S.toArray⟩ q e) (hb : Below w0.heap.size w0 W) :
    Calls Try.prog 45 #[.pointer (some ⟨g, 0, none⟩), .int .i64 4096] W fun en w' => en = .returned (.int .i64 (countR 4096 S q e).1) ∧ IsS132 w0 w' g ⟨S.toArray⟩ (countR 4096 S q e).2.1 (countR 4096 S q e).2.2 ∧ Below w0.heap.size w0 w' ∧ KeepBut W w' g none :=
  wire_Reader_Count.calls (2 * S.length + 3) g ⟨S.toArray⟩ q e 4096 _ _ _ _ w0 W hi hb (count_ref 4096 (by omega) S (by omega) q hq e _ (Nat.le_refl _))
theorem text_call (S : List UInt8) (hS : S.length ≤ 1000000) (g : Nat) (w0 : World) (q : Nat) (e : Int) (hq : q ≤ S.length) (W : World) (hi : IsS132 w0 W g ⟨S.toArray⟩ q e) (hb : Below w0.heap.size w0 W) :
    Calls Try.prog 46 #[.pointer (some ⟨g, 0, none⟩), .int .i64 160] W fun en w' => en = .returned (.string ⟨(textR 160 S q e).1.toArray⟩) ∧ IsS132 w0 w' g ⟨S.toArray⟩ (textR 160 S q e).2.1 (textR 160 S q e).2.2 ∧ Below w0.heap.size w0 w' ∧ KeepBut W w' g none :=
  wire_Reader_Text.calls (2 * S.length + 3) g ⟨S.toArray⟩ q e 160 _ _ _ _ w0 W hi hb (text_ref 160 (by omega) S (by omega) q hq e _ (Nat.le_refl _))
theorem int_call (S : List UInt8) (hS : S.length ≤ 1000000) (g : Nat) (w0 : World) (q : Nat) (e : Int) (hq : q ≤ S.length) (W : World) (hi : IsS132 w0 W g ⟨S.toArray⟩ q e) (hb : Below w0.heap.size w0 W) :
    Calls Try.prog 24 #[.pointer (some ⟨g, 0, none⟩)] W fun en w' => en = .returned (.int .i64 (intR S q e).1) ∧ IsS132 w0 w' g ⟨S.toArray⟩ (intR S q e).2.1 (intR S q e).2.2 ∧ Below w0.heap.size w0 w' ∧ KeepBut W w' g none :=
  wire_Reader_Int.calls (2 * S.length + 3) g ⟨S.toArray⟩ q e _ _ _ _ w0 W hi hb (int_ref S (by omega) q hq e _ (by omega))
structure S80 where
  f0 : Int
  f1 : Int
  f2 : ByteArray
  f3 : Int
def z80 : S80 := ⟨(0 : Int), (0 : Int), (⟨#[]⟩ : ByteArray), (0 : Int)⟩
def k80 : Kd S80 := Kd.iso (Kd.pair (Kd.int .i64) (Kd.pair (Kd.int .i64) (Kd.pair Kd.string (Kd.int .i64)))) (fun x : S80 => (x.f0, x.f1, x.f2, x.f3))
theorem k80_open {w : World} {x : S80} {cs : List Value} (h : k80.K w x cs) : cs = [.int .i64 x.f0, .int .i64 x.f1, .string x.f2, .int .i64 x.f3] := by
  obtain ⟨_, _, rfl, rfl, ⟨_, _, rfl, rfl, ⟨_, _, rfl, rfl, rfl⟩⟩⟩ := h
  exact rfl
theorem k80_openM {w : World} {base : Nat} {ok : Nat → Prop} {x : S80} {cs : List Value} (h : k80.M w base ok x cs) : cs = [.int .i64 x.f0, .int .i64 x.f1, .string x.f2, .int .i64 x.f3] := by
  obtain ⟨_, _, rfl, rfl, ⟨_, _, rfl, rfl, ⟨_, _, rfl, rfl, rfl⟩⟩⟩ := h
  exact rfl
theorem k80_mk (w : World) (x : S80)  : k80.K w x [.int .i64 x.f0, .int .i64 x.f1, .string x.f2, .int .i64 x.f3] := ⟨[.int .i64 x.f0], [.int .i64 x.f1, .string x.f2, .int .i64 x.f3], rfl, rfl, ⟨[.int .i64 x.f1], [.string x.f2, .int .i64 x.f3], rfl, rfl, ⟨[.string x.f2], [.int .i64 x.f3], rfl, rfl, rfl⟩⟩⟩
theorem k80_mkM (w : World) (base : Nat) (ok : Nat → Prop) (x : S80)  : k80.M w base ok x [.int .i64 x.f0, .int .i64 x.f1, .string x.f2, .int .i64 x.f3] := ⟨[.int .i64 x.f0], [.int .i64 x.f1, .string x.f2, .int .i64 x.f3], rfl, rfl, ⟨[.int .i64 x.f1], [.string x.f2, .int .i64 x.f3], rfl, rfl, ⟨[.string x.f2], [.int .i64 x.f3], rfl, rfl, rfl⟩⟩⟩
theorem k80_mkF (W : World) (ok : Nat → Prop) (x : S80) : Kd.FK k80 W ok x [.int .i64 x.f0, .int .i64 x.f1, .string x.f2, .int .i64 x.f3] := fun W2 _ => k80_mk W2 x
end Go.Proofs.Ytlkfbdeddfhocaa

set_option linter.unusedVariables false
set_option linter.unusedSimpArgs false
namespace Go.Proofs.Ytlkfbdeddfhocaa

/-- The groups s, s - 1, .., 1. -/
def grp (n : Nat) : Nat → List UInt8
  | 0 => []
  | s + 1 => UInt8.ofNat (128 + n / 2 ^ (7 * (s + 1)) % 128) :: grp n s
theorem div_step (n s : Nat) : n / 2 ^ (7 * (s + 1)) = n / 2 ^ (7 * s) / 128 := by
  rw [Nat.div_div_eq_div_mul]
  congr 1
  rw [show 7 * (s + 1) = 7 * s + 7 by omega, Nat.pow_add]
theorem hi_grp (n : Nat) : ∀ s, (s = 0 ∨ n / 2 ^ (7 * s) ≠ 0) → encHi (n / 2 ^ (7 * (s + 1))) ++ grp n s = encHi (n / 128)
  | 0, _ => by simp [grp]
  | s + 1, h => by
    have h' : n / 2 ^ (7 * (s + 1)) ≠ 0 := h.resolve_left (by omega)
    have ih := hi_grp n s (by
      by_cases hs : s = 0
      · exact .inl hs
      · right
        intro h0
        rw [div_step, h0] at h'
        simp at h')
    rw [← ih, encHi_pos _ h', grp, div_step n (s + 1)]
    simp
theorem encU_grp (n s : Nat) (h0 : n / 2 ^ (7 * (s + 1)) = 0) (h1 : s = 0 ∨ n / 2 ^ (7 * s) ≠ 0) : encU n = grp n s ++ [UInt8.ofNat (n % 128)] := by
  have := hi_grp n s h1
  rw [h0, encHi_zero, List.nil_append] at this
  unfold encU
  rw [this]
theorem grp_length (n : Nat) : ∀ s, (grp n s).length = s
  | 0 => rfl
  | s + 1 => by simp [grp, grp_length n s]
theorem encU_len (n : Nat) (h : n < 18446744073709551616) : 1 ≤ (encU n).length ∧ (encU n).length ≤ 10 := by
  have hk : ∀ s, s ≤ 9 → n / 2 ^ (7 * (s + 1)) = 0 → (encU n).length ≤ 10 := by
    intro s
    induction s with
    | zero =>
      intro _ h0
      rw [encU_grp n 0 h0 (.inl rfl)]; simp [grp]
    | succ s ih =>
      intro hs h0
      by_cases hz : n / 2 ^ (7 * (s + 1)) = 0
      · exact ih (by omega) hz
      · rw [encU_grp n (s + 1) h0 (.inr hz), List.length_append, grp_length]; simp; omega
  have h9 : n < 2 ^ (7 * (9 + 1)) := by
    have : (2 : Nat) ^ (7 * (9 + 1)) = 1180591620717411303424 := by decide
    omega
  exact ⟨by unfold encU; simp, hk 9 (by omega) (Nat.div_eq_of_lt h9)⟩
end Go.Proofs.Ytlkfbdeddfhocaa

set_option linter.unusedVariables false
set_option linter.unusedSimpArgs false
namespace Go.Proofs.Ytlkfbdeddfhocaa
open Go.Proofs Go.RowKit Go.Proofs.YtlkfbdeddfhocaaW.PrintWords Go.Proofs.YtlkfbdeddfhocaaW.PrintLast Go.Proofs.YtlkfbdeddfhocaaW.PrintMore Q

theorem info5 : (Try.prog.info? 5).map (fun i => (i.zero, i.size, i.bytes)) = some (some (.int .u8 0), 1, 1) := by kernel_rfl
def bz (bs : List UInt8) : List Int := bs.map fun b => (b.toNat : Int)
theorem bz_length (bs : List UInt8) : (bz bs).length = bs.length := by simp [bz]
theorem bz_append (a b : List UInt8) : bz (a ++ b) = bz a ++ bz b := by simp [bz]
/-- Block g of type T holds a writer that wrote bs; its row came up behind w0. -/
def IsW (w0 W : World) (g T : Nat) (bs : List UInt8) : Prop := ∃ v, W.heap[g]? = some (.cells #[v] T (0, 0)) ∧ Kd.R (Kd.int .u8) 5 W w0.heap.size (fun _ => True) v (bz bs) ∧ w0.heap.size ≤ g
/-- Blocks of another type than 5, other than g, are as they were. -/
def KeepT (w w' : World) (g : Nat) : Prop := w.heap.size ≤ w'.heap.size ∧ ∀ i cs t fr, w.heap[i]? = some (.cells cs t fr) → t ≠ 5 → i ≠ g → w'.heap[i]? = some (.cells cs t fr)
theorem KeepT.refl (w : World) (g : Nat) : KeepT w w g := ⟨Nat.le_refl _, fun _ _ _ _ h _ _ => h⟩
theorem KeepT.trans {w w1 w2 : World} {g : Nat} (h : KeepT w w1 g) (k : KeepT w1 w2 g) : KeepT w w2 g := ⟨Nat.le_trans h.1 k.1, fun i cs t fr h1 h2 h3 => k.2 i cs t fr (h.2 i cs t fr h1 h2 h3) h2 h3⟩
/-- Behind append and store. -/
theorem IsW.wrote {w0 W w6 : World} {g T : Nat} {ds : List UInt8} {vb v' : Value} {V : Int} (b : UInt8) (hb : (b.toNat : Int) = V) (hT : T ≠ 5) (hge : w0.heap.size ≤ g) (hB : Below w0.heap.size w0 W) (hbk : W.heap[g]? = some (.cells #[vb] T (0, 0)))
    (hR : Kd.R (Kd.int .u8) 5 W w0.heap.size (fun _ => True) vb (bz ds))
    (hg : W.grownBy w6 vb.ownBlock) (hBW : Below w0.heap.size W w6) (ho : Kd.R (Kd.int .u8) 5 w6 w0.heap.size (fun _ => True) v' (bz ds ++ [V])) :
    IsW w0 (w6.setCell ⟨g, 0, none⟩ v') g T (ds ++ [b]) ∧ Below w0.heap.size w0 (w6.setCell ⟨g, 0, none⟩ v') ∧ KeepT W (w6.setCell ⟨g, 0, none⟩ v') g := by
  have hbk6 := blk_grown hbk hg (Kd.R_ne hR hbk (fun h => hT h.symm))
  have hother : ∀ i, i ≠ g → (w6.setCell ⟨g, 0, none⟩ v').heap[i]? = w6.heap[i]? := fun i hi => Below.heap_setCell w6 ⟨g, 0, none⟩ v' i hi
  refine ⟨⟨v', by simpa using blk_set hbk6 0 v', ?_, hge⟩, ?_, ?_⟩
  · rw [bz_append]
    have e : bz [b] = [V] := by simp [bz, hb]
    rw [e]
    have h1 := Kd.R_types ho hbk6 (fun q hq => by
      have : q = 5 := by
        rcases List.mem_cons.1 hq with h | h
        · exact h
        · exact absurd h (by show ¬ q ∈ ([] : List Nat); simp)
      rw [this]; exact fun h => hT h.symm)
    exact Kd.R_mono (Kd.R_step h1 (fun k hk _ => hother k hk.2)) (fun _ _ => trivial)
  · exact below_set (hB.trans hBW) hge
  · refine ⟨by simpa [World.setCell] using hg.size, fun i cs t fr h1 h2 h3 => ?_⟩
    rw [hother i h3, hg.block i (blk_lt h1) ?_]
    · exact h1
    · intro he
      obtain ⟨cells, hc⟩ := own_typed (Kd.own_of_R hR) i he.symm
      rw [h1] at hc
      injection hc with hc
      injection hc with _ hc2
      exact h2 hc2
end Go.Proofs.Ytlkfbdeddfhocaa

set_option linter.unusedVariables false
set_option linter.unusedSimpArgs false
namespace Go.Proofs.Ytlkfbdeddfhocaa
open Go.Proofs Go.RowKit Go.Proofs.YtlkfbdeddfhocaaW.PrintWords Go.Proofs.YtlkfbdeddfhocaaW.PrintLast Go.Proofs.YtlkfbdeddfhocaaW.PrintMore Q

theorem last_byte (n : Nat) : (((UInt8.ofNat (n % 128)).toNat : Nat) : Int) = Go.bits .and .u8 ((n : Int) % 256) 127 := by
  rw [and127 _ (by omega) (by omega), toNat_ofNat _ (by omega)]; omega
theorem or128 (a : Nat) (h : a < 128) : Go.bits .or .u8 (a : Int) 128 = 128 + (a : Int) := by
  have e1 := (bits_nat .u8 8 (by decide) wraps_u8 a 128 (by omega) (by omega)).2
  have e2 := (bits_nat .u8 8 (by decide) wraps_u8 128 a (by omega) (by omega)).2
  rw [Nat.or_comm] at e1
  have e3 := bits_join .u8 8 (by decide) wraps_u8 7 128 a (by decide) (by decide) (by decide) (by omega) (by omega) (by omega)
  exact (e1.trans e2.symm).trans e3
theorem mid_byte (n c : Nat) : (((UInt8.ofNat (128 + n / 2 ^ c % 128)).toNat : Nat) : Int) = Go.bits .or .u8 (Go.bits .and .u8 ((n : Int) / 2 ^ c % 256) 127) 128 := by
  have hd : (n : Int) / 2 ^ c = ((n / 2 ^ c : Nat) : Int) := by simp
  rw [hd]
  generalize n / 2 ^ c = m
  rw [and127 _ (by omega) (by omega), show ((m : Int) % 256 % 128) = ((m % 128 : Nat) : Int) by omega, or128 _ (by omega), toNat_ofNat _ (by omega)]
  omega
set_option maxHeartbeats 8000000 in
set_option maxRecDepth 1000000 in
theorem wuint (n : Nat) (hn : n < 18446744073709551616) (g T : Nat) (hT : T ≠ 5) (bs : List UInt8) (hl : bs.length ≤ 100000000) (w0 w : World) (hI : IsW w0 w g T bs) (hB : Below w0.heap.size w0 w) :
    Calls Try.prog 58 #[.pointer (some ⟨g, 0, none⟩), .int .u64 n] w fun en w' => en = .returned (.tuple #[]) ∧ IsW w0 w' g T (bs ++ encU n) ∧ Below w0.heap.size w0 w' ∧ KeepT w w' g := by
  have HI := Lib.hid hI
  have HB := Lib.hid hB
  clear hI hB
  go_enter Try.func58, Try.ntmps58
  go_wp2
  go_loopw [4] (fun u wr => ∃ s : Nat, u = .int .i64 ((7 * s : Nat) : Int) ∧ s ≤ 9 ∧ Hid (n / 2 ^ (7 * (s + 1)) = 0) ∧ wr = w) (fun u _ => (intOf u).toNat)
  case atStart => exact ⟨9, rfl, by omega, Lib.hid (Nat.div_eq_of_lt (by have : (2 : Nat) ^ (7 * (9 + 1)) = 1180591620717411303424 := by decide; 
                                                                         rw [this]; omega)), rfl⟩
  case round =>
    obtain ⟨s, rfl, hs, HZ, rfl⟩ := hrel
    by_cases hx : 0 < s ∧ n / 2 ^ (7 * s) = 0
    · obtain ⟨h0, hz⟩ := hx
      have hz2 : Hid (n / 2 ^ (7 * (s - 1 + 1)) = 0) := by rw [show s - 1 + 1 = s by omega]; exact Lib.hid hz
      obtain ⟨c, hc⟩ : ∃ c : Nat, 7 * s = c := ⟨_, rfl⟩
      rw [hc] at hz ⊢
      have hc1 : 0 < c := by omega
      have hc2 : c ≤ 63 := by omega
      have hd : (((n : Int) / 2 ^ c) == 0) = true := by rw [beq_iff_eq]; exact_mod_cast hz
      clear hz
      go_wp2
      refine ⟨⟨s - 1, ?_, by omega, hz2, trivial⟩, ?_⟩
      · congr 1; omega
      · simp [intOf]; omega
    · have hend : s = 0 ∨ n / 2 ^ (7 * s) ≠ 0 := by
        rcases Nat.eq_zero_or_pos s with h | h
        · exact .inl h
        · exact .inr (fun e => hx ⟨h, e⟩)
      have HE := Lib.hid hend
      rcases Nat.eq_zero_or_pos s with h0 | hs0
      · rw [show ((7 * s : Nat) : Int) = 0 by omega]
        go_wp2
        go_loopw [4] (fun u w2 => ∃ (t : Nat) (ds : List UInt8), u = .int .i64 ((7 * t : Nat) : Int) ∧ t ≤ s ∧ ds.length ≤ bs.length + 9 ∧ Hid (IsW w0 w2 g T ds) ∧ Hid (Below w0.heap.size w0 w2) ∧ Hid (KeepT wr w2 g) ∧ Hid (ds ++ grp n t = bs ++ grp n s) ∧ ds.length + t = bs.length + s) (fun u _ => (intOf u).toNat)
        case atStart => exact ⟨s, bs, (by rw [h0]; rfl), Nat.le_refl _, by omega, HI, HB, Lib.hid (KeepT.refl _ _), Lib.hid rfl, rfl⟩
        case round =>
          clear HI HB
          obtain ⟨t, ds, rfl, ht, hdl, HI, HB, HK, HG, hlen⟩ := hrel
          obtain ⟨vb, HBK0, HR0, hge⟩ := HI.out
          have HBK := Lib.hid HBK0
          have HR := Lib.hid HR0
          have hcb := blk_cell HBK0 0
          have hfb := blk_frozen HBK0 0
          clear HBK0 HR0
          rcases Nat.eq_zero_or_pos t with ht0 | ht0
          · subst ht0
            go_wp2_with ((with_reducible refine gate_builtin (b := .append) (xs := #[.tmp 40, .tmp 44]) rfl ?_); at_builtin; refine Kd.R_append (Kd.int .u8) w0.heap.size rfl (.tmp 40) (.tmp 44) 82 5 (.int .u8 0) 1 rfl Try.underlying82 info5 rfl (by decide) (by omega) vb (bz ds) (Go.bits .and .u8 ((n : Int) % 256) 127) [.int .u8 (Go.bits .and .u8 ((n : Int) % 256) 127)] (fun _ => True) (fun _ => False) rfl rfl ?aP (fun _ hk => hk.elim) ?aF ?aO (Below.refl _ _) ?aS ?aL ?_; (case aP => exact rfl); (case aF => exact (fun _ _ => trivial)); (case aO => exact HR.out); (case aS => exact below_size HB.out); (case aL => rw [bz_length]; omega); intro v1 w6 ho hb hg hat; obtain ⟨A9, c9, e9⟩ := Kd.R_slice ho; subst e9; have HBK6 := Lib.hid (blk_grown HBK.out hg (Kd.R_ne HR.out HBK.out (fun h => hT h.symm))); have hc6 := blk_cell HBK6.out 0; have hf6 := blk_frozen HBK6.out 0; have HO := Lib.hid ho; have HG6 := Lib.hid hg; have HBE := Lib.hid hb; clear ho hg hb hat hcb hfb)
            first | go_end0 | ((try simp only [Exit.inBlock, Exit.then]); refine bodyPost_ret (results_none rfl _ _ _) rfl ?_)
            obtain ⟨i1, i2, i3⟩ := IsW.wrote (UInt8.ofNat (n % 128)) (last_byte n) hT hge HB.out HBK.out HR.out HG6.out HBE.out HO.out
            simp only [List.length_append, List.length_cons, List.length_nil, Nat.zero_add] at i1 i2 i3
            refine ⟨rfl, ?_, i2, HK.out.trans i3⟩
            have hG := HG.out
            simp only [grp, List.append_nil] at hG
            rw [encU_grp n s HZ.out HE.out, ← List.append_assoc, ← hG]
            exact i1
          · exfalso; omega
      · have h1 : n / 2 ^ (7 * s) ≠ 0 := hend.resolve_left (by omega)
        clear hend
        obtain ⟨c, hc⟩ : ∃ c : Nat, 7 * s = c := ⟨_, rfl⟩
        rw [hc] at h1 ⊢
        have hcp : (0 : Int) < c := by omega
        have hcq : c ≤ 63 := by omega
        have hd : (((n : Int) / 2 ^ c) == 0) = false := by rw [beq_eq_false_iff_ne]; exact_mod_cast h1
        clear h1
        go_wp2
        go_loopw [4] (fun u w2 => ∃ (t : Nat) (ds : List UInt8), u = .int .i64 ((7 * t : Nat) : Int) ∧ t ≤ s ∧ ds.length ≤ bs.length + 9 ∧ Hid (IsW w0 w2 g T ds) ∧ Hid (Below w0.heap.size w0 w2) ∧ Hid (KeepT wr w2 g) ∧ Hid (ds ++ grp n t = bs ++ grp n s) ∧ ds.length + t = bs.length + s) (fun u _ => (intOf u).toNat)
        case atStart => exact ⟨s, bs, (by rw [hc]), Nat.le_refl _, by omega, HI, HB, Lib.hid (KeepT.refl _ _), Lib.hid rfl, rfl⟩
        case round =>
          clear HI HB
          obtain ⟨t, ds, rfl, ht, hdl, HI, HB, HK, HG, hlen⟩ := hrel
          obtain ⟨vb, HBK0, HR0, hge⟩ := HI.out
          have HBK := Lib.hid HBK0
          have HR := Lib.hid HR0
          have hcb := blk_cell HBK0 0
          have hfb := blk_frozen HBK0 0
          clear HBK0 HR0
          rcases Nat.eq_zero_or_pos t with ht0 | ht0
          · subst ht0
            go_wp2_with ((with_reducible refine gate_builtin (b := .append) (xs := #[.tmp 40, .tmp 44]) rfl ?_); at_builtin; refine Kd.R_append (Kd.int .u8) w0.heap.size rfl (.tmp 40) (.tmp 44) 82 5 (.int .u8 0) 1 rfl Try.underlying82 info5 rfl (by decide) (by omega) vb (bz ds) (Go.bits .and .u8 ((n : Int) % 256) 127) [.int .u8 (Go.bits .and .u8 ((n : Int) % 256) 127)] (fun _ => True) (fun _ => False) rfl rfl ?aP (fun _ hk => hk.elim) ?aF ?aO (Below.refl _ _) ?aS ?aL ?_; (case aP => exact rfl); (case aF => exact (fun _ _ => trivial)); (case aO => exact HR.out); (case aS => exact below_size HB.out); (case aL => rw [bz_length]; omega); intro v1 w6 ho hb hg hat; obtain ⟨A9, c9, e9⟩ := Kd.R_slice ho; subst e9; have HBK6 := Lib.hid (blk_grown HBK.out hg (Kd.R_ne HR.out HBK.out (fun h => hT h.symm))); have hc6 := blk_cell HBK6.out 0; have hf6 := blk_frozen HBK6.out 0; have HO := Lib.hid ho; have HG6 := Lib.hid hg; have HBE := Lib.hid hb; clear ho hg hb hat hcb hfb)
            first | go_end0 | ((try simp only [Exit.inBlock, Exit.then]); refine bodyPost_ret (results_none rfl _ _ _) rfl ?_)
            obtain ⟨i1, i2, i3⟩ := IsW.wrote (UInt8.ofNat (n % 128)) (last_byte n) hT hge HB.out HBK.out HR.out HG6.out HBE.out HO.out
            simp only [List.length_append, List.length_cons, List.length_nil, Nat.zero_add] at i1 i2 i3
            refine ⟨rfl, ?_, i2, HK.out.trans i3⟩
            have hG := HG.out
            simp only [grp, List.append_nil] at hG
            rw [encU_grp n s HZ.out HE.out, ← List.append_assoc, ← hG]
            exact i1
          · obtain ⟨t, rfl⟩ : ∃ m, t = m + 1 := ⟨t - 1, by omega⟩
            obtain ⟨c2, hc2'⟩ : ∃ c2 : Nat, 7 * (t + 1) = c2 := ⟨_, rfl⟩
            rw [hc2']
            have hc1 : 0 < c2 := by omega
            have hc2 : c2 ≤ 63 := by omega
            have HC := Lib.hid hc2'
            have hct : (c2 : Int) - 7 = ((7 * t : Nat) : Int) := by omega
            clear hc2' hc1
            have hc1' : (0 : Int) < c2 := by omega
            go_wp2_with ((with_reducible refine gate_builtin (b := .append) (xs := #[.tmp 24, .tmp 32]) rfl ?_); at_builtin; refine Kd.R_append (Kd.int .u8) w0.heap.size rfl (.tmp 24) (.tmp 32) 82 5 (.int .u8 0) 1 rfl Try.underlying82 info5 rfl (by decide) (by omega) vb (bz ds) (Go.bits .or .u8 (Go.bits .and .u8 ((n : Int) / 2 ^ c2 % 256) 127) 128) [.int .u8 (Go.bits .or .u8 (Go.bits .and .u8 ((n : Int) / 2 ^ c2 % 256) 127) 128)] (fun _ => True) (fun _ => False) rfl rfl ?aP (fun _ hk => hk.elim) ?aF ?aO (Below.refl _ _) ?aS ?aL ?_; (case aP => exact rfl); (case aF => exact (fun _ _ => trivial)); (case aO => exact HR.out); (case aS => exact below_size HB.out); (case aL => rw [bz_length]; omega); intro v1 w6 ho hb hg hat; obtain ⟨A9, c9, e9⟩ := Kd.R_slice ho; subst e9; have HBK6 := Lib.hid (blk_grown HBK.out hg (Kd.R_ne HR.out HBK.out (fun h => hT h.symm))); have hc6 := blk_cell HBK6.out 0; have hf6 := blk_frozen HBK6.out 0; have HO := Lib.hid ho; have HG6 := Lib.hid hg; have HBE := Lib.hid hb; clear ho hg hb hat hcb hfb)
            obtain ⟨i1, i2, i3⟩ := IsW.wrote (UInt8.ofNat (128 + n / 2 ^ c2 % 128)) (mid_byte n c2) hT hge HB.out HBK.out HR.out HG6.out HBE.out HO.out
            simp only [List.length_append, List.length_cons, List.length_nil, Nat.zero_add] at i1 i2 i3
            refine ⟨⟨t, ds ++ [UInt8.ofNat (128 + n / 2 ^ c2 % 128)], ?_, by omega, by simp; omega, Lib.hid i1, Lib.hid i2, Lib.hid (HK.out.trans i3), ?_, by simp; omega⟩, ?_⟩
            · first | rfl | (congr 1; omega)
            · have hG := HG.out
              rw [grp, HC.out] at hG
              rw [List.append_assoc]
              exact Lib.hid hG
            · simp [intOf]; omega
end Go.Proofs.Ytlkfbdeddfhocaa

set_option linter.unusedVariables false
set_option linter.unusedSimpArgs false
namespace Go.Proofs.Ytlkfbdeddfhocaa
open Go.Proofs Go.RowKit Go.Proofs.YtlkfbdeddfhocaaW.PrintWords Go.Proofs.YtlkfbdeddfhocaaW.PrintLast Go.Proofs.YtlkfbdeddfhocaaW.PrintMore Q

theorem wuint_call (m : Nat) (hn : m < 18446744073709551616) (g T : Nat) (hT : T ≠ 5) (bs : List UInt8) (hl : bs.length ≤ 100000000) (w0 w : World) (hI : IsW w0 w g T bs) (hB : Below w0.heap.size w0 w) (v : Int) (hv : v = (m : Int)) :
    Calls Try.prog 58 #[.pointer (some ⟨g, 0, none⟩), .int .u64 v] w fun en w' => en = .returned (.tuple #[]) ∧ IsW w0 w' g T (bs ++ encU m) ∧ Below w0.heap.size w0 w' ∧ KeepT w w' g := by
  subst hv; exact wuint m hn g T hT bs hl w0 w hI hB
theorem not_i64n (x : Int) (h0 : x < 0) (h1 : -9223372036854775808 ≤ x) : Go.bits .xor .i64 (-1) x = -1 - x := by
  show IntKind.i64.wrap ((BitVec.ofInt 64 (-1) ^^^ BitVec.ofInt 64 x).toNat : Int) = _
  have e : BitVec.ofInt 64 (-1) = BitVec.allOnes 64 := by decide
  have h2 : (BitVec.ofInt 64 x).toNat = (x + 18446744073709551616).toNat := by
    rw [BitVec.toNat_ofInt]; congr 1; omega
  rw [e, BitVec.allOnes_xor, BitVec.toNat_not, h2, IntKind.wrap_i64]
  omega
theorem u64_in (x : Int) (h0 : 0 ≤ x) (h1 : x < 18446744073709551616) : IntKind.u64.wrap x = x := by rw [IntKind.wrap_u64]; omega
theorem neg_zig (n : Int) (h : n < 0) (h1 : -9223372036854775808 ≤ n) : Go.bits .or .u64 (IntKind.u64.wrap (IntKind.u64.wrap (Go.bits .xor .i64 (-1) n) * 2)) 1 = (zig n : Int) := by
  have e1 : IntKind.u64.wrap (-1 - n) = -1 - n := u64_in _ (by omega) (by omega)
  have e2 : IntKind.u64.wrap ((-1 - n) * 2) = (-1 - n) * 2 := u64_in _ (by omega) (by omega)
  rw [not_i64n n h h1, e1, e2]
  have e := bits_join .u64 64 (by decide) wraps_u64 1 ((-1 - n) * 2) 1 (by omega) (by omega) (by omega) (by omega) (by omega) (by omega)
  rw [e]
  unfold zig
  rw [if_pos h]
  omega
theorem pos_zig (n : Int) (h : ¬ n < 0) : n * 2 = (zig n : Int) := by
  unfold zig
  rw [if_neg h]
  omega
set_option maxHeartbeats 4000000 in
set_option maxRecDepth 100000 in
theorem wint (n : Int) (hn : isI64 n) (g T : Nat) (hT : T ≠ 5) (bs : List UInt8) (hl : bs.length ≤ 100000000) (w0 w : World) (hI : IsW w0 w g T bs) (hB : Below w0.heap.size w0 w) :
    Calls Try.prog 39 #[.pointer (some ⟨g, 0, none⟩), .int .i64 n] w fun en w' => en = .returned (.tuple #[]) ∧ IsW w0 w' g T (bs ++ encI n) ∧ Below w0.heap.size w0 w' ∧ KeepT w w' g := by
  have HC := Lib.hid (wuint_call (zig n) (zig_lt n hn) g T hT bs hl w0 w hI hB)
  obtain ⟨hn1, hn2⟩ := hn
  clear hI hB
  by_cases h : n < 0
  · have HZ := Lib.hid (neg_zig n h hn1)
    clear hn1 hn2
    go_enter Try.func39, Try.ntmps39
    go_wp2_with (go_at_call 58; refine (HC.out _ HZ.out).mono ?_; rintro en w' ⟨rfl, h1, h2, h3⟩; have H1 := Lib.hid h1; have H2 := Lib.hid h2; have H3 := Lib.hid h3; clear h1 h2 h3)
    first | go_end0 | ((try simp only [Exit.inBlock, Exit.then]); refine bodyPost_ret (results_none rfl _ _ _) rfl ?_)
    exact ⟨rfl, H1.out, H2.out, H3.out⟩
  · have HZ := Lib.hid (pos_zig n h)
    go_enter Try.func39, Try.ntmps39
    go_wp2_with (go_at_call 58; refine (HC.out _ HZ.out).mono ?_; rintro en w' ⟨rfl, h1, h2, h3⟩; have H1 := Lib.hid h1; have H2 := Lib.hid h2; have H3 := Lib.hid h3; clear h1 h2 h3)
    first | go_end0 | ((try simp only [Exit.inBlock, Exit.then]); refine bodyPost_ret (results_none rfl _ _ _) rfl ?_)
    exact ⟨rfl, H1.out, H2.out, H3.out⟩
set_option maxHeartbeats 4000000 in
set_option maxRecDepth 100000 in
theorem wcount (n : Nat) (hn : n ≤ 9223372036854775807) (g T : Nat) (hT : T ≠ 5) (bs : List UInt8) (hl : bs.length ≤ 100000000) (w0 w : World) (hI : IsW w0 w g T bs) (hB : Below w0.heap.size w0 w) :
    Calls Try.prog 40 #[.pointer (some ⟨g, 0, none⟩), .int .i64 n] w fun en w' => en = .returned (.tuple #[]) ∧ IsW w0 w' g T (bs ++ encU n) ∧ Below w0.heap.size w0 w' ∧ KeepT w w' g := by
  have HC := Lib.hid (wuint_call n (by omega) g T hT bs hl w0 w hI hB)
  clear hI hB
  go_enter Try.func40, Try.ntmps40
  go_wp2_with (go_at_call 58; refine (HC.out _ rfl).mono ?_; rintro en w' ⟨rfl, h1, h2, h3⟩; have H1 := Lib.hid h1; have H2 := Lib.hid h2; have H3 := Lib.hid h3; clear h1 h2 h3)
  first | go_end0 | ((try simp only [Exit.inBlock, Exit.then]); refine bodyPost_ret (results_none rfl _ _ _) rfl ?_)
  exact ⟨rfl, H1.out, H2.out, H3.out⟩
/-- Behind append of a byte or of a text, and the store. -/
theorem IsW.wroteL {w0 W w6 : World} {g T : Nat} {ds es : List UInt8} {vb v' : Value} (hT : T ≠ 5) (hge : w0.heap.size ≤ g) (hB : Below w0.heap.size w0 W) (hbk : W.heap[g]? = some (.cells #[vb] T (0, 0)))
    (hR : Kd.R (Kd.int .u8) 5 W w0.heap.size (fun _ => True) vb (bz ds))
    (hg : W.grownBy w6 vb.ownBlock) (hBW : Below w0.heap.size W w6) (ho : Kd.R (Kd.int .u8) 5 w6 w0.heap.size (fun _ => True) v' (bz (ds ++ es))) :
    IsW w0 (w6.setCell ⟨g, 0, none⟩ v') g T (ds ++ es) ∧ Below w0.heap.size w0 (w6.setCell ⟨g, 0, none⟩ v') ∧ KeepT W (w6.setCell ⟨g, 0, none⟩ v') g := by
  have hbk6 := blk_grown hbk hg (Kd.R_ne hR hbk (fun h => hT h.symm))
  have hother : ∀ i, i ≠ g → (w6.setCell ⟨g, 0, none⟩ v').heap[i]? = w6.heap[i]? := fun i hi => Below.heap_setCell w6 ⟨g, 0, none⟩ v' i hi
  refine ⟨⟨v', by simpa using blk_set hbk6 0 v', ?_, hge⟩, ?_, ?_⟩
  · have h1 := Kd.R_types ho hbk6 (fun q hq => by
      have : q = 5 := by
        rcases List.mem_cons.1 hq with h | h
        · exact h
        · exact absurd h (by show ¬ q ∈ ([] : List Nat); simp)
      rw [this]; exact fun h => hT h.symm)
    exact Kd.R_mono (Kd.R_step h1 (fun k hk _ => hother k hk.2)) (fun _ _ => trivial)
  · exact below_set (hB.trans hBW) hge
  · refine ⟨by simpa [World.setCell] using hg.size, fun i cs t fr h1 h2 h3 => ?_⟩
    rw [hother i h3, hg.block i (blk_lt h1) ?_]
    · exact h1
    · intro he
      obtain ⟨cells, hc⟩ := own_typed (Kd.own_of_R hR) i he.symm
      rw [h1] at hc
      injection hc with hc
      injection hc with _ hc2
      exact h2 hc2
theorem bz_bytesOf (t : List UInt8) : bytesOf ⟨t.toArray⟩ = bz t := by simp [bytesOf, bz]
set_option maxHeartbeats 4000000 in
set_option maxRecDepth 100000 in
theorem wbool (b : Bool) (g T : Nat) (hT : T ≠ 5) (bs : List UInt8) (hl : bs.length ≤ 100000000) (w0 w : World) (hI : IsW w0 w g T bs) (hB : Below w0.heap.size w0 w) :
    Calls Try.prog 42 #[.pointer (some ⟨g, 0, none⟩), .bool b] w fun en w' => en = .returned (.tuple #[]) ∧ IsW w0 w' g T (bs ++ encB b) ∧ Below w0.heap.size w0 w' ∧ KeepT w w' g := by
  obtain ⟨vb, HBK0, HR0, hge⟩ := hI
  have HB := Lib.hid hB
  have HBK := Lib.hid HBK0
  have HR := Lib.hid HR0
  have hcb := blk_cell HBK0 0
  have hfb := blk_frozen HBK0 0
  clear HBK0 HR0 hB
  cases b with
  | false =>
    go_enter Try.func42, Try.ntmps42
    go_wp2_with ((with_reducible refine gate_builtin (b := .append) (xs := #[.tmp 10, .tmp 12]) rfl ?_); at_builtin; refine Kd.R_append (Kd.int .u8) w0.heap.size rfl (.tmp 10) (.tmp 12) 82 5 (.int .u8 0) 1 rfl Try.underlying82 info5 rfl (by decide) (by omega) vb (bz bs) 0 [.int .u8 0] (fun _ => True) (fun _ => False) rfl rfl ?aP (fun _ hk => hk.elim) ?aF ?aO (Below.refl _ _) ?aS ?aL ?_; (case aP => exact rfl); (case aF => exact (fun _ _ => trivial)); (case aO => exact HR.out); (case aS => exact below_size HB.out); (case aL => rw [bz_length]; omega); intro v1 w6 ho hb hg hat; obtain ⟨A9, c9, e9⟩ := Kd.R_slice ho; subst e9; have HBK6 := Lib.hid (blk_grown HBK.out hg (Kd.R_ne HR.out HBK.out (fun h => hT h.symm))); have hc6 := blk_cell HBK6.out 0; have hf6 := blk_frozen HBK6.out 0; have HO := Lib.hid ho; have HG6 := Lib.hid hg; have HBE := Lib.hid hb; clear ho hg hb hat hcb hfb)
    first | go_end0 | ((try simp only [Exit.inBlock, Exit.then]); refine bodyPost_ret (results_none rfl _ _ _) rfl ?_)
    obtain ⟨i1, i2, i3⟩ := IsW.wrote 0 rfl hT hge HB.out HBK.out HR.out HG6.out HBE.out HO.out
    simp only [List.length_append, List.length_cons, List.length_nil, Nat.zero_add] at i1 i2 i3
    exact ⟨rfl, i1, i2, i3⟩
  | true =>
    go_enter Try.func42, Try.ntmps42
    go_wp2_with ((with_reducible refine gate_builtin (b := .append) (xs := #[.tmp 10, .tmp 12]) rfl ?_); at_builtin; refine Kd.R_append (Kd.int .u8) w0.heap.size rfl (.tmp 10) (.tmp 12) 82 5 (.int .u8 0) 1 rfl Try.underlying82 info5 rfl (by decide) (by omega) vb (bz bs) 1 [.int .u8 1] (fun _ => True) (fun _ => False) rfl rfl ?aP (fun _ hk => hk.elim) ?aF ?aO (Below.refl _ _) ?aS ?aL ?_; (case aP => exact rfl); (case aF => exact (fun _ _ => trivial)); (case aO => exact HR.out); (case aS => exact below_size HB.out); (case aL => rw [bz_length]; omega); intro v1 w6 ho hb hg hat; obtain ⟨A9, c9, e9⟩ := Kd.R_slice ho; subst e9; have HBK6 := Lib.hid (blk_grown HBK.out hg (Kd.R_ne HR.out HBK.out (fun h => hT h.symm))); have hc6 := blk_cell HBK6.out 0; have hf6 := blk_frozen HBK6.out 0; have HO := Lib.hid ho; have HG6 := Lib.hid hg; have HBE := Lib.hid hb; clear ho hg hb hat hcb hfb)
    first | go_end0 | ((try simp only [Exit.inBlock, Exit.then]); refine bodyPost_ret (results_none rfl _ _ _) rfl ?_)
    obtain ⟨i1, i2, i3⟩ := IsW.wrote 1 rfl hT hge HB.out HBK.out HR.out HG6.out HBE.out HO.out
    simp only [List.length_append, List.length_cons, List.length_nil, Nat.zero_add] at i1 i2 i3
    exact ⟨rfl, i1, i2, i3⟩
set_option maxHeartbeats 4000000 in
set_option maxRecDepth 100000 in
theorem wtext (t : ByteArray) (ht : t.size ≤ 100000000) (g T : Nat) (hT : T ≠ 5) (bs : List UInt8) (hl : bs.length ≤ 100000000) (w0 w : World) (hI : IsW w0 w g T bs) (hB : Below w0.heap.size w0 w) :
    Calls Try.prog 41 #[.pointer (some ⟨g, 0, none⟩), .string t] w fun en w' => en = .returned (.tuple #[]) ∧ IsW w0 w' g T (bs ++ encT t.data.toList) ∧ Below w0.heap.size w0 w' ∧ KeepT w w' g := by
  have HC := Lib.hid (wuint_call t.size (by omega) g T hT bs hl w0 w hI hB)
  clear hI hB
  have hel := (encU_len t.size (by omega)).2
  go_enter Try.func41, Try.ntmps41
  go_wp2_with (first | (go_at_call 58; refine (HC.out _ rfl).mono ?_; rintro en w1 ⟨rfl, ⟨vb, h0, h1, hge⟩, h2, h3⟩; have HBK := Lib.hid h0; have hcb := blk_cell h0 0; have hfb := blk_frozen h0 0; have HR := Lib.hid h1; have HB := Lib.hid h2; have HK := Lib.hid h3; clear h0 h1 h2 h3) | ((with_reducible refine gate_builtin (b := .append) (xs := #[.tmp 13, .tmp 14]) rfl ?_); at_builtin; refine print_append_str w0.heap.size rfl (.tmp 13) (.tmp 14) 82 9 5 rfl Try.underlying82 Try.underlying9 info5 vb (bz (bs ++ encU t.size)) t rfl rfl ?aO (Below.refl _ _) ?aS ?aL ?_; (case aO => exact Kd.own_of_R HR.out); (case aS => exact below_size HB.out); (case aL => rw [bz_length, List.length_append]; omega); intro v1 w6 ho hb hg; obtain ⟨A9, c9, e9⟩ := own_slice ho; subst e9; have HBK6 := Lib.hid (blk_grown HBK.out hg (Kd.R_ne HR.out HBK.out (fun h => hT h.symm))); have hc6 := blk_cell HBK6.out 0; have hf6 := blk_frozen HBK6.out 0; have HO := Lib.hid ho; have HG6 := Lib.hid hg; have HBE := Lib.hid hb; clear ho hg hb hcb hfb))
  first | go_end0 | ((try simp only [Exit.inBlock, Exit.then]); refine bodyPost_ret (results_none rfl _ _ _) rfl ?_)
  have ho := HO.out
  have eb : bz (bs ++ encU t.size) ++ bytesOf t = bz (bs ++ encT t.data.toList) := by
    have e1 : bytesOf t = bz t.data.toList := rfl
    have e2 : t.data.toList.length = t.size := data_length t
    rw [e1, ← bz_append]; unfold encT; rw [e2, List.append_assoc]
  rw [eb] at ho
  have hr6 := Kd.R_of_own (enc := Value.int .u8) (h1 := fun _ => rfl) (ok := fun _ => True) ho (fun _ _ => trivial)
  have e3 : bs ++ encT t.data.toList = (bs ++ encU t.size) ++ t.data.toList := by unfold encT; rw [data_length t, List.append_assoc]
  have hr7 := hr6
  rw [e3] at hr7
  obtain ⟨i1, i2, i3⟩ := IsW.wroteL hT hge HB.out HBK.out HR.out HG6.out HBE.out hr7
  have eL : (bz (bs ++ encU t.size)).length + (bytesOf t).length = (bz (bs ++ encU t.size ++ t.data.toList)).length := by
    have e1 : bytesOf t = bz t.data.toList := rfl
    rw [e1, bz_append _ t.data.toList, List.length_append]
  rw [eL, e3]
  exact ⟨rfl, i1, i2, HK.out.trans i3⟩
theorem wBytes_aux {w0 W : World} {g T : Nat} {bs : List UInt8} (h : IsW w0 W g T bs) : ∃ v, W.heap[g]? = some (.cells #[v] T (0, 0)) ∧ (convert 82 9 v).run Try.prog W = .ok (.string ⟨bs.toArray⟩) W := by
  obtain ⟨v, h1, h2, _⟩ := h
  refine ⟨v, h1, ?_⟩
  rw [own_string (P := Try.prog) (w := W) (src := 82) (dst := 9) (e := 5) Try.underlying82 Try.underlying5 Try.underlying9 (Kd.own_of_R h2)]
  congr 2
  unfold strOfNums bz
  rw [List.map_map]
  have e : ((fun n : Int => UInt8.ofNat n.toNat) ∘ fun b : UInt8 => (b.toNat : Int)) = id := by
    funext b; simp
  rw [e, List.map_id]
set_option maxHeartbeats 4000000 in
set_option maxRecDepth 100000 in
theorem wbytes (g T : Nat) (bs : List UInt8) (w0 w : World) (hI : IsW w0 w g T bs) :
    Calls Try.prog 22 #[.pointer (some ⟨g, 0, none⟩)] w fun en w' => en = .returned (.string ⟨bs.toArray⟩) ∧ w = w' := by
  obtain ⟨v, h1, h2⟩ := wBytes_aux hI
  have hcb := blk_cell h1 0
  go_enter Try.func22, Try.ntmps22
  go_wp2
  go_ret
  exact ⟨rfl, rfl⟩
/-- What the loop of ints and Ints reads: the numbers, in every world to come. -/
def ReadsOn (w0 w : World) (g : Nat) (A : Option Addr) (ns : List Int) : Prop := ∀ W', Below w0.heap.size w0 W' → KeepT w W' g → (Kd.int .i64).C W' A ns.length ns
theorem flat_take_succ {α : Type} (f : α → List UInt8) (l : List α) (k : Nat) (x : α) (h : l[k]? = some x) : (l.take (k + 1)).flatMap f = (l.take k).flatMap f ++ f x := by
  rw [List.take_add_one, h, List.flatMap_append]; simp
theorem flat_take_le {α : Type} (f : α → List UInt8) (l : List α) (k : Nat) : ((l.take k).flatMap f).length ≤ (l.flatMap f).length := by
  have := congrArg (fun x => (x.flatMap f).length) (List.take_append_drop k l)
  simp only [List.flatMap_append, List.length_append] at this
  omega
set_option maxHeartbeats 4000000 in
set_option maxRecDepth 100000 in
theorem wints (ns : List Int) (hns : ∀ n ∈ ns, isI64 n) (hm : ns.length ≤ 100000000) (A : Option Addr) (c : Nat) (g T : Nat) (hT : T ≠ 5) (bs : List UInt8) (hl : bs.length + (ns.flatMap encI).length ≤ 100000000) (w0 w : World) (hI : IsW w0 w g T bs) (hB : Below w0.heap.size w0 w) (hR : ReadsOn w0 w g A ns) :
    Calls Try.prog 12 #[.pointer (some ⟨g, 0, none⟩), .slice A ns.length c] w fun en w' => en = .returned (.tuple #[]) ∧ IsW w0 w' g T (bs ++ ns.flatMap encI) ∧ Below w0.heap.size w0 w' ∧ KeepT w w' g := by
  have HI := Lib.hid hI
  have HB := Lib.hid hB
  have HR := Lib.hid hR
  have HL := Lib.hid hl
  clear hI hB hR hl
  go_enter Try.func12, Try.ntmps12
  go_wp2
  go_loopw [5, 8] (fun m i wr => ∃ (k : Nat), i = .int .i64 k ∧ k ≤ ns.length ∧ Hid (IsW w0 wr g T (bs ++ (ns.take k).flatMap encI)) ∧ Hid (Below w0.heap.size w0 wr) ∧ Hid (KeepT w wr g)) (fun _ i _ => ns.length - (intOf i).toNat)
  case atStart => exact ⟨0, rfl, Nat.zero_le _, Lib.hid (by simpa using HI.out), HB, Lib.hid (KeepT.refl _ _)⟩
  case round =>
    clear HI HB
    obtain ⟨k, rfl, hk, HI, HB, HK⟩ := hrel
    by_cases hlt : k < ns.length
    · obtain ⟨n, hn⟩ : ∃ n, ns[k]? = some n := ⟨_, List.getElem?_eq_getElem hlt⟩
      have hin : isI64 n := hns n (List.mem_of_getElem? hn)
      have hll : (bs ++ (ns.take k).flatMap encI).length ≤ 100000000 := by
        have := flat_take_le encI ns k; have := HL.out; rw [List.length_append]; omega
      obtain ⟨ad, rfl, hcell⟩ := Kd.at_int (HR.out wr HB.out HK.out) k (by omega) (by omega)
      rw [Int.toNat_natCast] at hcell
      have hrd : rd ns (k : Int) = n := by unfold rd; rw [Int.toNat_natCast, List.getD_eq_getElem?_getD, hn]; rfl
      rw [hrd] at hcell
      have HC := Lib.hid (wint n hin g T hT _ hll w0 wr HI.out HB.out)
      have HN := Lib.hid hn
      clear hin hll hn hrd
      go_wp2_with (go_at_call 39; refine (HC.out).mono ?_; rintro en w1 ⟨rfl, h1, h2, h3⟩; have H1 := Lib.hid h1; have H2 := Lib.hid h2; have H3 := Lib.hid h3; clear h1 h2 h3)
      go_roundw
      case rel => exact ⟨k + 1, by go_num, by omega, Lib.hid (by rw [flat_take_succ encI ns k n HN.out, ← List.append_assoc]; exact H1.out), H2, Lib.hid (HK.out.trans H3.out)⟩
      case measure => simp [intOf]; omega
    · have hkn : k = ns.length := by omega
      subst hkn
      go_wp2
      first | go_end0 | ((try simp only [Exit.inBlock, Exit.then]); refine bodyPost_ret (results_none rfl _ _ _) rfl ?_)
      have h1 := HI.out
      rw [List.take_length] at h1
      exact ⟨rfl, h1, HB.out, HK.out⟩
end Go.Proofs.Ytlkfbdeddfhocaa

set_option linter.unusedVariables false
set_option linter.unusedSimpArgs false
namespace Go.Proofs.Ytlkfbdeddfhocaa
open Go.Proofs Go.RowKit Go.Proofs.YtlkfbdeddfhocaaW.PrintWords Go.Proofs.YtlkfbdeddfhocaaW.PrintLast Go.Proofs.YtlkfbdeddfhocaaW.PrintMore Q

theorem IsW.below {w0 W W1 : World} {g T : Nat} {bs : List UInt8} (h : IsW w0 W g T bs) (hb : Below W.heap.size W W1) : IsW w0 W1 g T bs := by
  obtain ⟨v, h1, h2, h3⟩ := h
  exact ⟨v, (hb.block g (blk_lt h1)).trans h1, Kd.R_below h2 hb, h3⟩
theorem IsW.alloc {w0 W : World} {g T : Nat} {bs : List UInt8} (h : IsW w0 W g T bs) (o : Obj) : IsW w0 (W.alloc o) g T bs := h.below (below_alloc (Below.refl _ _) o)
theorem IsW.drew {w0 W : World} {g T : Nat} {bs : List UInt8} (h : IsW w0 W g T bs) : IsW w0 W.drew g T bs := h.below (below_drew1 (Below.refl _ _))
theorem IsW.lt {w0 W : World} {g T : Nat} {bs : List UInt8} (h : IsW w0 W g T bs) : g < W.heap.size := by
  obtain ⟨v, h1, _⟩ := h
  exact blk_lt h1
theorem KeepT.below {w W W1 : World} {g : Nat} (h : KeepT w W g) (hb : Below W.heap.size W W1) : KeepT w W1 g :=
  ⟨Nat.le_trans h.1 hb.size, fun i cs t fr h1 h2 h3 => (hb.block i (blk_lt (h.2 i cs t fr h1 h2 h3))).trans (h.2 i cs t fr h1 h2 h3)⟩
theorem KeepT.alloc {w W : World} {g : Nat} (h : KeepT w W g) (o : Obj) : KeepT w (W.alloc o) g := h.below (below_alloc (Below.refl _ _) o)
theorem KeepT.drew {w W : World} {g : Nat} (h : KeepT w W g) : KeepT w W.drew g := h.below (below_drew1 (Below.refl _ _))
theorem KeepT.blk {w W : World} {g b t : Nat} {cs : Array Value} {fr : Nat × Nat} (h : KeepT w W g) (h1 : w.heap[b]? = some (.cells cs t fr)) (h2 : t ≠ 5) (h3 : b ≠ g) : W.heap[b]? = some (.cells cs t fr) := h.2 b cs t fr h1 h2 h3
theorem reads_blk {w0 w : World} {g b : Nat} {ns : List Int} {cs : Array Value} (h : w.heap[b]? = some (.cells cs 3 (0, 0))) (hc : cs.toList = nums .i64 ns) (hg : b ≠ g) (hm : ns.length ≤ 9223372036854775807) : ReadsOn w0 w g (some ⟨b, 0, none⟩) ns := by
  intro W' _ hk
  have hb := hk.blk h (by decide) hg
  refine Kd.C_of_reads (d := (0 : Int)) ⟨rfl, hm, fun _ => ⟨_, rfl, fun j hj => ?_⟩⟩
  rw [add_plain, blk_cell hb j]
  have h1 : cs[j]? = (nums .i64 ns)[j]? := by rw [← hc, Array.getElem?_toList]
  rw [h1]
  simp [nums, List.getElem?_eq_getElem hj, List.getD_eq_getElem?_getD]
theorem ReadsOn.step {w0 w W : World} {g : Nat} {A : Option Addr} {ns : List Int} (h : ReadsOn w0 w g A ns) (hk : KeepT w W g) : ReadsOn w0 W g A ns := fun W' hb hk2 => h W' hb (hk.trans hk2)
theorem reads_old {w0 w : World} {g : Nat} {A : Option Addr} {ns : List Int} (h : (Kd.int .i64).C w0 A ns.length ns) : ReadsOn w0 w g A ns := fun W' hb _ => Kd.C_below h hb
/-- The numbers that one call writes. -/
theorem wints_call (ns : List Int) (n : Nat) (hn : ns.length = n) (hns : ∀ n ∈ ns, isI64 n) (hm : ns.length ≤ 100000000) (A : Option Addr) (c : Nat) (g T : Nat) (hT : T ≠ 5) (bs : List UInt8) (hl : bs.length + (ns.flatMap encI).length ≤ 100000000) (w0 w : World) (hI : IsW w0 w g T bs) (hB : Below w0.heap.size w0 w) (hR : ReadsOn w0 w g A ns) :
    Calls Try.prog 12 #[.pointer (some ⟨g, 0, none⟩), .slice A n c] w fun en w' => en = .returned (.tuple #[]) ∧ IsW w0 w' g T (bs ++ ns.flatMap encI) ∧ Below w0.heap.size w0 w' ∧ KeepT w w' g := by
  subst hn; exact wints ns hns hm A c g T hT bs hl w0 w hI hB hR
set_option maxHeartbeats 4000000 in
set_option maxRecDepth 100000 in
theorem wIntsC (ns : List Int) (hns : ∀ n ∈ ns, isI64 n) (hm : ns.length ≤ 100000000) (A : Option Addr) (c : Nat) (g T : Nat) (hT : T ≠ 5) (bs : List UInt8) (hl : bs.length + (encU ns.length).length + (ns.flatMap encI).length ≤ 100000000) (w0 w : World) (hI : IsW w0 w g T bs) (hB : Below w0.heap.size w0 w) (hR : ReadsOn w0 w g A ns) :
    Calls Try.prog 43 #[.pointer (some ⟨g, 0, none⟩), .slice A ns.length c] w fun en w' => en = .returned (.tuple #[]) ∧ IsW w0 w' g T (bs ++ (encU ns.length ++ ns.flatMap encI)) ∧ Below w0.heap.size w0 w' ∧ KeepT w w' g := by
  have HR := Lib.hid hR
  have HL := Lib.hid hl
  have HC := Lib.hid (wuint_call ns.length (by omega) g T hT bs (by omega) w0 w hI hB)
  clear hI hB hR hl
  go_enter Try.func43, Try.ntmps43
  go_wp2_with (go_at_call 58; refine (HC.out _ rfl).mono ?_; rintro en w1 ⟨rfl, h1, h2, h3⟩; have HI := Lib.hid h1; have HB := Lib.hid h2; have HK := Lib.hid h3; clear h1 h2 h3)
  go_loopw [5, 13] (fun m i wr => ∃ (k : Nat), i = .int .i64 k ∧ k ≤ ns.length ∧ Hid (IsW w0 wr g T (bs ++ encU ns.length ++ (ns.take k).flatMap encI)) ∧ Hid (Below w0.heap.size w0 wr) ∧ Hid (KeepT w wr g)) (fun _ i _ => ns.length - (intOf i).toNat)
  case atStart => exact ⟨0, rfl, Nat.zero_le _, Lib.hid (by simpa using HI.out), HB, HK⟩
  case round =>
    clear HI HB HC HK
    obtain ⟨k, rfl, hk, HI, HB, HK⟩ := hrel
    by_cases hlt : k < ns.length
    · obtain ⟨n, hn⟩ : ∃ n, ns[k]? = some n := ⟨_, List.getElem?_eq_getElem hlt⟩
      have hin : isI64 n := hns n (List.mem_of_getElem? hn)
      have hll : (bs ++ encU ns.length ++ (ns.take k).flatMap encI).length ≤ 100000000 := by
        have := flat_take_le encI ns k; have := HL.out; rw [List.length_append, List.length_append]; omega
      obtain ⟨ad, rfl, hcell⟩ := Kd.at_int (HR.out wr HB.out HK.out) k (by omega) (by omega)
      rw [Int.toNat_natCast] at hcell
      have hrd : rd ns (k : Int) = n := by unfold rd; rw [Int.toNat_natCast, List.getD_eq_getElem?_getD, hn]; rfl
      rw [hrd] at hcell
      have HC := Lib.hid (wint n hin g T hT _ hll w0 wr HI.out HB.out)
      have HN := Lib.hid hn
      clear hin hll hn hrd
      go_wp2_with (go_at_call 39; refine (HC.out).mono ?_; rintro en w1 ⟨rfl, h1, h2, h3⟩; have H1 := Lib.hid h1; have H2 := Lib.hid h2; have H3 := Lib.hid h3; clear h1 h2 h3)
      go_roundw
      case rel => exact ⟨k + 1, by go_num, by omega, Lib.hid (by rw [flat_take_succ encI ns k n HN.out, ← List.append_assoc]; exact H1.out), H2, Lib.hid (HK.out.trans H3.out)⟩
      case measure => simp [intOf]; omega
    · have hkn : k = ns.length := by omega
      subst hkn
      go_wp2
      first | go_end0 | ((try simp only [Exit.inBlock, Exit.then]); refine bodyPost_ret (results_none rfl _ _ _) rfl ?_)
      have h1 := HI.out
      rw [List.take_length, List.append_assoc] at h1
      exact ⟨rfl, h1, HB.out, HK.out⟩
/-- A list as it is written: its length, then its items. -/
def encL {α : Type} (f : α → List UInt8) (xs : List α) : List UInt8 := encU xs.length ++ xs.flatMap f
/-- A part of a list's writing is no longer than all of it. -/
theorem part_le {α : Type} (f : α → List UInt8) (l : List α) (k : Nat) (x : α) (h : l[k]? = some x) : ((l.take k).flatMap f).length + (f x).length ≤ (l.flatMap f).length := by
  have h1 := flat_take_le f l (k + 1)
  rw [flat_take_succ f l k x h, List.length_append] at h1
  exact h1
theorem cell_old {w0 W : World} {a : Addr} {v : Value} (h : Below w0.heap.size w0 W) (hc : w0.cell? a = some v) : W.cell? a = some v := pw_cell_below h hc
theorem blk_newb (w : World) (o : Obj) (b : Nat) (hb : b = w.heap.size) : (w.alloc o).heap[b]? = some o := by
  subst hb; exact blk_new w o
def rd_T80 (xs : List S80) (i : Int) : S80 := xs.getD i.toNat z80
theorem at_T80 {w : World} {A : Option Addr} {n : Nat} {xs : List S80} (h : Kd.C k80 w A n xs) (i : Int) (h0 : 0 ≤ i) (h1 : i < n) : ∃ ad , A = some ad ∧ w.cell? (ad.add (i.toNat * 4)) = some (.int .i64 (rd_T80 xs i).f0) ∧ w.cell? ⟨(ad.add (i.toNat * 4)).block, (ad.add (i.toNat * 4)).off + 1, none⟩ = some (.int .i64 (rd_T80 xs i).f1) ∧ w.cell? ⟨(ad.add (i.toNat * 4)).block, (ad.add (i.toNat * 4)).off + 2, none⟩ = some (.string (rd_T80 xs i).f2) ∧ w.cell? ⟨(ad.add (i.toNat * 4)).block, (ad.add (i.toNat * 4)).off + 3, none⟩ = some (.int .i64 (rd_T80 xs i).f3) := by
  obtain ⟨ad, c, e, _, hK, hc0⟩ := Kd.C_get h z80 i h0 h1
  have hc : ∀ j u, c[j]? = some u → w.cell? (ad.add (i.toNat * 4 + j)) = some u := hc0
  obtain rfl := k80_open hK
  exact ⟨ad, e, hc 0 _ rfl, by rw [← add_field _ _ 1 (by omega)]; exact hc 1 _ rfl, by rw [← add_field _ _ 2 (by omega)]; exact hc 2 _ rfl, by rw [← add_field _ _ 3 (by omega)]; exact hc 3 _ rfl⟩
end Go.Proofs.Ytlkfbdeddfhocaa

set_option linter.unusedVariables false
set_option linter.unusedSimpArgs false
namespace Go.Proofs.Ytlkfbdeddfhocaa
open Go.Proofs Go.RowKit Go.Proofs.YtlkfbdeddfhocaaW.PrintWords Go.Proofs.YtlkfbdeddfhocaaW.PrintLast Go.Proofs.YtlkfbdeddfhocaaW.PrintMore Q

/-- Block g holds cs now; all else is as it was. -/
structure Wrote (W w1 : World) (g T : Nat) (cs : Array Value) : Prop where
  row : w1.heap[g]? = some (.cells cs T (0, 0))
  far : ∀ k, k ≠ g → w1.heap[k]? = W.heap[k]?
  same : w1.os = W.os ∧ w1.tape = W.tape ∧ w1.output = W.output ∧ w1.heap.size = W.heap.size
theorem Wrote.of (W : World) (g T o : Nat) (cur cur' : Array Value) (seg : List Value) (hh : W.heap[g]? = some (.cells cur T (0, 0))) (hfit : o + seg.length ≤ cur.size) (hc : cur' = (cur.toList.take o ++ seg ++ cur.toList.drop (o + seg.length)).toArray) : Wrote W (W.setCells g o seg) g T cur' := by
  obtain ⟨c2, h1, h2, h3⟩ := setCells_row seg o W cur hh hfit
  refine ⟨?_, fun k hk => setCells_far seg o k hk, setCells_same g seg o W⟩
  rw [h1, hc, ← h3, Array.toArray_toList]
theorem Wrote.below {W w1 : World} {g T : Nat} {cs : Array Value} (h : Wrote W w1 g T cs) {w0 : World} (hb : Below w0.heap.size w0 W) (hg : w0.heap.size ≤ g) : Below w0.heap.size w0 w1 :=
  hb.trans ⟨h.same.1, h.same.2.1, h.same.2.2.1, by rw [h.same.2.2.2]; exact Nat.le_refl _, fun k hk => h.far k (by omega)⟩
theorem Wrote.keep {W w1 : World} {g T : Nat} {cs : Array Value} (h : Wrote W w1 g T cs) {w : World} {g' : Nat} (hk : KeepBut w W g' none) (hg : w.heap.size ≤ g) : KeepBut w w1 g' none :=
  ⟨by rw [h.same.2.2.2]; exact hk.1, fun i hi h1 h2 => (h.far i (by omega)).trans (hk.2 i hi h1 h2)⟩
theorem Wrote.blk {W w1 : World} {g T : Nat} {cs : Array Value} (h : Wrote W w1 g T cs) {k : Nat} {o : Obj} (hb : W.heap[k]? = some o) (hk : k ≠ g) : w1.heap[k]? = some o := (h.far k hk).trans hb
theorem Wrote.row_ {α : Type} {d : Kd α} {e base : Nat} {ok : Nat → Prop} {v : Value} {xs : List α} {W w1 : World} {g T : Nat} {cs : Array Value} (h : Wrote W w1 g T cs) (hr : d.R e W base ok v xs) (hk : ∀ k, ok k → k ≠ g) : d.R e w1 base ok v xs :=
  Kd.R_step hr (fun k ho _ => h.far k (hk k ho))
section
variable {P : Program} {ops : Array Oper} {Q : Exit → Act → World → Prop}
theorem store_step {oi : Oper} {a : Act} {W : World} {K : Act → World → Prop} (t : TypeId) (p x : Operand) (u : Value) (seg : List Value) (cur cur' : Array Value) (g o T : Nat) (hw : Region.wanted oi (yielded ops a.tmps) = true) (hN : oi.dst = none) (ho : oi.op = .store t p x)
    (haddr : a.eval p = .pointer (some ⟨g, o, none⟩)) (hx : a.eval x = u) (hh : W.heap[g]? = some (.cells cur T (0, 0))) (hu : u.cells.toList = seg) (ht : (P.info? t).map (·.size) = some seg.length) (hfit : o + seg.length ≤ cur.size) (h1 : seg.all (fun q => q.oneCell') = true)
    (hc : cur' = (cur.toList.take o ++ seg ++ cur.toList.drop (o + seg.length)).toArray) (h : ∀ w1, Wrote W w1 g T cur' → K a w1) : if Region.wanted oi (yielded ops a.tmps) = true then Oper.wp P oi a W K Q else K (a.put none undef) W := by
  have hrun := run_store_run (P := P) t u seg hh hu ht hfit (List.all_eq_true.1 h1)
  refine skip_ (w1 := W.setCells g o seg) hw hN ?_ (h _ (Wrote.of W g T o cur cur' seg hh hfit hc))
  unfold execOp
  simp only [ho, haddr, hx, Sem.run_bind, Sem.run_pure, Result.andThen_ok, hrun]
theorem store_plain {rest : List Oper} {oi : Oper} {a : Act} {W : World} (t : TypeId) (p x : Operand) (u : Value) (seg : List Value) (cur cur' : Array Value) (g o T : Nat) (hN : oi.dst = none) (hgd : oi.guard = none) (ho : oi.op = .store t p x)
    (haddr : a.eval p = .pointer (some ⟨g, o, none⟩)) (hx : a.eval x = u) (hh : W.heap[g]? = some (.cells cur T (0, 0))) (hu : u.cells.toList = seg) (ht : (P.info? t).map (·.size) = some seg.length) (hfit : o + seg.length ≤ cur.size) (h1 : seg.all (fun q => q.oneCell') = true)
    (hc : cur' = (cur.toList.take o ++ seg ++ cur.toList.drop (o + seg.length)).toArray) (h : ∀ w1, Wrote W w1 g T cur' → wpList P ops Q rest a w1) : wpList P ops Q (oi :: rest) a W := by
  have hrun := run_store_run (P := P) t u seg hh hu ht hfit (List.all_eq_true.1 h1)
  refine wpList_plain hgd fun K hK => ?_
  unfold Oper.wp execOp
  simp only [ho, haddr, hx, Sem.run_bind, Sem.run_pure, Result.andThen_ok, hrun]
  show K (a.put oi.dst undef) _
  rw [hN]
  exact hK a _ (h _ (Wrote.of W g T o cur cur' seg hh hfit hc))
end
theorem Kd.R_fresh {α : Type} {d : Kd α} {e base : Nat} {ok : Nat → Prop} {v : Value} {xs : List α} {W : World} (h : d.R e W base ok v xs) (o : Obj) : d.R e (W.alloc o) base (fun k => k ≠ W.heap.size ∧ ok k) v xs :=
  Kd.R_below (Kd.R_mono (Kd.R_bound h) (fun k hk => ⟨by have := hk.2.2.1; omega, hk.1⟩)) (below_alloc (Below.refl _ _) o)
/-- By types: the rows of h are none of the blocks of h2's row. -/
theorem Kd.R_not {α β : Type} {d : Kd α} {d' : Kd β} {e e' base base' : Nat} {ok ok' : Nat → Prop} {v u : Value} {xs : List α} {ys : List β} {W : World} (h : d.R e W base ok v xs) (h2 : d'.R e' W base' ok' u ys) (ht : ∀ q, q ∈ e :: d.E → q ≠ e') : d.R e W base (fun k => ok k ∧ some k ≠ u.ownBlock) v xs := by
  cases hb : u.ownBlock with
  | none => exact Kd.R_mono h (fun k hk => ⟨hk, by simp⟩)
  | some g =>
    obtain ⟨inner, ho⟩ := Kd.R_own h2
    obtain ⟨cells, hc⟩ := own_typed ho g hb
    exact Kd.R_mono (Kd.R_types h hc ht) (fun k hk => ⟨hk.1, fun he => hk.2 (Option.some.inj he)⟩)
/-- The list so far (xs behind v), the Reader of block g, the receiver's box bb. -/
structure Dec {α : Type} (kd : Kd α) (T : Nat) (w0 w W : World) (g : Nat) (S : ByteArray) (q e : Int) (bb : Nat) (ok : Nat → Prop) (v : Value) (xs : List α) : Prop where
  r : kd.R T W w.heap.size ok v xs
  i : IsS132 w0 W g S q e
  x : W.heap[bb]? = some (.cells #[.pointer (some ⟨g, 0, none⟩)] 101 (0, 0))
  b : Below w0.heap.size w0 W
  k : KeepBut w W g none
section
variable {α : Type} {kd : Kd α} {T : Nat} {w0 w W w' : World} {g : Nat} {S : ByteArray} {q e q' e' : Int} {bb : Nat} {ok : Nat → Prop} {v : Value} {xs : List α}
theorem Dec.call (h : Dec kd T w0 w W g S q e bb ok v xs) (ht : ∀ t, t ∈ T :: kd.E → t ≠ 132) (hbb : bb ≠ g) (hi : IsS132 w0 w' g S q' e') (hb : Below w0.heap.size w0 w') (hk : KeepBut W w' g none) : Dec kd T w0 w w' g S q' e' bb ok v xs :=
  ⟨Kd.R_mono (Kd.R_keep (IsS132.apart h.i h.r ht) hk (fun _ h => h.2)) (fun _ h => h.1), hi, (hk.2 _ (blk_lt h.x) hbb (by simp)).trans h.x, hb, KeepBut.trans h.k hk (.inl rfl)⟩
theorem Dec.drew (h : Dec kd T w0 w W g S q e bb ok v xs) : Dec kd T w0 w W.drew g S q e bb ok v xs := ⟨Kd.R_drew h.r, h.i.drew, blk_drew h.x, below_drew1 h.b, keep_drew h.k⟩
theorem Dec.alloc (h : Dec kd T w0 w W g S q e bb ok v xs) (o : Obj) : Dec kd T w0 w (W.alloc o) g S q e bb (fun k => k ≠ W.heap.size ∧ ok k) v xs := ⟨Kd.R_fresh h.r o, h.i.alloc o, blk_alloc h.x o, below_alloc h.b o, keep_alloc h.k o⟩
theorem Dec.mono {ok' : Nat → Prop} (h : Dec kd T w0 w W g S q e bb ok v xs) (hok : ∀ k, ok k → ok' k) : Dec kd T w0 w W g S q e bb ok' v xs := ⟨Kd.R_mono h.r hok, h.i, h.x, h.b, h.k⟩
theorem Dec.wrote {br t : Nat} {cs : Array Value} (h : Dec kd T w0 w W g S q e bb ok v xs) (hw : Wrote W w' br t cs) (hbr : w.heap.size ≤ br) (hbs : w0.heap.size ≤ w.heap.size) (h1 : g ≠ br) (h2 : bb ≠ br) (hok : ∀ k, ok k → k ≠ br) : Dec kd T w0 w w' g S q e bb ok v xs :=
  ⟨hw.row_ h.r hok, ⟨(hw.far g h1).trans h.i.1, h.i.2⟩, hw.blk h.x h2, hw.below h.b (by omega), hw.keep h.k hbr⟩
/-- Behind an append to the list. -/
theorem Dec.appended {ok' : Nat → Prop} {v1 : Value} {ys : List α} (h : Dec kd T w0 w W g S q e bb ok v xs) (hT : T ≠ 132) (hT2 : T ≠ 101) (hbs : w0.heap.size ≤ w.heap.size) (ho : kd.R T w' w.heap.size ok' v1 ys) (hb : Below w.heap.size W w') (hg : W.grownBy w' v.ownBlock) : Dec kd T w0 w w' g S q e bb ok' v1 ys :=
  ⟨ho, IsS132.grown h.i hg (IsS132.own_ne h.i h.r hT), blk_grown h.x hg (Kd.R_ne h.r h.x hT2), h.b.trans (hb.mono hbs), ⟨Nat.le_trans h.k.1 hg.size, fun i hi h1 h2 => (hb.block i hi).trans (h.k.2 i hi h1 h2)⟩⟩
/-- Behind an append to another row of the call's own. -/
theorem Dec.other {β : Type} {kd2 : Kd β} {T2 : Nat} {ok2 : Nat → Prop} {v2 v3 : Value} {ys : List β} (h : Dec kd T w0 w W g S q e bb (fun k => ok k ∧ some k ≠ v2.ownBlock) v xs) (h2 : kd2.R T2 W w.heap.size ok2 v2 ys) (hT : T2 ≠ 132) (hT2 : T2 ≠ 101) (hbs : w0.heap.size ≤ w.heap.size)
    (hb : Below w.heap.size W w') (hg : W.grownBy w' v2.ownBlock) (hat : v3.ownBlock = v2.ownBlock ∨ ∃ b, v3.ownBlock = some b ∧ W.heap.size ≤ b) : Dec kd T w0 w w' g S q e bb (fun k => ok k ∧ some k ≠ v3.ownBlock) v xs :=
  ⟨Kd.R_after h.r hg hat, IsS132.grown h.i hg (IsS132.own_ne h.i h2 hT), blk_grown h.x hg (Kd.R_ne h2 h.x hT2), h.b.trans (hb.mono hbs), ⟨Nat.le_trans h.k.1 hg.size, fun i hi h1 h2 => (hb.block i hi).trans (h.k.2 i hi h1 h2)⟩⟩
end
theorem bool_call (S : List UInt8) (hS : S.length ≤ 1000000) (g : Nat) (w0 : World) (q : Nat) (e : Int) (hq : q ≤ S.length) (W : World) (hi : IsS132 w0 W g ⟨S.toArray⟩ q e) (hb : Below w0.heap.size w0 W) :
    Calls Try.prog 47 #[.pointer (some ⟨g, 0, none⟩)] W fun en w' => en = .returned (.bool (boolR S q e).1) ∧ IsS132 w0 w' g ⟨S.toArray⟩ (boolR S q e).2.1 (boolR S q e).2.2 ∧ Below w0.heap.size w0 w' ∧ KeepBut W w' g none :=
  wire_Reader_Bool.calls g ⟨S.toArray⟩ q e _ _ _ _ w0 W hi hb (bool_ref S (by omega) q hq e)
def intsR (most : Nat) : Rdr (List Int) := fun S p e => if (listR most intR S p e).2.2 = 0 then listR most intR S p e else ([], (listR most intR S p e).2)
theorem ints_l0 (S : List UInt8) (hS : S.length ≤ 1000000) : ∀ (d k : Nat) (acc : List Int) (i : Nat) (p : Nat) (e : Int), acc.length ≤ i → i + d ≤ 1000000 → p ≤ S.length → 2 * S.length + 3 + d < k →
    wire_Reader_Ints.l0 k acc ((i + d : Nat) : Int) (i : Int) ⟨S.toArray⟩ p e = some (if (manyR intR d S p e).2.2 = 0 then acc ++ (manyR intR d S p e).1 else [], ⟨S.toArray⟩, ((manyR intR d S p e).2.1 : Int), (manyR intR d S p e).2.2)
  | 0, k, acc, i, p, e, ha, hi, hp, hk => by
    obtain ⟨k, rfl⟩ : ∃ m, k = m + 1 := ⟨k - 1, by omega⟩
    rw [wire_Reader_Ints.l0, if_neg (by omega)]
    simp only [manyR, List.append_nil]
    split <;> rfl
  | d + 1, k, acc, i, p, e, ha, hi, hp, hk => by
    obtain ⟨k, rfl⟩ : ∃ m, k = m + 1 := ⟨k - 1, by omega⟩
    rw [wire_Reader_Ints.l0, if_pos (by omega), int_ref S (by omega) p hp e k (by omega)]
    simp only [Option.bind_some]
    rw [if_pos (by omega), w64 (by omega) (by omega)]
    have ih := ints_l0 S hS d k (acc ++ [(intR S p e).1]) (i + 1) (intR S p e).2.1 (intR S p e).2.2 (by simp; omega) (by omega) (good_int.place S p e hp).2 (by omega)
    rw [show ((i : Int) + 1) = ((i + 1 : Nat) : Int) by omega, show i + (d + 1) = i + 1 + d by omega, ih]
    simp only [manyR, List.append_assoc, List.singleton_append]
    rfl
theorem ints_ref (most : Nat) (hm : most ≤ 100000) (S : List UInt8) (hS : S.length ≤ 1000000) (p : Nat) (hp : p ≤ S.length) (e : Int) (k : Nat) (hk : 2 * S.length + 4 + most < k) :
    wire_Reader_Ints.f k ⟨S.toArray⟩ p e most = some ((intsR most S p e).1, ⟨S.toArray⟩, ((intsR most S p e).2.1 : Int), (intsR most S p e).2.2) := by
  unfold wire_Reader_Ints.f
  rw [count_ref most (by omega) S (by omega) p hp e k (by omega)]
  simp only [Option.bind_some]
  have hc : (countR most S p e).1 ≤ most := by unfold countR; split; split; all_goals (try simp only); all_goals omega
  have hp2 := ((good_count most (by omega)).place S p e hp).2
  have h := ints_l0 S hS (countR most S p e).1 k [] 0 (countR most S p e).2.1 (countR most S p e).2.2 (Nat.le_refl _) (by omega) hp2 (by omega)
  rw [Nat.zero_add] at h
  refine h.trans ?_
  unfold intsR listR
  split <;> rfl
theorem good_ints (most : Nat) (hm : most < 18446744073709551616) : Good (intsR most) (fun l => encU l.length ++ l.flatMap encI) (fun l => l.length ≤ most ∧ ∀ x ∈ l, isI64 x) where
  place S p e h := by
    have := (good_list good_int most hm).place S p e h
    unfold intsR
    split <;> exact this
  stays S p e he := by
    have := (good_list good_int most hm).stays S p e he
    unfold intsR
    rw [if_neg this]
    exact this
  sound S p e hp h := by
    have a := (good_list good_int most hm).sound S p e hp
    unfold intsR at h ⊢
    by_cases hz : (listR most intR S p e).2.2 = 0
    · rw [if_pos hz]; exact a hz
    · rw [if_neg hz] at h; exact absurd h hz
  full S p x r hp h hx := by
    have a := (good_list good_int most hm).full S p x r hp h hx
    unfold intsR
    rw [a, if_pos rfl]
theorem ints_call (S : List UInt8) (hS : S.length ≤ 1000000) (g : Nat) (w0 : World) (q : Nat) (e : Int) (hq : q ≤ S.length) (W : World) (hi : IsS132 w0 W g ⟨S.toArray⟩ q e) (hb : Below w0.heap.size w0 W) :
    Calls Try.prog 48 #[.pointer (some ⟨g, 0, none⟩), .int .i64 4096] W fun en w' => ∃ v, en = .returned v ∧ Kd.R (Kd.int .i64) 3 w' W.heap.size (fun _ => True) v (intsR 4096 S q e).1 ∧ IsS132 w0 w' g ⟨S.toArray⟩ (intsR 4096 S q e).2.1 (intsR 4096 S q e).2.2 ∧ Below w0.heap.size w0 w' ∧ KeepBut W w' g none :=
  wire_Reader_Ints.calls (2 * S.length + 5 + 4096) g ⟨S.toArray⟩ q e 4096 _ _ _ _ w0 W hi hb (ints_ref 4096 (by omega) S (by omega) q hq e _ (by omega))
theorem Good.congr {α : Type} {f : Rdr α} {ea eb : α → List UInt8} {oa ob : α → Prop} (h : Good f ea oa) (he : ∀ x, ea x = eb x) (ho : ∀ x, oa x ↔ ob x) : Good f eb ob := by
  have e1 : ea = eb := funext he
  have e2 : oa = ob := funext fun x => propext (ho x)
  rw [← e1, ← e2]; exact h
end Go.Proofs.Ytlkfbdeddfhocaa
