/- What the document's own functions on signs come to, as plain functions: Sign is the model's own decoding, Signs goes through all of a text. Condition: the text has at most 2^40 bytes. -/
import Derived.Test.YtilomlohjhhbnaaDoorRx
import Derived.Test.YtilomlohjhhbnaaDoorSg
import Derived.Test.YtilomlohjhhbnaaDoorLeaf
import Derived.Lib.RuneCountTail
set_option linter.unusedVariables false
set_option linter.unusedSimpArgs false
namespace Go.Proofs.YtilomlohjhhbnaaDoor
open Go.Proofs Go.RowKit Go.Proofs.YtilomlohjhhbnaaDoorW.PrintWords R

theorem w64 {x : Int} (h0 : -9223372036854775808 ≤ x) (h1 : x ≤ 9223372036854775807) : wrap64 x = x := by unfold wrap64; omega

/-- Byte i of a text as the document tells it; beyond the end -1. -/
def atV (s : ByteArray) (i : Nat) : Int := if i < s.size then ((s.get! i).toNat : Int) else -1
theorem atV_range (s : ByteArray) (i : Nat) : -1 ≤ atV s i ∧ atV s i < 256 := by
  have := (s.get! i).toNat_lt
  unfold atV; split <;> omega
theorem bt_get (s : ByteArray) (i : Nat) (h : i < s.size) : bt s (i : Int) = ((s.get! i).toNat : Int) := by
  unfold bt
  have h' : (i : Int).toNat < s.size := by simpa using h
  rw [dif_pos h']
  congr 2
  have := get_at s i h
  simp only [Nat.add_zero] at this
  rw [this]
  simp
theorem at_val (s : ByteArray) (hs : s.size ≤ 1099511627776) (x : Int) (i : Nat) (hx : x = i) : lombardref04_at.f s x = some (atV s i) := by
  subst hx
  unfold lombardref04_at.f atV
  by_cases h : i < s.size
  · rw [if_pos (by omega), if_pos (by omega), if_pos h, bt_get s i h]
    have := (s.get! i).toNat_lt
    rw [w64 (by omega) (by omega)]
  · rw [if_neg (by omega), if_neg h]

def tlB (n : Int) : Bool := decide (128 ≤ n ∧ n < 192)
theorem tail_val (n : Int) : lombardref04_tail.f n = some (tlB n) := by
  unfold lombardref04_tail.f tlB
  by_cases h : 128 ≤ n
  · rw [if_pos h]; simp [h]
  · rw [if_neg h]; simp [h]

theorem e2 (a b : Int) (ha0 : -1 ≤ a) (ha : a < 256) (hb0 : -1 ≤ b) (hb : b < 256) : wrap64 ((wrap64 ((wrap64 ((wrap64 (a - 192)) * 64)) + b)) - 128) = (a - 192) * 64 + b - 128 := by
  rw [w64 (x := a - 192) (by omega) (by omega), w64 (x := (a - 192) * 64) (by omega) (by omega), w64 (x := (a - 192) * 64 + b) (by omega) (by omega), w64 (by omega) (by omega)]
theorem e3 (a b c : Int) (ha0 : -1 ≤ a) (ha : a < 256) (hb0 : -1 ≤ b) (hb : b < 256) (hc0 : -1 ≤ c) (hc : c < 256) : wrap64 ((wrap64 ((wrap64 ((wrap64 ((wrap64 (a - 224)) * 4096)) + (wrap64 ((wrap64 (b - 128)) * 64)))) + c)) - 128) = (a - 224) * 4096 + (b - 128) * 64 + c - 128 := by
  rw [w64 (x := a - 224) (by omega) (by omega), w64 (x := (a - 224) * 4096) (by omega) (by omega), w64 (x := b - 128) (by omega) (by omega), w64 (x := (b - 128) * 64) (by omega) (by omega), w64 (x := (a - 224) * 4096 + (b - 128) * 64) (by omega) (by omega), w64 (x := (a - 224) * 4096 + (b - 128) * 64 + c) (by omega) (by omega), w64 (by omega) (by omega)]
theorem e4 (a b c d : Int) (ha0 : -1 ≤ a) (ha : a < 256) (hb0 : -1 ≤ b) (hb : b < 256) (hc0 : -1 ≤ c) (hc : c < 256) (hd0 : -1 ≤ d) (hd : d < 256) :
    wrap64 ((wrap64 ((wrap64 ((wrap64 ((wrap64 ((wrap64 (a - 240)) * 262144)) + (wrap64 ((wrap64 (b - 128)) * 4096)))) + (wrap64 ((wrap64 (c - 128)) * 64)))) + d)) - 128) = (a - 240) * 262144 + (b - 128) * 4096 + (c - 128) * 64 + d - 128 := by
  rw [w64 (x := a - 240) (by omega) (by omega), w64 (x := (a - 240) * 262144) (by omega) (by omega), w64 (x := b - 128) (by omega) (by omega), w64 (x := (b - 128) * 4096) (by omega) (by omega), w64 (x := (a - 240) * 262144 + (b - 128) * 4096) (by omega) (by omega),
    w64 (x := c - 128) (by omega) (by omega), w64 (x := (c - 128) * 64) (by omega) (by omega), w64 (x := (a - 240) * 262144 + (b - 128) * 4096 + (c - 128) * 64) (by omega) (by omega), w64 (x := (a - 240) * 262144 + (b - 128) * 4096 + (c - 128) * 64 + d) (by omega) (by omega), w64 (by omega) (by omega)]

/-- A sign out of its four bytes, as the document reads it. -/
def signV (a b c d : Int) : Int × Int × Bool :=
  if a < 128 then (a, 1, true)
  else if 194 ≤ a ∧ a < 224 ∧ tlB b = true then ((a - 192) * 64 + b - 128, 2, true)
  else if (224 ≤ a ∧ a < 240 ∧ tlB b = true ∧ tlB c = true) ∧ (2048 ≤ (a - 224) * 4096 + (b - 128) * 64 + c - 128 ∧ ((a - 224) * 4096 + (b - 128) * 64 + c - 128 < 55296 ∨ 57343 < (a - 224) * 4096 + (b - 128) * 64 + c - 128)) then ((a - 224) * 4096 + (b - 128) * 64 + c - 128, 3, true)
  else if (240 ≤ a ∧ a < 245 ∧ tlB b = true ∧ tlB c = true ∧ tlB d = true) ∧ (65536 ≤ (a - 240) * 262144 + (b - 128) * 4096 + (c - 128) * 64 + d - 128 ∧ (a - 240) * 262144 + (b - 128) * 4096 + (c - 128) * 64 + d - 128 < 1114112) then ((a - 240) * 262144 + (b - 128) * 4096 + (c - 128) * 64 + d - 128, 4, true)
  else (65533, 1, false)
set_option maxHeartbeats 1000000 in
theorem j3_val (k : Nat) (a b c d : Int) (x : Bool) (ha0 : -1 ≤ a) (ha : a < 256) (hb0 : -1 ≤ b) (hb : b < 256) (hc0 : -1 ≤ c) (hc : c < 256) (hd0 : -1 ≤ d) (hd : d < 256) :
    lombardref04_Sign.j3 (k + 1) a b c d x = some (if x = true ∧ (65536 ≤ (a - 240) * 262144 + (b - 128) * 4096 + (c - 128) * 64 + d - 128 ∧ (a - 240) * 262144 + (b - 128) * 4096 + (c - 128) * 64 + d - 128 < 1114112) then ((a - 240) * 262144 + (b - 128) * 4096 + (c - 128) * 64 + d - 128, 4, true) else (65533, 1, false)) := by
  simp only [lombardref04_Sign.j3, e4 a b c d ha0 ha hb0 hb hc0 hc hd0 hd]
  generalize (a - 240) * 262144 + (b - 128) * 4096 + (c - 128) * 64 + d - 128 = n
  cases x <;> simp
  by_cases h1 : 65536 ≤ n <;> by_cases h2 : n < 1114112 <;> simp [h1, h2]

def sign4 (a b c d : Int) : Int × Int × Bool :=
  if (240 ≤ a ∧ a < 245 ∧ tlB b = true ∧ tlB c = true ∧ tlB d = true) ∧ (65536 ≤ (a - 240) * 262144 + (b - 128) * 4096 + (c - 128) * 64 + d - 128 ∧ (a - 240) * 262144 + (b - 128) * 4096 + (c - 128) * 64 + d - 128 < 1114112) then ((a - 240) * 262144 + (b - 128) * 4096 + (c - 128) * 64 + d - 128, 4, true)
  else (65533, 1, false)
def sign3 (a b c d : Int) : Int × Int × Bool :=
  if (224 ≤ a ∧ a < 240 ∧ tlB b = true ∧ tlB c = true) ∧ (2048 ≤ (a - 224) * 4096 + (b - 128) * 64 + c - 128 ∧ ((a - 224) * 4096 + (b - 128) * 64 + c - 128 < 55296 ∨ 57343 < (a - 224) * 4096 + (b - 128) * 64 + c - 128)) then ((a - 224) * 4096 + (b - 128) * 64 + c - 128, 3, true)
  else sign4 a b c d
theorem signV_eq (a b c d : Int) : signV a b c d = if a < 128 then (a, 1, true) else if 194 ≤ a ∧ a < 224 ∧ tlB b = true then ((a - 192) * 64 + b - 128, 2, true) else sign3 a b c d := rfl
set_option maxHeartbeats 1000000 in
theorem j2_val (k : Nat) (a b c d : Int) (ha0 : -1 ≤ a) (ha : a < 256) (hb0 : -1 ≤ b) (hb : b < 256) (hc0 : -1 ≤ c) (hc : c < 256) (hd0 : -1 ≤ d) (hd : d < 256) : lombardref04_Sign.j2 (k + 2) a b c d = some (sign4 a b c d) := by
  simp only [lombardref04_Sign.j2, tail_val, Option.bind_some, j3_val k a b c d _ ha0 ha hb0 hb hc0 hc hd0 hd]
  unfold sign4
  generalize (a - 240) * 262144 + (b - 128) * 4096 + (c - 128) * 64 + d - 128 = n
  by_cases h1 : 240 ≤ a
  · by_cases h2 : a < 245
    · cases tlB b <;> cases tlB c <;> cases tlB d <;> simp [h1, h2]
    · simp [h1, h2]
  · simp [h1]
set_option maxHeartbeats 1000000 in
theorem j1_val (k : Nat) (a b c d : Int) (x : Bool) (ha0 : -1 ≤ a) (ha : a < 256) (hb0 : -1 ≤ b) (hb : b < 256) (hc0 : -1 ≤ c) (hc : c < 256) (hd0 : -1 ≤ d) (hd : d < 256) (hx : x = true → 224 ≤ a ∧ a < 240 ∧ tlB b = true ∧ tlB c = true) (hx2 : x = false → ¬ (224 ≤ a ∧ a < 240 ∧ tlB b = true ∧ tlB c = true)) : lombardref04_Sign.j1 (k + 3) a b c d x = some (sign3 a b c d) := by
  simp only [lombardref04_Sign.j1, e3 a b c ha0 ha hb0 hb hc0 hc, j2_val k a b c d ha0 ha hb0 hb hc0 hc hd0 hd]
  unfold sign3
  cases x with
  | false =>
    have := hx2 rfl
    rw [if_neg (by simp), if_neg (fun h => this h.1)]
  | true =>
    have h := hx rfl
    rw [if_pos rfl]
    generalize (a - 224) * 4096 + (b - 128) * 64 + c - 128 = n
    by_cases h1 : 2048 ≤ n
    · rw [if_pos h1]
      by_cases h2 : n < 55296
      · rw [if_pos h2, if_pos ⟨h, h1, .inl h2⟩]
      · rw [if_neg h2]
        by_cases h3 : 57343 < n
        · rw [if_pos h3, if_pos ⟨h, h1, .inr h3⟩]
        · rw [if_neg h3, if_neg (by rintro ⟨_, _, h4 | h4⟩; exact h2 h4; exact h3 h4)]
    · rw [if_neg h1, if_neg (fun h4 => h1 h4.2.1)]
set_option maxHeartbeats 1000000 in
theorem j0_val (k : Nat) (a b c d : Int) (x : Bool) (ha0 : -1 ≤ a) (ha : a < 256) (hb0 : -1 ≤ b) (hb : b < 256) (hc0 : -1 ≤ c) (hc : c < 256) (hd0 : -1 ≤ d) (hd : d < 256) : lombardref04_Sign.j0 (k + 4) a b c d x = some (if x = true then ((a - 192) * 64 + b - 128, 2, true) else sign3 a b c d) := by
  simp only [lombardref04_Sign.j0, tail_val, Option.bind_some, e2 a b ha0 ha hb0 hb]
  cases x with
  | true => rw [if_pos (rfl : true = true), if_pos (rfl : true = true)]
  | false =>
    rw [if_neg (show ¬ (false = true) by simp), if_neg (show ¬ (false = true) by simp)]
    have J := fun x h1 h2 => j1_val k a b c d x ha0 ha hb0 hb hc0 hc hd0 hd h1 h2
    by_cases h1 : 224 ≤ a
    · rw [if_pos h1]
      by_cases h2 : a < 240
      · rw [if_pos h2]
        cases hb1 : tlB b with
        | true =>
          rw [if_pos rfl]
          exact J _ (fun h => ⟨h1, h2, hb1, h⟩) (fun h h3 => by rw [h3.2.2.2] at h; cases h)
        | false =>
          rw [if_neg (by simp)]
          exact J _ (fun h => by cases h) (fun h h3 => by rw [h3.2.2.1] at hb1; cases hb1)
      · rw [if_neg h2]
        exact J _ (fun h => by cases h) (fun h h3 => h2 h3.2.1)
    · rw [if_neg h1]
      exact J _ (fun h => by cases h) (fun h h3 => h1 h3.1)
set_option maxHeartbeats 1000000 in
theorem sign_val (k : Nat) (s : ByteArray) (hs : s.size ≤ 1099511627776) (p : Nat) (hp : p < s.size) : lombardref04_Sign.f (k + 4) s p = some (signV (atV s p) (atV s (p + 1)) (atV s (p + 2)) (atV s (p + 3))) := by
  have r0 := atV_range s p
  have r1 := atV_range s (p + 1)
  have r2 := atV_range s (p + 2)
  have r3 := atV_range s (p + 3)
  unfold lombardref04_Sign.f
  rw [at_val s hs _ p rfl, at_val s hs _ (p + 1) (by rw [w64 (by omega) (by omega)]; omega), at_val s hs _ (p + 2) (by rw [w64 (by omega) (by omega)]; omega), at_val s hs _ (p + 3) (by rw [w64 (by omega) (by omega)]; omega)]
  simp only [Option.bind_some]
  generalize atV s p = a at *
  generalize atV s (p + 1) = b at *
  generalize atV s (p + 2) = c at *
  generalize atV s (p + 3) = d at *
  rw [signV_eq]
  simp only [tail_val, Option.bind_some]
  have J := fun x => j0_val k a b c d x r0.1 r0.2 r1.1 r1.2 r2.1 r2.2 r3.1 r3.2
  by_cases h1 : a < 128
  · rw [if_pos h1, if_pos h1]
  · rw [if_neg h1, if_neg h1]
    by_cases h2 : 194 ≤ a
    · rw [if_pos h2]
      by_cases h3 : a < 224
      · rw [if_pos h3, J]
        cases tlB b <;> simp [h2, h3]
      · rw [if_neg h3, J, if_neg (show ¬ (false = true) by simp), if_neg (fun h => h3 h.2.1)]
    · rw [if_neg h2, J, if_neg (show ¬ (false = true) by simp), if_neg (fun h => h2 h.1)]

/-- Are the bytes of the sign at place p one? -/
def okB (s : ByteArray) (p : Nat) : Bool := decide ((Utf8.decode s p).1 < 128 ∨ (Utf8.decode s p).2 ≠ 1)
theorem trip {a b a' b' : Int} {c c' : Bool} (h1 : a = a') (h2 : b = b') (h3 : c = c') : (a, b, c) = (a', b', c') := by rw [h1, h2, h3]
def decF (D : Nat × Nat) : Int × Int × Bool := ((D.1 : Int), (D.2 : Int), decide (D.1 < 128 ∨ D.2 ≠ 1))
set_option maxHeartbeats 4000000 in
/-- The document's sign is the model's own decoding. -/
theorem signV_dec (s : ByteArray) (p : Nat) (hp : p < s.size) : signV (atV s p) (atV s (p + 1)) (atV s (p + 2)) (atV s (p + 3)) = (((Utf8.decode s p).1 : Int), ((Utf8.decode s p).2 : Int), okB s p) := by
  unfold okB
  rw [Lib.decode_at]
  have h0 := (s.get! p).toNat_lt
  have h1 := (s.get! (p + 1)).toNat_lt
  have h2 := (s.get! (p + 2)).toNat_lt
  have h3 := (s.get! (p + 3)).toNat_lt
  unfold atV
  rw [if_pos hp]
  have c1 : (p + 1 < s.size) = (1 < s.size - p) := propext ⟨fun h => by omega, fun h => by omega⟩
  have c2 : (p + 2 < s.size) = (2 < s.size - p) := propext ⟨fun h => by omega, fun h => by omega⟩
  have c3 : (p + 3 < s.size) = (3 < s.size - p) := propext ⟨fun h => by omega, fun h => by omega⟩
  simp only [c1, c2, c3]
  have hn : 0 < s.size - p := by omega
  generalize s.size - p = n at *
  generalize (s.get! p).toNat = a at *
  generalize (s.get! (p + 1)).toNat = b at *
  generalize (s.get! (p + 2)).toNat = c at *
  generalize (s.get! (p + 3)).toNat = d at *
  clear c1 c2 c3 hp
  show _ = decF (Lib.decodeN n a b c d)
  unfold Lib.decodeN
  repeat' split
  all_goals unfold decF signV tlB
  all_goals simp only [decide_eq_true_eq]
  all_goals repeat' split
  all_goals first | (exfalso; omega) | exact trip (by omega) (by omega) (decide_eq_true (by omega)).symm | exact trip (by omega) (by omega) (decide_eq_false (by omega)).symm
end Go.Proofs.YtilomlohjhhbnaaDoor
