/- What name.plain answers of a sign: its plain letters. Condition: the sign is a code point, and the table of ASCII blanks is as the library lays it. -/
import Derived.Test.YtilomlohjhhbnaaDoorFold
import Derived.Lib.AppendIntMem
import Derived.Lib.SmallJoins
set_option linter.unusedVariables false
set_option linter.unusedSimpArgs false
namespace Go.Proofs.YtilomlohjhhbnaaDoor
open Go.Proofs Go.RowKit

/-- What the library's own variables hold, as far as this layer reads them. -/
structure Env (w : World) : Prop where
  tab : Lib.TabIs Tryd.prog w "strings.asciiSpace" .u8 Lib.asciiSpaceTab
  len : ∃ m, w.cell? ⟨2, 0, none⟩ = some (.int .i64 m)
theorem Env.below {w W : World} (h : Env w) (hb : Below w.heap.size w W) : Env W :=
  ⟨Lib.tabBelow_of_tabIs h.tab W hb, by
    obtain ⟨m, hm⟩ := h.len
    exact ⟨m, (hb.cell (World.block_lt_of_cell? w _ hm)).trans hm⟩⟩

def rowsB : ByteArray := ⟨#[97, 97, 97, 97, 97, 97, 97, 99, 101, 101, 101, 101, 105, 105, 105, 105, 100, 110, 111, 111, 111, 111, 111, 32, 111, 117, 117, 117, 117, 121, 116, 121]⟩
def moreB : ByteArray := ⟨#[97, 97, 97, 97, 97, 97, 99, 99, 99, 99, 99, 99, 99, 99, 100, 100, 100, 100, 101, 101, 101, 101, 101, 101, 101, 101, 101, 101, 103, 103, 103, 103, 103, 103, 103, 103, 104, 104, 104, 104, 105, 105, 105, 105, 105, 105, 105, 105, 105, 105, 32, 32, 106, 106, 107, 107, 107, 108, 108, 108, 108, 108, 108, 108, 108, 108, 108, 110, 110, 110, 110, 110, 110, 110, 110, 110, 111, 111, 111, 111, 111, 111, 32, 32, 114, 114, 114, 114, 114, 114, 115, 115, 115, 115, 115, 115, 115, 115, 116, 116, 116, 116, 116, 116, 117, 117, 117, 117, 117, 117, 117, 117, 117, 117, 117, 117, 119, 119, 121, 121, 121, 122, 122, 122, 122, 122, 122, 115]⟩
def oneOf (b : UInt8) : List UInt8 := if b = 32 then [] else [b]
/-- The plain letters of a sign. -/
def plainL (c : Int) : List UInt8 :=
  if c = 228 ∨ c = 230 then [97, 101] else if c = 246 ∨ c = 248 ∨ c = 339 then [111, 101] else if c = 252 then [117, 101] else if c = 223 then [115, 115] else if c = 254 then [116, 104] else if c = 229 then [97, 97]
  else if 224 ≤ c ∧ c ≤ 255 then oneOf (rowsB.data.toList.getD (c - 224).toNat 0) else if 256 ≤ c ∧ c ≤ 383 then oneOf (moreB.data.toList.getD (c - 256).toNat 0) else []

theorem rows_cut : ∀ k : Fin 32, (rowsB.extract k.val (k.val + 1)).data.toList = [rowsB.data.toList.getD k.val 0] := by decide +kernel
theorem more_cut : ∀ k : Fin 128, (moreB.extract k.val (k.val + 1)).data.toList = [moreB.data.toList.getD k.val 0] := by decide +kernel
theorem rows_trim : ∀ k : Fin 32, Lib.trimSpace [rowsB.data.toList.getD k.val 0] = oneOf (rowsB.data.toList.getD k.val 0) ∧ (rowsB.data.toList.getD k.val 0).toNat < 128 := by decide +kernel
theorem more_trim : ∀ k : Fin 128, Lib.trimSpace [moreB.data.toList.getD k.val 0] = oneOf (moreB.data.toList.getD k.val 0) ∧ (moreB.data.toList.getD k.val 0).toNat < 128 := by decide +kernel

theorem ret_str {a b : ByteArray} (h : a = b) : Ending.returned (.string a) = .returned (.string b) := by rw [h]
set_option maxHeartbeats 1000000 in
set_option maxRecDepth 100000 in
theorem plain_else (c : Int) (h0 : 0 ≤ c) (h1 : c ≤ 1114111) (hA : ¬ (224 ≤ c ∧ c ≤ 255)) (hB : ¬ (256 ≤ c ∧ c ≤ 383)) (w : World) :
    Calls Tryd.prog 33 #[.int .i32 c] w fun e w' => e = .returned (.string ⟨(plainL c).toArray⟩) ∧ Below w.heap.size w w' := by
  go_enter Tryd.func33, Tryd.ntmps33
  go_wp2
  all_goals (go_ret; refine ⟨ret_str ?_, Below.refl _ _⟩)
  all_goals simp only [beq_iff_eq, beq_eq_false_iff_ne, ne_eq] at *
  all_goals (unfold plainL; repeat' split)
  all_goals first | rfl | (exfalso; omega)

set_option maxHeartbeats 1000000 in
set_option maxRecDepth 100000 in
theorem plain_special (c : Int) (h : c = 228 ∨ c = 230 ∨ c = 246 ∨ c = 248 ∨ c = 339 ∨ c = 252 ∨ c = 254 ∨ c = 229) (w : World) :
    Calls Tryd.prog 33 #[.int .i32 c] w fun e w' => e = .returned (.string ⟨(plainL c).toArray⟩) ∧ Below w.heap.size w w' := by
  rcases h with rfl | rfl | rfl | rfl | rfl | rfl | rfl | rfl
  all_goals (go_enter Tryd.func33, Tryd.ntmps33; go_wp2; go_ret; exact ⟨rfl, Below.refl _ _⟩)

theorem trim_one (B : ByteArray) (b : UInt8) (hB : B.data.toList = [b]) (hb : b.toNat < 128) (ht : Lib.trimSpace [b] = oneOf b) (w : World) (hE : Env w) :
    Calls Tryd.prog 48 #[.string B] w fun e w' => e = .returned (.string ⟨(oneOf b).toArray⟩) ∧ Below w.heap.size w w' := by
  refine (Tryd.strings_TrimSpace B w ?_ ?_ hE.tab).mono ?_
  · have : B.size = 1 := by rw [← ByteArray.size_data, ← Array.length_toList, hB]; rfl
    omega
  · intro j x hj
    rw [hB] at hj
    match j, hj with
    | 0, hj => simp at hj; subst hj; exact hb
  · rintro e w' ⟨rfl, rfl⟩
    rw [hB, ht]
    exact ⟨rfl, Go.Joins.below_bytesWorld _ _ _ _ (Nat.le_refl _)⟩

set_option maxRecDepth 100000 in
theorem plainL_rows (c : Int) (h0 : 224 ≤ c) (h1 : c ≤ 255) (hs : ¬ (c = 228 ∨ c = 230 ∨ c = 246 ∨ c = 248 ∨ c = 339 ∨ c = 252 ∨ c = 254 ∨ c = 229)) : plainL c = oneOf (rowsB.data.toList.getD (c - 224).toNat 0) := by
  unfold plainL
  generalize rowsB.data.toList.getD (c - 224).toNat 0 = ob
  repeat' split
  all_goals first | rfl | (exfalso; omega)
set_option maxHeartbeats 1000000 in
set_option maxRecDepth 100000 in
theorem plain_rows (c : Int) (h0 : 224 ≤ c) (h1 : c ≤ 255) (hs : ¬ (c = 228 ∨ c = 230 ∨ c = 246 ∨ c = 248 ∨ c = 339 ∨ c = 252 ∨ c = 254 ∨ c = 229)) (w : World) (hE : Env w) :
    Calls Tryd.prog 33 #[.int .i32 c] w fun e w' => e = .returned (.string ⟨(plainL c).toArray⟩) ∧ Below w.heap.size w w' := by
  have hk : (c - 224).toNat < 32 := by omega
  obtain ⟨ob, HT, HC, HP⟩ : ∃ ob, Hid (Lib.trimSpace [ob] = oneOf ob ∧ ob.toNat < 128) ∧ Hid ((rowsB.extract (c - 224).toNat ((c - 224).toNat + 1)).data.toList = [ob]) ∧ Hid (plainL c = oneOf ob) :=
    ⟨_, Lib.hid (rows_trim ⟨(c - 224).toNat, hk⟩), Lib.hid (rows_cut ⟨(c - 224).toNat, hk⟩), Lib.hid (plainL_rows c h0 h1 hs)⟩
  have h228 : (c == 228) = false := beq_eq_false_iff_ne.2 (by omega)
  have h230 : (c == 230) = false := beq_eq_false_iff_ne.2 (by omega)
  have h246 : (c == 246) = false := beq_eq_false_iff_ne.2 (by omega)
  have h248 : (c == 248) = false := beq_eq_false_iff_ne.2 (by omega)
  have h252 : (c == 252) = false := beq_eq_false_iff_ne.2 (by omega)
  have h254 : (c == 254) = false := beq_eq_false_iff_ne.2 (by omega)
  have h229 : (c == 229) = false := beq_eq_false_iff_ne.2 (by omega)
  clear hs
  go_enter Tryd.func33, Tryd.ntmps33
  go_wp2_with (fail)
  refine (trim_one _ ob ?_ HT.out.2 HT.out.1 w hE).mono ?_
  · have e := HC.out
    rw [← show (c - 224 + 1).toNat = (c - 224).toNat + 1 by omega] at e
    exact e
  rintro e w1 ⟨rfl, hb⟩
  clear HT HC
  go_wp2
  go_ret
  exact ⟨ret_str (by rw [HP.out]), hb⟩

set_option maxRecDepth 100000 in
theorem plainL_more (c : Int) (h0 : 256 ≤ c) (h1 : c ≤ 383) (hs : ¬ (c = 228 ∨ c = 230 ∨ c = 246 ∨ c = 248 ∨ c = 339 ∨ c = 252 ∨ c = 254 ∨ c = 229)) : plainL c = oneOf (moreB.data.toList.getD (c - 256).toNat 0) := by
  unfold plainL
  generalize moreB.data.toList.getD (c - 256).toNat 0 = ob
  repeat' split
  all_goals first | rfl | (exfalso; omega)
set_option maxHeartbeats 1000000 in
set_option maxRecDepth 100000 in
theorem plain_more (c : Int) (h0 : 256 ≤ c) (h1 : c ≤ 383) (hs : ¬ (c = 228 ∨ c = 230 ∨ c = 246 ∨ c = 248 ∨ c = 339 ∨ c = 252 ∨ c = 254 ∨ c = 229)) (w : World) (hE : Env w) :
    Calls Tryd.prog 33 #[.int .i32 c] w fun e w' => e = .returned (.string ⟨(plainL c).toArray⟩) ∧ Below w.heap.size w w' := by
  have hk : (c - 256).toNat < 128 := by omega
  obtain ⟨ob, HT, HC, HP⟩ : ∃ ob, Hid (Lib.trimSpace [ob] = oneOf ob ∧ ob.toNat < 128) ∧ Hid ((moreB.extract (c - 256).toNat ((c - 256).toNat + 1)).data.toList = [ob]) ∧ Hid (plainL c = oneOf ob) :=
    ⟨_, Lib.hid (more_trim ⟨(c - 256).toNat, hk⟩), Lib.hid (more_cut ⟨(c - 256).toNat, hk⟩), Lib.hid (plainL_more c h0 h1 hs)⟩
  have h339 : (c == 339) = false := beq_eq_false_iff_ne.2 (by omega)
  clear hs
  go_enter Tryd.func33, Tryd.ntmps33
  go_wp2_with (fail)
  refine (trim_one _ ob ?_ HT.out.2 HT.out.1 w hE).mono ?_
  · have e := HC.out
    rw [← show (c - 256 + 1).toNat = (c - 256).toNat + 1 by omega] at e
    exact e
  rintro e w1 ⟨rfl, hb⟩
  clear HT HC
  go_wp2
  go_ret
  exact ⟨ret_str (by rw [HP.out]), hb⟩

theorem plain_any (c : Int) (h0 : 0 ≤ c) (h1 : c ≤ 1114111) (w : World) (hE : Env w) :
    Calls Tryd.prog 33 #[.int .i32 c] w fun e w' => e = .returned (.string ⟨(plainL c).toArray⟩) ∧ Below w.heap.size w w' := by
  by_cases hs : c = 228 ∨ c = 230 ∨ c = 246 ∨ c = 248 ∨ c = 339 ∨ c = 252 ∨ c = 254 ∨ c = 229
  · exact plain_special c hs w
  by_cases hA : 224 ≤ c ∧ c ≤ 255
  · exact plain_rows c hA.1 hA.2 hs w hE
  by_cases hB : 256 ≤ c ∧ c ≤ 383
  · exact plain_more c hB.1 hB.2 hs w hE
  exact plain_else c h0 h1 hA hB w
theorem oneOf_length (b : UInt8) : (oneOf b).length ≤ 1 := by unfold oneOf; split <;> simp
theorem plainL_length (c : Int) : (plainL c).length ≤ 2 := by
  unfold plainL
  repeat' split
  all_goals first | (simp; done) | (exact Nat.le_trans (oneOf_length _) (by omega))
end Go.Proofs.YtilomlohjhhbnaaDoor
