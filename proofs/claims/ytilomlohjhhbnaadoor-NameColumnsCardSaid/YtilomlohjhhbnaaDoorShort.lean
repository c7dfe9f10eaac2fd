/- What name.Short answers: the first byte of each word of Plain. Conditions: the text has at most 2^24 bytes; the library's variables are as they are laid. -/
import Derived.Test.YtilomlohjhhbnaaDoorPlain
import Derived.Lib.SplitLaws
import Derived.Lib.RabinKarpLaws
set_option linter.unusedVariables false
set_option linter.unusedSimpArgs false
namespace Go.Proofs.YtilomlohjhhbnaaDoor
open Go.Proofs Go.RowKit

def piecesS (p : ByteArray) : List ByteArray := Lib.splitB ⟨#[32]⟩ 0 (Lib.countB p ⟨#[32]⟩) p
def firstsL (ps : List ByteArray) : List UInt8 := ps.flatMap fun w => w.data.toList.take 1
def shortS (s : ByteArray) : ByteArray := ⟨(firstsL (piecesS (plainS s))).toArray⟩
theorem plainS_size (s : ByteArray) : (plainS s).size ≤ 16 * s.size := by
  unfold plainS
  rw [strOfNums_size]
  have := plL_length (rn (foldS s))
  have := rn_length (foldS s)
  have := foldS_size s
  simp [numsOf]; omega
theorem piecesS_length (p : ByteArray) : (piecesS p).length = Lib.countB p ⟨#[32]⟩ + 1 := Lib.splitB_all _ (by decide) 0 _ p rfl
theorem countB_size (p : ByteArray) : Lib.countB p ⟨#[32]⟩ ≤ p.size := Lib.countB_le _ (by decide) p.size p (Nat.le_refl _)
theorem firstsL_length (ps : List ByteArray) : (firstsL ps).length ≤ ps.length := by
  unfold firstsL
  induction ps with
  | nil => simp
  | cons a l ih =>
    rw [List.flatMap_cons, List.length_append, List.length_cons, List.length_take]
    omega
theorem size_toList (s : ByteArray) : s.data.toList.length = s.size := (Lib.size_eq s).symm

set_option maxHeartbeats 8000000 in
set_option maxRecDepth 1000000 in
theorem short_walk (s : ByteArray) (w : World) (hs : s.size ≤ 16777216) (hE : Env w) :
    Calls Tryd.prog 14 #[.string s] w fun e w' => e = .returned (.string (shortS s)) ∧ Below w.heap.size w w' := by
  have hps := plainS_size s
  go_enter Tryd.func14, Tryd.ntmps14
  go_wp2_with (go_at_call 12; refine (plain_walk s _ (by omega) (hE.below ((Below.refl _ w).alloc (Nat.le_refl _) _))).mono ?_)
  rintro e w1 ⟨rfl, b1⟩
  obtain ⟨p, hp⟩ : ∃ p, plainS s = p := ⟨_, rfl⟩
  rw [hp] at hps
  rw [hp]
  have HP := Lib.hid hp
  clear hp
  have hB1 : w.heap.size < w1.heap.size := by have := b1.size; simp at this; omega
  have hbl0 : w1.heap[w.heap.size]? = some (.cells #[.pointer none, .slice none 0 0] 45 (0, 0)) := by
    rw [b1.block w.heap.size (by simp)]
    exact heap_alloc_new w _
  have bw1 : Below w.heap.size w w1 := ((Below.refl _ w).alloc (Nat.le_refl _) _).trans (b1.mono (by simp))
  obtain ⟨m, hm⟩ := (hE.below bw1).len
  go_wp2_with (go_at_call 38; refine (Tryd.strings_Split p ⟨#[32]⟩ m w1 (by omega) hm (by decide)).mono ?_)
  rintro e w2 ⟨rfl, rfl⟩
  have hcl := countB_size p
  have hpl := piecesS_length p
  obtain ⟨n, hn⟩ : ∃ n, Lib.countB p ⟨#[32]⟩ = n := ⟨_, rfl⟩
  have hps2 : Lib.splitB ⟨#[32]⟩ 0 (Lib.countB p ⟨#[32]⟩) p = piecesS p := rfl
  rw [hps2, hn]
  rw [hn] at hcl hpl
  obtain ⟨ps, hps3⟩ : ∃ ps, piecesS p = ps := ⟨_, rfl⟩
  rw [hps3] at hpl ⊢
  have HPS := Lib.hid hps3
  clear hps3 hps2 hn
  have hI0 : Lib.IsBuilderF 45 5 w.heap.size w.heap.size (Lib.byteCells []) w1 := .of (.inl ⟨Nat.le_refl _, .slice none 0 0, hbl0, World.ownsRow_nil _ _ _ _, by simp [Value.ownBlock]⟩)
  have hI1 := hI0.alloc (.cells (ps.map Value.string).toArray 9)
  have hJ : (w1.alloc (.cells (ps.map Value.string).toArray 9)).heap[w1.heap.size]? = some (.cells (ps.map Value.string).toArray 9 (0, 0)) := heap_alloc_new w1 _
  have bw2 : Below w.heap.size w (w1.alloc (.cells (ps.map Value.string).toArray 9)) := bw1.alloc (by omega) _
  obtain ⟨w2, hw2⟩ : ∃ w2, w1.alloc (.cells (ps.map Value.string).toArray 9) = w2 := ⟨_, rfl⟩
  rw [hw2] at hI1 hJ bw2 ⊢
  clear hw2 hI0 bw1 hbl0 b1 hm
  obtain ⟨J, hJ2⟩ : ∃ J, w1.heap.size = J := ⟨_, rfl⟩
  rw [hJ2] at hJ hB1 ⊢
  clear hJ2
  go_wp2
  go_loopw [10] (fun u wr => ∃ (k : Nat) (acc : List UInt8), u = .int .i64 k ∧ k ≤ n + 1 ∧ Lib.IsBuilderF 45 5 w.heap.size w.heap.size (Lib.byteCells acc) wr ∧ wr.heap[J]? = some (.cells (ps.map Value.string).toArray 9 (0, 0)) ∧ Below w.heap.size w wr ∧ acc ++ firstsL (ps.drop k) = firstsL ps ∧ acc.length ≤ k) (fun u _ => n + 1 - (intOf u).toNat)
  case atStart => exact ⟨0, [], rfl, by omega, hI1, hJ, bw2, rfl, by simp⟩
  case round =>
    clear hI1 hJ bw2
    obtain ⟨k, acc, rfl, hkn, hI, hJ, hbw, hacc, hal⟩ := hrel
    by_cases hk : k < n + 1
    · obtain ⟨x, hx⟩ : ∃ x, ps[k]? = some x := ⟨ps[k]'(by omega), List.getElem?_eq_getElem _⟩
      have hc : wr.cell? ⟨J, k, none⟩ = some (.string x) := by rw [Lib.cell_of_heap hJ]; simp [hx]
      have hdr : ps.drop k = x :: ps.drop (k + 1) := by
        rw [List.drop_eq_getElem_cons (by omega)]
        congr 1
        rw [List.getElem?_eq_getElem (by omega)] at hx
        exact Option.some.inj hx
      have hacc2 : (acc ++ x.data.toList.take 1) ++ firstsL (ps.drop (k + 1)) = firstsL ps := by
        rw [← hacc, hdr]; simp [firstsL]
      have HA := Lib.hid hacc2
      clear hacc hacc2 hdr hx
      have hwb : w.heap.size ≤ wr.heap.size := hbw.size
      rcases Nat.eq_zero_or_pos x.size with hx0 | hx0
      · have hxd : x.data.toList = [] := by rw [← List.length_eq_zero_iff, size_toList]; exact hx0
        have hxe : x.toList.isEmpty = true := by rw [ByteArray.toList_eq, hxd]; rfl
        clear hx0
        go_wp2
        go_roundw
        case rel =>
          refine ⟨k + 1, acc ++ x.data.toList.take 1, by go_num, by omega, ?_, hJ, hbw, HA.out, ?_⟩
          · rw [hxd]; simpa using hI
          · rw [hxd]; simp; omega
        case measure => simp [intOf]; omega
      · have hxd : x.data.toList.take 1 = [x[0]] := by
          have h1 := Go.Proofs.byte_at x 0 hx0
          cases hl : x.data.toList with
          | nil => rw [hl] at h1; simp at h1
          | cons a l => rw [hl] at h1; simp at h1; simp [h1]
        have hxe : x.toList.isEmpty = false := by
          rw [ByteArray.toList_eq, List.isEmpty_eq_false_iff, ← List.length_pos_iff, size_toList]; exact hx0
        have HX := Lib.hid hxd
        clear hxd
        go_wp2_with (go_at_call 31; refine (Bld.Builder_WriteByte_k w.heap.size w.heap.size _ _ _ hI (by rw [Lib.byteCells_length]; omega) hwb).mono ?_)
        rintro e W1 ⟨rfl, g1, g2, g3⟩
        have hJ3 := g3 J _ hJ (by simp; omega) (by intro c fz; simp)
        go_wp2
        go_roundw
        case rel =>
          refine ⟨k + 1, acc ++ x.data.toList.take 1, by go_num, by omega, ?_, hJ3, hbw.trans g2, HA.out, ?_⟩
          · rw [HX.out, Lib.byteCells_append]; exact Or.inr g1
          · rw [HX.out]; simp; omega
        case measure => simp [intOf]; omega
    · have hkk : k = n + 1 := by omega
      have hacc2 : acc = firstsL ps := by rw [← hacc, hkk, ← hpl, List.drop_length]; simp [firstsL]
      have HA := Lib.hid hacc2
      clear hacc hacc2
      go_wp2_with (go_at_call 34; refine (Tryd.Builder_String_any_k w.heap.size w.heap.size acc _ hI (by have := hbw.size; omega)).mono ?_)
      rintro e W1 ⟨rfl, _, b1, _⟩
      have hbw1 := hbw.trans b1
      go_wp2
      go_ret
      refine ⟨ret_str ?_, hbw1⟩
      unfold shortS
      rw [HP.out, HPS.out, HA.out]
end Go.Proofs.YtilomlohjhhbnaaDoor
