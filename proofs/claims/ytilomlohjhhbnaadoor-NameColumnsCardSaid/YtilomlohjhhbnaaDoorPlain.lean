/- What name.Plain answers: of each sign of Fold its plain letters, in great form. Conditions: the text has at most 2^40 bytes; the table of ASCII blanks is as the library lays it. -/
import Derived.Test.YtilomlohjhhbnaaDoorPln
import Derived.Lib.ConvBytes
import Derived.Laws.BytesArg
set_option linter.unusedVariables false
set_option linter.unusedSimpArgs false
namespace Go.Proofs.YtilomlohjhhbnaaDoor
open Go.Proofs Go.RowKit

def pieceL (c : Int) : List UInt8 := if c < 128 ∧ (letterB c = true ∨ digitB c = true) then Lib.encodeRune c else if c = 32 ∨ c = 45 then [32] else if 128 ≤ c then plainL c else []
def plL (l : List Int) : List UInt8 := l.flatMap pieceL
def upZ (x : Int) : Int := if 97 ≤ x ∧ x ≤ 122 then x - 32 else x
def numsOf (l : List UInt8) : List Int := l.map fun b => (b.toNat : Int)
/-- The bytes of Plain. -/
def plainS (s : ByteArray) : ByteArray := strOfNums ((numsOf (plL (rn (foldS s)))).map upZ)
theorem pieceL_length (c : Int) : (pieceL c).length ≤ 4 := by
  unfold pieceL
  have := encodeRune_length c
  have := plainL_length c
  repeat' split
  all_goals first | omega | (simp; done) | (simp only [List.length_cons, List.length_nil]; omega)
theorem plL_length (l : List Int) : (plL l).length ≤ 4 * l.length := by
  unfold plL
  induction l with
  | nil => simp
  | cons a l ih => have := pieceL_length a; simp at *; omega

theorem upD_at (xs : List Int) (k j : Nat) (hj : j < xs.length) : ((xs.take k).map upZ ++ xs.drop k).getD j 0 = if j < k then upZ (xs.getD j 0) else xs.getD j 0 := by
  simp only [List.getD_eq_getElem?_getD]
  by_cases h : j < k
  · have : j < (xs.take k).length := by simp; omega
    rw [List.getElem?_append_left (by simp; omega), if_pos h]
    simp [h, hj]
  · rw [List.getElem?_append_right (by simp; omega), if_neg h]
    simp only [List.length_map, List.length_take, List.getElem?_drop]
    congr 2
    omega

theorem bld_below {B b : Nat} {bs : List Value} {w W : World} (h : Lib.IsBuilderF 45 5 B b bs w) (hb : Below w.heap.size w W) : Lib.IsBuilderF 45 5 B b bs W := by
  have hg : w.grownBy W none := ⟨hb.os, hb.tape, hb.output, hb.size, fun i hi _ => hb.block i hi⟩
  have key : ∀ p, Lib.BuilderAtF 45 5 B b p bs w → Lib.BuilderAtF 45 5 B b p bs W := by
    rintro p ⟨hB, v, hbk, hown, hne⟩
    have hlt : b < w.heap.size := (Array.getElem?_eq_some_iff.1 hbk).1
    exact ⟨hB, v, by rw [hb.block b hlt]; exact hbk, hown.kept hg (by cases v.ownBlock <;> simp), hne⟩
  exact h.elim (fun x => .inl (key _ x)) (fun x => .inr (key _ x))
theorem iter_below {w W : World} {k : Nat} {s : ByteArray} {pos : Nat} (h : w.heap[k]? = some (.stringIter s pos)) (hb : Below w.heap.size w W) : W.heap[k]? = some (.stringIter s pos) := by
  rw [hb.block k (Array.getElem?_eq_some_iff.1 h).1]; exact h

/-- What holds at the head of each round of Plain's second loop. -/
structure UpR (w : World) (J : Nat) (xs : List Int) (wr : World) (k : Nat) : Prop where
  le : k ≤ xs.length
  cell : ∀ j, j < xs.length → wr.cell? ⟨J, j, none⟩ = some (.int .u8 (((xs.take k).map upZ ++ xs.drop k).getD j 0))
  free : ∀ j, j < xs.length → wr.frozen? ⟨J, j, none⟩ = false
  below : Below w.heap.size w wr
theorem UpR.same {w wr : World} {J : Nat} {xs : List Int} {k : Nat} (h : UpR w J xs wr k) (hk : k < xs.length) (hu : upZ (xs.getD k 0) = xs.getD k 0) : UpR w J xs wr (k + 1) where
  le := by omega
  free := h.free
  below := h.below
  cell j hj := by
    rw [h.cell j hj, upD_at xs k j hj, upD_at xs (k + 1) j hj]
    by_cases e : j = k
    · subst e; rw [if_neg (by omega), if_pos (by omega), hu]
    · by_cases l : j < k
      · rw [if_pos l, if_pos (by omega)]
      · rw [if_neg l, if_neg (by omega)]
theorem UpR.store {w wr : World} {J : Nat} {xs : List Int} {k : Nat} (h : UpR w J xs wr k) (hk : k < xs.length) (hJ : w.heap.size ≤ J) (v : Int) (hu : upZ (xs.getD k 0) = v) : UpR w J xs (wr.setCell ⟨J, k, none⟩ (.int .u8 v)) (k + 1) where
  le := by omega
  free j hj := by rw [World.frozen?_setCell]; exact h.free j hj
  below := h.below.setCell (p := ⟨J, k, none⟩) hJ _
  cell j hj := by
    by_cases e : j = k
    · subst e
      rw [World.cell?_setCell_same (h := h.cell j hj), upD_at xs (j + 1) j hj, if_pos (by omega), hu]
    · rw [World.cell?_setCell_other (h := fun e2 => e (by injection e2 with _ e3; exact e3.symm)), h.cell j hj, upD_at xs k j hj, upD_at xs (k + 1) j hj]
      by_cases l : j < k
      · rw [if_pos l, if_pos (by omega)]
      · rw [if_neg l, if_neg (by omega)]

/-- What holds at the head of each round of Plain's first loop. -/
def PlR (w : World) (I : Nat) (f : ByteArray) (wr : World) (pos : Nat) (acc : List UInt8) : Prop :=
  Lib.IsBuilderF 45 5 w.heap.size w.heap.size (Lib.byteCells acc) wr ∧ wr.heap[I]? = some (.stringIter f pos) ∧ Below w.heap.size w wr ∧ acc ++ plL ((rest f pos).map (·.1)) = plL (rn f) ∧ acc.length ≤ 4 * pos

theorem strOf_toNat (l : List UInt8) : strOfNums (numsOf l) = ⟨l.toArray⟩ := by
  unfold strOfNums numsOf
  congr 2
  rw [List.map_map]
  conv => rhs; rw [← List.map_id l]
  apply List.map_congr_left
  intro b _
  simp

set_option maxHeartbeats 8000000 in
set_option maxRecDepth 1000000 in
theorem plain_walk (s : ByteArray) (w : World) (hs : s.size ≤ 1099511627776) (hE : Env w) :
    Calls Tryd.prog 12 #[.string s] w fun e w' => e = .returned (.string (plainS s)) ∧ Below w.heap.size w w' := by
  have hfs := foldS_size s
  go_enter Tryd.func12, Tryd.ntmps12
  go_wp2_with (go_at_call 18; refine (fold_any s _ (by omega)).mono ?_)
  rintro e w1 ⟨rfl, b1⟩
  obtain ⟨f, hf⟩ : ∃ f, foldS s = f := ⟨_, rfl⟩
  rw [hf]
  have HF := Lib.hid hf
  rw [hf] at hfs
  clear hf
  have hB1 : w.heap.size < w1.heap.size := by have := b1.size; simp at this; omega
  have hbl0 : w1.heap[w.heap.size]? = some (.cells #[.pointer none, .slice none 0 0] 45 (0, 0)) := by
    rw [b1.block w.heap.size (by simp)]
    exact heap_alloc_new w _
  have bw1 : Below w.heap.size w w1 := ((Below.refl _ w).alloc (Nat.le_refl _) _).trans (b1.mono (by simp))
  have hst : PlR w w1.heap.size f (w1.iter f 0) 0 [] := by
    refine ⟨Lib.IsBuilderF.alloc (.of (.inl ⟨Nat.le_refl _, .slice none 0 0, hbl0, World.ownsRow_nil _ _ _ _, by simp [Value.ownBlock]⟩)) _, World.iter_heap w1 f 0, bw1.alloc (by omega) _, rfl, by simp⟩
  clear bw1 hbl0 b1
  go_wp2
  go_loopw [] (fun wr => ∃ (pos : Nat) (acc : List UInt8), PlR w w1.heap.size f wr pos acc) (fun wr => f.size - wr.iterPos w1.heap.size)
  case atStart => exact ⟨0, [], hst⟩
  case round =>
    obtain ⟨pos, acc, hI, hit, hbw, hacc, hal⟩ := hrel
    clear hst
    have hsz : w1.heap.size < wr.heap.size := (Array.getElem?_eq_some_iff.1 hit).1
    by_cases hp : pos < f.size
    · have hnx0 : ∀ ty, (Instr.next (.pointer (some ⟨w1.heap.size, 0, none⟩)) true ty).run Tryd.prog wr = _ := fun ty => Lib.run_next_any_at wr w1.heap.size f pos ty hit hp
      have hwd := wpos f pos hp
      have hdl := dec_le f pos
      have hI2 := hI.iterAt hit (pos + (Utf8.decode f pos).2)
      have hit2 := Lib.iterAt_heap wr w1.heap.size f pos (pos + (Utf8.decode f pos).2) hit
      have hbw2 := Lib.below_iterAt hbw (k := w1.heap.size) (by omega) f (pos + (Utf8.decode f pos).2)
      have hsz2 : w.heap.size ≤ (wr.iterAt w1.heap.size f (pos + (Utf8.decode f pos).2)).heap.size := by rw [Lib.iterAt_size]; omega
      obtain ⟨c, hc⟩ : ∃ c : Int, ((Utf8.decode f pos).1 : Int) = c := ⟨_, rfl⟩
      obtain ⟨q, hq⟩ : ∃ q : Nat, pos + (Utf8.decode f pos).2 = q := ⟨_, rfl⟩
      have hacc2 : (acc ++ pieceL c) ++ plL ((rest f q).map (·.1)) = plL (rn f) := by
        rw [← hacc, rest_cons f pos hp, ← hc, ← hq]; simp [plL]
      have hc0 : 0 ≤ c := by omega
      have hc1 : c ≤ 1114111 := by omega
      rw [hq] at hnx0 hI2 hit2 hbw2 hsz2
      obtain ⟨w2, hw2⟩ : ∃ w2, wr.iterAt w1.heap.size f q = w2 := ⟨_, rfl⟩
      have hnx : ∀ ty, (Instr.next (.pointer (some ⟨w1.heap.size, 0, none⟩)) true ty).run Tryd.prog wr = .ok (.tuple #[.bool true, .int .i64 pos, .int .i32 c]) w2 := by
        intro ty; rw [hnx0 ty, hc, hw2]
      rw [hw2] at hI2 hit2 hbw2 hsz2
      have hq1 : pos < q := by omega
      have hpl := pieceL_length c
      have hwb : w.heap.size ≤ w2.heap.size := hbw2.size
      clear hnx0 hacc hc hq hwd hdl hw2
      have HA := Lib.hid hacc2
      clear hacc2
      by_cases h1 : c < 128
      · rcases Bool.eq_false_or_eq_true (letterB c) with hL | hL
        · have HL : letterB c = true ∨ digitB c = true := .inl hL
          have hpc : pieceL c = Lib.encodeRune c := by unfold pieceL; rw [if_pos ⟨h1, by simp [HL]⟩]
          have HPC := Lib.hid hpc
          clear hpc
          go_wp2_with first | (go_at_call 24; refine (letter_any _ _).mono ?_; rintro e w' ⟨rfl, rfl⟩) | (go_at_call 25; refine (digit_any _ _).mono ?_; rintro e w' ⟨rfl, rfl⟩) | (go_at_call 30; refine (Bld.Builder_WriteRune_k w.heap.size w.heap.size _ _ (by omega) (by omega) _ hI2 (by rw [Lib.byteCells_length]; omega) hwb).mono ?_)
          rintro e W1 ⟨rfl, g1, g2, g3⟩
          go_wp2
          go_roundw
          case rel =>
            refine ⟨q, acc ++ pieceL c, ?_, g3.iter hit2 (by omega), hbw2.trans g2, HA.out, by simp; omega⟩
            rw [HPC.out, Lib.byteCells_append, Lib.byteCells_encodeRune]; exact Or.inr g1
          case measure => simp only [World.iterPos, g3.iter hit2 (by omega), hit]; omega
        · rcases Bool.eq_false_or_eq_true (digitB c) with hD | hD
          · have HL : letterB c = true ∨ digitB c = true := .inr hD
            have hpc : pieceL c = Lib.encodeRune c := by unfold pieceL; rw [if_pos ⟨h1, by simp [HL]⟩]
            have HPC := Lib.hid hpc
            clear hpc
            go_wp2_with first | (go_at_call 24; refine (letter_any _ _).mono ?_; rintro e w' ⟨rfl, rfl⟩) | (go_at_call 25; refine (digit_any _ _).mono ?_; rintro e w' ⟨rfl, rfl⟩) | (go_at_call 30; refine (Bld.Builder_WriteRune_k w.heap.size w.heap.size _ _ (by omega) (by omega) _ hI2 (by rw [Lib.byteCells_length]; omega) hwb).mono ?_)
            rintro e W1 ⟨rfl, g1, g2, g3⟩
            go_wp2
            go_roundw
            case rel =>
              refine ⟨q, acc ++ pieceL c, ?_, g3.iter hit2 (by omega), hbw2.trans g2, HA.out, by simp; omega⟩
              rw [HPC.out, Lib.byteCells_append, Lib.byteCells_encodeRune]; exact Or.inr g1
            case measure => simp only [World.iterPos, g3.iter hit2 (by omega), hit]; omega
          · rcases Bool.eq_false_or_eq_true (c == 32) with h32 | h32
            · have h32' : c = 32 := by simpa using h32
              have hpc : pieceL c = [32] := by unfold pieceL; rw [if_neg (by simp [hL, hD]), if_pos (by omega)]
              have HPC := Lib.hid hpc
              clear hpc
              go_wp2_with first | (go_at_call 24; refine (letter_any _ _).mono ?_; rintro e w' ⟨rfl, rfl⟩) | (go_at_call 25; refine (digit_any _ _).mono ?_; rintro e w' ⟨rfl, rfl⟩) | (go_at_call 31; refine (Bld.Builder_WriteByte_k w.heap.size w.heap.size _ 32 _ hI2 (by rw [Lib.byteCells_length]; omega) hwb).mono ?_)
              rintro e W1 ⟨rfl, g1, g2, g3⟩
              go_wp2
              go_roundw
              case rel =>
                refine ⟨q, acc ++ pieceL c, ?_, g3.iter hit2 (by omega), hbw2.trans g2, HA.out, by simp; omega⟩
                rw [HPC.out, Lib.byteCells_append]; exact Or.inr g1
              case measure => simp only [World.iterPos, g3.iter hit2 (by omega), hit]; omega
            · rcases Bool.eq_false_or_eq_true (c == 45) with h45 | h45
              · have h45' : c = 45 := by simpa using h45
                have hpc : pieceL c = [32] := by unfold pieceL; rw [if_neg (by simp [hL, hD]), if_pos (by omega)]
                have HPC := Lib.hid hpc
                clear hpc
                go_wp2_with first | (go_at_call 24; refine (letter_any _ _).mono ?_; rintro e w' ⟨rfl, rfl⟩) | (go_at_call 25; refine (digit_any _ _).mono ?_; rintro e w' ⟨rfl, rfl⟩) | (go_at_call 31; refine (Bld.Builder_WriteByte_k w.heap.size w.heap.size _ 32 _ hI2 (by rw [Lib.byteCells_length]; omega) hwb).mono ?_)
                rintro e W1 ⟨rfl, g1, g2, g3⟩
                go_wp2
                go_roundw
                case rel =>
                  refine ⟨q, acc ++ pieceL c, ?_, g3.iter hit2 (by omega), hbw2.trans g2, HA.out, by simp; omega⟩
                  rw [HPC.out, Lib.byteCells_append]; exact Or.inr g1
                case measure => simp only [World.iterPos, g3.iter hit2 (by omega), hit]; omega
              · have hpc : pieceL c = [] := by unfold pieceL; rw [if_neg (by simp [hL, hD]), if_neg (by simp only [beq_eq_false_iff_ne, ne_eq] at h32 h45; omega), if_neg (by omega)]
                have HPC := Lib.hid hpc
                clear hpc
                go_wp2_with first | (go_at_call 24; refine (letter_any _ _).mono ?_; rintro e w' ⟨rfl, rfl⟩) | (go_at_call 25; refine (digit_any _ _).mono ?_; rintro e w' ⟨rfl, rfl⟩)
                go_roundw
                case rel =>
                  refine ⟨q, acc ++ pieceL c, ?_, hit2, hbw2, HA.out, by simp; omega⟩
                  rw [HPC.out, List.append_nil]; exact hI2
                case measure => simp only [World.iterPos, hit2, hit]; omega
      · have h32 : (c == 32) = false := beq_eq_false_iff_ne.2 (by omega)
        have h45 : (c == 45) = false := beq_eq_false_iff_ne.2 (by omega)
        have hpc : pieceL c = plainL c := by unfold pieceL; rw [if_neg (by omega), if_neg (by omega), if_pos (by omega)]
        have hE2 : Env w2 := hE.below hbw2
        have hpl2 := plainL_length c
        obtain ⟨pl, hpl3⟩ : ∃ pl, plainL c = pl := ⟨_, rfl⟩
        have hcon := plain_any c hc0 hc1 w2 hE2
        rw [hpl3] at hpc hpl2 hcon
        have HCON := Lib.hid hcon
        have HPC := Lib.hid hpc
        clear hpc hcon hpl3
        go_wp2_with (go_at_call 33; refine HCON.out.mono ?_)
        rintro e W0 rfl g0
        clear HCON
        have hI3 := bld_below hI2 g0
        have hit3 := iter_below hit2 g0
        have hbw3 := hbw2.trans (g0.mono hwb)
        have hwb3 : w.heap.size ≤ W0.heap.size := hbw3.size
        go_wp2_with (go_at_call 32; refine (Bld.Builder_WriteString_k w.heap.size w.heap.size _ _ _ hI3 (by rw [Lib.byteCells_length]; simp [ByteArray.size]; omega) hwb3).mono ?_)
        rintro e W1 ⟨rfl, g1, g2, g3⟩
        go_wp2
        go_roundw
        case rel =>
          refine ⟨q, acc ++ pieceL c, ?_, g3.iter hit3 (by omega), hbw3.trans g2, HA.out, by simp; omega⟩
          rw [HPC.out, Lib.byteCells_append]; exact Or.inr g1
        case measure => simp only [World.iterPos, g3.iter hit3 (by omega), hit]; omega
    · have hnx : ∀ ty, (Instr.next (.pointer (some ⟨w1.heap.size, 0, none⟩)) true ty).run Tryd.prog wr = _ := fun ty => Lib.run_next_end_at wr w1.heap.size f pos ty hit hp
      have hacc2 : acc = plL (rn f) := by rw [rest_nil f pos hp] at hacc; simpa [plL] using hacc
      have HA := Lib.hid hacc2
      have hal2 : acc.length ≤ 17592186044416 := by
        have := plL_length (rn f); have := rn_length f; rw [hacc2]; omega
      clear hacc hacc2 hal
      have hcv : ∀ W : World, (convert 9 43 (.string ⟨acc.toArray⟩)).run Tryd.prog W = .ok (.slice (some ⟨W.heap.size, 0, none⟩) acc.length (grownCap W acc.length 0 5)) (Lib.bytesWorld W 5 ⟨acc.toArray⟩) := fun W => by
        have := Lib.run_convert_string_bytes (P := Tryd.prog) W 9 43 5 ⟨acc.toArray⟩ Tryd.underlying9 Tryd.underlying43 Tryd.underlying5
        simpa [ByteArray.size] using this
      go_wp2_with (go_at_call 34; refine (Tryd.Builder_String_any_k w.heap.size w.heap.size acc _ hI (by omega)).mono ?_)
      rintro e W1 ⟨rfl, _, b1, _⟩
      have hbw1 := hbw.trans b1
      go_wp2
      have hxl : (numsOf acc).length = acc.length := by simp [numsOf]
      have hst : UpR w W1.heap.size (numsOf acc) (Lib.bytesWorld W1 5 ⟨acc.toArray⟩) 0 := by
        refine ⟨Nat.zero_le _, fun j hj => ?_, fun j hj => ?_, hbw1.trans (Go.Joins.below_bytesWorld _ _ _ _ hbw1.size)⟩
        · rw [Lib.bytesWorld_cell W1 5 ⟨acc.toArray⟩ j (by simp [ByteArray.size]; omega)]
          simp only [List.take_zero, List.map_nil, List.nil_append, List.drop_zero]
          congr 2
          simp only [numsOf, List.getD_eq_getElem?_getD, List.getElem?_map]
          rw [List.getElem?_eq_getElem (by omega)]
          simp
        · unfold World.frozen?
          simp only [Lib.bytesWorld_at_new]
          have : j < (Lib.bytesCells W1 5 ⟨acc.toArray⟩).size := by simp [Lib.bytesCells]; omega
          simp; omega
      have hbyte : ∀ j, 0 ≤ (numsOf acc).getD j 0 ∧ (numsOf acc).getD j 0 ≤ 255 := by
        intro j
        simp only [numsOf, List.getD_eq_getElem?_getD, List.getElem?_map]
        cases acc[j]? with
        | none => simp
        | some b => simp; have := b.toNat_lt; omega
      have hJ : w.heap.size ≤ W1.heap.size := hbw1.size
      obtain ⟨xs, hxs⟩ : ∃ xs, numsOf acc = xs := ⟨_, rfl⟩
      rw [hxs] at hxl hst hbyte
      rw [← hxl] at hal2 ⊢
      have HX := Lib.hid hxs
      clear hxs hcv hnx
      obtain ⟨J, hJ2⟩ : ∃ J, W1.heap.size = J := ⟨_, rfl⟩
      rw [hJ2] at hst hJ ⊢
      obtain ⟨W2, hW2⟩ : ∃ W2, Lib.bytesWorld W1 5 ⟨acc.toArray⟩ = W2 := ⟨_, rfl⟩
      rw [hW2] at hst ⊢
      clear hJ2 hW2
      have HXL := Lib.hid hxl
      clear hxl
      go_loopw [46] (fun u wr => ∃ k : Nat, u = .int .i64 k ∧ UpR w J xs wr k) (fun u _ => xs.length - (intOf u).toNat)
      case atStart => exact ⟨0, rfl, hst⟩
      case round =>
        clear hst hI hit
        obtain ⟨k, rfl, hr⟩ := hrel
        have hkl := hr.le
        by_cases hk : k < xs.length
        · have hc := hr.cell k hk
          rw [upD_at xs k k hk, if_neg (by omega)] at hc
          have hfz := hr.free k hk
          have hbx := hbyte k
          obtain ⟨x, hx⟩ : ∃ x, xs.getD k 0 = x := ⟨_, rfl⟩
          rw [hx] at hc hbx
          obtain ⟨hx0, hx1⟩ := hbx
          have HXX := Lib.hid hx
          have HR := Lib.hid hr
          have HBY := Lib.hid hbyte
          clear hx hr hbyte
          by_cases hlo : 97 ≤ x
          · by_cases hhi : x ≤ 122
            · go_wp2
              go_roundw
              case rel => exact ⟨k + 1, by go_num, HR.out.store hk hJ _ (by rw [HXX.out]; unfold upZ; rw [if_pos ⟨hlo, hhi⟩])⟩
              case measure => simp [intOf]; omega
            · go_wp2
              go_roundw
              case rel => exact ⟨k + 1, by go_num, HR.out.same hk (by rw [HXX.out]; unfold upZ; rw [if_neg (by omega)])⟩
              case measure => simp [intOf]; omega
          · go_wp2
            go_roundw
            case rel => exact ⟨k + 1, by go_num, HR.out.same hk (by rw [HXX.out]; unfold upZ; rw [if_neg (by omega)])⟩
            case measure => simp [intOf]; omega
        · have hkk : k = xs.length := by omega
          subst hkk
          have hcb := run_convert_bytes_arg (P := Tryd.prog) wr 43 5 Tryd.underlying43 Tryd.underlying5 J 0 xs.length (grownCap W1 xs.length 0 5) (xs.map upZ) (by simp) (fun i hi => by
            have := hr.cell i hi
            simpa using this) 9 Tryd.underlying9
          go_wp2
          go_ret
          refine ⟨ret_str ?_, hr.below⟩
          unfold plainS
          rw [HF.out, ← HA.out, HX.out]
end Go.Proofs.YtilomlohjhhbnaaDoor
