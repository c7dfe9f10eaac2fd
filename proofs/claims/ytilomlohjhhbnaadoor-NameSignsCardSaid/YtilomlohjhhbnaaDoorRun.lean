/- What name.Runes answers: the signs of a text, and whether each byte is part of one. Condition: the text has at most 2^40 bytes. -/
import Derived.Test.YtilomlohjhhbnaaDoorSg
import Derived.Test.YtilomlohjhhbnaaDoorFold
import Derived.Test.YtilomlohjhhbnaaDoorShelf
import Derived.OwnWalk
import Derived.Laws.MakeOwn
import Derived.WalkSmall
import Derived.Lib.IndexBytes
set_option linter.unusedVariables false
set_option linter.unusedSimpArgs false
namespace Go.Proofs.YtilomlohjhhbnaaDoor
open Go.Proofs Go.RowKit

theorem own_ne_iter {w : World} {base : Nat} {e : TypeId} {size : Nat} {v : Value} {n : Nat} {xs : List Value} (h : w.ownsRow base e size v n xs) {k : Nat} {s : ByteArray} {p : Nat} (hk : w.heap[k]? = some (.stringIter s p)) : v.ownBlock ≠ some k := by
  intro e1
  rcases h.2 with ⟨rfl, _⟩ | ⟨g, cap, cur, rfl, _, hg, _⟩
  · simp [Value.ownBlock] at e1
  · have : g = k := by simpa [Value.ownBlock] using e1
    subst this
    rw [hg] at hk
    cases hk
theorem own_iter {w : World} {base : Nat} {e : TypeId} {size : Nat} {v : Value} {n : Nat} {xs : List Value} (h : w.ownsRow base e size v n xs) {k : Nat} {s : ByteArray} {p : Nat} (hk : w.heap[k]? = some (.stringIter s p)) (q : Nat) : (w.iterAt k s q).ownsRow base e size v n xs := by
  refine ⟨h.1, ?_⟩
  rcases h.2 with hn | ⟨g, cap, cur, rfl, hb, hg, rest⟩
  · exact .inl hn
  · refine .inr ⟨g, cap, cur, rfl, hb, ?_, rest⟩
    rw [Lib.iterAt_other _ _ _ _ _ (fun e1 => by rw [e1, hk] at hg; cases hg)]
    exact hg

def badB (s : ByteArray) (c : Int) (p : Nat) : Bool := c == 65533 && !(Lib.hasPrefix (s.data.toList.drop p) [239, 191, 189])
/-- Is each byte of the signs from place p on part of one? -/
def goodL (s : ByteArray) (l : List (Int × Nat)) : Bool := l.all fun x => !(badB s x.1 x.2)
def r32 (l : List Int) : List Value := l.map (Value.int .i32)
theorem info21 : (Tryd.prog.info? 21).map (fun i => (i.zero, i.size, i.bytes)) = some (some (.int .i32 0), 1, 4) := by kernel_rfl

set_option maxHeartbeats 4000000 in
set_option maxRecDepth 1000000 in
theorem runes_any (s : ByteArray) (w : World) (hs : s.size ≤ 1099511627776) :
    Calls Tryd.prog 22 #[.string s] w fun e w' => ∃ v, e = .returned (.tuple #[v, .bool (goodL s (rest s 0))]) ∧ w'.ownsRow w.heap.size 21 1 v (rn s).length (r32 (rn s)) ∧ Below w.heap.size w w' := by
  obtain ⟨i0, hi, hz0, hz1, hz2⟩ := info_parts info21
  have hrl := rn_length s
  go_enter Tryd.func22, Tryd.ntmps22
  go_wp2_with (at_make; refine wpList_make_own _ rfl _ _ 34 rfl w.heap.size 21 i0 (.int .i32 0) 1 Tryd.underlying34 hi hz0 hz1 .i64 .i64 _ s.size rfl rfl (by omega) (by rw [hz2]; omega) (by unfold maxLen; omega) (Nat.le_refl _) ?_; intro w0 hown0 hgrow0)
  obtain ⟨I, hI⟩ : ∃ I, w0.heap.size = I := ⟨_, rfl⟩
  have hit0 := World.iter_heap w0 s 0
  rw [hI] at hit0 ⊢
  have hB0 : Below w.heap.size w w0 := (Below.refl _ _).grown hgrow0 (Nat.le_refl _) (fun k h => by cases h)
  have hst : (w0.iter s 0).ownsRow w.heap.size 21 1 (.slice (some ⟨w.heap.size, 0, none⟩) 0 s.size) 0 [] := hown0.alloc _
  have hbI : Below w.heap.size w (w0.iter s 0) := hB0.alloc hB0.size _
  have hBI : w.heap.size ≤ I := by rw [← hI]; exact hB0.size
  clear hI hown0 hgrow0 hB0
  go_loopw [4, 5] (fun v u wr => ∃ (pos : Nat) (done : List Int) (g : Bool), u = .bool g ∧ wr.ownsRow w.heap.size 21 1 v done.length (r32 done) ∧ wr.heap[I]? = some (.stringIter s pos) ∧ Below w.heap.size w wr ∧ done ++ (rest s pos).map (·.1) = rn s ∧ (g && goodL s (rest s pos)) = goodL s (rest s 0)) (fun _ _ wr => s.size - wr.iterPos I)
  case atStart => exact ⟨0, [], true, rfl, hst, hit0, hbI, rfl, by simp⟩
  case round =>
    clear hst hit0 hbI
    obtain ⟨pos, done, g, rfl, hown, hit, hbw, hdn, hgd⟩ := hrel
    have hsz : I < wr.heap.size := (Array.getElem?_eq_some_iff.1 hit).1
    have hdl : done.length ≤ s.size := by have := congrArg List.length hdn; simp at this; omega
    by_cases hp : pos < s.size
    · have hnx0 : ∀ ty, (Instr.next (.pointer (some ⟨I, 0, none⟩)) true ty).run Tryd.prog wr = _ := fun ty => Lib.run_next_any_at wr I s pos ty hit hp
      have hwd := wpos s pos hp
      obtain ⟨c, hc⟩ : ∃ c : Int, ((Utf8.decode s pos).1 : Int) = c := ⟨_, rfl⟩
      obtain ⟨q, hq⟩ : ∃ q : Nat, pos + (Utf8.decode s pos).2 = q := ⟨_, rfl⟩
      have hit2 := Lib.iterAt_heap wr I s pos q hit
      have hbw2 := Lib.below_iterAt hbw (k := I) hBI s q
      have hown2 := own_iter hown hit q
      rw [rest_cons s pos hp, hc, hq] at hdn hgd
      have hdn2 : (done ++ [c]) ++ (rest s q).map (·.1) = rn s := by rw [← hdn]; simp
      have hgd2 : (g && (!(badB s c pos) && goodL s (rest s q))) = goodL s (rest s 0) := by rw [← hgd]; simp [goodL]
      have hq1 : pos < q := by omega
      obtain ⟨w2, hw2⟩ : ∃ w2, wr.iterAt I s q = w2 := ⟨_, rfl⟩
      have hnx : ∀ ty, (Instr.next (.pointer (some ⟨I, 0, none⟩)) true ty).run Tryd.prog wr = .ok (.tuple #[.bool true, .int .i64 pos, .int .i32 c]) w2 := by
        intro ty; rw [hnx0 ty, hc, hq, hw2]
      have hsz2 : I < w2.heap.size := by rw [← hw2, Lib.iterAt_size]; exact hsz
      rw [hw2] at hit2 hbw2 hown2
      have HD := Lib.hid hdn2
      have HG := Lib.hid hgd2
      have hws := hbw2.size
      have hpp : pos ≤ s.size := by omega
      clear hnx0 hc hq hwd hw2 hdn hgd hdn2 hgd2
      rcases Bool.eq_false_or_eq_true (c == 65533) with hcb | hcb
      · have hP := fun W => Tryd.strings_HasPrefix (s.extract pos s.size) ⟨#[239, 191, 189]⟩ W
        simp only [Lib.extract_to_end] at hP
        obtain ⟨b, hb⟩ : ∃ b, Lib.hasPrefix (s.data.toList.drop pos) [239, 191, 189] = b := ⟨_, rfl⟩
        have hb2 : badB s c pos = !b := by unfold badB; rw [hcb, hb]; rfl
        have hP2 : ∀ W : World, Calls Tryd.prog 43 #[.string (s.extract pos s.size), .string ⟨#[239, 191, 189]⟩] W fun e w' => e = .returned (.bool b) ∧ W = w' := fun W => (hP W).mono fun e w' ⟨h1, h2⟩ => ⟨by rw [h1]; exact congrArg (fun x => Ending.returned (.bool x)) hb, h2.symm⟩
        have HP := Lib.hid hP2
        have HB := Lib.hid hb2
        clear hP hP2 hb hb2
        cases b with
        | true =>
          go_wp2_with first | (at_builtin; refine wpList_append_own _ rfl (.tmp 17) (.tmp 19) 34 rfl w.heap.size 21 i0 (.int .i32 0) 1 4 Tryd.underlying34 hi hz0 hz1 hz2 rfl (by decide) _ _ _ rfl (hown2.alloc _) ⟨w2.heap.size, 0, none⟩ 1 1 [.int .i32 c] rfl rfl (cell_one_new _ _ _) (by intro u hu; simp at hu; subst hu; rfl) (by unfold maxLen; omega) (by omega) (by simp; omega) ?_; intro v1 w3 hown3 hgrow3 hnil3) | (go_at_call 43; refine (HP.out _).mono ?_; rintro e w' ⟨rfl, rfl⟩)
          have hit3 : w3.heap[I]? = some (.stringIter s q) := by
            rw [hgrow3.block I (by simp; omega) (fun e1 => own_ne_iter hown2 hit2 e1.symm), heap_alloc_old w2 _ hsz2]
            exact hit2
          have hbw3 : Below w.heap.size w w3 := (hbw2.alloc (by omega) _).grown hgrow3 (by simp; omega) (fun j hj => (hown2.lt j hj).1)
          have hown4 : w3.ownsRow w.heap.size 21 1 v1 (done ++ [c]).length (r32 (done ++ [c])) := by
            have e1 : (done ++ [c]).length = done.length + 1 := by simp
            have e2 : r32 (done ++ [c]) = r32 done ++ [.int .i32 c] := by simp [r32]
            rw [e1, e2]; exact hown3
          go_roundw
          case rel => exact ⟨q, done ++ [c], g, rfl, hown4, hit3, hbw3, HD.out, by have h := HG.out; rw [HB.out] at h; simpa using h⟩
          case measure => simp only [World.iterPos, hit3, hit]; omega
        | false =>
          go_wp2_with first | (at_builtin; refine wpList_append_own _ rfl (.tmp 17) (.tmp 19) 34 rfl w.heap.size 21 i0 (.int .i32 0) 1 4 Tryd.underlying34 hi hz0 hz1 hz2 rfl (by decide) _ _ _ rfl (hown2.alloc _) ⟨w2.heap.size, 0, none⟩ 1 1 [.int .i32 c] rfl rfl (cell_one_new _ _ _) (by intro u hu; simp at hu; subst hu; rfl) (by unfold maxLen; omega) (by omega) (by simp; omega) ?_; intro v1 w3 hown3 hgrow3 hnil3) | (go_at_call 43; refine (HP.out _).mono ?_; rintro e w' ⟨rfl, rfl⟩)
          have hit3 : w3.heap[I]? = some (.stringIter s q) := by
            rw [hgrow3.block I (by simp; omega) (fun e1 => own_ne_iter hown2 hit2 e1.symm), heap_alloc_old w2 _ hsz2]
            exact hit2
          have hbw3 : Below w.heap.size w w3 := (hbw2.alloc (by omega) _).grown hgrow3 (by simp; omega) (fun j hj => (hown2.lt j hj).1)
          have hown4 : w3.ownsRow w.heap.size 21 1 v1 (done ++ [c]).length (r32 (done ++ [c])) := by
            have e1 : (done ++ [c]).length = done.length + 1 := by simp
            have e2 : r32 (done ++ [c]) = r32 done ++ [.int .i32 c] := by simp [r32]
            rw [e1, e2]; exact hown3
          go_roundw
          case rel => exact ⟨q, done ++ [c], false, rfl, hown4, hit3, hbw3, HD.out, by have h := HG.out; rw [HB.out] at h; simpa using h⟩
          case measure => simp only [World.iterPos, hit3, hit]; omega
      · have hb2 : badB s c pos = false := by unfold badB; rw [hcb]; rfl
        have HB := Lib.hid hb2
        clear hb2
        go_wp2_with (at_builtin; refine wpList_append_own _ rfl (.tmp 17) (.tmp 19) 34 rfl w.heap.size 21 i0 (.int .i32 0) 1 4 Tryd.underlying34 hi hz0 hz1 hz2 rfl (by decide) _ _ _ rfl (hown2.alloc _) ⟨w2.heap.size, 0, none⟩ 1 1 [.int .i32 c] rfl rfl (cell_one_new _ _ _) (by intro u hu; simp at hu; subst hu; rfl) (by unfold maxLen; omega) (by omega) (by simp; omega) ?_; intro v1 w3 hown3 hgrow3 hnil3)
        have hit3 : w3.heap[I]? = some (.stringIter s q) := by
          rw [hgrow3.block I (by simp; omega) (fun e1 => own_ne_iter hown2 hit2 e1.symm), heap_alloc_old w2 _ hsz2]
          exact hit2
        have hbw3 : Below w.heap.size w w3 := (hbw2.alloc (by omega) _).grown hgrow3 (by simp; omega) (fun j hj => (hown2.lt j hj).1)
        have hown4 : w3.ownsRow w.heap.size 21 1 v1 (done ++ [c]).length (r32 (done ++ [c])) := by
          have e1 : (done ++ [c]).length = done.length + 1 := by simp
          have e2 : r32 (done ++ [c]) = r32 done ++ [.int .i32 c] := by simp [r32]
          rw [e1, e2]; exact hown3
        go_roundw
        case rel => exact ⟨q, done ++ [c], g, rfl, hown4, hit3, hbw3, HD.out, by have h := HG.out; rw [HB.out] at h; simpa using h⟩
        case measure => simp only [World.iterPos, hit3, hit]; omega
    · have hnx : ∀ ty, (Instr.next (.pointer (some ⟨I, 0, none⟩)) true ty).run Tryd.prog wr = _ := fun ty => Lib.run_next_end_at wr I s pos ty hit hp
      rw [rest_nil s pos hp] at hdn hgd
      have hd2 : done = rn s := by simpa using hdn
      have hg2 : g = goodL s (rest s 0) := by simpa [goodL] using hgd
      have HD := Lib.hid hd2
      have HG := Lib.hid hg2
      clear hdn hgd hd2 hg2
      go_wp2
      go_ret2
      have e1 := HG.out
      have e2 := HD.out
      clear HG HD
      subst e1
      subst e2
      exact ⟨_, rfl, hown, hbw⟩
end Go.Proofs.YtilomlohjhhbnaaDoor
