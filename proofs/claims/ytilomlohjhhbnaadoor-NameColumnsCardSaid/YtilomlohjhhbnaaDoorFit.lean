/- What name.Fit answers. Condition: the text has at most 2^40 bytes. -/
import Derived.Test.YtilomlohjhhbnaaDoorCnt
import Derived.Test.YtilomlohjhhbnaaDoorShelf
import Derived.Test.YtilomlohjhhbnaaDoorPln
import Derived.Deep.RegionWith
import Derived.RegionTactic
import Derived.BigRegion
import Derived.IntWalk
set_option linter.unusedVariables false
set_option linter.unusedSimpArgs false
namespace Go.Proofs.YtilomlohjhhbnaaDoor
open Go.Proofs Go.RowKit

def blanks (z : Int) : ByteArray := ⟨(List.replicate z.toNat 32).toArray⟩
theorem repeatL_one (b : UInt8) (c : Nat) : Lib.repeatL [b] c = List.replicate c b := by
  induction c with
  | zero => rfl
  | succ c ih => rw [List.replicate_succ, Lib.repeatL, ih]; rfl
theorem blanks_size (z : Int) : (blanks z).size = z.toNat := by simp [blanks, ByteArray.size]
theorem repeat_any (z : Int) (h0 : 0 ≤ z) (h1 : z ≤ 4096) (w : World) :
    Calls Tryd.prog 39 #[.string ⟨#[32]⟩, .int .i64 z] w fun e w' => e = .returned (.string (blanks z)) ∧ Below w.heap.size w w' := by
  obtain ⟨c, rfl⟩ := Int.eq_ofNat_of_zero_le h0
  refine (Tryd.strings_Repeat ⟨#[32]⟩ c w (by omega) (by show 1 * c ≤ _; omega)).mono ?_
  rintro e w' ⟨rfl, hb⟩
  exact ⟨ret_str (by unfold blanks; congr 2; exact repeatL_one 32 c), hb⟩

/-- How far the signs go that take at most W - 1 columns. -/
def fitGo (W : Int) : List (Int × Nat) → Int → Int × Nat
  | [], n => (n, 0)
  | (c, p) :: l, n => if n + wideV c > W - 1 then (n, p) else fitGo W l (n + wideV c)
def fitS (s : ByteArray) (W : Int) : ByteArray :=
  if W < 0 ∨ W > 4096 then ⟨#[]⟩ else if sumW (rn s) ≤ W then s ++ blanks (W - sumW (rn s)) else if W = 0 then ⟨#[]⟩
  else s.extract 0 (fitGo W (rest s 0) 0).2 ++ ⟨#[46]⟩ ++ blanks (W - 1 - (fitGo W (rest s 0) 0).1)

set_option maxHeartbeats 4000000 in
set_option maxRecDepth 1000000 in
theorem fit_out (s : ByteArray) (W : Int) (w : World) (h : W < 0 ∨ W > 4096) :
    Calls Tryd.prog 16 #[.string s, .int .i64 W] w fun e w' => e = .returned (.string (fitS s W)) ∧ Below w.heap.size w w' := by
  have hf : fitS s W = ⟨#[]⟩ := by unfold fitS; rw [if_pos h]
  have HF := Lib.hid hf
  clear hf
  rcases h with h | h
  · go_enter Tryd.func16, Tryd.ntmps16
    go_wp2
    go_ret
    exact ⟨ret_str (by rw [HF.out]), Below.refl _ _⟩
  · have h2 : ¬ W < 0 := by omega
    go_enter Tryd.func16, Tryd.ntmps16
    go_wp2
    go_ret
    exact ⟨ret_str (by rw [HF.out]), Below.refl _ _⟩

set_option maxHeartbeats 4000000 in
set_option maxRecDepth 1000000 in
theorem fit_fits (s : ByteArray) (W : Int) (w : World) (hs : s.size ≤ 1099511627776) (h0 : 0 ≤ W) (h1 : W ≤ 4096) (h : sumW (rn s) ≤ W) :
    Calls Tryd.prog 16 #[.string s, .int .i64 W] w fun e w' => e = .returned (.string (fitS s W)) ∧ Below w.heap.size w w' := by
  have hf : fitS s W = s ++ blanks (W - sumW (rn s)) := by unfold fitS; rw [if_neg (by omega), if_pos h]
  have HF := Lib.hid hf
  have hr := sumW_range (rn s)
  clear hf
  obtain ⟨n, hn⟩ : ∃ n, sumW (rn s) = n := ⟨_, rfl⟩
  have hw := width_any s w (by omega)
  rw [hn] at HF hr h hw
  clear hn
  have HW := Lib.hid hw
  obtain ⟨hr0, _⟩ := hr
  clear hw
  have hbs : s.size + (blanks (W - n)).size ≤ 9223372036854775807 := by rw [blanks_size]; omega
  go_enter Tryd.func16, Tryd.ntmps16
  go_wp2_with (go_at_call 17; refine HW.out.mono ?_; rintro e w1 ⟨rfl, b1⟩)
  go_wp2_with (go_at_call 39; refine (repeat_any _ (by omega) (by omega) _).mono ?_)
  rintro e w2 ⟨rfl, b2⟩
  go_wp2
  go_ret
  exact ⟨ret_str (by rw [HF.out]), b1.trans (b2.mono b1.size)⟩

set_option maxHeartbeats 4000000 in
set_option maxRecDepth 1000000 in
theorem fit_zero (s : ByteArray) (w : World) (hs : s.size ≤ 1099511627776) (h : ¬ sumW (rn s) ≤ 0) :
    Calls Tryd.prog 16 #[.string s, .int .i64 0] w fun e w' => e = .returned (.string (fitS s 0)) ∧ Below w.heap.size w w' := by
  have hf : fitS s 0 = ⟨#[]⟩ := by unfold fitS; rw [if_neg (by omega), if_neg h, if_pos rfl]
  have HF := Lib.hid hf
  have hr := sumW_range (rn s)
  clear hf
  obtain ⟨n, hn⟩ : ∃ n, sumW (rn s) = n := ⟨_, rfl⟩
  have hw := width_any s w (by omega)
  rw [hn] at h hw hr
  clear hn
  have HW := Lib.hid hw
  clear hw
  go_enter Tryd.func16, Tryd.ntmps16
  go_wp2_with (go_at_call 17; refine HW.out.mono ?_; rintro e w1 ⟨rfl, b1⟩)
  go_ret
  exact ⟨ret_str (by rw [HF.out]), b1⟩
theorem fitGo_range (W : Int) (s : ByteArray) : ∀ (l : List (Int × Nat)) (n : Int), (∀ x ∈ l, x.2 ≤ s.size) → 0 ≤ n → n ≤ W - 1 → 0 ≤ (fitGo W l n).1 ∧ (fitGo W l n).1 ≤ W - 1 ∧ (fitGo W l n).2 ≤ s.size
  | [], n, _, h0, h1 => ⟨h0, h1, Nat.zero_le _⟩
  | (c, p) :: l, n, hl, h0, h1 => by
    have := wideV_range c
    unfold fitGo
    split
    · exact ⟨h0, h1, (hl (c, p) List.mem_cons_self : p ≤ s.size)⟩
    · exact fitGo_range W s l _ (fun x hx => hl x (List.mem_cons_of_mem _ hx)) (by omega) (by omega)
theorem sgF_places (s : ByteArray) : ∀ (f p : Nat), ∀ x ∈ sgF s f p, x.2 < s.size
  | 0, _, x, h => by simp [sgF] at h
  | f + 1, p, x, h => by
    unfold sgF at h
    split at h
    · rcases List.mem_cons.1 h with rfl | h
      · assumption
      · exact sgF_places s f _ x h
    · simp at h
theorem rest_places (s : ByteArray) (p : Nat) : ∀ x ∈ rest s p, x.2 < s.size := sgF_places s _ p

set_option maxHeartbeats 4000000 in
set_option maxRecDepth 1000000 in
theorem fit_cut (s : ByteArray) (W : Int) (w : World) (hs : s.size ≤ 1099511627776) (h0 : 1 ≤ W) (h1 : W ≤ 4096) (h : ¬ sumW (rn s) ≤ W) :
    Calls Tryd.prog 16 #[.string s, .int .i64 W] w fun e w' => e = .returned (.string (fitS s W)) ∧ Below w.heap.size w w' := by
  have hf : fitS s W = s.extract 0 (fitGo W (rest s 0) 0).2 ++ ⟨#[46]⟩ ++ blanks (W - 1 - (fitGo W (rest s 0) 0).1) := by unfold fitS; rw [if_neg (by omega), if_neg h, if_neg (by omega)]
  have HF := Lib.hid hf
  have hr := sumW_range (rn s)
  clear hf
  obtain ⟨n, hn⟩ : ∃ n, sumW (rn s) = n := ⟨_, rfl⟩
  have hw := width_any s w (by omega)
  rw [hn] at hr h hw
  clear hn
  have HW := Lib.hid hw
  obtain ⟨hr0, _⟩ := hr
  clear hw
  have hW0 : (W == 0) = false := beq_eq_false_iff_ne.2 (by omega)
  go_enter Tryd.func16, Tryd.ntmps16
  go_wp2_with (go_at_call 17; refine HW.out.mono ?_; rintro e w1 ⟨rfl, b1⟩)
  have HG := Lib.hid (fitGo_range W s (rest s 0) 0 (fun x hx => Nat.le_of_lt (rest_places s 0 x hx)) (Int.le_refl 0) (by omega))
  obtain ⟨NE, hNE⟩ : ∃ NE, fitGo W (rest s 0) 0 = NE := ⟨_, rfl⟩
  rw [hNE] at HG HF
  obtain ⟨N, E⟩ := NE
  obtain ⟨g0, g1, g2⟩ := HG.out
  simp only [] at g0 g1 g2
  have HN := Lib.hid hNE
  have hex : (s.extract 0 E).size ≤ 1099511627776 := by rw [ByteArray.size_extract]; omega
  have hbk : (blanks (W - 1 - N)).size ≤ 4096 := by rw [blanks_size]; omega
  have hrep : ∀ z, z = W - 1 - N → ∀ w' : World, Calls Tryd.prog 39 #[.string ⟨#[32]⟩, .int .i64 z] w' fun e w2 => e = .returned (.string (blanks (W - 1 - N))) ∧ Below w'.heap.size w' w2 := by
    rintro z rfl w'
    exact repeat_any (W - 1 - N) (by omega) (by omega) w'
  obtain ⟨BL, hBL⟩ : ∃ BL, blanks (W - 1 - N) = BL := ⟨_, rfl⟩
  rw [hBL] at hbk HF
  simp only [hBL] at hrep
  have HREP := Lib.hid hrep
  have HZ := Lib.hid (show IntKind.i64.wrap (IntKind.i64.wrap (W - 1) - N) = W - 1 - N by rw [IntWalk.i64_in (W - 1) (by omega), IntWalk.i64_in _ (by omega)])
  have hbs : (s.extract 0 E).size + 1 + BL.size ≤ 9223372036854775807 := by omega
  clear hBL hrep
  clear hNE HG
  go_loopw [6, 7] (fun u v wr => ∃ (pos : Nat) (k : Int), u = .int .i64 k ∧ v = .int .i64 0 ∧ wr.heap[w1.heap.size]? = some (.stringIter s pos) ∧ Below w.heap.size w wr ∧ 0 ≤ k ∧ k ≤ W - 1 ∧ fitGo W (rest s pos) k = (N, E)) (fun _ _ wr => s.size - wr.iterPos w1.heap.size)
  case atStart => exact ⟨0, 0, rfl, rfl, World.iter_heap w1 s 0, b1.alloc b1.size _, Int.le_refl 0, by omega, HN.out⟩
  case round =>
    obtain ⟨pos, k, rfl, rfl, hit, hbw, hk0, hk1, hgo⟩ := hrel
    have hsz : w1.heap.size < wr.heap.size := (Array.getElem?_eq_some_iff.1 hit).1
    have hbz : w.heap.size ≤ w1.heap.size := b1.size
    by_cases hp : pos < s.size
    · have hnx0 : ∀ ty, (Instr.next (.pointer (some ⟨w1.heap.size, 0, none⟩)) true ty).run Tryd.prog wr = _ := fun ty => Lib.run_next_any_at wr w1.heap.size s pos ty hit hp
      have hwd := wpos s pos hp
      obtain ⟨c, hc⟩ : ∃ c : Int, ((Utf8.decode s pos).1 : Int) = c := ⟨_, rfl⟩
      obtain ⟨q, hq⟩ : ∃ q : Nat, pos + (Utf8.decode s pos).2 = q := ⟨_, rfl⟩
      have hit2 := Lib.iterAt_heap wr w1.heap.size s pos q hit
      have hbw2 := Lib.below_iterAt hbw (k := w1.heap.size) hbz s q
      rw [rest_cons s pos hp, hc, hq] at hgo
      unfold fitGo at hgo
      have hq1 : pos < q := by omega
      obtain ⟨w2, hw2⟩ : ∃ w2, wr.iterAt w1.heap.size s q = w2 := ⟨_, rfl⟩
      have hnx : ∀ ty, (Instr.next (.pointer (some ⟨w1.heap.size, 0, none⟩)) true ty).run Tryd.prog wr = .ok (.tuple #[.bool true, .int .i64 pos, .int .i32 c]) w2 := by
        intro ty; rw [hnx0 ty, hc, hq, hw2]
      rw [hw2] at hit2 hbw2
      have hwc := wideV_range c
      obtain ⟨wc, hwc2⟩ : ∃ wc, wideV c = wc := ⟨_, rfl⟩
      have hwide := wide_any c
      rw [hwc2] at hgo hwc hwide
      have HWI := Lib.hid hwide
      have HGO := Lib.hid hgo
      obtain ⟨hwc0, hwc1⟩ := hwc
      clear hnx0 hc hq hwd hw2 hwc2 hwide hgo
      by_cases hover : W - 1 < k + wc
      · have HX : N = k ∧ E = pos := by
          have h := HGO.out
          rw [if_pos hover] at h
          injection h with h1 h2
          exact ⟨h1.symm, h2.symm⟩
        obtain ⟨hX1, hX2⟩ := HX
        subst hX1; subst hX2
        go_wp2_with first | (go_at_call 40; refine (HWI.out _).mono ?_; rintro e w' ⟨rfl, rfl⟩)
        clear hnx hit hit2 hover hwc0 hwc1 hk0 hk1 hq1 hp hsz hW0 h HW hr0 HGO HWI HN
        go_region_with (go_at_call 39; refine (HREP.out _ (by first | exact HZ.out | omega) _).mono ?_; rintro e w' ⟨rfl, b2⟩)
        all_goals (go_wp2; go_ret; exact ⟨ret_str (by rw [HF.out]), (hbw2.drew).trans (b2.mono hbw2.size)⟩)
      · have hle : k + wc ≤ W - 1 := by omega
        have HX := Lib.hid (show fitGo W (rest s q) (k + wc) = (N, E) by have h := HGO.out; rw [if_neg hover] at h; exact h)
        go_wp2_with first | (go_at_call 40; refine (HWI.out _).mono ?_; rintro e w' ⟨rfl, rfl⟩)
        go_roundw
        case rel => exact ⟨q, k + wc, rfl, rfl, hit2, hbw2, by omega, hle, HX.out⟩
        case measure => simp only [World.iterPos, hit2, hit]; omega
    · have hnx : ∀ ty, (Instr.next (.pointer (some ⟨w1.heap.size, 0, none⟩)) true ty).run Tryd.prog wr = _ := fun ty => Lib.run_next_end_at wr w1.heap.size s pos ty hit hp
      have HX : N = k ∧ E = 0 := by
        rw [rest_nil s pos hp] at hgo
        injection hgo with h1 h2
        exact ⟨h1.symm, h2.symm⟩
      obtain ⟨hX1, hX2⟩ := HX
      subst hX1; subst hX2
      clear hgo
      go_wp2_with (fail)
      clear hnx hit hk0 hk1 hp hsz hW0 h HW hr0 HN
      go_region_with (go_at_call 39; refine (HREP.out _ (by first | exact HZ.out | omega) _).mono ?_; rintro e w' ⟨rfl, b2⟩)
      all_goals (go_wp2; go_ret; exact ⟨ret_str (by rw [HF.out]; simp), (hbw.drew).trans (b2.mono hbw.size)⟩)

theorem fit_any (s : ByteArray) (W : Int) (w : World) (hs : s.size ≤ 1099511627776) :
    Calls Tryd.prog 16 #[.string s, .int .i64 W] w fun e w' => e = .returned (.string (fitS s W)) ∧ Below w.heap.size w w' := by
  by_cases ho : W < 0 ∨ W > 4096
  · exact fit_out s W w ho
  by_cases hf : sumW (rn s) ≤ W
  · exact fit_fits s W w hs (by omega) (by omega) hf
  by_cases h0 : W = 0
  · subst h0; exact fit_zero s w hs hf
  · exact fit_cut s W w hs (by omega) (by omega) hf
end Go.Proofs.YtilomlohjhhbnaaDoor
