/- What encoder.links writes. Conditions: at most 1000000 items, at most 10^8 bytes in all. Written by genenc.py. What encoder.baskets writes. Conditions: at most 1000000 items, at most 10^8 bytes in all. Written by genenc.py. What encoder.trades writes. Conditions: at most 1000000 items, at most 10^8 bytes in all. Written by genenc.py. What encoder.covers writes. Conditions: at most 1000000 items, at most 10^8 bytes in all. Written by genenc.py. -/
import Derived.Test.YtlkfbdeddfhocaaMa
set_option linter.unusedVariables false
set_option linter.unusedSimpArgs false
namespace Go.Proofs.Ytlkfbdeddfhocaa
open Go.Proofs Go.RowKit Go.Proofs.YtlkfbdeddfhocaaW.PrintWords Go.Proofs.YtlkfbdeddfhocaaW.PrintLast Go.Proofs.YtlkfbdeddfhocaaW.PrintMore Q

def enc_links (x : S80) : List UInt8 := [x.f0, x.f1].flatMap encI ++ encT (x.f2).data.toList ++ encI x.f3
def ok_links (x : S80) : Prop := isI64 x.f0 ∧ isI64 x.f1 ∧ (x.f2).data.toList.length ≤ 160 ∧ isI64 x.f3
set_option maxHeartbeats 8000000 in
set_option maxRecDepth 1000000 in
theorem elinks (xs : List S80) (hok : ∀ x ∈ xs, ok_links x) (hm : xs.length ≤ 1000000) (A : Option Addr) (c : Nat) (g : Nat) (bs : List UInt8) (hl : bs.length + (encL enc_links xs).length ≤ 100000000) (w0 w : World) (hI : IsW w0 w g 86 bs) (hB : Below w0.heap.size w0 w) (hR : Kd.C k80 w0 A xs.length xs) :
    Calls Try.prog 21 #[.pointer (some ⟨g, 0, none⟩), .slice A xs.length c] w fun en w' => en = .returned (.tuple #[]) ∧ IsW w0 w' g 86 (bs ++ encL enc_links xs) ∧ Below w0.heap.size w0 w' ∧ KeepT w w' g := by
  have HR := Lib.hid hR
  have hl2 : bs.length + (encU xs.length).length + (xs.flatMap enc_links).length ≤ 100000000 := by unfold encL at hl; rw [List.length_append] at hl; omega
  have HL := Lib.hid hl2
  have HOK := Lib.hid hok
  have HC := Lib.hid (wcount xs.length (by omega) g 86 (by decide) bs (by omega) w0 w hI hB)
  clear hI hB hR hl hl2 hok
  go_enter Try.func21, Try.ntmps21
  go_wp2_with (go_at_call 40; refine (HC.out).mono ?_; rintro en w1 ⟨rfl, h1, h2, h3⟩; have HI := Lib.hid h1; have HB := Lib.hid h2; have HK := Lib.hid h3; clear h1 h2 h3)
  go_loopw [5, 12] (fun m i wr => ∃ (k : Nat), i = .int .i64 k ∧ k ≤ xs.length ∧ Hid (IsW w0 wr g 86 (bs ++ encU xs.length ++ (xs.take k).flatMap enc_links)) ∧ Hid (Below w0.heap.size w0 wr) ∧ Hid (KeepT w wr g)) (fun _ i _ => xs.length - (intOf i).toNat)
  case atStart => exact ⟨0, rfl, Nat.zero_le _, Lib.hid (by simpa using HI.out), HB, HK⟩
  case round =>
    clear HI HB HC HK
    obtain ⟨k, rfl, hk, HI, HB, HK⟩ := hrel
    by_cases hlt : k < xs.length
    · obtain ⟨x, hx⟩ : ∃ x, xs[k]? = some x := ⟨_, List.getElem?_eq_getElem hlt⟩
      have hox_x := HOK.out x (List.mem_of_getElem? hx)
      have hpart_x := part_le enc_links xs k x hx
      have HLx : Hid ((bs ++ encU xs.length ++ (xs.take k).flatMap enc_links).length + (enc_links x).length ≤ 100000000) := Lib.hid (by have := HL.out; rw [List.length_append, List.length_append]; omega)
      obtain ⟨ad, rfl, hd0, hd1, hd2, hd3⟩ := at_T80 HR.out k (by omega) (by omega)
      have hrd_x : rd_T80 xs (k : Int) = x := by unfold rd_T80; rw [Int.toNat_natCast, List.getD_eq_getElem?_getD, hx]; rfl
      rw [hrd_x, Int.toNat_natCast] at hd0 hd1 hd2 hd3
      replace hd0 := cell_old HB.out hd0
      replace hd1 := cell_old HB.out hd1
      replace hd2 := cell_old HB.out hd2
      replace hd3 := cell_old HB.out hd3
      have HNx := Lib.hid hx
      have HOx := Lib.hid hox_x
      clear hx hrd_x hpart_x hox_x
      generalize hB : bs ++ encU xs.length ++ (xs.take k).flatMap enc_links = B at HI HLx
      have HBS := Lib.hid hB
      clear hB
      replace HLx : Hid (B.length + ([x.f0, x.f1].flatMap encI ++ encT (x.f2).data.toList ++ encI x.f3).length ≤ 100000000) := HLx
      obtain ⟨ox0, ox1, ox2, ox3⟩ := HOx.out
      have Ox0 := Lib.hid ox0
      clear ox0
      have Ox1 := Lib.hid ox1
      clear ox1
      have Ox2 := Lib.hid ox2
      clear ox2
      have Ox3 := Lib.hid ox3
      clear ox3
      have hgw := HI.out.lt
      replace HI := Lib.hid (IsW.alloc HI.out (Obj.cells #[.int .i64 x.f0, .int .i64 x.f1, .string x.f2, .int .i64 x.f3] 80))
      have HX := Lib.hid (blk_new wr (Obj.cells #[.int .i64 x.f0, .int .i64 x.f1, .string x.f2, .int .i64 x.f3] 80))
      replace HB := Lib.hid (below_alloc HB.out (Obj.cells #[.int .i64 x.f0, .int .i64 x.f1, .string x.f2, .int .i64 x.f3] 80))
      replace HK := Lib.hid (KeepT.alloc HK.out (Obj.cells #[.int .i64 x.f0, .int .i64 x.f1, .string x.f2, .int .i64 x.f3] 80))
      have hbg : wr.heap.size ≠ g := by omega
      clear hgw
      have hc_HX_0 := blk_cell HX.out 0
      have hc_HX_1 := blk_cell HX.out 1
      go_wp2_with (go_at_call 12; refine (wints_call [x.f0, x.f1] 2 rfl (by intro z hz; simp only [List.mem_cons, List.not_mem_nil, or_false] at hz; rcases hz with rfl | rfl; all_goals first | exact Ox0.out | exact Ox1.out) (by simp) _ _ g 86 (by decide) (B) (by have := HLx.out; (try simp only [List.length_append] at this ⊢); omega) w0 _ (IsW.alloc HI.out _) (below_alloc HB.out _) (reads_blk (blk_newb _ _ _ (by simp)) rfl (by have := HI.out.lt; (try simp at this); omega) (by simp))).mono ?_; rintro en w1 ⟨rfl, h1, h2, h3⟩; replace HX := Lib.hid (h3.blk (blk_alloc HX.out _) (by decide) hbg); replace HK := Lib.hid ((HK.out.alloc _).trans h3); replace HI := Lib.hid h1; replace HB := Lib.hid h2; clear h1 h2 h3 hc_HX_0 hc_HX_1)
      refine start_ (ds := ([] : List Nat)) (n := 6) (S := fun w' => w'.cell? ⟨wr.heap.size, 2, none⟩ = some (.string x.f2)) #[false, false, false, false, false, false] (by kernel_rfl) (by rfl) (by rfl) (blk_cell (blk_drew HX.out) 2) (fun hHeld => ?_)
      replace HI := Lib.hid (IsW.drew HI.out)
      replace HB := Lib.hid (below_drew1 HB.out)
      replace HK := Lib.hid (KeepT.drew HK.out)
      replace HX := Lib.hid (blk_drew HX.out)
      generalize w1.drew = W5 at HI HB HK HX hHeld ⊢
      refine pure_ (i := 0) (N := some 23) (v := ?_) (a' := ?_) #[true, false, false, false, false, false] rfl rfl (by kernel_rfl) (fun _ _ _ h => h) (Or.inl ⟨by rfl, ?_⟩) ?_ ?_
      rotate_left
      · intro w'
        go_simp
        with_reducible rfl
      rotate_left
      · simp only [Act.put, List.setIfInBounds_toArray, List.set_cons_zero, List.set_cons_succ, i64_w, i32_w]
        rfl
      refine pure_ (i := 1) (N := some 24) (v := ?_) (a' := ?_) #[true, true, false, false, false, false] rfl rfl (by kernel_rfl) (fun _ _ _ h => h) (Or.inl ⟨by rfl, ?_⟩) ?_ ?_
      rotate_left
      · intro w'
        go_simp
        with_reducible rfl
      rotate_left
      · simp only [Act.put, List.setIfInBounds_toArray, List.set_cons_zero, List.set_cons_succ, i64_w, i32_w]
        rfl
      refine pure_ (i := 2) (N := some 25) (v := ?_) (a' := ?_) #[true, true, true, false, false, false] rfl rfl (by kernel_rfl) (fun _ _ _ h => h) (Or.inl ⟨by rfl, ?_⟩) ?_ ?_
      rotate_left
      · intro w'
        go_simp
        with_reducible rfl
      rotate_left
      · simp only [Act.put, List.setIfInBounds_toArray, List.set_cons_zero, List.set_cons_succ, i64_w, i32_w]
        rfl
      refine pure_ (i := 3) (N := some 26) (v := ?_) (a' := ?_) #[true, true, true, true, false, false] rfl rfl (by kernel_rfl) (fun _ _ _ h => h) (Or.inl ⟨by rfl, ?_⟩) ?_ ?_
      rotate_left
      · intro w'
        go_simp
        with_reducible rfl
      rotate_left
      · simp only [Act.put, List.setIfInBounds_toArray, List.set_cons_zero, List.set_cons_succ, i64_w, i32_w]
        rfl
      refine take_ (i := 4) (N := some 27) (v := ?_) (a' := ?_) #[true, true, true, true, true, false] rfl rfl (by kernel_rfl) (fun _ _ _ h => h) (Or.inl ⟨by rfl, ?_⟩) hHeld ?_ ?_
      rotate_left
      · rintro w' s0
        go_simp
        with_reducible rfl
      rotate_left
      · simp only [Act.put, List.setIfInBounds_toArray, List.set_cons_zero, List.set_cons_succ, i64_w, i32_w]
        rfl
      refine one_ (i := 5) (N := some 28) #[true, true, true, true, true, true] rfl rfl (by kernel_rfl) (by decide) (fun K hK => ?_)
      refine goes_ Try.func41 (by kernel_rfl) rfl #[.pointer (some ⟨g, 0, none⟩), .string x.f2] (by rfl) rfl rfl (by first | rfl | (simp only [List.map_toArray, List.map_cons, List.map_nil]; rfl)) ?_
      refine (wtext x.f2 (by have := Ox2.out; rw [data_length] at this; omega) g 86 (by decide) (B ++ [x.f0, x.f1].flatMap encI) (by have := HLx.out; (try simp only [List.length_append] at this ⊢); omega) w0 _ HI.out HB.out).mono ?_
      rintro en w' ⟨rfl, hi, hb, hk⟩
      refine ⟨_, rfl, ?_⟩
      replace HX := Lib.hid (hk.blk HX.out (by decide) hbg)
      replace HK := Lib.hid (HK.out.trans hk)
      replace HI := Lib.hid hi
      replace HB := Lib.hid hb
      clear hi hb hk
      refine hK.out _ _ (blk_cell HX.out 2) (fun hHeld => ?_)
      clear hK K
      refine norm_ (a' := ?_) ?_ ?_
      rotate_left
      · show Act.put _ (some 28) _ = _
        simp only [Act.put, List.setIfInBounds_toArray, List.set_cons_zero, List.set_cons_succ, i64_w, i32_w]
        rfl
      refine done_ (by kernel_rfl) ?_
      go_wp2
      refine start_ (ds := ([] : List Nat)) (n := 6) (S := fun w' => w'.cell? ⟨wr.heap.size, 3, none⟩ = some (.int .i64 x.f3)) #[false, false, false, false, false, false] (by kernel_rfl) (by rfl) (by rfl) (blk_cell (blk_drew HX.out) 3) (fun hHeld => ?_)
      replace HI := Lib.hid (IsW.drew HI.out)
      replace HB := Lib.hid (below_drew1 HB.out)
      replace HK := Lib.hid (KeepT.drew HK.out)
      replace HX := Lib.hid (blk_drew HX.out)
      generalize w'.drew = W6 at HI HB HK HX hHeld ⊢
      refine pure_ (i := 0) (N := some 29) (v := ?_) (a' := ?_) #[true, false, false, false, false, false] rfl rfl (by kernel_rfl) (fun _ _ _ h => h) (Or.inl ⟨by rfl, ?_⟩) ?_ ?_
      rotate_left
      · intro w'
        go_simp
        with_reducible rfl
      rotate_left
      · simp only [Act.put, List.setIfInBounds_toArray, List.set_cons_zero, List.set_cons_succ, i64_w, i32_w]
        rfl
      refine pure_ (i := 1) (N := some 30) (v := ?_) (a' := ?_) #[true, true, false, false, false, false] rfl rfl (by kernel_rfl) (fun _ _ _ h => h) (Or.inl ⟨by rfl, ?_⟩) ?_ ?_
      rotate_left
      · intro w'
        go_simp
        with_reducible rfl
      rotate_left
      · simp only [Act.put, List.setIfInBounds_toArray, List.set_cons_zero, List.set_cons_succ, i64_w, i32_w]
        rfl
      refine pure_ (i := 2) (N := some 31) (v := ?_) (a' := ?_) #[true, true, true, false, false, false] rfl rfl (by kernel_rfl) (fun _ _ _ h => h) (Or.inl ⟨by rfl, ?_⟩) ?_ ?_
      rotate_left
      · intro w'
        go_simp
        with_reducible rfl
      rotate_left
      · simp only [Act.put, List.setIfInBounds_toArray, List.set_cons_zero, List.set_cons_succ, i64_w, i32_w]
        rfl
      refine pure_ (i := 3) (N := some 32) (v := ?_) (a' := ?_) #[true, true, true, true, false, false] rfl rfl (by kernel_rfl) (fun _ _ _ h => h) (Or.inl ⟨by rfl, ?_⟩) ?_ ?_
      rotate_left
      · intro w'
        go_simp
        with_reducible rfl
      rotate_left
      · simp only [Act.put, List.setIfInBounds_toArray, List.set_cons_zero, List.set_cons_succ, i64_w, i32_w]
        rfl
      refine take_ (i := 4) (N := some 33) (v := ?_) (a' := ?_) #[true, true, true, true, true, false] rfl rfl (by kernel_rfl) (fun _ _ _ h => h) (Or.inl ⟨by rfl, ?_⟩) hHeld ?_ ?_
      rotate_left
      · rintro w' s0
        go_simp
        with_reducible rfl
      rotate_left
      · simp only [Act.put, List.setIfInBounds_toArray, List.set_cons_zero, List.set_cons_succ, i64_w, i32_w]
        rfl
      refine one_ (i := 5) (N := some 34) #[true, true, true, true, true, true] rfl rfl (by kernel_rfl) (by decide) (fun K hK => ?_)
      refine goes_ Try.func39 (by kernel_rfl) rfl #[.pointer (some ⟨g, 0, none⟩), .int .i64 x.f3] (by rfl) rfl rfl (by first | rfl | (simp only [List.map_toArray, List.map_cons, List.map_nil]; rfl)) ?_
      refine (wint x.f3 Ox3.out g 86 (by decide) (B ++ [x.f0, x.f1].flatMap encI ++ encT (x.f2).data.toList) (by have := HLx.out; (try simp only [List.length_append] at this ⊢); omega) w0 _ HI.out HB.out).mono ?_
      rintro en w' ⟨rfl, hi, hb, hk⟩
      refine ⟨_, rfl, ?_⟩
      replace HX := Lib.hid (hk.blk HX.out (by decide) hbg)
      replace HK := Lib.hid (HK.out.trans hk)
      replace HI := Lib.hid hi
      replace HB := Lib.hid hb
      clear hi hb hk
      refine hK.out _ _ (blk_cell HX.out 3) (fun hHeld => ?_)
      clear hK K
      refine norm_ (a' := ?_) ?_ ?_
      rotate_left
      · show Act.put _ (some 34) _ = _
        simp only [Act.put, List.setIfInBounds_toArray, List.set_cons_zero, List.set_cons_succ, i64_w, i32_w]
        rfl
      refine done_ (by kernel_rfl) ?_
      go_wp2
      go_roundw
      case rel => exact ⟨k + 1, by go_num, by omega, Lib.hid (by have h1 := HI.out; rw [flat_take_succ _ _ _ _ HNx.out, ← List.append_assoc, HBS.out]; unfold enc_links; simp only [List.append_assoc] at h1 ⊢; exact h1), HB, HK⟩
      case measure => simp [intOf]; omega
    · have hkn : k = xs.length := by omega
      subst hkn
      go_wp2
      first | go_end0 | ((try simp only [Exit.inBlock, Exit.then]); refine bodyPost_ret (results_none rfl _ _ _) rfl ?_)
      have h1 := HI.out
      rw [List.take_length, List.append_assoc] at h1
      exact ⟨rfl, h1, HB.out, HK.out⟩
end Go.Proofs.Ytlkfbdeddfhocaa

set_option linter.unusedVariables false
set_option linter.unusedSimpArgs false
namespace Go.Proofs.Ytlkfbdeddfhocaa
open Go.Proofs Go.RowKit Go.Proofs.YtlkfbdeddfhocaaW.PrintWords Go.Proofs.YtlkfbdeddfhocaaW.PrintLast Go.Proofs.YtlkfbdeddfhocaaW.PrintMore Q

def enc_cut (x : S124) : List UInt8 := [x.f0, x.f1, x.f2].flatMap encI
def ok_cut (x : S124) : Prop := isI64 x.f0 ∧ isI64 x.f1 ∧ isI64 x.f2
def enc_baskets (x : S63) : List UInt8 := [x.f0, x.f1, x.f3, x.f4, x.f5, x.f7, x.f8].flatMap encI ++ encT (x.f2).data.toList ++ (encU x.f6.length ++ x.f6.flatMap enc_cut) ++ (encU x.f9.length ++ x.f9.flatMap encI)
def ok_baskets (x : S63) : Prop := isI64 x.f0 ∧ isI64 x.f1 ∧ (x.f2).data.toList.length ≤ 160 ∧ isI64 x.f3 ∧ isI64 x.f4 ∧ isI64 x.f5 ∧ x.f6.length ≤ 4096 ∧ (∀ y ∈ x.f6, ok_cut y) ∧ isI64 x.f7 ∧ isI64 x.f8 ∧ x.f9.length ≤ 4096 ∧ (∀ y ∈ x.f9, isI64 y)
set_option maxHeartbeats 8000000 in
set_option maxRecDepth 1000000 in
theorem ebaskets (xs : List S63) (hok : ∀ x ∈ xs, ok_baskets x) (hm : xs.length ≤ 1000000) (A : Option Addr) (c : Nat) (g : Nat) (bs : List UInt8) (hl : bs.length + (encL enc_baskets xs).length ≤ 100000000) (w0 w : World) (hI : IsW w0 w g 86 bs) (hB : Below w0.heap.size w0 w) (hR : Kd.C k63 w0 A xs.length xs) :
    Calls Try.prog 16 #[.pointer (some ⟨g, 0, none⟩), .slice A xs.length c] w fun en w' => en = .returned (.tuple #[]) ∧ IsW w0 w' g 86 (bs ++ encL enc_baskets xs) ∧ Below w0.heap.size w0 w' ∧ KeepT w w' g := by
  have HR := Lib.hid hR
  have hl2 : bs.length + (encU xs.length).length + (xs.flatMap enc_baskets).length ≤ 100000000 := by unfold encL at hl; rw [List.length_append] at hl; omega
  have HL := Lib.hid hl2
  have HOK := Lib.hid hok
  have HC := Lib.hid (wcount xs.length (by omega) g 86 (by decide) bs (by omega) w0 w hI hB)
  clear hI hB hR hl hl2 hok
  go_enter Try.func16, Try.ntmps16
  go_wp2_with (go_at_call 40; refine (HC.out).mono ?_; rintro en w1 ⟨rfl, h1, h2, h3⟩; have HI := Lib.hid h1; have HB := Lib.hid h2; have HK := Lib.hid h3; clear h1 h2 h3)
  go_loopw [5, 14] (fun m i wr => ∃ (k : Nat), i = .int .i64 k ∧ k ≤ xs.length ∧ Hid (IsW w0 wr g 86 (bs ++ encU xs.length ++ (xs.take k).flatMap enc_baskets)) ∧ Hid (Below w0.heap.size w0 wr) ∧ Hid (KeepT w wr g)) (fun _ i _ => xs.length - (intOf i).toNat)
  case atStart => exact ⟨0, rfl, Nat.zero_le _, Lib.hid (by simpa using HI.out), HB, HK⟩
  case round =>
    clear HI HB HC HK
    obtain ⟨k, rfl, hk, HI, HB, HK⟩ := hrel
    by_cases hlt : k < xs.length
    · obtain ⟨x, hx⟩ : ∃ x, xs[k]? = some x := ⟨_, List.getElem?_eq_getElem hlt⟩
      have hox_x := HOK.out x (List.mem_of_getElem? hx)
      have hpart_x := part_le enc_baskets xs k x hx
      have HLx : Hid ((bs ++ encU xs.length ++ (xs.take k).flatMap enc_baskets).length + (enc_baskets x).length ≤ 100000000) := Lib.hid (by have := HL.out; rw [List.length_append, List.length_append]; omega)
      obtain ⟨ad, A6, c6, A9, c9, rfl, hd0, hd1, hd2, hd3, hd4, hd5, hd6, hd7, hd8, hd9, _, hr6, _, hr9⟩ := at_T63 HR.out k (by omega) (by omega)
      have hrd_x : rd_T63 xs (k : Int) = x := by unfold rd_T63; rw [Int.toNat_natCast, List.getD_eq_getElem?_getD, hx]; rfl
      rw [hrd_x, Int.toNat_natCast] at hd0 hd1 hd2 hd3 hd4 hd5 hd6 hd7 hd8 hd9
      replace hd0 := cell_old HB.out hd0
      replace hd1 := cell_old HB.out hd1
      replace hd2 := cell_old HB.out hd2
      replace hd3 := cell_old HB.out hd3
      replace hd4 := cell_old HB.out hd4
      replace hd5 := cell_old HB.out hd5
      replace hd6 := cell_old HB.out hd6
      replace hd7 := cell_old HB.out hd7
      replace hd8 := cell_old HB.out hd8
      replace hd9 := cell_old HB.out hd9
      rw [hrd_x] at hr6
      have HR6 := Lib.hid hr6
      clear hr6
      rw [hrd_x] at hr9
      have HR9 := Lib.hid hr9
      clear hr9
      have HNx := Lib.hid hx
      have HOx := Lib.hid hox_x
      clear hx hrd_x hpart_x hox_x
      generalize hB : bs ++ encU xs.length ++ (xs.take k).flatMap enc_baskets = B at HI HLx
      have HBS := Lib.hid hB
      clear hB
      replace HLx : Hid (B.length + ([x.f0, x.f1, x.f3, x.f4, x.f5, x.f7, x.f8].flatMap encI ++ encT (x.f2).data.toList ++ (encU x.f6.length ++ x.f6.flatMap enc_cut) ++ (encU x.f9.length ++ x.f9.flatMap encI)).length ≤ 100000000) := HLx
      obtain ⟨ox0, ox1, ox2, ox3, ox4, ox5, ox6, ox6a, ox7, ox8, ox9, ox9a⟩ := HOx.out
      have Ox0 := Lib.hid ox0
      clear ox0
      have Ox1 := Lib.hid ox1
      clear ox1
      have Ox2 := Lib.hid ox2
      clear ox2
      have Ox3 := Lib.hid ox3
      clear ox3
      have Ox4 := Lib.hid ox4
      clear ox4
      have Ox5 := Lib.hid ox5
      clear ox5
      have Ox6 := Lib.hid ox6
      clear ox6
      have Ox6a := Lib.hid ox6a
      clear ox6a
      have Ox7 := Lib.hid ox7
      clear ox7
      have Ox8 := Lib.hid ox8
      clear ox8
      have Ox9 := Lib.hid ox9
      clear ox9
      have Ox9a := Lib.hid ox9a
      clear ox9a
      have hgw := HI.out.lt
      replace HI := Lib.hid (IsW.alloc HI.out (Obj.cells #[.int .i64 x.f0, .int .i64 x.f1, .string x.f2, .int .i64 x.f3, .int .i64 x.f4, .int .i64 x.f5, .slice A6 x.f6.length c6, .int .i64 x.f7, .int .i64 x.f8, .slice A9 x.f9.length c9] 63))
      have HX := Lib.hid (blk_new wr (Obj.cells #[.int .i64 x.f0, .int .i64 x.f1, .string x.f2, .int .i64 x.f3, .int .i64 x.f4, .int .i64 x.f5, .slice A6 x.f6.length c6, .int .i64 x.f7, .int .i64 x.f8, .slice A9 x.f9.length c9] 63))
      replace HB := Lib.hid (below_alloc HB.out (Obj.cells #[.int .i64 x.f0, .int .i64 x.f1, .string x.f2, .int .i64 x.f3, .int .i64 x.f4, .int .i64 x.f5, .slice A6 x.f6.length c6, .int .i64 x.f7, .int .i64 x.f8, .slice A9 x.f9.length c9] 63))
      replace HK := Lib.hid (KeepT.alloc HK.out (Obj.cells #[.int .i64 x.f0, .int .i64 x.f1, .string x.f2, .int .i64 x.f3, .int .i64 x.f4, .int .i64 x.f5, .slice A6 x.f6.length c6, .int .i64 x.f7, .int .i64 x.f8, .slice A9 x.f9.length c9] 63))
      have hbg : wr.heap.size ≠ g := by omega
      clear hgw
      have hc_HX_0 := blk_cell HX.out 0
      have hc_HX_1 := blk_cell HX.out 1
      have hc_HX_3 := blk_cell HX.out 3
      have hc_HX_4 := blk_cell HX.out 4
      have hc_HX_5 := blk_cell HX.out 5
      have hc_HX_7 := blk_cell HX.out 7
      have hc_HX_8 := blk_cell HX.out 8
      go_wp2_with (go_at_call 12; refine (wints_call [x.f0, x.f1, x.f3, x.f4, x.f5, x.f7, x.f8] 7 rfl (by intro z hz; simp only [List.mem_cons, List.not_mem_nil, or_false] at hz; rcases hz with rfl | rfl | rfl | rfl | rfl | rfl | rfl; all_goals first | exact Ox0.out | exact Ox1.out | exact Ox3.out | exact Ox4.out | exact Ox5.out | exact Ox7.out | exact Ox8.out) (by simp) _ _ g 86 (by decide) (B) (by have := HLx.out; (try simp only [List.length_append] at this ⊢); omega) w0 _ (IsW.alloc HI.out _) (below_alloc HB.out _) (reads_blk (blk_newb _ _ _ (by simp)) rfl (by have := HI.out.lt; (try simp at this); omega) (by simp))).mono ?_; rintro en w1 ⟨rfl, h1, h2, h3⟩; replace HX := Lib.hid (h3.blk (blk_alloc HX.out _) (by decide) hbg); replace HK := Lib.hid ((HK.out.alloc _).trans h3); replace HI := Lib.hid h1; replace HB := Lib.hid h2; clear h1 h2 h3 hc_HX_0 hc_HX_1 hc_HX_3 hc_HX_4 hc_HX_5 hc_HX_7 hc_HX_8)
      refine start_ (ds := ([] : List Nat)) (n := 6) (S := fun w' => w'.cell? ⟨wr.heap.size, 2, none⟩ = some (.string x.f2)) #[false, false, false, false, false, false] (by kernel_rfl) (by rfl) (by rfl) (blk_cell (blk_drew HX.out) 2) (fun hHeld => ?_)
      replace HI := Lib.hid (IsW.drew HI.out)
      replace HB := Lib.hid (below_drew1 HB.out)
      replace HK := Lib.hid (KeepT.drew HK.out)
      replace HX := Lib.hid (blk_drew HX.out)
      generalize w1.drew = W5 at HI HB HK HX hHeld ⊢
      refine pure_ (i := 0) (N := some 35) (v := ?_) (a' := ?_) #[true, false, false, false, false, false] rfl rfl (by kernel_rfl) (fun _ _ _ h => h) (Or.inl ⟨by rfl, ?_⟩) ?_ ?_
      rotate_left
      · intro w'
        go_simp
        with_reducible rfl
      rotate_left
      · simp only [Act.put, List.setIfInBounds_toArray, List.set_cons_zero, List.set_cons_succ, i64_w, i32_w]
        rfl
      refine pure_ (i := 1) (N := some 36) (v := ?_) (a' := ?_) #[true, true, false, false, false, false] rfl rfl (by kernel_rfl) (fun _ _ _ h => h) (Or.inl ⟨by rfl, ?_⟩) ?_ ?_
      rotate_left
      · intro w'
        go_simp
        with_reducible rfl
      rotate_left
      · simp only [Act.put, List.setIfInBounds_toArray, List.set_cons_zero, List.set_cons_succ, i64_w, i32_w]
        rfl
      refine pure_ (i := 2) (N := some 37) (v := ?_) (a' := ?_) #[true, true, true, false, false, false] rfl rfl (by kernel_rfl) (fun _ _ _ h => h) (Or.inl ⟨by rfl, ?_⟩) ?_ ?_
      rotate_left
      · intro w'
        go_simp
        with_reducible rfl
      rotate_left
      · simp only [Act.put, List.setIfInBounds_toArray, List.set_cons_zero, List.set_cons_succ, i64_w, i32_w]
        rfl
      refine pure_ (i := 3) (N := some 38) (v := ?_) (a' := ?_) #[true, true, true, true, false, false] rfl rfl (by kernel_rfl) (fun _ _ _ h => h) (Or.inl ⟨by rfl, ?_⟩) ?_ ?_
      rotate_left
      · intro w'
        go_simp
        with_reducible rfl
      rotate_left
      · simp only [Act.put, List.setIfInBounds_toArray, List.set_cons_zero, List.set_cons_succ, i64_w, i32_w]
        rfl
      refine take_ (i := 4) (N := some 39) (v := ?_) (a' := ?_) #[true, true, true, true, true, false] rfl rfl (by kernel_rfl) (fun _ _ _ h => h) (Or.inl ⟨by rfl, ?_⟩) hHeld ?_ ?_
      rotate_left
      · rintro w' s0
        go_simp
        with_reducible rfl
      rotate_left
      · simp only [Act.put, List.setIfInBounds_toArray, List.set_cons_zero, List.set_cons_succ, i64_w, i32_w]
        rfl
      refine one_ (i := 5) (N := some 40) #[true, true, true, true, true, true] rfl rfl (by kernel_rfl) (by decide) (fun K hK => ?_)
      refine goes_ Try.func41 (by kernel_rfl) rfl #[.pointer (some ⟨g, 0, none⟩), .string x.f2] (by rfl) rfl rfl (by first | rfl | (simp only [List.map_toArray, List.map_cons, List.map_nil]; rfl)) ?_
      refine (wtext x.f2 (by have := Ox2.out; rw [data_length] at this; omega) g 86 (by decide) (B ++ [x.f0, x.f1, x.f3, x.f4, x.f5, x.f7, x.f8].flatMap encI) (by have := HLx.out; (try simp only [List.length_append] at this ⊢); omega) w0 _ HI.out HB.out).mono ?_
      rintro en w' ⟨rfl, hi, hb, hk⟩
      refine ⟨_, rfl, ?_⟩
      replace HX := Lib.hid (hk.blk HX.out (by decide) hbg)
      replace HK := Lib.hid (HK.out.trans hk)
      replace HI := Lib.hid hi
      replace HB := Lib.hid hb
      clear hi hb hk
      refine hK.out _ _ (blk_cell HX.out 2) (fun hHeld => ?_)
      clear hK K
      refine norm_ (a' := ?_) ?_ ?_
      rotate_left
      · show Act.put _ (some 40) _ = _
        simp only [Act.put, List.setIfInBounds_toArray, List.set_cons_zero, List.set_cons_succ, i64_w, i32_w]
        rfl
      refine done_ (by kernel_rfl) ?_
      have hc_HX_6 := blk_cell HX.out 6
      go_wp2_with (go_at_call 40; refine (wcount x.f6.length (by have := Ox6.out; omega) g 86 (by decide) (B ++ [x.f0, x.f1, x.f3, x.f4, x.f5, x.f7, x.f8].flatMap encI ++ encT (x.f2).data.toList) (by have := HLx.out; (try simp only [List.length_append] at this ⊢); omega) w0 _ HI.out HB.out).mono ?_; rintro en w1 ⟨rfl, h1, h2, h3⟩; replace HX := Lib.hid (h3.blk HX.out (by decide) hbg); replace HK := Lib.hid ((HK.out).trans h3); replace HI := Lib.hid h1; replace HB := Lib.hid h2; clear h1 h2 h3 hc_HX_6; have hc_HX_6 := blk_cell HX.out 6)
      clear hc_HX_6
      have hlf6 := Ox6.out
      obtain ⟨wo, rfl⟩ : ∃ wo : World, wo = wr := ⟨_, rfl⟩
      go_loopw [7, 49] (fun m2 i2 wq => ∃ (k2 : Nat), i2 = .int .i64 k2 ∧ k2 ≤ x.f6.length ∧ Hid (IsW w0 wq g 86 (B ++ [x.f0, x.f1, x.f3, x.f4, x.f5, x.f7, x.f8].flatMap encI ++ encT (x.f2).data.toList ++ encU x.f6.length ++ (x.f6.take k2).flatMap enc_cut)) ∧ Hid (Below w0.heap.size w0 wq) ∧ Hid (KeepT w wq g) ∧ Hid (wq.heap[wo.heap.size]? = some (.cells #[.int .i64 x.f0, .int .i64 x.f1, .string x.f2, .int .i64 x.f3, .int .i64 x.f4, .int .i64 x.f5, .slice A6 x.f6.length c6, .int .i64 x.f7, .int .i64 x.f8, .slice A9 x.f9.length c9] 63 (0, 0)))) (fun _ i2 _ => x.f6.length - (intOf i2).toNat)
      case atStart => exact ⟨0, rfl, Nat.zero_le _, Lib.hid (by simpa using HI.out), HB, HK, HX⟩
      case round =>
        clear HI HB HK HX
        obtain ⟨k2, rfl, hk2, HI, HB, HK, HX⟩ := hrel
        by_cases hlt2 : k2 < x.f6.length
        · obtain ⟨y, hy⟩ : ∃ y, x.f6[k2]? = some y := ⟨_, List.getElem?_eq_getElem hlt2⟩
          have hox_y := Ox6a.out y (List.mem_of_getElem? hy)
          have hpart_y := part_le enc_cut x.f6 k2 y hy
          have HLy : Hid ((B ++ [x.f0, x.f1, x.f3, x.f4, x.f5, x.f7, x.f8].flatMap encI ++ encT (x.f2).data.toList ++ encU x.f6.length ++ (x.f6.take k2).flatMap enc_cut).length + (enc_cut y).length ≤ 100000000) := Lib.hid (by have := HLx.out; (try simp only [List.length_append] at this ⊢); omega)
          obtain ⟨ad2, rfl, hd0, hd1, hd2⟩ := at_T124 HR6.out k2 (by omega) (by omega)
          have hrd_y : rd_T124 x.f6 (k2 : Int) = y := by unfold rd_T124; rw [Int.toNat_natCast, List.getD_eq_getElem?_getD, hy]; rfl
          rw [hrd_y, Int.toNat_natCast] at hd0 hd1 hd2
          replace hd0 := cell_old HB.out hd0
          replace hd1 := cell_old HB.out hd1
          replace hd2 := cell_old HB.out hd2
          have HNy := Lib.hid hy
          have HOy := Lib.hid hox_y
          clear hy hrd_y hpart_y hox_y
          generalize hB2 : B ++ [x.f0, x.f1, x.f3, x.f4, x.f5, x.f7, x.f8].flatMap encI ++ encT (x.f2).data.toList ++ encU x.f6.length ++ (x.f6.take k2).flatMap enc_cut = B2 at HI HLy
          have HBS2 := Lib.hid hB2
          clear hB2
          replace HLy : Hid (B2.length + ([y.f0, y.f1, y.f2].flatMap encI).length ≤ 100000000) := HLy
          obtain ⟨oy0, oy1, oy2⟩ := HOy.out
          have Oy0 := Lib.hid oy0
          clear oy0
          have Oy1 := Lib.hid oy1
          clear oy1
          have Oy2 := Lib.hid oy2
          clear oy2
          have hgw2 := HI.out.lt
          replace HI := Lib.hid (IsW.alloc HI.out (Obj.cells #[.int .i64 y.f0, .int .i64 y.f1, .int .i64 y.f2] 124))
          have HY := Lib.hid (blk_new wr (Obj.cells #[.int .i64 y.f0, .int .i64 y.f1, .int .i64 y.f2] 124))
          replace HB := Lib.hid (below_alloc HB.out (Obj.cells #[.int .i64 y.f0, .int .i64 y.f1, .int .i64 y.f2] 124))
          replace HK := Lib.hid (KeepT.alloc HK.out (Obj.cells #[.int .i64 y.f0, .int .i64 y.f1, .int .i64 y.f2] 124))
          replace HX := Lib.hid (blk_alloc HX.out (Obj.cells #[.int .i64 y.f0, .int .i64 y.f1, .int .i64 y.f2] 124))
          have hb2g : wr.heap.size ≠ g := by omega
          clear hgw2
          have hc_HY_0 := blk_cell HY.out 0
          have hc_HY_1 := blk_cell HY.out 1
          have hc_HY_2 := blk_cell HY.out 2
          go_wp2_with (go_at_call 12; refine (wints_call [y.f0, y.f1, y.f2] 3 rfl (by intro z hz; simp only [List.mem_cons, List.not_mem_nil, or_false] at hz; rcases hz with rfl | rfl | rfl; all_goals first | exact Oy0.out | exact Oy1.out | exact Oy2.out) (by simp) _ _ g 86 (by decide) (B2) (by have := HLy.out; (try simp only [List.length_append] at this ⊢); omega) w0 _ (IsW.alloc HI.out _) (below_alloc HB.out _) (reads_blk (blk_newb _ _ _ (by simp)) rfl (by have := HI.out.lt; (try simp at this); omega) (by simp))).mono ?_; rintro en w1 ⟨rfl, h1, h2, h3⟩; replace HX := Lib.hid (h3.blk (blk_alloc HX.out _) (by decide) hbg); replace HY := Lib.hid (h3.blk (blk_alloc HY.out _) (by decide) hb2g); replace HK := Lib.hid ((HK.out.alloc _).trans h3); replace HI := Lib.hid h1; replace HB := Lib.hid h2; clear h1 h2 h3 hc_HY_0 hc_HY_1 hc_HY_2)
          go_wp2
          go_roundw
          case rel => exact ⟨k2 + 1, by go_num, by omega, Lib.hid (by have h1 := HI.out; rw [flat_take_succ _ _ _ _ HNy.out, ← List.append_assoc, HBS2.out]; unfold enc_cut; (try simp only [List.append_assoc] at h1 ⊢); exact h1), HB, HK, HX⟩
          case measure => simp [intOf]; omega
        · have hkn2 : k2 = x.f6.length := by omega
          subst hkn2
          replace HI := Lib.hid (by have h1 := HI.out; rw [List.take_length] at h1; exact h1)
          clear hk2 hlt2
          go_wp2
          refine start_ (ds := ([] : List Nat)) (n := 6) (S := fun w' => w'.cell? ⟨wo.heap.size, 9, none⟩ = some (.slice A9 x.f9.length c9)) #[false, false, false, false, false, false] (by kernel_rfl) (by rfl) (by rfl) (blk_cell (blk_drew HX.out) 9) (fun hHeld => ?_)
          replace HI := Lib.hid (IsW.drew HI.out)
          replace HB := Lib.hid (below_drew1 HB.out)
          replace HK := Lib.hid (KeepT.drew HK.out)
          replace HX := Lib.hid (blk_drew HX.out)
          generalize wr.drew = W12 at HI HB HK HX hHeld ⊢
          refine pure_ (i := 0) (N := some 63) (v := ?_) (a' := ?_) #[true, false, false, false, false, false] rfl rfl (by kernel_rfl) (fun _ _ _ h => h) (Or.inl ⟨by rfl, ?_⟩) ?_ ?_
          rotate_left
          · intro w'
            go_simp
            with_reducible rfl
          rotate_left
          · simp only [Act.put, List.setIfInBounds_toArray, List.set_cons_zero, List.set_cons_succ, i64_w, i32_w]
            rfl
          refine pure_ (i := 1) (N := some 64) (v := ?_) (a' := ?_) #[true, true, false, false, false, false] rfl rfl (by kernel_rfl) (fun _ _ _ h => h) (Or.inl ⟨by rfl, ?_⟩) ?_ ?_
          rotate_left
          · intro w'
            go_simp
            with_reducible rfl
          rotate_left
          · simp only [Act.put, List.setIfInBounds_toArray, List.set_cons_zero, List.set_cons_succ, i64_w, i32_w]
            rfl
          refine pure_ (i := 2) (N := some 65) (v := ?_) (a' := ?_) #[true, true, true, false, false, false] rfl rfl (by kernel_rfl) (fun _ _ _ h => h) (Or.inl ⟨by rfl, ?_⟩) ?_ ?_
          rotate_left
          · intro w'
            go_simp
            with_reducible rfl
          rotate_left
          · simp only [Act.put, List.setIfInBounds_toArray, List.set_cons_zero, List.set_cons_succ, i64_w, i32_w]
            rfl
          refine pure_ (i := 3) (N := some 66) (v := ?_) (a' := ?_) #[true, true, true, true, false, false] rfl rfl (by kernel_rfl) (fun _ _ _ h => h) (Or.inl ⟨by rfl, ?_⟩) ?_ ?_
          rotate_left
          · intro w'
            go_simp
            with_reducible rfl
          rotate_left
          · simp only [Act.put, List.setIfInBounds_toArray, List.set_cons_zero, List.set_cons_succ, i64_w, i32_w]
            rfl
          refine take_ (i := 4) (N := some 67) (v := ?_) (a' := ?_) #[true, true, true, true, true, false] rfl rfl (by kernel_rfl) (fun _ _ _ h => h) (Or.inl ⟨by rfl, ?_⟩) hHeld ?_ ?_
          rotate_left
          · rintro w' s0
            go_simp
            with_reducible rfl
          rotate_left
          · simp only [Act.put, List.setIfInBounds_toArray, List.set_cons_zero, List.set_cons_succ, i64_w, i32_w]
            rfl
          refine one_ (i := 5) (N := some 68) #[true, true, true, true, true, true] rfl rfl (by kernel_rfl) (by decide) (fun K hK => ?_)
          refine goes_ Try.func43 (by kernel_rfl) rfl #[.pointer (some ⟨g, 0, none⟩), .slice A9 x.f9.length c9] (by rfl) rfl rfl (by first | rfl | (simp only [List.map_toArray, List.map_cons, List.map_nil]; rfl)) ?_
          refine (wIntsC x.f9 Ox9a.out (by have := Ox9.out; omega) A9 c9 g 86 (by decide) (B ++ [x.f0, x.f1, x.f3, x.f4, x.f5, x.f7, x.f8].flatMap encI ++ encT (x.f2).data.toList ++ encU x.f6.length ++ x.f6.flatMap enc_cut) (by have := HLx.out; (try simp only [List.length_append] at this ⊢); omega) w0 _ HI.out HB.out (reads_old HR9.out)).mono ?_
          rintro en w' ⟨rfl, hi, hb, hk⟩
          refine ⟨_, rfl, ?_⟩
          replace HX := Lib.hid (hk.blk HX.out (by decide) hbg)
          replace HK := Lib.hid (HK.out.trans hk)
          replace HI := Lib.hid hi
          replace HB := Lib.hid hb
          clear hi hb hk
          refine hK.out _ _ (blk_cell HX.out 9) (fun hHeld => ?_)
          clear hK K
          refine norm_ (a' := ?_) ?_ ?_
          rotate_left
          · show Act.put _ (some 68) _ = _
            simp only [Act.put, List.setIfInBounds_toArray, List.set_cons_zero, List.set_cons_succ, i64_w, i32_w]
            rfl
          refine done_ (by kernel_rfl) ?_
          go_wp2
          go_roundw
          case rel => exact ⟨k + 1, by go_num, by omega, Lib.hid (by have h1 := HI.out; rw [flat_take_succ _ _ _ _ HNx.out, ← List.append_assoc, HBS.out]; unfold enc_baskets; (try simp only [List.append_assoc] at h1 ⊢); exact h1), HB, HK⟩
          case measure => simp [intOf]; omega
    · have hkn : k = xs.length := by omega
      subst hkn
      go_wp2
      first | go_end0 | ((try simp only [Exit.inBlock, Exit.then]); refine bodyPost_ret (results_none rfl _ _ _) rfl ?_)
      have h1 := HI.out
      rw [List.take_length, List.append_assoc] at h1
      exact ⟨rfl, h1, HB.out, HK.out⟩
end Go.Proofs.Ytlkfbdeddfhocaa

set_option linter.unusedVariables false
set_option linter.unusedSimpArgs false
namespace Go.Proofs.Ytlkfbdeddfhocaa
open Go.Proofs Go.RowKit Go.Proofs.YtlkfbdeddfhocaaW.PrintWords Go.Proofs.YtlkfbdeddfhocaaW.PrintLast Go.Proofs.YtlkfbdeddfhocaaW.PrintMore Q

def enc_reset (x : S129) : List UInt8 := [x.f0, x.f1].flatMap encI
def ok_reset (x : S129) : Prop := isI64 x.f0 ∧ isI64 x.f1
def enc_trades (x : S117) : List UInt8 := [x.f0, x.f1, x.f2, x.f3, x.f4, x.f5, x.f6, x.f7, x.f9].flatMap encI ++ encB x.f10 ++ (encU x.f8.length ++ x.f8.flatMap enc_reset)
def ok_trades (x : S117) : Prop := isI64 x.f0 ∧ isI64 x.f1 ∧ isI64 x.f2 ∧ isI64 x.f3 ∧ isI64 x.f4 ∧ isI64 x.f5 ∧ isI64 x.f6 ∧ isI64 x.f7 ∧ x.f8.length ≤ 4096 ∧ (∀ y ∈ x.f8, ok_reset y) ∧ isI64 x.f9
set_option maxHeartbeats 8000000 in
set_option maxRecDepth 1000000 in
theorem etrades (xs : List S117) (hok : ∀ x ∈ xs, ok_trades x) (hm : xs.length ≤ 1000000) (A : Option Addr) (c : Nat) (g : Nat) (bs : List UInt8) (hl : bs.length + (encL enc_trades xs).length ≤ 100000000) (w0 w : World) (hI : IsW w0 w g 86 bs) (hB : Below w0.heap.size w0 w) (hR : Kd.C k117 w0 A xs.length xs) :
    Calls Try.prog 19 #[.pointer (some ⟨g, 0, none⟩), .slice A xs.length c] w fun en w' => en = .returned (.tuple #[]) ∧ IsW w0 w' g 86 (bs ++ encL enc_trades xs) ∧ Below w0.heap.size w0 w' ∧ KeepT w w' g := by
  have HR := Lib.hid hR
  have hl2 : bs.length + (encU xs.length).length + (xs.flatMap enc_trades).length ≤ 100000000 := by unfold encL at hl; rw [List.length_append] at hl; omega
  have HL := Lib.hid hl2
  have HOK := Lib.hid hok
  have HC := Lib.hid (wcount xs.length (by omega) g 86 (by decide) bs (by omega) w0 w hI hB)
  clear hI hB hR hl hl2 hok
  go_enter Try.func19, Try.ntmps19
  go_wp2_with (go_at_call 40; refine (HC.out).mono ?_; rintro en w1 ⟨rfl, h1, h2, h3⟩; have HI := Lib.hid h1; have HB := Lib.hid h2; have HK := Lib.hid h3; clear h1 h2 h3)
  go_loopw [5, 14] (fun m i wr => ∃ (k : Nat), i = .int .i64 k ∧ k ≤ xs.length ∧ Hid (IsW w0 wr g 86 (bs ++ encU xs.length ++ (xs.take k).flatMap enc_trades)) ∧ Hid (Below w0.heap.size w0 wr) ∧ Hid (KeepT w wr g)) (fun _ i _ => xs.length - (intOf i).toNat)
  case atStart => exact ⟨0, rfl, Nat.zero_le _, Lib.hid (by simpa using HI.out), HB, HK⟩
  case round =>
    clear HI HB HC HK
    obtain ⟨k, rfl, hk, HI, HB, HK⟩ := hrel
    by_cases hlt : k < xs.length
    · obtain ⟨x, hx⟩ : ∃ x, xs[k]? = some x := ⟨_, List.getElem?_eq_getElem hlt⟩
      have hox_x := HOK.out x (List.mem_of_getElem? hx)
      have hpart_x := part_le enc_trades xs k x hx
      have HLx : Hid ((bs ++ encU xs.length ++ (xs.take k).flatMap enc_trades).length + (enc_trades x).length ≤ 100000000) := Lib.hid (by have := HL.out; rw [List.length_append, List.length_append]; omega)
      obtain ⟨ad, A8, c8, rfl, hd0, hd1, hd2, hd3, hd4, hd5, hd6, hd7, hd8, hd9, hd10, _, hr8⟩ := at_T117 HR.out k (by omega) (by omega)
      have hrd_x : rd_T117 xs (k : Int) = x := by unfold rd_T117; rw [Int.toNat_natCast, List.getD_eq_getElem?_getD, hx]; rfl
      rw [hrd_x, Int.toNat_natCast] at hd0 hd1 hd2 hd3 hd4 hd5 hd6 hd7 hd8 hd9 hd10
      replace hd0 := cell_old HB.out hd0
      replace hd1 := cell_old HB.out hd1
      replace hd2 := cell_old HB.out hd2
      replace hd3 := cell_old HB.out hd3
      replace hd4 := cell_old HB.out hd4
      replace hd5 := cell_old HB.out hd5
      replace hd6 := cell_old HB.out hd6
      replace hd7 := cell_old HB.out hd7
      replace hd8 := cell_old HB.out hd8
      replace hd9 := cell_old HB.out hd9
      replace hd10 := cell_old HB.out hd10
      rw [hrd_x] at hr8
      have HR8 := Lib.hid hr8
      clear hr8
      have HNx := Lib.hid hx
      have HOx := Lib.hid hox_x
      clear hx hrd_x hpart_x hox_x
      generalize hB : bs ++ encU xs.length ++ (xs.take k).flatMap enc_trades = B at HI HLx
      have HBS := Lib.hid hB
      clear hB
      replace HLx : Hid (B.length + ([x.f0, x.f1, x.f2, x.f3, x.f4, x.f5, x.f6, x.f7, x.f9].flatMap encI ++ encB x.f10 ++ (encU x.f8.length ++ x.f8.flatMap enc_reset)).length ≤ 100000000) := HLx
      obtain ⟨ox0, ox1, ox2, ox3, ox4, ox5, ox6, ox7, ox8, ox8a, ox9⟩ := HOx.out
      have Ox0 := Lib.hid ox0
      clear ox0
      have Ox1 := Lib.hid ox1
      clear ox1
      have Ox2 := Lib.hid ox2
      clear ox2
      have Ox3 := Lib.hid ox3
      clear ox3
      have Ox4 := Lib.hid ox4
      clear ox4
      have Ox5 := Lib.hid ox5
      clear ox5
      have Ox6 := Lib.hid ox6
      clear ox6
      have Ox7 := Lib.hid ox7
      clear ox7
      have Ox8 := Lib.hid ox8
      clear ox8
      have Ox8a := Lib.hid ox8a
      clear ox8a
      have Ox9 := Lib.hid ox9
      clear ox9
      have hgw := HI.out.lt
      replace HI := Lib.hid (IsW.alloc HI.out (Obj.cells #[.int .i64 x.f0, .int .i64 x.f1, .int .i64 x.f2, .int .i64 x.f3, .int .i64 x.f4, .int .i64 x.f5, .int .i64 x.f6, .int .i64 x.f7, .slice A8 x.f8.length c8, .int .i64 x.f9, .bool x.f10] 117))
      have HX := Lib.hid (blk_new wr (Obj.cells #[.int .i64 x.f0, .int .i64 x.f1, .int .i64 x.f2, .int .i64 x.f3, .int .i64 x.f4, .int .i64 x.f5, .int .i64 x.f6, .int .i64 x.f7, .slice A8 x.f8.length c8, .int .i64 x.f9, .bool x.f10] 117))
      replace HB := Lib.hid (below_alloc HB.out (Obj.cells #[.int .i64 x.f0, .int .i64 x.f1, .int .i64 x.f2, .int .i64 x.f3, .int .i64 x.f4, .int .i64 x.f5, .int .i64 x.f6, .int .i64 x.f7, .slice A8 x.f8.length c8, .int .i64 x.f9, .bool x.f10] 117))
      replace HK := Lib.hid (KeepT.alloc HK.out (Obj.cells #[.int .i64 x.f0, .int .i64 x.f1, .int .i64 x.f2, .int .i64 x.f3, .int .i64 x.f4, .int .i64 x.f5, .int .i64 x.f6, .int .i64 x.f7, .slice A8 x.f8.length c8, .int .i64 x.f9, .bool x.f10] 117))
      have hbg : wr.heap.size ≠ g := by omega
      clear hgw
      have hc_HX_0 := blk_cell HX.out 0
      have hc_HX_1 := blk_cell HX.out 1
      have hc_HX_2 := blk_cell HX.out 2
      have hc_HX_3 := blk_cell HX.out 3
      have hc_HX_4 := blk_cell HX.out 4
      have hc_HX_5 := blk_cell HX.out 5
      have hc_HX_6 := blk_cell HX.out 6
      have hc_HX_7 := blk_cell HX.out 7
      have hc_HX_9 := blk_cell HX.out 9
      go_wp2_with (go_at_call 12; refine (wints_call [x.f0, x.f1, x.f2, x.f3, x.f4, x.f5, x.f6, x.f7, x.f9] 9 rfl (by intro z hz; simp only [List.mem_cons, List.not_mem_nil, or_false] at hz; rcases hz with rfl | rfl | rfl | rfl | rfl | rfl | rfl | rfl | rfl; all_goals first | exact Ox0.out | exact Ox1.out | exact Ox2.out | exact Ox3.out | exact Ox4.out | exact Ox5.out | exact Ox6.out | exact Ox7.out | exact Ox9.out) (by simp) _ _ g 86 (by decide) (B) (by have := HLx.out; (try simp only [List.length_append] at this ⊢); omega) w0 _ (IsW.alloc HI.out _) (below_alloc HB.out _) (reads_blk (blk_newb _ _ _ (by simp)) rfl (by have := HI.out.lt; (try simp at this); omega) (by simp))).mono ?_; rintro en w1 ⟨rfl, h1, h2, h3⟩; replace HX := Lib.hid (h3.blk (blk_alloc HX.out _) (by decide) hbg); replace HK := Lib.hid ((HK.out.alloc _).trans h3); replace HI := Lib.hid h1; replace HB := Lib.hid h2; clear h1 h2 h3 hc_HX_0 hc_HX_1 hc_HX_2 hc_HX_3 hc_HX_4 hc_HX_5 hc_HX_6 hc_HX_7 hc_HX_9)
      refine start_ (ds := ([] : List Nat)) (n := 6) (S := fun w' => w'.cell? ⟨wr.heap.size, 10, none⟩ = some (.bool x.f10)) #[false, false, false, false, false, false] (by kernel_rfl) (by rfl) (by rfl) (blk_cell (blk_drew HX.out) 10) (fun hHeld => ?_)
      replace HI := Lib.hid (IsW.drew HI.out)
      replace HB := Lib.hid (below_drew1 HB.out)
      replace HK := Lib.hid (KeepT.drew HK.out)
      replace HX := Lib.hid (blk_drew HX.out)
      generalize w1.drew = W5 at HI HB HK HX hHeld ⊢
      refine pure_ (i := 0) (N := some 39) (v := ?_) (a' := ?_) #[true, false, false, false, false, false] rfl rfl (by kernel_rfl) (fun _ _ _ h => h) (Or.inl ⟨by rfl, ?_⟩) ?_ ?_
      rotate_left
      · intro w'
        go_simp
        with_reducible rfl
      rotate_left
      · simp only [Act.put, List.setIfInBounds_toArray, List.set_cons_zero, List.set_cons_succ, i64_w, i32_w]
        rfl
      refine pure_ (i := 1) (N := some 40) (v := ?_) (a' := ?_) #[true, true, false, false, false, false] rfl rfl (by kernel_rfl) (fun _ _ _ h => h) (Or.inl ⟨by rfl, ?_⟩) ?_ ?_
      rotate_left
      · intro w'
        go_simp
        with_reducible rfl
      rotate_left
      · simp only [Act.put, List.setIfInBounds_toArray, List.set_cons_zero, List.set_cons_succ, i64_w, i32_w]
        rfl
      refine pure_ (i := 2) (N := some 41) (v := ?_) (a' := ?_) #[true, true, true, false, false, false] rfl rfl (by kernel_rfl) (fun _ _ _ h => h) (Or.inl ⟨by rfl, ?_⟩) ?_ ?_
      rotate_left
      · intro w'
        go_simp
        with_reducible rfl
      rotate_left
      · simp only [Act.put, List.setIfInBounds_toArray, List.set_cons_zero, List.set_cons_succ, i64_w, i32_w]
        rfl
      refine pure_ (i := 3) (N := some 42) (v := ?_) (a' := ?_) #[true, true, true, true, false, false] rfl rfl (by kernel_rfl) (fun _ _ _ h => h) (Or.inl ⟨by rfl, ?_⟩) ?_ ?_
      rotate_left
      · intro w'
        go_simp
        with_reducible rfl
      rotate_left
      · simp only [Act.put, List.setIfInBounds_toArray, List.set_cons_zero, List.set_cons_succ, i64_w, i32_w]
        rfl
      refine take_ (i := 4) (N := some 43) (v := ?_) (a' := ?_) #[true, true, true, true, true, false] rfl rfl (by kernel_rfl) (fun _ _ _ h => h) (Or.inl ⟨by rfl, ?_⟩) hHeld ?_ ?_
      rotate_left
      · rintro w' s0
        go_simp
        with_reducible rfl
      rotate_left
      · simp only [Act.put, List.setIfInBounds_toArray, List.set_cons_zero, List.set_cons_succ, i64_w, i32_w]
        rfl
      refine one_ (i := 5) (N := some 44) #[true, true, true, true, true, true] rfl rfl (by kernel_rfl) (by decide) (fun K hK => ?_)
      refine goes_ Try.func42 (by kernel_rfl) rfl #[.pointer (some ⟨g, 0, none⟩), .bool x.f10] (by rfl) rfl rfl (by first | rfl | (simp only [List.map_toArray, List.map_cons, List.map_nil]; rfl)) ?_
      refine (wbool x.f10 g 86 (by decide) (B ++ [x.f0, x.f1, x.f2, x.f3, x.f4, x.f5, x.f6, x.f7, x.f9].flatMap encI) (by have := HLx.out; (try simp only [List.length_append] at this ⊢); omega) w0 _ HI.out HB.out).mono ?_
      rintro en w' ⟨rfl, hi, hb, hk⟩
      refine ⟨_, rfl, ?_⟩
      replace HX := Lib.hid (hk.blk HX.out (by decide) hbg)
      replace HK := Lib.hid (HK.out.trans hk)
      replace HI := Lib.hid hi
      replace HB := Lib.hid hb
      clear hi hb hk
      refine hK.out _ _ (blk_cell HX.out 10) (fun hHeld => ?_)
      clear hK K
      refine norm_ (a' := ?_) ?_ ?_
      rotate_left
      · show Act.put _ (some 44) _ = _
        simp only [Act.put, List.setIfInBounds_toArray, List.set_cons_zero, List.set_cons_succ, i64_w, i32_w]
        rfl
      refine done_ (by kernel_rfl) ?_
      have hc_HX_8 := blk_cell HX.out 8
      go_wp2_with (go_at_call 40; refine (wcount x.f8.length (by have := Ox8.out; omega) g 86 (by decide) (B ++ [x.f0, x.f1, x.f2, x.f3, x.f4, x.f5, x.f6, x.f7, x.f9].flatMap encI ++ encB x.f10) (by have := HLx.out; (try simp only [List.length_append] at this ⊢); omega) w0 _ HI.out HB.out).mono ?_; rintro en w1 ⟨rfl, h1, h2, h3⟩; replace HX := Lib.hid (h3.blk HX.out (by decide) hbg); replace HK := Lib.hid ((HK.out).trans h3); replace HI := Lib.hid h1; replace HB := Lib.hid h2; clear h1 h2 h3 hc_HX_8; have hc_HX_8 := blk_cell HX.out 8)
      clear hc_HX_8
      have hlf8 := Ox8.out
      obtain ⟨wo, rfl⟩ : ∃ wo : World, wo = wr := ⟨_, rfl⟩
      go_loopw [7, 53] (fun m2 i2 wq => ∃ (k2 : Nat), i2 = .int .i64 k2 ∧ k2 ≤ x.f8.length ∧ Hid (IsW w0 wq g 86 (B ++ [x.f0, x.f1, x.f2, x.f3, x.f4, x.f5, x.f6, x.f7, x.f9].flatMap encI ++ encB x.f10 ++ encU x.f8.length ++ (x.f8.take k2).flatMap enc_reset)) ∧ Hid (Below w0.heap.size w0 wq) ∧ Hid (KeepT w wq g) ∧ Hid (wq.heap[wo.heap.size]? = some (.cells #[.int .i64 x.f0, .int .i64 x.f1, .int .i64 x.f2, .int .i64 x.f3, .int .i64 x.f4, .int .i64 x.f5, .int .i64 x.f6, .int .i64 x.f7, .slice A8 x.f8.length c8, .int .i64 x.f9, .bool x.f10] 117 (0, 0)))) (fun _ i2 _ => x.f8.length - (intOf i2).toNat)
      case atStart => exact ⟨0, rfl, Nat.zero_le _, Lib.hid (by simpa using HI.out), HB, HK, HX⟩
      case round =>
        clear HI HB HK HX
        obtain ⟨k2, rfl, hk2, HI, HB, HK, HX⟩ := hrel
        by_cases hlt2 : k2 < x.f8.length
        · obtain ⟨y, hy⟩ : ∃ y, x.f8[k2]? = some y := ⟨_, List.getElem?_eq_getElem hlt2⟩
          have hox_y := Ox8a.out y (List.mem_of_getElem? hy)
          have hpart_y := part_le enc_reset x.f8 k2 y hy
          have HLy : Hid ((B ++ [x.f0, x.f1, x.f2, x.f3, x.f4, x.f5, x.f6, x.f7, x.f9].flatMap encI ++ encB x.f10 ++ encU x.f8.length ++ (x.f8.take k2).flatMap enc_reset).length + (enc_reset y).length ≤ 100000000) := Lib.hid (by have := HLx.out; (try simp only [List.length_append] at this ⊢); omega)
          obtain ⟨ad2, rfl, hd0, hd1⟩ := at_T129 HR8.out k2 (by omega) (by omega)
          have hrd_y : rd_T129 x.f8 (k2 : Int) = y := by unfold rd_T129; rw [Int.toNat_natCast, List.getD_eq_getElem?_getD, hy]; rfl
          rw [hrd_y, Int.toNat_natCast] at hd0 hd1
          replace hd0 := cell_old HB.out hd0
          replace hd1 := cell_old HB.out hd1
          have HNy := Lib.hid hy
          have HOy := Lib.hid hox_y
          clear hy hrd_y hpart_y hox_y
          generalize hB2 : B ++ [x.f0, x.f1, x.f2, x.f3, x.f4, x.f5, x.f6, x.f7, x.f9].flatMap encI ++ encB x.f10 ++ encU x.f8.length ++ (x.f8.take k2).flatMap enc_reset = B2 at HI HLy
          have HBS2 := Lib.hid hB2
          clear hB2
          replace HLy : Hid (B2.length + ([y.f0, y.f1].flatMap encI).length ≤ 100000000) := HLy
          obtain ⟨oy0, oy1⟩ := HOy.out
          have Oy0 := Lib.hid oy0
          clear oy0
          have Oy1 := Lib.hid oy1
          clear oy1
          have hgw2 := HI.out.lt
          replace HI := Lib.hid (IsW.alloc HI.out (Obj.cells #[.int .i64 y.f0, .int .i64 y.f1] 129))
          have HY := Lib.hid (blk_new wr (Obj.cells #[.int .i64 y.f0, .int .i64 y.f1] 129))
          replace HB := Lib.hid (below_alloc HB.out (Obj.cells #[.int .i64 y.f0, .int .i64 y.f1] 129))
          replace HK := Lib.hid (KeepT.alloc HK.out (Obj.cells #[.int .i64 y.f0, .int .i64 y.f1] 129))
          replace HX := Lib.hid (blk_alloc HX.out (Obj.cells #[.int .i64 y.f0, .int .i64 y.f1] 129))
          have hb2g : wr.heap.size ≠ g := by omega
          clear hgw2
          have hc_HY_0 := blk_cell HY.out 0
          have hc_HY_1 := blk_cell HY.out 1
          go_wp2_with (go_at_call 12; refine (wints_call [y.f0, y.f1] 2 rfl (by intro z hz; simp only [List.mem_cons, List.not_mem_nil, or_false] at hz; rcases hz with rfl | rfl; all_goals first | exact Oy0.out | exact Oy1.out) (by simp) _ _ g 86 (by decide) (B2) (by have := HLy.out; (try simp only [List.length_append] at this ⊢); omega) w0 _ (IsW.alloc HI.out _) (below_alloc HB.out _) (reads_blk (blk_newb _ _ _ (by simp)) rfl (by have := HI.out.lt; (try simp at this); omega) (by simp))).mono ?_; rintro en w1 ⟨rfl, h1, h2, h3⟩; replace HX := Lib.hid (h3.blk (blk_alloc HX.out _) (by decide) hbg); replace HY := Lib.hid (h3.blk (blk_alloc HY.out _) (by decide) hb2g); replace HK := Lib.hid ((HK.out.alloc _).trans h3); replace HI := Lib.hid h1; replace HB := Lib.hid h2; clear h1 h2 h3 hc_HY_0 hc_HY_1)
          go_wp2
          go_roundw
          case rel => exact ⟨k2 + 1, by go_num, by omega, Lib.hid (by have h1 := HI.out; rw [flat_take_succ _ _ _ _ HNy.out, ← List.append_assoc, HBS2.out]; unfold enc_reset; (try simp only [List.append_assoc] at h1 ⊢); exact h1), HB, HK, HX⟩
          case measure => simp [intOf]; omega
        · have hkn2 : k2 = x.f8.length := by omega
          subst hkn2
          replace HI := Lib.hid (by have h1 := HI.out; rw [List.take_length] at h1; exact h1)
          clear hk2 hlt2
          go_wp2
          go_wp2
          go_roundw
          case rel => exact ⟨k + 1, by go_num, by omega, Lib.hid (by have h1 := HI.out; rw [flat_take_succ _ _ _ _ HNx.out, ← List.append_assoc, HBS.out]; unfold enc_trades; (try simp only [List.append_assoc] at h1 ⊢); exact h1), HB, HK⟩
          case measure => simp [intOf]; omega
    · have hkn : k = xs.length := by omega
      subst hkn
      go_wp2
      first | go_end0 | ((try simp only [Exit.inBlock, Exit.then]); refine bodyPost_ret (results_none rfl _ _ _) rfl ?_)
      have h1 := HI.out
      rw [List.take_length, List.append_assoc] at h1
      exact ⟨rfl, h1, HB.out, HK.out⟩
end Go.Proofs.Ytlkfbdeddfhocaa

set_option linter.unusedVariables false
set_option linter.unusedSimpArgs false
namespace Go.Proofs.Ytlkfbdeddfhocaa
open Go.Proofs Go.RowKit Go.Proofs.YtlkfbdeddfhocaaW.PrintWords Go.Proofs.YtlkfbdeddfhocaaW.PrintLast Go.Proofs.YtlkfbdeddfhocaaW.PrintMore Q

def enc_lot (x : S119) : List UInt8 := encT (x.f0).data.toList ++ encI x.f1
def ok_lot (x : S119) : Prop := (x.f0).data.toList.length ≤ 160 ∧ isI64 x.f1
def enc_covers (x : S77) : List UInt8 := encI x.f0 ++ (encU x.f1.length ++ x.f1.flatMap enc_lot)
def ok_covers (x : S77) : Prop := isI64 x.f0 ∧ x.f1.length ≤ 4096 ∧ (∀ y ∈ x.f1, ok_lot y)
set_option maxHeartbeats 8000000 in
set_option maxRecDepth 1000000 in
theorem ecovers (xs : List S77) (hok : ∀ x ∈ xs, ok_covers x) (hm : xs.length ≤ 1000000) (A : Option Addr) (c : Nat) (g : Nat) (bs : List UInt8) (hl : bs.length + (encL enc_covers xs).length ≤ 100000000) (w0 w : World) (hI : IsW w0 w g 86 bs) (hB : Below w0.heap.size w0 w) (hR : Kd.C k77 w0 A xs.length xs) :
    Calls Try.prog 20 #[.pointer (some ⟨g, 0, none⟩), .slice A xs.length c] w fun en w' => en = .returned (.tuple #[]) ∧ IsW w0 w' g 86 (bs ++ encL enc_covers xs) ∧ Below w0.heap.size w0 w' ∧ KeepT w w' g := by
  have HR := Lib.hid hR
  have hl2 : bs.length + (encU xs.length).length + (xs.flatMap enc_covers).length ≤ 100000000 := by unfold encL at hl; rw [List.length_append] at hl; omega
  have HL := Lib.hid hl2
  have HOK := Lib.hid hok
  have HC := Lib.hid (wcount xs.length (by omega) g 86 (by decide) bs (by omega) w0 w hI hB)
  clear hI hB hR hl hl2 hok
  go_enter Try.func20, Try.ntmps20
  go_wp2_with (go_at_call 40; refine (HC.out).mono ?_; rintro en w1 ⟨rfl, h1, h2, h3⟩; have HI := Lib.hid h1; have HB := Lib.hid h2; have HK := Lib.hid h3; clear h1 h2 h3)
  go_loopw [5, 14] (fun m i wr => ∃ (k : Nat), i = .int .i64 k ∧ k ≤ xs.length ∧ Hid (IsW w0 wr g 86 (bs ++ encU xs.length ++ (xs.take k).flatMap enc_covers)) ∧ Hid (Below w0.heap.size w0 wr) ∧ Hid (KeepT w wr g)) (fun _ i _ => xs.length - (intOf i).toNat)
  case atStart => exact ⟨0, rfl, Nat.zero_le _, Lib.hid (by simpa using HI.out), HB, HK⟩
  case round =>
    clear HI HB HC HK
    obtain ⟨k, rfl, hk, HI, HB, HK⟩ := hrel
    by_cases hlt : k < xs.length
    · obtain ⟨x, hx⟩ : ∃ x, xs[k]? = some x := ⟨_, List.getElem?_eq_getElem hlt⟩
      have hox_x := HOK.out x (List.mem_of_getElem? hx)
      have hpart_x := part_le enc_covers xs k x hx
      have HLx : Hid ((bs ++ encU xs.length ++ (xs.take k).flatMap enc_covers).length + (enc_covers x).length ≤ 100000000) := Lib.hid (by have := HL.out; rw [List.length_append, List.length_append]; omega)
      obtain ⟨ad, A1, c1, rfl, hd0, hd1, _, hr1⟩ := at_T77 HR.out k (by omega) (by omega)
      have hrd_x : rd_T77 xs (k : Int) = x := by unfold rd_T77; rw [Int.toNat_natCast, List.getD_eq_getElem?_getD, hx]; rfl
      rw [hrd_x, Int.toNat_natCast] at hd0 hd1
      replace hd0 := cell_old HB.out hd0
      replace hd1 := cell_old HB.out hd1
      rw [hrd_x] at hr1
      have HR1 := Lib.hid hr1
      clear hr1
      have HNx := Lib.hid hx
      have HOx := Lib.hid hox_x
      clear hx hrd_x hpart_x hox_x
      generalize hB : bs ++ encU xs.length ++ (xs.take k).flatMap enc_covers = B at HI HLx
      have HBS := Lib.hid hB
      clear hB
      replace HLx : Hid (B.length + (encI x.f0 ++ (encU x.f1.length ++ x.f1.flatMap enc_lot)).length ≤ 100000000) := HLx
      obtain ⟨ox0, ox1, ox1a⟩ := HOx.out
      have Ox0 := Lib.hid ox0
      clear ox0
      have Ox1 := Lib.hid ox1
      clear ox1
      have Ox1a := Lib.hid ox1a
      clear ox1a
      have hgw := HI.out.lt
      go_wp2
      replace HI := Lib.hid (IsW.alloc HI.out (Obj.cells #[.int .i64 x.f0, .slice A1 x.f1.length c1] 77))
      have HX := Lib.hid (blk_new wr (Obj.cells #[.int .i64 x.f0, .slice A1 x.f1.length c1] 77))
      replace HB := Lib.hid (below_alloc HB.out (Obj.cells #[.int .i64 x.f0, .slice A1 x.f1.length c1] 77))
      replace HK := Lib.hid (KeepT.alloc HK.out (Obj.cells #[.int .i64 x.f0, .slice A1 x.f1.length c1] 77))
      have hbg : wr.heap.size ≠ g := by omega
      clear hgw
      generalize wr.alloc (Obj.cells #[.int .i64 x.f0, .slice A1 x.f1.length c1] 77) = Wo at HI HX HB HK  ⊢
      refine start_ (ds := ([] : List Nat)) (n := 6) (S := fun w' => w'.cell? ⟨wr.heap.size, 0, none⟩ = some (.int .i64 x.f0)) #[false, false, false, false, false, false] (by kernel_rfl) (by rfl) (by rfl) (blk_cell (blk_drew HX.out) 0) (fun hHeld => ?_)
      replace HI := Lib.hid (IsW.drew HI.out)
      replace HB := Lib.hid (below_drew1 HB.out)
      replace HK := Lib.hid (KeepT.drew HK.out)
      replace HX := Lib.hid (blk_drew HX.out)
      generalize Wo.drew = W4 at HI HB HK HX hHeld ⊢
      refine pure_ (i := 0) (N := some 18) (v := ?_) (a' := ?_) #[true, false, false, false, false, false] rfl rfl (by kernel_rfl) (fun _ _ _ h => h) (Or.inl ⟨by rfl, ?_⟩) ?_ ?_
      rotate_left
      · intro w'
        go_simp
        with_reducible rfl
      rotate_left
      · simp only [Act.put, List.setIfInBounds_toArray, List.set_cons_zero, List.set_cons_succ, i64_w, i32_w]
        rfl
      refine pure_ (i := 1) (N := some 19) (v := ?_) (a' := ?_) #[true, true, false, false, false, false] rfl rfl (by kernel_rfl) (fun _ _ _ h => h) (Or.inl ⟨by rfl, ?_⟩) ?_ ?_
      rotate_left
      · intro w'
        go_simp
        with_reducible rfl
      rotate_left
      · simp only [Act.put, List.setIfInBounds_toArray, List.set_cons_zero, List.set_cons_succ, i64_w, i32_w]
        rfl
      refine pure_ (i := 2) (N := some 20) (v := ?_) (a' := ?_) #[true, true, true, false, false, false] rfl rfl (by kernel_rfl) (fun _ _ _ h => h) (Or.inl ⟨by rfl, ?_⟩) ?_ ?_
      rotate_left
      · intro w'
        go_simp
        with_reducible rfl
      rotate_left
      · simp only [Act.put, List.setIfInBounds_toArray, List.set_cons_zero, List.set_cons_succ, i64_w, i32_w]
        rfl
      refine pure_ (i := 3) (N := some 21) (v := ?_) (a' := ?_) #[true, true, true, true, false, false] rfl rfl (by kernel_rfl) (fun _ _ _ h => h) (Or.inl ⟨by rfl, ?_⟩) ?_ ?_
      rotate_left
      · intro w'
        go_simp
        with_reducible rfl
      rotate_left
      · simp only [Act.put, List.setIfInBounds_toArray, List.set_cons_zero, List.set_cons_succ, i64_w, i32_w]
        rfl
      refine take_ (i := 4) (N := some 22) (v := ?_) (a' := ?_) #[true, true, true, true, true, false] rfl rfl (by kernel_rfl) (fun _ _ _ h => h) (Or.inl ⟨by rfl, ?_⟩) hHeld ?_ ?_
      rotate_left
      · rintro w' s0
        go_simp
        with_reducible rfl
      rotate_left
      · simp only [Act.put, List.setIfInBounds_toArray, List.set_cons_zero, List.set_cons_succ, i64_w, i32_w]
        rfl
      refine one_ (i := 5) (N := some 23) #[true, true, true, true, true, true] rfl rfl (by kernel_rfl) (by decide) (fun K hK => ?_)
      refine goes_ Try.func39 (by kernel_rfl) rfl #[.pointer (some ⟨g, 0, none⟩), .int .i64 x.f0] (by rfl) rfl rfl (by first | rfl | (simp only [List.map_toArray, List.map_cons, List.map_nil]; rfl)) ?_
      refine (wint x.f0 Ox0.out g 86 (by decide) (B) (by have := HLx.out; (try simp only [List.length_append] at this ⊢); omega) w0 _ HI.out HB.out).mono ?_
      rintro en w' ⟨rfl, hi, hb, hk⟩
      refine ⟨_, rfl, ?_⟩
      replace HX := Lib.hid (hk.blk HX.out (by decide) hbg)
      replace HK := Lib.hid (HK.out.trans hk)
      replace HI := Lib.hid hi
      replace HB := Lib.hid hb
      clear hi hb hk
      refine hK.out _ _ (blk_cell HX.out 0) (fun hHeld => ?_)
      clear hK K
      refine norm_ (a' := ?_) ?_ ?_
      rotate_left
      · show Act.put _ (some 23) _ = _
        simp only [Act.put, List.setIfInBounds_toArray, List.set_cons_zero, List.set_cons_succ, i64_w, i32_w]
        rfl
      refine done_ (by kernel_rfl) ?_
      have hc_HX_1 := blk_cell HX.out 1
      go_wp2_with (go_at_call 40; refine (wcount x.f1.length (by have := Ox1.out; omega) g 86 (by decide) (B ++ encI x.f0) (by have := HLx.out; (try simp only [List.length_append] at this ⊢); omega) w0 _ HI.out HB.out).mono ?_; rintro en w1 ⟨rfl, h1, h2, h3⟩; replace HX := Lib.hid (h3.blk HX.out (by decide) hbg); replace HK := Lib.hid ((HK.out).trans h3); replace HI := Lib.hid h1; replace HB := Lib.hid h2; clear h1 h2 h3 hc_HX_1; have hc_HX_1 := blk_cell HX.out 1)
      clear hc_HX_1
      have hlf1 := Ox1.out
      obtain ⟨wo, rfl⟩ : ∃ wo : World, wo = wr := ⟨_, rfl⟩
      go_loopw [7, 32] (fun m2 i2 wq => ∃ (k2 : Nat), i2 = .int .i64 k2 ∧ k2 ≤ x.f1.length ∧ Hid (IsW w0 wq g 86 (B ++ encI x.f0 ++ encU x.f1.length ++ (x.f1.take k2).flatMap enc_lot)) ∧ Hid (Below w0.heap.size w0 wq) ∧ Hid (KeepT w wq g) ∧ Hid (wq.heap[wo.heap.size]? = some (.cells #[.int .i64 x.f0, .slice A1 x.f1.length c1] 77 (0, 0)))) (fun _ i2 _ => x.f1.length - (intOf i2).toNat)
      case atStart => exact ⟨0, rfl, Nat.zero_le _, Lib.hid (by simpa using HI.out), HB, HK, HX⟩
      case round =>
        clear HI HB HK HX
        obtain ⟨k2, rfl, hk2, HI, HB, HK, HX⟩ := hrel
        by_cases hlt2 : k2 < x.f1.length
        · obtain ⟨y, hy⟩ : ∃ y, x.f1[k2]? = some y := ⟨_, List.getElem?_eq_getElem hlt2⟩
          have hox_y := Ox1a.out y (List.mem_of_getElem? hy)
          have hpart_y := part_le enc_lot x.f1 k2 y hy
          have HLy : Hid ((B ++ encI x.f0 ++ encU x.f1.length ++ (x.f1.take k2).flatMap enc_lot).length + (enc_lot y).length ≤ 100000000) := Lib.hid (by have := HLx.out; (try simp only [List.length_append] at this ⊢); omega)
          obtain ⟨ad2, rfl, hd0, hd1⟩ := at_T119 HR1.out k2 (by omega) (by omega)
          have hrd_y : rd_T119 x.f1 (k2 : Int) = y := by unfold rd_T119; rw [Int.toNat_natCast, List.getD_eq_getElem?_getD, hy]; rfl
          rw [hrd_y, Int.toNat_natCast] at hd0 hd1
          replace hd0 := cell_old HB.out hd0
          replace hd1 := cell_old HB.out hd1
          have HNy := Lib.hid hy
          have HOy := Lib.hid hox_y
          clear hy hrd_y hpart_y hox_y
          generalize hB2 : B ++ encI x.f0 ++ encU x.f1.length ++ (x.f1.take k2).flatMap enc_lot = B2 at HI HLy
          have HBS2 := Lib.hid hB2
          clear hB2
          replace HLy : Hid (B2.length + (encT (y.f0).data.toList ++ encI y.f1).length ≤ 100000000) := HLy
          obtain ⟨oy0, oy1⟩ := HOy.out
          have Oy0 := Lib.hid oy0
          clear oy0
          have Oy1 := Lib.hid oy1
          clear oy1
          have hgw2 := HI.out.lt
          go_wp2
          replace HI := Lib.hid (IsW.alloc HI.out (Obj.cells #[.string y.f0, .int .i64 y.f1] 119))
          have HY := Lib.hid (blk_new wr (Obj.cells #[.string y.f0, .int .i64 y.f1] 119))
          replace HB := Lib.hid (below_alloc HB.out (Obj.cells #[.string y.f0, .int .i64 y.f1] 119))
          replace HK := Lib.hid (KeepT.alloc HK.out (Obj.cells #[.string y.f0, .int .i64 y.f1] 119))
          replace HX := Lib.hid (blk_alloc HX.out (Obj.cells #[.string y.f0, .int .i64 y.f1] 119))
          have hb2g : wr.heap.size ≠ g := by omega
          clear hgw2
          generalize wr.alloc (Obj.cells #[.string y.f0, .int .i64 y.f1] 119) = Wi at HI HY HB HK HX ⊢
          refine start_ (ds := ([] : List Nat)) (n := 6) (S := fun w' => w'.cell? ⟨wr.heap.size, 0, none⟩ = some (.string y.f0)) #[false, false, false, false, false, false] (by kernel_rfl) (by rfl) (by rfl) (blk_cell (blk_drew HY.out) 0) (fun hHeld => ?_)
          replace HI := Lib.hid (IsW.drew HI.out)
          replace HB := Lib.hid (below_drew1 HB.out)
          replace HK := Lib.hid (KeepT.drew HK.out)
          replace HX := Lib.hid (blk_drew HX.out)
          replace HY := Lib.hid (blk_drew HY.out)
          generalize Wi.drew = W9 at HI HB HK HX HY hHeld ⊢
          refine pure_ (i := 0) (N := some 36) (v := ?_) (a' := ?_) #[true, false, false, false, false, false] rfl rfl (by kernel_rfl) (fun _ _ _ h => h) (Or.inl ⟨by rfl, ?_⟩) ?_ ?_
          rotate_left
          · intro w'
            go_simp
            with_reducible rfl
          rotate_left
          · simp only [Act.put, List.setIfInBounds_toArray, List.set_cons_zero, List.set_cons_succ, i64_w, i32_w]
            rfl
          refine pure_ (i := 1) (N := some 37) (v := ?_) (a' := ?_) #[true, true, false, false, false, false] rfl rfl (by kernel_rfl) (fun _ _ _ h => h) (Or.inl ⟨by rfl, ?_⟩) ?_ ?_
          rotate_left
          · intro w'
            go_simp
            with_reducible rfl
          rotate_left
          · simp only [Act.put, List.setIfInBounds_toArray, List.set_cons_zero, List.set_cons_succ, i64_w, i32_w]
            rfl
          refine pure_ (i := 2) (N := some 38) (v := ?_) (a' := ?_) #[true, true, true, false, false, false] rfl rfl (by kernel_rfl) (fun _ _ _ h => h) (Or.inl ⟨by rfl, ?_⟩) ?_ ?_
          rotate_left
          · intro w'
            go_simp
            with_reducible rfl
          rotate_left
          · simp only [Act.put, List.setIfInBounds_toArray, List.set_cons_zero, List.set_cons_succ, i64_w, i32_w]
            rfl
          refine pure_ (i := 3) (N := some 39) (v := ?_) (a' := ?_) #[true, true, true, true, false, false] rfl rfl (by kernel_rfl) (fun _ _ _ h => h) (Or.inl ⟨by rfl, ?_⟩) ?_ ?_
          rotate_left
          · intro w'
            go_simp
            with_reducible rfl
          rotate_left
          · simp only [Act.put, List.setIfInBounds_toArray, List.set_cons_zero, List.set_cons_succ, i64_w, i32_w]
            rfl
          refine take_ (i := 4) (N := some 40) (v := ?_) (a' := ?_) #[true, true, true, true, true, false] rfl rfl (by kernel_rfl) (fun _ _ _ h => h) (Or.inl ⟨by rfl, ?_⟩) hHeld ?_ ?_
          rotate_left
          · rintro w' s0
            go_simp
            with_reducible rfl
          rotate_left
          · simp only [Act.put, List.setIfInBounds_toArray, List.set_cons_zero, List.set_cons_succ, i64_w, i32_w]
            rfl
          refine one_ (i := 5) (N := some 41) #[true, true, true, true, true, true] rfl rfl (by kernel_rfl) (by decide) (fun K hK => ?_)
          refine goes_ Try.func41 (by kernel_rfl) rfl #[.pointer (some ⟨g, 0, none⟩), .string y.f0] (by rfl) rfl rfl (by first | rfl | (simp only [List.map_toArray, List.map_cons, List.map_nil]; rfl)) ?_
          refine (wtext y.f0 (by have := Oy0.out; rw [data_length] at this; omega) g 86 (by decide) (B2) (by have := HLy.out; (try simp only [List.length_append] at this ⊢); omega) w0 _ HI.out HB.out).mono ?_
          rintro en w' ⟨rfl, hi, hb, hk⟩
          refine ⟨_, rfl, ?_⟩
          replace HX := Lib.hid (hk.blk HX.out (by decide) hbg)
          replace HY := Lib.hid (hk.blk HY.out (by decide) hb2g)
          replace HK := Lib.hid (HK.out.trans hk)
          replace HI := Lib.hid hi
          replace HB := Lib.hid hb
          clear hi hb hk
          refine hK.out _ _ (blk_cell HY.out 0) (fun hHeld => ?_)
          clear hK K
          refine norm_ (a' := ?_) ?_ ?_
          rotate_left
          · show Act.put _ (some 41) _ = _
            simp only [Act.put, List.setIfInBounds_toArray, List.set_cons_zero, List.set_cons_succ, i64_w, i32_w]
            rfl
          refine done_ (by kernel_rfl) ?_
          go_wp2
          refine start_ (ds := ([] : List Nat)) (n := 6) (S := fun w' => w'.cell? ⟨wr.heap.size, 1, none⟩ = some (.int .i64 y.f1)) #[false, false, false, false, false, false] (by kernel_rfl) (by rfl) (by rfl) (blk_cell (blk_drew HY.out) 1) (fun hHeld => ?_)
          replace HI := Lib.hid (IsW.drew HI.out)
          replace HB := Lib.hid (below_drew1 HB.out)
          replace HK := Lib.hid (KeepT.drew HK.out)
          replace HX := Lib.hid (blk_drew HX.out)
          replace HY := Lib.hid (blk_drew HY.out)
          generalize w'.drew = W10 at HI HB HK HX HY hHeld ⊢
          refine pure_ (i := 0) (N := some 42) (v := ?_) (a' := ?_) #[true, false, false, false, false, false] rfl rfl (by kernel_rfl) (fun _ _ _ h => h) (Or.inl ⟨by rfl, ?_⟩) ?_ ?_
          rotate_left
          · intro w'
            go_simp
            with_reducible rfl
          rotate_left
          · simp only [Act.put, List.setIfInBounds_toArray, List.set_cons_zero, List.set_cons_succ, i64_w, i32_w]
            rfl
          refine pure_ (i := 1) (N := some 43) (v := ?_) (a' := ?_) #[true, true, false, false, false, false] rfl rfl (by kernel_rfl) (fun _ _ _ h => h) (Or.inl ⟨by rfl, ?_⟩) ?_ ?_
          rotate_left
          · intro w'
            go_simp
            with_reducible rfl
          rotate_left
          · simp only [Act.put, List.setIfInBounds_toArray, List.set_cons_zero, List.set_cons_succ, i64_w, i32_w]
            rfl
          refine pure_ (i := 2) (N := some 44) (v := ?_) (a' := ?_) #[true, true, true, false, false, false] rfl rfl (by kernel_rfl) (fun _ _ _ h => h) (Or.inl ⟨by rfl, ?_⟩) ?_ ?_
          rotate_left
          · intro w'
            go_simp
            with_reducible rfl
          rotate_left
          · simp only [Act.put, List.setIfInBounds_toArray, List.set_cons_zero, List.set_cons_succ, i64_w, i32_w]
            rfl
          refine pure_ (i := 3) (N := some 45) (v := ?_) (a' := ?_) #[true, true, true, true, false, false] rfl rfl (by kernel_rfl) (fun _ _ _ h => h) (Or.inl ⟨by rfl, ?_⟩) ?_ ?_
          rotate_left
          · intro w'
            go_simp
            with_reducible rfl
          rotate_left
          · simp only [Act.put, List.setIfInBounds_toArray, List.set_cons_zero, List.set_cons_succ, i64_w, i32_w]
            rfl
          refine take_ (i := 4) (N := some 46) (v := ?_) (a' := ?_) #[true, true, true, true, true, false] rfl rfl (by kernel_rfl) (fun _ _ _ h => h) (Or.inl ⟨by rfl, ?_⟩) hHeld ?_ ?_
          rotate_left
          · rintro w' s0
            go_simp
            with_reducible rfl
          rotate_left
          · simp only [Act.put, List.setIfInBounds_toArray, List.set_cons_zero, List.set_cons_succ, i64_w, i32_w]
            rfl
          refine one_ (i := 5) (N := some 47) #[true, true, true, true, true, true] rfl rfl (by kernel_rfl) (by decide) (fun K hK => ?_)
          refine goes_ Try.func39 (by kernel_rfl) rfl #[.pointer (some ⟨g, 0, none⟩), .int .i64 y.f1] (by rfl) rfl rfl (by first | rfl | (simp only [List.map_toArray, List.map_cons, List.map_nil]; rfl)) ?_
          refine (wint y.f1 Oy1.out g 86 (by decide) (B2 ++ encT (y.f0).data.toList) (by have := HLy.out; (try simp only [List.length_append] at this ⊢); omega) w0 _ HI.out HB.out).mono ?_
          rintro en w' ⟨rfl, hi, hb, hk⟩
          refine ⟨_, rfl, ?_⟩
          replace HX := Lib.hid (hk.blk HX.out (by decide) hbg)
          replace HY := Lib.hid (hk.blk HY.out (by decide) hb2g)
          replace HK := Lib.hid (HK.out.trans hk)
          replace HI := Lib.hid hi
          replace HB := Lib.hid hb
          clear hi hb hk
          refine hK.out _ _ (blk_cell HY.out 1) (fun hHeld => ?_)
          clear hK K
          refine norm_ (a' := ?_) ?_ ?_
          rotate_left
          · show Act.put _ (some 47) _ = _
            simp only [Act.put, List.setIfInBounds_toArray, List.set_cons_zero, List.set_cons_succ, i64_w, i32_w]
            rfl
          refine done_ (by kernel_rfl) ?_
          go_wp2
          go_roundw
          case rel => exact ⟨k2 + 1, by go_num, by omega, Lib.hid (by have h1 := HI.out; rw [flat_take_succ _ _ _ _ HNy.out, ← List.append_assoc, HBS2.out]; unfold enc_lot; (try simp only [List.append_assoc] at h1 ⊢); exact h1), HB, HK, HX⟩
          case measure => simp [intOf]; omega
        · have hkn2 : k2 = x.f1.length := by omega
          subst hkn2
          replace HI := Lib.hid (by have h1 := HI.out; rw [List.take_length] at h1; exact h1)
          clear hk2 hlt2
          go_wp2
          go_wp2
          go_roundw
          case rel => exact ⟨k + 1, by go_num, by omega, Lib.hid (by have h1 := HI.out; rw [flat_take_succ _ _ _ _ HNx.out, ← List.append_assoc, HBS.out]; unfold enc_covers; (try simp only [List.append_assoc] at h1 ⊢); exact h1), HB, HK⟩
          case measure => simp [intOf]; omega
    · have hkn : k = xs.length := by omega
      subst hkn
      go_wp2
      first | go_end0 | ((try simp only [Exit.inBlock, Exit.then]); refine bodyPost_ret (results_none rfl _ _ _) rfl ?_)
      have h1 := HI.out
      rw [List.take_length, List.append_assoc] at h1
      exact ⟨rfl, h1, HB.out, HK.out⟩
end Go.Proofs.Ytlkfbdeddfhocaa
