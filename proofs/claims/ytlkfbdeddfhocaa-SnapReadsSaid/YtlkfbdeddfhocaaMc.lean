/- What encoder.members writes. Conditions: at most 1000000 items, at most 10^8 bytes in all. Written by genenc.py. What encoder.assets writes. Conditions: at most 1000000 items, at most 10^8 bytes in all. Written by genenc.py. What encoder.prices writes. Conditions: at most 1000000 items, at most 10^8 bytes in all. Written by genenc.py. What encoder.balances writes. Conditions: at most 1000000 items, at most 10^8 bytes in all. Written by genenc.py. What encoder.quotes writes. Conditions: at most 1000000 items, at most 10^8 bytes in all. Written by genenc.py. -/
import Derived.Test.YtlkfbdeddfhocaaMa
set_option linter.unusedVariables false
set_option linter.unusedSimpArgs false
namespace Go.Proofs.Ytlkfbdeddfhocaa
open Go.Proofs Go.RowKit Go.Proofs.YtlkfbdeddfhocaaW.PrintWords Go.Proofs.YtlkfbdeddfhocaaW.PrintLast Go.Proofs.YtlkfbdeddfhocaaW.PrintMore Q

def enc_members (x : S68) : List UInt8 := [x.f0, x.f2, x.f3].flatMap encI ++ encT (x.f1).data.toList ++ encB x.f4
def ok_members (x : S68) : Prop := isI64 x.f0 ∧ (x.f1).data.toList.length ≤ 160 ∧ isI64 x.f2 ∧ isI64 x.f3
set_option maxHeartbeats 8000000 in
set_option maxRecDepth 1000000 in
theorem emembers (xs : List S68) (hok : ∀ x ∈ xs, ok_members x) (hm : xs.length ≤ 1000000) (A : Option Addr) (c : Nat) (g : Nat) (bs : List UInt8) (hl : bs.length + (encL enc_members xs).length ≤ 100000000) (w0 w : World) (hI : IsW w0 w g 86 bs) (hB : Below w0.heap.size w0 w) (hR : Kd.C k68 w0 A xs.length xs) :
    Calls Try.prog 13 #[.pointer (some ⟨g, 0, none⟩), .slice A xs.length c] w fun en w' => en = .returned (.tuple #[]) ∧ IsW w0 w' g 86 (bs ++ encL enc_members xs) ∧ Below w0.heap.size w0 w' ∧ KeepT w w' g := by
  have HR := Lib.hid hR
  have hl2 : bs.length + (encU xs.length).length + (xs.flatMap enc_members).length ≤ 100000000 := by unfold encL at hl; rw [List.length_append] at hl; omega
  have HL := Lib.hid hl2
  have HOK := Lib.hid hok
  have HC := Lib.hid (wcount xs.length (by omega) g 86 (by decide) bs (by omega) w0 w hI hB)
  clear hI hB hR hl hl2 hok
  go_enter Try.func13, Try.ntmps13
  go_wp2_with (go_at_call 40; refine (HC.out).mono ?_; rintro en w1 ⟨rfl, h1, h2, h3⟩; have HI := Lib.hid h1; have HB := Lib.hid h2; have HK := Lib.hid h3; clear h1 h2 h3)
  go_loopw [5, 12] (fun m i wr => ∃ (k : Nat), i = .int .i64 k ∧ k ≤ xs.length ∧ Hid (IsW w0 wr g 86 (bs ++ encU xs.length ++ (xs.take k).flatMap enc_members)) ∧ Hid (Below w0.heap.size w0 wr) ∧ Hid (KeepT w wr g)) (fun _ i _ => xs.length - (intOf i).toNat)
  case atStart => exact ⟨0, rfl, Nat.zero_le _, Lib.hid (by simpa using HI.out), HB, HK⟩
  case round =>
    clear HI HB HC HK
    obtain ⟨k, rfl, hk, HI, HB, HK⟩ := hrel
    by_cases hlt : k < xs.length
    · obtain ⟨x, hx⟩ : ∃ x, xs[k]? = some x := ⟨_, List.getElem?_eq_getElem hlt⟩
      have hox_x := HOK.out x (List.mem_of_getElem? hx)
      have hpart_x := part_le enc_members xs k x hx
      have HLx : Hid ((bs ++ encU xs.length ++ (xs.take k).flatMap enc_members).length + (enc_members x).length ≤ 100000000) := Lib.hid (by have := HL.out; rw [List.length_append, List.length_append]; omega)
      obtain ⟨ad, rfl, hd0, hd1, hd2, hd3, hd4⟩ := at_T68 HR.out k (by omega) (by omega)
      have hrd_x : rd_T68 xs (k : Int) = x := by unfold rd_T68; rw [Int.toNat_natCast, List.getD_eq_getElem?_getD, hx]; rfl
      rw [hrd_x, Int.toNat_natCast] at hd0 hd1 hd2 hd3 hd4
      replace hd0 := cell_old HB.out hd0
      replace hd1 := cell_old HB.out hd1
      replace hd2 := cell_old HB.out hd2
      replace hd3 := cell_old HB.out hd3
      replace hd4 := cell_old HB.out hd4
      have HNx := Lib.hid hx
      have HOx := Lib.hid hox_x
      clear hx hrd_x hpart_x hox_x
      generalize hB : bs ++ encU xs.length ++ (xs.take k).flatMap enc_members = B at HI HLx
      have HBS := Lib.hid hB
      clear hB
      replace HLx : Hid (B.length + ([x.f0, x.f2, x.f3].flatMap encI ++ encT (x.f1).data.toList ++ encB x.f4).length ≤ 100000000) := HLx
      obtain ⟨ox0, ox1, ox2, ox3⟩ := HOx.out
      have Ox0 := Lib.hid ox0
      clear ox0
      have Ox1 := Lib.hid ox1
      clear ox1
      have Ox2 := Lib.hid ox2
      clear ox2
      have Ox3 := Lib.hid ox3
      clear ox3
      have hgw := HI.out.lt
      replace HI := Lib.hid (IsW.alloc HI.out (Obj.cells #[.int .i64 x.f0, .string x.f1, .int .i64 x.f2, .int .i64 x.f3, .bool x.f4] 68))
      have HX := Lib.hid (blk_new wr (Obj.cells #[.int .i64 x.f0, .string x.f1, .int .i64 x.f2, .int .i64 x.f3, .bool x.f4] 68))
      replace HB := Lib.hid (below_alloc HB.out (Obj.cells #[.int .i64 x.f0, .string x.f1, .int .i64 x.f2, .int .i64 x.f3, .bool x.f4] 68))
      replace HK := Lib.hid (KeepT.alloc HK.out (Obj.cells #[.int .i64 x.f0, .string x.f1, .int .i64 x.f2, .int .i64 x.f3, .bool x.f4] 68))
      have hbg : wr.heap.size ≠ g := by omega
      clear hgw
      have hc_HX_0 := blk_cell HX.out 0
      have hc_HX_2 := blk_cell HX.out 2
      have hc_HX_3 := blk_cell HX.out 3
      go_wp2_with (go_at_call 12; refine (wints_call [x.f0, x.f2, x.f3] 3 rfl (by intro z hz; simp only [List.mem_cons, List.not_mem_nil, or_false] at hz; rcases hz with rfl | rfl | rfl; all_goals first | exact Ox0.out | exact Ox2.out | exact Ox3.out) (by simp) _ _ g 86 (by decide) (B) (by have := HLx.out; simp only [List.length_append] at this ⊢; omega) w0 _ (IsW.alloc HI.out _) (below_alloc HB.out _) (reads_blk (blk_newb _ _ _ (by simp)) rfl (by have := HI.out.lt; (try simp at this); omega) (by simp))).mono ?_; rintro en w1 ⟨rfl, h1, h2, h3⟩; replace HX := Lib.hid (h3.blk (blk_alloc HX.out _) (by decide) hbg); replace HK := Lib.hid ((HK.out.alloc _).trans h3); replace HI := Lib.hid h1; replace HB := Lib.hid h2; clear h1 h2 h3 hc_HX_0 hc_HX_2 hc_HX_3)
      refine start_ (ds := ([] : List Nat)) (n := 6) (S := fun w' => w'.cell? ⟨wr.heap.size, 1, none⟩ = some (.string x.f1)) #[false, false, false, false, false, false] (by kernel_rfl) (by rfl) (by rfl) (blk_cell (blk_drew HX.out) 1) (fun hHeld => ?_)
      replace HI := Lib.hid (IsW.drew HI.out)
      replace HB := Lib.hid (below_drew1 HB.out)
      replace HK := Lib.hid (KeepT.drew HK.out)
      replace HX := Lib.hid (blk_drew HX.out)
      generalize w1.drew = W5 at HI HB HK HX hHeld ⊢
      refine pure_ (i := 0) (N := some 25) (v := ?_) (a' := ?_) #[true, false, false, false, false, false] rfl rfl (by kernel_rfl) (fun _ _ _ h => h) (Or.inl ⟨by rfl, ?_⟩) ?_ ?_
      rotate_left
      · intro w'
        go_simp
        with_reducible rfl
      rotate_left
      · simp only [Act.put, List.setIfInBounds_toArray, List.set_cons_zero, List.set_cons_succ, i64_w, i32_w]
        rfl
      refine pure_ (i := 1) (N := some 26) (v := ?_) (a' := ?_) #[true, true, false, false, false, false] rfl rfl (by kernel_rfl) (fun _ _ _ h => h) (Or.inl ⟨by rfl, ?_⟩) ?_ ?_
      rotate_left
      · intro w'
        go_simp
        with_reducible rfl
      rotate_left
      · simp only [Act.put, List.setIfInBounds_toArray, List.set_cons_zero, List.set_cons_succ, i64_w, i32_w]
        rfl
      refine pure_ (i := 2) (N := some 27) (v := ?_) (a' := ?_) #[true, true, true, false, false, false] rfl rfl (by kernel_rfl) (fun _ _ _ h => h) (Or.inl ⟨by rfl, ?_⟩) ?_ ?_
      rotate_left
      · intro w'
        go_simp
        with_reducible rfl
      rotate_left
      · simp only [Act.put, List.setIfInBounds_toArray, List.set_cons_zero, List.set_cons_succ, i64_w, i32_w]
        rfl
      refine pure_ (i := 3) (N := some 28) (v := ?_) (a' := ?_) #[true, true, true, true, false, false] rfl rfl (by kernel_rfl) (fun _ _ _ h => h) (Or.inl ⟨by rfl, ?_⟩) ?_ ?_
      rotate_left
      · intro w'
        go_simp
        with_reducible rfl
      rotate_left
      · simp only [Act.put, List.setIfInBounds_toArray, List.set_cons_zero, List.set_cons_succ, i64_w, i32_w]
        rfl
      refine take_ (i := 4) (N := some 29) (v := ?_) (a' := ?_) #[true, true, true, true, true, false] rfl rfl (by kernel_rfl) (fun _ _ _ h => h) (Or.inl ⟨by rfl, ?_⟩) hHeld ?_ ?_
      rotate_left
      · rintro w' s0
        go_simp
        with_reducible rfl
      rotate_left
      · simp only [Act.put, List.setIfInBounds_toArray, List.set_cons_zero, List.set_cons_succ, i64_w, i32_w]
        rfl
      refine one_ (i := 5) (N := some 30) #[true, true, true, true, true, true] rfl rfl (by kernel_rfl) (by decide) (fun K hK => ?_)
      refine goes_ Try.func41 (by kernel_rfl) rfl #[.pointer (some ⟨g, 0, none⟩), .string x.f1] (by rfl) rfl rfl (by first | rfl | (simp only [List.map_toArray, List.map_cons, List.map_nil]; rfl)) ?_
      refine (wtext x.f1 (by have := Ox1.out; rw [data_length] at this; omega) g 86 (by decide) (B ++ [x.f0, x.f2, x.f3].flatMap encI) (by have := HLx.out; simp only [List.length_append] at this ⊢; omega) w0 _ HI.out HB.out).mono ?_
      rintro en w' ⟨rfl, hi, hb, hk⟩
      refine ⟨_, rfl, ?_⟩
      replace HX := Lib.hid (hk.blk HX.out (by decide) hbg)
      replace HK := Lib.hid (HK.out.trans hk)
      replace HI := Lib.hid hi
      replace HB := Lib.hid hb
      clear hi hb hk
      refine hK.out _ _ (blk_cell HX.out 1) (fun hHeld => ?_)
      clear hK K
      refine norm_ (a' := ?_) ?_ ?_
      rotate_left
      · show Act.put _ (some 30) _ = _
        simp only [Act.put, List.setIfInBounds_toArray, List.set_cons_zero, List.set_cons_succ, i64_w, i32_w]
        rfl
      refine done_ (by kernel_rfl) ?_
      go_wp2
      refine start_ (ds := ([] : List Nat)) (n := 6) (S := fun w' => w'.cell? ⟨wr.heap.size, 4, none⟩ = some (.bool x.f4)) #[false, false, false, false, false, false] (by kernel_rfl) (by rfl) (by rfl) (blk_cell (blk_drew HX.out) 4) (fun hHeld => ?_)
      replace HI := Lib.hid (IsW.drew HI.out)
      replace HB := Lib.hid (below_drew1 HB.out)
      replace HK := Lib.hid (KeepT.drew HK.out)
      replace HX := Lib.hid (blk_drew HX.out)
      generalize w'.drew = W6 at HI HB HK HX hHeld ⊢
      refine pure_ (i := 0) (N := some 31) (v := ?_) (a' := ?_) #[true, false, false, false, false, false] rfl rfl (by kernel_rfl) (fun _ _ _ h => h) (Or.inl ⟨by rfl, ?_⟩) ?_ ?_
      rotate_left
      · intro w'
        go_simp
        with_reducible rfl
      rotate_left
      · simp only [Act.put, List.setIfInBounds_toArray, List.set_cons_zero, List.set_cons_succ, i64_w, i32_w]
        rfl
      refine pure_ (i := 1) (N := some 32) (v := ?_) (a' := ?_) #[true, true, false, false, false, false] rfl rfl (by kernel_rfl) (fun _ _ _ h => h) (Or.inl ⟨by rfl, ?_⟩) ?_ ?_
      rotate_left
      · intro w'
        go_simp
        with_reducible rfl
      rotate_left
      · simp only [Act.put, List.setIfInBounds_toArray, List.set_cons_zero, List.set_cons_succ, i64_w, i32_w]
        rfl
      refine pure_ (i := 2) (N := some 33) (v := ?_) (a' := ?_) #[true, true, true, false, false, false] rfl rfl (by kernel_rfl) (fun _ _ _ h => h) (Or.inl ⟨by rfl, ?_⟩) ?_ ?_
      rotate_left
      · intro w'
        go_simp
        with_reducible rfl
      rotate_left
      · simp only [Act.put, List.setIfInBounds_toArray, List.set_cons_zero, List.set_cons_succ, i64_w, i32_w]
        rfl
      refine pure_ (i := 3) (N := some 34) (v := ?_) (a' := ?_) #[true, true, true, true, false, false] rfl rfl (by kernel_rfl) (fun _ _ _ h => h) (Or.inl ⟨by rfl, ?_⟩) ?_ ?_
      rotate_left
      · intro w'
        go_simp
        with_reducible rfl
      rotate_left
      · simp only [Act.put, List.setIfInBounds_toArray, List.set_cons_zero, List.set_cons_succ, i64_w, i32_w]
        rfl
      refine take_ (i := 4) (N := some 35) (v := ?_) (a' := ?_) #[true, true, true, true, true, false] rfl rfl (by kernel_rfl) (fun _ _ _ h => h) (Or.inl ⟨by rfl, ?_⟩) hHeld ?_ ?_
      rotate_left
      · rintro w' s0
        go_simp
        with_reducible rfl
      rotate_left
      · simp only [Act.put, List.setIfInBounds_toArray, List.set_cons_zero, List.set_cons_succ, i64_w, i32_w]
        rfl
      refine one_ (i := 5) (N := some 36) #[true, true, true, true, true, true] rfl rfl (by kernel_rfl) (by decide) (fun K hK => ?_)
      refine goes_ Try.func42 (by kernel_rfl) rfl #[.pointer (some ⟨g, 0, none⟩), .bool x.f4] (by rfl) rfl rfl (by first | rfl | (simp only [List.map_toArray, List.map_cons, List.map_nil]; rfl)) ?_
      refine (wbool x.f4 g 86 (by decide) (B ++ [x.f0, x.f2, x.f3].flatMap encI ++ encT (x.f1).data.toList) (by have := HLx.out; simp only [List.length_append] at this ⊢; omega) w0 _ HI.out HB.out).mono ?_
      rintro en w' ⟨rfl, hi, hb, hk⟩
      refine ⟨_, rfl, ?_⟩
      replace HX := Lib.hid (hk.blk HX.out (by decide) hbg)
      replace HK := Lib.hid (HK.out.trans hk)
      replace HI := Lib.hid hi
      replace HB := Lib.hid hb
      clear hi hb hk
      refine hK.out _ _ (blk_cell HX.out 4) (fun hHeld => ?_)
      clear hK K
      refine norm_ (a' := ?_) ?_ ?_
      rotate_left
      · show Act.put _ (some 36) _ = _
        simp only [Act.put, List.setIfInBounds_toArray, List.set_cons_zero, List.set_cons_succ, i64_w, i32_w]
        rfl
      refine done_ (by kernel_rfl) ?_
      go_wp2
      go_roundw
      case rel => exact ⟨k + 1, by go_num, by omega, Lib.hid (by have h1 := HI.out; rw [flat_take_succ _ _ _ _ HNx.out, ← List.append_assoc, HBS.out]; unfold enc_members; simp only [List.append_assoc] at h1 ⊢; exact h1), HB, HK⟩
      case measure => simp [intOf]; omega
    · have hkn : k = xs.length := by omega
      subst hkn
      go_wp2
      first | go_end0 | ((try simp only [Exit.inBlock, Exit.then]); refine bodyPost_ret (results_none rfl _ _ _) rfl ?_)
      have h1 := HI.out
      rw [List.take_length, List.append_assoc] at h1
      exact ⟨rfl, h1, HB.out, HK.out⟩
end Go.Proofs.Ytlkfbdeddfhocaa

set_option linter.unusedVariables false
set_option linter.unusedSimpArgs false
namespace Go.Proofs.Ytlkfbdeddfhocaa
open Go.Proofs Go.RowKit Go.Proofs.YtlkfbdeddfhocaaW.PrintWords Go.Proofs.YtlkfbdeddfhocaaW.PrintLast Go.Proofs.YtlkfbdeddfhocaaW.PrintMore Q

def enc_assets (x : S57) : List UInt8 := encT (x.f0).data.toList ++ [x.f1, x.f2, x.f3].flatMap encI ++ encT (x.f4).data.toList
def ok_assets (x : S57) : Prop := (x.f0).data.toList.length ≤ 160 ∧ isI64 x.f1 ∧ isI64 x.f2 ∧ isI64 x.f3 ∧ (x.f4).data.toList.length ≤ 160
set_option maxHeartbeats 8000000 in
set_option maxRecDepth 1000000 in
theorem eassets (xs : List S57) (hok : ∀ x ∈ xs, ok_assets x) (hm : xs.length ≤ 1000000) (A : Option Addr) (c : Nat) (g : Nat) (bs : List UInt8) (hl : bs.length + (encL enc_assets xs).length ≤ 100000000) (w0 w : World) (hI : IsW w0 w g 86 bs) (hB : Below w0.heap.size w0 w) (hR : Kd.C k57 w0 A xs.length xs) :
    Calls Try.prog 14 #[.pointer (some ⟨g, 0, none⟩), .slice A xs.length c] w fun en w' => en = .returned (.tuple #[]) ∧ IsW w0 w' g 86 (bs ++ encL enc_assets xs) ∧ Below w0.heap.size w0 w' ∧ KeepT w w' g := by
  have HR := Lib.hid hR
  have hl2 : bs.length + (encU xs.length).length + (xs.flatMap enc_assets).length ≤ 100000000 := by unfold encL at hl; rw [List.length_append] at hl; omega
  have HL := Lib.hid hl2
  have HOK := Lib.hid hok
  have HC := Lib.hid (wcount xs.length (by omega) g 86 (by decide) bs (by omega) w0 w hI hB)
  clear hI hB hR hl hl2 hok
  go_enter Try.func14, Try.ntmps14
  go_wp2_with (go_at_call 40; refine (HC.out).mono ?_; rintro en w1 ⟨rfl, h1, h2, h3⟩; have HI := Lib.hid h1; have HB := Lib.hid h2; have HK := Lib.hid h3; clear h1 h2 h3)
  go_loopw [5, 12] (fun m i wr => ∃ (k : Nat), i = .int .i64 k ∧ k ≤ xs.length ∧ Hid (IsW w0 wr g 86 (bs ++ encU xs.length ++ (xs.take k).flatMap enc_assets)) ∧ Hid (Below w0.heap.size w0 wr) ∧ Hid (KeepT w wr g)) (fun _ i _ => xs.length - (intOf i).toNat)
  case atStart => exact ⟨0, rfl, Nat.zero_le _, Lib.hid (by simpa using HI.out), HB, HK⟩
  case round =>
    clear HI HB HC HK
    obtain ⟨k, rfl, hk, HI, HB, HK⟩ := hrel
    by_cases hlt : k < xs.length
    · obtain ⟨x, hx⟩ : ∃ x, xs[k]? = some x := ⟨_, List.getElem?_eq_getElem hlt⟩
      have hox_x := HOK.out x (List.mem_of_getElem? hx)
      have hpart_x := part_le enc_assets xs k x hx
      have HLx : Hid ((bs ++ encU xs.length ++ (xs.take k).flatMap enc_assets).length + (enc_assets x).length ≤ 100000000) := Lib.hid (by have := HL.out; rw [List.length_append, List.length_append]; omega)
      obtain ⟨ad, rfl, hd0, hd1, hd2, hd3, hd4⟩ := at_T57 HR.out k (by omega) (by omega)
      have hrd_x : rd_T57 xs (k : Int) = x := by unfold rd_T57; rw [Int.toNat_natCast, List.getD_eq_getElem?_getD, hx]; rfl
      rw [hrd_x, Int.toNat_natCast] at hd0 hd1 hd2 hd3 hd4
      replace hd0 := cell_old HB.out hd0
      replace hd1 := cell_old HB.out hd1
      replace hd2 := cell_old HB.out hd2
      replace hd3 := cell_old HB.out hd3
      replace hd4 := cell_old HB.out hd4
      have HNx := Lib.hid hx
      have HOx := Lib.hid hox_x
      clear hx hrd_x hpart_x hox_x
      generalize hB : bs ++ encU xs.length ++ (xs.take k).flatMap enc_assets = B at HI HLx
      have HBS := Lib.hid hB
      clear hB
      replace HLx : Hid (B.length + (encT (x.f0).data.toList ++ [x.f1, x.f2, x.f3].flatMap encI ++ encT (x.f4).data.toList).length ≤ 100000000) := HLx
      obtain ⟨ox0, ox1, ox2, ox3, ox4⟩ := HOx.out
      have Ox0 := Lib.hid ox0
      clear ox0
      have Ox1 := Lib.hid ox1
      clear ox1
      have Ox2 := Lib.hid ox2
      clear ox2
      have Ox3 := Lib.hid ox3
      clear ox3
      have Ox4 := Lib.hid ox4
      clear ox4
      have hgw := HI.out.lt
      go_wp2
      replace HI := Lib.hid (IsW.alloc HI.out (Obj.cells #[.string x.f0, .int .i64 x.f1, .int .i64 x.f2, .int .i64 x.f3, .string x.f4] 57))
      have HX := Lib.hid (blk_new wr (Obj.cells #[.string x.f0, .int .i64 x.f1, .int .i64 x.f2, .int .i64 x.f3, .string x.f4] 57))
      replace HB := Lib.hid (below_alloc HB.out (Obj.cells #[.string x.f0, .int .i64 x.f1, .int .i64 x.f2, .int .i64 x.f3, .string x.f4] 57))
      replace HK := Lib.hid (KeepT.alloc HK.out (Obj.cells #[.string x.f0, .int .i64 x.f1, .int .i64 x.f2, .int .i64 x.f3, .string x.f4] 57))
      have hbg : wr.heap.size ≠ g := by omega
      clear hgw
      generalize wr.alloc (Obj.cells #[.string x.f0, .int .i64 x.f1, .int .i64 x.f2, .int .i64 x.f3, .string x.f4] 57) = Wo at HI HX HB HK  ⊢
      refine start_ (ds := ([] : List Nat)) (n := 6) (S := fun w' => w'.cell? ⟨wr.heap.size, 0, none⟩ = some (.string x.f0)) #[false, false, false, false, false, false] (by kernel_rfl) (by rfl) (by rfl) (blk_cell (blk_drew HX.out) 0) (fun hHeld => ?_)
      replace HI := Lib.hid (IsW.drew HI.out)
      replace HB := Lib.hid (below_drew1 HB.out)
      replace HK := Lib.hid (KeepT.drew HK.out)
      replace HX := Lib.hid (blk_drew HX.out)
      generalize Wo.drew = W4 at HI HB HK HX hHeld ⊢
      refine pure_ (i := 0) (N := some 16) (v := ?_) (a' := ?_) #[true, false, false, false, false, false] rfl rfl (by kernel_rfl) (fun _ _ _ h => h) (Or.inl ⟨by rfl, ?_⟩) ?_ ?_
      rotate_left
      · intro w'
        go_simp
        with_reducible rfl
      rotate_left
      · simp only [Act.put, List.setIfInBounds_toArray, List.set_cons_zero, List.set_cons_succ, i64_w, i32_w]
        rfl
      refine pure_ (i := 1) (N := some 17) (v := ?_) (a' := ?_) #[true, true, false, false, false, false] rfl rfl (by kernel_rfl) (fun _ _ _ h => h) (Or.inl ⟨by rfl, ?_⟩) ?_ ?_
      rotate_left
      · intro w'
        go_simp
        with_reducible rfl
      rotate_left
      · simp only [Act.put, List.setIfInBounds_toArray, List.set_cons_zero, List.set_cons_succ, i64_w, i32_w]
        rfl
      refine pure_ (i := 2) (N := some 18) (v := ?_) (a' := ?_) #[true, true, true, false, false, false] rfl rfl (by kernel_rfl) (fun _ _ _ h => h) (Or.inl ⟨by rfl, ?_⟩) ?_ ?_
      rotate_left
      · intro w'
        go_simp
        with_reducible rfl
      rotate_left
      · simp only [Act.put, List.setIfInBounds_toArray, List.set_cons_zero, List.set_cons_succ, i64_w, i32_w]
        rfl
      refine pure_ (i := 3) (N := some 19) (v := ?_) (a' := ?_) #[true, true, true, true, false, false] rfl rfl (by kernel_rfl) (fun _ _ _ h => h) (Or.inl ⟨by rfl, ?_⟩) ?_ ?_
      rotate_left
      · intro w'
        go_simp
        with_reducible rfl
      rotate_left
      · simp only [Act.put, List.setIfInBounds_toArray, List.set_cons_zero, List.set_cons_succ, i64_w, i32_w]
        rfl
      refine take_ (i := 4) (N := some 20) (v := ?_) (a' := ?_) #[true, true, true, true, true, false] rfl rfl (by kernel_rfl) (fun _ _ _ h => h) (Or.inl ⟨by rfl, ?_⟩) hHeld ?_ ?_
      rotate_left
      · rintro w' s0
        go_simp
        with_reducible rfl
      rotate_left
      · simp only [Act.put, List.setIfInBounds_toArray, List.set_cons_zero, List.set_cons_succ, i64_w, i32_w]
        rfl
      refine one_ (i := 5) (N := some 21) #[true, true, true, true, true, true] rfl rfl (by kernel_rfl) (by decide) (fun K hK => ?_)
      refine goes_ Try.func41 (by kernel_rfl) rfl #[.pointer (some ⟨g, 0, none⟩), .string x.f0] (by rfl) rfl rfl (by first | rfl | (simp only [List.map_toArray, List.map_cons, List.map_nil]; rfl)) ?_
      refine (wtext x.f0 (by have := Ox0.out; rw [data_length] at this; omega) g 86 (by decide) (B) (by have := HLx.out; simp only [List.length_append] at this ⊢; omega) w0 _ HI.out HB.out).mono ?_
      rintro en w' ⟨rfl, hi, hb, hk⟩
      refine ⟨_, rfl, ?_⟩
      replace HX := Lib.hid (hk.blk HX.out (by decide) hbg)
      replace HK := Lib.hid (HK.out.trans hk)
      replace HI := Lib.hid hi
      replace HB := Lib.hid hb
      clear hi hb hk
      refine hK.out _ _ (blk_cell HX.out 0) (fun hHeld => ?_)
      clear hK K
      refine norm_ (a' := ?_) ?_ ?_
      rotate_left
      · show Act.put _ (some 21) _ = _
        simp only [Act.put, List.setIfInBounds_toArray, List.set_cons_zero, List.set_cons_succ, i64_w, i32_w]
        rfl
      refine done_ (by kernel_rfl) ?_
      have hc_HX_1 := blk_cell HX.out 1
      have hc_HX_2 := blk_cell HX.out 2
      have hc_HX_3 := blk_cell HX.out 3
      go_wp2_with (go_at_call 12; refine (wints_call [x.f1, x.f2, x.f3] 3 rfl (by intro z hz; simp only [List.mem_cons, List.not_mem_nil, or_false] at hz; rcases hz with rfl | rfl | rfl; all_goals first | exact Ox1.out | exact Ox2.out | exact Ox3.out) (by simp) _ _ g 86 (by decide) (B ++ encT (x.f0).data.toList) (by have := HLx.out; simp only [List.length_append] at this ⊢; omega) w0 _ (IsW.alloc HI.out _) (below_alloc HB.out _) (reads_blk (blk_newb _ _ _ (by simp)) rfl (by have := HI.out.lt; (try simp at this); omega) (by simp))).mono ?_; rintro en w1 ⟨rfl, h1, h2, h3⟩; replace HX := Lib.hid (h3.blk (blk_alloc HX.out _) (by decide) hbg); replace HK := Lib.hid ((HK.out.alloc _).trans h3); replace HI := Lib.hid h1; replace HB := Lib.hid h2; clear h1 h2 h3 hc_HX_1 hc_HX_2 hc_HX_3)
      refine start_ (ds := ([] : List Nat)) (n := 6) (S := fun w' => w'.cell? ⟨wr.heap.size, 4, none⟩ = some (.string x.f4)) #[false, false, false, false, false, false] (by kernel_rfl) (by rfl) (by rfl) (blk_cell (blk_drew HX.out) 4) (fun hHeld => ?_)
      replace HI := Lib.hid (IsW.drew HI.out)
      replace HB := Lib.hid (below_drew1 HB.out)
      replace HK := Lib.hid (KeepT.drew HK.out)
      replace HX := Lib.hid (blk_drew HX.out)
      generalize w1.drew = W6 at HI HB HK HX hHeld ⊢
      refine pure_ (i := 0) (N := some 31) (v := ?_) (a' := ?_) #[true, false, false, false, false, false] rfl rfl (by kernel_rfl) (fun _ _ _ h => h) (Or.inl ⟨by rfl, ?_⟩) ?_ ?_
      rotate_left
      · intro w'
        go_simp
        with_reducible rfl
      rotate_left
      · simp only [Act.put, List.setIfInBounds_toArray, List.set_cons_zero, List.set_cons_succ, i64_w, i32_w]
        rfl
      refine pure_ (i := 1) (N := some 32) (v := ?_) (a' := ?_) #[true, true, false, false, false, false] rfl rfl (by kernel_rfl) (fun _ _ _ h => h) (Or.inl ⟨by rfl, ?_⟩) ?_ ?_
      rotate_left
      · intro w'
        go_simp
        with_reducible rfl
      rotate_left
      · simp only [Act.put, List.setIfInBounds_toArray, List.set_cons_zero, List.set_cons_succ, i64_w, i32_w]
        rfl
      refine pure_ (i := 2) (N := some 33) (v := ?_) (a' := ?_) #[true, true, true, false, false, false] rfl rfl (by kernel_rfl) (fun _ _ _ h => h) (Or.inl ⟨by rfl, ?_⟩) ?_ ?_
      rotate_left
      · intro w'
        go_simp
        with_reducible rfl
      rotate_left
      · simp only [Act.put, List.setIfInBounds_toArray, List.set_cons_zero, List.set_cons_succ, i64_w, i32_w]
        rfl
      refine pure_ (i := 3) (N := some 34) (v := ?_) (a' := ?_) #[true, true, true, true, false, false] rfl rfl (by kernel_rfl) (fun _ _ _ h => h) (Or.inl ⟨by rfl, ?_⟩) ?_ ?_
      rotate_left
      · intro w'
        go_simp
        with_reducible rfl
      rotate_left
      · simp only [Act.put, List.setIfInBounds_toArray, List.set_cons_zero, List.set_cons_succ, i64_w, i32_w]
        rfl
      refine take_ (i := 4) (N := some 35) (v := ?_) (a' := ?_) #[true, true, true, true, true, false] rfl rfl (by kernel_rfl) (fun _ _ _ h => h) (Or.inl ⟨by rfl, ?_⟩) hHeld ?_ ?_
      rotate_left
      · rintro w' s0
        go_simp
        with_reducible rfl
      rotate_left
      · simp only [Act.put, List.setIfInBounds_toArray, List.set_cons_zero, List.set_cons_succ, i64_w, i32_w]
        rfl
      refine one_ (i := 5) (N := some 36) #[true, true, true, true, true, true] rfl rfl (by kernel_rfl) (by decide) (fun K hK => ?_)
      refine goes_ Try.func41 (by kernel_rfl) rfl #[.pointer (some ⟨g, 0, none⟩), .string x.f4] (by rfl) rfl rfl (by first | rfl | (simp only [List.map_toArray, List.map_cons, List.map_nil]; rfl)) ?_
      refine (wtext x.f4 (by have := Ox4.out; rw [data_length] at this; omega) g 86 (by decide) (B ++ encT (x.f0).data.toList ++ [x.f1, x.f2, x.f3].flatMap encI) (by have := HLx.out; simp only [List.length_append] at this ⊢; omega) w0 _ HI.out HB.out).mono ?_
      rintro en w' ⟨rfl, hi, hb, hk⟩
      refine ⟨_, rfl, ?_⟩
      replace HX := Lib.hid (hk.blk HX.out (by decide) hbg)
      replace HK := Lib.hid (HK.out.trans hk)
      replace HI := Lib.hid hi
      replace HB := Lib.hid hb
      clear hi hb hk
      refine hK.out _ _ (blk_cell HX.out 4) (fun hHeld => ?_)
      clear hK K
      refine norm_ (a' := ?_) ?_ ?_
      rotate_left
      · show Act.put _ (some 36) _ = _
        simp only [Act.put, List.setIfInBounds_toArray, List.set_cons_zero, List.set_cons_succ, i64_w, i32_w]
        rfl
      refine done_ (by kernel_rfl) ?_
      go_wp2
      go_roundw
      case rel => exact ⟨k + 1, by go_num, by omega, Lib.hid (by have h1 := HI.out; rw [flat_take_succ _ _ _ _ HNx.out, ← List.append_assoc, HBS.out]; unfold enc_assets; simp only [List.append_assoc] at h1 ⊢; exact h1), HB, HK⟩
      case measure => simp [intOf]; omega
    · have hkn : k = xs.length := by omega
      subst hkn
      go_wp2
      first | go_end0 | ((try simp only [Exit.inBlock, Exit.then]); refine bodyPost_ret (results_none rfl _ _ _) rfl ?_)
      have h1 := HI.out
      rw [List.take_length, List.append_assoc] at h1
      exact ⟨rfl, h1, HB.out, HK.out⟩
end Go.Proofs.Ytlkfbdeddfhocaa

set_option linter.unusedVariables false
set_option linter.unusedSimpArgs false
namespace Go.Proofs.Ytlkfbdeddfhocaa
open Go.Proofs Go.RowKit Go.Proofs.YtlkfbdeddfhocaaW.PrintWords Go.Proofs.YtlkfbdeddfhocaaW.PrintLast Go.Proofs.YtlkfbdeddfhocaaW.PrintMore Q

def enc_prices (x : S70) : List UInt8 := encT (x.f0).data.toList ++ encI x.f1
def ok_prices (x : S70) : Prop := (x.f0).data.toList.length ≤ 160 ∧ isI64 x.f1
set_option maxHeartbeats 8000000 in
set_option maxRecDepth 1000000 in
theorem eprices (xs : List S70) (hok : ∀ x ∈ xs, ok_prices x) (hm : xs.length ≤ 1000000) (A : Option Addr) (c : Nat) (g : Nat) (bs : List UInt8) (hl : bs.length + (encL enc_prices xs).length ≤ 100000000) (w0 w : World) (hI : IsW w0 w g 86 bs) (hB : Below w0.heap.size w0 w) (hR : Kd.C k70 w0 A xs.length xs) :
    Calls Try.prog 15 #[.pointer (some ⟨g, 0, none⟩), .slice A xs.length c] w fun en w' => en = .returned (.tuple #[]) ∧ IsW w0 w' g 86 (bs ++ encL enc_prices xs) ∧ Below w0.heap.size w0 w' ∧ KeepT w w' g := by
  have HR := Lib.hid hR
  have hl2 : bs.length + (encU xs.length).length + (xs.flatMap enc_prices).length ≤ 100000000 := by unfold encL at hl; rw [List.length_append] at hl; omega
  have HL := Lib.hid hl2
  have HOK := Lib.hid hok
  have HC := Lib.hid (wcount xs.length (by omega) g 86 (by decide) bs (by omega) w0 w hI hB)
  clear hI hB hR hl hl2 hok
  go_enter Try.func15, Try.ntmps15
  go_wp2_with (go_at_call 40; refine (HC.out).mono ?_; rintro en w1 ⟨rfl, h1, h2, h3⟩; have HI := Lib.hid h1; have HB := Lib.hid h2; have HK := Lib.hid h3; clear h1 h2 h3)
  go_loopw [5, 12] (fun m i wr => ∃ (k : Nat), i = .int .i64 k ∧ k ≤ xs.length ∧ Hid (IsW w0 wr g 86 (bs ++ encU xs.length ++ (xs.take k).flatMap enc_prices)) ∧ Hid (Below w0.heap.size w0 wr) ∧ Hid (KeepT w wr g)) (fun _ i _ => xs.length - (intOf i).toNat)
  case atStart => exact ⟨0, rfl, Nat.zero_le _, Lib.hid (by simpa using HI.out), HB, HK⟩
  case round =>
    clear HI HB HC HK
    obtain ⟨k, rfl, hk, HI, HB, HK⟩ := hrel
    by_cases hlt : k < xs.length
    · obtain ⟨x, hx⟩ : ∃ x, xs[k]? = some x := ⟨_, List.getElem?_eq_getElem hlt⟩
      have hox_x := HOK.out x (List.mem_of_getElem? hx)
      have hpart_x := part_le enc_prices xs k x hx
      have HLx : Hid ((bs ++ encU xs.length ++ (xs.take k).flatMap enc_prices).length + (enc_prices x).length ≤ 100000000) := Lib.hid (by have := HL.out; rw [List.length_append, List.length_append]; omega)
      obtain ⟨ad, rfl, hd0, hd1⟩ := at_T70 HR.out k (by omega) (by omega)
      have hrd_x : rd_T70 xs (k : Int) = x := by unfold rd_T70; rw [Int.toNat_natCast, List.getD_eq_getElem?_getD, hx]; rfl
      rw [hrd_x, Int.toNat_natCast] at hd0 hd1
      replace hd0 := cell_old HB.out hd0
      replace hd1 := cell_old HB.out hd1
      have HNx := Lib.hid hx
      have HOx := Lib.hid hox_x
      clear hx hrd_x hpart_x hox_x
      generalize hB : bs ++ encU xs.length ++ (xs.take k).flatMap enc_prices = B at HI HLx
      have HBS := Lib.hid hB
      clear hB
      replace HLx : Hid (B.length + (encT (x.f0).data.toList ++ encI x.f1).length ≤ 100000000) := HLx
      obtain ⟨ox0, ox1⟩ := HOx.out
      have Ox0 := Lib.hid ox0
      clear ox0
      have Ox1 := Lib.hid ox1
      clear ox1
      have hgw := HI.out.lt
      go_wp2
      replace HI := Lib.hid (IsW.alloc HI.out (Obj.cells #[.string x.f0, .int .i64 x.f1] 70))
      have HX := Lib.hid (blk_new wr (Obj.cells #[.string x.f0, .int .i64 x.f1] 70))
      replace HB := Lib.hid (below_alloc HB.out (Obj.cells #[.string x.f0, .int .i64 x.f1] 70))
      replace HK := Lib.hid (KeepT.alloc HK.out (Obj.cells #[.string x.f0, .int .i64 x.f1] 70))
      have hbg : wr.heap.size ≠ g := by omega
      clear hgw
      generalize wr.alloc (Obj.cells #[.string x.f0, .int .i64 x.f1] 70) = Wo at HI HX HB HK  ⊢
      refine start_ (ds := ([] : List Nat)) (n := 6) (S := fun w' => w'.cell? ⟨wr.heap.size, 0, none⟩ = some (.string x.f0)) #[false, false, false, false, false, false] (by kernel_rfl) (by rfl) (by rfl) (blk_cell (blk_drew HX.out) 0) (fun hHeld => ?_)
      replace HI := Lib.hid (IsW.drew HI.out)
      replace HB := Lib.hid (below_drew1 HB.out)
      replace HK := Lib.hid (KeepT.drew HK.out)
      replace HX := Lib.hid (blk_drew HX.out)
      generalize Wo.drew = W4 at HI HB HK HX hHeld ⊢
      refine pure_ (i := 0) (N := some 16) (v := ?_) (a' := ?_) #[true, false, false, false, false, false] rfl rfl (by kernel_rfl) (fun _ _ _ h => h) (Or.inl ⟨by rfl, ?_⟩) ?_ ?_
      rotate_left
      · intro w'
        go_simp
        with_reducible rfl
      rotate_left
      · simp only [Act.put, List.setIfInBounds_toArray, List.set_cons_zero, List.set_cons_succ, i64_w, i32_w]
        rfl
      refine pure_ (i := 1) (N := some 17) (v := ?_) (a' := ?_) #[true, true, false, false, false, false] rfl rfl (by kernel_rfl) (fun _ _ _ h => h) (Or.inl ⟨by rfl, ?_⟩) ?_ ?_
      rotate_left
      · intro w'
        go_simp
        with_reducible rfl
      rotate_left
      · simp only [Act.put, List.setIfInBounds_toArray, List.set_cons_zero, List.set_cons_succ, i64_w, i32_w]
        rfl
      refine pure_ (i := 2) (N := some 18) (v := ?_) (a' := ?_) #[true, true, true, false, false, false] rfl rfl (by kernel_rfl) (fun _ _ _ h => h) (Or.inl ⟨by rfl, ?_⟩) ?_ ?_
      rotate_left
      · intro w'
        go_simp
        with_reducible rfl
      rotate_left
      · simp only [Act.put, List.setIfInBounds_toArray, List.set_cons_zero, List.set_cons_succ, i64_w, i32_w]
        rfl
      refine pure_ (i := 3) (N := some 19) (v := ?_) (a' := ?_) #[true, true, true, true, false, false] rfl rfl (by kernel_rfl) (fun _ _ _ h => h) (Or.inl ⟨by rfl, ?_⟩) ?_ ?_
      rotate_left
      · intro w'
        go_simp
        with_reducible rfl
      rotate_left
      · simp only [Act.put, List.setIfInBounds_toArray, List.set_cons_zero, List.set_cons_succ, i64_w, i32_w]
        rfl
      refine take_ (i := 4) (N := some 20) (v := ?_) (a' := ?_) #[true, true, true, true, true, false] rfl rfl (by kernel_rfl) (fun _ _ _ h => h) (Or.inl ⟨by rfl, ?_⟩) hHeld ?_ ?_
      rotate_left
      · rintro w' s0
        go_simp
        with_reducible rfl
      rotate_left
      · simp only [Act.put, List.setIfInBounds_toArray, List.set_cons_zero, List.set_cons_succ, i64_w, i32_w]
        rfl
      refine one_ (i := 5) (N := some 21) #[true, true, true, true, true, true] rfl rfl (by kernel_rfl) (by decide) (fun K hK => ?_)
      refine goes_ Try.func41 (by kernel_rfl) rfl #[.pointer (some ⟨g, 0, none⟩), .string x.f0] (by rfl) rfl rfl (by first | rfl | (simp only [List.map_toArray, List.map_cons, List.map_nil]; rfl)) ?_
      refine (wtext x.f0 (by have := Ox0.out; rw [data_length] at this; omega) g 86 (by decide) (B) (by have := HLx.out; simp only [List.length_append] at this ⊢; omega) w0 _ HI.out HB.out).mono ?_
      rintro en w' ⟨rfl, hi, hb, hk⟩
      refine ⟨_, rfl, ?_⟩
      replace HX := Lib.hid (hk.blk HX.out (by decide) hbg)
      replace HK := Lib.hid (HK.out.trans hk)
      replace HI := Lib.hid hi
      replace HB := Lib.hid hb
      clear hi hb hk
      refine hK.out _ _ (blk_cell HX.out 0) (fun hHeld => ?_)
      clear hK K
      refine norm_ (a' := ?_) ?_ ?_
      rotate_left
      · show Act.put _ (some 21) _ = _
        simp only [Act.put, List.setIfInBounds_toArray, List.set_cons_zero, List.set_cons_succ, i64_w, i32_w]
        rfl
      refine done_ (by kernel_rfl) ?_
      go_wp2
      refine start_ (ds := ([] : List Nat)) (n := 6) (S := fun w' => w'.cell? ⟨wr.heap.size, 1, none⟩ = some (.int .i64 x.f1)) #[false, false, false, false, false, false] (by kernel_rfl) (by rfl) (by rfl) (blk_cell (blk_drew HX.out) 1) (fun hHeld => ?_)
      replace HI := Lib.hid (IsW.drew HI.out)
      replace HB := Lib.hid (below_drew1 HB.out)
      replace HK := Lib.hid (KeepT.drew HK.out)
      replace HX := Lib.hid (blk_drew HX.out)
      generalize w'.drew = W5 at HI HB HK HX hHeld ⊢
      refine pure_ (i := 0) (N := some 22) (v := ?_) (a' := ?_) #[true, false, false, false, false, false] rfl rfl (by kernel_rfl) (fun _ _ _ h => h) (Or.inl ⟨by rfl, ?_⟩) ?_ ?_
      rotate_left
      · intro w'
        go_simp
        with_reducible rfl
      rotate_left
      · simp only [Act.put, List.setIfInBounds_toArray, List.set_cons_zero, List.set_cons_succ, i64_w, i32_w]
        rfl
      refine pure_ (i := 1) (N := some 23) (v := ?_) (a' := ?_) #[true, true, false, false, false, false] rfl rfl (by kernel_rfl) (fun _ _ _ h => h) (Or.inl ⟨by rfl, ?_⟩) ?_ ?_
      rotate_left
      · intro w'
        go_simp
        with_reducible rfl
      rotate_left
      · simp only [Act.put, List.setIfInBounds_toArray, List.set_cons_zero, List.set_cons_succ, i64_w, i32_w]
        rfl
      refine pure_ (i := 2) (N := some 24) (v := ?_) (a' := ?_) #[true, true, true, false, false, false] rfl rfl (by kernel_rfl) (fun _ _ _ h => h) (Or.inl ⟨by rfl, ?_⟩) ?_ ?_
      rotate_left
      · intro w'
        go_simp
        with_reducible rfl
      rotate_left
      · simp only [Act.put, List.setIfInBounds_toArray, List.set_cons_zero, List.set_cons_succ, i64_w, i32_w]
        rfl
      refine pure_ (i := 3) (N := some 25) (v := ?_) (a' := ?_) #[true, true, true, true, false, false] rfl rfl (by kernel_rfl) (fun _ _ _ h => h) (Or.inl ⟨by rfl, ?_⟩) ?_ ?_
      rotate_left
      · intro w'
        go_simp
        with_reducible rfl
      rotate_left
      · simp only [Act.put, List.setIfInBounds_toArray, List.set_cons_zero, List.set_cons_succ, i64_w, i32_w]
        rfl
      refine take_ (i := 4) (N := some 26) (v := ?_) (a' := ?_) #[true, true, true, true, true, false] rfl rfl (by kernel_rfl) (fun _ _ _ h => h) (Or.inl ⟨by rfl, ?_⟩) hHeld ?_ ?_
      rotate_left
      · rintro w' s0
        go_simp
        with_reducible rfl
      rotate_left
      · simp only [Act.put, List.setIfInBounds_toArray, List.set_cons_zero, List.set_cons_succ, i64_w, i32_w]
        rfl
      refine one_ (i := 5) (N := some 27) #[true, true, true, true, true, true] rfl rfl (by kernel_rfl) (by decide) (fun K hK => ?_)
      refine goes_ Try.func39 (by kernel_rfl) rfl #[.pointer (some ⟨g, 0, none⟩), .int .i64 x.f1] (by rfl) rfl rfl (by first | rfl | (simp only [List.map_toArray, List.map_cons, List.map_nil]; rfl)) ?_
      refine (wint x.f1 Ox1.out g 86 (by decide) (B ++ encT (x.f0).data.toList) (by have := HLx.out; simp only [List.length_append] at this ⊢; omega) w0 _ HI.out HB.out).mono ?_
      rintro en w' ⟨rfl, hi, hb, hk⟩
      refine ⟨_, rfl, ?_⟩
      replace HX := Lib.hid (hk.blk HX.out (by decide) hbg)
      replace HK := Lib.hid (HK.out.trans hk)
      replace HI := Lib.hid hi
      replace HB := Lib.hid hb
      clear hi hb hk
      refine hK.out _ _ (blk_cell HX.out 1) (fun hHeld => ?_)
      clear hK K
      refine norm_ (a' := ?_) ?_ ?_
      rotate_left
      · show Act.put _ (some 27) _ = _
        simp only [Act.put, List.setIfInBounds_toArray, List.set_cons_zero, List.set_cons_succ, i64_w, i32_w]
        rfl
      refine done_ (by kernel_rfl) ?_
      go_wp2
      go_roundw
      case rel => exact ⟨k + 1, by go_num, by omega, Lib.hid (by have h1 := HI.out; rw [flat_take_succ _ _ _ _ HNx.out, ← List.append_assoc, HBS.out]; unfold enc_prices; simp only [List.append_assoc] at h1 ⊢; exact h1), HB, HK⟩
      case measure => simp [intOf]; omega
    · have hkn : k = xs.length := by omega
      subst hkn
      go_wp2
      first | go_end0 | ((try simp only [Exit.inBlock, Exit.then]); refine bodyPost_ret (results_none rfl _ _ _) rfl ?_)
      have h1 := HI.out
      rw [List.take_length, List.append_assoc] at h1
      exact ⟨rfl, h1, HB.out, HK.out⟩
end Go.Proofs.Ytlkfbdeddfhocaa

set_option linter.unusedVariables false
set_option linter.unusedSimpArgs false
namespace Go.Proofs.Ytlkfbdeddfhocaa
open Go.Proofs Go.RowKit Go.Proofs.YtlkfbdeddfhocaaW.PrintWords Go.Proofs.YtlkfbdeddfhocaaW.PrintLast Go.Proofs.YtlkfbdeddfhocaaW.PrintMore Q

def enc_balances (x : S73) : List UInt8 := [x.f0.f0, x.f0.f1].flatMap encI ++ encT (x.f0.f2).data.toList ++ encI x.f1
def ok_balances (x : S73) : Prop := isI64 x.f0.f0 ∧ isI64 x.f0.f1 ∧ (x.f0.f2).data.toList.length ≤ 160 ∧ isI64 x.f1
set_option maxHeartbeats 8000000 in
set_option maxRecDepth 1000000 in
theorem ebalances (xs : List S73) (hok : ∀ x ∈ xs, ok_balances x) (hm : xs.length ≤ 1000000) (A : Option Addr) (c : Nat) (g : Nat) (bs : List UInt8) (hl : bs.length + (encL enc_balances xs).length ≤ 100000000) (w0 w : World) (hI : IsW w0 w g 86 bs) (hB : Below w0.heap.size w0 w) (hR : Kd.C k73 w0 A xs.length xs) :
    Calls Try.prog 17 #[.pointer (some ⟨g, 0, none⟩), .slice A xs.length c] w fun en w' => en = .returned (.tuple #[]) ∧ IsW w0 w' g 86 (bs ++ encL enc_balances xs) ∧ Below w0.heap.size w0 w' ∧ KeepT w w' g := by
  have HR := Lib.hid hR
  have hl2 : bs.length + (encU xs.length).length + (xs.flatMap enc_balances).length ≤ 100000000 := by unfold encL at hl; rw [List.length_append] at hl; omega
  have HL := Lib.hid hl2
  have HOK := Lib.hid hok
  have HC := Lib.hid (wcount xs.length (by omega) g 86 (by decide) bs (by omega) w0 w hI hB)
  clear hI hB hR hl hl2 hok
  go_enter Try.func17, Try.ntmps17
  go_wp2_with (go_at_call 40; refine (HC.out).mono ?_; rintro en w1 ⟨rfl, h1, h2, h3⟩; have HI := Lib.hid h1; have HB := Lib.hid h2; have HK := Lib.hid h3; clear h1 h2 h3)
  go_loopw [5, 12] (fun m i wr => ∃ (k : Nat), i = .int .i64 k ∧ k ≤ xs.length ∧ Hid (IsW w0 wr g 86 (bs ++ encU xs.length ++ (xs.take k).flatMap enc_balances)) ∧ Hid (Below w0.heap.size w0 wr) ∧ Hid (KeepT w wr g)) (fun _ i _ => xs.length - (intOf i).toNat)
  case atStart => exact ⟨0, rfl, Nat.zero_le _, Lib.hid (by simpa using HI.out), HB, HK⟩
  case round =>
    clear HI HB HC HK
    obtain ⟨k, rfl, hk, HI, HB, HK⟩ := hrel
    by_cases hlt : k < xs.length
    · obtain ⟨x, hx⟩ : ∃ x, xs[k]? = some x := ⟨_, List.getElem?_eq_getElem hlt⟩
      have hox_x := HOK.out x (List.mem_of_getElem? hx)
      have hpart_x := part_le enc_balances xs k x hx
      have HLx : Hid ((bs ++ encU xs.length ++ (xs.take k).flatMap enc_balances).length + (enc_balances x).length ≤ 100000000) := Lib.hid (by have := HL.out; rw [List.length_append, List.length_append]; omega)
      obtain ⟨ad, rfl, hd0, hd1, hd2, hd3⟩ := at_T73 HR.out k (by omega) (by omega)
      have hrd_x : rd_T73 xs (k : Int) = x := by unfold rd_T73; rw [Int.toNat_natCast, List.getD_eq_getElem?_getD, hx]; rfl
      rw [hrd_x, Int.toNat_natCast] at hd0 hd1 hd2 hd3
      replace hd0 := cell_old HB.out hd0
      replace hd1 := cell_old HB.out hd1
      replace hd2 := cell_old HB.out hd2
      replace hd3 := cell_old HB.out hd3
      have HNx := Lib.hid hx
      have HOx := Lib.hid hox_x
      clear hx hrd_x hpart_x hox_x
      generalize hB : bs ++ encU xs.length ++ (xs.take k).flatMap enc_balances = B at HI HLx
      have HBS := Lib.hid hB
      clear hB
      replace HLx : Hid (B.length + ([x.f0.f0, x.f0.f1].flatMap encI ++ encT (x.f0.f2).data.toList ++ encI x.f1).length ≤ 100000000) := HLx
      obtain ⟨ox0, ox1, ox2, ox3⟩ := HOx.out
      have Ox0 := Lib.hid ox0
      clear ox0
      have Ox1 := Lib.hid ox1
      clear ox1
      have Ox2 := Lib.hid ox2
      clear ox2
      have Ox3 := Lib.hid ox3
      clear ox3
      have hgw := HI.out.lt
      replace HI := Lib.hid (IsW.alloc HI.out (Obj.cells #[.int .i64 x.f0.f0, .int .i64 x.f0.f1, .string x.f0.f2, .int .i64 x.f1] 73))
      have HX := Lib.hid (blk_new wr (Obj.cells #[.int .i64 x.f0.f0, .int .i64 x.f0.f1, .string x.f0.f2, .int .i64 x.f1] 73))
      replace HB := Lib.hid (below_alloc HB.out (Obj.cells #[.int .i64 x.f0.f0, .int .i64 x.f0.f1, .string x.f0.f2, .int .i64 x.f1] 73))
      replace HK := Lib.hid (KeepT.alloc HK.out (Obj.cells #[.int .i64 x.f0.f0, .int .i64 x.f0.f1, .string x.f0.f2, .int .i64 x.f1] 73))
      have hbg : wr.heap.size ≠ g := by omega
      clear hgw
      have hc_HX_0 := blk_cell HX.out 0
      have hc_HX_1 := blk_cell HX.out 1
      go_wp2_with (go_at_call 12; refine (wints_call [x.f0.f0, x.f0.f1] 2 rfl (by intro z hz; simp only [List.mem_cons, List.not_mem_nil, or_false] at hz; rcases hz with rfl | rfl; all_goals first | exact Ox0.out | exact Ox1.out) (by simp) _ _ g 86 (by decide) (B) (by have := HLx.out; simp only [List.length_append] at this ⊢; omega) w0 _ (IsW.alloc HI.out _) (below_alloc HB.out _) (reads_blk (blk_newb _ _ _ (by simp)) rfl (by have := HI.out.lt; (try simp at this); omega) (by simp))).mono ?_; rintro en w1 ⟨rfl, h1, h2, h3⟩; replace HX := Lib.hid (h3.blk (blk_alloc HX.out _) (by decide) hbg); replace HK := Lib.hid ((HK.out.alloc _).trans h3); replace HI := Lib.hid h1; replace HB := Lib.hid h2; clear h1 h2 h3 hc_HX_0 hc_HX_1)
      refine start_ (ds := ([] : List Nat)) (n := 7) (S := fun w' => w'.cell? ⟨wr.heap.size, 2, none⟩ = some (.string x.f0.f2)) #[false, false, false, false, false, false, false] (by kernel_rfl) (by rfl) (by rfl) (blk_cell (blk_drew HX.out) 2) (fun hHeld => ?_)
      replace HI := Lib.hid (IsW.drew HI.out)
      replace HB := Lib.hid (below_drew1 HB.out)
      replace HK := Lib.hid (KeepT.drew HK.out)
      replace HX := Lib.hid (blk_drew HX.out)
      generalize w1.drew = W5 at HI HB HK HX hHeld ⊢
      refine pure_ (i := 0) (N := some 25) (v := ?_) (a' := ?_) #[true, false, false, false, false, false, false] rfl rfl (by kernel_rfl) (fun _ _ _ h => h) (Or.inl ⟨by rfl, ?_⟩) ?_ ?_
      rotate_left
      · intro w'
        go_simp
        with_reducible rfl
      rotate_left
      · simp only [Act.put, List.setIfInBounds_toArray, List.set_cons_zero, List.set_cons_succ, i64_w, i32_w]
        rfl
      refine pure_ (i := 1) (N := some 26) (v := ?_) (a' := ?_) #[true, true, false, false, false, false, false] rfl rfl (by kernel_rfl) (fun _ _ _ h => h) (Or.inl ⟨by rfl, ?_⟩) ?_ ?_
      rotate_left
      · intro w'
        go_simp
        with_reducible rfl
      rotate_left
      · simp only [Act.put, List.setIfInBounds_toArray, List.set_cons_zero, List.set_cons_succ, i64_w, i32_w]
        rfl
      refine pure_ (i := 2) (N := some 27) (v := ?_) (a' := ?_) #[true, true, true, false, false, false, false] rfl rfl (by kernel_rfl) (fun _ _ _ h => h) (Or.inl ⟨by rfl, ?_⟩) ?_ ?_
      rotate_left
      · intro w'
        go_simp
        with_reducible rfl
      rotate_left
      · simp only [Act.put, List.setIfInBounds_toArray, List.set_cons_zero, List.set_cons_succ, i64_w, i32_w]
        rfl
      refine pure_ (i := 3) (N := some 28) (v := ?_) (a' := ?_) #[true, true, true, true, false, false, false] rfl rfl (by kernel_rfl) (fun _ _ _ h => h) (Or.inl ⟨by rfl, ?_⟩) ?_ ?_
      rotate_left
      · intro w'
        go_simp
        with_reducible rfl
      rotate_left
      · simp only [Act.put, List.setIfInBounds_toArray, List.set_cons_zero, List.set_cons_succ, i64_w, i32_w]
        rfl
      refine pure_ (i := 4) (N := some 29) (v := ?_) (a' := ?_) #[true, true, true, true, true, false, false] rfl rfl (by kernel_rfl) (fun _ _ _ h => h) (Or.inl ⟨by rfl, ?_⟩) ?_ ?_
      rotate_left
      · intro w'
        go_simp
        with_reducible rfl
      rotate_left
      · simp only [Act.put, List.setIfInBounds_toArray, List.set_cons_zero, List.set_cons_succ, i64_w, i32_w]
        rfl
      refine take_ (i := 5) (N := some 30) (v := ?_) (a' := ?_) #[true, true, true, true, true, true, false] rfl rfl (by kernel_rfl) (fun _ _ _ h => h) (Or.inl ⟨by rfl, ?_⟩) hHeld ?_ ?_
      rotate_left
      · rintro w' s0
        go_simp
        with_reducible rfl
      rotate_left
      · simp only [Act.put, List.setIfInBounds_toArray, List.set_cons_zero, List.set_cons_succ, i64_w, i32_w]
        rfl
      refine one_ (i := 6) (N := some 31) #[true, true, true, true, true, true, true] rfl rfl (by kernel_rfl) (by decide) (fun K hK => ?_)
      refine goes_ Try.func41 (by kernel_rfl) rfl #[.pointer (some ⟨g, 0, none⟩), .string x.f0.f2] (by rfl) rfl rfl (by first | rfl | (simp only [List.map_toArray, List.map_cons, List.map_nil]; rfl)) ?_
      refine (wtext x.f0.f2 (by have := Ox2.out; rw [data_length] at this; omega) g 86 (by decide) (B ++ [x.f0.f0, x.f0.f1].flatMap encI) (by have := HLx.out; simp only [List.length_append] at this ⊢; omega) w0 _ HI.out HB.out).mono ?_
      rintro en w' ⟨rfl, hi, hb, hk⟩
      refine ⟨_, rfl, ?_⟩
      replace HX := Lib.hid (hk.blk HX.out (by decide) hbg)
      replace HK := Lib.hid (HK.out.trans hk)
      replace HI := Lib.hid hi
      replace HB := Lib.hid hb
      clear hi hb hk
      refine hK.out _ _ (blk_cell HX.out 2) (fun hHeld => ?_)
      clear hK K
      refine norm_ (a' := ?_) ?_ ?_
      rotate_left
      · show Act.put _ (some 31) _ = _
        simp only [Act.put, List.setIfInBounds_toArray, List.set_cons_zero, List.set_cons_succ, i64_w, i32_w]
        rfl
      refine done_ (by kernel_rfl) ?_
      go_wp2
      refine start_ (ds := ([] : List Nat)) (n := 6) (S := fun w' => w'.cell? ⟨wr.heap.size, 3, none⟩ = some (.int .i64 x.f1)) #[false, false, false, false, false, false] (by kernel_rfl) (by rfl) (by rfl) (blk_cell (blk_drew HX.out) 3) (fun hHeld => ?_)
      replace HI := Lib.hid (IsW.drew HI.out)
      replace HB := Lib.hid (below_drew1 HB.out)
      replace HK := Lib.hid (KeepT.drew HK.out)
      replace HX := Lib.hid (blk_drew HX.out)
      generalize w'.drew = W6 at HI HB HK HX hHeld ⊢
      refine pure_ (i := 0) (N := some 32) (v := ?_) (a' := ?_) #[true, false, false, false, false, false] rfl rfl (by kernel_rfl) (fun _ _ _ h => h) (Or.inl ⟨by rfl, ?_⟩) ?_ ?_
      rotate_left
      · intro w'
        go_simp
        with_reducible rfl
      rotate_left
      · simp only [Act.put, List.setIfInBounds_toArray, List.set_cons_zero, List.set_cons_succ, i64_w, i32_w]
        rfl
      refine pure_ (i := 1) (N := some 33) (v := ?_) (a' := ?_) #[true, true, false, false, false, false] rfl rfl (by kernel_rfl) (fun _ _ _ h => h) (Or.inl ⟨by rfl, ?_⟩) ?_ ?_
      rotate_left
      · intro w'
        go_simp
        with_reducible rfl
      rotate_left
      · simp only [Act.put, List.setIfInBounds_toArray, List.set_cons_zero, List.set_cons_succ, i64_w, i32_w]
        rfl
      refine pure_ (i := 2) (N := some 34) (v := ?_) (a' := ?_) #[true, true, true, false, false, false] rfl rfl (by kernel_rfl) (fun _ _ _ h => h) (Or.inl ⟨by rfl, ?_⟩) ?_ ?_
      rotate_left
      · intro w'
        go_simp
        with_reducible rfl
      rotate_left
      · simp only [Act.put, List.setIfInBounds_toArray, List.set_cons_zero, List.set_cons_succ, i64_w, i32_w]
        rfl
      refine pure_ (i := 3) (N := some 35) (v := ?_) (a' := ?_) #[true, true, true, true, false, false] rfl rfl (by kernel_rfl) (fun _ _ _ h => h) (Or.inl ⟨by rfl, ?_⟩) ?_ ?_
      rotate_left
      · intro w'
        go_simp
        with_reducible rfl
      rotate_left
      · simp only [Act.put, List.setIfInBounds_toArray, List.set_cons_zero, List.set_cons_succ, i64_w, i32_w]
        rfl
      refine take_ (i := 4) (N := some 36) (v := ?_) (a' := ?_) #[true, true, true, true, true, false] rfl rfl (by kernel_rfl) (fun _ _ _ h => h) (Or.inl ⟨by rfl, ?_⟩) hHeld ?_ ?_
      rotate_left
      · rintro w' s0
        go_simp
        with_reducible rfl
      rotate_left
      · simp only [Act.put, List.setIfInBounds_toArray, List.set_cons_zero, List.set_cons_succ, i64_w, i32_w]
        rfl
      refine one_ (i := 5) (N := some 37) #[true, true, true, true, true, true] rfl rfl (by kernel_rfl) (by decide) (fun K hK => ?_)
      refine goes_ Try.func39 (by kernel_rfl) rfl #[.pointer (some ⟨g, 0, none⟩), .int .i64 x.f1] (by rfl) rfl rfl (by first | rfl | (simp only [List.map_toArray, List.map_cons, List.map_nil]; rfl)) ?_
      refine (wint x.f1 Ox3.out g 86 (by decide) (B ++ [x.f0.f0, x.f0.f1].flatMap encI ++ encT (x.f0.f2).data.toList) (by have := HLx.out; simp only [List.length_append] at this ⊢; omega) w0 _ HI.out HB.out).mono ?_
      rintro en w' ⟨rfl, hi, hb, hk⟩
      refine ⟨_, rfl, ?_⟩
      replace HX := Lib.hid (hk.blk HX.out (by decide) hbg)
      replace HK := Lib.hid (HK.out.trans hk)
      replace HI := Lib.hid hi
      replace HB := Lib.hid hb
      clear hi hb hk
      refine hK.out _ _ (blk_cell HX.out 3) (fun hHeld => ?_)
      clear hK K
      refine norm_ (a' := ?_) ?_ ?_
      rotate_left
      · show Act.put _ (some 37) _ = _
        simp only [Act.put, List.setIfInBounds_toArray, List.set_cons_zero, List.set_cons_succ, i64_w, i32_w]
        rfl
      refine done_ (by kernel_rfl) ?_
      go_wp2
      go_roundw
      case rel => exact ⟨k + 1, by go_num, by omega, Lib.hid (by have h1 := HI.out; rw [flat_take_succ _ _ _ _ HNx.out, ← List.append_assoc, HBS.out]; unfold enc_balances; simp only [List.append_assoc] at h1 ⊢; exact h1), HB, HK⟩
      case measure => simp [intOf]; omega
    · have hkn : k = xs.length := by omega
      subst hkn
      go_wp2
      first | go_end0 | ((try simp only [Exit.inBlock, Exit.then]); refine bodyPost_ret (results_none rfl _ _ _) rfl ?_)
      have h1 := HI.out
      rw [List.take_length, List.append_assoc] at h1
      exact ⟨rfl, h1, HB.out, HK.out⟩
end Go.Proofs.Ytlkfbdeddfhocaa

set_option linter.unusedVariables false
set_option linter.unusedSimpArgs false
namespace Go.Proofs.Ytlkfbdeddfhocaa
open Go.Proofs Go.RowKit Go.Proofs.YtlkfbdeddfhocaaW.PrintWords Go.Proofs.YtlkfbdeddfhocaaW.PrintLast Go.Proofs.YtlkfbdeddfhocaaW.PrintMore Q

def enc_quotes (x : S127) : List UInt8 := [x.f0, x.f1, x.f2, x.f3, x.f4, x.f5, x.f6, x.f7].flatMap encI
def ok_quotes (x : S127) : Prop := isI64 x.f0 ∧ isI64 x.f1 ∧ isI64 x.f2 ∧ isI64 x.f3 ∧ isI64 x.f4 ∧ isI64 x.f5 ∧ isI64 x.f6 ∧ isI64 x.f7
set_option maxHeartbeats 8000000 in
set_option maxRecDepth 1000000 in
theorem equotes (xs : List S127) (hok : ∀ x ∈ xs, ok_quotes x) (hm : xs.length ≤ 1000000) (A : Option Addr) (c : Nat) (g : Nat) (bs : List UInt8) (hl : bs.length + (encL enc_quotes xs).length ≤ 100000000) (w0 w : World) (hI : IsW w0 w g 86 bs) (hB : Below w0.heap.size w0 w) (hR : Kd.C k127 w0 A xs.length xs) :
    Calls Try.prog 18 #[.pointer (some ⟨g, 0, none⟩), .slice A xs.length c] w fun en w' => en = .returned (.tuple #[]) ∧ IsW w0 w' g 86 (bs ++ encL enc_quotes xs) ∧ Below w0.heap.size w0 w' ∧ KeepT w w' g := by
  have HR := Lib.hid hR
  have hl2 : bs.length + (encU xs.length).length + (xs.flatMap enc_quotes).length ≤ 100000000 := by unfold encL at hl; rw [List.length_append] at hl; omega
  have HL := Lib.hid hl2
  have HOK := Lib.hid hok
  have HC := Lib.hid (wcount xs.length (by omega) g 86 (by decide) bs (by omega) w0 w hI hB)
  clear hI hB hR hl hl2 hok
  go_enter Try.func18, Try.ntmps18
  go_wp2_with (go_at_call 40; refine (HC.out).mono ?_; rintro en w1 ⟨rfl, h1, h2, h3⟩; have HI := Lib.hid h1; have HB := Lib.hid h2; have HK := Lib.hid h3; clear h1 h2 h3)
  go_loopw [5, 12] (fun m i wr => ∃ (k : Nat), i = .int .i64 k ∧ k ≤ xs.length ∧ Hid (IsW w0 wr g 86 (bs ++ encU xs.length ++ (xs.take k).flatMap enc_quotes)) ∧ Hid (Below w0.heap.size w0 wr) ∧ Hid (KeepT w wr g)) (fun _ i _ => xs.length - (intOf i).toNat)
  case atStart => exact ⟨0, rfl, Nat.zero_le _, Lib.hid (by simpa using HI.out), HB, HK⟩
  case round =>
    clear HI HB HC HK
    obtain ⟨k, rfl, hk, HI, HB, HK⟩ := hrel
    by_cases hlt : k < xs.length
    · obtain ⟨x, hx⟩ : ∃ x, xs[k]? = some x := ⟨_, List.getElem?_eq_getElem hlt⟩
      have hox_x := HOK.out x (List.mem_of_getElem? hx)
      have hpart_x := part_le enc_quotes xs k x hx
      have HLx : Hid ((bs ++ encU xs.length ++ (xs.take k).flatMap enc_quotes).length + (enc_quotes x).length ≤ 100000000) := Lib.hid (by have := HL.out; rw [List.length_append, List.length_append]; omega)
      obtain ⟨ad, rfl, hd0, hd1, hd2, hd3, hd4, hd5, hd6, hd7⟩ := at_T127 HR.out k (by omega) (by omega)
      have hrd_x : rd_T127 xs (k : Int) = x := by unfold rd_T127; rw [Int.toNat_natCast, List.getD_eq_getElem?_getD, hx]; rfl
      rw [hrd_x, Int.toNat_natCast] at hd0 hd1 hd2 hd3 hd4 hd5 hd6 hd7
      replace hd0 := cell_old HB.out hd0
      replace hd1 := cell_old HB.out hd1
      replace hd2 := cell_old HB.out hd2
      replace hd3 := cell_old HB.out hd3
      replace hd4 := cell_old HB.out hd4
      replace hd5 := cell_old HB.out hd5
      replace hd6 := cell_old HB.out hd6
      replace hd7 := cell_old HB.out hd7
      have HNx := Lib.hid hx
      have HOx := Lib.hid hox_x
      clear hx hrd_x hpart_x hox_x
      generalize hB : bs ++ encU xs.length ++ (xs.take k).flatMap enc_quotes = B at HI HLx
      have HBS := Lib.hid hB
      clear hB
      replace HLx : Hid (B.length + ([x.f0, x.f1, x.f2, x.f3, x.f4, x.f5, x.f6, x.f7].flatMap encI).length ≤ 100000000) := HLx
      obtain ⟨ox0, ox1, ox2, ox3, ox4, ox5, ox6, ox7⟩ := HOx.out
      have Ox0 := Lib.hid ox0
      clear ox0
      have Ox1 := Lib.hid ox1
      clear ox1
      have Ox2 := Lib.hid ox2
      clear ox2
      have Ox3 := Lib.hid ox3
      clear ox3
      have Ox4 := Lib.hid ox4
      clear ox4
      have Ox5 := Lib.hid ox5
      clear ox5
      have Ox6 := Lib.hid ox6
      clear ox6
      have Ox7 := Lib.hid ox7
      clear ox7
      have hgw := HI.out.lt
      replace HI := Lib.hid (IsW.alloc HI.out (Obj.cells #[.int .i64 x.f0, .int .i64 x.f1, .int .i64 x.f2, .int .i64 x.f3, .int .i64 x.f4, .int .i64 x.f5, .int .i64 x.f6, .int .i64 x.f7] 127))
      have HX := Lib.hid (blk_new wr (Obj.cells #[.int .i64 x.f0, .int .i64 x.f1, .int .i64 x.f2, .int .i64 x.f3, .int .i64 x.f4, .int .i64 x.f5, .int .i64 x.f6, .int .i64 x.f7] 127))
      replace HB := Lib.hid (below_alloc HB.out (Obj.cells #[.int .i64 x.f0, .int .i64 x.f1, .int .i64 x.f2, .int .i64 x.f3, .int .i64 x.f4, .int .i64 x.f5, .int .i64 x.f6, .int .i64 x.f7] 127))
      replace HK := Lib.hid (KeepT.alloc HK.out (Obj.cells #[.int .i64 x.f0, .int .i64 x.f1, .int .i64 x.f2, .int .i64 x.f3, .int .i64 x.f4, .int .i64 x.f5, .int .i64 x.f6, .int .i64 x.f7] 127))
      have hbg : wr.heap.size ≠ g := by omega
      clear hgw
      have hc_HX_0 := blk_cell HX.out 0
      have hc_HX_1 := blk_cell HX.out 1
      have hc_HX_2 := blk_cell HX.out 2
      have hc_HX_3 := blk_cell HX.out 3
      have hc_HX_4 := blk_cell HX.out 4
      have hc_HX_5 := blk_cell HX.out 5
      have hc_HX_6 := blk_cell HX.out 6
      have hc_HX_7 := blk_cell HX.out 7
      go_wp2_with (go_at_call 12; refine (wints_call [x.f0, x.f1, x.f2, x.f3, x.f4, x.f5, x.f6, x.f7] 8 rfl (by intro z hz; simp only [List.mem_cons, List.not_mem_nil, or_false] at hz; rcases hz with rfl | rfl | rfl | rfl | rfl | rfl | rfl | rfl; all_goals first | exact Ox0.out | exact Ox1.out | exact Ox2.out | exact Ox3.out | exact Ox4.out | exact Ox5.out | exact Ox6.out | exact Ox7.out) (by simp) _ _ g 86 (by decide) (B) (by have := HLx.out; (try simp only [List.length_append] at this ⊢); omega) w0 _ (IsW.alloc HI.out _) (below_alloc HB.out _) (reads_blk (blk_newb _ _ _ (by simp)) rfl (by have := HI.out.lt; (try simp at this); omega) (by simp))).mono ?_; rintro en w1 ⟨rfl, h1, h2, h3⟩; replace HX := Lib.hid (h3.blk (blk_alloc HX.out _) (by decide) hbg); replace HK := Lib.hid ((HK.out.alloc _).trans h3); replace HI := Lib.hid h1; replace HB := Lib.hid h2; clear h1 h2 h3 hc_HX_0 hc_HX_1 hc_HX_2 hc_HX_3 hc_HX_4 hc_HX_5 hc_HX_6 hc_HX_7)
      go_wp2
      go_roundw
      case rel => exact ⟨k + 1, by go_num, by omega, Lib.hid (by have h1 := HI.out; rw [flat_take_succ _ _ _ _ HNx.out, ← List.append_assoc, HBS.out]; unfold enc_quotes; (try simp only [List.append_assoc] at h1 ⊢); exact h1), HB, HK⟩
      case measure => simp [intOf]; omega
    · have hkn : k = xs.length := by omega
      subst hkn
      go_wp2
      first | go_end0 | ((try simp only [Exit.inBlock, Exit.then]); refine bodyPost_ret (results_none rfl _ _ _) rfl ?_)
      have h1 := HI.out
      rw [List.take_length, List.append_assoc] at h1
      exact ⟨rfl, h1, HB.out, HK.out⟩
end Go.Proofs.Ytlkfbdeddfhocaa
