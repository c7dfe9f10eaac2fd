/- What decoder.prices answers: the list that listR reads. Condition: the text has at most 1000000 bytes. Written by gendec.py. What decoder.assets answers: the list that listR reads. Condition: the text has at most 1000000 bytes. Written by gendec.py. What decoder.quotes answers: the list that listR reads. Condition: the text has at most 1000000 bytes. Written by gendec.py. What decoder.links answers: the list that listR reads. Condition: the text has at most 1000000 bytes. Written by gendec.py. -/
import Derived.Test.YtlkfbdeddfhocaaMa
set_option linter.unusedVariables false
set_option linter.unusedSimpArgs false
namespace Go.Proofs.Ytlkfbdeddfhocaa
open Go.Proofs Go.RowKit Go.Proofs.YtlkfbdeddfhocaaW.PrintWords Go.Proofs.YtlkfbdeddfhocaaW.PrintLast Go.Proofs.YtlkfbdeddfhocaaW.PrintMore Q

theorem info70 : (Try.prog.info? 70).map (fun i => (i.zero, i.size, i.bytes)) = some (some (.agg #[(.string ⟨#[]⟩), (.int .i64 0)]), 2, 24) := by kernel_rfl
def pricesR : Rdr S70 := isoR (pairR (textR 160) intR) (fun x => ⟨⟨(x.1).toArray⟩, x.2⟩)
set_option maxHeartbeats 8000000 in
set_option maxRecDepth 1000000 in
theorem prices_walk (S : List UInt8) (hS : S.length ≤ 1000000) (g p : Nat) (e : Int) (hp : p ≤ S.length) (w0 w : World) (hI : IsS132 w0 w g ⟨S.toArray⟩ p e) (hB : Below w0.heap.size w0 w) :
    Calls Try.prog 27 #[.agg #[.pointer (some ⟨g, 0, none⟩)]] w fun en w' => ∃ v, en = .returned v ∧ Kd.R k70 70 w' w.heap.size (fun _ => True) v (listR 4096 pricesR S p e).1 ∧
      IsS132 w0 w' g ⟨S.toArray⟩ (listR 4096 pricesR S p e).2.1 (listR 4096 pricesR S p e).2.2 ∧ Below w0.heap.size w0 w' ∧ KeepBut w w' g none := by
  have hcp := (good_count 4096 (by omega)).place S p e hp
  have hcn := count_le S p e
  have hc := fun W hi hb => count_call S hS g w0 p e hp W hi hb
  unfold listR
  obtain ⟨⟨n, q0, e0⟩, hR⟩ : ∃ x, countR 4096 S p e = x := ⟨_, rfl⟩
  rw [hR] at hc hcp hcn ⊢
  simp only at hc hcp hcn ⊢
  replace hc := Lib.hid hc
  clear hR
  have HI := Lib.hid hI
  have HB0 := Lib.hid hB
  have hne : w.heap.size ≠ g := Nat.ne_of_gt hI.lt
  have hbs := hB.size
  have HT := Lib.hid (text_call S hS g w0)
  have HN := Lib.hid (int_call S hS g w0)
  clear hI hB
  go_enter Try.func27, Try.ntmps27
  go_wp2_with (go_at_call 45; refine (hc.out _ (IsS132.alloc HI.out _) (below_alloc HB0.out _)).mono ?_; rintro en w1 ⟨rfl, hi, hb, hk⟩)
  have hbox : w1.heap[w.heap.size]? = some (.cells #[.pointer (some ⟨g, 0, none⟩)] 101 (0, 0)) := (hk.2 w.heap.size (by simp) hne (by simp)).trans (heap_alloc_new w _)
  have hkk : KeepBut w w1 g none := KeepBut.trans (keep_alloc (KeepBut.refl w g none) _) hk (.inl rfl)
  clear hk
  go_loopw [3, 7] (fun v i wr => ∃ (k : Nat) (xs : List S70) (q : Nat) (e' : Int), i = .int .i64 k ∧ k ≤ n ∧ xs.length = k ∧ q ≤ S.length ∧ Hid (Kd.R k70 70 wr w.heap.size (fun _ => True) v xs) ∧ Hid (IsS132 w0 wr g ⟨S.toArray⟩ q e') ∧
    Hid (wr.heap[w.heap.size]? = some (.cells #[.pointer (some ⟨g, 0, none⟩)] 101 (0, 0))) ∧ Hid (Below w0.heap.size w0 wr) ∧ Hid (KeepBut w wr g none) ∧
    Hid ((xs ++ (manyR pricesR (n - k) S q e').1, (manyR pricesR (n - k) S q e').2) = manyR pricesR n S q0 e0)) (fun _ i _ => n - (intOf i).toNat)
  case atStart => exact ⟨0, [], q0, e0, rfl, by omega, rfl, hcp.2, Lib.hid (Kd.R_nil _ _ _ _ _), Lib.hid hi, Lib.hid hbox, Lib.hid hb, Lib.hid hkk, Lib.hid rfl⟩
  case round =>
    clear hi hbox hb hkk
    obtain ⟨k, xs, q, e', rfl, hk, hxl, hq, HR, HI0, HBX, HB, HK, HM⟩ := hrel
    by_cases hlt : k < n
    · obtain ⟨⟨x0, q1, e1⟩, h0⟩ : ∃ x, textR 160 S q e' = x := ⟨_, rfl⟩
      have c0 := HT.out q e' hq
      have hq1 := ((good_text 160 (by omega)).place S q e' hq).2
      simp only [h0] at c0 hq1
      replace c0 := Lib.hid c0
      replace h0 := Lib.hid h0
      obtain ⟨⟨x1, q2, e2⟩, h1⟩ : ∃ x, intR S q1 e1 = x := ⟨_, rfl⟩
      have c1 := HN.out q1 e1 hq1
      have hq2 := (good_int.place S q1 e1 hq1).2
      simp only [h1] at c1 hq2
      replace c1 := Lib.hid c1
      replace h1 := Lib.hid h1
      go_wp2
      refine start_ (ds := ([] : List Nat)) (n := 11) (S := fun w' => w'.cell? ⟨w.heap.size, 0, none⟩ = some (.pointer (some ⟨g, 0, none⟩))) #[false, false, false, false, false, false, false, false, false, false, false] (by kernel_rfl) (by rfl) (by rfl) (blk_cell (blk_drew HBX.out) 0) (fun hHeld => ?_)
      replace HR := Lib.hid (Kd.R_drew HR.out)
      replace HI0 := Lib.hid (IsS132.drew HI0.out)
      replace HBX := Lib.hid (blk_drew HBX.out)
      replace HB := Lib.hid (below_drew1 HB.out)
      replace HK := Lib.hid (keep_drew HK.out)
      generalize wr.drew = w5 at HR HI0 HBX HB HK hHeld ⊢
      refine pure_ (i := 0) (N := some 9) (v := ?_) (a' := ?_) #[true, false, false, false, false, false, false, false, false, false, false] rfl rfl (by kernel_rfl) (fun _ _ _ h => h) (Or.inl ⟨by rfl, ?_⟩) ?_ ?_
      rotate_left
      · intro w'
        go_simp
        with_reducible rfl
      rotate_left
      · simp only [Act.put, List.setIfInBounds_toArray, List.set_cons_zero, List.set_cons_succ, i64_w, i32_w]
        rfl
      refine pure_ (i := 1) (N := some 10) (v := ?_) (a' := ?_) #[true, true, false, false, false, false, false, false, false, false, false] rfl rfl (by kernel_rfl) (fun _ _ _ h => h) (Or.inl ⟨by rfl, ?_⟩) ?_ ?_
      rotate_left
      · intro w'
        go_simp
        with_reducible rfl
      rotate_left
      · simp only [Act.put, List.setIfInBounds_toArray, List.set_cons_zero, List.set_cons_succ, i64_w, i32_w]
        rfl
      refine pure_ (i := 4) (N := some 13) (v := ?_) (a' := ?_) #[true, true, false, false, true, false, false, false, false, false, false] rfl rfl (by kernel_rfl) (fun _ _ _ h => h) (Or.inl ⟨by rfl, ?_⟩) ?_ ?_
      rotate_left
      · intro w'
        go_simp
        with_reducible rfl
      rotate_left
      · simp only [Act.put, List.setIfInBounds_toArray, List.set_cons_zero, List.set_cons_succ, i64_w, i32_w]
        rfl
      refine take_ (i := 2) (N := some 11) (v := ?_) (a' := ?_) #[true, true, true, false, true, false, false, false, false, false, false] rfl rfl (by kernel_rfl) (fun _ _ _ h => h) (Or.inl ⟨by rfl, ?_⟩) hHeld ?_ ?_
      rotate_left
      · rintro w' s0
        go_simp
        with_reducible rfl
      rotate_left
      · simp only [Act.put, List.setIfInBounds_toArray, List.set_cons_zero, List.set_cons_succ, i64_w, i32_w]
        rfl
      refine take_ (i := 5) (N := some 14) (v := ?_) (a' := ?_) #[true, true, true, false, true, true, false, false, false, false, false] rfl rfl (by kernel_rfl) (fun _ _ _ h => h) (Or.inl ⟨by rfl, ?_⟩) hHeld ?_ ?_
      rotate_left
      · rintro w' s0
        go_simp
        with_reducible rfl
      rotate_left
      · simp only [Act.put, List.setIfInBounds_toArray, List.set_cons_zero, List.set_cons_succ, i64_w, i32_w]
        rfl
      refine one_ (i := 3) (N := some 12) #[true, true, true, true, true, true, false, false, false, false, false] rfl rfl (by kernel_rfl) (by decide) (fun K hK => ?_)
      refine goes_ Try.func46 (by kernel_rfl) rfl #[.pointer (some ⟨g, 0, none⟩), .int .i64 160] (by rfl) rfl rfl (by first | rfl | (simp only [List.map_toArray, List.map_cons, List.map_nil]; rfl)) ?_
      refine (c0.out _ HI0.out HB.out).mono ?_
      rintro en w' ⟨rfl, hi, hb, hk⟩
      refine ⟨_, rfl, ?_⟩
      replace HR := Lib.hid (Kd.R_mono (Kd.R_keep (IsS132.apart HI0.out HR.out (by decide)) hk (fun _ h => h.2)) (fun _ h => h.1))
      replace HBX := Lib.hid ((hk.2 _ (blk_lt HBX.out) hne (by simp)).trans HBX.out)
      replace HK := Lib.hid (KeepBut.trans HK.out hk (.inl rfl))
      replace HI0 := Lib.hid hi
      replace HB := Lib.hid hb
      clear hi hb hk
      refine hK.out _ _ (blk_cell HBX.out 0) (fun hHeld => ?_)
      clear hK K
      refine norm_ (a' := ?_) ?_ ?_
      rotate_left
      · show Act.put _ (some 12) _ = _
        simp only [Act.put, List.setIfInBounds_toArray, List.set_cons_zero, List.set_cons_succ, i64_w, i32_w]
        rfl
      refine one_ (i := 6) (N := some 15) #[true, true, true, true, true, true, true, false, false, false, false] rfl rfl (by kernel_rfl) (by decide) (fun K hK => ?_)
      refine goes_ Try.func24 (by kernel_rfl) rfl #[.pointer (some ⟨g, 0, none⟩)] (by rfl) rfl rfl (by first | rfl | (simp only [List.map_toArray, List.map_cons, List.map_nil]; rfl)) ?_
      refine (c1.out _ HI0.out HB.out).mono ?_
      rintro en w' ⟨rfl, hi, hb, hk⟩
      refine ⟨_, rfl, ?_⟩
      replace HR := Lib.hid (Kd.R_mono (Kd.R_keep (IsS132.apart HI0.out HR.out (by decide)) hk (fun _ h => h.2)) (fun _ h => h.1))
      replace HBX := Lib.hid ((hk.2 _ (blk_lt HBX.out) hne (by simp)).trans HBX.out)
      replace HK := Lib.hid (KeepBut.trans HK.out hk (.inl rfl))
      replace HI0 := Lib.hid hi
      replace HB := Lib.hid hb
      clear hi hb hk
      refine hK.out _ _ (blk_cell HBX.out 0) (fun hHeld => ?_)
      clear hK K
      refine norm_ (a' := ?_) ?_ ?_
      rotate_left
      · show Act.put _ (some 15) _ = _
        simp only [Act.put, List.setIfInBounds_toArray, List.set_cons_zero, List.set_cons_succ, i64_w, i32_w]
        rfl
      refine pure_ (i := 7) (N := some 16) (v := ?_) (a' := ?_) #[true, true, true, true, true, true, true, true, false, false, false] rfl rfl (by kernel_rfl) (fun _ _ _ h => h) (Or.inl ⟨by rfl, ?_⟩) ?_ ?_
      rotate_left
      · intro w'
        go_simp
        with_reducible rfl
      rotate_left
      · simp only [Act.put, List.setIfInBounds_toArray, List.set_cons_zero, List.set_cons_succ, i64_w, i32_w]
        rfl
      refine one_ (i := 8) (N := some 17) #[true, true, true, true, true, true, true, true, true, false, false] rfl rfl (by kernel_rfl) (by decide) (fun K hK => ?_)
      refine value_ (w1 := ?_) (v := ?_) (by rfl) rfl ?_ ?_
      rotate_left 2
      · go_simp
        constructor
        · rfl
        · rfl
      refine hK.out _ _ (blk_cell (blk_alloc HBX.out _) 0) (fun hHeld => ?_)
      clear hK K
      refine norm_ (a' := ?_) ?_ ?_
      rotate_left
      · show Act.put _ (some 17) _ = _
        simp only [Act.put, List.setIfInBounds_toArray, List.set_cons_zero, List.set_cons_succ, i64_w, i32_w]
        rfl
      refine one_ (i := 9) (N := some 18) #[true, true, true, true, true, true, true, true, true, true, false] rfl rfl (by kernel_rfl) (by decide) (fun K hK => ?_)
      refine Kd.R_append_step k70 w.heap.size (by rfl) (.tmp 9) (.tmp 17) 40 70 (.agg #[(.string ⟨#[]⟩), (.int .i64 0)]) 24 rfl Try.underlying40 info70 rfl (by decide) (by omega) u3 xs (⟨⟨x0.toArray⟩, x1⟩ : S70) [.string ⟨x0.toArray⟩, .int .i64 x1] (fun _ => True) (fun _ => False) rfl rfl ?aP (fun _ hk => hk.elim) ?aF ?aO (Below.refl _ _) ?aS ?aL ?_
      (case aP => exact k70_mkM _ _ _ (⟨⟨x0.toArray⟩, x1⟩ : S70))
      (case aF => exact (fun _ _ => trivial))
      (case aO => exact HR.out)
      (case aS => exact keep_size HK.out)
      (case aL => omega)
      intro v198 w6 ho hb hg hat
      replace HI0 := Lib.hid (IsS132.grown HI0.out hg (IsS132.own_ne HI0.out HR.out (by decide)))
      replace HBX := Lib.hid (blk_grown HBX.out hg (Kd.R_ne HR.out HBX.out (by decide)))
      replace HB := Lib.hid (HB.out.trans (hb.mono hbs))
      replace HK := Lib.hid (show KeepBut w w6 g none from ⟨Nat.le_trans HK.out.1 hg.size, fun i hi h1 h2 => (hb.block i hi).trans (HK.out.2 i hi h1 h2)⟩)
      replace HR := Lib.hid ho
      clear ho hb hg hat
      refine hK.out _ _ (blk_cell HBX.out 0) (fun hHeld => ?_)
      clear hK K
      refine norm_ (a' := ?_) ?_ ?_
      rotate_left
      · show Act.put _ (some 18) _ = _
        simp only [Act.put, List.setIfInBounds_toArray, List.set_cons_zero, List.set_cons_succ, i64_w, i32_w]
        rfl
      refine pure_ (i := 10) (N := some 3) (v := ?_) (a' := ?_) #[true, true, true, true, true, true, true, true, true, true, true] rfl rfl (by kernel_rfl) (fun _ _ _ h => h) (Or.inl ⟨by rfl, ?_⟩) ?_ ?_
      rotate_left
      · intro w'
        go_simp
        with_reducible rfl
      rotate_left
      · simp only [Act.put, List.setIfInBounds_toArray, List.set_cons_zero, List.set_cons_succ, i64_w, i32_w]
        rfl
      refine done_ (by kernel_rfl) ?_
      go_wp2
      go_roundw
      case rel =>
        refine ⟨k + 1, _, _, _, by go_num, by omega, ?_, hq2, HR, HI0, HBX, HB, HK, ?_⟩
        · rw [List.length_append, hxl]; rfl
        · have hM := HM.out
          rw [show n - k = (n - (k + 1)) + 1 by omega] at hM
          rw [← hM]
          simp only [manyR, pricesR, isoR, pairR, h0.out, h1.out, List.append_assoc, List.singleton_append]
          first | exact Lib.hid rfl | exact Lib.hid trivial
      case measure => simp [intOf]; omega
    · have hkn : k = n := by omega
      subst hkn
      go_wp2
      go_ret
      have hM := HM.out
      rw [Nat.sub_self] at hM
      simp only [manyR, List.append_nil] at hM
      rw [← hM]
      exact ⟨_, rfl, HR.out, HI0.out, HB.out, HK.out⟩
end Go.Proofs.Ytlkfbdeddfhocaa

set_option linter.unusedVariables false
set_option linter.unusedSimpArgs false
namespace Go.Proofs.Ytlkfbdeddfhocaa
open Go.Proofs Go.RowKit Go.Proofs.YtlkfbdeddfhocaaW.PrintWords Go.Proofs.YtlkfbdeddfhocaaW.PrintLast Go.Proofs.YtlkfbdeddfhocaaW.PrintMore Q

theorem info57 : (Try.prog.info? 57).map (fun i => (i.zero, i.size, i.bytes)) = some (some (.agg #[(.string ⟨#[]⟩), (.int .i64 0), (.int .i64 0), (.int .i64 0), (.string ⟨#[]⟩)]), 5, 56) := by kernel_rfl
def assetsR : Rdr S57 := isoR (pairR (textR 160) (pairR intR (pairR intR (pairR intR (textR 160))))) (fun x => ⟨⟨(x.1).toArray⟩, x.2.1, x.2.2.1, x.2.2.2.1, ⟨(x.2.2.2.2).toArray⟩⟩)
set_option maxHeartbeats 8000000 in
set_option maxRecDepth 1000000 in
theorem assets_walk (S : List UInt8) (hS : S.length ≤ 1000000) (g p : Nat) (e : Int) (hp : p ≤ S.length) (w0 w : World) (hI : IsS132 w0 w g ⟨S.toArray⟩ p e) (hB : Below w0.heap.size w0 w) :
    Calls Try.prog 26 #[.agg #[.pointer (some ⟨g, 0, none⟩)]] w fun en w' => ∃ v, en = .returned v ∧ Kd.R k57 57 w' w.heap.size (fun _ => True) v (listR 4096 assetsR S p e).1 ∧
      IsS132 w0 w' g ⟨S.toArray⟩ (listR 4096 assetsR S p e).2.1 (listR 4096 assetsR S p e).2.2 ∧ Below w0.heap.size w0 w' ∧ KeepBut w w' g none := by
  have hcp := (good_count 4096 (by omega)).place S p e hp
  have hcn := count_le S p e
  have hc := fun W hi hb => count_call S hS g w0 p e hp W hi hb
  unfold listR
  obtain ⟨⟨n, q0, e0⟩, hR⟩ : ∃ x, countR 4096 S p e = x := ⟨_, rfl⟩
  rw [hR] at hc hcp hcn ⊢
  simp only at hc hcp hcn ⊢
  replace hc := Lib.hid hc
  clear hR
  have HI := Lib.hid hI
  have HB0 := Lib.hid hB
  have hne : w.heap.size ≠ g := Nat.ne_of_gt hI.lt
  have hbs := hB.size
  have HT := Lib.hid (text_call S hS g w0)
  have HN := Lib.hid (int_call S hS g w0)
  clear hI hB
  go_enter Try.func26, Try.ntmps26
  go_wp2_with (go_at_call 45; refine (hc.out _ (IsS132.alloc HI.out _) (below_alloc HB0.out _)).mono ?_; rintro en w1 ⟨rfl, hi, hb, hk⟩)
  have hbox : w1.heap[w.heap.size]? = some (.cells #[.pointer (some ⟨g, 0, none⟩)] 101 (0, 0)) := (hk.2 w.heap.size (by simp) hne (by simp)).trans (heap_alloc_new w _)
  have hkk : KeepBut w w1 g none := KeepBut.trans (keep_alloc (KeepBut.refl w g none) _) hk (.inl rfl)
  clear hk
  go_loopw [3, 7] (fun v i wr => ∃ (k : Nat) (xs : List S57) (q : Nat) (e' : Int), i = .int .i64 k ∧ k ≤ n ∧ xs.length = k ∧ q ≤ S.length ∧ Hid (Kd.R k57 57 wr w.heap.size (fun _ => True) v xs) ∧ Hid (IsS132 w0 wr g ⟨S.toArray⟩ q e') ∧
    Hid (wr.heap[w.heap.size]? = some (.cells #[.pointer (some ⟨g, 0, none⟩)] 101 (0, 0))) ∧ Hid (Below w0.heap.size w0 wr) ∧ Hid (KeepBut w wr g none) ∧
    Hid ((xs ++ (manyR assetsR (n - k) S q e').1, (manyR assetsR (n - k) S q e').2) = manyR assetsR n S q0 e0)) (fun _ i _ => n - (intOf i).toNat)
  case atStart => exact ⟨0, [], q0, e0, rfl, by omega, rfl, hcp.2, Lib.hid (Kd.R_nil _ _ _ _ _), Lib.hid hi, Lib.hid hbox, Lib.hid hb, Lib.hid hkk, Lib.hid rfl⟩
  case round =>
    clear hi hbox hb hkk
    obtain ⟨k, xs, q, e', rfl, hk, hxl, hq, HR, HI0, HBX, HB, HK, HM⟩ := hrel
    by_cases hlt : k < n
    · obtain ⟨⟨x0, q1, e1⟩, h0⟩ : ∃ x, textR 160 S q e' = x := ⟨_, rfl⟩
      have c0 := HT.out q e' hq
      have hq1 := ((good_text 160 (by omega)).place S q e' hq).2
      simp only [h0] at c0 hq1
      replace c0 := Lib.hid c0
      replace h0 := Lib.hid h0
      obtain ⟨⟨x1, q2, e2⟩, h1⟩ : ∃ x, intR S q1 e1 = x := ⟨_, rfl⟩
      have c1 := HN.out q1 e1 hq1
      have hq2 := (good_int.place S q1 e1 hq1).2
      simp only [h1] at c1 hq2
      replace c1 := Lib.hid c1
      replace h1 := Lib.hid h1
      obtain ⟨⟨x2, q3, e3⟩, h2⟩ : ∃ x, intR S q2 e2 = x := ⟨_, rfl⟩
      have c2 := HN.out q2 e2 hq2
      have hq3 := (good_int.place S q2 e2 hq2).2
      simp only [h2] at c2 hq3
      replace c2 := Lib.hid c2
      replace h2 := Lib.hid h2
      obtain ⟨⟨x3, q4, e4⟩, h3⟩ : ∃ x, intR S q3 e3 = x := ⟨_, rfl⟩
      have c3 := HN.out q3 e3 hq3
      have hq4 := (good_int.place S q3 e3 hq3).2
      simp only [h3] at c3 hq4
      replace c3 := Lib.hid c3
      replace h3 := Lib.hid h3
      obtain ⟨⟨x4, q5, e5⟩, h4⟩ : ∃ x, textR 160 S q4 e4 = x := ⟨_, rfl⟩
      have c4 := HT.out q4 e4 hq4
      have hq5 := ((good_text 160 (by omega)).place S q4 e4 hq4).2
      simp only [h4] at c4 hq5
      replace c4 := Lib.hid c4
      replace h4 := Lib.hid h4
      go_wp2
      refine start_ (ds := ([] : List Nat)) (n := 20) (S := fun w' => w'.cell? ⟨w.heap.size, 0, none⟩ = some (.pointer (some ⟨g, 0, none⟩))) #[false, false, false, false, false, false, false, false, false, false, false, false, false, false, false, false, false, false, false, false] (by kernel_rfl) (by rfl) (by rfl) (blk_cell (blk_drew HBX.out) 0) (fun hHeld => ?_)
      replace HR := Lib.hid (Kd.R_drew HR.out)
      replace HI0 := Lib.hid (IsS132.drew HI0.out)
      replace HBX := Lib.hid (blk_drew HBX.out)
      replace HB := Lib.hid (below_drew1 HB.out)
      replace HK := Lib.hid (keep_drew HK.out)
      generalize wr.drew = w5 at HR HI0 HBX HB HK hHeld ⊢
      refine pure_ (i := 0) (N := some 9) (v := ?_) (a' := ?_) #[true, false, false, false, false, false, false, false, false, false, false, false, false, false, false, false, false, false, false, false] rfl rfl (by kernel_rfl) (fun _ _ _ h => h) (Or.inl ⟨by rfl, ?_⟩) ?_ ?_
      rotate_left
      · intro w'
        go_simp
        with_reducible rfl
      rotate_left
      · simp only [Act.put, List.setIfInBounds_toArray, List.set_cons_zero, List.set_cons_succ, i64_w, i32_w]
        rfl
      refine pure_ (i := 1) (N := some 10) (v := ?_) (a' := ?_) #[true, true, false, false, false, false, false, false, false, false, false, false, false, false, false, false, false, false, false, false] rfl rfl (by kernel_rfl) (fun _ _ _ h => h) (Or.inl ⟨by rfl, ?_⟩) ?_ ?_
      rotate_left
      · intro w'
        go_simp
        with_reducible rfl
      rotate_left
      · simp only [Act.put, List.setIfInBounds_toArray, List.set_cons_zero, List.set_cons_succ, i64_w, i32_w]
        rfl
      refine pure_ (i := 4) (N := some 13) (v := ?_) (a' := ?_) #[true, true, false, false, true, false, false, false, false, false, false, false, false, false, false, false, false, false, false, false] rfl rfl (by kernel_rfl) (fun _ _ _ h => h) (Or.inl ⟨by rfl, ?_⟩) ?_ ?_
      rotate_left
      · intro w'
        go_simp
        with_reducible rfl
      rotate_left
      · simp only [Act.put, List.setIfInBounds_toArray, List.set_cons_zero, List.set_cons_succ, i64_w, i32_w]
        rfl
      refine pure_ (i := 7) (N := some 16) (v := ?_) (a' := ?_) #[true, true, false, false, true, false, false, true, false, false, false, false, false, false, false, false, false, false, false, false] rfl rfl (by kernel_rfl) (fun _ _ _ h => h) (Or.inl ⟨by rfl, ?_⟩) ?_ ?_
      rotate_left
      · intro w'
        go_simp
        with_reducible rfl
      rotate_left
      · simp only [Act.put, List.setIfInBounds_toArray, List.set_cons_zero, List.set_cons_succ, i64_w, i32_w]
        rfl
      refine pure_ (i := 10) (N := some 19) (v := ?_) (a' := ?_) #[true, true, false, false, true, false, false, true, false, false, true, false, false, false, false, false, false, false, false, false] rfl rfl (by kernel_rfl) (fun _ _ _ h => h) (Or.inl ⟨by rfl, ?_⟩) ?_ ?_
      rotate_left
      · intro w'
        go_simp
        with_reducible rfl
      rotate_left
      · simp only [Act.put, List.setIfInBounds_toArray, List.set_cons_zero, List.set_cons_succ, i64_w, i32_w]
        rfl
      refine pure_ (i := 13) (N := some 22) (v := ?_) (a' := ?_) #[true, true, false, false, true, false, false, true, false, false, true, false, false, true, false, false, false, false, false, false] rfl rfl (by kernel_rfl) (fun _ _ _ h => h) (Or.inl ⟨by rfl, ?_⟩) ?_ ?_
      rotate_left
      · intro w'
        go_simp
        with_reducible rfl
      rotate_left
      · simp only [Act.put, List.setIfInBounds_toArray, List.set_cons_zero, List.set_cons_succ, i64_w, i32_w]
        rfl
      refine take_ (i := 2) (N := some 11) (v := ?_) (a' := ?_) #[true, true, true, false, true, false, false, true, false, false, true, false, false, true, false, false, false, false, false, false] rfl rfl (by kernel_rfl) (fun _ _ _ h => h) (Or.inl ⟨by rfl, ?_⟩) hHeld ?_ ?_
      rotate_left
      · rintro w' s0
        go_simp
        with_reducible rfl
      rotate_left
      · simp only [Act.put, List.setIfInBounds_toArray, List.set_cons_zero, List.set_cons_succ, i64_w, i32_w]
        rfl
      refine take_ (i := 5) (N := some 14) (v := ?_) (a' := ?_) #[true, true, true, false, true, true, false, true, false, false, true, false, false, true, false, false, false, false, false, false] rfl rfl (by kernel_rfl) (fun _ _ _ h => h) (Or.inl ⟨by rfl, ?_⟩) hHeld ?_ ?_
      rotate_left
      · rintro w' s0
        go_simp
        with_reducible rfl
      rotate_left
      · simp only [Act.put, List.setIfInBounds_toArray, List.set_cons_zero, List.set_cons_succ, i64_w, i32_w]
        rfl
      refine take_ (i := 8) (N := some 17) (v := ?_) (a' := ?_) #[true, true, true, false, true, true, false, true, true, false, true, false, false, true, false, false, false, false, false, false] rfl rfl (by kernel_rfl) (fun _ _ _ h => h) (Or.inl ⟨by rfl, ?_⟩) hHeld ?_ ?_
      rotate_left
      · rintro w' s0
        go_simp
        with_reducible rfl
      rotate_left
      · simp only [Act.put, List.setIfInBounds_toArray, List.set_cons_zero, List.set_cons_succ, i64_w, i32_w]
        rfl
      refine take_ (i := 11) (N := some 20) (v := ?_) (a' := ?_) #[true, true, true, false, true, true, false, true, true, false, true, true, false, true, false, false, false, false, false, false] rfl rfl (by kernel_rfl) (fun _ _ _ h => h) (Or.inl ⟨by rfl, ?_⟩) hHeld ?_ ?_
      rotate_left
      · rintro w' s0
        go_simp
        with_reducible rfl
      rotate_left
      · simp only [Act.put, List.setIfInBounds_toArray, List.set_cons_zero, List.set_cons_succ, i64_w, i32_w]
        rfl
      refine take_ (i := 14) (N := some 23) (v := ?_) (a' := ?_) #[true, true, true, false, true, true, false, true, true, false, true, true, false, true, true, false, false, false, false, false] rfl rfl (by kernel_rfl) (fun _ _ _ h => h) (Or.inl ⟨by rfl, ?_⟩) hHeld ?_ ?_
      rotate_left
      · rintro w' s0
        go_simp
        with_reducible rfl
      rotate_left
      · simp only [Act.put, List.setIfInBounds_toArray, List.set_cons_zero, List.set_cons_succ, i64_w, i32_w]
        rfl
      refine one_ (i := 3) (N := some 12) #[true, true, true, true, true, true, false, true, true, false, true, true, false, true, true, false, false, false, false, false] rfl rfl (by kernel_rfl) (by decide) (fun K hK => ?_)
      refine goes_ Try.func46 (by kernel_rfl) rfl #[.pointer (some ⟨g, 0, none⟩), .int .i64 160] (by rfl) rfl rfl (by first | rfl | (simp only [List.map_toArray, List.map_cons, List.map_nil]; rfl)) ?_
      refine (c0.out _ HI0.out HB.out).mono ?_
      rintro en w' ⟨rfl, hi, hb, hk⟩
      refine ⟨_, rfl, ?_⟩
      replace HR := Lib.hid (Kd.R_mono (Kd.R_keep (IsS132.apart HI0.out HR.out (by decide)) hk (fun _ h => h.2)) (fun _ h => h.1))
      replace HBX := Lib.hid ((hk.2 _ (blk_lt HBX.out) hne (by simp)).trans HBX.out)
      replace HK := Lib.hid (KeepBut.trans HK.out hk (.inl rfl))
      replace HI0 := Lib.hid hi
      replace HB := Lib.hid hb
      clear hi hb hk
      refine hK.out _ _ (blk_cell HBX.out 0) (fun hHeld => ?_)
      clear hK K
      refine norm_ (a' := ?_) ?_ ?_
      rotate_left
      · show Act.put _ (some 12) _ = _
        simp only [Act.put, List.setIfInBounds_toArray, List.set_cons_zero, List.set_cons_succ, i64_w, i32_w]
        rfl
      refine one_ (i := 6) (N := some 15) #[true, true, true, true, true, true, true, true, true, false, true, true, false, true, true, false, false, false, false, false] rfl rfl (by kernel_rfl) (by decide) (fun K hK => ?_)
      refine goes_ Try.func24 (by kernel_rfl) rfl #[.pointer (some ⟨g, 0, none⟩)] (by rfl) rfl rfl (by first | rfl | (simp only [List.map_toArray, List.map_cons, List.map_nil]; rfl)) ?_
      refine (c1.out _ HI0.out HB.out).mono ?_
      rintro en w' ⟨rfl, hi, hb, hk⟩
      refine ⟨_, rfl, ?_⟩
      replace HR := Lib.hid (Kd.R_mono (Kd.R_keep (IsS132.apart HI0.out HR.out (by decide)) hk (fun _ h => h.2)) (fun _ h => h.1))
      replace HBX := Lib.hid ((hk.2 _ (blk_lt HBX.out) hne (by simp)).trans HBX.out)
      replace HK := Lib.hid (KeepBut.trans HK.out hk (.inl rfl))
      replace HI0 := Lib.hid hi
      replace HB := Lib.hid hb
      clear hi hb hk
      refine hK.out _ _ (blk_cell HBX.out 0) (fun hHeld => ?_)
      clear hK K
      refine norm_ (a' := ?_) ?_ ?_
      rotate_left
      · show Act.put _ (some 15) _ = _
        simp only [Act.put, List.setIfInBounds_toArray, List.set_cons_zero, List.set_cons_succ, i64_w, i32_w]
        rfl
      refine one_ (i := 9) (N := some 18) #[true, true, true, true, true, true, true, true, true, true, true, true, false, true, true, false, false, false, false, false] rfl rfl (by kernel_rfl) (by decide) (fun K hK => ?_)
      refine goes_ Try.func24 (by kernel_rfl) rfl #[.pointer (some ⟨g, 0, none⟩)] (by rfl) rfl rfl (by first | rfl | (simp only [List.map_toArray, List.map_cons, List.map_nil]; rfl)) ?_
      refine (c2.out _ HI0.out HB.out).mono ?_
      rintro en w' ⟨rfl, hi, hb, hk⟩
      refine ⟨_, rfl, ?_⟩
      replace HR := Lib.hid (Kd.R_mono (Kd.R_keep (IsS132.apart HI0.out HR.out (by decide)) hk (fun _ h => h.2)) (fun _ h => h.1))
      replace HBX := Lib.hid ((hk.2 _ (blk_lt HBX.out) hne (by simp)).trans HBX.out)
      replace HK := Lib.hid (KeepBut.trans HK.out hk (.inl rfl))
      replace HI0 := Lib.hid hi
      replace HB := Lib.hid hb
      clear hi hb hk
      refine hK.out _ _ (blk_cell HBX.out 0) (fun hHeld => ?_)
      clear hK K
      refine norm_ (a' := ?_) ?_ ?_
      rotate_left
      · show Act.put _ (some 18) _ = _
        simp only [Act.put, List.setIfInBounds_toArray, List.set_cons_zero, List.set_cons_succ, i64_w, i32_w]
        rfl
      refine one_ (i := 12) (N := some 21) #[true, true, true, true, true, true, true, true, true, true, true, true, true, true, true, false, false, false, false, false] rfl rfl (by kernel_rfl) (by decide) (fun K hK => ?_)
      refine goes_ Try.func24 (by kernel_rfl) rfl #[.pointer (some ⟨g, 0, none⟩)] (by rfl) rfl rfl (by first | rfl | (simp only [List.map_toArray, List.map_cons, List.map_nil]; rfl)) ?_
      refine (c3.out _ HI0.out HB.out).mono ?_
      rintro en w' ⟨rfl, hi, hb, hk⟩
      refine ⟨_, rfl, ?_⟩
      replace HR := Lib.hid (Kd.R_mono (Kd.R_keep (IsS132.apart HI0.out HR.out (by decide)) hk (fun _ h => h.2)) (fun _ h => h.1))
      replace HBX := Lib.hid ((hk.2 _ (blk_lt HBX.out) hne (by simp)).trans HBX.out)
      replace HK := Lib.hid (KeepBut.trans HK.out hk (.inl rfl))
      replace HI0 := Lib.hid hi
      replace HB := Lib.hid hb
      clear hi hb hk
      refine hK.out _ _ (blk_cell HBX.out 0) (fun hHeld => ?_)
      clear hK K
      refine norm_ (a' := ?_) ?_ ?_
      rotate_left
      · show Act.put _ (some 21) _ = _
        simp only [Act.put, List.setIfInBounds_toArray, List.set_cons_zero, List.set_cons_succ, i64_w, i32_w]
        rfl
      refine one_ (i := 15) (N := some 24) #[true, true, true, true, true, true, true, true, true, true, true, true, true, true, true, true, false, false, false, false] rfl rfl (by kernel_rfl) (by decide) (fun K hK => ?_)
      refine goes_ Try.func46 (by kernel_rfl) rfl #[.pointer (some ⟨g, 0, none⟩), .int .i64 160] (by rfl) rfl rfl (by first | rfl | (simp only [List.map_toArray, List.map_cons, List.map_nil]; rfl)) ?_
      refine (c4.out _ HI0.out HB.out).mono ?_
      rintro en w' ⟨rfl, hi, hb, hk⟩
      refine ⟨_, rfl, ?_⟩
      replace HR := Lib.hid (Kd.R_mono (Kd.R_keep (IsS132.apart HI0.out HR.out (by decide)) hk (fun _ h => h.2)) (fun _ h => h.1))
      replace HBX := Lib.hid ((hk.2 _ (blk_lt HBX.out) hne (by simp)).trans HBX.out)
      replace HK := Lib.hid (KeepBut.trans HK.out hk (.inl rfl))
      replace HI0 := Lib.hid hi
      replace HB := Lib.hid hb
      clear hi hb hk
      refine hK.out _ _ (blk_cell HBX.out 0) (fun hHeld => ?_)
      clear hK K
      refine norm_ (a' := ?_) ?_ ?_
      rotate_left
      · show Act.put _ (some 24) _ = _
        simp only [Act.put, List.setIfInBounds_toArray, List.set_cons_zero, List.set_cons_succ, i64_w, i32_w]
        rfl
      refine pure_ (i := 16) (N := some 25) (v := ?_) (a' := ?_) #[true, true, true, true, true, true, true, true, true, true, true, true, true, true, true, true, true, false, false, false] rfl rfl (by kernel_rfl) (fun _ _ _ h => h) (Or.inl ⟨by rfl, ?_⟩) ?_ ?_
      rotate_left
      · intro w'
        go_simp
        with_reducible rfl
      rotate_left
      · simp only [Act.put, List.setIfInBounds_toArray, List.set_cons_zero, List.set_cons_succ, i64_w, i32_w]
        rfl
      refine one_ (i := 17) (N := some 26) #[true, true, true, true, true, true, true, true, true, true, true, true, true, true, true, true, true, true, false, false] rfl rfl (by kernel_rfl) (by decide) (fun K hK => ?_)
      refine value_ (w1 := ?_) (v := ?_) (by rfl) rfl ?_ ?_
      rotate_left 2
      · go_simp
        constructor
        · rfl
        · rfl
      refine hK.out _ _ (blk_cell (blk_alloc HBX.out _) 0) (fun hHeld => ?_)
      clear hK K
      refine norm_ (a' := ?_) ?_ ?_
      rotate_left
      · show Act.put _ (some 26) _ = _
        simp only [Act.put, List.setIfInBounds_toArray, List.set_cons_zero, List.set_cons_succ, i64_w, i32_w]
        rfl
      refine one_ (i := 18) (N := some 27) #[true, true, true, true, true, true, true, true, true, true, true, true, true, true, true, true, true, true, true, false] rfl rfl (by kernel_rfl) (by decide) (fun K hK => ?_)
      refine Kd.R_append_step k57 w.heap.size (by rfl) (.tmp 9) (.tmp 26) 39 57 (.agg #[(.string ⟨#[]⟩), (.int .i64 0), (.int .i64 0), (.int .i64 0), (.string ⟨#[]⟩)]) 56 rfl Try.underlying39 info57 rfl (by decide) (by omega) u3 xs (⟨⟨x0.toArray⟩, x1, x2, x3, ⟨x4.toArray⟩⟩ : S57) [.string ⟨x0.toArray⟩, .int .i64 x1, .int .i64 x2, .int .i64 x3, .string ⟨x4.toArray⟩] (fun _ => True) (fun _ => False) rfl rfl ?aP (fun _ hk => hk.elim) ?aF ?aO (Below.refl _ _) ?aS ?aL ?_
      (case aP => exact k57_mkM _ _ _ (⟨⟨x0.toArray⟩, x1, x2, x3, ⟨x4.toArray⟩⟩ : S57))
      (case aF => exact (fun _ _ => trivial))
      (case aO => exact HR.out)
      (case aS => exact keep_size HK.out)
      (case aL => omega)
      intro v198 w6 ho hb hg hat
      replace HI0 := Lib.hid (IsS132.grown HI0.out hg (IsS132.own_ne HI0.out HR.out (by decide)))
      replace HBX := Lib.hid (blk_grown HBX.out hg (Kd.R_ne HR.out HBX.out (by decide)))
      replace HB := Lib.hid (HB.out.trans (hb.mono hbs))
      replace HK := Lib.hid (show KeepBut w w6 g none from ⟨Nat.le_trans HK.out.1 hg.size, fun i hi h1 h2 => (hb.block i hi).trans (HK.out.2 i hi h1 h2)⟩)
      replace HR := Lib.hid ho
      clear ho hb hg hat
      refine hK.out _ _ (blk_cell HBX.out 0) (fun hHeld => ?_)
      clear hK K
      refine norm_ (a' := ?_) ?_ ?_
      rotate_left
      · show Act.put _ (some 27) _ = _
        simp only [Act.put, List.setIfInBounds_toArray, List.set_cons_zero, List.set_cons_succ, i64_w, i32_w]
        rfl
      refine pure_ (i := 19) (N := some 3) (v := ?_) (a' := ?_) #[true, true, true, true, true, true, true, true, true, true, true, true, true, true, true, true, true, true, true, true] rfl rfl (by kernel_rfl) (fun _ _ _ h => h) (Or.inl ⟨by rfl, ?_⟩) ?_ ?_
      rotate_left
      · intro w'
        go_simp
        with_reducible rfl
      rotate_left
      · simp only [Act.put, List.setIfInBounds_toArray, List.set_cons_zero, List.set_cons_succ, i64_w, i32_w]
        rfl
      refine done_ (by kernel_rfl) ?_
      go_wp2
      go_roundw
      case rel =>
        refine ⟨k + 1, _, _, _, by go_num, by omega, ?_, hq5, HR, HI0, HBX, HB, HK, ?_⟩
        · rw [List.length_append, hxl]; rfl
        · have hM := HM.out
          rw [show n - k = (n - (k + 1)) + 1 by omega] at hM
          rw [← hM]
          simp only [manyR, assetsR, isoR, pairR, h0.out, h1.out, h2.out, h3.out, h4.out, List.append_assoc, List.singleton_append]
          first | exact Lib.hid rfl | exact Lib.hid trivial
      case measure => simp [intOf]; omega
    · have hkn : k = n := by omega
      subst hkn
      go_wp2
      go_ret
      have hM := HM.out
      rw [Nat.sub_self] at hM
      simp only [manyR, List.append_nil] at hM
      rw [← hM]
      exact ⟨_, rfl, HR.out, HI0.out, HB.out, HK.out⟩
end Go.Proofs.Ytlkfbdeddfhocaa

set_option linter.unusedVariables false
set_option linter.unusedSimpArgs false
namespace Go.Proofs.Ytlkfbdeddfhocaa
open Go.Proofs Go.RowKit Go.Proofs.YtlkfbdeddfhocaaW.PrintWords Go.Proofs.YtlkfbdeddfhocaaW.PrintLast Go.Proofs.YtlkfbdeddfhocaaW.PrintMore Q

theorem info127 : (Try.prog.info? 127).map (fun i => (i.zero, i.size, i.bytes)) = some (some (.agg #[(.int .i64 0), (.int .i64 0), (.int .i64 0), (.int .i64 0), (.int .i64 0), (.int .i64 0), (.int .i64 0), (.int .i64 0)]), 8, 64) := by kernel_rfl
def quotesR : Rdr S127 := isoR (pairR intR (pairR intR (pairR intR (pairR intR (pairR intR (pairR intR (pairR intR intR))))))) (fun x => ⟨x.1, x.2.1, x.2.2.1, x.2.2.2.1, x.2.2.2.2.1, x.2.2.2.2.2.1, x.2.2.2.2.2.2.1, x.2.2.2.2.2.2.2⟩)
set_option maxHeartbeats 8000000 in
set_option maxRecDepth 1000000 in
theorem quotes_walk (S : List UInt8) (hS : S.length ≤ 1000000) (g p : Nat) (e : Int) (hp : p ≤ S.length) (w0 w : World) (hI : IsS132 w0 w g ⟨S.toArray⟩ p e) (hB : Below w0.heap.size w0 w) :
    Calls Try.prog 30 #[.agg #[.pointer (some ⟨g, 0, none⟩)]] w fun en w' => ∃ v, en = .returned v ∧ Kd.R k127 127 w' w.heap.size (fun _ => True) v (listR 4096 quotesR S p e).1 ∧
      IsS132 w0 w' g ⟨S.toArray⟩ (listR 4096 quotesR S p e).2.1 (listR 4096 quotesR S p e).2.2 ∧ Below w0.heap.size w0 w' ∧ KeepBut w w' g none := by
  have hcp := (good_count 4096 (by omega)).place S p e hp
  have hcn := count_le S p e
  have hc := fun W hi hb => count_call S hS g w0 p e hp W hi hb
  unfold listR
  obtain ⟨⟨n, q0, e0⟩, hR⟩ : ∃ x, countR 4096 S p e = x := ⟨_, rfl⟩
  rw [hR] at hc hcp hcn ⊢
  simp only at hc hcp hcn ⊢
  replace hc := Lib.hid hc
  clear hR
  have HI := Lib.hid hI
  have HB0 := Lib.hid hB
  have hne : w.heap.size ≠ g := Nat.ne_of_gt hI.lt
  have hbs := hB.size
  have HT := Lib.hid (text_call S hS g w0)
  have HN := Lib.hid (int_call S hS g w0)
  clear hI hB
  go_enter Try.func30, Try.ntmps30
  go_wp2_with (go_at_call 45; refine (hc.out _ (IsS132.alloc HI.out _) (below_alloc HB0.out _)).mono ?_; rintro en w1 ⟨rfl, hi, hb, hk⟩)
  have hbox : w1.heap[w.heap.size]? = some (.cells #[.pointer (some ⟨g, 0, none⟩)] 101 (0, 0)) := (hk.2 w.heap.size (by simp) hne (by simp)).trans (heap_alloc_new w _)
  have hkk : KeepBut w w1 g none := KeepBut.trans (keep_alloc (KeepBut.refl w g none) _) hk (.inl rfl)
  clear hk
  go_loopw [3, 7] (fun v i wr => ∃ (k : Nat) (xs : List S127) (q : Nat) (e' : Int), i = .int .i64 k ∧ k ≤ n ∧ xs.length = k ∧ q ≤ S.length ∧ Hid (Kd.R k127 127 wr w.heap.size (fun _ => True) v xs) ∧ Hid (IsS132 w0 wr g ⟨S.toArray⟩ q e') ∧
    Hid (wr.heap[w.heap.size]? = some (.cells #[.pointer (some ⟨g, 0, none⟩)] 101 (0, 0))) ∧ Hid (Below w0.heap.size w0 wr) ∧ Hid (KeepBut w wr g none) ∧
    Hid ((xs ++ (manyR quotesR (n - k) S q e').1, (manyR quotesR (n - k) S q e').2) = manyR quotesR n S q0 e0)) (fun _ i _ => n - (intOf i).toNat)
  case atStart => exact ⟨0, [], q0, e0, rfl, by omega, rfl, hcp.2, Lib.hid (Kd.R_nil _ _ _ _ _), Lib.hid hi, Lib.hid hbox, Lib.hid hb, Lib.hid hkk, Lib.hid rfl⟩
  case round =>
    clear hi hbox hb hkk
    obtain ⟨k, xs, q, e', rfl, hk, hxl, hq, HR, HI0, HBX, HB, HK, HM⟩ := hrel
    by_cases hlt : k < n
    · obtain ⟨⟨x0, q1, e1⟩, h0⟩ : ∃ x, intR S q e' = x := ⟨_, rfl⟩
      have c0 := HN.out q e' hq
      have hq1 := (good_int.place S q e' hq).2
      simp only [h0] at c0 hq1
      replace c0 := Lib.hid c0
      replace h0 := Lib.hid h0
      obtain ⟨⟨x1, q2, e2⟩, h1⟩ : ∃ x, intR S q1 e1 = x := ⟨_, rfl⟩
      have c1 := HN.out q1 e1 hq1
      have hq2 := (good_int.place S q1 e1 hq1).2
      simp only [h1] at c1 hq2
      replace c1 := Lib.hid c1
      replace h1 := Lib.hid h1
      obtain ⟨⟨x2, q3, e3⟩, h2⟩ : ∃ x, intR S q2 e2 = x := ⟨_, rfl⟩
      have c2 := HN.out q2 e2 hq2
      have hq3 := (good_int.place S q2 e2 hq2).2
      simp only [h2] at c2 hq3
      replace c2 := Lib.hid c2
      replace h2 := Lib.hid h2
      obtain ⟨⟨x3, q4, e4⟩, h3⟩ : ∃ x, intR S q3 e3 = x := ⟨_, rfl⟩
      have c3 := HN.out q3 e3 hq3
      have hq4 := (good_int.place S q3 e3 hq3).2
      simp only [h3] at c3 hq4
      replace c3 := Lib.hid c3
      replace h3 := Lib.hid h3
      obtain ⟨⟨x4, q5, e5⟩, h4⟩ : ∃ x, intR S q4 e4 = x := ⟨_, rfl⟩
      have c4 := HN.out q4 e4 hq4
      have hq5 := (good_int.place S q4 e4 hq4).2
      simp only [h4] at c4 hq5
      replace c4 := Lib.hid c4
      replace h4 := Lib.hid h4
      obtain ⟨⟨x5, q6, e6⟩, h5⟩ : ∃ x, intR S q5 e5 = x := ⟨_, rfl⟩
      have c5 := HN.out q5 e5 hq5
      have hq6 := (good_int.place S q5 e5 hq5).2
      simp only [h5] at c5 hq6
      replace c5 := Lib.hid c5
      replace h5 := Lib.hid h5
      obtain ⟨⟨x6, q7, e7⟩, h6⟩ : ∃ x, intR S q6 e6 = x := ⟨_, rfl⟩
      have c6 := HN.out q6 e6 hq6
      have hq7 := (good_int.place S q6 e6 hq6).2
      simp only [h6] at c6 hq7
      replace c6 := Lib.hid c6
      replace h6 := Lib.hid h6
      obtain ⟨⟨x7, q8, e8⟩, h7⟩ : ∃ x, intR S q7 e7 = x := ⟨_, rfl⟩
      have c7 := HN.out q7 e7 hq7
      have hq8 := (good_int.place S q7 e7 hq7).2
      simp only [h7] at c7 hq8
      replace c7 := Lib.hid c7
      replace h7 := Lib.hid h7
      go_wp2
      refine start_ (ds := ([] : List Nat)) (n := 29) (S := fun w' => w'.cell? ⟨w.heap.size, 0, none⟩ = some (.pointer (some ⟨g, 0, none⟩))) #[false, false, false, false, false, false, false, false, false, false, false, false, false, false, false, false, false, false, false, false, false, false, false, false, false, false, false, false, false] (by kernel_rfl) (by rfl) (by rfl) (blk_cell (blk_drew HBX.out) 0) (fun hHeld => ?_)
      replace HR := Lib.hid (Kd.R_drew HR.out)
      replace HI0 := Lib.hid (IsS132.drew HI0.out)
      replace HBX := Lib.hid (blk_drew HBX.out)
      replace HB := Lib.hid (below_drew1 HB.out)
      replace HK := Lib.hid (keep_drew HK.out)
      generalize wr.drew = w5 at HR HI0 HBX HB HK hHeld ⊢
      refine pure_ (i := 0) (N := some 9) (v := ?_) (a' := ?_) #[true, false, false, false, false, false, false, false, false, false, false, false, false, false, false, false, false, false, false, false, false, false, false, false, false, false, false, false, false] rfl rfl (by kernel_rfl) (fun _ _ _ h => h) (Or.inl ⟨by rfl, ?_⟩) ?_ ?_
      rotate_left
      · intro w'
        go_simp
        with_reducible rfl
      rotate_left
      · simp only [Act.put, List.setIfInBounds_toArray, List.set_cons_zero, List.set_cons_succ, i64_w, i32_w]
        rfl
      refine pure_ (i := 1) (N := some 10) (v := ?_) (a' := ?_) #[true, true, false, false, false, false, false, false, false, false, false, false, false, false, false, false, false, false, false, false, false, false, false, false, false, false, false, false, false] rfl rfl (by kernel_rfl) (fun _ _ _ h => h) (Or.inl ⟨by rfl, ?_⟩) ?_ ?_
      rotate_left
      · intro w'
        go_simp
        with_reducible rfl
      rotate_left
      · simp only [Act.put, List.setIfInBounds_toArray, List.set_cons_zero, List.set_cons_succ, i64_w, i32_w]
        rfl
      refine pure_ (i := 4) (N := some 13) (v := ?_) (a' := ?_) #[true, true, false, false, true, false, false, false, false, false, false, false, false, false, false, false, false, false, false, false, false, false, false, false, false, false, false, false, false] rfl rfl (by kernel_rfl) (fun _ _ _ h => h) (Or.inl ⟨by rfl, ?_⟩) ?_ ?_
      rotate_left
      · intro w'
        go_simp
        with_reducible rfl
      rotate_left
      · simp only [Act.put, List.setIfInBounds_toArray, List.set_cons_zero, List.set_cons_succ, i64_w, i32_w]
        rfl
      refine pure_ (i := 7) (N := some 16) (v := ?_) (a' := ?_) #[true, true, false, false, true, false, false, true, false, false, false, false, false, false, false, false, false, false, false, false, false, false, false, false, false, false, false, false, false] rfl rfl (by kernel_rfl) (fun _ _ _ h => h) (Or.inl ⟨by rfl, ?_⟩) ?_ ?_
      rotate_left
      · intro w'
        go_simp
        with_reducible rfl
      rotate_left
      · simp only [Act.put, List.setIfInBounds_toArray, List.set_cons_zero, List.set_cons_succ, i64_w, i32_w]
        rfl
      refine pure_ (i := 10) (N := some 19) (v := ?_) (a' := ?_) #[true, true, false, false, true, false, false, true, false, false, true, false, false, false, false, false, false, false, false, false, false, false, false, false, false, false, false, false, false] rfl rfl (by kernel_rfl) (fun _ _ _ h => h) (Or.inl ⟨by rfl, ?_⟩) ?_ ?_
      rotate_left
      · intro w'
        go_simp
        with_reducible rfl
      rotate_left
      · simp only [Act.put, List.setIfInBounds_toArray, List.set_cons_zero, List.set_cons_succ, i64_w, i32_w]
        rfl
      refine pure_ (i := 13) (N := some 22) (v := ?_) (a' := ?_) #[true, true, false, false, true, false, false, true, false, false, true, false, false, true, false, false, false, false, false, false, false, false, false, false, false, false, false, false, false] rfl rfl (by kernel_rfl) (fun _ _ _ h => h) (Or.inl ⟨by rfl, ?_⟩) ?_ ?_
      rotate_left
      · intro w'
        go_simp
        with_reducible rfl
      rotate_left
      · simp only [Act.put, List.setIfInBounds_toArray, List.set_cons_zero, List.set_cons_succ, i64_w, i32_w]
        rfl
      refine pure_ (i := 16) (N := some 25) (v := ?_) (a' := ?_) #[true, true, false, false, true, false, false, true, false, false, true, false, false, true, false, false, true, false, false, false, false, false, false, false, false, false, false, false, false] rfl rfl (by kernel_rfl) (fun _ _ _ h => h) (Or.inl ⟨by rfl, ?_⟩) ?_ ?_
      rotate_left
      · intro w'
        go_simp
        with_reducible rfl
      rotate_left
      · simp only [Act.put, List.setIfInBounds_toArray, List.set_cons_zero, List.set_cons_succ, i64_w, i32_w]
        rfl
      refine pure_ (i := 19) (N := some 28) (v := ?_) (a' := ?_) #[true, true, false, false, true, false, false, true, false, false, true, false, false, true, false, false, true, false, false, true, false, false, false, false, false, false, false, false, false] rfl rfl (by kernel_rfl) (fun _ _ _ h => h) (Or.inl ⟨by rfl, ?_⟩) ?_ ?_
      rotate_left
      · intro w'
        go_simp
        with_reducible rfl
      rotate_left
      · simp only [Act.put, List.setIfInBounds_toArray, List.set_cons_zero, List.set_cons_succ, i64_w, i32_w]
        rfl
      refine pure_ (i := 22) (N := some 31) (v := ?_) (a' := ?_) #[true, true, false, false, true, false, false, true, false, false, true, false, false, true, false, false, true, false, false, true, false, false, true, false, false, false, false, false, false] rfl rfl (by kernel_rfl) (fun _ _ _ h => h) (Or.inl ⟨by rfl, ?_⟩) ?_ ?_
      rotate_left
      · intro w'
        go_simp
        with_reducible rfl
      rotate_left
      · simp only [Act.put, List.setIfInBounds_toArray, List.set_cons_zero, List.set_cons_succ, i64_w, i32_w]
        rfl
      refine take_ (i := 2) (N := some 11) (v := ?_) (a' := ?_) #[true, true, true, false, true, false, false, true, false, false, true, false, false, true, false, false, true, false, false, true, false, false, true, false, false, false, false, false, false] rfl rfl (by kernel_rfl) (fun _ _ _ h => h) (Or.inl ⟨by rfl, ?_⟩) hHeld ?_ ?_
      rotate_left
      · rintro w' s0
        go_simp
        with_reducible rfl
      rotate_left
      · simp only [Act.put, List.setIfInBounds_toArray, List.set_cons_zero, List.set_cons_succ, i64_w, i32_w]
        rfl
      refine take_ (i := 5) (N := some 14) (v := ?_) (a' := ?_) #[true, true, true, false, true, true, false, true, false, false, true, false, false, true, false, false, true, false, false, true, false, false, true, false, false, false, false, false, false] rfl rfl (by kernel_rfl) (fun _ _ _ h => h) (Or.inl ⟨by rfl, ?_⟩) hHeld ?_ ?_
      rotate_left
      · rintro w' s0
        go_simp
        with_reducible rfl
      rotate_left
      · simp only [Act.put, List.setIfInBounds_toArray, List.set_cons_zero, List.set_cons_succ, i64_w, i32_w]
        rfl
      refine take_ (i := 8) (N := some 17) (v := ?_) (a' := ?_) #[true, true, true, false, true, true, false, true, true, false, true, false, false, true, false, false, true, false, false, true, false, false, true, false, false, false, false, false, false] rfl rfl (by kernel_rfl) (fun _ _ _ h => h) (Or.inl ⟨by rfl, ?_⟩) hHeld ?_ ?_
      rotate_left
      · rintro w' s0
        go_simp
        with_reducible rfl
      rotate_left
      · simp only [Act.put, List.setIfInBounds_toArray, List.set_cons_zero, List.set_cons_succ, i64_w, i32_w]
        rfl
      refine take_ (i := 11) (N := some 20) (v := ?_) (a' := ?_) #[true, true, true, false, true, true, false, true, true, false, true, true, false, true, false, false, true, false, false, true, false, false, true, false, false, false, false, false, false] rfl rfl (by kernel_rfl) (fun _ _ _ h => h) (Or.inl ⟨by rfl, ?_⟩) hHeld ?_ ?_
      rotate_left
      · rintro w' s0
        go_simp
        with_reducible rfl
      rotate_left
      · simp only [Act.put, List.setIfInBounds_toArray, List.set_cons_zero, List.set_cons_succ, i64_w, i32_w]
        rfl
      refine take_ (i := 14) (N := some 23) (v := ?_) (a' := ?_) #[true, true, true, false, true, true, false, true, true, false, true, true, false, true, true, false, true, false, false, true, false, false, true, false, false, false, false, false, false] rfl rfl (by kernel_rfl) (fun _ _ _ h => h) (Or.inl ⟨by rfl, ?_⟩) hHeld ?_ ?_
      rotate_left
      · rintro w' s0
        go_simp
        with_reducible rfl
      rotate_left
      · simp only [Act.put, List.setIfInBounds_toArray, List.set_cons_zero, List.set_cons_succ, i64_w, i32_w]
        rfl
      refine take_ (i := 17) (N := some 26) (v := ?_) (a' := ?_) #[true, true, true, false, true, true, false, true, true, false, true, true, false, true, true, false, true, true, false, true, false, false, true, false, false, false, false, false, false] rfl rfl (by kernel_rfl) (fun _ _ _ h => h) (Or.inl ⟨by rfl, ?_⟩) hHeld ?_ ?_
      rotate_left
      · rintro w' s0
        go_simp
        with_reducible rfl
      rotate_left
      · simp only [Act.put, List.setIfInBounds_toArray, List.set_cons_zero, List.set_cons_succ, i64_w, i32_w]
        rfl
      refine take_ (i := 20) (N := some 29) (v := ?_) (a' := ?_) #[true, true, true, false, true, true, false, true, true, false, true, true, false, true, true, false, true, true, false, true, true, false, true, false, false, false, false, false, false] rfl rfl (by kernel_rfl) (fun _ _ _ h => h) (Or.inl ⟨by rfl, ?_⟩) hHeld ?_ ?_
      rotate_left
      · rintro w' s0
        go_simp
        with_reducible rfl
      rotate_left
      · simp only [Act.put, List.setIfInBounds_toArray, List.set_cons_zero, List.set_cons_succ, i64_w, i32_w]
        rfl
      refine take_ (i := 23) (N := some 32) (v := ?_) (a' := ?_) #[true, true, true, false, true, true, false, true, true, false, true, true, false, true, true, false, true, true, false, true, true, false, true, true, false, false, false, false, false] rfl rfl (by kernel_rfl) (fun _ _ _ h => h) (Or.inl ⟨by rfl, ?_⟩) hHeld ?_ ?_
      rotate_left
      · rintro w' s0
        go_simp
        with_reducible rfl
      rotate_left
      · simp only [Act.put, List.setIfInBounds_toArray, List.set_cons_zero, List.set_cons_succ, i64_w, i32_w]
        rfl
      refine one_ (i := 3) (N := some 12) #[true, true, true, true, true, true, false, true, true, false, true, true, false, true, true, false, true, true, false, true, true, false, true, true, false, false, false, false, false] rfl rfl (by kernel_rfl) (by decide) (fun K hK => ?_)
      refine goes_ Try.func24 (by kernel_rfl) rfl #[.pointer (some ⟨g, 0, none⟩)] (by rfl) rfl rfl (by first | rfl | (simp only [List.map_toArray, List.map_cons, List.map_nil]; rfl)) ?_
      refine (c0.out _ HI0.out HB.out).mono ?_
      rintro en w' ⟨rfl, hi, hb, hk⟩
      refine ⟨_, rfl, ?_⟩
      replace HR := Lib.hid (Kd.R_mono (Kd.R_keep (IsS132.apart HI0.out HR.out (by decide)) hk (fun _ h => h.2)) (fun _ h => h.1))
      replace HBX := Lib.hid ((hk.2 _ (blk_lt HBX.out) hne (by simp)).trans HBX.out)
      replace HK := Lib.hid (KeepBut.trans HK.out hk (.inl rfl))
      replace HI0 := Lib.hid hi
      replace HB := Lib.hid hb
      clear hi hb hk
      refine hK.out _ _ (blk_cell HBX.out 0) (fun hHeld => ?_)
      clear hK K
      refine norm_ (a' := ?_) ?_ ?_
      rotate_left
      · show Act.put _ (some 12) _ = _
        simp only [Act.put, List.setIfInBounds_toArray, List.set_cons_zero, List.set_cons_succ, i64_w, i32_w]
        rfl
      refine one_ (i := 6) (N := some 15) #[true, true, true, true, true, true, true, true, true, false, true, true, false, true, true, false, true, true, false, true, true, false, true, true, false, false, false, false, false] rfl rfl (by kernel_rfl) (by decide) (fun K hK => ?_)
      refine goes_ Try.func24 (by kernel_rfl) rfl #[.pointer (some ⟨g, 0, none⟩)] (by rfl) rfl rfl (by first | rfl | (simp only [List.map_toArray, List.map_cons, List.map_nil]; rfl)) ?_
      refine (c1.out _ HI0.out HB.out).mono ?_
      rintro en w' ⟨rfl, hi, hb, hk⟩
      refine ⟨_, rfl, ?_⟩
      replace HR := Lib.hid (Kd.R_mono (Kd.R_keep (IsS132.apart HI0.out HR.out (by decide)) hk (fun _ h => h.2)) (fun _ h => h.1))
      replace HBX := Lib.hid ((hk.2 _ (blk_lt HBX.out) hne (by simp)).trans HBX.out)
      replace HK := Lib.hid (KeepBut.trans HK.out hk (.inl rfl))
      replace HI0 := Lib.hid hi
      replace HB := Lib.hid hb
      clear hi hb hk
      refine hK.out _ _ (blk_cell HBX.out 0) (fun hHeld => ?_)
      clear hK K
      refine norm_ (a' := ?_) ?_ ?_
      rotate_left
      · show Act.put _ (some 15) _ = _
        simp only [Act.put, List.setIfInBounds_toArray, List.set_cons_zero, List.set_cons_succ, i64_w, i32_w]
        rfl
      refine one_ (i := 9) (N := some 18) #[true, true, true, true, true, true, true, true, true, true, true, true, false, true, true, false, true, true, false, true, true, false, true, true, false, false, false, false, false] rfl rfl (by kernel_rfl) (by decide) (fun K hK => ?_)
      refine goes_ Try.func24 (by kernel_rfl) rfl #[.pointer (some ⟨g, 0, none⟩)] (by rfl) rfl rfl (by first | rfl | (simp only [List.map_toArray, List.map_cons, List.map_nil]; rfl)) ?_
      refine (c2.out _ HI0.out HB.out).mono ?_
      rintro en w' ⟨rfl, hi, hb, hk⟩
      refine ⟨_, rfl, ?_⟩
      replace HR := Lib.hid (Kd.R_mono (Kd.R_keep (IsS132.apart HI0.out HR.out (by decide)) hk (fun _ h => h.2)) (fun _ h => h.1))
      replace HBX := Lib.hid ((hk.2 _ (blk_lt HBX.out) hne (by simp)).trans HBX.out)
      replace HK := Lib.hid (KeepBut.trans HK.out hk (.inl rfl))
      replace HI0 := Lib.hid hi
      replace HB := Lib.hid hb
      clear hi hb hk
      refine hK.out _ _ (blk_cell HBX.out 0) (fun hHeld => ?_)
      clear hK K
      refine norm_ (a' := ?_) ?_ ?_
      rotate_left
      · show Act.put _ (some 18) _ = _
        simp only [Act.put, List.setIfInBounds_toArray, List.set_cons_zero, List.set_cons_succ, i64_w, i32_w]
        rfl
      refine one_ (i := 12) (N := some 21) #[true, true, true, true, true, true, true, true, true, true, true, true, true, true, true, false, true, true, false, true, true, false, true, true, false, false, false, false, false] rfl rfl (by kernel_rfl) (by decide) (fun K hK => ?_)
      refine goes_ Try.func24 (by kernel_rfl) rfl #[.pointer (some ⟨g, 0, none⟩)] (by rfl) rfl rfl (by first | rfl | (simp only [List.map_toArray, List.map_cons, List.map_nil]; rfl)) ?_
      refine (c3.out _ HI0.out HB.out).mono ?_
      rintro en w' ⟨rfl, hi, hb, hk⟩
      refine ⟨_, rfl, ?_⟩
      replace HR := Lib.hid (Kd.R_mono (Kd.R_keep (IsS132.apart HI0.out HR.out (by decide)) hk (fun _ h => h.2)) (fun _ h => h.1))
      replace HBX := Lib.hid ((hk.2 _ (blk_lt HBX.out) hne (by simp)).trans HBX.out)
      replace HK := Lib.hid (KeepBut.trans HK.out hk (.inl rfl))
      replace HI0 := Lib.hid hi
      replace HB := Lib.hid hb
      clear hi hb hk
      refine hK.out _ _ (blk_cell HBX.out 0) (fun hHeld => ?_)
      clear hK K
      refine norm_ (a' := ?_) ?_ ?_
      rotate_left
      · show Act.put _ (some 21) _ = _
        simp only [Act.put, List.setIfInBounds_toArray, List.set_cons_zero, List.set_cons_succ, i64_w, i32_w]
        rfl
      refine one_ (i := 15) (N := some 24) #[true, true, true, true, true, true, true, true, true, true, true, true, true, true, true, true, true, true, false, true, true, false, true, true, false, false, false, false, false] rfl rfl (by kernel_rfl) (by decide) (fun K hK => ?_)
      refine goes_ Try.func24 (by kernel_rfl) rfl #[.pointer (some ⟨g, 0, none⟩)] (by rfl) rfl rfl (by first | rfl | (simp only [List.map_toArray, List.map_cons, List.map_nil]; rfl)) ?_
      refine (c4.out _ HI0.out HB.out).mono ?_
      rintro en w' ⟨rfl, hi, hb, hk⟩
      refine ⟨_, rfl, ?_⟩
      replace HR := Lib.hid (Kd.R_mono (Kd.R_keep (IsS132.apart HI0.out HR.out (by decide)) hk (fun _ h => h.2)) (fun _ h => h.1))
      replace HBX := Lib.hid ((hk.2 _ (blk_lt HBX.out) hne (by simp)).trans HBX.out)
      replace HK := Lib.hid (KeepBut.trans HK.out hk (.inl rfl))
      replace HI0 := Lib.hid hi
      replace HB := Lib.hid hb
      clear hi hb hk
      refine hK.out _ _ (blk_cell HBX.out 0) (fun hHeld => ?_)
      clear hK K
      refine norm_ (a' := ?_) ?_ ?_
      rotate_left
      · show Act.put _ (some 24) _ = _
        simp only [Act.put, List.setIfInBounds_toArray, List.set_cons_zero, List.set_cons_succ, i64_w, i32_w]
        rfl
      refine one_ (i := 18) (N := some 27) #[true, true, true, true, true, true, true, true, true, true, true, true, true, true, true, true, true, true, true, true, true, false, true, true, false, false, false, false, false] rfl rfl (by kernel_rfl) (by decide) (fun K hK => ?_)
      refine goes_ Try.func24 (by kernel_rfl) rfl #[.pointer (some ⟨g, 0, none⟩)] (by rfl) rfl rfl (by first | rfl | (simp only [List.map_toArray, List.map_cons, List.map_nil]; rfl)) ?_
      refine (c5.out _ HI0.out HB.out).mono ?_
      rintro en w' ⟨rfl, hi, hb, hk⟩
      refine ⟨_, rfl, ?_⟩
      replace HR := Lib.hid (Kd.R_mono (Kd.R_keep (IsS132.apart HI0.out HR.out (by decide)) hk (fun _ h => h.2)) (fun _ h => h.1))
      replace HBX := Lib.hid ((hk.2 _ (blk_lt HBX.out) hne (by simp)).trans HBX.out)
      replace HK := Lib.hid (KeepBut.trans HK.out hk (.inl rfl))
      replace HI0 := Lib.hid hi
      replace HB := Lib.hid hb
      clear hi hb hk
      refine hK.out _ _ (blk_cell HBX.out 0) (fun hHeld => ?_)
      clear hK K
      refine norm_ (a' := ?_) ?_ ?_
      rotate_left
      · show Act.put _ (some 27) _ = _
        simp only [Act.put, List.setIfInBounds_toArray, List.set_cons_zero, List.set_cons_succ, i64_w, i32_w]
        rfl
      refine one_ (i := 21) (N := some 30) #[true, true, true, true, true, true, true, true, true, true, true, true, true, true, true, true, true, true, true, true, true, true, true, true, false, false, false, false, false] rfl rfl (by kernel_rfl) (by decide) (fun K hK => ?_)
      refine goes_ Try.func24 (by kernel_rfl) rfl #[.pointer (some ⟨g, 0, none⟩)] (by rfl) rfl rfl (by first | rfl | (simp only [List.map_toArray, List.map_cons, List.map_nil]; rfl)) ?_
      refine (c6.out _ HI0.out HB.out).mono ?_
      rintro en w' ⟨rfl, hi, hb, hk⟩
      refine ⟨_, rfl, ?_⟩
      replace HR := Lib.hid (Kd.R_mono (Kd.R_keep (IsS132.apart HI0.out HR.out (by decide)) hk (fun _ h => h.2)) (fun _ h => h.1))
      replace HBX := Lib.hid ((hk.2 _ (blk_lt HBX.out) hne (by simp)).trans HBX.out)
      replace HK := Lib.hid (KeepBut.trans HK.out hk (.inl rfl))
      replace HI0 := Lib.hid hi
      replace HB := Lib.hid hb
      clear hi hb hk
      refine hK.out _ _ (blk_cell HBX.out 0) (fun hHeld => ?_)
      clear hK K
      refine norm_ (a' := ?_) ?_ ?_
      rotate_left
      · show Act.put _ (some 30) _ = _
        simp only [Act.put, List.setIfInBounds_toArray, List.set_cons_zero, List.set_cons_succ, i64_w, i32_w]
        rfl
      refine one_ (i := 24) (N := some 33) #[true, true, true, true, true, true, true, true, true, true, true, true, true, true, true, true, true, true, true, true, true, true, true, true, true, false, false, false, false] rfl rfl (by kernel_rfl) (by decide) (fun K hK => ?_)
      refine goes_ Try.func24 (by kernel_rfl) rfl #[.pointer (some ⟨g, 0, none⟩)] (by rfl) rfl rfl (by first | rfl | (simp only [List.map_toArray, List.map_cons, List.map_nil]; rfl)) ?_
      refine (c7.out _ HI0.out HB.out).mono ?_
      rintro en w' ⟨rfl, hi, hb, hk⟩
      refine ⟨_, rfl, ?_⟩
      replace HR := Lib.hid (Kd.R_mono (Kd.R_keep (IsS132.apart HI0.out HR.out (by decide)) hk (fun _ h => h.2)) (fun _ h => h.1))
      replace HBX := Lib.hid ((hk.2 _ (blk_lt HBX.out) hne (by simp)).trans HBX.out)
      replace HK := Lib.hid (KeepBut.trans HK.out hk (.inl rfl))
      replace HI0 := Lib.hid hi
      replace HB := Lib.hid hb
      clear hi hb hk
      refine hK.out _ _ (blk_cell HBX.out 0) (fun hHeld => ?_)
      clear hK K
      refine norm_ (a' := ?_) ?_ ?_
      rotate_left
      · show Act.put _ (some 33) _ = _
        simp only [Act.put, List.setIfInBounds_toArray, List.set_cons_zero, List.set_cons_succ, i64_w, i32_w]
        rfl
      refine pure_ (i := 25) (N := some 34) (v := ?_) (a' := ?_) #[true, true, true, true, true, true, true, true, true, true, true, true, true, true, true, true, true, true, true, true, true, true, true, true, true, true, false, false, false] rfl rfl (by kernel_rfl) (fun _ _ _ h => h) (Or.inl ⟨by rfl, ?_⟩) ?_ ?_
      rotate_left
      · intro w'
        go_simp
        with_reducible rfl
      rotate_left
      · simp only [Act.put, List.setIfInBounds_toArray, List.set_cons_zero, List.set_cons_succ, i64_w, i32_w]
        rfl
      refine one_ (i := 26) (N := some 35) #[true, true, true, true, true, true, true, true, true, true, true, true, true, true, true, true, true, true, true, true, true, true, true, true, true, true, true, false, false] rfl rfl (by kernel_rfl) (by decide) (fun K hK => ?_)
      refine value_ (w1 := ?_) (v := ?_) (by rfl) rfl ?_ ?_
      rotate_left 2
      · go_simp
        constructor
        · rfl
        · rfl
      refine hK.out _ _ (blk_cell (blk_alloc HBX.out _) 0) (fun hHeld => ?_)
      clear hK K
      refine norm_ (a' := ?_) ?_ ?_
      rotate_left
      · show Act.put _ (some 35) _ = _
        simp only [Act.put, List.setIfInBounds_toArray, List.set_cons_zero, List.set_cons_succ, i64_w, i32_w]
        rfl
      refine one_ (i := 27) (N := some 36) #[true, true, true, true, true, true, true, true, true, true, true, true, true, true, true, true, true, true, true, true, true, true, true, true, true, true, true, true, false] rfl rfl (by kernel_rfl) (by decide) (fun K hK => ?_)
      refine Kd.R_append_step k127 w.heap.size (by rfl) (.tmp 9) (.tmp 35) 26 127 (.agg #[(.int .i64 0), (.int .i64 0), (.int .i64 0), (.int .i64 0), (.int .i64 0), (.int .i64 0), (.int .i64 0), (.int .i64 0)]) 64 rfl Try.underlying26 info127 rfl (by decide) (by omega) u3 xs (⟨x0, x1, x2, x3, x4, x5, x6, x7⟩ : S127) [.int .i64 x0, .int .i64 x1, .int .i64 x2, .int .i64 x3, .int .i64 x4, .int .i64 x5, .int .i64 x6, .int .i64 x7] (fun _ => True) (fun _ => False) rfl rfl ?aP (fun _ hk => hk.elim) ?aF ?aO (Below.refl _ _) ?aS ?aL ?_
      (case aP => exact k127_mkM _ _ _ (⟨x0, x1, x2, x3, x4, x5, x6, x7⟩ : S127))
      (case aF => exact (fun _ _ => trivial))
      (case aO => exact HR.out)
      (case aS => exact keep_size HK.out)
      (case aL => omega)
      intro v198 w6 ho hb hg hat
      replace HI0 := Lib.hid (IsS132.grown HI0.out hg (IsS132.own_ne HI0.out HR.out (by decide)))
      replace HBX := Lib.hid (blk_grown HBX.out hg (Kd.R_ne HR.out HBX.out (by decide)))
      replace HB := Lib.hid (HB.out.trans (hb.mono hbs))
      replace HK := Lib.hid (show KeepBut w w6 g none from ⟨Nat.le_trans HK.out.1 hg.size, fun i hi h1 h2 => (hb.block i hi).trans (HK.out.2 i hi h1 h2)⟩)
      replace HR := Lib.hid ho
      clear ho hb hg hat
      refine hK.out _ _ (blk_cell HBX.out 0) (fun hHeld => ?_)
      clear hK K
      refine norm_ (a' := ?_) ?_ ?_
      rotate_left
      · show Act.put _ (some 36) _ = _
        simp only [Act.put, List.setIfInBounds_toArray, List.set_cons_zero, List.set_cons_succ, i64_w, i32_w]
        rfl
      refine pure_ (i := 28) (N := some 3) (v := ?_) (a' := ?_) #[true, true, true, true, true, true, true, true, true, true, true, true, true, true, true, true, true, true, true, true, true, true, true, true, true, true, true, true, true] rfl rfl (by kernel_rfl) (fun _ _ _ h => h) (Or.inl ⟨by rfl, ?_⟩) ?_ ?_
      rotate_left
      · intro w'
        go_simp
        with_reducible rfl
      rotate_left
      · simp only [Act.put, List.setIfInBounds_toArray, List.set_cons_zero, List.set_cons_succ, i64_w, i32_w]
        rfl
      refine done_ (by kernel_rfl) ?_
      go_wp2
      go_roundw
      case rel =>
        refine ⟨k + 1, _, _, _, by go_num, by omega, ?_, hq8, HR, HI0, HBX, HB, HK, ?_⟩
        · rw [List.length_append, hxl]; rfl
        · have hM := HM.out
          rw [show n - k = (n - (k + 1)) + 1 by omega] at hM
          rw [← hM]
          simp only [manyR, quotesR, isoR, pairR, h0.out, h1.out, h2.out, h3.out, h4.out, h5.out, h6.out, h7.out, List.append_assoc, List.singleton_append]
          first | exact Lib.hid rfl | exact Lib.hid trivial
      case measure => simp [intOf]; omega
    · have hkn : k = n := by omega
      subst hkn
      go_wp2
      go_ret
      have hM := HM.out
      rw [Nat.sub_self] at hM
      simp only [manyR, List.append_nil] at hM
      rw [← hM]
      exact ⟨_, rfl, HR.out, HI0.out, HB.out, HK.out⟩
end Go.Proofs.Ytlkfbdeddfhocaa

set_option linter.unusedVariables false
set_option linter.unusedSimpArgs false
namespace Go.Proofs.Ytlkfbdeddfhocaa
open Go.Proofs Go.RowKit Go.Proofs.YtlkfbdeddfhocaaW.PrintWords Go.Proofs.YtlkfbdeddfhocaaW.PrintLast Go.Proofs.YtlkfbdeddfhocaaW.PrintMore Q

theorem info80 : (Try.prog.info? 80).map (fun i => (i.zero, i.size, i.bytes)) = some (some (.agg #[(.int .i64 0), (.int .i64 0), (.string ⟨#[]⟩), (.int .i64 0)]), 4, 40) := by kernel_rfl
def linksR : Rdr S80 := isoR (pairR intR (pairR intR (pairR (textR 160) intR))) (fun x => ⟨x.1, x.2.1, ⟨(x.2.2.1).toArray⟩, x.2.2.2⟩)
set_option maxHeartbeats 8000000 in
set_option maxRecDepth 1000000 in
theorem links_walk (S : List UInt8) (hS : S.length ≤ 1000000) (g p : Nat) (e : Int) (hp : p ≤ S.length) (w0 w : World) (hI : IsS132 w0 w g ⟨S.toArray⟩ p e) (hB : Below w0.heap.size w0 w) :
    Calls Try.prog 33 #[.agg #[.pointer (some ⟨g, 0, none⟩)]] w fun en w' => ∃ v, en = .returned v ∧ Kd.R k80 80 w' w.heap.size (fun _ => True) v (listR 4096 linksR S p e).1 ∧
      IsS132 w0 w' g ⟨S.toArray⟩ (listR 4096 linksR S p e).2.1 (listR 4096 linksR S p e).2.2 ∧ Below w0.heap.size w0 w' ∧ KeepBut w w' g none := by
  have hcp := (good_count 4096 (by omega)).place S p e hp
  have hcn := count_le S p e
  have hc := fun W hi hb => count_call S hS g w0 p e hp W hi hb
  unfold listR
  obtain ⟨⟨n, q0, e0⟩, hR⟩ : ∃ x, countR 4096 S p e = x := ⟨_, rfl⟩
  rw [hR] at hc hcp hcn ⊢
  simp only at hc hcp hcn ⊢
  replace hc := Lib.hid hc
  clear hR
  have HI := Lib.hid hI
  have HB0 := Lib.hid hB
  have hne : w.heap.size ≠ g := Nat.ne_of_gt hI.lt
  have hbs := hB.size
  have HT := Lib.hid (text_call S hS g w0)
  have HN := Lib.hid (int_call S hS g w0)
  clear hI hB
  go_enter Try.func33, Try.ntmps33
  go_wp2_with (go_at_call 45; refine (hc.out _ (IsS132.alloc HI.out _) (below_alloc HB0.out _)).mono ?_; rintro en w1 ⟨rfl, hi, hb, hk⟩)
  have hbox : w1.heap[w.heap.size]? = some (.cells #[.pointer (some ⟨g, 0, none⟩)] 101 (0, 0)) := (hk.2 w.heap.size (by simp) hne (by simp)).trans (heap_alloc_new w _)
  have hkk : KeepBut w w1 g none := KeepBut.trans (keep_alloc (KeepBut.refl w g none) _) hk (.inl rfl)
  clear hk
  go_loopw [3, 7] (fun v i wr => ∃ (k : Nat) (xs : List S80) (q : Nat) (e' : Int), i = .int .i64 k ∧ k ≤ n ∧ xs.length = k ∧ q ≤ S.length ∧ Hid (Kd.R k80 80 wr w.heap.size (fun _ => True) v xs) ∧ Hid (IsS132 w0 wr g ⟨S.toArray⟩ q e') ∧
    Hid (wr.heap[w.heap.size]? = some (.cells #[.pointer (some ⟨g, 0, none⟩)] 101 (0, 0))) ∧ Hid (Below w0.heap.size w0 wr) ∧ Hid (KeepBut w wr g none) ∧
    Hid ((xs ++ (manyR linksR (n - k) S q e').1, (manyR linksR (n - k) S q e').2) = manyR linksR n S q0 e0)) (fun _ i _ => n - (intOf i).toNat)
  case atStart => exact ⟨0, [], q0, e0, rfl, by omega, rfl, hcp.2, Lib.hid (Kd.R_nil _ _ _ _ _), Lib.hid hi, Lib.hid hbox, Lib.hid hb, Lib.hid hkk, Lib.hid rfl⟩
  case round =>
    clear hi hbox hb hkk
    obtain ⟨k, xs, q, e', rfl, hk, hxl, hq, HR, HI0, HBX, HB, HK, HM⟩ := hrel
    by_cases hlt : k < n
    · obtain ⟨⟨x0, q1, e1⟩, h0⟩ : ∃ x, intR S q e' = x := ⟨_, rfl⟩
      have c0 := HN.out q e' hq
      have hq1 := (good_int.place S q e' hq).2
      simp only [h0] at c0 hq1
      replace c0 := Lib.hid c0
      replace h0 := Lib.hid h0
      obtain ⟨⟨x1, q2, e2⟩, h1⟩ : ∃ x, intR S q1 e1 = x := ⟨_, rfl⟩
      have c1 := HN.out q1 e1 hq1
      have hq2 := (good_int.place S q1 e1 hq1).2
      simp only [h1] at c1 hq2
      replace c1 := Lib.hid c1
      replace h1 := Lib.hid h1
      obtain ⟨⟨x2, q3, e3⟩, h2⟩ : ∃ x, textR 160 S q2 e2 = x := ⟨_, rfl⟩
      have c2 := HT.out q2 e2 hq2
      have hq3 := ((good_text 160 (by omega)).place S q2 e2 hq2).2
      simp only [h2] at c2 hq3
      replace c2 := Lib.hid c2
      replace h2 := Lib.hid h2
      obtain ⟨⟨x3, q4, e4⟩, h3⟩ : ∃ x, intR S q3 e3 = x := ⟨_, rfl⟩
      have c3 := HN.out q3 e3 hq3
      have hq4 := (good_int.place S q3 e3 hq3).2
      simp only [h3] at c3 hq4
      replace c3 := Lib.hid c3
      replace h3 := Lib.hid h3
      go_wp2
      refine start_ (ds := ([] : List Nat)) (n := 17) (S := fun w' => w'.cell? ⟨w.heap.size, 0, none⟩ = some (.pointer (some ⟨g, 0, none⟩))) #[false, false, false, false, false, false, false, false, false, false, false, false, false, false, false, false, false] (by kernel_rfl) (by rfl) (by rfl) (blk_cell (blk_drew HBX.out) 0) (fun hHeld => ?_)
      replace HR := Lib.hid (Kd.R_drew HR.out)
      replace HI0 := Lib.hid (IsS132.drew HI0.out)
      replace HBX := Lib.hid (blk_drew HBX.out)
      replace HB := Lib.hid (below_drew1 HB.out)
      replace HK := Lib.hid (keep_drew HK.out)
      generalize wr.drew = w5 at HR HI0 HBX HB HK hHeld ⊢
      refine pure_ (i := 0) (N := some 9) (v := ?_) (a' := ?_) #[true, false, false, false, false, false, false, false, false, false, false, false, false, false, false, false, false] rfl rfl (by kernel_rfl) (fun _ _ _ h => h) (Or.inl ⟨by rfl, ?_⟩) ?_ ?_
      rotate_left
      · intro w'
        go_simp
        with_reducible rfl
      rotate_left
      · simp only [Act.put, List.setIfInBounds_toArray, List.set_cons_zero, List.set_cons_succ, i64_w, i32_w]
        rfl
      refine pure_ (i := 1) (N := some 10) (v := ?_) (a' := ?_) #[true, true, false, false, false, false, false, false, false, false, false, false, false, false, false, false, false] rfl rfl (by kernel_rfl) (fun _ _ _ h => h) (Or.inl ⟨by rfl, ?_⟩) ?_ ?_
      rotate_left
      · intro w'
        go_simp
        with_reducible rfl
      rotate_left
      · simp only [Act.put, List.setIfInBounds_toArray, List.set_cons_zero, List.set_cons_succ, i64_w, i32_w]
        rfl
      refine pure_ (i := 4) (N := some 13) (v := ?_) (a' := ?_) #[true, true, false, false, true, false, false, false, false, false, false, false, false, false, false, false, false] rfl rfl (by kernel_rfl) (fun _ _ _ h => h) (Or.inl ⟨by rfl, ?_⟩) ?_ ?_
      rotate_left
      · intro w'
        go_simp
        with_reducible rfl
      rotate_left
      · simp only [Act.put, List.setIfInBounds_toArray, List.set_cons_zero, List.set_cons_succ, i64_w, i32_w]
        rfl
      refine pure_ (i := 7) (N := some 16) (v := ?_) (a' := ?_) #[true, true, false, false, true, false, false, true, false, false, false, false, false, false, false, false, false] rfl rfl (by kernel_rfl) (fun _ _ _ h => h) (Or.inl ⟨by rfl, ?_⟩) ?_ ?_
      rotate_left
      · intro w'
        go_simp
        with_reducible rfl
      rotate_left
      · simp only [Act.put, List.setIfInBounds_toArray, List.set_cons_zero, List.set_cons_succ, i64_w, i32_w]
        rfl
      refine pure_ (i := 10) (N := some 19) (v := ?_) (a' := ?_) #[true, true, false, false, true, false, false, true, false, false, true, false, false, false, false, false, false] rfl rfl (by kernel_rfl) (fun _ _ _ h => h) (Or.inl ⟨by rfl, ?_⟩) ?_ ?_
      rotate_left
      · intro w'
        go_simp
        with_reducible rfl
      rotate_left
      · simp only [Act.put, List.setIfInBounds_toArray, List.set_cons_zero, List.set_cons_succ, i64_w, i32_w]
        rfl
      refine take_ (i := 2) (N := some 11) (v := ?_) (a' := ?_) #[true, true, true, false, true, false, false, true, false, false, true, false, false, false, false, false, false] rfl rfl (by kernel_rfl) (fun _ _ _ h => h) (Or.inl ⟨by rfl, ?_⟩) hHeld ?_ ?_
      rotate_left
      · rintro w' s0
        go_simp
        with_reducible rfl
      rotate_left
      · simp only [Act.put, List.setIfInBounds_toArray, List.set_cons_zero, List.set_cons_succ, i64_w, i32_w]
        rfl
      refine take_ (i := 5) (N := some 14) (v := ?_) (a' := ?_) #[true, true, true, false, true, true, false, true, false, false, true, false, false, false, false, false, false] rfl rfl (by kernel_rfl) (fun _ _ _ h => h) (Or.inl ⟨by rfl, ?_⟩) hHeld ?_ ?_
      rotate_left
      · rintro w' s0
        go_simp
        with_reducible rfl
      rotate_left
      · simp only [Act.put, List.setIfInBounds_toArray, List.set_cons_zero, List.set_cons_succ, i64_w, i32_w]
        rfl
      refine take_ (i := 8) (N := some 17) (v := ?_) (a' := ?_) #[true, true, true, false, true, true, false, true, true, false, true, false, false, false, false, false, false] rfl rfl (by kernel_rfl) (fun _ _ _ h => h) (Or.inl ⟨by rfl, ?_⟩) hHeld ?_ ?_
      rotate_left
      · rintro w' s0
        go_simp
        with_reducible rfl
      rotate_left
      · simp only [Act.put, List.setIfInBounds_toArray, List.set_cons_zero, List.set_cons_succ, i64_w, i32_w]
        rfl
      refine take_ (i := 11) (N := some 20) (v := ?_) (a' := ?_) #[true, true, true, false, true, true, false, true, true, false, true, true, false, false, false, false, false] rfl rfl (by kernel_rfl) (fun _ _ _ h => h) (Or.inl ⟨by rfl, ?_⟩) hHeld ?_ ?_
      rotate_left
      · rintro w' s0
        go_simp
        with_reducible rfl
      rotate_left
      · simp only [Act.put, List.setIfInBounds_toArray, List.set_cons_zero, List.set_cons_succ, i64_w, i32_w]
        rfl
      refine one_ (i := 3) (N := some 12) #[true, true, true, true, true, true, false, true, true, false, true, true, false, false, false, false, false] rfl rfl (by kernel_rfl) (by decide) (fun K hK => ?_)
      refine goes_ Try.func24 (by kernel_rfl) rfl #[.pointer (some ⟨g, 0, none⟩)] (by rfl) rfl rfl (by first | rfl | (simp only [List.map_toArray, List.map_cons, List.map_nil]; rfl)) ?_
      refine (c0.out _ HI0.out HB.out).mono ?_
      rintro en w' ⟨rfl, hi, hb, hk⟩
      refine ⟨_, rfl, ?_⟩
      replace HR := Lib.hid (Kd.R_mono (Kd.R_keep (IsS132.apart HI0.out HR.out (by decide)) hk (fun _ h => h.2)) (fun _ h => h.1))
      replace HBX := Lib.hid ((hk.2 _ (blk_lt HBX.out) hne (by simp)).trans HBX.out)
      replace HK := Lib.hid (KeepBut.trans HK.out hk (.inl rfl))
      replace HI0 := Lib.hid hi
      replace HB := Lib.hid hb
      clear hi hb hk
      refine hK.out _ _ (blk_cell HBX.out 0) (fun hHeld => ?_)
      clear hK K
      refine norm_ (a' := ?_) ?_ ?_
      rotate_left
      · show Act.put _ (some 12) _ = _
        simp only [Act.put, List.setIfInBounds_toArray, List.set_cons_zero, List.set_cons_succ, i64_w, i32_w]
        rfl
      refine one_ (i := 6) (N := some 15) #[true, true, true, true, true, true, true, true, true, false, true, true, false, false, false, false, false] rfl rfl (by kernel_rfl) (by decide) (fun K hK => ?_)
      refine goes_ Try.func24 (by kernel_rfl) rfl #[.pointer (some ⟨g, 0, none⟩)] (by rfl) rfl rfl (by first | rfl | (simp only [List.map_toArray, List.map_cons, List.map_nil]; rfl)) ?_
      refine (c1.out _ HI0.out HB.out).mono ?_
      rintro en w' ⟨rfl, hi, hb, hk⟩
      refine ⟨_, rfl, ?_⟩
      replace HR := Lib.hid (Kd.R_mono (Kd.R_keep (IsS132.apart HI0.out HR.out (by decide)) hk (fun _ h => h.2)) (fun _ h => h.1))
      replace HBX := Lib.hid ((hk.2 _ (blk_lt HBX.out) hne (by simp)).trans HBX.out)
      replace HK := Lib.hid (KeepBut.trans HK.out hk (.inl rfl))
      replace HI0 := Lib.hid hi
      replace HB := Lib.hid hb
      clear hi hb hk
      refine hK.out _ _ (blk_cell HBX.out 0) (fun hHeld => ?_)
      clear hK K
      refine norm_ (a' := ?_) ?_ ?_
      rotate_left
      · show Act.put _ (some 15) _ = _
        simp only [Act.put, List.setIfInBounds_toArray, List.set_cons_zero, List.set_cons_succ, i64_w, i32_w]
        rfl
      refine one_ (i := 9) (N := some 18) #[true, true, true, true, true, true, true, true, true, true, true, true, false, false, false, false, false] rfl rfl (by kernel_rfl) (by decide) (fun K hK => ?_)
      refine goes_ Try.func46 (by kernel_rfl) rfl #[.pointer (some ⟨g, 0, none⟩), .int .i64 160] (by rfl) rfl rfl (by first | rfl | (simp only [List.map_toArray, List.map_cons, List.map_nil]; rfl)) ?_
      refine (c2.out _ HI0.out HB.out).mono ?_
      rintro en w' ⟨rfl, hi, hb, hk⟩
      refine ⟨_, rfl, ?_⟩
      replace HR := Lib.hid (Kd.R_mono (Kd.R_keep (IsS132.apart HI0.out HR.out (by decide)) hk (fun _ h => h.2)) (fun _ h => h.1))
      replace HBX := Lib.hid ((hk.2 _ (blk_lt HBX.out) hne (by simp)).trans HBX.out)
      replace HK := Lib.hid (KeepBut.trans HK.out hk (.inl rfl))
      replace HI0 := Lib.hid hi
      replace HB := Lib.hid hb
      clear hi hb hk
      refine hK.out _ _ (blk_cell HBX.out 0) (fun hHeld => ?_)
      clear hK K
      refine norm_ (a' := ?_) ?_ ?_
      rotate_left
      · show Act.put _ (some 18) _ = _
        simp only [Act.put, List.setIfInBounds_toArray, List.set_cons_zero, List.set_cons_succ, i64_w, i32_w]
        rfl
      refine one_ (i := 12) (N := some 21) #[true, true, true, true, true, true, true, true, true, true, true, true, true, false, false, false, false] rfl rfl (by kernel_rfl) (by decide) (fun K hK => ?_)
      refine goes_ Try.func24 (by kernel_rfl) rfl #[.pointer (some ⟨g, 0, none⟩)] (by rfl) rfl rfl (by first | rfl | (simp only [List.map_toArray, List.map_cons, List.map_nil]; rfl)) ?_
      refine (c3.out _ HI0.out HB.out).mono ?_
      rintro en w' ⟨rfl, hi, hb, hk⟩
      refine ⟨_, rfl, ?_⟩
      replace HR := Lib.hid (Kd.R_mono (Kd.R_keep (IsS132.apart HI0.out HR.out (by decide)) hk (fun _ h => h.2)) (fun _ h => h.1))
      replace HBX := Lib.hid ((hk.2 _ (blk_lt HBX.out) hne (by simp)).trans HBX.out)
      replace HK := Lib.hid (KeepBut.trans HK.out hk (.inl rfl))
      replace HI0 := Lib.hid hi
      replace HB := Lib.hid hb
      clear hi hb hk
      refine hK.out _ _ (blk_cell HBX.out 0) (fun hHeld => ?_)
      clear hK K
      refine norm_ (a' := ?_) ?_ ?_
      rotate_left
      · show Act.put _ (some 21) _ = _
        simp only [Act.put, List.setIfInBounds_toArray, List.set_cons_zero, List.set_cons_succ, i64_w, i32_w]
        rfl
      refine pure_ (i := 13) (N := some 22) (v := ?_) (a' := ?_) #[true, true, true, true, true, true, true, true, true, true, true, true, true, true, false, false, false] rfl rfl (by kernel_rfl) (fun _ _ _ h => h) (Or.inl ⟨by rfl, ?_⟩) ?_ ?_
      rotate_left
      · intro w'
        go_simp
        with_reducible rfl
      rotate_left
      · simp only [Act.put, List.setIfInBounds_toArray, List.set_cons_zero, List.set_cons_succ, i64_w, i32_w]
        rfl
      refine one_ (i := 14) (N := some 23) #[true, true, true, true, true, true, true, true, true, true, true, true, true, true, true, false, false] rfl rfl (by kernel_rfl) (by decide) (fun K hK => ?_)
      refine value_ (w1 := ?_) (v := ?_) (by rfl) rfl ?_ ?_
      rotate_left 2
      · go_simp
        constructor
        · rfl
        · rfl
      refine hK.out _ _ (blk_cell (blk_alloc HBX.out _) 0) (fun hHeld => ?_)
      clear hK K
      refine norm_ (a' := ?_) ?_ ?_
      rotate_left
      · show Act.put _ (some 23) _ = _
        simp only [Act.put, List.setIfInBounds_toArray, List.set_cons_zero, List.set_cons_succ, i64_w, i32_w]
        rfl
      refine one_ (i := 15) (N := some 24) #[true, true, true, true, true, true, true, true, true, true, true, true, true, true, true, true, false] rfl rfl (by kernel_rfl) (by decide) (fun K hK => ?_)
      refine Kd.R_append_step k80 w.heap.size (by rfl) (.tmp 9) (.tmp 23) 43 80 (.agg #[(.int .i64 0), (.int .i64 0), (.string ⟨#[]⟩), (.int .i64 0)]) 40 rfl Try.underlying43 info80 rfl (by decide) (by omega) u3 xs (⟨x0, x1, ⟨x2.toArray⟩, x3⟩ : S80) [.int .i64 x0, .int .i64 x1, .string ⟨x2.toArray⟩, .int .i64 x3] (fun _ => True) (fun _ => False) rfl rfl ?aP (fun _ hk => hk.elim) ?aF ?aO (Below.refl _ _) ?aS ?aL ?_
      (case aP => exact k80_mkM _ _ _ (⟨x0, x1, ⟨x2.toArray⟩, x3⟩ : S80))
      (case aF => exact (fun _ _ => trivial))
      (case aO => exact HR.out)
      (case aS => exact keep_size HK.out)
      (case aL => omega)
      intro v198 w6 ho hb hg hat
      replace HI0 := Lib.hid (IsS132.grown HI0.out hg (IsS132.own_ne HI0.out HR.out (by decide)))
      replace HBX := Lib.hid (blk_grown HBX.out hg (Kd.R_ne HR.out HBX.out (by decide)))
      replace HB := Lib.hid (HB.out.trans (hb.mono hbs))
      replace HK := Lib.hid (show KeepBut w w6 g none from ⟨Nat.le_trans HK.out.1 hg.size, fun i hi h1 h2 => (hb.block i hi).trans (HK.out.2 i hi h1 h2)⟩)
      replace HR := Lib.hid ho
      clear ho hb hg hat
      refine hK.out _ _ (blk_cell HBX.out 0) (fun hHeld => ?_)
      clear hK K
      refine norm_ (a' := ?_) ?_ ?_
      rotate_left
      · show Act.put _ (some 24) _ = _
        simp only [Act.put, List.setIfInBounds_toArray, List.set_cons_zero, List.set_cons_succ, i64_w, i32_w]
        rfl
      refine pure_ (i := 16) (N := some 3) (v := ?_) (a' := ?_) #[true, true, true, true, true, true, true, true, true, true, true, true, true, true, true, true, true] rfl rfl (by kernel_rfl) (fun _ _ _ h => h) (Or.inl ⟨by rfl, ?_⟩) ?_ ?_
      rotate_left
      · intro w'
        go_simp
        with_reducible rfl
      rotate_left
      · simp only [Act.put, List.setIfInBounds_toArray, List.set_cons_zero, List.set_cons_succ, i64_w, i32_w]
        rfl
      refine done_ (by kernel_rfl) ?_
      go_wp2
      go_roundw
      case rel =>
        refine ⟨k + 1, _, _, _, by go_num, by omega, ?_, hq4, HR, HI0, HBX, HB, HK, ?_⟩
        · rw [List.length_append, hxl]; rfl
        · have hM := HM.out
          rw [show n - k = (n - (k + 1)) + 1 by omega] at hM
          rw [← hM]
          simp only [manyR, linksR, isoR, pairR, h0.out, h1.out, h2.out, h3.out, List.append_assoc, List.singleton_append]
          first | exact Lib.hid rfl | exact Lib.hid trivial
      case measure => simp [intOf]; omega
    · have hkn : k = n := by omega
      subst hkn
      go_wp2
      go_ret
      have hM := HM.out
      rw [Nat.sub_self] at hM
      simp only [manyR, List.append_nil] at hM
      rw [← hM]
      exact ⟨_, rfl, HR.out, HI0.out, HB.out, HK.out⟩
end Go.Proofs.Ytlkfbdeddfhocaa
