/- What decoder.members answers: the list that listR reads. Condition: the text has at most 1000000 bytes. Written by gendec2.py. What decoder.balances answers: the list that listR reads. Condition: the text has at most 1000000 bytes. Written by gendec2.py. What decoder.covers answers: the list that listR reads. Condition: the text has at most 1000000 bytes. Written by gendec2.py. -/
import Derived.Test.YtlkfbdeddfhocaaMa
set_option linter.unusedVariables false
set_option linter.unusedSimpArgs false
namespace Go.Proofs.Ytlkfbdeddfhocaa
open Go.Proofs Go.RowKit Go.Proofs.YtlkfbdeddfhocaaW.PrintWords Go.Proofs.YtlkfbdeddfhocaaW.PrintLast Go.Proofs.YtlkfbdeddfhocaaW.PrintMore Q

theorem info68 : (Try.prog.info? 68).map (fun i => (i.zero, i.size, i.bytes)) = some (some (.agg #[(.int .i64 0), (.string ⟨#[]⟩), (.int .i64 0), (.int .i64 0), (.bool false)]), 5, 48) := by kernel_rfl
def membersR : Rdr S68 := isoR (pairR intR (pairR intR (pairR intR (pairR (textR 160) boolR)))) (fun x => ⟨x.1, ⟨(x.2.2.2.1).toArray⟩, x.2.1, x.2.2.1, x.2.2.2.2⟩)
set_option maxHeartbeats 16000000 in
set_option maxRecDepth 1000000 in
theorem members_walk (S : List UInt8) (hS : S.length ≤ 1000000) (g p : Nat) (e : Int) (hp : p ≤ S.length) (w0 w : World) (hI : IsS132 w0 w g ⟨S.toArray⟩ p e) (hB : Below w0.heap.size w0 w) :
    Calls Try.prog 25 #[.agg #[.pointer (some ⟨g, 0, none⟩)]] w fun en w' => ∃ v, en = .returned v ∧ Kd.R k68 68 w' w.heap.size (fun _ => True) v (listR 4096 membersR S p e).1 ∧
      IsS132 w0 w' g ⟨S.toArray⟩ (listR 4096 membersR S p e).2.1 (listR 4096 membersR S p e).2.2 ∧ Below w0.heap.size w0 w' ∧ KeepBut w w' g none := by
  have hcp := (good_count 4096 (by omega)).place S p e hp
  have hcn := count_le S p e
  have hc := fun W hi hb => count_call S hS g w0 p e hp W hi hb
  unfold listR
  obtain ⟨⟨n, q0, e0⟩, hR⟩ : ∃ x, countR 4096 S p e = x := ⟨_, rfl⟩
  rw [hR] at hc hcp hcn ⊢
  simp only at hc hcp hcn ⊢
  replace hc := Lib.hid hc
  clear hR
  have HI := Lib.hid hI
  have HB0 := Lib.hid hB
  have hbbg : w.heap.size ≠ g := Nat.ne_of_gt hI.lt
  have hbs := hB.size
  have HT := Lib.hid (text_call S hS g w0)
  have HN := Lib.hid (int_call S hS g w0)
  have HBo := Lib.hid (bool_call S hS g w0)
  have HCo := Lib.hid (count_call S hS g w0)
  have HIs := Lib.hid (ints_call S hS g w0)
  clear hI hB
  go_enter Try.func25, Try.ntmps25
  go_wp2_with (go_at_call 45; refine (hc.out _ (IsS132.alloc HI.out _) (below_alloc HB0.out _)).mono ?_; rintro en w1 ⟨rfl, hi, hb, hk⟩)
  have hbox : w1.heap[w.heap.size]? = some (.cells #[.pointer (some ⟨g, 0, none⟩)] 101 (0, 0)) := (hk.2 w.heap.size (by simp) hbbg (by simp)).trans (heap_alloc_new w _)
  have hkk : KeepBut w w1 g none := KeepBut.trans (keep_alloc (KeepBut.refl w g none) _) hk (.inl rfl)
  clear hk
  go_loopw [3, 8] (fun v i wr => ∃ (k : Nat) (xs : List S68) (q : Nat) (e' : Int), i = .int .i64 k ∧ k ≤ n ∧ xs.length = k ∧ q ≤ S.length ∧ Hid (Dec k68 68 w0 w wr g ⟨S.toArray⟩ q e' w.heap.size (fun _ => True) v xs) ∧
    Hid ((xs ++ (manyR membersR (n - k) S q e').1, (manyR membersR (n - k) S q e').2) = manyR membersR n S q0 e0)) (fun _ i _ => n - (intOf i).toNat)
  case atStart => exact ⟨0, [], q0, e0, rfl, by omega, rfl, hcp.2, Lib.hid ⟨Kd.R_nil _ _ _ _ _, hi, hbox, hb, hkk⟩, Lib.hid rfl⟩
  case round =>
    clear hi hbox hb hkk HI HB0
    obtain ⟨k, xs, q, e', rfl, hk, hxl, hq, HD, HM0⟩ := hrel
    by_cases hlt : k < n
    · skip
      obtain ⟨⟨x0, q1, e1⟩, h0⟩ : ∃ x, intR S q e' = x := ⟨_, rfl⟩
      have c0 := HN.out q e' hq
      have hq1 := (good_int.place S q e' hq).2
      simp only [h0] at c0 hq1
      replace c0 := Lib.hid c0
      replace h0 := Lib.hid h0
      obtain ⟨⟨x1, q2, e2⟩, h1⟩ : ∃ x, intR S q1 e1 = x := ⟨_, rfl⟩
      have c1 := HN.out q1 e1 hq1
      have hq2 := (good_int.place S q1 e1 hq1).2
      simp only [h1] at c1 hq2
      replace c1 := Lib.hid c1
      replace h1 := Lib.hid h1
      obtain ⟨⟨x2, q3, e3⟩, h2⟩ : ∃ x, intR S q2 e2 = x := ⟨_, rfl⟩
      have c2 := HN.out q2 e2 hq2
      have hq3 := (good_int.place S q2 e2 hq2).2
      simp only [h2] at c2 hq3
      replace c2 := Lib.hid c2
      replace h2 := Lib.hid h2
      have hgw : g < wr.heap.size := HD.out.i.lt
      have hbw : w.heap.size < wr.heap.size := blk_lt HD.out.x
      go_wp2
      refine start_ (ds := ([] : List Nat)) (n := 12) (S := fun w' => w'.cell? ⟨w.heap.size, 0, none⟩ = some (.pointer (some ⟨g, 0, none⟩))) #[false, false, false, false, false, false, false, false, false, false, false, false] (by kernel_rfl) (by rfl) (by rfl) (blk_cell (blk_drew HD.out.x) 0) (fun hHeld => ?_)
      replace HD := Lib.hid (Dec.drew HD.out)
      have hgw2 : g < wr.drew.heap.size := hgw
      have hbw2 : w.heap.size < wr.drew.heap.size := hbw
      clear hgw hbw
      generalize wr.drew = w5 at HD hHeld hgw2 hbw2 ⊢
      have hsz : w5.heap.size ≤ w5.heap.size := Nat.le_refl _
      refine pure_ (i := 0) (N := some 10) (v := ?_) (a' := ?_) #[true, false, false, false, false, false, false, false, false, false, false, false] rfl rfl (by kernel_rfl) (fun _ _ _ h => h) (Or.inl ⟨by rfl, ?_⟩) ?_ ?_
      rotate_left
      · intro w'
        go_simp
        with_reducible rfl
      rotate_left
      · simp only [putAll, Act.put, List.setIfInBounds_toArray, List.set_cons_zero, List.set_cons_succ, i64_w, i32_w]
        rfl
      refine pure_ (i := 3) (N := some 13) (v := ?_) (a' := ?_) #[true, false, false, true, false, false, false, false, false, false, false, false] rfl rfl (by kernel_rfl) (fun _ _ _ h => h) (Or.inl ⟨by rfl, ?_⟩) ?_ ?_
      rotate_left
      · intro w'
        go_simp
        with_reducible rfl
      rotate_left
      · simp only [putAll, Act.put, List.setIfInBounds_toArray, List.set_cons_zero, List.set_cons_succ, i64_w, i32_w]
        rfl
      refine pure_ (i := 6) (N := some 16) (v := ?_) (a' := ?_) #[true, false, false, true, false, false, true, false, false, false, false, false] rfl rfl (by kernel_rfl) (fun _ _ _ h => h) (Or.inl ⟨by rfl, ?_⟩) ?_ ?_
      rotate_left
      · intro w'
        go_simp
        with_reducible rfl
      rotate_left
      · simp only [putAll, Act.put, List.setIfInBounds_toArray, List.set_cons_zero, List.set_cons_succ, i64_w, i32_w]
        rfl
      refine take_ (i := 1) (N := some 11) (v := ?_) (a' := ?_) #[true, true, false, true, false, false, true, false, false, false, false, false] rfl rfl (by kernel_rfl) (fun _ _ _ h => h) (Or.inl ⟨by rfl, ?_⟩) hHeld ?_ ?_
      rotate_left
      · rintro w' s0
        go_simp
        first | (with_reducible rfl) | (simp only [s0]; rfl)
      rotate_left
      · simp only [putAll, Act.put, List.setIfInBounds_toArray, List.set_cons_zero, List.set_cons_succ, i64_w, i32_w]
        rfl
      refine take_ (i := 4) (N := some 14) (v := ?_) (a' := ?_) #[true, true, false, true, true, false, true, false, false, false, false, false] rfl rfl (by kernel_rfl) (fun _ _ _ h => h) (Or.inl ⟨by rfl, ?_⟩) hHeld ?_ ?_
      rotate_left
      · rintro w' s0
        go_simp
        first | (with_reducible rfl) | (simp only [s0]; rfl)
      rotate_left
      · simp only [putAll, Act.put, List.setIfInBounds_toArray, List.set_cons_zero, List.set_cons_succ, i64_w, i32_w]
        rfl
      refine take_ (i := 7) (N := some 17) (v := ?_) (a' := ?_) #[true, true, false, true, true, false, true, true, false, false, false, false] rfl rfl (by kernel_rfl) (fun _ _ _ h => h) (Or.inl ⟨by rfl, ?_⟩) hHeld ?_ ?_
      rotate_left
      · rintro w' s0
        go_simp
        first | (with_reducible rfl) | (simp only [s0]; rfl)
      rotate_left
      · simp only [putAll, Act.put, List.setIfInBounds_toArray, List.set_cons_zero, List.set_cons_succ, i64_w, i32_w]
        rfl
      refine join_ 1 #[true, true, true, true, true, true, true, true, true, true, true, false] (fun b : Nat => [(12, .int .i64 x0), (15, .int .i64 x1), (18, .int .i64 x2), (19, .agg #[.int .i64 x0, .string ⟨#[]⟩, .int .i64 x1, .int .i64 x2, .bool false]), (4, .pointer (some ⟨b, 0, none⟩))]) (fun b W' => Dec k68 68 w0 w W' g ⟨S.toArray⟩ q3 e3 w.heap.size (fun k => k ≠ b) u3 xs ∧ W'.heap[b]? = some (.cells #[.int .i64 0, .string ⟨#[]⟩, .int .i64 0, .int .i64 0, .bool false] 68 (0, 0)) ∧ w5.heap.size ≤ b) (fun b W' hF => ?_) (fun hA3 => ?_)
      rotate_left
      · -- the orders
        refine join_ 3 #[true, true, true, true, true, true, true, true, false, false, true, false] (fun b : Nat => [(12, .int .i64 x0), (15, .int .i64 x1), (4, .pointer (some ⟨b, 0, none⟩))]) (fun b W' => Dec k68 68 w0 w W' g ⟨S.toArray⟩ q2 e2 w.heap.size (fun k => k ≠ b) u3 xs ∧ W'.heap[b]? = some (.cells #[.int .i64 0, .string ⟨#[]⟩, .int .i64 0, .int .i64 0, .bool false] 68 (0, 0)) ∧ w5.heap.size ≤ b) (fun b W' hF => ?_) (fun hA2 => ?_)
        · obtain ⟨hd, hm, hb0⟩ := hF
          have HD := Lib.hid hd
          have HM := Lib.hid hm
          clear hd hm
          have hbg : b ≠ g := by omega
          refine norm_ (a' := ?_) ?_ ?_
          rotate_left
          · simp only [putAll, Act.put, List.setIfInBounds_toArray, List.set_cons_zero, List.set_cons_succ, i64_w, i32_w]
            rfl
          refine one_ (i := 8) (N := some 18) #[true, true, true, true, true, true, true, true, true, false, true, false] rfl rfl (by kernel_rfl) (by decide) (fun K hK => ?_)
          refine goes_ Try.func24 (by kernel_rfl) rfl #[.pointer (some ⟨g, 0, none⟩)] (by rfl) rfl rfl (by first | rfl | (simp only [List.map_toArray, List.map_cons, List.map_nil]; rfl)) ?_
          refine (c2.out _ HD.out.i HD.out.b).mono ?_
          rintro en w' ⟨rfl, hi, hb, hk⟩
          refine ⟨_, rfl, ?_⟩
          replace HM := Lib.hid ((hk.2 _ (blk_lt HM.out) hbg (by simp)).trans HM.out)
          replace HD := Lib.hid (HD.out.call (by decide) hbbg hi hb hk)
          clear hi hb hk
          refine hK.out _ _ (blk_cell HD.out.x 0) (fun hHeld => ?_)
          clear hK K
          refine norm_ (a' := ?_) ?_ ?_
          rotate_left
          · show Act.put _ (some 18) _ = _
            simp only [putAll, Act.put, List.setIfInBounds_toArray, List.set_cons_zero, List.set_cons_succ, i64_w, i32_w]
            rfl
          refine pure_ (i := 9) (N := some 19) (v := ?_) (a' := ?_) #[true, true, true, true, true, true, true, true, true, true, true, false] rfl rfl (by kernel_rfl) (fun _ _ _ h => h) (Or.inl ⟨by rfl, ?_⟩) ?_ ?_
          rotate_left
          · intro w'
            go_simp
            with_reducible rfl
          rotate_left
          · simp only [putAll, Act.put, List.setIfInBounds_toArray, List.set_cons_zero, List.set_cons_succ, i64_w, i32_w]
            rfl
          refine norm_ ?_ (hA3 b _ ⟨HD.out, HM.out, hb0⟩)
          simp only [putAll, Act.put, List.setIfInBounds_toArray, List.set_cons_zero, List.set_cons_succ, i64_w, i32_w]
        refine join_ 4 #[true, true, true, true, true, false, true, true, false, false, true, false] (fun b : Nat => [(12, .int .i64 x0), (4, .pointer (some ⟨b, 0, none⟩))]) (fun b W' => Dec k68 68 w0 w W' g ⟨S.toArray⟩ q1 e1 w.heap.size (fun k => k ≠ b) u3 xs ∧ W'.heap[b]? = some (.cells #[.int .i64 0, .string ⟨#[]⟩, .int .i64 0, .int .i64 0, .bool false] 68 (0, 0)) ∧ w5.heap.size ≤ b) (fun b W' hF => ?_) (fun hA1 => ?_)
        · obtain ⟨hd, hm, hb0⟩ := hF
          have HD := Lib.hid hd
          have HM := Lib.hid hm
          clear hd hm
          have hbg : b ≠ g := by omega
          refine norm_ (a' := ?_) ?_ ?_
          rotate_left
          · simp only [putAll, Act.put, List.setIfInBounds_toArray, List.set_cons_zero, List.set_cons_succ, i64_w, i32_w]
            rfl
          refine one_ (i := 5) (N := some 15) #[true, true, true, true, true, true, true, true, false, false, true, false] rfl rfl (by kernel_rfl) (by decide) (fun K hK => ?_)
          refine goes_ Try.func24 (by kernel_rfl) rfl #[.pointer (some ⟨g, 0, none⟩)] (by rfl) rfl rfl (by first | rfl | (simp only [List.map_toArray, List.map_cons, List.map_nil]; rfl)) ?_
          refine (c1.out _ HD.out.i HD.out.b).mono ?_
          rintro en w' ⟨rfl, hi, hb, hk⟩
          refine ⟨_, rfl, ?_⟩
          replace HM := Lib.hid ((hk.2 _ (blk_lt HM.out) hbg (by simp)).trans HM.out)
          replace HD := Lib.hid (HD.out.call (by decide) hbbg hi hb hk)
          clear hi hb hk
          refine hK.out _ _ (blk_cell HD.out.x 0) (fun hHeld => ?_)
          clear hK K
          refine norm_ ?_ (hA2 b _ ⟨HD.out, HM.out, hb0⟩)
          simp only [putAll, Act.put, List.setIfInBounds_toArray, List.set_cons_zero, List.set_cons_succ, i64_w, i32_w]
        refine join_ 5 #[true, true, false, true, true, false, true, true, false, false, true, false] (fun b : Nat => [(4, .pointer (some ⟨b, 0, none⟩))]) (fun b W' => Dec k68 68 w0 w W' g ⟨S.toArray⟩ q e' w.heap.size (fun k => k ≠ b) u3 xs ∧ W'.heap[b]? = some (.cells #[.int .i64 0, .string ⟨#[]⟩, .int .i64 0, .int .i64 0, .bool false] 68 (0, 0)) ∧ w5.heap.size ≤ b) (fun b W' hF => ?_) (fun hA0 => ?_)
        · obtain ⟨hd, hm, hb0⟩ := hF
          have HD := Lib.hid hd
          have HM := Lib.hid hm
          clear hd hm
          have hbg : b ≠ g := by omega
          refine norm_ (a' := ?_) ?_ ?_
          rotate_left
          · simp only [putAll, Act.put, List.setIfInBounds_toArray, List.set_cons_zero, List.set_cons_succ, i64_w, i32_w]
            rfl
          refine one_ (i := 2) (N := some 12) #[true, true, true, true, true, false, true, true, false, false, true, false] rfl rfl (by kernel_rfl) (by decide) (fun K hK => ?_)
          refine goes_ Try.func24 (by kernel_rfl) rfl #[.pointer (some ⟨g, 0, none⟩)] (by rfl) rfl rfl (by first | rfl | (simp only [List.map_toArray, List.map_cons, List.map_nil]; rfl)) ?_
          refine (c0.out _ HD.out.i HD.out.b).mono ?_
          rintro en w' ⟨rfl, hi, hb, hk⟩
          refine ⟨_, rfl, ?_⟩
          replace HM := Lib.hid ((hk.2 _ (blk_lt HM.out) hbg (by simp)).trans HM.out)
          replace HD := Lib.hid (HD.out.call (by decide) hbbg hi hb hk)
          clear hi hb hk
          refine hK.out _ _ (blk_cell HD.out.x 0) (fun hHeld => ?_)
          clear hK K
          refine norm_ ?_ (hA1 b _ ⟨HD.out, HM.out, hb0⟩)
          simp only [putAll, Act.put, List.setIfInBounds_toArray, List.set_cons_zero, List.set_cons_succ, i64_w, i32_w]
        refine two_ (i := 2) (j := 10) (Ni := some 12) (Nj := some 4) #[true, true, true, true, true, false, true, true, false, false, false, false] #[true, true, false, true, true, false, true, true, false, false, true, false] rfl rfl rfl rfl (by kernel_rfl) (by decide) (by decide) (fun K hK => ?_) (fun K hK => ?_)
        rotate_left
        · refine value_ (w1 := ?_) (v := ?_) (by rfl) rfl ?_ ?_
          rotate_left 2
          · go_simp
            constructor
            · rfl
            · rfl
          refine hK.out _ _ (blk_cell (blk_alloc HD.out.x _) 0) (fun _ => ?_)
          clear hK K
          refine norm_ ?_ (hA0 _ _ ⟨Dec.mono (HD.out.alloc _) (fun k hk => hk.1), blk_new _ _, hsz⟩)
          simp only [putAll, Act.put, List.setIfInBounds_toArray, List.set_cons_zero, List.set_cons_succ, i64_w, i32_w]
        refine goes_ Try.func24 (by kernel_rfl) rfl #[.pointer (some ⟨g, 0, none⟩)] (by rfl) rfl rfl (by first | rfl | (simp only [List.map_toArray, List.map_cons, List.map_nil]; rfl)) ?_
        refine (c0.out _ HD.out.i HD.out.b).mono ?_
        rintro en w' ⟨rfl, hi, hb, hk⟩
        refine ⟨_, rfl, ?_⟩
        replace HD := Lib.hid (HD.out.call (by decide) hbbg hi hb hk)
        replace hsz := Nat.le_trans hsz hk.1
        clear hi hb hk
        refine hK.out _ _ (blk_cell HD.out.x 0) (fun hHeld => ?_)
        clear hK K
        refine norm_ (a' := ?_) ?_ ?_
        rotate_left
        · show Act.put _ (some 12) _ = _
          simp only [putAll, Act.put, List.setIfInBounds_toArray, List.set_cons_zero, List.set_cons_succ, i64_w, i32_w]
          rfl
        refine two_ (i := 5) (j := 10) (Ni := some 15) (Nj := some 4) #[true, true, true, true, true, true, true, true, false, false, false, false] #[true, true, true, true, true, false, true, true, false, false, true, false] rfl rfl rfl rfl (by kernel_rfl) (by decide) (by decide) (fun K hK => ?_) (fun K hK => ?_)
        rotate_left
        · refine value_ (w1 := ?_) (v := ?_) (by rfl) rfl ?_ ?_
          rotate_left 2
          · go_simp
            constructor
            · rfl
            · rfl
          refine hK.out _ _ (blk_cell (blk_alloc HD.out.x _) 0) (fun _ => ?_)
          clear hK K
          refine norm_ ?_ (hA1 _ _ ⟨Dec.mono (HD.out.alloc _) (fun k hk => hk.1), blk_new _ _, hsz⟩)
          simp only [putAll, Act.put, List.setIfInBounds_toArray, List.set_cons_zero, List.set_cons_succ, i64_w, i32_w]
        refine goes_ Try.func24 (by kernel_rfl) rfl #[.pointer (some ⟨g, 0, none⟩)] (by rfl) rfl rfl (by first | rfl | (simp only [List.map_toArray, List.map_cons, List.map_nil]; rfl)) ?_
        refine (c1.out _ HD.out.i HD.out.b).mono ?_
        rintro en w' ⟨rfl, hi, hb, hk⟩
        refine ⟨_, rfl, ?_⟩
        replace HD := Lib.hid (HD.out.call (by decide) hbbg hi hb hk)
        replace hsz := Nat.le_trans hsz hk.1
        clear hi hb hk
        refine hK.out _ _ (blk_cell HD.out.x 0) (fun hHeld => ?_)
        clear hK K
        refine norm_ (a' := ?_) ?_ ?_
        rotate_left
        · show Act.put _ (some 15) _ = _
          simp only [putAll, Act.put, List.setIfInBounds_toArray, List.set_cons_zero, List.set_cons_succ, i64_w, i32_w]
          rfl
        refine two_ (i := 8) (j := 10) (Ni := some 18) (Nj := some 4) #[true, true, true, true, true, true, true, true, true, false, false, false] #[true, true, true, true, true, true, true, true, false, false, true, false] rfl rfl rfl rfl (by kernel_rfl) (by decide) (by decide) (fun K hK => ?_) (fun K hK => ?_)
        rotate_left
        · refine value_ (w1 := ?_) (v := ?_) (by rfl) rfl ?_ ?_
          rotate_left 2
          · go_simp
            constructor
            · rfl
            · rfl
          refine hK.out _ _ (blk_cell (blk_alloc HD.out.x _) 0) (fun _ => ?_)
          clear hK K
          refine norm_ ?_ (hA2 _ _ ⟨Dec.mono (HD.out.alloc _) (fun k hk => hk.1), blk_new _ _, hsz⟩)
          simp only [putAll, Act.put, List.setIfInBounds_toArray, List.set_cons_zero, List.set_cons_succ, i64_w, i32_w]
        refine goes_ Try.func24 (by kernel_rfl) rfl #[.pointer (some ⟨g, 0, none⟩)] (by rfl) rfl rfl (by first | rfl | (simp only [List.map_toArray, List.map_cons, List.map_nil]; rfl)) ?_
        refine (c2.out _ HD.out.i HD.out.b).mono ?_
        rintro en w' ⟨rfl, hi, hb, hk⟩
        refine ⟨_, rfl, ?_⟩
        replace HD := Lib.hid (HD.out.call (by decide) hbbg hi hb hk)
        replace hsz := Nat.le_trans hsz hk.1
        clear hi hb hk
        refine hK.out _ _ (blk_cell HD.out.x 0) (fun hHeld => ?_)
        clear hK K
        refine norm_ (a' := ?_) ?_ ?_
        rotate_left
        · show Act.put _ (some 18) _ = _
          simp only [putAll, Act.put, List.setIfInBounds_toArray, List.set_cons_zero, List.set_cons_succ, i64_w, i32_w]
          rfl
        refine pure_ (i := 9) (N := some 19) (v := ?_) (a' := ?_) #[true, true, true, true, true, true, true, true, true, true, false, false] rfl rfl (by kernel_rfl) (fun _ _ _ h => h) (Or.inl ⟨by rfl, ?_⟩) ?_ ?_
        rotate_left
        · intro w'
          go_simp
          with_reducible rfl
        rotate_left
        · simp only [putAll, Act.put, List.setIfInBounds_toArray, List.set_cons_zero, List.set_cons_succ, i64_w, i32_w]
          rfl
        refine one_ (i := 10) (N := some 4) #[true, true, true, true, true, true, true, true, true, true, true, false] rfl rfl (by kernel_rfl) (by decide) (fun K hK => ?_)
        refine value_ (w1 := ?_) (v := ?_) (by rfl) rfl ?_ ?_
        rotate_left 2
        · go_simp
          constructor
          · rfl
          · rfl
        refine hK.out _ _ (blk_cell (blk_alloc HD.out.x _) 0) (fun _ => ?_)
        clear hK K
        refine norm_ ?_ (hA3 _ _ ⟨Dec.mono (HD.out.alloc _) (fun k hk => hk.1), blk_new _ _, hsz⟩)
        simp only [putAll, Act.put, List.setIfInBounds_toArray, List.set_cons_zero, List.set_cons_succ, i64_w, i32_w]
      clear HD hHeld hsz
      obtain ⟨hd, hm, hb0⟩ := hF
      have HD := Lib.hid hd
      have HM := Lib.hid hm
      clear hd hm
      have hbg : b ≠ g := by omega
      have hwb : w.heap.size ≤ b := by omega
      have hgb : g ≠ b := by omega
      have hbb : w.heap.size ≠ b := by omega
      clear hb0 hgw2 hbw2
      refine norm_ (a' := ?_) ?_ ?_
      rotate_left
      · simp only [putAll, Act.put, List.setIfInBounds_toArray, List.set_cons_zero, List.set_cons_succ, i64_w, i32_w]
        rfl
      refine one_ (i := 11) (N := none) #[true, true, true, true, true, true, true, true, true, true, true, true] rfl rfl (by kernel_rfl) (by decide) (fun K hK => ?_)
      refine store_step 68 (.tmp 4) (.tmp 19) (.agg #[.int .i64 x0, .string ⟨#[]⟩, .int .i64 x1, .int .i64 x2, .bool false]) [.int .i64 x0, .string ⟨#[]⟩, .int .i64 x1, .int .i64 x2, .bool false] #[.int .i64 0, .string ⟨#[]⟩, .int .i64 0, .int .i64 0, .bool false] #[.int .i64 x0, .string ⟨#[]⟩, .int .i64 x1, .int .i64 x2, .bool false] b 0 68 (by rfl) rfl rfl rfl rfl HM.out rfl (by kernel_rfl) (by simp) rfl rfl ?_
      intro w1 hw
      replace HM := Lib.hid hw.row
      replace HD := Lib.hid (HD.out.wrote hw hwb hbs hgb hbb (fun k hk => hk))
      clear hw
      refine hK.out _ _ (blk_cell HD.out.x 0) (fun _ => ?_)
      clear hK K
      refine done_ (by kernel_rfl) ?_
      have hbx := blk_cell HD.out.x 0
      obtain ⟨⟨x3, q4, e4⟩, h3⟩ : ∃ x, textR 160 S q3 e3 = x := ⟨_, rfl⟩
      have c3 := HT.out q3 e3 hq3
      have hq4 := ((good_text 160 (by omega)).place S q3 e3 hq3).2
      simp only [h3] at c3 hq4
      replace c3 := Lib.hid c3
      replace h3 := Lib.hid h3
      obtain ⟨⟨x4, q5, e5⟩, h4⟩ : ∃ x, boolR S q4 e4 = x := ⟨_, rfl⟩
      have c4 := HBo.out q4 e4 hq4
      have hq5 := (good_bool.place S q4 e4 hq4).2
      simp only [h4] at c4 hq5
      replace c4 := Lib.hid c4
      replace h4 := Lib.hid h4
      go_wp2_with (first
        | (go_at_call 46; refine (c3.out _ HD.out.i HD.out.b).mono ?_; rintro en w1 ⟨rfl, hi, hb, hk⟩; replace HM := Lib.hid ((hk.2 _ (blk_lt HM.out) hbg (by simp)).trans HM.out); replace HD := Lib.hid (HD.out.call (by decide) hbbg hi hb hk); clear hi hb hk hbx; have hbx := blk_cell HD.out.x 0)
        | ((with_reducible refine gate_ (.store 9 (.tmp 23) (.tmp 22)) rfl ?_); refine store_plain 9 (.tmp 23) (.tmp 22) (.string ⟨x3.toArray⟩) [.string ⟨x3.toArray⟩] #[.int .i64 x0, .string ⟨#[]⟩, .int .i64 x1, .int .i64 x2, .bool false] #[.int .i64 x0, .string ⟨x3.toArray⟩, .int .i64 x1, .int .i64 x2, .bool false] b 1 68 rfl rfl rfl rfl rfl HM.out rfl (by kernel_rfl) (by simp) rfl rfl ?_; intro w1 hw; replace HM := Lib.hid hw.row; replace HD := Lib.hid (HD.out.wrote hw hwb hbs hgb hbb (fun k hk => hk)); clear hw hbx; have hbx := blk_cell HD.out.x 0)
        | (go_at_call 47; refine (c4.out _ HD.out.i HD.out.b).mono ?_; rintro en w1 ⟨rfl, hi, hb, hk⟩; replace HM := Lib.hid ((hk.2 _ (blk_lt HM.out) hbg (by simp)).trans HM.out); replace HD := Lib.hid (HD.out.call (by decide) hbbg hi hb hk); clear hi hb hk hbx; have hbx := blk_cell HD.out.x 0)
        | ((with_reducible refine gate_ (.store 4 (.tmp 27) (.tmp 26)) rfl ?_); refine store_plain 4 (.tmp 27) (.tmp 26) (.bool x4) [.bool x4] #[.int .i64 x0, .string ⟨x3.toArray⟩, .int .i64 x1, .int .i64 x2, .bool false] #[.int .i64 x0, .string ⟨x3.toArray⟩, .int .i64 x1, .int .i64 x2, .bool x4] b 4 68 rfl rfl rfl rfl rfl HM.out rfl (by kernel_rfl) (by simp) rfl rfl ?_; intro w1 hw; replace HM := Lib.hid hw.row; replace HD := Lib.hid (HD.out.wrote hw hwb hbs hgb hbb (fun k hk => hk)); clear hw hbx; have hbx := blk_cell HD.out.x 0; have hm0 := blk_cell HM.out 0; have hm1 := blk_cell HM.out 1; have hm2 := blk_cell HM.out 2; have hm3 := blk_cell HM.out 3; have hm4 := blk_cell HM.out 4)
        | ((with_reducible refine gate_builtin (b := .append) (xs := #[.tmp 28, .tmp 30]) rfl ?_); at_builtin; refine Kd.R_append k68 w.heap.size rfl (.tmp 28) (.tmp 30) 38 68 (.agg #[(.int .i64 0), (.string ⟨#[]⟩), (.int .i64 0), (.int .i64 0), (.bool false)]) 48 rfl Try.underlying38 info68 rfl (by decide) (by omega) u3 xs (⟨x0, ⟨x3.toArray⟩, x1, x2, x4⟩ : S68) [.int .i64 x0, .string ⟨x3.toArray⟩, .int .i64 x1, .int .i64 x2, .bool x4] (fun _ => True) (fun _ => False) rfl rfl ?aP (fun _ hk => hk.elim) ?aF ?aO (Below.refl _ _) ?aS ?aL ?_; (case aP => exact k68_mkM _ _ _ (⟨x0, ⟨x3.toArray⟩, x1, x2, x4⟩ : S68)); (case aF => exact (fun _ _ => trivial)); (case aO => exact Kd.R_mono HD.out.r (fun _ _ => trivial)); (case aS => exact HD.out.k.1); (case aL => omega); intro v198 w6 ho hb hg hat; replace HD := Lib.hid (Dec.appended HD.out (by decide) (by decide) hbs ho hb hg); clear ho hb hg hat hbx hm0 hm1 hm2 hm3 hm4))
      go_roundw
      case rel =>
        refine ⟨k + 1, _, _, _, by go_num, by omega, ?_, hq5, HD, ?_⟩
        · rw [List.length_append, hxl]; rfl
        · have hM := HM0.out
          rw [show n - k = (n - (k + 1)) + 1 by omega] at hM
          rw [← hM]
          simp only [manyR, membersR, isoR, pairR, listR, h0.out, h1.out, h2.out, h3.out, h4.out, List.append_assoc, List.singleton_append]
          first | exact Lib.hid rfl | exact Lib.hid trivial
      case measure => simp [intOf]; omega
    · have hkn : k = n := by omega
      subst hkn
      go_wp2
      go_ret
      have hM := HM0.out
      rw [Nat.sub_self] at hM
      simp only [manyR, List.append_nil] at hM
      rw [← hM]
      exact ⟨_, rfl, HD.out.r, HD.out.i, HD.out.b, HD.out.k⟩
end Go.Proofs.Ytlkfbdeddfhocaa

set_option linter.unusedVariables false
set_option linter.unusedSimpArgs false
namespace Go.Proofs.Ytlkfbdeddfhocaa
open Go.Proofs Go.RowKit Go.Proofs.YtlkfbdeddfhocaaW.PrintWords Go.Proofs.YtlkfbdeddfhocaaW.PrintLast Go.Proofs.YtlkfbdeddfhocaaW.PrintMore Q

theorem info73 : (Try.prog.info? 73).map (fun i => (i.zero, i.size, i.bytes)) = some (some (.agg #[(.int .i64 0), (.int .i64 0), (.string ⟨#[]⟩), (.int .i64 0)]), 4, 40) := by kernel_rfl
def balancesR : Rdr S73 := isoR (pairR intR (pairR intR (pairR (textR 160) intR))) (fun x => ⟨⟨x.1, x.2.1, ⟨(x.2.2.1).toArray⟩⟩, x.2.2.2⟩)
set_option maxHeartbeats 16000000 in
set_option maxRecDepth 1000000 in
theorem balances_walk (S : List UInt8) (hS : S.length ≤ 1000000) (g p : Nat) (e : Int) (hp : p ≤ S.length) (w0 w : World) (hI : IsS132 w0 w g ⟨S.toArray⟩ p e) (hB : Below w0.heap.size w0 w) :
    Calls Try.prog 29 #[.agg #[.pointer (some ⟨g, 0, none⟩)]] w fun en w' => ∃ v, en = .returned v ∧ Kd.R k73 73 w' w.heap.size (fun _ => True) v (listR 4096 balancesR S p e).1 ∧
      IsS132 w0 w' g ⟨S.toArray⟩ (listR 4096 balancesR S p e).2.1 (listR 4096 balancesR S p e).2.2 ∧ Below w0.heap.size w0 w' ∧ KeepBut w w' g none := by
  have hcp := (good_count 4096 (by omega)).place S p e hp
  have hcn := count_le S p e
  have hc := fun W hi hb => count_call S hS g w0 p e hp W hi hb
  unfold listR
  obtain ⟨⟨n, q0, e0⟩, hR⟩ : ∃ x, countR 4096 S p e = x := ⟨_, rfl⟩
  rw [hR] at hc hcp hcn ⊢
  simp only at hc hcp hcn ⊢
  replace hc := Lib.hid hc
  clear hR
  have HI := Lib.hid hI
  have HB0 := Lib.hid hB
  have hbbg : w.heap.size ≠ g := Nat.ne_of_gt hI.lt
  have hbs := hB.size
  have HT := Lib.hid (text_call S hS g w0)
  have HN := Lib.hid (int_call S hS g w0)
  have HBo := Lib.hid (bool_call S hS g w0)
  have HCo := Lib.hid (count_call S hS g w0)
  have HIs := Lib.hid (ints_call S hS g w0)
  clear hI hB
  go_enter Try.func29, Try.ntmps29
  go_wp2_with (go_at_call 45; refine (hc.out _ (IsS132.alloc HI.out _) (below_alloc HB0.out _)).mono ?_; rintro en w1 ⟨rfl, hi, hb, hk⟩)
  have hbox : w1.heap[w.heap.size]? = some (.cells #[.pointer (some ⟨g, 0, none⟩)] 101 (0, 0)) := (hk.2 w.heap.size (by simp) hbbg (by simp)).trans (heap_alloc_new w _)
  have hkk : KeepBut w w1 g none := KeepBut.trans (keep_alloc (KeepBut.refl w g none) _) hk (.inl rfl)
  clear hk
  go_loopw [3, 8] (fun v i wr => ∃ (k : Nat) (xs : List S73) (q : Nat) (e' : Int), i = .int .i64 k ∧ k ≤ n ∧ xs.length = k ∧ q ≤ S.length ∧ Hid (Dec k73 73 w0 w wr g ⟨S.toArray⟩ q e' w.heap.size (fun _ => True) v xs) ∧
    Hid ((xs ++ (manyR balancesR (n - k) S q e').1, (manyR balancesR (n - k) S q e').2) = manyR balancesR n S q0 e0)) (fun _ i _ => n - (intOf i).toNat)
  case atStart => exact ⟨0, [], q0, e0, rfl, by omega, rfl, hcp.2, Lib.hid ⟨Kd.R_nil _ _ _ _ _, hi, hbox, hb, hkk⟩, Lib.hid rfl⟩
  case round =>
    clear hi hbox hb hkk HI HB0
    obtain ⟨k, xs, q, e', rfl, hk, hxl, hq, HD, HM0⟩ := hrel
    by_cases hlt : k < n
    · skip
      obtain ⟨⟨x0, q1, e1⟩, h0⟩ : ∃ x, intR S q e' = x := ⟨_, rfl⟩
      have c0 := HN.out q e' hq
      have hq1 := (good_int.place S q e' hq).2
      simp only [h0] at c0 hq1
      replace c0 := Lib.hid c0
      replace h0 := Lib.hid h0
      obtain ⟨⟨x1, q2, e2⟩, h1⟩ : ∃ x, intR S q1 e1 = x := ⟨_, rfl⟩
      have c1 := HN.out q1 e1 hq1
      have hq2 := (good_int.place S q1 e1 hq1).2
      simp only [h1] at c1 hq2
      replace c1 := Lib.hid c1
      replace h1 := Lib.hid h1
      obtain ⟨⟨x2, q3, e3⟩, h2⟩ : ∃ x, textR 160 S q2 e2 = x := ⟨_, rfl⟩
      have c2 := HT.out q2 e2 hq2
      have hq3 := ((good_text 160 (by omega)).place S q2 e2 hq2).2
      simp only [h2] at c2 hq3
      replace c2 := Lib.hid c2
      replace h2 := Lib.hid h2
      have hgw : g < wr.heap.size := HD.out.i.lt
      have hbw : w.heap.size < wr.heap.size := blk_lt HD.out.x
      go_wp2
      refine start_ (ds := ([] : List Nat)) (n := 13) (S := fun w' => w'.cell? ⟨w.heap.size, 0, none⟩ = some (.pointer (some ⟨g, 0, none⟩))) #[false, false, false, false, false, false, false, false, false, false, false, false, false] (by kernel_rfl) (by rfl) (by rfl) (blk_cell (blk_drew HD.out.x) 0) (fun hHeld => ?_)
      replace HD := Lib.hid (Dec.drew HD.out)
      have hgw2 : g < wr.drew.heap.size := hgw
      have hbw2 : w.heap.size < wr.drew.heap.size := hbw
      clear hgw hbw
      generalize wr.drew = w5 at HD hHeld hgw2 hbw2 ⊢
      have hsz : w5.heap.size ≤ w5.heap.size := Nat.le_refl _
      refine pure_ (i := 0) (N := some 10) (v := ?_) (a' := ?_) #[true, false, false, false, false, false, false, false, false, false, false, false, false] rfl rfl (by kernel_rfl) (fun _ _ _ h => h) (Or.inl ⟨by rfl, ?_⟩) ?_ ?_
      rotate_left
      · intro w'
        go_simp
        with_reducible rfl
      rotate_left
      · simp only [putAll, Act.put, List.setIfInBounds_toArray, List.set_cons_zero, List.set_cons_succ, i64_w, i32_w]
        rfl
      refine pure_ (i := 3) (N := some 13) (v := ?_) (a' := ?_) #[true, false, false, true, false, false, false, false, false, false, false, false, false] rfl rfl (by kernel_rfl) (fun _ _ _ h => h) (Or.inl ⟨by rfl, ?_⟩) ?_ ?_
      rotate_left
      · intro w'
        go_simp
        with_reducible rfl
      rotate_left
      · simp only [putAll, Act.put, List.setIfInBounds_toArray, List.set_cons_zero, List.set_cons_succ, i64_w, i32_w]
        rfl
      refine pure_ (i := 6) (N := some 16) (v := ?_) (a' := ?_) #[true, false, false, true, false, false, true, false, false, false, false, false, false] rfl rfl (by kernel_rfl) (fun _ _ _ h => h) (Or.inl ⟨by rfl, ?_⟩) ?_ ?_
      rotate_left
      · intro w'
        go_simp
        with_reducible rfl
      rotate_left
      · simp only [putAll, Act.put, List.setIfInBounds_toArray, List.set_cons_zero, List.set_cons_succ, i64_w, i32_w]
        rfl
      refine take_ (i := 1) (N := some 11) (v := ?_) (a' := ?_) #[true, true, false, true, false, false, true, false, false, false, false, false, false] rfl rfl (by kernel_rfl) (fun _ _ _ h => h) (Or.inl ⟨by rfl, ?_⟩) hHeld ?_ ?_
      rotate_left
      · rintro w' s0
        go_simp
        first | (with_reducible rfl) | (simp only [s0]; rfl)
      rotate_left
      · simp only [putAll, Act.put, List.setIfInBounds_toArray, List.set_cons_zero, List.set_cons_succ, i64_w, i32_w]
        rfl
      refine take_ (i := 4) (N := some 14) (v := ?_) (a' := ?_) #[true, true, false, true, true, false, true, false, false, false, false, false, false] rfl rfl (by kernel_rfl) (fun _ _ _ h => h) (Or.inl ⟨by rfl, ?_⟩) hHeld ?_ ?_
      rotate_left
      · rintro w' s0
        go_simp
        first | (with_reducible rfl) | (simp only [s0]; rfl)
      rotate_left
      · simp only [putAll, Act.put, List.setIfInBounds_toArray, List.set_cons_zero, List.set_cons_succ, i64_w, i32_w]
        rfl
      refine take_ (i := 7) (N := some 17) (v := ?_) (a' := ?_) #[true, true, false, true, true, false, true, true, false, false, false, false, false] rfl rfl (by kernel_rfl) (fun _ _ _ h => h) (Or.inl ⟨by rfl, ?_⟩) hHeld ?_ ?_
      rotate_left
      · rintro w' s0
        go_simp
        first | (with_reducible rfl) | (simp only [s0]; rfl)
      rotate_left
      · simp only [putAll, Act.put, List.setIfInBounds_toArray, List.set_cons_zero, List.set_cons_succ, i64_w, i32_w]
        rfl
      refine join_ 1 #[true, true, true, true, true, true, true, true, true, true, true, true, false] (fun b : Nat => [(12, .int .i64 x0), (15, .int .i64 x1), (18, .string ⟨x2.toArray⟩), (19, .agg #[.int .i64 x0, .int .i64 x1, .string ⟨x2.toArray⟩]), (20, .agg #[.int .i64 x0, .int .i64 x1, .string ⟨x2.toArray⟩, .int .i64 0]), (4, .pointer (some ⟨b, 0, none⟩))]) (fun b W' => Dec k73 73 w0 w W' g ⟨S.toArray⟩ q3 e3 w.heap.size (fun k => k ≠ b) u3 xs ∧ W'.heap[b]? = some (.cells #[.int .i64 0, .int .i64 0, .string ⟨#[]⟩, .int .i64 0] 73 (0, 0)) ∧ w5.heap.size ≤ b) (fun b W' hF => ?_) (fun hA3 => ?_)
      rotate_left
      · -- the orders
        refine join_ 4 #[true, true, true, true, true, true, true, true, false, false, false, true, false] (fun b : Nat => [(12, .int .i64 x0), (15, .int .i64 x1), (4, .pointer (some ⟨b, 0, none⟩))]) (fun b W' => Dec k73 73 w0 w W' g ⟨S.toArray⟩ q2 e2 w.heap.size (fun k => k ≠ b) u3 xs ∧ W'.heap[b]? = some (.cells #[.int .i64 0, .int .i64 0, .string ⟨#[]⟩, .int .i64 0] 73 (0, 0)) ∧ w5.heap.size ≤ b) (fun b W' hF => ?_) (fun hA2 => ?_)
        · obtain ⟨hd, hm, hb0⟩ := hF
          have HD := Lib.hid hd
          have HM := Lib.hid hm
          clear hd hm
          have hbg : b ≠ g := by omega
          refine norm_ (a' := ?_) ?_ ?_
          rotate_left
          · simp only [putAll, Act.put, List.setIfInBounds_toArray, List.set_cons_zero, List.set_cons_succ, i64_w, i32_w]
            rfl
          refine one_ (i := 8) (N := some 18) #[true, true, true, true, true, true, true, true, true, false, false, true, false] rfl rfl (by kernel_rfl) (by decide) (fun K hK => ?_)
          refine goes_ Try.func46 (by kernel_rfl) rfl #[.pointer (some ⟨g, 0, none⟩), .int .i64 160] (by rfl) rfl rfl (by first | rfl | (simp only [List.map_toArray, List.map_cons, List.map_nil]; rfl)) ?_
          refine (c2.out _ HD.out.i HD.out.b).mono ?_
          rintro en w' ⟨rfl, hi, hb, hk⟩
          refine ⟨_, rfl, ?_⟩
          replace HM := Lib.hid ((hk.2 _ (blk_lt HM.out) hbg (by simp)).trans HM.out)
          replace HD := Lib.hid (HD.out.call (by decide) hbbg hi hb hk)
          clear hi hb hk
          refine hK.out _ _ (blk_cell HD.out.x 0) (fun hHeld => ?_)
          clear hK K
          refine norm_ (a' := ?_) ?_ ?_
          rotate_left
          · show Act.put _ (some 18) _ = _
            simp only [putAll, Act.put, List.setIfInBounds_toArray, List.set_cons_zero, List.set_cons_succ, i64_w, i32_w]
            rfl
          refine pure_ (i := 9) (N := some 19) (v := ?_) (a' := ?_) #[true, true, true, true, true, true, true, true, true, true, false, true, false] rfl rfl (by kernel_rfl) (fun _ _ _ h => h) (Or.inl ⟨by rfl, ?_⟩) ?_ ?_
          rotate_left
          · intro w'
            go_simp
            with_reducible rfl
          rotate_left
          · simp only [putAll, Act.put, List.setIfInBounds_toArray, List.set_cons_zero, List.set_cons_succ, i64_w, i32_w]
            rfl
          refine pure_ (i := 10) (N := some 20) (v := ?_) (a' := ?_) #[true, true, true, true, true, true, true, true, true, true, true, true, false] rfl rfl (by kernel_rfl) (fun _ _ _ h => h) (Or.inl ⟨by rfl, ?_⟩) ?_ ?_
          rotate_left
          · intro w'
            go_simp
            with_reducible rfl
          rotate_left
          · simp only [putAll, Act.put, List.setIfInBounds_toArray, List.set_cons_zero, List.set_cons_succ, i64_w, i32_w]
            rfl
          refine norm_ ?_ (hA3 b _ ⟨HD.out, HM.out, hb0⟩)
          simp only [putAll, Act.put, List.setIfInBounds_toArray, List.set_cons_zero, List.set_cons_succ, i64_w, i32_w]
        refine join_ 5 #[true, true, true, true, true, false, true, true, false, false, false, true, false] (fun b : Nat => [(12, .int .i64 x0), (4, .pointer (some ⟨b, 0, none⟩))]) (fun b W' => Dec k73 73 w0 w W' g ⟨S.toArray⟩ q1 e1 w.heap.size (fun k => k ≠ b) u3 xs ∧ W'.heap[b]? = some (.cells #[.int .i64 0, .int .i64 0, .string ⟨#[]⟩, .int .i64 0] 73 (0, 0)) ∧ w5.heap.size ≤ b) (fun b W' hF => ?_) (fun hA1 => ?_)
        · obtain ⟨hd, hm, hb0⟩ := hF
          have HD := Lib.hid hd
          have HM := Lib.hid hm
          clear hd hm
          have hbg : b ≠ g := by omega
          refine norm_ (a' := ?_) ?_ ?_
          rotate_left
          · simp only [putAll, Act.put, List.setIfInBounds_toArray, List.set_cons_zero, List.set_cons_succ, i64_w, i32_w]
            rfl
          refine one_ (i := 5) (N := some 15) #[true, true, true, true, true, true, true, true, false, false, false, true, false] rfl rfl (by kernel_rfl) (by decide) (fun K hK => ?_)
          refine goes_ Try.func24 (by kernel_rfl) rfl #[.pointer (some ⟨g, 0, none⟩)] (by rfl) rfl rfl (by first | rfl | (simp only [List.map_toArray, List.map_cons, List.map_nil]; rfl)) ?_
          refine (c1.out _ HD.out.i HD.out.b).mono ?_
          rintro en w' ⟨rfl, hi, hb, hk⟩
          refine ⟨_, rfl, ?_⟩
          replace HM := Lib.hid ((hk.2 _ (blk_lt HM.out) hbg (by simp)).trans HM.out)
          replace HD := Lib.hid (HD.out.call (by decide) hbbg hi hb hk)
          clear hi hb hk
          refine hK.out _ _ (blk_cell HD.out.x 0) (fun hHeld => ?_)
          clear hK K
          refine norm_ ?_ (hA2 b _ ⟨HD.out, HM.out, hb0⟩)
          simp only [putAll, Act.put, List.setIfInBounds_toArray, List.set_cons_zero, List.set_cons_succ, i64_w, i32_w]
        refine join_ 6 #[true, true, false, true, true, false, true, true, false, false, false, true, false] (fun b : Nat => [(4, .pointer (some ⟨b, 0, none⟩))]) (fun b W' => Dec k73 73 w0 w W' g ⟨S.toArray⟩ q e' w.heap.size (fun k => k ≠ b) u3 xs ∧ W'.heap[b]? = some (.cells #[.int .i64 0, .int .i64 0, .string ⟨#[]⟩, .int .i64 0] 73 (0, 0)) ∧ w5.heap.size ≤ b) (fun b W' hF => ?_) (fun hA0 => ?_)
        · obtain ⟨hd, hm, hb0⟩ := hF
          have HD := Lib.hid hd
          have HM := Lib.hid hm
          clear hd hm
          have hbg : b ≠ g := by omega
          refine norm_ (a' := ?_) ?_ ?_
          rotate_left
          · simp only [putAll, Act.put, List.setIfInBounds_toArray, List.set_cons_zero, List.set_cons_succ, i64_w, i32_w]
            rfl
          refine one_ (i := 2) (N := some 12) #[true, true, true, true, true, false, true, true, false, false, false, true, false] rfl rfl (by kernel_rfl) (by decide) (fun K hK => ?_)
          refine goes_ Try.func24 (by kernel_rfl) rfl #[.pointer (some ⟨g, 0, none⟩)] (by rfl) rfl rfl (by first | rfl | (simp only [List.map_toArray, List.map_cons, List.map_nil]; rfl)) ?_
          refine (c0.out _ HD.out.i HD.out.b).mono ?_
          rintro en w' ⟨rfl, hi, hb, hk⟩
          refine ⟨_, rfl, ?_⟩
          replace HM := Lib.hid ((hk.2 _ (blk_lt HM.out) hbg (by simp)).trans HM.out)
          replace HD := Lib.hid (HD.out.call (by decide) hbbg hi hb hk)
          clear hi hb hk
          refine hK.out _ _ (blk_cell HD.out.x 0) (fun hHeld => ?_)
          clear hK K
          refine norm_ ?_ (hA1 b _ ⟨HD.out, HM.out, hb0⟩)
          simp only [putAll, Act.put, List.setIfInBounds_toArray, List.set_cons_zero, List.set_cons_succ, i64_w, i32_w]
        refine two_ (i := 2) (j := 11) (Ni := some 12) (Nj := some 4) #[true, true, true, true, true, false, true, true, false, false, false, false, false] #[true, true, false, true, true, false, true, true, false, false, false, true, false] rfl rfl rfl rfl (by kernel_rfl) (by decide) (by decide) (fun K hK => ?_) (fun K hK => ?_)
        rotate_left
        · refine value_ (w1 := ?_) (v := ?_) (by rfl) rfl ?_ ?_
          rotate_left 2
          · go_simp
            constructor
            · rfl
            · rfl
          refine hK.out _ _ (blk_cell (blk_alloc HD.out.x _) 0) (fun _ => ?_)
          clear hK K
          refine norm_ ?_ (hA0 _ _ ⟨Dec.mono (HD.out.alloc _) (fun k hk => hk.1), blk_new _ _, hsz⟩)
          simp only [putAll, Act.put, List.setIfInBounds_toArray, List.set_cons_zero, List.set_cons_succ, i64_w, i32_w]
        refine goes_ Try.func24 (by kernel_rfl) rfl #[.pointer (some ⟨g, 0, none⟩)] (by rfl) rfl rfl (by first | rfl | (simp only [List.map_toArray, List.map_cons, List.map_nil]; rfl)) ?_
        refine (c0.out _ HD.out.i HD.out.b).mono ?_
        rintro en w' ⟨rfl, hi, hb, hk⟩
        refine ⟨_, rfl, ?_⟩
        replace HD := Lib.hid (HD.out.call (by decide) hbbg hi hb hk)
        replace hsz := Nat.le_trans hsz hk.1
        clear hi hb hk
        refine hK.out _ _ (blk_cell HD.out.x 0) (fun hHeld => ?_)
        clear hK K
        refine norm_ (a' := ?_) ?_ ?_
        rotate_left
        · show Act.put _ (some 12) _ = _
          simp only [putAll, Act.put, List.setIfInBounds_toArray, List.set_cons_zero, List.set_cons_succ, i64_w, i32_w]
          rfl
        refine two_ (i := 5) (j := 11) (Ni := some 15) (Nj := some 4) #[true, true, true, true, true, true, true, true, false, false, false, false, false] #[true, true, true, true, true, false, true, true, false, false, false, true, false] rfl rfl rfl rfl (by kernel_rfl) (by decide) (by decide) (fun K hK => ?_) (fun K hK => ?_)
        rotate_left
        · refine value_ (w1 := ?_) (v := ?_) (by rfl) rfl ?_ ?_
          rotate_left 2
          · go_simp
            constructor
            · rfl
            · rfl
          refine hK.out _ _ (blk_cell (blk_alloc HD.out.x _) 0) (fun _ => ?_)
          clear hK K
          refine norm_ ?_ (hA1 _ _ ⟨Dec.mono (HD.out.alloc _) (fun k hk => hk.1), blk_new _ _, hsz⟩)
          simp only [putAll, Act.put, List.setIfInBounds_toArray, List.set_cons_zero, List.set_cons_succ, i64_w, i32_w]
        refine goes_ Try.func24 (by kernel_rfl) rfl #[.pointer (some ⟨g, 0, none⟩)] (by rfl) rfl rfl (by first | rfl | (simp only [List.map_toArray, List.map_cons, List.map_nil]; rfl)) ?_
        refine (c1.out _ HD.out.i HD.out.b).mono ?_
        rintro en w' ⟨rfl, hi, hb, hk⟩
        refine ⟨_, rfl, ?_⟩
        replace HD := Lib.hid (HD.out.call (by decide) hbbg hi hb hk)
        replace hsz := Nat.le_trans hsz hk.1
        clear hi hb hk
        refine hK.out _ _ (blk_cell HD.out.x 0) (fun hHeld => ?_)
        clear hK K
        refine norm_ (a' := ?_) ?_ ?_
        rotate_left
        · show Act.put _ (some 15) _ = _
          simp only [putAll, Act.put, List.setIfInBounds_toArray, List.set_cons_zero, List.set_cons_succ, i64_w, i32_w]
          rfl
        refine two_ (i := 8) (j := 11) (Ni := some 18) (Nj := some 4) #[true, true, true, true, true, true, true, true, true, false, false, false, false] #[true, true, true, true, true, true, true, true, false, false, false, true, false] rfl rfl rfl rfl (by kernel_rfl) (by decide) (by decide) (fun K hK => ?_) (fun K hK => ?_)
        rotate_left
        · refine value_ (w1 := ?_) (v := ?_) (by rfl) rfl ?_ ?_
          rotate_left 2
          · go_simp
            constructor
            · rfl
            · rfl
          refine hK.out _ _ (blk_cell (blk_alloc HD.out.x _) 0) (fun _ => ?_)
          clear hK K
          refine norm_ ?_ (hA2 _ _ ⟨Dec.mono (HD.out.alloc _) (fun k hk => hk.1), blk_new _ _, hsz⟩)
          simp only [putAll, Act.put, List.setIfInBounds_toArray, List.set_cons_zero, List.set_cons_succ, i64_w, i32_w]
        refine goes_ Try.func46 (by kernel_rfl) rfl #[.pointer (some ⟨g, 0, none⟩), .int .i64 160] (by rfl) rfl rfl (by first | rfl | (simp only [List.map_toArray, List.map_cons, List.map_nil]; rfl)) ?_
        refine (c2.out _ HD.out.i HD.out.b).mono ?_
        rintro en w' ⟨rfl, hi, hb, hk⟩
        refine ⟨_, rfl, ?_⟩
        replace HD := Lib.hid (HD.out.call (by decide) hbbg hi hb hk)
        replace hsz := Nat.le_trans hsz hk.1
        clear hi hb hk
        refine hK.out _ _ (blk_cell HD.out.x 0) (fun hHeld => ?_)
        clear hK K
        refine norm_ (a' := ?_) ?_ ?_
        rotate_left
        · show Act.put _ (some 18) _ = _
          simp only [putAll, Act.put, List.setIfInBounds_toArray, List.set_cons_zero, List.set_cons_succ, i64_w, i32_w]
          rfl
        refine pure_ (i := 9) (N := some 19) (v := ?_) (a' := ?_) #[true, true, true, true, true, true, true, true, true, true, false, false, false] rfl rfl (by kernel_rfl) (fun _ _ _ h => h) (Or.inl ⟨by rfl, ?_⟩) ?_ ?_
        rotate_left
        · intro w'
          go_simp
          with_reducible rfl
        rotate_left
        · simp only [putAll, Act.put, List.setIfInBounds_toArray, List.set_cons_zero, List.set_cons_succ, i64_w, i32_w]
          rfl
        refine pure_ (i := 10) (N := some 20) (v := ?_) (a' := ?_) #[true, true, true, true, true, true, true, true, true, true, true, false, false] rfl rfl (by kernel_rfl) (fun _ _ _ h => h) (Or.inl ⟨by rfl, ?_⟩) ?_ ?_
        rotate_left
        · intro w'
          go_simp
          with_reducible rfl
        rotate_left
        · simp only [putAll, Act.put, List.setIfInBounds_toArray, List.set_cons_zero, List.set_cons_succ, i64_w, i32_w]
          rfl
        refine one_ (i := 11) (N := some 4) #[true, true, true, true, true, true, true, true, true, true, true, true, false] rfl rfl (by kernel_rfl) (by decide) (fun K hK => ?_)
        refine value_ (w1 := ?_) (v := ?_) (by rfl) rfl ?_ ?_
        rotate_left 2
        · go_simp
          constructor
          · rfl
          · rfl
        refine hK.out _ _ (blk_cell (blk_alloc HD.out.x _) 0) (fun _ => ?_)
        clear hK K
        refine norm_ ?_ (hA3 _ _ ⟨Dec.mono (HD.out.alloc _) (fun k hk => hk.1), blk_new _ _, hsz⟩)
        simp only [putAll, Act.put, List.setIfInBounds_toArray, List.set_cons_zero, List.set_cons_succ, i64_w, i32_w]
      clear HD hHeld hsz
      obtain ⟨hd, hm, hb0⟩ := hF
      have HD := Lib.hid hd
      have HM := Lib.hid hm
      clear hd hm
      have hbg : b ≠ g := by omega
      have hwb : w.heap.size ≤ b := by omega
      have hgb : g ≠ b := by omega
      have hbb : w.heap.size ≠ b := by omega
      clear hb0 hgw2 hbw2
      refine norm_ (a' := ?_) ?_ ?_
      rotate_left
      · simp only [putAll, Act.put, List.setIfInBounds_toArray, List.set_cons_zero, List.set_cons_succ, i64_w, i32_w]
        rfl
      refine one_ (i := 12) (N := none) #[true, true, true, true, true, true, true, true, true, true, true, true, true] rfl rfl (by kernel_rfl) (by decide) (fun K hK => ?_)
      refine store_step 73 (.tmp 4) (.tmp 20) (.agg #[.int .i64 x0, .int .i64 x1, .string ⟨x2.toArray⟩, .int .i64 0]) [.int .i64 x0, .int .i64 x1, .string ⟨x2.toArray⟩, .int .i64 0] #[.int .i64 0, .int .i64 0, .string ⟨#[]⟩, .int .i64 0] #[.int .i64 x0, .int .i64 x1, .string ⟨x2.toArray⟩, .int .i64 0] b 0 73 (by rfl) rfl rfl rfl rfl HM.out rfl (by kernel_rfl) (by simp) rfl rfl ?_
      intro w1 hw
      replace HM := Lib.hid hw.row
      replace HD := Lib.hid (HD.out.wrote hw hwb hbs hgb hbb (fun k hk => hk))
      clear hw
      refine hK.out _ _ (blk_cell HD.out.x 0) (fun _ => ?_)
      clear hK K
      refine done_ (by kernel_rfl) ?_
      have hbx := blk_cell HD.out.x 0
      obtain ⟨⟨x3, q4, e4⟩, h3⟩ : ∃ x, intR S q3 e3 = x := ⟨_, rfl⟩
      have c3 := HN.out q3 e3 hq3
      have hq4 := (good_int.place S q3 e3 hq3).2
      simp only [h3] at c3 hq4
      replace c3 := Lib.hid c3
      replace h3 := Lib.hid h3
      go_wp2_with (first
        | (go_at_call 24; refine (c3.out _ HD.out.i HD.out.b).mono ?_; rintro en w1 ⟨rfl, hi, hb, hk⟩; replace HM := Lib.hid ((hk.2 _ (blk_lt HM.out) hbg (by simp)).trans HM.out); replace HD := Lib.hid (HD.out.call (by decide) hbbg hi hb hk); clear hi hb hk hbx; have hbx := blk_cell HD.out.x 0)
        | ((with_reducible refine gate_ (.store 3 (.tmp 24) (.tmp 23)) rfl ?_); refine store_plain 3 (.tmp 24) (.tmp 23) (.int .i64 x3) [.int .i64 x3] #[.int .i64 x0, .int .i64 x1, .string ⟨x2.toArray⟩, .int .i64 0] #[.int .i64 x0, .int .i64 x1, .string ⟨x2.toArray⟩, .int .i64 x3] b 3 73 rfl rfl rfl rfl rfl HM.out rfl (by kernel_rfl) (by simp) rfl rfl ?_; intro w1 hw; replace HM := Lib.hid hw.row; replace HD := Lib.hid (HD.out.wrote hw hwb hbs hgb hbb (fun k hk => hk)); clear hw hbx; have hbx := blk_cell HD.out.x 0; have hm0 := blk_cell HM.out 0; have hm1 := blk_cell HM.out 1; have hm2 := blk_cell HM.out 2; have hm3 := blk_cell HM.out 3)
        | ((with_reducible refine gate_builtin (b := .append) (xs := #[.tmp 25, .tmp 27]) rfl ?_); at_builtin; refine Kd.R_append k73 w.heap.size rfl (.tmp 25) (.tmp 27) 41 73 (.agg #[(.int .i64 0), (.int .i64 0), (.string ⟨#[]⟩), (.int .i64 0)]) 40 rfl Try.underlying41 info73 rfl (by decide) (by omega) u3 xs (⟨⟨x0, x1, ⟨x2.toArray⟩⟩, x3⟩ : S73) [.int .i64 x0, .int .i64 x1, .string ⟨x2.toArray⟩, .int .i64 x3] (fun _ => True) (fun _ => False) rfl rfl ?aP (fun _ hk => hk.elim) ?aF ?aO (Below.refl _ _) ?aS ?aL ?_; (case aP => exact k73_mkM _ _ _ (⟨⟨x0, x1, ⟨x2.toArray⟩⟩, x3⟩ : S73)); (case aF => exact (fun _ _ => trivial)); (case aO => exact Kd.R_mono HD.out.r (fun _ _ => trivial)); (case aS => exact HD.out.k.1); (case aL => omega); intro v198 w6 ho hb hg hat; replace HD := Lib.hid (Dec.appended HD.out (by decide) (by decide) hbs ho hb hg); clear ho hb hg hat hbx hm0 hm1 hm2 hm3))
      go_roundw
      case rel =>
        refine ⟨k + 1, _, _, _, by go_num, by omega, ?_, hq4, HD, ?_⟩
        · rw [List.length_append, hxl]; rfl
        · have hM := HM0.out
          rw [show n - k = (n - (k + 1)) + 1 by omega] at hM
          rw [← hM]
          simp only [manyR, balancesR, isoR, pairR, listR, h0.out, h1.out, h2.out, h3.out, List.append_assoc, List.singleton_append]
          first | exact Lib.hid rfl | exact Lib.hid trivial
      case measure => simp [intOf]; omega
    · have hkn : k = n := by omega
      subst hkn
      go_wp2
      go_ret
      have hM := HM0.out
      rw [Nat.sub_self] at hM
      simp only [manyR, List.append_nil] at hM
      rw [← hM]
      exact ⟨_, rfl, HD.out.r, HD.out.i, HD.out.b, HD.out.k⟩
end Go.Proofs.Ytlkfbdeddfhocaa

set_option linter.unusedVariables false
set_option linter.unusedSimpArgs false
namespace Go.Proofs.Ytlkfbdeddfhocaa
open Go.Proofs Go.RowKit Go.Proofs.YtlkfbdeddfhocaaW.PrintWords Go.Proofs.YtlkfbdeddfhocaaW.PrintLast Go.Proofs.YtlkfbdeddfhocaaW.PrintMore Q

theorem info119 : (Try.prog.info? 119).map (fun i => (i.zero, i.size, i.bytes)) = some (some (.agg #[(.string ⟨#[]⟩), (.int .i64 0)]), 2, 24) := by kernel_rfl
def lotR : Rdr S119 := isoR (pairR (textR 160) intR) (fun x => ⟨⟨(x.1).toArray⟩, x.2⟩)
theorem info77 : (Try.prog.info? 77).map (fun i => (i.zero, i.size, i.bytes)) = some (some (.agg #[(.int .i64 0), (.slice none 0 0)]), 2, 32) := by kernel_rfl
def coversR : Rdr S77 := isoR (pairR intR (listR 4096 lotR)) (fun x => ⟨x.1, x.2⟩)
set_option maxHeartbeats 16000000 in
set_option maxRecDepth 1000000 in
theorem covers_walk (S : List UInt8) (hS : S.length ≤ 1000000) (g p : Nat) (e : Int) (hp : p ≤ S.length) (w0 w : World) (hI : IsS132 w0 w g ⟨S.toArray⟩ p e) (hB : Below w0.heap.size w0 w) :
    Calls Try.prog 32 #[.agg #[.pointer (some ⟨g, 0, none⟩)]] w fun en w' => ∃ v, en = .returned v ∧ Kd.R k77 77 w' w.heap.size (fun _ => True) v (listR 4096 coversR S p e).1 ∧
      IsS132 w0 w' g ⟨S.toArray⟩ (listR 4096 coversR S p e).2.1 (listR 4096 coversR S p e).2.2 ∧ Below w0.heap.size w0 w' ∧ KeepBut w w' g none := by
  have hcp := (good_count 4096 (by omega)).place S p e hp
  have hcn := count_le S p e
  have hc := fun W hi hb => count_call S hS g w0 p e hp W hi hb
  unfold listR
  obtain ⟨⟨n, q0, e0⟩, hR⟩ : ∃ x, countR 4096 S p e = x := ⟨_, rfl⟩
  rw [hR] at hc hcp hcn ⊢
  simp only at hc hcp hcn ⊢
  replace hc := Lib.hid hc
  clear hR
  have HI := Lib.hid hI
  have HB0 := Lib.hid hB
  have hbbg : w.heap.size ≠ g := Nat.ne_of_gt hI.lt
  have hbs := hB.size
  have HT := Lib.hid (text_call S hS g w0)
  have HN := Lib.hid (int_call S hS g w0)
  have HBo := Lib.hid (bool_call S hS g w0)
  have HCo := Lib.hid (count_call S hS g w0)
  have HIs := Lib.hid (ints_call S hS g w0)
  clear hI hB
  go_enter Try.func32, Try.ntmps32
  go_wp2_with (go_at_call 45; refine (hc.out _ (IsS132.alloc HI.out _) (below_alloc HB0.out _)).mono ?_; rintro en w1 ⟨rfl, hi, hb, hk⟩)
  have hbox : w1.heap[w.heap.size]? = some (.cells #[.pointer (some ⟨g, 0, none⟩)] 101 (0, 0)) := (hk.2 w.heap.size (by simp) hbbg (by simp)).trans (heap_alloc_new w _)
  have hkk : KeepBut w w1 g none := KeepBut.trans (keep_alloc (KeepBut.refl w g none) _) hk (.inl rfl)
  clear hk
  go_loopw [3, 8] (fun v i wr => ∃ (k : Nat) (xs : List S77) (q : Nat) (e' : Int), i = .int .i64 k ∧ k ≤ n ∧ xs.length = k ∧ q ≤ S.length ∧ Hid (Dec k77 77 w0 w wr g ⟨S.toArray⟩ q e' w.heap.size (fun _ => True) v xs) ∧
    Hid ((xs ++ (manyR coversR (n - k) S q e').1, (manyR coversR (n - k) S q e').2) = manyR coversR n S q0 e0)) (fun _ i _ => n - (intOf i).toNat)
  case atStart => exact ⟨0, [], q0, e0, rfl, by omega, rfl, hcp.2, Lib.hid ⟨Kd.R_nil _ _ _ _ _, hi, hbox, hb, hkk⟩, Lib.hid rfl⟩
  case round =>
    clear hi hbox hb hkk HI HB0
    obtain ⟨k, xs, q, e', rfl, hk, hxl, hq, HD, HM0⟩ := hrel
    by_cases hlt : k < n
    · skip
      obtain ⟨⟨x0, q1, e1⟩, h0⟩ : ∃ x, intR S q e' = x := ⟨_, rfl⟩
      have c0 := HN.out q e' hq
      have hq1 := (good_int.place S q e' hq).2
      simp only [h0] at c0 hq1
      replace c0 := Lib.hid c0
      replace h0 := Lib.hid h0
      have hgw : g < wr.heap.size := HD.out.i.lt
      have hbw : w.heap.size < wr.heap.size := blk_lt HD.out.x
      clear hgw hbw
      have hbx := blk_cell HD.out.x 0
      obtain ⟨⟨x1, q2, e2⟩, h1⟩ : ∃ x, countR 4096 S q1 e1 = x := ⟨_, rfl⟩
      have c1 := HCo.out q1 e1 hq1
      have hq2 := ((good_count 4096 (by omega)).place S q1 e1 hq1).2
      have hcn1 := count_le S q1 e1
      simp only [h1] at c1 hq2 hcn1
      replace c1 := Lib.hid c1
      replace h1 := Lib.hid h1
      go_wp2_with (first
        | (go_at_call 24; refine (c0.out _ HD.out.i HD.out.b).mono ?_; rintro en wA ⟨rfl, hi, hb, hk⟩; replace HD := Lib.hid (HD.out.call (by decide) hbbg hi hb hk); clear hi hb hk hbx; have hbg : wA.heap.size ≠ g := (by have := HD.out.i.lt; omega); have hgb : g ≠ wA.heap.size := (by omega); have hwb : w.heap.size ≤ wA.heap.size := HD.out.k.1; have hbb : w.heap.size ≠ wA.heap.size := (by have := blk_lt HD.out.x; omega); have HM := Lib.hid (blk_new wA (.cells #[.int .i64 x0, .slice none 0 0] 77)); have hbx0 := blk_cell HD.out.x 0; replace HD := Lib.hid (Dec.mono (HD.out.alloc (.cells #[.int .i64 x0, .slice none 0 0] 77)) (fun k hk => hk.1)); have hbx := blk_cell HD.out.x 0)
        | (go_at_call 45; refine (c1.out _ HD.out.i HD.out.b).mono ?_; rintro en w1 ⟨rfl, hi, hb, hk⟩; replace HM := Lib.hid ((hk.2 _ (blk_lt HM.out) hbg (by simp)).trans HM.out); replace HD := Lib.hid (HD.out.call (by decide) hbbg hi hb hk); clear hi hb hk hbx))
      try clear hbx0
      generalize wA.heap.size = b at HM HD hbg hgb hwb hbb ⊢
      obtain ⟨wo, rfl⟩ : ∃ wo : World, wo = wr := ⟨_, rfl⟩
      go_loopw [17] (fun i2 wr => ∃ (k2 : Nat) (ys : List S119) (Aq2 : Option Addr) (cq2 qi : Nat) (ei : Int), i2 = .int .i64 k2 ∧ k2 ≤ x1 ∧ Hid (ys.length = k2) ∧ qi ≤ S.length ∧ Hid (Dec k77 77 w0 w wr g ⟨S.toArray⟩ qi ei w.heap.size (fun k => k ≠ b ∧ some k ≠ (Value.slice Aq2 ys.length cq2).ownBlock) u3 xs) ∧ Hid (wr.heap[b]? = some (.cells #[.int .i64 x0, .slice Aq2 ys.length cq2] 77 (0, 0))) ∧ Hid (Kd.R k119 119 wr w.heap.size (fun k => k ≠ b) (.slice Aq2 ys.length cq2) ys) ∧ Hid ((ys ++ (manyR lotR (x1 - k2) S qi ei).1, (manyR lotR (x1 - k2) S qi ei).2) = manyR lotR x1 S q2 e2)) (fun i2 _ => x1 - (intOf i2).toNat)
      case atStart => exact ⟨0, [], none, 0, q2, e2, rfl, by omega, Lib.hid rfl, hq2, Lib.hid ⟨Kd.R_apart_nil HD.out.r, HD.out.i, HD.out.x, HD.out.b, HD.out.k⟩, HM, Lib.hid (Kd.R_nil _ _ _ _ _), Lib.hid rfl⟩
      case round =>
        clear HD HM
        obtain ⟨k2, ys, Aq2, cq2, qi, ei, rfl, hk2, HYL, hqi, HD, HM, HC, HMi⟩ := hrel
        by_cases hlt2 : k2 < x1
        · skip
          obtain ⟨⟨x2, q3, e3⟩, h2⟩ : ∃ x, textR 160 S qi ei = x := ⟨_, rfl⟩
          have c2 := HT.out qi ei hqi
          have hq3 := ((good_text 160 (by omega)).place S qi ei hqi).2
          simp only [h2] at c2 hq3
          replace c2 := Lib.hid c2
          replace h2 := Lib.hid h2
          obtain ⟨⟨x3, q4, e4⟩, h3⟩ : ∃ x, intR S q3 e3 = x := ⟨_, rfl⟩
          have c3 := HN.out q3 e3 hq3
          have hq4 := (good_int.place S q3 e3 hq3).2
          simp only [h3] at c3 hq4
          replace c3 := Lib.hid c3
          replace h3 := Lib.hid h3
          go_wp2
          refine start_ (ds := [12]) (n := 13) (S := fun w' => w'.cell? ⟨w.heap.size, 0, none⟩ = some (.pointer (some ⟨g, 0, none⟩)) ∧ w'.cell? ⟨b, 1, none⟩ = some (.slice Aq2 ys.length cq2)) #[false, false, false, false, false, false, false, false, false, false, false, false, false] (by kernel_rfl) (by rfl) (by rfl) ⟨blk_cell (blk_drew HD.out.x) 0, blk_cell (blk_drew HM.out) 1⟩ (fun hHeld => ?_)
          replace HD := Lib.hid (Dec.drew HD.out)
          replace HM := Lib.hid (blk_drew HM.out)
          replace HC := Lib.hid (Kd.R_drew HC.out)
          generalize wr.drew = w5 at HD HM HC hHeld ⊢
          refine pure_ (i := 0) (N := some 19) (v := ?_) (a' := ?_) #[true, false, false, false, false, false, false, false, false, false, false, false, false] rfl rfl (by kernel_rfl) (fun _ _ _ h => h) (Or.inl ⟨by rfl, ?_⟩) ?_ ?_
          rotate_left
          · intro w'
            go_simp
            with_reducible rfl
          rotate_left
          · simp only [putAll, Act.put, List.setIfInBounds_toArray, List.set_cons_zero, List.set_cons_succ, i64_w, i32_w]
            rfl
          refine pure_ (i := 2) (N := some 21) (v := ?_) (a' := ?_) #[true, false, true, false, false, false, false, false, false, false, false, false, false] rfl rfl (by kernel_rfl) (fun _ _ _ h => h) (Or.inl ⟨by rfl, ?_⟩) ?_ ?_
          rotate_left
          · intro w'
            go_simp
            with_reducible rfl
          rotate_left
          · simp only [putAll, Act.put, List.setIfInBounds_toArray, List.set_cons_zero, List.set_cons_succ, i64_w, i32_w]
            rfl
          refine pure_ (i := 5) (N := some 24) (v := ?_) (a' := ?_) #[true, false, true, false, false, true, false, false, false, false, false, false, false] rfl rfl (by kernel_rfl) (fun _ _ _ h => h) (Or.inl ⟨by rfl, ?_⟩) ?_ ?_
          rotate_left
          · intro w'
            go_simp
            with_reducible rfl
          rotate_left
          · simp only [putAll, Act.put, List.setIfInBounds_toArray, List.set_cons_zero, List.set_cons_succ, i64_w, i32_w]
            rfl
          refine take_ (i := 1) (N := some 20) (v := ?_) (a' := ?_) #[true, true, true, false, false, true, false, false, false, false, false, false, false] rfl rfl (by kernel_rfl) (fun _ _ _ h => h) (Or.inl ⟨by rfl, ?_⟩) hHeld ?_ ?_
          rotate_left
          · rintro w' ⟨s0, s1⟩
            go_simp
            with_reducible rfl
          rotate_left
          · simp only [putAll, Act.put, List.setIfInBounds_toArray, List.set_cons_zero, List.set_cons_succ, i64_w, i32_w]
            rfl
          refine take_ (i := 3) (N := some 22) (v := ?_) (a' := ?_) #[true, true, true, true, false, true, false, false, false, false, false, false, false] rfl rfl (by kernel_rfl) (fun _ _ _ h => h) (Or.inl ⟨by rfl, ?_⟩) hHeld ?_ ?_
          rotate_left
          · rintro w' ⟨s0, s1⟩
            go_simp
            with_reducible rfl
          rotate_left
          · simp only [putAll, Act.put, List.setIfInBounds_toArray, List.set_cons_zero, List.set_cons_succ, i64_w, i32_w]
            rfl
          refine take_ (i := 6) (N := some 25) (v := ?_) (a' := ?_) #[true, true, true, true, false, true, true, false, false, false, false, false, false] rfl rfl (by kernel_rfl) (fun _ _ _ h => h) (Or.inl ⟨by rfl, ?_⟩) hHeld ?_ ?_
          rotate_left
          · rintro w' ⟨s0, s1⟩
            go_simp
            with_reducible rfl
          rotate_left
          · simp only [putAll, Act.put, List.setIfInBounds_toArray, List.set_cons_zero, List.set_cons_succ, i64_w, i32_w]
            rfl
          refine one_ (i := 4) (N := some 23) #[true, true, true, true, true, true, true, false, false, false, false, false, false] rfl rfl (by kernel_rfl) (by decide) (fun K hK => ?_)
          refine goes_ Try.func46 (by kernel_rfl) rfl #[.pointer (some ⟨g, 0, none⟩), .int .i64 160] (by rfl) rfl rfl (by first | rfl | (simp only [List.map_toArray, List.map_cons, List.map_nil]; rfl)) ?_
          refine (c2.out _ HD.out.i HD.out.b).mono ?_
          rintro en w' ⟨rfl, hi, hb, hk⟩
          refine ⟨_, rfl, ?_⟩
          replace HM := Lib.hid ((hk.2 _ (blk_lt HM.out) hbg (by simp)).trans HM.out)
          replace HC := Lib.hid (Kd.R_mono (Kd.R_keep (IsS132.apart HD.out.i HC.out (by decide)) hk (fun _ h => h.2)) (fun _ h => h.1))
          replace HD := Lib.hid (HD.out.call (by decide) hbbg hi hb hk)
          clear hi hb hk
          refine hK.out _ _ ⟨blk_cell HD.out.x 0, blk_cell HM.out 1⟩ (fun hHeld => ?_)
          clear hK K
          refine norm_ (a' := ?_) ?_ ?_
          rotate_left
          · show Act.put _ (some 23) _ = _
            simp only [putAll, Act.put, List.setIfInBounds_toArray, List.set_cons_zero, List.set_cons_succ, i64_w, i32_w]
            rfl
          refine one_ (i := 7) (N := some 26) #[true, true, true, true, true, true, true, true, false, false, false, false, false] rfl rfl (by kernel_rfl) (by decide) (fun K hK => ?_)
          refine goes_ Try.func24 (by kernel_rfl) rfl #[.pointer (some ⟨g, 0, none⟩)] (by rfl) rfl rfl (by first | rfl | (simp only [List.map_toArray, List.map_cons, List.map_nil]; rfl)) ?_
          refine (c3.out _ HD.out.i HD.out.b).mono ?_
          rintro en w' ⟨rfl, hi, hb, hk⟩
          refine ⟨_, rfl, ?_⟩
          replace HM := Lib.hid ((hk.2 _ (blk_lt HM.out) hbg (by simp)).trans HM.out)
          replace HC := Lib.hid (Kd.R_mono (Kd.R_keep (IsS132.apart HD.out.i HC.out (by decide)) hk (fun _ h => h.2)) (fun _ h => h.1))
          replace HD := Lib.hid (HD.out.call (by decide) hbbg hi hb hk)
          clear hi hb hk
          refine hK.out _ _ ⟨blk_cell HD.out.x 0, blk_cell HM.out 1⟩ (fun hHeld => ?_)
          clear hK K
          refine norm_ (a' := ?_) ?_ ?_
          rotate_left
          · show Act.put _ (some 26) _ = _
            simp only [putAll, Act.put, List.setIfInBounds_toArray, List.set_cons_zero, List.set_cons_succ, i64_w, i32_w]
            rfl
          refine pure_ (i := 8) (N := some 27) (v := ?_) (a' := ?_) #[true, true, true, true, true, true, true, true, true, false, false, false, false] rfl rfl (by kernel_rfl) (fun _ _ _ h => h) (Or.inl ⟨by rfl, ?_⟩) ?_ ?_
          rotate_left
          · intro w'
            go_simp
            with_reducible rfl
          rotate_left
          · simp only [putAll, Act.put, List.setIfInBounds_toArray, List.set_cons_zero, List.set_cons_succ, i64_w, i32_w]
            rfl
          refine one_ (i := 9) (N := some 28) #[true, true, true, true, true, true, true, true, true, true, false, false, false] rfl rfl (by kernel_rfl) (by decide) (fun K hK => ?_)
          refine value_ (w1 := ?_) (v := ?_) (by rfl) rfl ?_ ?_
          rotate_left 2
          · go_simp
            constructor
            · rfl
            · rfl
          refine hK.out _ _ ⟨blk_cell (blk_alloc HD.out.x _) 0, blk_cell (blk_alloc HM.out _) 1⟩ (fun hHeld => ?_)
          clear hK K
          refine norm_ (a' := ?_) ?_ ?_
          rotate_left
          · show Act.put _ (some 28) _ = _
            simp only [putAll, Act.put, List.setIfInBounds_toArray, List.set_cons_zero, List.set_cons_succ, i64_w, i32_w]
            rfl
          refine one_ (i := 10) (N := some 29) #[true, true, true, true, true, true, true, true, true, true, true, false, false] rfl rfl (by kernel_rfl) (by decide) (fun K hK => ?_)
          refine Kd.R_append_step k119 w.heap.size (by rfl) (.tmp 20) (.tmp 28) 74 119 (.agg #[(.string ⟨#[]⟩), (.int .i64 0)]) 24 rfl Try.underlying74 info119 rfl (by decide) (by omega) (.slice Aq2 ys.length cq2) ys (⟨⟨x2.toArray⟩, x3⟩ : S119) [.string ⟨x2.toArray⟩, .int .i64 x3] (fun k => k ≠ b) (fun _ => False) rfl rfl ?aP (fun _ hk => hk.elim) ?aF ?aO (Below.refl _ _) ?aS ?aL ?_
          (case aP => exact k119_mkM _ _ _ (⟨⟨x2.toArray⟩, x3⟩ : S119))
          (case aF => exact (fun k hk => by have := blk_lt HM.out; omega))
          (case aO => exact HC.out)
          (case aS => exact HD.out.k.1)
          (case aL => have := HYL.out; omega)
          intro v198 w6 ho hb hg hat
          obtain ⟨Aq3, cq3, eq3⟩ := Kd.R_slice ho
          subst eq3
          replace HM := Lib.hid (blk_grown HM.out hg (Kd.R_ne HC.out HM.out (by decide)))
          replace HD := Lib.hid (Dec.other HD.out HC.out (by decide) (by decide) hbs hb hg hat)
          replace HC := Lib.hid ho
          clear ho hb hg hat
          refine hK.out _ _ ⟨blk_cell HD.out.x 0, blk_cell HM.out 1⟩ (fun hHeld => ?_)
          clear hK K
          refine norm_ (a' := ?_) ?_ ?_
          rotate_left
          · show Act.put _ (some 29) _ = _
            simp only [putAll, Act.put, List.setIfInBounds_toArray, List.set_cons_zero, List.set_cons_succ, i64_w, i32_w]
            rfl
          refine pure_ (i := 11) (N := some 30) (v := ?_) (a' := ?_) #[true, true, true, true, true, true, true, true, true, true, true, true, false] rfl rfl (by kernel_rfl) (fun _ _ _ h => h) (Or.inl ⟨by rfl, ?_⟩) ?_ ?_
          rotate_left
          · intro w'
            go_simp
            with_reducible rfl
          rotate_left
          · simp only [putAll, Act.put, List.setIfInBounds_toArray, List.set_cons_zero, List.set_cons_succ, i64_w, i32_w]
            rfl
          refine last_ (i := 12) (N := none) #[true, true, true, true, true, true, true, true, true, true, true, true, true] rfl rfl (by kernel_rfl) (by decide) (fun K hK => ?_)
          refine store_step 74 (.tmp 30) (.tmp 29) (.slice Aq3 (ys ++ [(⟨⟨x2.toArray⟩, x3⟩ : S119)]).length cq3) [.slice Aq3 (ys ++ [(⟨⟨x2.toArray⟩, x3⟩ : S119)]).length cq3] #[.int .i64 x0, .slice Aq2 ys.length cq2] #[.int .i64 x0, .slice Aq3 (ys ++ [(⟨⟨x2.toArray⟩, x3⟩ : S119)]).length cq3] b 1 77 (by rfl) rfl rfl rfl rfl HM.out rfl (by kernel_rfl) (by simp) rfl rfl ?_
          intro w1 hw
          replace HM := Lib.hid hw.row
          replace HC := Lib.hid (hw.row_ HC.out (fun k hk => hk))
          replace HD := Lib.hid (HD.out.wrote hw hwb hbs hgb hbb (fun k hk => hk.1))
          clear hw
          refine hK.out _ _ ?_
          clear hK K
          refine done_ (by kernel_rfl) ?_
          go_wp2
          go_roundw
          case rel =>
            refine ⟨k2 + 1, ys ++ [(⟨⟨x2.toArray⟩, x3⟩ : S119)], Aq3, cq3, q4, e4, by go_num, by omega, Lib.hid (by rw [List.length_append, HYL.out]; rfl), hq4, HD, HM, HC, ?_⟩
            have hM := HMi.out
            rw [show x1 - k2 = (x1 - (k2 + 1)) + 1 by omega] at hM
            rw [← hM]
            simp only [manyR, lotR, isoR, pairR, h2.out, h3.out, List.append_assoc, List.singleton_append]
            first | exact Lib.hid rfl | exact Lib.hid trivial
          case measure => simp [intOf]; omega
        · have hkn2 : k2 = x1 := by omega
          subst hkn2
          have hMi := HMi.out
          rw [Nat.sub_self] at hMi
          simp only [manyR, List.append_nil] at hMi
          replace HMi := Lib.hid hMi.symm
          clear hMi hlt2 hk2
          have hbx := blk_cell HD.out.x 0
          have hm0 := blk_cell HM.out 0; have hm1 := blk_cell HM.out 1
          go_wp2_with (first
            | ((with_reducible refine gate_builtin (b := .append) (xs := #[.tmp 32, .tmp 34]) rfl ?_); at_builtin; refine Kd.R_append k77 w.heap.size rfl (.tmp 32) (.tmp 34) 42 77 (.agg #[(.int .i64 0), (.slice none 0 0)]) 32 rfl Try.underlying42 info77 rfl (by decide) (by omega) u3 xs (⟨x0, ys⟩ : S77) [.int .i64 x0, .slice Aq2 ys.length cq2] (fun _ => True) (fun k => some k ≠ u3.ownBlock) rfl rfl ?aP (fun k hk => ⟨trivial, hk⟩) ?aF ?aO (Below.refl _ _) ?aS ?aL ?_; (case aP => exact k77_mkM _ _ _ (⟨x0, ys⟩ : S77) (Kd.R_mono (Kd.R_not HC.out HD.out.r (by decide)) (fun k h => h.2))); (case aF => exact (fun _ _ => trivial)); (case aO => exact Kd.R_mono HD.out.r (fun _ _ => trivial)); (case aS => exact HD.out.k.1); (case aL => omega); intro v198 w6 ho hb hg hat; replace HD := Lib.hid (Dec.appended HD.out (by decide) (by decide) hbs ho hb hg); clear ho hb hg hat hbx hm0 hm1))
          go_roundw
          case rel =>
            refine ⟨k + 1, _, _, _, by go_num, by omega, ?_, hqi, HD, ?_⟩
            · rw [List.length_append, hxl]; rfl
            · have hM := HM0.out
              rw [show n - k = (n - (k + 1)) + 1 by omega] at hM
              rw [← hM]
              simp only [manyR, coversR, isoR, pairR, listR, h0.out, h1.out, HMi.out, List.append_assoc, List.singleton_append]
              first | exact Lib.hid rfl | exact Lib.hid trivial
          case measure => simp [intOf]; omega
    · have hkn : k = n := by omega
      subst hkn
      go_wp2
      go_ret
      have hM := HM0.out
      rw [Nat.sub_self] at hM
      simp only [manyR, List.append_nil] at hM
      rw [← hM]
      exact ⟨_, rfl, HD.out.r, HD.out.i, HD.out.b, HD.out.k⟩
end Go.Proofs.Ytlkfbdeddfhocaa
