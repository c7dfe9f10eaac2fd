/- What decoder.trades answers: the list that listR reads. Condition: the text has at most 1000000 bytes. Written by gendec2.py. -/
import Derived.Test.YtlkfbdeddfhocaaMa
set_option linter.unusedVariables false
set_option linter.unusedSimpArgs false
namespace Go.Proofs.Ytlkfbdeddfhocaa
open Go.Proofs Go.RowKit Go.Proofs.YtlkfbdeddfhocaaW.PrintWords Go.Proofs.YtlkfbdeddfhocaaW.PrintLast Go.Proofs.YtlkfbdeddfhocaaW.PrintMore Q

theorem info129 : (Try.prog.info? 129).map (fun i => (i.zero, i.size, i.bytes)) = some (some (.agg #[(.int .i64 0), (.int .i64 0)]), 2, 16) := by kernel_rfl
def resetR : Rdr S129 := isoR (pairR intR intR) (fun x => ⟨x.1, x.2⟩)
theorem info117 : (Try.prog.info? 117).map (fun i => (i.zero, i.size, i.bytes)) = some (some (.agg #[(.int .i64 0), (.int .i64 0), (.int .i64 0), (.int .i64 0), (.int .i64 0), (.int .i64 0), (.int .i64 0), (.int .i64 0), (.slice none 0 0), (.int .i64 0), (.bool false)]), 11, 104) := by kernel_rfl
def tradesR : Rdr S117 := isoR (pairR intR (pairR intR (pairR intR (pairR intR (pairR intR (pairR intR (pairR intR (pairR intR (pairR intR (pairR boolR (listR 4096 resetR))))))))))) (fun x => ⟨x.1, x.2.1, x.2.2.1, x.2.2.2.1, x.2.2.2.2.1, x.2.2.2.2.2.1, x.2.2.2.2.2.2.1, x.2.2.2.2.2.2.2.1, x.2.2.2.2.2.2.2.2.2.2, x.2.2.2.2.2.2.2.2.1, x.2.2.2.2.2.2.2.2.2.1⟩)
set_option maxHeartbeats 16000000 in
set_option maxRecDepth 1000000 in
theorem trades_walk (S : List UInt8) (hS : S.length ≤ 1000000) (g p : Nat) (e : Int) (hp : p ≤ S.length) (w0 w : World) (hI : IsS132 w0 w g ⟨S.toArray⟩ p e) (hB : Below w0.heap.size w0 w) :
    Calls Try.prog 31 #[.agg #[.pointer (some ⟨g, 0, none⟩)]] w fun en w' => ∃ v, en = .returned v ∧ Kd.R k117 117 w' w.heap.size (fun _ => True) v (listR 4096 tradesR S p e).1 ∧
      IsS132 w0 w' g ⟨S.toArray⟩ (listR 4096 tradesR S p e).2.1 (listR 4096 tradesR S p e).2.2 ∧ Below w0.heap.size w0 w' ∧ KeepBut w w' g none := by
  have hcp := (good_count 4096 (by omega)).place S p e hp
  have hcn := count_le S p e
  have hc := fun W hi hb => count_call S hS g w0 p e hp W hi hb
  unfold listR
  obtain ⟨⟨n, q0, e0⟩, hR⟩ : ∃ x, countR 4096 S p e = x := ⟨_, rfl⟩
  rw [hR] at hc hcp hcn ⊢
  simp only at hc hcp hcn ⊢
  replace hc := Lib.hid hc
  clear hR
  have HI := Lib.hid hI
  have HB0 := Lib.hid hB
  have hbbg : w.heap.size ≠ g := Nat.ne_of_gt hI.lt
  have hbs := hB.size
  have HT := Lib.hid (text_call S hS g w0)
  have HN := Lib.hid (int_call S hS g w0)
  have HBo := Lib.hid (bool_call S hS g w0)
  have HCo := Lib.hid (count_call S hS g w0)
  have HIs := Lib.hid (ints_call S hS g w0)
  clear hI hB
  go_enter Try.func31, Try.ntmps31
  go_wp2_with (go_at_call 45; refine (hc.out _ (IsS132.alloc HI.out _) (below_alloc HB0.out _)).mono ?_; rintro en w1 ⟨rfl, hi, hb, hk⟩)
  have hbox : w1.heap[w.heap.size]? = some (.cells #[.pointer (some ⟨g, 0, none⟩)] 101 (0, 0)) := (hk.2 w.heap.size (by simp) hbbg (by simp)).trans (heap_alloc_new w _)
  have hkk : KeepBut w w1 g none := KeepBut.trans (keep_alloc (KeepBut.refl w g none) _) hk (.inl rfl)
  clear hk
  go_loopw [3, 8] (fun v i wr => ∃ (k : Nat) (xs : List S117) (q : Nat) (e' : Int), i = .int .i64 k ∧ k ≤ n ∧ xs.length = k ∧ q ≤ S.length ∧ Hid (Dec k117 117 w0 w wr g ⟨S.toArray⟩ q e' w.heap.size (fun _ => True) v xs) ∧
    Hid ((xs ++ (manyR tradesR (n - k) S q e').1, (manyR tradesR (n - k) S q e').2) = manyR tradesR n S q0 e0)) (fun _ i _ => n - (intOf i).toNat)
  case atStart => exact ⟨0, [], q0, e0, rfl, by omega, rfl, hcp.2, Lib.hid ⟨Kd.R_nil _ _ _ _ _, hi, hbox, hb, hkk⟩, Lib.hid rfl⟩
  case round =>
    clear hi hbox hb hkk HI HB0
    obtain ⟨k, xs, q, e', rfl, hk, hxl, hq, HD, HM0⟩ := hrel
    by_cases hlt : k < n
    · skip
      obtain ⟨⟨x0, q1, e1⟩, h0⟩ : ∃ x, intR S q e' = x := ⟨_, rfl⟩
      have c0 := HN.out q e' hq
      have hq1 := (good_int.place S q e' hq).2
      simp only [h0] at c0 hq1
      replace c0 := Lib.hid c0
      replace h0 := Lib.hid h0
      obtain ⟨⟨x1, q2, e2⟩, h1⟩ : ∃ x, intR S q1 e1 = x := ⟨_, rfl⟩
      have c1 := HN.out q1 e1 hq1
      have hq2 := (good_int.place S q1 e1 hq1).2
      simp only [h1] at c1 hq2
      replace c1 := Lib.hid c1
      replace h1 := Lib.hid h1
      obtain ⟨⟨x2, q3, e3⟩, h2⟩ : ∃ x, intR S q2 e2 = x := ⟨_, rfl⟩
      have c2 := HN.out q2 e2 hq2
      have hq3 := (good_int.place S q2 e2 hq2).2
      simp only [h2] at c2 hq3
      replace c2 := Lib.hid c2
      replace h2 := Lib.hid h2
      obtain ⟨⟨x3, q4, e4⟩, h3⟩ : ∃ x, intR S q3 e3 = x := ⟨_, rfl⟩
      have c3 := HN.out q3 e3 hq3
      have hq4 := (good_int.place S q3 e3 hq3).2
      simp only [h3] at c3 hq4
      replace c3 := Lib.hid c3
      replace h3 := Lib.hid h3
      obtain ⟨⟨x4, q5, e5⟩, h4⟩ : ∃ x, intR S q4 e4 = x := ⟨_, rfl⟩
      have c4 := HN.out q4 e4 hq4
      have hq5 := (good_int.place S q4 e4 hq4).2
      simp only [h4] at c4 hq5
      replace c4 := Lib.hid c4
      replace h4 := Lib.hid h4
      obtain ⟨⟨x5, q6, e6⟩, h5⟩ : ∃ x, intR S q5 e5 = x := ⟨_, rfl⟩
      have c5 := HN.out q5 e5 hq5
      have hq6 := (good_int.place S q5 e5 hq5).2
      simp only [h5] at c5 hq6
      replace c5 := Lib.hid c5
      replace h5 := Lib.hid h5
      obtain ⟨⟨x6, q7, e7⟩, h6⟩ : ∃ x, intR S q6 e6 = x := ⟨_, rfl⟩
      have c6 := HN.out q6 e6 hq6
      have hq7 := (good_int.place S q6 e6 hq6).2
      simp only [h6] at c6 hq7
      replace c6 := Lib.hid c6
      replace h6 := Lib.hid h6
      obtain ⟨⟨x7, q8, e8⟩, h7⟩ : ∃ x, intR S q7 e7 = x := ⟨_, rfl⟩
      have c7 := HN.out q7 e7 hq7
      have hq8 := (good_int.place S q7 e7 hq7).2
      simp only [h7] at c7 hq8
      replace c7 := Lib.hid c7
      replace h7 := Lib.hid h7
      obtain ⟨⟨x8, q9, e9⟩, h8⟩ : ∃ x, intR S q8 e8 = x := ⟨_, rfl⟩
      have c8 := HN.out q8 e8 hq8
      have hq9 := (good_int.place S q8 e8 hq8).2
      simp only [h8] at c8 hq9
      replace c8 := Lib.hid c8
      replace h8 := Lib.hid h8
      have hgw : g < wr.heap.size := HD.out.i.lt
      have hbw : w.heap.size < wr.heap.size := blk_lt HD.out.x
      go_wp2
      refine start_ (ds := ([] : List Nat)) (n := 30) (S := fun w' => w'.cell? ⟨w.heap.size, 0, none⟩ = some (.pointer (some ⟨g, 0, none⟩))) #[false, false, false, false, false, false, false, false, false, false, false, false, false, false, false, false, false, false, false, false, false, false, false, false, false, false, false, false, false, false] (by kernel_rfl) (by rfl) (by rfl) (blk_cell (blk_drew HD.out.x) 0) (fun hHeld => ?_)
      replace HD := Lib.hid (Dec.drew HD.out)
      have hgw2 : g < wr.drew.heap.size := hgw
      have hbw2 : w.heap.size < wr.drew.heap.size := hbw
      clear hgw hbw
      generalize wr.drew = w5 at HD hHeld hgw2 hbw2 ⊢
      have hsz : w5.heap.size ≤ w5.heap.size := Nat.le_refl _
      refine pure_ (i := 0) (N := some 10) (v := ?_) (a' := ?_) #[true, false, false, false, false, false, false, false, false, false, false, false, false, false, false, false, false, false, false, false, false, false, false, false, false, false, false, false, false, false] rfl rfl (by kernel_rfl) (fun _ _ _ h => h) (Or.inl ⟨by rfl, ?_⟩) ?_ ?_
      rotate_left
      · intro w'
        go_simp
        with_reducible rfl
      rotate_left
      · simp only [putAll, Act.put, List.setIfInBounds_toArray, List.set_cons_zero, List.set_cons_succ, i64_w, i32_w]
        rfl
      refine pure_ (i := 3) (N := some 13) (v := ?_) (a' := ?_) #[true, false, false, true, false, false, false, false, false, false, false, false, false, false, false, false, false, false, false, false, false, false, false, false, false, false, false, false, false, false] rfl rfl (by kernel_rfl) (fun _ _ _ h => h) (Or.inl ⟨by rfl, ?_⟩) ?_ ?_
      rotate_left
      · intro w'
        go_simp
        with_reducible rfl
      rotate_left
      · simp only [putAll, Act.put, List.setIfInBounds_toArray, List.set_cons_zero, List.set_cons_succ, i64_w, i32_w]
        rfl
      refine pure_ (i := 6) (N := some 16) (v := ?_) (a' := ?_) #[true, false, false, true, false, false, true, false, false, false, false, false, false, false, false, false, false, false, false, false, false, false, false, false, false, false, false, false, false, false] rfl rfl (by kernel_rfl) (fun _ _ _ h => h) (Or.inl ⟨by rfl, ?_⟩) ?_ ?_
      rotate_left
      · intro w'
        go_simp
        with_reducible rfl
      rotate_left
      · simp only [putAll, Act.put, List.setIfInBounds_toArray, List.set_cons_zero, List.set_cons_succ, i64_w, i32_w]
        rfl
      refine pure_ (i := 9) (N := some 19) (v := ?_) (a' := ?_) #[true, false, false, true, false, false, true, false, false, true, false, false, false, false, false, false, false, false, false, false, false, false, false, false, false, false, false, false, false, false] rfl rfl (by kernel_rfl) (fun _ _ _ h => h) (Or.inl ⟨by rfl, ?_⟩) ?_ ?_
      rotate_left
      · intro w'
        go_simp
        with_reducible rfl
      rotate_left
      · simp only [putAll, Act.put, List.setIfInBounds_toArray, List.set_cons_zero, List.set_cons_succ, i64_w, i32_w]
        rfl
      refine pure_ (i := 12) (N := some 22) (v := ?_) (a' := ?_) #[true, false, false, true, false, false, true, false, false, true, false, false, true, false, false, false, false, false, false, false, false, false, false, false, false, false, false, false, false, false] rfl rfl (by kernel_rfl) (fun _ _ _ h => h) (Or.inl ⟨by rfl, ?_⟩) ?_ ?_
      rotate_left
      · intro w'
        go_simp
        with_reducible rfl
      rotate_left
      · simp only [putAll, Act.put, List.setIfInBounds_toArray, List.set_cons_zero, List.set_cons_succ, i64_w, i32_w]
        rfl
      refine pure_ (i := 15) (N := some 25) (v := ?_) (a' := ?_) #[true, false, false, true, false, false, true, false, false, true, false, false, true, false, false, true, false, false, false, false, false, false, false, false, false, false, false, false, false, false] rfl rfl (by kernel_rfl) (fun _ _ _ h => h) (Or.inl ⟨by rfl, ?_⟩) ?_ ?_
      rotate_left
      · intro w'
        go_simp
        with_reducible rfl
      rotate_left
      · simp only [putAll, Act.put, List.setIfInBounds_toArray, List.set_cons_zero, List.set_cons_succ, i64_w, i32_w]
        rfl
      refine pure_ (i := 18) (N := some 28) (v := ?_) (a' := ?_) #[true, false, false, true, false, false, true, false, false, true, false, false, true, false, false, true, false, false, true, false, false, false, false, false, false, false, false, false, false, false] rfl rfl (by kernel_rfl) (fun _ _ _ h => h) (Or.inl ⟨by rfl, ?_⟩) ?_ ?_
      rotate_left
      · intro w'
        go_simp
        with_reducible rfl
      rotate_left
      · simp only [putAll, Act.put, List.setIfInBounds_toArray, List.set_cons_zero, List.set_cons_succ, i64_w, i32_w]
        rfl
      refine pure_ (i := 21) (N := some 31) (v := ?_) (a' := ?_) #[true, false, false, true, false, false, true, false, false, true, false, false, true, false, false, true, false, false, true, false, false, true, false, false, false, false, false, false, false, false] rfl rfl (by kernel_rfl) (fun _ _ _ h => h) (Or.inl ⟨by rfl, ?_⟩) ?_ ?_
      rotate_left
      · intro w'
        go_simp
        with_reducible rfl
      rotate_left
      · simp only [putAll, Act.put, List.setIfInBounds_toArray, List.set_cons_zero, List.set_cons_succ, i64_w, i32_w]
        rfl
      refine pure_ (i := 24) (N := some 34) (v := ?_) (a' := ?_) #[true, false, false, true, false, false, true, false, false, true, false, false, true, false, false, true, false, false, true, false, false, true, false, false, true, false, false, false, false, false] rfl rfl (by kernel_rfl) (fun _ _ _ h => h) (Or.inl ⟨by rfl, ?_⟩) ?_ ?_
      rotate_left
      · intro w'
        go_simp
        with_reducible rfl
      rotate_left
      · simp only [putAll, Act.put, List.setIfInBounds_toArray, List.set_cons_zero, List.set_cons_succ, i64_w, i32_w]
        rfl
      refine take_ (i := 1) (N := some 11) (v := ?_) (a' := ?_) #[true, true, false, true, false, false, true, false, false, true, false, false, true, false, false, true, false, false, true, false, false, true, false, false, true, false, false, false, false, false] rfl rfl (by kernel_rfl) (fun _ _ _ h => h) (Or.inl ⟨by rfl, ?_⟩) hHeld ?_ ?_
      rotate_left
      · rintro w' s0
        go_simp
        first | (with_reducible rfl) | (simp only [s0]; rfl)
      rotate_left
      · simp only [putAll, Act.put, List.setIfInBounds_toArray, List.set_cons_zero, List.set_cons_succ, i64_w, i32_w]
        rfl
      refine take_ (i := 4) (N := some 14) (v := ?_) (a' := ?_) #[true, true, false, true, true, false, true, false, false, true, false, false, true, false, false, true, false, false, true, false, false, true, false, false, true, false, false, false, false, false] rfl rfl (by kernel_rfl) (fun _ _ _ h => h) (Or.inl ⟨by rfl, ?_⟩) hHeld ?_ ?_
      rotate_left
      · rintro w' s0
        go_simp
        first | (with_reducible rfl) | (simp only [s0]; rfl)
      rotate_left
      · simp only [putAll, Act.put, List.setIfInBounds_toArray, List.set_cons_zero, List.set_cons_succ, i64_w, i32_w]
        rfl
      refine take_ (i := 7) (N := some 17) (v := ?_) (a' := ?_) #[true, true, false, true, true, false, true, true, false, true, false, false, true, false, false, true, false, false, true, false, false, true, false, false, true, false, false, false, false, false] rfl rfl (by kernel_rfl) (fun _ _ _ h => h) (Or.inl ⟨by rfl, ?_⟩) hHeld ?_ ?_
      rotate_left
      · rintro w' s0
        go_simp
        first | (with_reducible rfl) | (simp only [s0]; rfl)
      rotate_left
      · simp only [putAll, Act.put, List.setIfInBounds_toArray, List.set_cons_zero, List.set_cons_succ, i64_w, i32_w]
        rfl
      refine take_ (i := 10) (N := some 20) (v := ?_) (a' := ?_) #[true, true, false, true, true, false, true, true, false, true, true, false, true, false, false, true, false, false, true, false, false, true, false, false, true, false, false, false, false, false] rfl rfl (by kernel_rfl) (fun _ _ _ h => h) (Or.inl ⟨by rfl, ?_⟩) hHeld ?_ ?_
      rotate_left
      · rintro w' s0
        go_simp
        first | (with_reducible rfl) | (simp only [s0]; rfl)
      rotate_left
      · simp only [putAll, Act.put, List.setIfInBounds_toArray, List.set_cons_zero, List.set_cons_succ, i64_w, i32_w]
        rfl
      refine take_ (i := 13) (N := some 23) (v := ?_) (a' := ?_) #[true, true, false, true, true, false, true, true, false, true, true, false, true, true, false, true, false, false, true, false, false, true, false, false, true, false, false, false, false, false] rfl rfl (by kernel_rfl) (fun _ _ _ h => h) (Or.inl ⟨by rfl, ?_⟩) hHeld ?_ ?_
      rotate_left
      · rintro w' s0
        go_simp
        first | (with_reducible rfl) | (simp only [s0]; rfl)
      rotate_left
      · simp only [putAll, Act.put, List.setIfInBounds_toArray, List.set_cons_zero, List.set_cons_succ, i64_w, i32_w]
        rfl
      refine take_ (i := 16) (N := some 26) (v := ?_) (a' := ?_) #[true, true, false, true, true, false, true, true, false, true, true, false, true, true, false, true, true, false, true, false, false, true, false, false, true, false, false, false, false, false] rfl rfl (by kernel_rfl) (fun _ _ _ h => h) (Or.inl ⟨by rfl, ?_⟩) hHeld ?_ ?_
      rotate_left
      · rintro w' s0
        go_simp
        first | (with_reducible rfl) | (simp only [s0]; rfl)
      rotate_left
      · simp only [putAll, Act.put, List.setIfInBounds_toArray, List.set_cons_zero, List.set_cons_succ, i64_w, i32_w]
        rfl
      refine take_ (i := 19) (N := some 29) (v := ?_) (a' := ?_) #[true, true, false, true, true, false, true, true, false, true, true, false, true, true, false, true, true, false, true, true, false, true, false, false, true, false, false, false, false, false] rfl rfl (by kernel_rfl) (fun _ _ _ h => h) (Or.inl ⟨by rfl, ?_⟩) hHeld ?_ ?_
      rotate_left
      · rintro w' s0
        go_simp
        first | (with_reducible rfl) | (simp only [s0]; rfl)
      rotate_left
      · simp only [putAll, Act.put, List.setIfInBounds_toArray, List.set_cons_zero, List.set_cons_succ, i64_w, i32_w]
        rfl
      refine take_ (i := 22) (N := some 32) (v := ?_) (a' := ?_) #[true, true, false, true, true, false, true, true, false, true, true, false, true, true, false, true, true, false, true, true, false, true, true, false, true, false, false, false, false, false] rfl rfl (by kernel_rfl) (fun _ _ _ h => h) (Or.inl ⟨by rfl, ?_⟩) hHeld ?_ ?_
      rotate_left
      · rintro w' s0
        go_simp
        first | (with_reducible rfl) | (simp only [s0]; rfl)
      rotate_left
      · simp only [putAll, Act.put, List.setIfInBounds_toArray, List.set_cons_zero, List.set_cons_succ, i64_w, i32_w]
        rfl
      refine take_ (i := 25) (N := some 35) (v := ?_) (a' := ?_) #[true, true, false, true, true, false, true, true, false, true, true, false, true, true, false, true, true, false, true, true, false, true, true, false, true, true, false, false, false, false] rfl rfl (by kernel_rfl) (fun _ _ _ h => h) (Or.inl ⟨by rfl, ?_⟩) hHeld ?_ ?_
      rotate_left
      · rintro w' s0
        go_simp
        first | (with_reducible rfl) | (simp only [s0]; rfl)
      rotate_left
      · simp only [putAll, Act.put, List.setIfInBounds_toArray, List.set_cons_zero, List.set_cons_succ, i64_w, i32_w]
        rfl
      refine join_ 1 #[true, true, true, true, true, true, true, true, true, true, true, true, true, true, true, true, true, true, true, true, true, true, true, true, true, true, true, true, true, false] (fun b : Nat => [(12, .int .i64 x0), (15, .int .i64 x1), (18, .int .i64 x2), (21, .int .i64 x3), (24, .int .i64 x4), (27, .int .i64 x5), (30, .int .i64 x6), (33, .int .i64 x7), (36, .int .i64 x8), (37, .agg #[.int .i64 x0, .int .i64 x1, .int .i64 x2, .int .i64 x3, .int .i64 x4, .int .i64 x5, .int .i64 x6, .int .i64 x7, .slice none 0 0, .int .i64 x8, .bool false]), (4, .pointer (some ⟨b, 0, none⟩))]) (fun b W' => Dec k117 117 w0 w W' g ⟨S.toArray⟩ q9 e9 w.heap.size (fun k => k ≠ b) u3 xs ∧ W'.heap[b]? = some (.cells #[.int .i64 0, .int .i64 0, .int .i64 0, .int .i64 0, .int .i64 0, .int .i64 0, .int .i64 0, .int .i64 0, .slice none 0 0, .int .i64 0, .bool false] 117 (0, 0)) ∧ w5.heap.size ≤ b) (fun b W' hF => ?_) (fun hA9 => ?_)
      rotate_left
      · -- the orders
        refine join_ 3 #[true, true, true, true, true, true, true, true, true, true, true, true, true, true, true, true, true, true, true, true, true, true, true, true, true, true, false, false, true, false] (fun b : Nat => [(12, .int .i64 x0), (15, .int .i64 x1), (18, .int .i64 x2), (21, .int .i64 x3), (24, .int .i64 x4), (27, .int .i64 x5), (30, .int .i64 x6), (33, .int .i64 x7), (4, .pointer (some ⟨b, 0, none⟩))]) (fun b W' => Dec k117 117 w0 w W' g ⟨S.toArray⟩ q8 e8 w.heap.size (fun k => k ≠ b) u3 xs ∧ W'.heap[b]? = some (.cells #[.int .i64 0, .int .i64 0, .int .i64 0, .int .i64 0, .int .i64 0, .int .i64 0, .int .i64 0, .int .i64 0, .slice none 0 0, .int .i64 0, .bool false] 117 (0, 0)) ∧ w5.heap.size ≤ b) (fun b W' hF => ?_) (fun hA8 => ?_)
        · obtain ⟨hd, hm, hb0⟩ := hF
          have HD := Lib.hid hd
          have HM := Lib.hid hm
          clear hd hm
          have hbg : b ≠ g := by omega
          refine norm_ (a' := ?_) ?_ ?_
          rotate_left
          · simp only [putAll, Act.put, List.setIfInBounds_toArray, List.set_cons_zero, List.set_cons_succ, i64_w, i32_w]
            rfl
          refine one_ (i := 26) (N := some 36) #[true, true, true, true, true, true, true, true, true, true, true, true, true, true, true, true, true, true, true, true, true, true, true, true, true, true, true, false, true, false] rfl rfl (by kernel_rfl) (by decide) (fun K hK => ?_)
          refine goes_ Try.func24 (by kernel_rfl) rfl #[.pointer (some ⟨g, 0, none⟩)] (by rfl) rfl rfl (by first | rfl | (simp only [List.map_toArray, List.map_cons, List.map_nil]; rfl)) ?_
          refine (c8.out _ HD.out.i HD.out.b).mono ?_
          rintro en w' ⟨rfl, hi, hb, hk⟩
          refine ⟨_, rfl, ?_⟩
          replace HM := Lib.hid ((hk.2 _ (blk_lt HM.out) hbg (by simp)).trans HM.out)
          replace HD := Lib.hid (HD.out.call (by decide) hbbg hi hb hk)
          clear hi hb hk
          refine hK.out _ _ (blk_cell HD.out.x 0) (fun hHeld => ?_)
          clear hK K
          refine norm_ (a' := ?_) ?_ ?_
          rotate_left
          · show Act.put _ (some 36) _ = _
            simp only [putAll, Act.put, List.setIfInBounds_toArray, List.set_cons_zero, List.set_cons_succ, i64_w, i32_w]
            rfl
          refine pure_ (i := 27) (N := some 37) (v := ?_) (a' := ?_) #[true, true, true, true, true, true, true, true, true, true, true, true, true, true, true, true, true, true, true, true, true, true, true, true, true, true, true, true, true, false] rfl rfl (by kernel_rfl) (fun _ _ _ h => h) (Or.inl ⟨by rfl, ?_⟩) ?_ ?_
          rotate_left
          · intro w'
            go_simp
            with_reducible rfl
          rotate_left
          · simp only [putAll, Act.put, List.setIfInBounds_toArray, List.set_cons_zero, List.set_cons_succ, i64_w, i32_w]
            rfl
          refine norm_ ?_ (hA9 b _ ⟨HD.out, HM.out, hb0⟩)
          simp only [putAll, Act.put, List.setIfInBounds_toArray, List.set_cons_zero, List.set_cons_succ, i64_w, i32_w]
        refine join_ 4 #[true, true, true, true, true, true, true, true, true, true, true, true, true, true, true, true, true, true, true, true, true, true, true, false, true, true, false, false, true, false] (fun b : Nat => [(12, .int .i64 x0), (15, .int .i64 x1), (18, .int .i64 x2), (21, .int .i64 x3), (24, .int .i64 x4), (27, .int .i64 x5), (30, .int .i64 x6), (4, .pointer (some ⟨b, 0, none⟩))]) (fun b W' => Dec k117 117 w0 w W' g ⟨S.toArray⟩ q7 e7 w.heap.size (fun k => k ≠ b) u3 xs ∧ W'.heap[b]? = some (.cells #[.int .i64 0, .int .i64 0, .int .i64 0, .int .i64 0, .int .i64 0, .int .i64 0, .int .i64 0, .int .i64 0, .slice none 0 0, .int .i64 0, .bool false] 117 (0, 0)) ∧ w5.heap.size ≤ b) (fun b W' hF => ?_) (fun hA7 => ?_)
        · obtain ⟨hd, hm, hb0⟩ := hF
          have HD := Lib.hid hd
          have HM := Lib.hid hm
          clear hd hm
          have hbg : b ≠ g := by omega
          refine norm_ (a' := ?_) ?_ ?_
          rotate_left
          · simp only [putAll, Act.put, List.setIfInBounds_toArray, List.set_cons_zero, List.set_cons_succ, i64_w, i32_w]
            rfl
          refine one_ (i := 23) (N := some 33) #[true, true, true, true, true, true, true, true, true, true, true, true, true, true, true, true, true, true, true, true, true, true, true, true, true, true, false, false, true, false] rfl rfl (by kernel_rfl) (by decide) (fun K hK => ?_)
          refine goes_ Try.func24 (by kernel_rfl) rfl #[.pointer (some ⟨g, 0, none⟩)] (by rfl) rfl rfl (by first | rfl | (simp only [List.map_toArray, List.map_cons, List.map_nil]; rfl)) ?_
          refine (c7.out _ HD.out.i HD.out.b).mono ?_
          rintro en w' ⟨rfl, hi, hb, hk⟩
          refine ⟨_, rfl, ?_⟩
          replace HM := Lib.hid ((hk.2 _ (blk_lt HM.out) hbg (by simp)).trans HM.out)
          replace HD := Lib.hid (HD.out.call (by decide) hbbg hi hb hk)
          clear hi hb hk
          refine hK.out _ _ (blk_cell HD.out.x 0) (fun hHeld => ?_)
          clear hK K
          refine norm_ ?_ (hA8 b _ ⟨HD.out, HM.out, hb0⟩)
          simp only [putAll, Act.put, List.setIfInBounds_toArray, List.set_cons_zero, List.set_cons_succ, i64_w, i32_w]
        refine join_ 5 #[true, true, true, true, true, true, true, true, true, true, true, true, true, true, true, true, true, true, true, true, false, true, true, false, true, true, false, false, true, false] (fun b : Nat => [(12, .int .i64 x0), (15, .int .i64 x1), (18, .int .i64 x2), (21, .int .i64 x3), (24, .int .i64 x4), (27, .int .i64 x5), (4, .pointer (some ⟨b, 0, none⟩))]) (fun b W' => Dec k117 117 w0 w W' g ⟨S.toArray⟩ q6 e6 w.heap.size (fun k => k ≠ b) u3 xs ∧ W'.heap[b]? = some (.cells #[.int .i64 0, .int .i64 0, .int .i64 0, .int .i64 0, .int .i64 0, .int .i64 0, .int .i64 0, .int .i64 0, .slice none 0 0, .int .i64 0, .bool false] 117 (0, 0)) ∧ w5.heap.size ≤ b) (fun b W' hF => ?_) (fun hA6 => ?_)
        · obtain ⟨hd, hm, hb0⟩ := hF
          have HD := Lib.hid hd
          have HM := Lib.hid hm
          clear hd hm
          have hbg : b ≠ g := by omega
          refine norm_ (a' := ?_) ?_ ?_
          rotate_left
          · simp only [putAll, Act.put, List.setIfInBounds_toArray, List.set_cons_zero, List.set_cons_succ, i64_w, i32_w]
            rfl
          refine one_ (i := 20) (N := some 30) #[true, true, true, true, true, true, true, true, true, true, true, true, true, true, true, true, true, true, true, true, true, true, true, false, true, true, false, false, true, false] rfl rfl (by kernel_rfl) (by decide) (fun K hK => ?_)
          refine goes_ Try.func24 (by kernel_rfl) rfl #[.pointer (some ⟨g, 0, none⟩)] (by rfl) rfl rfl (by first | rfl | (simp only [List.map_toArray, List.map_cons, List.map_nil]; rfl)) ?_
          refine (c6.out _ HD.out.i HD.out.b).mono ?_
          rintro en w' ⟨rfl, hi, hb, hk⟩
          refine ⟨_, rfl, ?_⟩
          replace HM := Lib.hid ((hk.2 _ (blk_lt HM.out) hbg (by simp)).trans HM.out)
          replace HD := Lib.hid (HD.out.call (by decide) hbbg hi hb hk)
          clear hi hb hk
          refine hK.out _ _ (blk_cell HD.out.x 0) (fun hHeld => ?_)
          clear hK K
          refine norm_ ?_ (hA7 b _ ⟨HD.out, HM.out, hb0⟩)
          simp only [putAll, Act.put, List.setIfInBounds_toArray, List.set_cons_zero, List.set_cons_succ, i64_w, i32_w]
        refine join_ 6 #[true, true, true, true, true, true, true, true, true, true, true, true, true, true, true, true, true, false, true, true, false, true, true, false, true, true, false, false, true, false] (fun b : Nat => [(12, .int .i64 x0), (15, .int .i64 x1), (18, .int .i64 x2), (21, .int .i64 x3), (24, .int .i64 x4), (4, .pointer (some ⟨b, 0, none⟩))]) (fun b W' => Dec k117 117 w0 w W' g ⟨S.toArray⟩ q5 e5 w.heap.size (fun k => k ≠ b) u3 xs ∧ W'.heap[b]? = some (.cells #[.int .i64 0, .int .i64 0, .int .i64 0, .int .i64 0, .int .i64 0, .int .i64 0, .int .i64 0, .int .i64 0, .slice none 0 0, .int .i64 0, .bool false] 117 (0, 0)) ∧ w5.heap.size ≤ b) (fun b W' hF => ?_) (fun hA5 => ?_)
        · obtain ⟨hd, hm, hb0⟩ := hF
          have HD := Lib.hid hd
          have HM := Lib.hid hm
          clear hd hm
          have hbg : b ≠ g := by omega
          refine norm_ (a' := ?_) ?_ ?_
          rotate_left
          · simp only [putAll, Act.put, List.setIfInBounds_toArray, List.set_cons_zero, List.set_cons_succ, i64_w, i32_w]
            rfl
          refine one_ (i := 17) (N := some 27) #[true, true, true, true, true, true, true, true, true, true, true, true, true, true, true, true, true, true, true, true, false, true, true, false, true, true, false, false, true, false] rfl rfl (by kernel_rfl) (by decide) (fun K hK => ?_)
          refine goes_ Try.func24 (by kernel_rfl) rfl #[.pointer (some ⟨g, 0, none⟩)] (by rfl) rfl rfl (by first | rfl | (simp only [List.map_toArray, List.map_cons, List.map_nil]; rfl)) ?_
          refine (c5.out _ HD.out.i HD.out.b).mono ?_
          rintro en w' ⟨rfl, hi, hb, hk⟩
          refine ⟨_, rfl, ?_⟩
          replace HM := Lib.hid ((hk.2 _ (blk_lt HM.out) hbg (by simp)).trans HM.out)
          replace HD := Lib.hid (HD.out.call (by decide) hbbg hi hb hk)
          clear hi hb hk
          refine hK.out _ _ (blk_cell HD.out.x 0) (fun hHeld => ?_)
          clear hK K
          refine norm_ ?_ (hA6 b _ ⟨HD.out, HM.out, hb0⟩)
          simp only [putAll, Act.put, List.setIfInBounds_toArray, List.set_cons_zero, List.set_cons_succ, i64_w, i32_w]
        refine join_ 7 #[true, true, true, true, true, true, true, true, true, true, true, true, true, true, false, true, true, false, true, true, false, true, true, false, true, true, false, false, true, false] (fun b : Nat => [(12, .int .i64 x0), (15, .int .i64 x1), (18, .int .i64 x2), (21, .int .i64 x3), (4, .pointer (some ⟨b, 0, none⟩))]) (fun b W' => Dec k117 117 w0 w W' g ⟨S.toArray⟩ q4 e4 w.heap.size (fun k => k ≠ b) u3 xs ∧ W'.heap[b]? = some (.cells #[.int .i64 0, .int .i64 0, .int .i64 0, .int .i64 0, .int .i64 0, .int .i64 0, .int .i64 0, .int .i64 0, .slice none 0 0, .int .i64 0, .bool false] 117 (0, 0)) ∧ w5.heap.size ≤ b) (fun b W' hF => ?_) (fun hA4 => ?_)
        · obtain ⟨hd, hm, hb0⟩ := hF
          have HD := Lib.hid hd
          have HM := Lib.hid hm
          clear hd hm
          have hbg : b ≠ g := by omega
          refine norm_ (a' := ?_) ?_ ?_
          rotate_left
          · simp only [putAll, Act.put, List.setIfInBounds_toArray, List.set_cons_zero, List.set_cons_succ, i64_w, i32_w]
            rfl
          refine one_ (i := 14) (N := some 24) #[true, true, true, true, true, true, true, true, true, true, true, true, true, true, true, true, true, false, true, true, false, true, true, false, true, true, false, false, true, false] rfl rfl (by kernel_rfl) (by decide) (fun K hK => ?_)
          refine goes_ Try.func24 (by kernel_rfl) rfl #[.pointer (some ⟨g, 0, none⟩)] (by rfl) rfl rfl (by first | rfl | (simp only [List.map_toArray, List.map_cons, List.map_nil]; rfl)) ?_
          refine (c4.out _ HD.out.i HD.out.b).mono ?_
          rintro en w' ⟨rfl, hi, hb, hk⟩
          refine ⟨_, rfl, ?_⟩
          replace HM := Lib.hid ((hk.2 _ (blk_lt HM.out) hbg (by simp)).trans HM.out)
          replace HD := Lib.hid (HD.out.call (by decide) hbbg hi hb hk)
          clear hi hb hk
          refine hK.out _ _ (blk_cell HD.out.x 0) (fun hHeld => ?_)
          clear hK K
          refine norm_ ?_ (hA5 b _ ⟨HD.out, HM.out, hb0⟩)
          simp only [putAll, Act.put, List.setIfInBounds_toArray, List.set_cons_zero, List.set_cons_succ, i64_w, i32_w]
        refine join_ 8 #[true, true, true, true, true, true, true, true, true, true, true, false, true, true, false, true, true, false, true, true, false, true, true, false, true, true, false, false, true, false] (fun b : Nat => [(12, .int .i64 x0), (15, .int .i64 x1), (18, .int .i64 x2), (4, .pointer (some ⟨b, 0, none⟩))]) (fun b W' => Dec k117 117 w0 w W' g ⟨S.toArray⟩ q3 e3 w.heap.size (fun k => k ≠ b) u3 xs ∧ W'.heap[b]? = some (.cells #[.int .i64 0, .int .i64 0, .int .i64 0, .int .i64 0, .int .i64 0, .int .i64 0, .int .i64 0, .int .i64 0, .slice none 0 0, .int .i64 0, .bool false] 117 (0, 0)) ∧ w5.heap.size ≤ b) (fun b W' hF => ?_) (fun hA3 => ?_)
        · obtain ⟨hd, hm, hb0⟩ := hF
          have HD := Lib.hid hd
          have HM := Lib.hid hm
          clear hd hm
          have hbg : b ≠ g := by omega
          refine norm_ (a' := ?_) ?_ ?_
          rotate_left
          · simp only [putAll, Act.put, List.setIfInBounds_toArray, List.set_cons_zero, List.set_cons_succ, i64_w, i32_w]
            rfl
          refine one_ (i := 11) (N := some 21) #[true, true, true, true, true, true, true, true, true, true, true, true, true, true, false, true, true, false, true, true, false, true, true, false, true, true, false, false, true, false] rfl rfl (by kernel_rfl) (by decide) (fun K hK => ?_)
          refine goes_ Try.func24 (by kernel_rfl) rfl #[.pointer (some ⟨g, 0, none⟩)] (by rfl) rfl rfl (by first | rfl | (simp only [List.map_toArray, List.map_cons, List.map_nil]; rfl)) ?_
          refine (c3.out _ HD.out.i HD.out.b).mono ?_
          rintro en w' ⟨rfl, hi, hb, hk⟩
          refine ⟨_, rfl, ?_⟩
          replace HM := Lib.hid ((hk.2 _ (blk_lt HM.out) hbg (by simp)).trans HM.out)
          replace HD := Lib.hid (HD.out.call (by decide) hbbg hi hb hk)
          clear hi hb hk
          refine hK.out _ _ (blk_cell HD.out.x 0) (fun hHeld => ?_)
          clear hK K
          refine norm_ ?_ (hA4 b _ ⟨HD.out, HM.out, hb0⟩)
          simp only [putAll, Act.put, List.setIfInBounds_toArray, List.set_cons_zero, List.set_cons_succ, i64_w, i32_w]
        refine join_ 9 #[true, true, true, true, true, true, true, true, false, true, true, false, true, true, false, true, true, false, true, true, false, true, true, false, true, true, false, false, true, false] (fun b : Nat => [(12, .int .i64 x0), (15, .int .i64 x1), (4, .pointer (some ⟨b, 0, none⟩))]) (fun b W' => Dec k117 117 w0 w W' g ⟨S.toArray⟩ q2 e2 w.heap.size (fun k => k ≠ b) u3 xs ∧ W'.heap[b]? = some (.cells #[.int .i64 0, .int .i64 0, .int .i64 0, .int .i64 0, .int .i64 0, .int .i64 0, .int .i64 0, .int .i64 0, .slice none 0 0, .int .i64 0, .bool false] 117 (0, 0)) ∧ w5.heap.size ≤ b) (fun b W' hF => ?_) (fun hA2 => ?_)
        · obtain ⟨hd, hm, hb0⟩ := hF
          have HD := Lib.hid hd
          have HM := Lib.hid hm
          clear hd hm
          have hbg : b ≠ g := by omega
          refine norm_ (a' := ?_) ?_ ?_
          rotate_left
          · simp only [putAll, Act.put, List.setIfInBounds_toArray, List.set_cons_zero, List.set_cons_succ, i64_w, i32_w]
            rfl
          refine one_ (i := 8) (N := some 18) #[true, true, true, true, true, true, true, true, true, true, true, false, true, true, false, true, true, false, true, true, false, true, true, false, true, true, false, false, true, false] rfl rfl (by kernel_rfl) (by decide) (fun K hK => ?_)
          refine goes_ Try.func24 (by kernel_rfl) rfl #[.pointer (some ⟨g, 0, none⟩)] (by rfl) rfl rfl (by first | rfl | (simp only [List.map_toArray, List.map_cons, List.map_nil]; rfl)) ?_
          refine (c2.out _ HD.out.i HD.out.b).mono ?_
          rintro en w' ⟨rfl, hi, hb, hk⟩
          refine ⟨_, rfl, ?_⟩
          replace HM := Lib.hid ((hk.2 _ (blk_lt HM.out) hbg (by simp)).trans HM.out)
          replace HD := Lib.hid (HD.out.call (by decide) hbbg hi hb hk)
          clear hi hb hk
          refine hK.out _ _ (blk_cell HD.out.x 0) (fun hHeld => ?_)
          clear hK K
          refine norm_ ?_ (hA3 b _ ⟨HD.out, HM.out, hb0⟩)
          simp only [putAll, Act.put, List.setIfInBounds_toArray, List.set_cons_zero, List.set_cons_succ, i64_w, i32_w]
        refine join_ 10 #[true, true, true, true, true, false, true, true, false, true, true, false, true, true, false, true, true, false, true, true, false, true, true, false, true, true, false, false, true, false] (fun b : Nat => [(12, .int .i64 x0), (4, .pointer (some ⟨b, 0, none⟩))]) (fun b W' => Dec k117 117 w0 w W' g ⟨S.toArray⟩ q1 e1 w.heap.size (fun k => k ≠ b) u3 xs ∧ W'.heap[b]? = some (.cells #[.int .i64 0, .int .i64 0, .int .i64 0, .int .i64 0, .int .i64 0, .int .i64 0, .int .i64 0, .int .i64 0, .slice none 0 0, .int .i64 0, .bool false] 117 (0, 0)) ∧ w5.heap.size ≤ b) (fun b W' hF => ?_) (fun hA1 => ?_)
        · obtain ⟨hd, hm, hb0⟩ := hF
          have HD := Lib.hid hd
          have HM := Lib.hid hm
          clear hd hm
          have hbg : b ≠ g := by omega
          refine norm_ (a' := ?_) ?_ ?_
          rotate_left
          · simp only [putAll, Act.put, List.setIfInBounds_toArray, List.set_cons_zero, List.set_cons_succ, i64_w, i32_w]
            rfl
          refine one_ (i := 5) (N := some 15) #[true, true, true, true, true, true, true, true, false, true, true, false, true, true, false, true, true, false, true, true, false, true, true, false, true, true, false, false, true, false] rfl rfl (by kernel_rfl) (by decide) (fun K hK => ?_)
          refine goes_ Try.func24 (by kernel_rfl) rfl #[.pointer (some ⟨g, 0, none⟩)] (by rfl) rfl rfl (by first | rfl | (simp only [List.map_toArray, List.map_cons, List.map_nil]; rfl)) ?_
          refine (c1.out _ HD.out.i HD.out.b).mono ?_
          rintro en w' ⟨rfl, hi, hb, hk⟩
          refine ⟨_, rfl, ?_⟩
          replace HM := Lib.hid ((hk.2 _ (blk_lt HM.out) hbg (by simp)).trans HM.out)
          replace HD := Lib.hid (HD.out.call (by decide) hbbg hi hb hk)
          clear hi hb hk
          refine hK.out _ _ (blk_cell HD.out.x 0) (fun hHeld => ?_)
          clear hK K
          refine norm_ ?_ (hA2 b _ ⟨HD.out, HM.out, hb0⟩)
          simp only [putAll, Act.put, List.setIfInBounds_toArray, List.set_cons_zero, List.set_cons_succ, i64_w, i32_w]
        refine join_ 11 #[true, true, false, true, true, false, true, true, false, true, true, false, true, true, false, true, true, false, true, true, false, true, true, false, true, true, false, false, true, false] (fun b : Nat => [(4, .pointer (some ⟨b, 0, none⟩))]) (fun b W' => Dec k117 117 w0 w W' g ⟨S.toArray⟩ q e' w.heap.size (fun k => k ≠ b) u3 xs ∧ W'.heap[b]? = some (.cells #[.int .i64 0, .int .i64 0, .int .i64 0, .int .i64 0, .int .i64 0, .int .i64 0, .int .i64 0, .int .i64 0, .slice none 0 0, .int .i64 0, .bool false] 117 (0, 0)) ∧ w5.heap.size ≤ b) (fun b W' hF => ?_) (fun hA0 => ?_)
        · obtain ⟨hd, hm, hb0⟩ := hF
          have HD := Lib.hid hd
          have HM := Lib.hid hm
          clear hd hm
          have hbg : b ≠ g := by omega
          refine norm_ (a' := ?_) ?_ ?_
          rotate_left
          · simp only [putAll, Act.put, List.setIfInBounds_toArray, List.set_cons_zero, List.set_cons_succ, i64_w, i32_w]
            rfl
          refine one_ (i := 2) (N := some 12) #[true, true, true, true, true, false, true, true, false, true, true, false, true, true, false, true, true, false, true, true, false, true, true, false, true, true, false, false, true, false] rfl rfl (by kernel_rfl) (by decide) (fun K hK => ?_)
          refine goes_ Try.func24 (by kernel_rfl) rfl #[.pointer (some ⟨g, 0, none⟩)] (by rfl) rfl rfl (by first | rfl | (simp only [List.map_toArray, List.map_cons, List.map_nil]; rfl)) ?_
          refine (c0.out _ HD.out.i HD.out.b).mono ?_
          rintro en w' ⟨rfl, hi, hb, hk⟩
          refine ⟨_, rfl, ?_⟩
          replace HM := Lib.hid ((hk.2 _ (blk_lt HM.out) hbg (by simp)).trans HM.out)
          replace HD := Lib.hid (HD.out.call (by decide) hbbg hi hb hk)
          clear hi hb hk
          refine hK.out _ _ (blk_cell HD.out.x 0) (fun hHeld => ?_)
          clear hK K
          refine norm_ ?_ (hA1 b _ ⟨HD.out, HM.out, hb0⟩)
          simp only [putAll, Act.put, List.setIfInBounds_toArray, List.set_cons_zero, List.set_cons_succ, i64_w, i32_w]
        refine two_ (i := 2) (j := 28) (Ni := some 12) (Nj := some 4) #[true, true, true, true, true, false, true, true, false, true, true, false, true, true, false, true, true, false, true, true, false, true, true, false, true, true, false, false, false, false] #[true, true, false, true, true, false, true, true, false, true, true, false, true, true, false, true, true, false, true, true, false, true, true, false, true, true, false, false, true, false] rfl rfl rfl rfl (by kernel_rfl) (by decide) (by decide) (fun K hK => ?_) (fun K hK => ?_)
        rotate_left
        · refine value_ (w1 := ?_) (v := ?_) (by rfl) rfl ?_ ?_
          rotate_left 2
          · go_simp
            constructor
            · rfl
            · rfl
          refine hK.out _ _ (blk_cell (blk_alloc HD.out.x _) 0) (fun _ => ?_)
          clear hK K
          refine norm_ ?_ (hA0 _ _ ⟨Dec.mono (HD.out.alloc _) (fun k hk => hk.1), blk_new _ _, hsz⟩)
          simp only [putAll, Act.put, List.setIfInBounds_toArray, List.set_cons_zero, List.set_cons_succ, i64_w, i32_w]
        refine goes_ Try.func24 (by kernel_rfl) rfl #[.pointer (some ⟨g, 0, none⟩)] (by rfl) rfl rfl (by first | rfl | (simp only [List.map_toArray, List.map_cons, List.map_nil]; rfl)) ?_
        refine (c0.out _ HD.out.i HD.out.b).mono ?_
        rintro en w' ⟨rfl, hi, hb, hk⟩
        refine ⟨_, rfl, ?_⟩
        replace HD := Lib.hid (HD.out.call (by decide) hbbg hi hb hk)
        replace hsz := Nat.le_trans hsz hk.1
        clear hi hb hk
        refine hK.out _ _ (blk_cell HD.out.x 0) (fun hHeld => ?_)
        clear hK K
        refine norm_ (a' := ?_) ?_ ?_
        rotate_left
        · show Act.put _ (some 12) _ = _
          simp only [putAll, Act.put, List.setIfInBounds_toArray, List.set_cons_zero, List.set_cons_succ, i64_w, i32_w]
          rfl
        refine two_ (i := 5) (j := 28) (Ni := some 15) (Nj := some 4) #[true, true, true, true, true, true, true, true, false, true, true, false, true, true, false, true, true, false, true, true, false, true, true, false, true, true, false, false, false, false] #[true, true, true, true, true, false, true, true, false, true, true, false, true, true, false, true, true, false, true, true, false, true, true, false, true, true, false, false, true, false] rfl rfl rfl rfl (by kernel_rfl) (by decide) (by decide) (fun K hK => ?_) (fun K hK => ?_)
        rotate_left
        · refine value_ (w1 := ?_) (v := ?_) (by rfl) rfl ?_ ?_
          rotate_left 2
          · go_simp
            constructor
            · rfl
            · rfl
          refine hK.out _ _ (blk_cell (blk_alloc HD.out.x _) 0) (fun _ => ?_)
          clear hK K
          refine norm_ ?_ (hA1 _ _ ⟨Dec.mono (HD.out.alloc _) (fun k hk => hk.1), blk_new _ _, hsz⟩)
          simp only [putAll, Act.put, List.setIfInBounds_toArray, List.set_cons_zero, List.set_cons_succ, i64_w, i32_w]
        refine goes_ Try.func24 (by kernel_rfl) rfl #[.pointer (some ⟨g, 0, none⟩)] (by rfl) rfl rfl (by first | rfl | (simp only [List.map_toArray, List.map_cons, List.map_nil]; rfl)) ?_
        refine (c1.out _ HD.out.i HD.out.b).mono ?_
        rintro en w' ⟨rfl, hi, hb, hk⟩
        refine ⟨_, rfl, ?_⟩
        replace HD := Lib.hid (HD.out.call (by decide) hbbg hi hb hk)
        replace hsz := Nat.le_trans hsz hk.1
        clear hi hb hk
        refine hK.out _ _ (blk_cell HD.out.x 0) (fun hHeld => ?_)
        clear hK K
        refine norm_ (a' := ?_) ?_ ?_
        rotate_left
        · show Act.put _ (some 15) _ = _
          simp only [putAll, Act.put, List.setIfInBounds_toArray, List.set_cons_zero, List.set_cons_succ, i64_w, i32_w]
          rfl
        refine two_ (i := 8) (j := 28) (Ni := some 18) (Nj := some 4) #[true, true, true, true, true, true, true, true, true, true, true, false, true, true, false, true, true, false, true, true, false, true, true, false, true, true, false, false, false, false] #[true, true, true, true, true, true, true, true, false, true, true, false, true, true, false, true, true, false, true, true, false, true, true, false, true, true, false, false, true, false] rfl rfl rfl rfl (by kernel_rfl) (by decide) (by decide) (fun K hK => ?_) (fun K hK => ?_)
        rotate_left
        · refine value_ (w1 := ?_) (v := ?_) (by rfl) rfl ?_ ?_
          rotate_left 2
          · go_simp
            constructor
            · rfl
            · rfl
          refine hK.out _ _ (blk_cell (blk_alloc HD.out.x _) 0) (fun _ => ?_)
          clear hK K
          refine norm_ ?_ (hA2 _ _ ⟨Dec.mono (HD.out.alloc _) (fun k hk => hk.1), blk_new _ _, hsz⟩)
          simp only [putAll, Act.put, List.setIfInBounds_toArray, List.set_cons_zero, List.set_cons_succ, i64_w, i32_w]
        refine goes_ Try.func24 (by kernel_rfl) rfl #[.pointer (some ⟨g, 0, none⟩)] (by rfl) rfl rfl (by first | rfl | (simp only [List.map_toArray, List.map_cons, List.map_nil]; rfl)) ?_
        refine (c2.out _ HD.out.i HD.out.b).mono ?_
        rintro en w' ⟨rfl, hi, hb, hk⟩
        refine ⟨_, rfl, ?_⟩
        replace HD := Lib.hid (HD.out.call (by decide) hbbg hi hb hk)
        replace hsz := Nat.le_trans hsz hk.1
        clear hi hb hk
        refine hK.out _ _ (blk_cell HD.out.x 0) (fun hHeld => ?_)
        clear hK K
        refine norm_ (a' := ?_) ?_ ?_
        rotate_left
        · show Act.put _ (some 18) _ = _
          simp only [putAll, Act.put, List.setIfInBounds_toArray, List.set_cons_zero, List.set_cons_succ, i64_w, i32_w]
          rfl
        refine two_ (i := 11) (j := 28) (Ni := some 21) (Nj := some 4) #[true, true, true, true, true, true, true, true, true, true, true, true, true, true, false, true, true, false, true, true, false, true, true, false, true, true, false, false, false, false] #[true, true, true, true, true, true, true, true, true, true, true, false, true, true, false, true, true, false, true, true, false, true, true, false, true, true, false, false, true, false] rfl rfl rfl rfl (by kernel_rfl) (by decide) (by decide) (fun K hK => ?_) (fun K hK => ?_)
        rotate_left
        · refine value_ (w1 := ?_) (v := ?_) (by rfl) rfl ?_ ?_
          rotate_left 2
          · go_simp
            constructor
            · rfl
            · rfl
          refine hK.out _ _ (blk_cell (blk_alloc HD.out.x _) 0) (fun _ => ?_)
          clear hK K
          refine norm_ ?_ (hA3 _ _ ⟨Dec.mono (HD.out.alloc _) (fun k hk => hk.1), blk_new _ _, hsz⟩)
          simp only [putAll, Act.put, List.setIfInBounds_toArray, List.set_cons_zero, List.set_cons_succ, i64_w, i32_w]
        refine goes_ Try.func24 (by kernel_rfl) rfl #[.pointer (some ⟨g, 0, none⟩)] (by rfl) rfl rfl (by first | rfl | (simp only [List.map_toArray, List.map_cons, List.map_nil]; rfl)) ?_
        refine (c3.out _ HD.out.i HD.out.b).mono ?_
        rintro en w' ⟨rfl, hi, hb, hk⟩
        refine ⟨_, rfl, ?_⟩
        replace HD := Lib.hid (HD.out.call (by decide) hbbg hi hb hk)
        replace hsz := Nat.le_trans hsz hk.1
        clear hi hb hk
        refine hK.out _ _ (blk_cell HD.out.x 0) (fun hHeld => ?_)
        clear hK K
        refine norm_ (a' := ?_) ?_ ?_
        rotate_left
        · show Act.put _ (some 21) _ = _
          simp only [putAll, Act.put, List.setIfInBounds_toArray, List.set_cons_zero, List.set_cons_succ, i64_w, i32_w]
          rfl
        refine two_ (i := 14) (j := 28) (Ni := some 24) (Nj := some 4) #[true, true, true, true, true, true, true, true, true, true, true, true, true, true, true, true, true, false, true, true, false, true, true, false, true, true, false, false, false, false] #[true, true, true, true, true, true, true, true, true, true, true, true, true, true, false, true, true, false, true, true, false, true, true, false, true, true, false, false, true, false] rfl rfl rfl rfl (by kernel_rfl) (by decide) (by decide) (fun K hK => ?_) (fun K hK => ?_)
        rotate_left
        · refine value_ (w1 := ?_) (v := ?_) (by rfl) rfl ?_ ?_
          rotate_left 2
          · go_simp
            constructor
            · rfl
            · rfl
          refine hK.out _ _ (blk_cell (blk_alloc HD.out.x _) 0) (fun _ => ?_)
          clear hK K
          refine norm_ ?_ (hA4 _ _ ⟨Dec.mono (HD.out.alloc _) (fun k hk => hk.1), blk_new _ _, hsz⟩)
          simp only [putAll, Act.put, List.setIfInBounds_toArray, List.set_cons_zero, List.set_cons_succ, i64_w, i32_w]
        refine goes_ Try.func24 (by kernel_rfl) rfl #[.pointer (some ⟨g, 0, none⟩)] (by rfl) rfl rfl (by first | rfl | (simp only [List.map_toArray, List.map_cons, List.map_nil]; rfl)) ?_
        refine (c4.out _ HD.out.i HD.out.b).mono ?_
        rintro en w' ⟨rfl, hi, hb, hk⟩
        refine ⟨_, rfl, ?_⟩
        replace HD := Lib.hid (HD.out.call (by decide) hbbg hi hb hk)
        replace hsz := Nat.le_trans hsz hk.1
        clear hi hb hk
        refine hK.out _ _ (blk_cell HD.out.x 0) (fun hHeld => ?_)
        clear hK K
        refine norm_ (a' := ?_) ?_ ?_
        rotate_left
        · show Act.put _ (some 24) _ = _
          simp only [putAll, Act.put, List.setIfInBounds_toArray, List.set_cons_zero, List.set_cons_succ, i64_w, i32_w]
          rfl
        refine two_ (i := 17) (j := 28) (Ni := some 27) (Nj := some 4) #[true, true, true, true, true, true, true, true, true, true, true, true, true, true, true, true, true, true, true, true, false, true, true, false, true, true, false, false, false, false] #[true, true, true, true, true, true, true, true, true, true, true, true, true, true, true, true, true, false, true, true, false, true, true, false, true, true, false, false, true, false] rfl rfl rfl rfl (by kernel_rfl) (by decide) (by decide) (fun K hK => ?_) (fun K hK => ?_)
        rotate_left
        · refine value_ (w1 := ?_) (v := ?_) (by rfl) rfl ?_ ?_
          rotate_left 2
          · go_simp
            constructor
            · rfl
            · rfl
          refine hK.out _ _ (blk_cell (blk_alloc HD.out.x _) 0) (fun _ => ?_)
          clear hK K
          refine norm_ ?_ (hA5 _ _ ⟨Dec.mono (HD.out.alloc _) (fun k hk => hk.1), blk_new _ _, hsz⟩)
          simp only [putAll, Act.put, List.setIfInBounds_toArray, List.set_cons_zero, List.set_cons_succ, i64_w, i32_w]
        refine goes_ Try.func24 (by kernel_rfl) rfl #[.pointer (some ⟨g, 0, none⟩)] (by rfl) rfl rfl (by first | rfl | (simp only [List.map_toArray, List.map_cons, List.map_nil]; rfl)) ?_
        refine (c5.out _ HD.out.i HD.out.b).mono ?_
        rintro en w' ⟨rfl, hi, hb, hk⟩
        refine ⟨_, rfl, ?_⟩
        replace HD := Lib.hid (HD.out.call (by decide) hbbg hi hb hk)
        replace hsz := Nat.le_trans hsz hk.1
        clear hi hb hk
        refine hK.out _ _ (blk_cell HD.out.x 0) (fun hHeld => ?_)
        clear hK K
        refine norm_ (a' := ?_) ?_ ?_
        rotate_left
        · show Act.put _ (some 27) _ = _
          simp only [putAll, Act.put, List.setIfInBounds_toArray, List.set_cons_zero, List.set_cons_succ, i64_w, i32_w]
          rfl
        refine two_ (i := 20) (j := 28) (Ni := some 30) (Nj := some 4) #[true, true, true, true, true, true, true, true, true, true, true, true, true, true, true, true, true, true, true, true, true, true, true, false, true, true, false, false, false, false] #[true, true, true, true, true, true, true, true, true, true, true, true, true, true, true, true, true, true, true, true, false, true, true, false, true, true, false, false, true, false] rfl rfl rfl rfl (by kernel_rfl) (by decide) (by decide) (fun K hK => ?_) (fun K hK => ?_)
        rotate_left
        · refine value_ (w1 := ?_) (v := ?_) (by rfl) rfl ?_ ?_
          rotate_left 2
          · go_simp
            constructor
            · rfl
            · rfl
          refine hK.out _ _ (blk_cell (blk_alloc HD.out.x _) 0) (fun _ => ?_)
          clear hK K
          refine norm_ ?_ (hA6 _ _ ⟨Dec.mono (HD.out.alloc _) (fun k hk => hk.1), blk_new _ _, hsz⟩)
          simp only [putAll, Act.put, List.setIfInBounds_toArray, List.set_cons_zero, List.set_cons_succ, i64_w, i32_w]
        refine goes_ Try.func24 (by kernel_rfl) rfl #[.pointer (some ⟨g, 0, none⟩)] (by rfl) rfl rfl (by first | rfl | (simp only [List.map_toArray, List.map_cons, List.map_nil]; rfl)) ?_
        refine (c6.out _ HD.out.i HD.out.b).mono ?_
        rintro en w' ⟨rfl, hi, hb, hk⟩
        refine ⟨_, rfl, ?_⟩
        replace HD := Lib.hid (HD.out.call (by decide) hbbg hi hb hk)
        replace hsz := Nat.le_trans hsz hk.1
        clear hi hb hk
        refine hK.out _ _ (blk_cell HD.out.x 0) (fun hHeld => ?_)
        clear hK K
        refine norm_ (a' := ?_) ?_ ?_
        rotate_left
        · show Act.put _ (some 30) _ = _
          simp only [putAll, Act.put, List.setIfInBounds_toArray, List.set_cons_zero, List.set_cons_succ, i64_w, i32_w]
          rfl
        refine two_ (i := 23) (j := 28) (Ni := some 33) (Nj := some 4) #[true, true, true, true, true, true, true, true, true, true, true, true, true, true, true, true, true, true, true, true, true, true, true, true, true, true, false, false, false, false] #[true, true, true, true, true, true, true, true, true, true, true, true, true, true, true, true, true, true, true, true, true, true, true, false, true, true, false, false, true, false] rfl rfl rfl rfl (by kernel_rfl) (by decide) (by decide) (fun K hK => ?_) (fun K hK => ?_)
        rotate_left
        · refine value_ (w1 := ?_) (v := ?_) (by rfl) rfl ?_ ?_
          rotate_left 2
          · go_simp
            constructor
            · rfl
            · rfl
          refine hK.out _ _ (blk_cell (blk_alloc HD.out.x _) 0) (fun _ => ?_)
          clear hK K
          refine norm_ ?_ (hA7 _ _ ⟨Dec.mono (HD.out.alloc _) (fun k hk => hk.1), blk_new _ _, hsz⟩)
          simp only [putAll, Act.put, List.setIfInBounds_toArray, List.set_cons_zero, List.set_cons_succ, i64_w, i32_w]
        refine goes_ Try.func24 (by kernel_rfl) rfl #[.pointer (some ⟨g, 0, none⟩)] (by rfl) rfl rfl (by first | rfl | (simp only [List.map_toArray, List.map_cons, List.map_nil]; rfl)) ?_
        refine (c7.out _ HD.out.i HD.out.b).mono ?_
        rintro en w' ⟨rfl, hi, hb, hk⟩
        refine ⟨_, rfl, ?_⟩
        replace HD := Lib.hid (HD.out.call (by decide) hbbg hi hb hk)
        replace hsz := Nat.le_trans hsz hk.1
        clear hi hb hk
        refine hK.out _ _ (blk_cell HD.out.x 0) (fun hHeld => ?_)
        clear hK K
        refine norm_ (a' := ?_) ?_ ?_
        rotate_left
        · show Act.put _ (some 33) _ = _
          simp only [putAll, Act.put, List.setIfInBounds_toArray, List.set_cons_zero, List.set_cons_succ, i64_w, i32_w]
          rfl
        refine two_ (i := 26) (j := 28) (Ni := some 36) (Nj := some 4) #[true, true, true, true, true, true, true, true, true, true, true, true, true, true, true, true, true, true, true, true, true, true, true, true, true, true, true, false, false, false] #[true, true, true, true, true, true, true, true, true, true, true, true, true, true, true, true, true, true, true, true, true, true, true, true, true, true, false, false, true, false] rfl rfl rfl rfl (by kernel_rfl) (by decide) (by decide) (fun K hK => ?_) (fun K hK => ?_)
        rotate_left
        · refine value_ (w1 := ?_) (v := ?_) (by rfl) rfl ?_ ?_
          rotate_left 2
          · go_simp
            constructor
            · rfl
            · rfl
          refine hK.out _ _ (blk_cell (blk_alloc HD.out.x _) 0) (fun _ => ?_)
          clear hK K
          refine norm_ ?_ (hA8 _ _ ⟨Dec.mono (HD.out.alloc _) (fun k hk => hk.1), blk_new _ _, hsz⟩)
          simp only [putAll, Act.put, List.setIfInBounds_toArray, List.set_cons_zero, List.set_cons_succ, i64_w, i32_w]
        refine goes_ Try.func24 (by kernel_rfl) rfl #[.pointer (some ⟨g, 0, none⟩)] (by rfl) rfl rfl (by first | rfl | (simp only [List.map_toArray, List.map_cons, List.map_nil]; rfl)) ?_
        refine (c8.out _ HD.out.i HD.out.b).mono ?_
        rintro en w' ⟨rfl, hi, hb, hk⟩
        refine ⟨_, rfl, ?_⟩
        replace HD := Lib.hid (HD.out.call (by decide) hbbg hi hb hk)
        replace hsz := Nat.le_trans hsz hk.1
        clear hi hb hk
        refine hK.out _ _ (blk_cell HD.out.x 0) (fun hHeld => ?_)
        clear hK K
        refine norm_ (a' := ?_) ?_ ?_
        rotate_left
        · show Act.put _ (some 36) _ = _
          simp only [putAll, Act.put, List.setIfInBounds_toArray, List.set_cons_zero, List.set_cons_succ, i64_w, i32_w]
          rfl
        refine pure_ (i := 27) (N := some 37) (v := ?_) (a' := ?_) #[true, true, true, true, true, true, true, true, true, true, true, true, true, true, true, true, true, true, true, true, true, true, true, true, true, true, true, true, false, false] rfl rfl (by kernel_rfl) (fun _ _ _ h => h) (Or.inl ⟨by rfl, ?_⟩) ?_ ?_
        rotate_left
        · intro w'
          go_simp
          with_reducible rfl
        rotate_left
        · simp only [putAll, Act.put, List.setIfInBounds_toArray, List.set_cons_zero, List.set_cons_succ, i64_w, i32_w]
          rfl
        refine one_ (i := 28) (N := some 4) #[true, true, true, true, true, true, true, true, true, true, true, true, true, true, true, true, true, true, true, true, true, true, true, true, true, true, true, true, true, false] rfl rfl (by kernel_rfl) (by decide) (fun K hK => ?_)
        refine value_ (w1 := ?_) (v := ?_) (by rfl) rfl ?_ ?_
        rotate_left 2
        · go_simp
          constructor
          · rfl
          · rfl
        refine hK.out _ _ (blk_cell (blk_alloc HD.out.x _) 0) (fun _ => ?_)
        clear hK K
        refine norm_ ?_ (hA9 _ _ ⟨Dec.mono (HD.out.alloc _) (fun k hk => hk.1), blk_new _ _, hsz⟩)
        simp only [putAll, Act.put, List.setIfInBounds_toArray, List.set_cons_zero, List.set_cons_succ, i64_w, i32_w]
      clear HD hHeld hsz
      obtain ⟨hd, hm, hb0⟩ := hF
      have HD := Lib.hid hd
      have HM := Lib.hid hm
      clear hd hm
      have hbg : b ≠ g := by omega
      have hwb : w.heap.size ≤ b := by omega
      have hgb : g ≠ b := by omega
      have hbb : w.heap.size ≠ b := by omega
      clear hb0 hgw2 hbw2
      refine norm_ (a' := ?_) ?_ ?_
      rotate_left
      · simp only [putAll, Act.put, List.setIfInBounds_toArray, List.set_cons_zero, List.set_cons_succ, i64_w, i32_w]
        rfl
      refine one_ (i := 29) (N := none) #[true, true, true, true, true, true, true, true, true, true, true, true, true, true, true, true, true, true, true, true, true, true, true, true, true, true, true, true, true, true] rfl rfl (by kernel_rfl) (by decide) (fun K hK => ?_)
      refine store_step 117 (.tmp 4) (.tmp 37) (.agg #[.int .i64 x0, .int .i64 x1, .int .i64 x2, .int .i64 x3, .int .i64 x4, .int .i64 x5, .int .i64 x6, .int .i64 x7, .slice none 0 0, .int .i64 x8, .bool false]) [.int .i64 x0, .int .i64 x1, .int .i64 x2, .int .i64 x3, .int .i64 x4, .int .i64 x5, .int .i64 x6, .int .i64 x7, .slice none 0 0, .int .i64 x8, .bool false] #[.int .i64 0, .int .i64 0, .int .i64 0, .int .i64 0, .int .i64 0, .int .i64 0, .int .i64 0, .int .i64 0, .slice none 0 0, .int .i64 0, .bool false] #[.int .i64 x0, .int .i64 x1, .int .i64 x2, .int .i64 x3, .int .i64 x4, .int .i64 x5, .int .i64 x6, .int .i64 x7, .slice none 0 0, .int .i64 x8, .bool false] b 0 117 (by rfl) rfl rfl rfl rfl HM.out rfl (by kernel_rfl) (by simp) rfl rfl ?_
      intro w1 hw
      replace HM := Lib.hid hw.row
      replace HD := Lib.hid (HD.out.wrote hw hwb hbs hgb hbb (fun k hk => hk))
      clear hw
      refine hK.out _ _ (blk_cell HD.out.x 0) (fun _ => ?_)
      clear hK K
      refine done_ (by kernel_rfl) ?_
      have hbx := blk_cell HD.out.x 0
      obtain ⟨⟨x9, q10, e10⟩, h9⟩ : ∃ x, boolR S q9 e9 = x := ⟨_, rfl⟩
      have c9 := HBo.out q9 e9 hq9
      have hq10 := (good_bool.place S q9 e9 hq9).2
      simp only [h9] at c9 hq10
      replace c9 := Lib.hid c9
      replace h9 := Lib.hid h9
      obtain ⟨⟨x10, q11, e11⟩, h10⟩ : ∃ x, countR 4096 S q10 e10 = x := ⟨_, rfl⟩
      have c10 := HCo.out q10 e10 hq10
      have hq11 := ((good_count 4096 (by omega)).place S q10 e10 hq10).2
      have hcn10 := count_le S q10 e10
      simp only [h10] at c10 hq11 hcn10
      replace c10 := Lib.hid c10
      replace h10 := Lib.hid h10
      go_wp2_with (first
        | (go_at_call 47; refine (c9.out _ HD.out.i HD.out.b).mono ?_; rintro en w1 ⟨rfl, hi, hb, hk⟩; replace HM := Lib.hid ((hk.2 _ (blk_lt HM.out) hbg (by simp)).trans HM.out); replace HD := Lib.hid (HD.out.call (by decide) hbbg hi hb hk); clear hi hb hk hbx; have hbx := blk_cell HD.out.x 0)
        | ((with_reducible refine gate_ (.store 4 (.tmp 41) (.tmp 40)) rfl ?_); refine store_plain 4 (.tmp 41) (.tmp 40) (.bool x9) [.bool x9] #[.int .i64 x0, .int .i64 x1, .int .i64 x2, .int .i64 x3, .int .i64 x4, .int .i64 x5, .int .i64 x6, .int .i64 x7, .slice none 0 0, .int .i64 x8, .bool false] #[.int .i64 x0, .int .i64 x1, .int .i64 x2, .int .i64 x3, .int .i64 x4, .int .i64 x5, .int .i64 x6, .int .i64 x7, .slice none 0 0, .int .i64 x8, .bool x9] b 10 117 rfl rfl rfl rfl rfl HM.out rfl (by kernel_rfl) (by simp) rfl rfl ?_; intro w1 hw; replace HM := Lib.hid hw.row; replace HD := Lib.hid (HD.out.wrote hw hwb hbs hgb hbb (fun k hk => hk)); clear hw hbx; have hbx := blk_cell HD.out.x 0)
        | (go_at_call 45; refine (c10.out _ HD.out.i HD.out.b).mono ?_; rintro en w1 ⟨rfl, hi, hb, hk⟩; replace HM := Lib.hid ((hk.2 _ (blk_lt HM.out) hbg (by simp)).trans HM.out); replace HD := Lib.hid (HD.out.call (by decide) hbbg hi hb hk); clear hi hb hk hbx))
      obtain ⟨wo, rfl⟩ : ∃ wo : World, wo = wr := ⟨_, rfl⟩
      go_loopw [45] (fun i2 wr => ∃ (k2 : Nat) (ys : List S129) (Aq2 : Option Addr) (cq2 qi : Nat) (ei : Int), i2 = .int .i64 k2 ∧ k2 ≤ x10 ∧ Hid (ys.length = k2) ∧ qi ≤ S.length ∧ Hid (Dec k117 117 w0 w wr g ⟨S.toArray⟩ qi ei w.heap.size (fun k => k ≠ b ∧ some k ≠ (Value.slice Aq2 ys.length cq2).ownBlock) u3 xs) ∧ Hid (wr.heap[b]? = some (.cells #[.int .i64 x0, .int .i64 x1, .int .i64 x2, .int .i64 x3, .int .i64 x4, .int .i64 x5, .int .i64 x6, .int .i64 x7, .slice Aq2 ys.length cq2, .int .i64 x8, .bool x9] 117 (0, 0))) ∧ Hid (Kd.R k129 129 wr w.heap.size (fun k => k ≠ b) (.slice Aq2 ys.length cq2) ys) ∧ Hid ((ys ++ (manyR resetR (x10 - k2) S qi ei).1, (manyR resetR (x10 - k2) S qi ei).2) = manyR resetR x10 S q11 e11)) (fun i2 _ => x10 - (intOf i2).toNat)
      case atStart => exact ⟨0, [], none, 0, q11, e11, rfl, by omega, Lib.hid rfl, hq11, Lib.hid ⟨Kd.R_apart_nil HD.out.r, HD.out.i, HD.out.x, HD.out.b, HD.out.k⟩, HM, Lib.hid (Kd.R_nil _ _ _ _ _), Lib.hid rfl⟩
      case round =>
        clear HD HM
        obtain ⟨k2, ys, Aq2, cq2, qi, ei, rfl, hk2, HYL, hqi, HD, HM, HC, HMi⟩ := hrel
        by_cases hlt2 : k2 < x10
        · skip
          obtain ⟨⟨x11, q12, e12⟩, h11⟩ : ∃ x, intR S qi ei = x := ⟨_, rfl⟩
          have c11 := HN.out qi ei hqi
          have hq12 := (good_int.place S qi ei hqi).2
          simp only [h11] at c11 hq12
          replace c11 := Lib.hid c11
          replace h11 := Lib.hid h11
          obtain ⟨⟨x12, q13, e13⟩, h12⟩ : ∃ x, intR S q12 e12 = x := ⟨_, rfl⟩
          have c12 := HN.out q12 e12 hq12
          have hq13 := (good_int.place S q12 e12 hq12).2
          simp only [h12] at c12 hq13
          replace c12 := Lib.hid c12
          replace h12 := Lib.hid h12
          go_wp2
          refine start_ (ds := [12]) (n := 13) (S := fun w' => w'.cell? ⟨w.heap.size, 0, none⟩ = some (.pointer (some ⟨g, 0, none⟩)) ∧ w'.cell? ⟨b, 8, none⟩ = some (.slice Aq2 ys.length cq2)) #[false, false, false, false, false, false, false, false, false, false, false, false, false] (by kernel_rfl) (by rfl) (by rfl) ⟨blk_cell (blk_drew HD.out.x) 0, blk_cell (blk_drew HM.out) 8⟩ (fun hHeld => ?_)
          replace HD := Lib.hid (Dec.drew HD.out)
          replace HM := Lib.hid (blk_drew HM.out)
          replace HC := Lib.hid (Kd.R_drew HC.out)
          generalize wr.drew = w5 at HD HM HC hHeld ⊢
          refine pure_ (i := 0) (N := some 47) (v := ?_) (a' := ?_) #[true, false, false, false, false, false, false, false, false, false, false, false, false] rfl rfl (by kernel_rfl) (fun _ _ _ h => h) (Or.inl ⟨by rfl, ?_⟩) ?_ ?_
          rotate_left
          · intro w'
            go_simp
            with_reducible rfl
          rotate_left
          · simp only [putAll, Act.put, List.setIfInBounds_toArray, List.set_cons_zero, List.set_cons_succ, i64_w, i32_w]
            rfl
          refine pure_ (i := 2) (N := some 49) (v := ?_) (a' := ?_) #[true, false, true, false, false, false, false, false, false, false, false, false, false] rfl rfl (by kernel_rfl) (fun _ _ _ h => h) (Or.inl ⟨by rfl, ?_⟩) ?_ ?_
          rotate_left
          · intro w'
            go_simp
            with_reducible rfl
          rotate_left
          · simp only [putAll, Act.put, List.setIfInBounds_toArray, List.set_cons_zero, List.set_cons_succ, i64_w, i32_w]
            rfl
          refine pure_ (i := 5) (N := some 52) (v := ?_) (a' := ?_) #[true, false, true, false, false, true, false, false, false, false, false, false, false] rfl rfl (by kernel_rfl) (fun _ _ _ h => h) (Or.inl ⟨by rfl, ?_⟩) ?_ ?_
          rotate_left
          · intro w'
            go_simp
            with_reducible rfl
          rotate_left
          · simp only [putAll, Act.put, List.setIfInBounds_toArray, List.set_cons_zero, List.set_cons_succ, i64_w, i32_w]
            rfl
          refine take_ (i := 1) (N := some 48) (v := ?_) (a' := ?_) #[true, true, true, false, false, true, false, false, false, false, false, false, false] rfl rfl (by kernel_rfl) (fun _ _ _ h => h) (Or.inl ⟨by rfl, ?_⟩) hHeld ?_ ?_
          rotate_left
          · rintro w' ⟨s0, s1⟩
            go_simp
            with_reducible rfl
          rotate_left
          · simp only [putAll, Act.put, List.setIfInBounds_toArray, List.set_cons_zero, List.set_cons_succ, i64_w, i32_w]
            rfl
          refine take_ (i := 3) (N := some 50) (v := ?_) (a' := ?_) #[true, true, true, true, false, true, false, false, false, false, false, false, false] rfl rfl (by kernel_rfl) (fun _ _ _ h => h) (Or.inl ⟨by rfl, ?_⟩) hHeld ?_ ?_
          rotate_left
          · rintro w' ⟨s0, s1⟩
            go_simp
            with_reducible rfl
          rotate_left
          · simp only [putAll, Act.put, List.setIfInBounds_toArray, List.set_cons_zero, List.set_cons_succ, i64_w, i32_w]
            rfl
          refine take_ (i := 6) (N := some 53) (v := ?_) (a' := ?_) #[true, true, true, true, false, true, true, false, false, false, false, false, false] rfl rfl (by kernel_rfl) (fun _ _ _ h => h) (Or.inl ⟨by rfl, ?_⟩) hHeld ?_ ?_
          rotate_left
          · rintro w' ⟨s0, s1⟩
            go_simp
            with_reducible rfl
          rotate_left
          · simp only [putAll, Act.put, List.setIfInBounds_toArray, List.set_cons_zero, List.set_cons_succ, i64_w, i32_w]
            rfl
          refine one_ (i := 4) (N := some 51) #[true, true, true, true, true, true, true, false, false, false, false, false, false] rfl rfl (by kernel_rfl) (by decide) (fun K hK => ?_)
          refine goes_ Try.func24 (by kernel_rfl) rfl #[.pointer (some ⟨g, 0, none⟩)] (by rfl) rfl rfl (by first | rfl | (simp only [List.map_toArray, List.map_cons, List.map_nil]; rfl)) ?_
          refine (c11.out _ HD.out.i HD.out.b).mono ?_
          rintro en w' ⟨rfl, hi, hb, hk⟩
          refine ⟨_, rfl, ?_⟩
          replace HM := Lib.hid ((hk.2 _ (blk_lt HM.out) hbg (by simp)).trans HM.out)
          replace HC := Lib.hid (Kd.R_mono (Kd.R_keep (IsS132.apart HD.out.i HC.out (by decide)) hk (fun _ h => h.2)) (fun _ h => h.1))
          replace HD := Lib.hid (HD.out.call (by decide) hbbg hi hb hk)
          clear hi hb hk
          refine hK.out _ _ ⟨blk_cell HD.out.x 0, blk_cell HM.out 8⟩ (fun hHeld => ?_)
          clear hK K
          refine norm_ (a' := ?_) ?_ ?_
          rotate_left
          · show Act.put _ (some 51) _ = _
            simp only [putAll, Act.put, List.setIfInBounds_toArray, List.set_cons_zero, List.set_cons_succ, i64_w, i32_w]
            rfl
          refine one_ (i := 7) (N := some 54) #[true, true, true, true, true, true, true, true, false, false, false, false, false] rfl rfl (by kernel_rfl) (by decide) (fun K hK => ?_)
          refine goes_ Try.func24 (by kernel_rfl) rfl #[.pointer (some ⟨g, 0, none⟩)] (by rfl) rfl rfl (by first | rfl | (simp only [List.map_toArray, List.map_cons, List.map_nil]; rfl)) ?_
          refine (c12.out _ HD.out.i HD.out.b).mono ?_
          rintro en w' ⟨rfl, hi, hb, hk⟩
          refine ⟨_, rfl, ?_⟩
          replace HM := Lib.hid ((hk.2 _ (blk_lt HM.out) hbg (by simp)).trans HM.out)
          replace HC := Lib.hid (Kd.R_mono (Kd.R_keep (IsS132.apart HD.out.i HC.out (by decide)) hk (fun _ h => h.2)) (fun _ h => h.1))
          replace HD := Lib.hid (HD.out.call (by decide) hbbg hi hb hk)
          clear hi hb hk
          refine hK.out _ _ ⟨blk_cell HD.out.x 0, blk_cell HM.out 8⟩ (fun hHeld => ?_)
          clear hK K
          refine norm_ (a' := ?_) ?_ ?_
          rotate_left
          · show Act.put _ (some 54) _ = _
            simp only [putAll, Act.put, List.setIfInBounds_toArray, List.set_cons_zero, List.set_cons_succ, i64_w, i32_w]
            rfl
          refine pure_ (i := 8) (N := some 55) (v := ?_) (a' := ?_) #[true, true, true, true, true, true, true, true, true, false, false, false, false] rfl rfl (by kernel_rfl) (fun _ _ _ h => h) (Or.inl ⟨by rfl, ?_⟩) ?_ ?_
          rotate_left
          · intro w'
            go_simp
            with_reducible rfl
          rotate_left
          · simp only [putAll, Act.put, List.setIfInBounds_toArray, List.set_cons_zero, List.set_cons_succ, i64_w, i32_w]
            rfl
          refine one_ (i := 9) (N := some 56) #[true, true, true, true, true, true, true, true, true, true, false, false, false] rfl rfl (by kernel_rfl) (by decide) (fun K hK => ?_)
          refine value_ (w1 := ?_) (v := ?_) (by rfl) rfl ?_ ?_
          rotate_left 2
          · go_simp
            constructor
            · rfl
            · rfl
          refine hK.out _ _ ⟨blk_cell (blk_alloc HD.out.x _) 0, blk_cell (blk_alloc HM.out _) 8⟩ (fun hHeld => ?_)
          clear hK K
          refine norm_ (a' := ?_) ?_ ?_
          rotate_left
          · show Act.put _ (some 56) _ = _
            simp only [putAll, Act.put, List.setIfInBounds_toArray, List.set_cons_zero, List.set_cons_succ, i64_w, i32_w]
            rfl
          refine one_ (i := 10) (N := some 57) #[true, true, true, true, true, true, true, true, true, true, true, false, false] rfl rfl (by kernel_rfl) (by decide) (fun K hK => ?_)
          refine Kd.R_append_step k129 w.heap.size (by rfl) (.tmp 48) (.tmp 56) 115 129 (.agg #[(.int .i64 0), (.int .i64 0)]) 16 rfl Try.underlying115 info129 rfl (by decide) (by omega) (.slice Aq2 ys.length cq2) ys (⟨x11, x12⟩ : S129) [.int .i64 x11, .int .i64 x12] (fun k => k ≠ b) (fun _ => False) rfl rfl ?aP (fun _ hk => hk.elim) ?aF ?aO (Below.refl _ _) ?aS ?aL ?_
          (case aP => exact k129_mkM _ _ _ (⟨x11, x12⟩ : S129))
          (case aF => exact (fun k hk => by have := blk_lt HM.out; omega))
          (case aO => exact HC.out)
          (case aS => exact HD.out.k.1)
          (case aL => have := HYL.out; omega)
          intro v198 w6 ho hb hg hat
          obtain ⟨Aq3, cq3, eq3⟩ := Kd.R_slice ho
          subst eq3
          replace HM := Lib.hid (blk_grown HM.out hg (Kd.R_ne HC.out HM.out (by decide)))
          replace HD := Lib.hid (Dec.other HD.out HC.out (by decide) (by decide) hbs hb hg hat)
          replace HC := Lib.hid ho
          clear ho hb hg hat
          refine hK.out _ _ ⟨blk_cell HD.out.x 0, blk_cell HM.out 8⟩ (fun hHeld => ?_)
          clear hK K
          refine norm_ (a' := ?_) ?_ ?_
          rotate_left
          · show Act.put _ (some 57) _ = _
            simp only [putAll, Act.put, List.setIfInBounds_toArray, List.set_cons_zero, List.set_cons_succ, i64_w, i32_w]
            rfl
          refine pure_ (i := 11) (N := some 58) (v := ?_) (a' := ?_) #[true, true, true, true, true, true, true, true, true, true, true, true, false] rfl rfl (by kernel_rfl) (fun _ _ _ h => h) (Or.inl ⟨by rfl, ?_⟩) ?_ ?_
          rotate_left
          · intro w'
            go_simp
            with_reducible rfl
          rotate_left
          · simp only [putAll, Act.put, List.setIfInBounds_toArray, List.set_cons_zero, List.set_cons_succ, i64_w, i32_w]
            rfl
          refine last_ (i := 12) (N := none) #[true, true, true, true, true, true, true, true, true, true, true, true, true] rfl rfl (by kernel_rfl) (by decide) (fun K hK => ?_)
          refine store_step 115 (.tmp 58) (.tmp 57) (.slice Aq3 (ys ++ [(⟨x11, x12⟩ : S129)]).length cq3) [.slice Aq3 (ys ++ [(⟨x11, x12⟩ : S129)]).length cq3] #[.int .i64 x0, .int .i64 x1, .int .i64 x2, .int .i64 x3, .int .i64 x4, .int .i64 x5, .int .i64 x6, .int .i64 x7, .slice Aq2 ys.length cq2, .int .i64 x8, .bool x9] #[.int .i64 x0, .int .i64 x1, .int .i64 x2, .int .i64 x3, .int .i64 x4, .int .i64 x5, .int .i64 x6, .int .i64 x7, .slice Aq3 (ys ++ [(⟨x11, x12⟩ : S129)]).length cq3, .int .i64 x8, .bool x9] b 8 117 (by rfl) rfl rfl rfl rfl HM.out rfl (by kernel_rfl) (by simp) rfl rfl ?_
          intro w1 hw
          replace HM := Lib.hid hw.row
          replace HC := Lib.hid (hw.row_ HC.out (fun k hk => hk))
          replace HD := Lib.hid (HD.out.wrote hw hwb hbs hgb hbb (fun k hk => hk.1))
          clear hw
          refine hK.out _ _ ?_
          clear hK K
          refine done_ (by kernel_rfl) ?_
          go_wp2
          go_roundw
          case rel =>
            refine ⟨k2 + 1, ys ++ [(⟨x11, x12⟩ : S129)], Aq3, cq3, q13, e13, by go_num, by omega, Lib.hid (by rw [List.length_append, HYL.out]; rfl), hq13, HD, HM, HC, ?_⟩
            have hM := HMi.out
            rw [show x10 - k2 = (x10 - (k2 + 1)) + 1 by omega] at hM
            rw [← hM]
            simp only [manyR, resetR, isoR, pairR, h11.out, h12.out, List.append_assoc, List.singleton_append]
            first | exact Lib.hid rfl | exact Lib.hid trivial
          case measure => simp [intOf]; omega
        · have hkn2 : k2 = x10 := by omega
          subst hkn2
          have hMi := HMi.out
          rw [Nat.sub_self] at hMi
          simp only [manyR, List.append_nil] at hMi
          replace HMi := Lib.hid hMi.symm
          clear hMi hlt2 hk2
          have hbx := blk_cell HD.out.x 0
          have hm0 := blk_cell HM.out 0; have hm1 := blk_cell HM.out 1; have hm2 := blk_cell HM.out 2; have hm3 := blk_cell HM.out 3; have hm4 := blk_cell HM.out 4; have hm5 := blk_cell HM.out 5; have hm6 := blk_cell HM.out 6; have hm7 := blk_cell HM.out 7; have hm8 := blk_cell HM.out 8; have hm9 := blk_cell HM.out 9; have hm10 := blk_cell HM.out 10
          go_wp2_with (first
            | ((with_reducible refine gate_builtin (b := .append) (xs := #[.tmp 60, .tmp 62]) rfl ?_); at_builtin; refine Kd.R_append k117 w.heap.size rfl (.tmp 60) (.tmp 62) 27 117 (.agg #[(.int .i64 0), (.int .i64 0), (.int .i64 0), (.int .i64 0), (.int .i64 0), (.int .i64 0), (.int .i64 0), (.int .i64 0), (.slice none 0 0), (.int .i64 0), (.bool false)]) 104 rfl Try.underlying27 info117 rfl (by decide) (by omega) u3 xs (⟨x0, x1, x2, x3, x4, x5, x6, x7, ys, x8, x9⟩ : S117) [.int .i64 x0, .int .i64 x1, .int .i64 x2, .int .i64 x3, .int .i64 x4, .int .i64 x5, .int .i64 x6, .int .i64 x7, .slice Aq2 ys.length cq2, .int .i64 x8, .bool x9] (fun _ => True) (fun k => some k ≠ u3.ownBlock) rfl rfl ?aP (fun k hk => ⟨trivial, hk⟩) ?aF ?aO (Below.refl _ _) ?aS ?aL ?_; (case aP => exact k117_mkM _ _ _ (⟨x0, x1, x2, x3, x4, x5, x6, x7, ys, x8, x9⟩ : S117) (Kd.R_mono (Kd.R_not HC.out HD.out.r (by decide)) (fun k h => h.2))); (case aF => exact (fun _ _ => trivial)); (case aO => exact Kd.R_mono HD.out.r (fun _ _ => trivial)); (case aS => exact HD.out.k.1); (case aL => omega); intro v198 w6 ho hb hg hat; replace HD := Lib.hid (Dec.appended HD.out (by decide) (by decide) hbs ho hb hg); clear ho hb hg hat hbx hm0 hm1 hm2 hm3 hm4 hm5 hm6 hm7 hm8 hm9 hm10))
          go_roundw
          case rel =>
            refine ⟨k + 1, _, _, _, by go_num, by omega, ?_, hqi, HD, ?_⟩
            · rw [List.length_append, hxl]; rfl
            · have hM := HM0.out
              rw [show n - k = (n - (k + 1)) + 1 by omega] at hM
              rw [← hM]
              simp only [manyR, tradesR, isoR, pairR, listR, h0.out, h1.out, h2.out, h3.out, h4.out, h5.out, h6.out, h7.out, h8.out, h9.out, h10.out, HMi.out, List.append_assoc, List.singleton_append]
              first | exact Lib.hid rfl | exact Lib.hid trivial
          case measure => simp [intOf]; omega
    · have hkn : k = n := by omega
      subst hkn
      go_wp2
      go_ret
      have hM := HM0.out
      rw [Nat.sub_self] at hM
      simp only [manyR, List.append_nil] at hM
      rw [← hM]
      exact ⟨_, rfl, HD.out.r, HD.out.i, HD.out.b, HD.out.k⟩
end Go.Proofs.Ytlkfbdeddfhocaa
