/- The document's Same functions, and law30.Told, at nil slices. law32.same holds of zero views. The chapter's example holds (law32.awake); what a view is that is written. The chapter's example holds: law32.awake answers true. SnapReads answers true: the law's walk. -/
import Derived.Test.YtlkfbdeddfhocaaMi
set_option linter.unusedVariables false
set_option linter.unusedSimpArgs false
namespace Go.Proofs.Ytlkfbdeddfhocaa
open Go.Proofs Go.RowKit Go.Proofs.YtlkfbdeddfhocaaW.PrintWords Go.Proofs.YtlkfbdeddfhocaaW.PrintLast Go.Proofs.YtlkfbdeddfhocaaW.PrintMore Q

theorem nil50 (w : World) : Calls Try.prog 50 #[.slice none 0 0, .slice none 0 0] w fun en w' => en = .returned (.bool true) ∧ w = w' := by
  go_enter Try.func50, Try.ntmps50
  go_wp2
  go_loop [5] (fun i => i = .int .i64 0) (fun _ => 0)
  case atStart => exact rfl
  case round =>
    obtain rfl := hrel
    go_wp2
    go_ret
    exact ⟨rfl, rfl⟩
theorem nil53 (w : World) : Calls Try.prog 53 #[.slice none 0 0, .slice none 0 0] w fun en w' => en = .returned (.bool true) ∧ w = w' := by
  go_enter Try.func53, Try.ntmps53
  go_wp2
  go_loop [5] (fun i => i = .int .i64 0) (fun _ => 0)
  case atStart => exact rfl
  case round =>
    obtain rfl := hrel
    go_wp2
    go_ret
    exact ⟨rfl, rfl⟩
theorem nil54 (w : World) : Calls Try.prog 54 #[.slice none 0 0, .slice none 0 0] w fun en w' => en = .returned (.bool true) ∧ w = w' := by
  go_enter Try.func54, Try.ntmps54
  go_wp2
  go_loop [5] (fun i => i = .int .i64 0) (fun _ => 0)
  case atStart => exact rfl
  case round =>
    obtain rfl := hrel
    go_wp2
    go_ret
    exact ⟨rfl, rfl⟩
theorem nil55 (w : World) : Calls Try.prog 55 #[.slice none 0 0, .slice none 0 0] w fun en w' => en = .returned (.bool true) ∧ w = w' := by
  go_enter Try.func55, Try.ntmps55
  go_wp2
  go_loop [5] (fun i => i = .int .i64 0) (fun _ => 0)
  case atStart => exact rfl
  case round =>
    obtain rfl := hrel
    go_wp2
    go_ret
    exact ⟨rfl, rfl⟩
theorem nil56 (w : World) : Calls Try.prog 56 #[.slice none 0 0, .slice none 0 0] w fun en w' => en = .returned (.bool true) ∧ w = w' := by
  go_enter Try.func56, Try.ntmps56
  go_wp2
  go_loop [5] (fun i => i = .int .i64 0) (fun _ => 0)
  case atStart => exact rfl
  case round =>
    obtain rfl := hrel
    go_wp2
    go_ret
    exact ⟨rfl, rfl⟩
theorem nil57 (w : World) : Calls Try.prog 57 #[.slice none 0 0] w fun en w' => en = .returned (.slice none 0 0) ∧ w = w' := by
  go_enter Try.func57, Try.ntmps57
  go_wp2
  go_loop [3, 4] (fun v i => v = .slice none 0 0 ∧ i = .int .i64 0) (fun _ _ => 0)
  case atStart => exact ⟨rfl, rfl⟩
  case round =>
    obtain ⟨rfl, rfl⟩ := hrel
    go_wp2
    go_ret
    exact ⟨rfl, rfl⟩
def ztold : Value := .agg #[.int .i64 0, .slice none 0 0, .slice none 0 0, .slice none 0 0, .slice none 0 0, .slice none 0 0, .slice none 0 0, .int .i64 0, .slice none 0 0, .slice none 0 0, .slice none 0 0]
set_option maxHeartbeats 8000000 in
set_option maxRecDepth 1000000 in
theorem same31_zero (w : World) : Calls Try.prog 37 #[ztold, ztold] w fun en w' => en = .returned (.bool true) ∧ Below w.heap.size w w' := by
  unfold ztold
  go_enter Try.func37, Try.ntmps37
  go_wp2_with (go_at_call 50; refine (nil50 _).mono ?_; rintro en w1 ⟨rfl, rfl⟩)
  go_loop [5] (fun i => i = .int .i64 0) (fun _ => 0)
  case atStart => exact rfl
  case round =>
    obtain rfl := hrel
    go_wp2
    go_loop [6] (fun i => i = .int .i64 0) (fun _ => 0)
    case atStart => exact rfl
    case round =>
      obtain rfl := hrel
      go_wp2
      go_loop [7] (fun i => i = .int .i64 0) (fun _ => 0)
      case atStart => exact rfl
      case round =>
        obtain rfl := hrel
        go_wp2_with (first | (go_at_call 53; refine (nil53 _).mono ?_; rintro en w1 ⟨rfl, rfl⟩) | (go_at_call 54; refine (nil54 _).mono ?_; rintro en w1 ⟨rfl, rfl⟩) | (go_at_call 55; refine (nil55 _).mono ?_; rintro en w1 ⟨rfl, rfl⟩) | (go_at_call 56; refine (nil56 _).mono ?_; rintro en w1 ⟨rfl, rfl⟩))
        go_ret
        exact ⟨rfl, ((Below.refl _ _).alloc (Nat.le_refl _) _).alloc (by simp) _⟩
theorem results_told (tm : Array Value) (b : Nat) (x0 x1 x2 x3 x4 x5 x6 x7 x8 x9 x10 : Value) (w : World) (h2 : tm.getD 2 undef = .pointer (some ⟨b, 0, none⟩))
    (hb : w.heap[b]? = some (.cells #[x0, x1, x2, x3, x4, x5, x6, x7, x8, x9, x10] 35 (0, 0))) : (results Try.f38 tm).run Try.prog w = .ok (.agg #[x0, x1, x2, x3, x4, x5, x6, x7, x8, x9, x10]) w := by
  have c0 : w.cell? ⟨b, 0, none⟩ = some x0 := blk_cell hb 0
  have c1 : w.cell? ⟨b, 1, none⟩ = some x1 := blk_cell hb 1
  have c2 : w.cell? ⟨b, 2, none⟩ = some x2 := blk_cell hb 2
  have c3 : w.cell? ⟨b, 3, none⟩ = some x3 := blk_cell hb 3
  have c4 : w.cell? ⟨b, 4, none⟩ = some x4 := blk_cell hb 4
  have c5 : w.cell? ⟨b, 5, none⟩ = some x5 := blk_cell hb 5
  have c6 : w.cell? ⟨b, 6, none⟩ = some x6 := blk_cell hb 6
  have c7 : w.cell? ⟨b, 7, none⟩ = some x7 := blk_cell hb 7
  have c8 : w.cell? ⟨b, 8, none⟩ = some x8 := blk_cell hb 8
  have c9 : w.cell? ⟨b, 9, none⟩ = some x9 := blk_cell hb 9
  have c10 : w.cell? ⟨b, 10, none⟩ = some x10 := blk_cell hb 10
  clear hb
  have k2 : tm[2]?.getD undef = .pointer (some ⟨b, 0, none⟩) := by simpa using h2
  simp [results, k2, Try.results38, go_sem, c0, c1, c2, c3, c4, c5, c6, c7, c8, c9, c10]
set_option maxHeartbeats 8000000 in
set_option maxRecDepth 1000000 in
theorem told31_zero (w : World) : Calls Try.prog 38 #[zview] w fun en w' => en = .returned ztold ∧ Below w.heap.size w w' := by
  unfold zview ztold
  go_enter Try.func38, Try.ntmps38
  go_wp2
  have hX : Hid (((w.alloc (Obj.cells #[.int .i64 0, .slice none 0 0, .slice none 0 0, .slice none 0 0, .slice none 0 0, .slice none 0 0, .slice none 0 0, .slice none 0 0, .int .i64 0, .slice none 0 0, .slice none 0 0, .slice none 0 0] 45)).alloc (Obj.cells #[.int .i64 0, .slice none 0 0, .slice none 0 0, .slice none 0 0, .slice none 0 0, .slice none 0 0, .slice none 0 0, .int .i64 0, .slice none 0 0, .slice none 0 0, .slice none 0 0] 35)).heap[w.heap.size]? = some (Obj.cells #[.int .i64 0, .slice none 0 0, .slice none 0 0, .slice none 0 0, .slice none 0 0, .slice none 0 0, .slice none 0 0, .slice none 0 0, .int .i64 0, .slice none 0 0, .slice none 0 0, .slice none 0 0] 45)) := Lib.hid (blk_alloc (blk_new w _) _)
  have hR : Hid (((w.alloc (Obj.cells #[.int .i64 0, .slice none 0 0, .slice none 0 0, .slice none 0 0, .slice none 0 0, .slice none 0 0, .slice none 0 0, .slice none 0 0, .int .i64 0, .slice none 0 0, .slice none 0 0, .slice none 0 0] 45)).alloc (Obj.cells #[.int .i64 0, .slice none 0 0, .slice none 0 0, .slice none 0 0, .slice none 0 0, .slice none 0 0, .slice none 0 0, .int .i64 0, .slice none 0 0, .slice none 0 0, .slice none 0 0] 35)).heap[w.heap.size + 1]? = some (Obj.cells #[.int .i64 0, .slice none 0 0, .slice none 0 0, .slice none 0 0, .slice none 0 0, .slice none 0 0, .slice none 0 0, .int .i64 0, .slice none 0 0, .slice none 0 0, .slice none 0 0] 35)) := Lib.hid (blk_newb _ _ _ (by simp))
  have hB : Hid (Below w.heap.size w ((w.alloc (Obj.cells #[.int .i64 0, .slice none 0 0, .slice none 0 0, .slice none 0 0, .slice none 0 0, .slice none 0 0, .slice none 0 0, .slice none 0 0, .int .i64 0, .slice none 0 0, .slice none 0 0, .slice none 0 0] 45)).alloc (Obj.cells #[.int .i64 0, .slice none 0 0, .slice none 0 0, .slice none 0 0, .slice none 0 0, .slice none 0 0, .slice none 0 0, .int .i64 0, .slice none 0 0, .slice none 0 0, .slice none 0 0] 35))) := Lib.hid (below_alloc (below_alloc (Below.refl w.heap.size w) _) _)
  have hs : w.heap.size + 2 ≤ ((w.alloc (Obj.cells #[.int .i64 0, .slice none 0 0, .slice none 0 0, .slice none 0 0, .slice none 0 0, .slice none 0 0, .slice none 0 0, .slice none 0 0, .int .i64 0, .slice none 0 0, .slice none 0 0, .slice none 0 0] 45)).alloc (Obj.cells #[.int .i64 0, .slice none 0 0, .slice none 0 0, .slice none 0 0, .slice none 0 0, .slice none 0 0, .slice none 0 0, .int .i64 0, .slice none 0 0, .slice none 0 0, .slice none 0 0] 35)).heap.size := by simp
  generalize (w.alloc (Obj.cells #[.int .i64 0, .slice none 0 0, .slice none 0 0, .slice none 0 0, .slice none 0 0, .slice none 0 0, .slice none 0 0, .slice none 0 0, .int .i64 0, .slice none 0 0, .slice none 0 0, .slice none 0 0] 45)).alloc (Obj.cells #[.int .i64 0, .slice none 0 0, .slice none 0 0, .slice none 0 0, .slice none 0 0, .slice none 0 0, .slice none 0 0, .int .i64 0, .slice none 0 0, .slice none 0 0, .slice none 0 0] 35) = W at hX hR hB hs ⊢
  refine start_ (ds := ([] : List Nat)) (n := 17) (S := fun w' => w'.cell? ⟨w.heap.size, 0, none⟩ = some (.int .i64 0) ∧ w'.cell? ⟨w.heap.size, 1, none⟩ = some (.slice none 0 0) ∧ w'.cell? ⟨w.heap.size, 4, none⟩ = some (.slice none 0 0) ∧ w'.cell? ⟨w.heap.size, 6, none⟩ = some (.slice none 0 0) ∧ w'.cell? ⟨w.heap.size, 7, none⟩ = some (.slice none 0 0) ∧ w'.cell? ⟨w.heap.size, 8, none⟩ = some (.int .i64 0)) #[false, false, false, false, false, false, false, false, false, false, false, false, false, false, false, false, false] (by kernel_rfl) (by rfl) (by rfl) ⟨blk_cell (blk_drew hX.out) 0, blk_cell (blk_drew hX.out) 1, blk_cell (blk_drew hX.out) 4, blk_cell (blk_drew hX.out) 6, blk_cell (blk_drew hX.out) 7, blk_cell (blk_drew hX.out) 8⟩ (fun hHeld => ?_)
  replace hX := Lib.hid (blk_drew hX.out)
  replace hR := Lib.hid (blk_drew hR.out)
  replace hB := Lib.hid (below_drew1 hB.out)
  replace hs : w.heap.size + 2 ≤ W.drew.heap.size := hs
  generalize W.drew = W5 at hX hR hB hs hHeld ⊢
  refine pure_ (i := 0) (N := some 12) (v := ?_) (a' := ?_) #[true, false, false, false, false, false, false, false, false, false, false, false, false, false, false, false, false] rfl rfl (by kernel_rfl) (fun _ _ _ h => h) (Or.inl ⟨by rfl, ?_⟩) ?_ ?_
  rotate_left
  · intro w2
    go_simp
    with_reducible rfl
  rotate_left
  · simp only [putAll, Act.put, List.setIfInBounds_toArray, List.set_cons_zero, List.set_cons_succ, i64_w, i32_w]
    rfl
  refine pure_ (i := 2) (N := some 14) (v := ?_) (a' := ?_) #[true, false, true, false, false, false, false, false, false, false, false, false, false, false, false, false, false] rfl rfl (by kernel_rfl) (fun _ _ _ h => h) (Or.inl ⟨by rfl, ?_⟩) ?_ ?_
  rotate_left
  · intro w2
    go_simp
    with_reducible rfl
  rotate_left
  · simp only [putAll, Act.put, List.setIfInBounds_toArray, List.set_cons_zero, List.set_cons_succ, i64_w, i32_w]
    rfl
  refine pure_ (i := 5) (N := some 17) (v := ?_) (a' := ?_) #[true, false, true, false, false, true, false, false, false, false, false, false, false, false, false, false, false] rfl rfl (by kernel_rfl) (fun _ _ _ h => h) (Or.inl ⟨by rfl, ?_⟩) ?_ ?_
  rotate_left
  · intro w2
    go_simp
    with_reducible rfl
  rotate_left
  · simp only [putAll, Act.put, List.setIfInBounds_toArray, List.set_cons_zero, List.set_cons_succ, i64_w, i32_w]
    rfl
  refine pure_ (i := 7) (N := some 19) (v := ?_) (a' := ?_) #[true, false, true, false, false, true, false, true, false, false, false, false, false, false, false, false, false] rfl rfl (by kernel_rfl) (fun _ _ _ h => h) (Or.inl ⟨by rfl, ?_⟩) ?_ ?_
  rotate_left
  · intro w2
    go_simp
    with_reducible rfl
  rotate_left
  · simp only [putAll, Act.put, List.setIfInBounds_toArray, List.set_cons_zero, List.set_cons_succ, i64_w, i32_w]
    rfl
  refine pure_ (i := 9) (N := some 21) (v := ?_) (a' := ?_) #[true, false, true, false, false, true, false, true, false, true, false, false, false, false, false, false, false] rfl rfl (by kernel_rfl) (fun _ _ _ h => h) (Or.inl ⟨by rfl, ?_⟩) ?_ ?_
  rotate_left
  · intro w2
    go_simp
    with_reducible rfl
  rotate_left
  · simp only [putAll, Act.put, List.setIfInBounds_toArray, List.set_cons_zero, List.set_cons_succ, i64_w, i32_w]
    rfl
  refine pure_ (i := 11) (N := some 23) (v := ?_) (a' := ?_) #[true, false, true, false, false, true, false, true, false, true, false, true, false, false, false, false, false] rfl rfl (by kernel_rfl) (fun _ _ _ h => h) (Or.inl ⟨by rfl, ?_⟩) ?_ ?_
  rotate_left
  · intro w2
    go_simp
    with_reducible rfl
  rotate_left
  · simp only [putAll, Act.put, List.setIfInBounds_toArray, List.set_cons_zero, List.set_cons_succ, i64_w, i32_w]
    rfl
  refine take_ (i := 1) (N := some 13) (v := ?_) (a' := ?_) #[true, true, true, false, false, true, false, true, false, true, false, true, false, false, false, false, false] rfl rfl (by kernel_rfl) (fun _ _ _ h => h) (Or.inl ⟨by rfl, ?_⟩) hHeld ?_ ?_
  rotate_left
  · rintro w2 ⟨s0, s1, s4, s6, s7, s8⟩
    go_simp
    with_reducible rfl
  rotate_left
  · simp only [putAll, Act.put, List.setIfInBounds_toArray, List.set_cons_zero, List.set_cons_succ, i64_w, i32_w]
    rfl
  refine take_ (i := 3) (N := some 15) (v := ?_) (a' := ?_) #[true, true, true, true, false, true, false, true, false, true, false, true, false, false, false, false, false] rfl rfl (by kernel_rfl) (fun _ _ _ h => h) (Or.inl ⟨by rfl, ?_⟩) hHeld ?_ ?_
  rotate_left
  · rintro w2 ⟨s0, s1, s4, s6, s7, s8⟩
    go_simp
    with_reducible rfl
  rotate_left
  · simp only [putAll, Act.put, List.setIfInBounds_toArray, List.set_cons_zero, List.set_cons_succ, i64_w, i32_w]
    rfl
  refine take_ (i := 6) (N := some 18) (v := ?_) (a' := ?_) #[true, true, true, true, false, true, true, true, false, true, false, true, false, false, false, false, false] rfl rfl (by kernel_rfl) (fun _ _ _ h => h) (Or.inl ⟨by rfl, ?_⟩) hHeld ?_ ?_
  rotate_left
  · rintro w2 ⟨s0, s1, s4, s6, s7, s8⟩
    go_simp
    with_reducible rfl
  rotate_left
  · simp only [putAll, Act.put, List.setIfInBounds_toArray, List.set_cons_zero, List.set_cons_succ, i64_w, i32_w]
    rfl
  refine take_ (i := 8) (N := some 20) (v := ?_) (a' := ?_) #[true, true, true, true, false, true, true, true, true, true, false, true, false, false, false, false, false] rfl rfl (by kernel_rfl) (fun _ _ _ h => h) (Or.inl ⟨by rfl, ?_⟩) hHeld ?_ ?_
  rotate_left
  · rintro w2 ⟨s0, s1, s4, s6, s7, s8⟩
    go_simp
    with_reducible rfl
  rotate_left
  · simp only [putAll, Act.put, List.setIfInBounds_toArray, List.set_cons_zero, List.set_cons_succ, i64_w, i32_w]
    rfl
  refine take_ (i := 10) (N := some 22) (v := ?_) (a' := ?_) #[true, true, true, true, false, true, true, true, true, true, true, true, false, false, false, false, false] rfl rfl (by kernel_rfl) (fun _ _ _ h => h) (Or.inl ⟨by rfl, ?_⟩) hHeld ?_ ?_
  rotate_left
  · rintro w2 ⟨s0, s1, s4, s6, s7, s8⟩
    go_simp
    with_reducible rfl
  rotate_left
  · simp only [putAll, Act.put, List.setIfInBounds_toArray, List.set_cons_zero, List.set_cons_succ, i64_w, i32_w]
    rfl
  refine take_ (i := 12) (N := some 24) (v := ?_) (a' := ?_) #[true, true, true, true, false, true, true, true, true, true, true, true, true, false, false, false, false] rfl rfl (by kernel_rfl) (fun _ _ _ h => h) (Or.inl ⟨by rfl, ?_⟩) hHeld ?_ ?_
  rotate_left
  · rintro w2 ⟨s0, s1, s4, s6, s7, s8⟩
    go_simp
    with_reducible rfl
  rotate_left
  · simp only [putAll, Act.put, List.setIfInBounds_toArray, List.set_cons_zero, List.set_cons_succ, i64_w, i32_w]
    rfl
  refine pure_ (i := 13) (N := some 25) (v := ?_) (a' := ?_) #[true, true, true, true, false, true, true, true, true, true, true, true, true, true, false, false, false] rfl rfl (by kernel_rfl) (fun _ _ _ h => h) (Or.inl ⟨by rfl, ?_⟩) ?_ ?_
  rotate_left
  · intro w2
    go_simp
    with_reducible rfl
  rotate_left
  · simp only [putAll, Act.put, List.setIfInBounds_toArray, List.set_cons_zero, List.set_cons_succ, i64_w, i32_w]
    rfl
  refine join_ 1 #[true, true, true, true, true, true, true, true, true, true, true, true, true, true, true, true, false] (fun _ : Unit => [(16, .slice none 0 0), (26, .agg #[.int .i64 0, .slice none 0 0, .slice none 0 0, .slice none 0 0, .slice none 0 0, .slice none 0 0, .slice none 0 0, .int .i64 0, .slice none 0 0, .slice none 0 0, .slice none 0 0]), (3, .pointer (some ⟨W5.heap.size, 0, none⟩))]) (fun _ W' => W' = W5.alloc (Obj.cells #[.int .i64 0, .slice none 0 0, .slice none 0 0, .slice none 0 0, .slice none 0 0, .slice none 0 0, .slice none 0 0, .int .i64 0, .slice none 0 0, .slice none 0 0, .slice none 0 0] 35)) (fun _ W' hF => ?_) (fun hA => ?_)
  rotate_left
  · -- the orders
    refine two_ (i := 4) (j := 15) (Ni := some 16) (Nj := some 3) #[true, true, true, true, true, true, true, true, true, true, true, true, true, true, false, false, false] #[true, true, true, true, false, true, true, true, true, true, true, true, true, true, false, true, false] rfl rfl rfl rfl (by kernel_rfl) (by decide) (by decide) (fun K hK => ?_) (fun K hK => ?_)
    · skip
      refine goes_ Try.func57 (by kernel_rfl) rfl #[.slice none 0 0] (by rfl) rfl rfl (by first | rfl | (simp only [List.map_toArray, List.map_cons, List.map_nil]; rfl)) ?_
      refine (nil57 _).mono ?_
      rintro en w3 ⟨rfl, rfl⟩
      refine ⟨_, rfl, ?_⟩
      refine hK.out _ _ ⟨blk_cell hX.out 0, blk_cell hX.out 1, blk_cell hX.out 4, blk_cell hX.out 6, blk_cell hX.out 7, blk_cell hX.out 8⟩ (fun _ => ?_)
      clear hK K
      refine norm_ (a' := ?_) ?_ ?_
      rotate_left
      · show Act.put _ (some 16) _ = _
        simp only [putAll, Act.put, List.setIfInBounds_toArray, List.set_cons_zero, List.set_cons_succ, i64_w, i32_w]
        rfl
      refine pure_ (i := 14) (N := some 26) (v := ?_) (a' := ?_) #[true, true, true, true, true, true, true, true, true, true, true, true, true, true, true, false, false] rfl rfl (by kernel_rfl) (fun _ _ _ h => h) (Or.inl ⟨by rfl, ?_⟩) ?_ ?_
      rotate_left
      · intro w2
        go_simp
        with_reducible rfl
      rotate_left
      · simp only [putAll, Act.put, List.setIfInBounds_toArray, List.set_cons_zero, List.set_cons_succ, i64_w, i32_w]
        rfl
      refine one_ (i := 15) (N := some 3) #[true, true, true, true, true, true, true, true, true, true, true, true, true, true, true, true, false] rfl rfl (by kernel_rfl) (by decide) (fun K hK => ?_)
      refine value_ (w1 := ?_) (v := ?_) (by rfl) rfl ?_ ?_
      rotate_left 2
      · go_simp
        constructor
        · rfl
        · rfl
      refine hK.out _ _ ⟨blk_cell (blk_alloc hX.out _) 0, blk_cell (blk_alloc hX.out _) 1, blk_cell (blk_alloc hX.out _) 4, blk_cell (blk_alloc hX.out _) 6, blk_cell (blk_alloc hX.out _) 7, blk_cell (blk_alloc hX.out _) 8⟩ (fun _ => ?_)
      clear hK K
      refine norm_ ?_ (hA () _ rfl)
      simp only [putAll, Act.put, List.setIfInBounds_toArray, List.set_cons_zero, List.set_cons_succ, i64_w, i32_w]
    · skip
      refine value_ (w1 := ?_) (v := ?_) (by rfl) rfl ?_ ?_
      rotate_left 2
      · go_simp
        constructor
        · rfl
        · rfl
      refine hK.out _ _ ⟨blk_cell (blk_alloc hX.out _) 0, blk_cell (blk_alloc hX.out _) 1, blk_cell (blk_alloc hX.out _) 4, blk_cell (blk_alloc hX.out _) 6, blk_cell (blk_alloc hX.out _) 7, blk_cell (blk_alloc hX.out _) 8⟩ (fun _ => ?_)
      clear hK K
      refine norm_ (a' := ?_) ?_ ?_
      rotate_left
      · show Act.put _ (some 3) _ = _
        simp only [putAll, Act.put, List.setIfInBounds_toArray, List.set_cons_zero, List.set_cons_succ, i64_w, i32_w]
        rfl
      refine one_ (i := 4) (N := some 16) #[true, true, true, true, true, true, true, true, true, true, true, true, true, true, false, true, false] rfl rfl (by kernel_rfl) (by decide) (fun K hK => ?_)
      refine goes_ Try.func57 (by kernel_rfl) rfl #[.slice none 0 0] (by rfl) rfl rfl (by first | rfl | (simp only [List.map_toArray, List.map_cons, List.map_nil]; rfl)) ?_
      refine (nil57 _).mono ?_
      rintro en w3 ⟨rfl, rfl⟩
      refine ⟨_, rfl, ?_⟩
      refine hK.out _ _ ⟨blk_cell (blk_alloc hX.out _) 0, blk_cell (blk_alloc hX.out _) 1, blk_cell (blk_alloc hX.out _) 4, blk_cell (blk_alloc hX.out _) 6, blk_cell (blk_alloc hX.out _) 7, blk_cell (blk_alloc hX.out _) 8⟩ (fun _ => ?_)
      clear hK K
      refine norm_ (a' := ?_) ?_ ?_
      rotate_left
      · show Act.put _ (some 16) _ = _
        simp only [putAll, Act.put, List.setIfInBounds_toArray, List.set_cons_zero, List.set_cons_succ, i64_w, i32_w]
        rfl
      refine pure_ (i := 14) (N := some 26) (v := ?_) (a' := ?_) #[true, true, true, true, true, true, true, true, true, true, true, true, true, true, true, true, false] rfl rfl (by kernel_rfl) (fun _ _ _ h => h) (Or.inl ⟨by rfl, ?_⟩) ?_ ?_
      rotate_left
      · intro w2
        go_simp
        with_reducible rfl
      rotate_left
      · simp only [putAll, Act.put, List.setIfInBounds_toArray, List.set_cons_zero, List.set_cons_succ, i64_w, i32_w]
        rfl
      refine norm_ ?_ (hA () _ rfl)
      simp only [putAll, Act.put, List.setIfInBounds_toArray, List.set_cons_zero, List.set_cons_succ, i64_w, i32_w]
  subst hF
  clear hHeld
  refine norm_ (a' := ?_) ?_ ?_
  rotate_left
  · simp only [putAll, Act.put, List.setIfInBounds_toArray, List.set_cons_zero, List.set_cons_succ, i64_w, i32_w]
    rfl
  have HM := Lib.hid (blk_new W5 (Obj.cells #[.int .i64 0, .slice none 0 0, .slice none 0 0, .slice none 0 0, .slice none 0 0, .slice none 0 0, .slice none 0 0, .int .i64 0, .slice none 0 0, .slice none 0 0, .slice none 0 0] 35))
  replace hX := Lib.hid (blk_alloc hX.out (Obj.cells #[.int .i64 0, .slice none 0 0, .slice none 0 0, .slice none 0 0, .slice none 0 0, .slice none 0 0, .slice none 0 0, .int .i64 0, .slice none 0 0, .slice none 0 0, .slice none 0 0] 35))
  replace hR := Lib.hid (blk_alloc hR.out (Obj.cells #[.int .i64 0, .slice none 0 0, .slice none 0 0, .slice none 0 0, .slice none 0 0, .slice none 0 0, .slice none 0 0, .int .i64 0, .slice none 0 0, .slice none 0 0, .slice none 0 0] 35))
  replace hB := Lib.hid (below_alloc hB.out (Obj.cells #[.int .i64 0, .slice none 0 0, .slice none 0 0, .slice none 0 0, .slice none 0 0, .slice none 0 0, .slice none 0 0, .int .i64 0, .slice none 0 0, .slice none 0 0, .slice none 0 0] 35))
  have hsb : w.heap.size + 2 ≤ W5.heap.size := hs
  clear hs
  generalize W5.alloc (Obj.cells #[.int .i64 0, .slice none 0 0, .slice none 0 0, .slice none 0 0, .slice none 0 0, .slice none 0 0, .slice none 0 0, .int .i64 0, .slice none 0 0, .slice none 0 0, .slice none 0 0] 35) = W6 at HM hX hR hB ⊢
  generalize W5.heap.size = b at HM hsb ⊢
  refine one_ (i := 16) (N := none) #[true, true, true, true, true, true, true, true, true, true, true, true, true, true, true, true, true] rfl rfl (by kernel_rfl) (by decide) (fun K hK => ?_)
  refine store_step 35 (.tmp 3) (.tmp 26) (.agg #[.int .i64 0, .slice none 0 0, .slice none 0 0, .slice none 0 0, .slice none 0 0, .slice none 0 0, .slice none 0 0, .int .i64 0, .slice none 0 0, .slice none 0 0, .slice none 0 0]) [.int .i64 0, .slice none 0 0, .slice none 0 0, .slice none 0 0, .slice none 0 0, .slice none 0 0, .slice none 0 0, .int .i64 0, .slice none 0 0, .slice none 0 0, .slice none 0 0] #[.int .i64 0, .slice none 0 0, .slice none 0 0, .slice none 0 0, .slice none 0 0, .slice none 0 0, .slice none 0 0, .int .i64 0, .slice none 0 0, .slice none 0 0, .slice none 0 0] #[.int .i64 0, .slice none 0 0, .slice none 0 0, .slice none 0 0, .slice none 0 0, .slice none 0 0, .slice none 0 0, .int .i64 0, .slice none 0 0, .slice none 0 0, .slice none 0 0] b 0 35 (by rfl) rfl rfl rfl rfl HM.out rfl (by kernel_rfl) (by simp) rfl rfl ?_
  intro w1 hw
  replace hX := Lib.hid (hw.blk hX.out (by omega))
  replace hR := Lib.hid (hw.blk hR.out (by omega))
  replace hB := Lib.hid (hw.below hB.out (by omega))
  replace HM := Lib.hid hw.row
  clear hw
  refine hK.out _ _ ⟨blk_cell hX.out 0, blk_cell hX.out 1, blk_cell hX.out 4, blk_cell hX.out 6, blk_cell hX.out 7, blk_cell hX.out 8⟩ (fun _ => ?_)
  clear hK K
  refine done_ (by kernel_rfl) ?_
  have hx2 : w1.cell? ⟨w.heap.size, 2, none⟩ = some (.slice none 0 0) := blk_cell hX.out 2
  have hx5 : w1.cell? ⟨w.heap.size, 5, none⟩ = some (.slice none 0 0) := blk_cell hX.out 5
  have hx9 : w1.cell? ⟨w.heap.size, 9, none⟩ = some (.slice none 0 0) := blk_cell hX.out 9
  have hx10 : w1.cell? ⟨w.heap.size, 10, none⟩ = some (.slice none 0 0) := blk_cell hX.out 10
  have hx11 : w1.cell? ⟨w.heap.size, 11, none⟩ = some (.slice none 0 0) := blk_cell hX.out 11
  go_wp2
  go_loop [4] (fun i => i = .int .i64 0) (fun _ => 0)
  case atStart => exact rfl
  case round =>
    obtain rfl := hrel
    go_wp2
    go_loop [7] (fun i => i = .int .i64 0) (fun _ => 0)
    case atStart => exact rfl
    case round =>
      obtain rfl := hrel
      go_wp2
      go_loop [9] (fun i => i = .int .i64 0) (fun _ => 0)
      case atStart => exact rfl
      case round =>
        obtain rfl := hrel
        go_wp2
        go_loop [10] (fun i => i = .int .i64 0) (fun _ => 0)
        case atStart => exact rfl
        case round =>
          obtain rfl := hrel
          go_wp2
          go_loop [11] (fun i => i = .int .i64 0) (fun _ => 0)
          case atStart => exact rfl
          case round =>
            obtain rfl := hrel
            have hm0 := blk_cell HM.out 0
            have hm1 := blk_cell HM.out 1
            have hm2 := blk_cell HM.out 2
            have hm3 := blk_cell HM.out 3
            have hm4 := blk_cell HM.out 4
            have hm5 := blk_cell HM.out 5
            have hm6 := blk_cell HM.out 6
            have hm7 := blk_cell HM.out 7
            have hm8 := blk_cell HM.out 8
            have hm9 := blk_cell HM.out 9
            have hm10 := blk_cell HM.out 10
            go_wp2_with ((with_reducible refine gate_ (.store 35 (.tmp 2) (.tmp 205)) rfl ?_); refine store_plain 35 (.tmp 2) (.tmp 205) (.agg #[.int .i64 0, .slice none 0 0, .slice none 0 0, .slice none 0 0, .slice none 0 0, .slice none 0 0, .slice none 0 0, .int .i64 0, .slice none 0 0, .slice none 0 0, .slice none 0 0]) [.int .i64 0, .slice none 0 0, .slice none 0 0, .slice none 0 0, .slice none 0 0, .slice none 0 0, .slice none 0 0, .int .i64 0, .slice none 0 0, .slice none 0 0, .slice none 0 0] #[.int .i64 0, .slice none 0 0, .slice none 0 0, .slice none 0 0, .slice none 0 0, .slice none 0 0, .slice none 0 0, .int .i64 0, .slice none 0 0, .slice none 0 0, .slice none 0 0] #[.int .i64 0, .slice none 0 0, .slice none 0 0, .slice none 0 0, .slice none 0 0, .slice none 0 0, .slice none 0 0, .int .i64 0, .slice none 0 0, .slice none 0 0, .slice none 0 0] (w.heap.size + 1) 0 35 rfl rfl rfl rfl rfl hR.out rfl (by kernel_rfl) (by simp) rfl rfl ?_; intro w2 hw; have HW := Lib.hid hw; clear hw)
            have hBl := HW.out.below (w0 := w) hB.out (by omega)
            exact bodyPost_ret (results_told _ (w.heap.size + 1) _ _ _ _ _ _ _ _ _ _ _ _ rfl HW.out.row) rfl ⟨rfl, hBl⟩
end Go.Proofs.Ytlkfbdeddfhocaa

set_option linter.unusedVariables false
set_option linter.unusedSimpArgs false
namespace Go.Proofs.Ytlkfbdeddfhocaa
open Go.Proofs Go.RowKit Go.Proofs.YtlkfbdeddfhocaaW.PrintWords Go.Proofs.YtlkfbdeddfhocaaW.PrintLast Go.Proofs.YtlkfbdeddfhocaaW.PrintMore Q

set_option maxHeartbeats 8000000 in
set_option maxRecDepth 1000000 in
theorem same_zero (w : World) : Calls Try.prog 10 #[zview, zview] w fun en w' => en = .returned (.bool true) ∧ Below w.heap.size w w' := by
  have hZ : zview = .agg #[.int .i64 0, .slice none 0 0, .slice none 0 0, .slice none 0 0, .slice none 0 0, .slice none 0 0, .slice none 0 0, .slice none 0 0, .int .i64 0, .slice none 0 0, .slice none 0 0, .slice none 0 0] := rfl
  have HT := Lib.hid told31_zero
  rw [hZ] at HT ⊢
  clear hZ
  have HSm := Lib.hid same31_zero
  go_enter Try.func10, Try.ntmps10
  go_wp2
  go_loop [5] (fun i => i = .int .i64 0) (fun _ => 0)
  case atStart => exact rfl
  case round =>
    obtain rfl := hrel
    go_wp2
    have hX : Hid (((w.alloc (Obj.cells #[.int .i64 0, .slice none 0 0, .slice none 0 0, .slice none 0 0, .slice none 0 0, .slice none 0 0, .slice none 0 0, .slice none 0 0, .int .i64 0, .slice none 0 0, .slice none 0 0, .slice none 0 0] 45)).alloc (Obj.cells #[.int .i64 0, .slice none 0 0, .slice none 0 0, .slice none 0 0, .slice none 0 0, .slice none 0 0, .slice none 0 0, .slice none 0 0, .int .i64 0, .slice none 0 0, .slice none 0 0, .slice none 0 0] 45)).heap[w.heap.size]? = some (Obj.cells #[.int .i64 0, .slice none 0 0, .slice none 0 0, .slice none 0 0, .slice none 0 0, .slice none 0 0, .slice none 0 0, .slice none 0 0, .int .i64 0, .slice none 0 0, .slice none 0 0, .slice none 0 0] 45)) := Lib.hid (blk_alloc (blk_new w _) _)
    have hY : Hid (((w.alloc (Obj.cells #[.int .i64 0, .slice none 0 0, .slice none 0 0, .slice none 0 0, .slice none 0 0, .slice none 0 0, .slice none 0 0, .slice none 0 0, .int .i64 0, .slice none 0 0, .slice none 0 0, .slice none 0 0] 45)).alloc (Obj.cells #[.int .i64 0, .slice none 0 0, .slice none 0 0, .slice none 0 0, .slice none 0 0, .slice none 0 0, .slice none 0 0, .slice none 0 0, .int .i64 0, .slice none 0 0, .slice none 0 0, .slice none 0 0] 45)).heap[w.heap.size + 1]? = some (Obj.cells #[.int .i64 0, .slice none 0 0, .slice none 0 0, .slice none 0 0, .slice none 0 0, .slice none 0 0, .slice none 0 0, .slice none 0 0, .int .i64 0, .slice none 0 0, .slice none 0 0, .slice none 0 0] 45)) := Lib.hid (blk_newb _ _ _ (by simp))
    have hB : Hid (Below w.heap.size w ((w.alloc (Obj.cells #[.int .i64 0, .slice none 0 0, .slice none 0 0, .slice none 0 0, .slice none 0 0, .slice none 0 0, .slice none 0 0, .slice none 0 0, .int .i64 0, .slice none 0 0, .slice none 0 0, .slice none 0 0] 45)).alloc (Obj.cells #[.int .i64 0, .slice none 0 0, .slice none 0 0, .slice none 0 0, .slice none 0 0, .slice none 0 0, .slice none 0 0, .slice none 0 0, .int .i64 0, .slice none 0 0, .slice none 0 0, .slice none 0 0] 45))) := Lib.hid (below_alloc (below_alloc (Below.refl w.heap.size w) _) _)
    generalize (w.alloc (Obj.cells #[.int .i64 0, .slice none 0 0, .slice none 0 0, .slice none 0 0, .slice none 0 0, .slice none 0 0, .slice none 0 0, .slice none 0 0, .int .i64 0, .slice none 0 0, .slice none 0 0, .slice none 0 0] 45)).alloc (Obj.cells #[.int .i64 0, .slice none 0 0, .slice none 0 0, .slice none 0 0, .slice none 0 0, .slice none 0 0, .slice none 0 0, .slice none 0 0, .int .i64 0, .slice none 0 0, .slice none 0 0, .slice none 0 0] 45) = W at hX hY hB ⊢
    refine start_ (ds := ([] : List Nat)) (n := 6) (S := fun w' => w'.heap[w.heap.size]? = some (Obj.cells #[.int .i64 0, .slice none 0 0, .slice none 0 0, .slice none 0 0, .slice none 0 0, .slice none 0 0, .slice none 0 0, .slice none 0 0, .int .i64 0, .slice none 0 0, .slice none 0 0, .slice none 0 0] 45) ∧ w'.heap[w.heap.size + 1]? = some (Obj.cells #[.int .i64 0, .slice none 0 0, .slice none 0 0, .slice none 0 0, .slice none 0 0, .slice none 0 0, .slice none 0 0, .slice none 0 0, .int .i64 0, .slice none 0 0, .slice none 0 0, .slice none 0 0] 45)) #[false, false, false, false, false, false] (by kernel_rfl) (by rfl) (by rfl) ⟨blk_drew hX.out, blk_drew hY.out⟩ (fun hHeld => ?_)
    clear hX hY
    replace hB := Lib.hid (below_drew1 hB.out)
    replace hHeld := Lib.hid hHeld
    generalize W.drew = W5 at hB hHeld ⊢
    refine take_ (i := 0) (N := some 40) (v := ?_) (a' := ?_) #[true, false, false, false, false, false] rfl rfl (by kernel_rfl) (fun _ _ _ h => h) (Or.inl ⟨by rfl, ?_⟩) hHeld.out ?_ ?_
    rotate_left
    · rintro w2 s0
      have f0 := blk_cell s0.1 0
      have f1 := blk_cell s0.1 1
      have f2 := blk_cell s0.1 2
      have f3 := blk_cell s0.1 3
      have f4 := blk_cell s0.1 4
      have f5 := blk_cell s0.1 5
      have f6 := blk_cell s0.1 6
      have f7 := blk_cell s0.1 7
      have f8 := blk_cell s0.1 8
      have f9 := blk_cell s0.1 9
      have f10 := blk_cell s0.1 10
      have f11 := blk_cell s0.1 11
      clear s0
      go_simp
      with_reducible rfl
    rotate_left
    · simp only [putAll, Act.put, List.setIfInBounds_toArray, List.set_cons_zero, List.set_cons_succ, i64_w, i32_w]
      rfl
    refine take_ (i := 2) (N := some 42) (v := ?_) (a' := ?_) #[true, false, true, false, false, false] rfl rfl (by kernel_rfl) (fun _ _ _ h => h) (Or.inl ⟨by rfl, ?_⟩) hHeld.out ?_ ?_
    rotate_left
    · rintro w2 s0
      have f0 := blk_cell s0.2 0
      have f1 := blk_cell s0.2 1
      have f2 := blk_cell s0.2 2
      have f3 := blk_cell s0.2 3
      have f4 := blk_cell s0.2 4
      have f5 := blk_cell s0.2 5
      have f6 := blk_cell s0.2 6
      have f7 := blk_cell s0.2 7
      have f8 := blk_cell s0.2 8
      have f9 := blk_cell s0.2 9
      have f10 := blk_cell s0.2 10
      have f11 := blk_cell s0.2 11
      clear s0
      go_simp
      with_reducible rfl
    rotate_left
    · simp only [putAll, Act.put, List.setIfInBounds_toArray, List.set_cons_zero, List.set_cons_succ, i64_w, i32_w]
      rfl
    refine one_ (i := 1) (N := some 41) #[true, true, true, false, false, false] rfl rfl (by kernel_rfl) (by decide) (fun K hK => ?_)
    refine goes_ Try.func38 (by kernel_rfl) rfl #[.agg #[.int .i64 0, .slice none 0 0, .slice none 0 0, .slice none 0 0, .slice none 0 0, .slice none 0 0, .slice none 0 0, .slice none 0 0, .int .i64 0, .slice none 0 0, .slice none 0 0, .slice none 0 0]] (by rfl) rfl rfl (by first | rfl | (simp only [List.map_toArray, List.map_cons, List.map_nil]; rfl)) ?_
    refine (HT.out _).mono ?_
    rintro en w3 ⟨rfl, hb⟩
    refine ⟨_, rfl, ?_⟩
    replace hHeld := Lib.hid (show _ ∧ _ from ⟨blk_below hHeld.out.1 hb, blk_below hHeld.out.2 hb⟩)
    replace hB := Lib.hid (below_step hB.out hb)
    clear hb
    refine hK.out _ _ hHeld.out (fun _ => ?_)
    clear hK K
    refine norm_ (a' := ?_) ?_ ?_
    rotate_left
    · show Act.put _ (some 41) _ = _
      simp only [putAll, Act.put, List.setIfInBounds_toArray, List.set_cons_zero, List.set_cons_succ, i64_w, i32_w]
      rfl
    refine one_ (i := 3) (N := some 43) #[true, true, true, true, false, false] rfl rfl (by kernel_rfl) (by decide) (fun K hK => ?_)
    refine goes_ Try.func38 (by kernel_rfl) rfl #[.agg #[.int .i64 0, .slice none 0 0, .slice none 0 0, .slice none 0 0, .slice none 0 0, .slice none 0 0, .slice none 0 0, .slice none 0 0, .int .i64 0, .slice none 0 0, .slice none 0 0, .slice none 0 0]] (by rfl) rfl rfl (by first | rfl | (simp only [List.map_toArray, List.map_cons, List.map_nil]; rfl)) ?_
    refine (HT.out _).mono ?_
    rintro en w3 ⟨rfl, hb⟩
    refine ⟨_, rfl, ?_⟩
    replace hHeld := Lib.hid (show _ ∧ _ from ⟨blk_below hHeld.out.1 hb, blk_below hHeld.out.2 hb⟩)
    replace hB := Lib.hid (below_step hB.out hb)
    clear hb
    refine hK.out _ _ hHeld.out (fun _ => ?_)
    clear hK K
    refine norm_ (a' := ?_) ?_ ?_
    rotate_left
    · show Act.put _ (some 43) _ = _
      simp only [putAll, Act.put, List.setIfInBounds_toArray, List.set_cons_zero, List.set_cons_succ, i64_w, i32_w]
      rfl
    refine one_ (i := 4) (N := some 44) #[true, true, true, true, true, false] rfl rfl (by kernel_rfl) (by decide) (fun K hK => ?_)
    refine goes_ Try.func37 (by kernel_rfl) rfl #[ztold, ztold] (by rfl) rfl rfl (by first | rfl | (simp only [List.map_toArray, List.map_cons, List.map_nil]; rfl)) ?_
    refine (HSm.out _).mono ?_
    rintro en w3 ⟨rfl, hb⟩
    refine ⟨_, rfl, ?_⟩
    replace hHeld := Lib.hid (show _ ∧ _ from ⟨blk_below hHeld.out.1 hb, blk_below hHeld.out.2 hb⟩)
    replace hB := Lib.hid (below_step hB.out hb)
    clear hb
    refine hK.out _ _ hHeld.out (fun _ => ?_)
    clear hK K
    refine norm_ (a' := ?_) ?_ ?_
    rotate_left
    · show Act.put _ (some 44) _ = _
      simp only [putAll, Act.put, List.setIfInBounds_toArray, List.set_cons_zero, List.set_cons_succ, i64_w, i32_w]
      rfl
    refine pure_ (i := 5) (N := some 4) (v := ?_) (a' := ?_) #[true, true, true, true, true, true] rfl rfl (by kernel_rfl) (fun _ _ _ h => h) (Or.inl ⟨by rfl, ?_⟩) ?_ ?_
    rotate_left
    · intro w2
      go_simp
      with_reducible rfl
    rotate_left
    · simp only [putAll, Act.put, List.setIfInBounds_toArray, List.set_cons_zero, List.set_cons_succ, i64_w, i32_w]
      rfl
    refine done_ (by kernel_rfl) ?_
    go_wp2
    go_ret
    exact ⟨rfl, hB.out⟩
end Go.Proofs.Ytlkfbdeddfhocaa

set_option linter.unusedVariables false
set_option linter.unusedSimpArgs false
namespace Go.Proofs.Ytlkfbdeddfhocaa
open Go.Proofs Go.RowKit Go.Proofs.YtlkfbdeddfhocaaW.PrintWords Go.Proofs.YtlkfbdeddfhocaaW.PrintLast Go.Proofs.YtlkfbdeddfhocaaW.PrintMore Q

theorem endR_whole (S : List UInt8) (q : Nat) (h : q = S.length) : endR S q 0 = (true, q, 0) := by
  unfold endR; rw [if_neg (by omega)]; rfl
/-- What is written is read as it was. -/
theorem decW_enc (v : Vw) (hv : okV v) : decW (mark ++ encV v) = (v, ((mark ++ encV v).length : Int), 0) := by
  have hd : (mark ++ encV v).drop 8 = encV v := rfl
  unfold decW
  rw [hd]
  have hf := good_view.full (encV v) 0 v [] (Nat.zero_le _) (by simp) hv
  rw [hf]
  simp only [Nat.zero_add]
  rw [endR_whole _ _ rfl]
  simp
/-- What is read is written as it stood there. -/
theorem decW_sound (T : List UInt8) (h8 : T.take 8 = mark) (h : (decW T).2.2 = 0) : okV (decW T).1 ∧ T = mark ++ encV (decW T).1 ∧ (decW T).2.1 = T.length := by
  unfold decW at h ⊢
  by_cases he : (endR (T.drop 8) (viewR (T.drop 8) 0 0).2.1 (viewR (T.drop 8) 0 0).2.2).1 = true
  · rw [if_pos he]
    have h1 : (viewR (T.drop 8) 0 0).2.2 = 0 ∧ (T.drop 8).length ≤ (viewR (T.drop 8) 0 0).2.1 := by
      unfold endR at he
      by_cases hc : (viewR (T.drop 8) 0 0).2.2 = 0 ∧ (viewR (T.drop 8) 0 0).2.1 < (T.drop 8).length
      · rw [if_pos hc] at he; simp at he
      · rw [if_neg hc] at he
        have h0 : (viewR (T.drop 8) 0 0).2.2 = 0 := by simpa using he
        exact ⟨h0, by omega⟩
    obtain ⟨a, b⟩ := good_view.sound (T.drop 8) 0 0 (Nat.zero_le _) h1.1
    refine ⟨b, ?_, rfl⟩
    rw [List.drop_zero, List.drop_eq_nil_of_le h1.2, List.append_nil] at a
    show T = mark ++ encV (viewR (T.drop 8) 0 0).1
    rw [← a, ← h8, List.take_append_drop]
  · rw [if_neg he] at h
    exfalso
    unfold endR at he h
    by_cases hc : (viewR (T.drop 8) 0 0).2.2 = 0 ∧ (viewR (T.drop 8) 0 0).2.1 < (T.drop 8).length
    · rw [if_pos hc] at h; simp at h
    · rw [if_neg hc] at he h
      apply he
      simp only at h ⊢
      rw [h]; rfl
theorem decW_fault (T : List UInt8) (h8 : 8 ≤ T.length) (h : (decW T).2.2 ≠ 0) : (decW T).1 = v0 ∧ 8 ≤ (decW T).2.1 ∧ (decW T).2.1 ≤ T.length := by
  unfold decW at h ⊢
  have hp := (good_view.place (T.drop 8) 0 0 (Nat.zero_le _)).2
  rw [List.length_drop] at hp
  generalize viewR (T.drop 8) 0 0 = r at h hp ⊢
  obtain ⟨v, q, e⟩ := r
  have hq : (endR (T.drop 8) q e).2.1 = q := by unfold endR; split <;> rfl
  simp only at h hp ⊢
  generalize endR (T.drop 8) q e = s at h hq ⊢
  obtain ⟨b, q2, e2⟩ := s
  simp only at h hq ⊢
  subst hq
  cases b with
  | true => simp at h
  | false =>
    simp only [Bool.false_eq_true, if_false]
    refine ⟨trivial, ?_, ?_⟩ <;> omega
def v7 : Vw := ⟨7, 0, [], [], [], [], [], [], [], [], [], []⟩
theorem readsV_7 (w : World) : ReadsV w v7 [.int .i64 7, .slice none 0 0, .slice none 0 0, .slice none 0 0, .slice none 0 0, .slice none 0 0, .slice none 0 0, .slice none 0 0, .int .i64 0, .slice none 0 0, .slice none 0 0, .slice none 0 0] := ⟨⟨none, none, none, none, none, none, none, none, none, none, 0, 0, 0, 0, 0, 0, 0, 0, 0, 0, rfl, ⟨Kd.C_nil _ _, Nat.le_refl _⟩, ⟨Kd.C_nil _ _, Nat.le_refl _⟩, ⟨Kd.C_nil _ _, Nat.le_refl _⟩, ⟨Kd.C_nil _ _, Nat.le_refl _⟩, ⟨Kd.C_nil _ _, Nat.le_refl _⟩, ⟨Kd.C_nil _ _, Nat.le_refl _⟩, ⟨Kd.C_nil _ _, Nat.le_refl _⟩, ⟨Kd.C_nil _ _, Nat.le_refl _⟩, ⟨Kd.C_nil _ _, Nat.le_refl _⟩, ⟨Kd.C_nil _ _, Nat.le_refl _⟩⟩⟩
theorem okV_7 : okV v7 := by
  refine ⟨by unfold isI64 v7; simp, by unfold isI64 v7; simp, ?_⟩
  simp [v7]
theorem encI7 : encI 7 = [14] := by
  unfold encI encU
  have : zig 7 = 14 := by decide
  rw [this, show 14 / 128 = 0 by decide, encHi_zero]; rfl
theorem encU0 : encU 0 = [0] := by
  unfold encU
  rw [show 0 / 128 = 0 by decide, encHi_zero]; rfl
theorem encI0 : encI 0 = [0] := by
  unfold encI
  have : zig 0 = 0 := by decide
  rw [this, encU0]
theorem encV_7 : encV v7 = [14, 0, 0, 0, 0, 0, 0, 0, 0, 0, 0, 0] := by
  unfold encV v7 encL
  simp only [encI7, encI0, List.length_nil, encU0, List.flatMap_nil, List.append_nil]
  rfl
def s7 : ByteArray := ⟨#[108, 111, 109, 98, 97, 114, 100, 49, 14, 0, 0, 0, 0, 0, 0, 0, 0, 0, 0, 0]⟩
theorem enc7 (w : World) : Calls Try.prog 8 #[.agg #[.int .i64 7, .slice none 0 0, .slice none 0 0, .slice none 0 0, .slice none 0 0, .slice none 0 0, .slice none 0 0, .slice none 0 0, .int .i64 0, .slice none 0 0, .slice none 0 0, .slice none 0 0]] w fun en w' => en = .returned (.tuple #[.string s7, .int .i64 0]) ∧ Below w.heap.size w w' := by
  have h := encode_walk v7 okV_7 (by rw [encV_7]; simp) w #[.int .i64 7, .slice none 0 0, .slice none 0 0, .slice none 0 0, .slice none 0 0, .slice none 0 0, .slice none 0 0, .slice none 0 0, .int .i64 0, .slice none 0 0, .slice none 0 0, .slice none 0 0] (readsV_7 w)
  refine h.mono ?_
  rintro en w' ⟨rfl, hb⟩
  refine ⟨?_, hb⟩
  unfold encS encE
  rw [encV_7]
  rfl
theorem mark_bt (T : List UInt8) (h : T.take 8 = mark) (j : Nat) (hj : j < 8) : bt ⟨T.toArray⟩ j = bt markB j := by
  have hl : 8 ≤ T.length := by
    have := congrArg List.length h
    simp [mark] at this
    omega
  have e : ∀ (l : List UInt8), j < l.length → bt ⟨l.toArray⟩ j = ((l.getD j 0).toNat : Int) := by
    intro l hjl
    unfold bt
    rw [dif_pos (by simpa [ByteArray.size] using hjl)]
    simp [List.getD_eq_getElem?_getD, hjl]
    rfl
  have e1 : T.getD j 0 = mark.getD j 0 := by
    rw [← h, List.getD_eq_getElem?_getD, List.getD_eq_getElem?_getD, List.getElem?_take_of_lt hj]
  rw [e T (by omega), e1, ← e mark (by simpa [mark] using hj)]
  rfl
theorem dec7 (w : World) : Calls Try.prog 9 #[.string s7] w fun en w' => ∃ (cs : Array Value), en = .returned (.tuple #[.agg cs, .int .i64 20, .int .i64 0]) ∧ ReadsV w' v7 cs.toList ∧ Below w.heap.size w w' := by
  have e : s7 = ⟨(mark ++ encV v7).toArray⟩ := by rw [encV_7]; rfl
  have hd := decW_enc v7 okV_7
  have hl : (mark ++ encV v7).length = 20 := by rw [encV_7]; rfl
  rw [hl] at hd
  have h := decode_whole (mark ++ encV v7) (by omega) (by omega) (mark_bt _ rfl) w
  rw [hd] at h
  rw [e]
  refine h.mono ?_
  rintro en w' ⟨cs, h1, h2, h3, _⟩
  exact ⟨cs, h1, h2, h3⟩
end Go.Proofs.Ytlkfbdeddfhocaa

set_option linter.unusedVariables false
set_option linter.unusedSimpArgs false
namespace Go.Proofs.Ytlkfbdeddfhocaa
open Go.Proofs Go.RowKit Go.Proofs.YtlkfbdeddfhocaaW.PrintWords Go.Proofs.YtlkfbdeddfhocaaW.PrintLast Go.Proofs.YtlkfbdeddfhocaaW.PrintMore Q

def sLow : ByteArray := ⟨#[108, 111, 109, 98, 97, 114, 100]⟩
def sUp : ByteArray := ⟨#[76, 111, 109, 98, 97, 114, 100, 49]⟩
theorem decLow (w : World) : Calls Try.prog 9 #[.string ⟨#[108, 111, 109, 98, 97, 114, 100]⟩] w fun en w' => en = .returned (.tuple #[zview, .int .i64 7, .int .i64 14]) ∧ Below w.heap.size w w' := by
  refine decode_short ⟨#[108, 111, 109, 98, 97, 114, 100]⟩ (by decide) ?_ w
  intro j hj
  have : (⟨#[108, 111, 109, 98, 97, 114, 100]⟩ : ByteArray).size = 7 := rfl
  rw [this] at hj
  have hk : j = 0 ∨ j = 1 ∨ j = 2 ∨ j = 3 ∨ j = 4 ∨ j = 5 ∨ j = 6 := by omega
  rcases hk with rfl | rfl | rfl | rfl | rfl | rfl | rfl <;> rfl
theorem decUp (w : World) : Calls Try.prog 9 #[.string ⟨#[76, 111, 109, 98, 97, 114, 100, 49]⟩] w fun en w' => en = .returned (.tuple #[zview, .int .i64 0, .int .i64 15]) ∧ Below w.heap.size w w' := by
  refine decode_bad ⟨#[76, 111, 109, 98, 97, 114, 100, 49]⟩ (by decide) 0 (by decide) (by decide) (fun j hj => absurd hj (by omega)) ?_ w
  decide
set_option maxHeartbeats 8000000 in
set_option maxRecDepth 1000000 in
theorem awake_walk (w : World) : Calls Try.prog 6 #[] w fun en w' => en = .returned (.bool true) ∧ Below w.heap.size w w' := by
  have H1 := Lib.hid decLow
  have H2 := Lib.hid decUp
  unfold zview at H1 H2
  have H3 := Lib.hid enc7
  have H4 := Lib.hid dec7
  have HB := Lib.hid (Below.refl w.heap.size w)
  obtain ⟨t7, HT⟩ : ∃ t : ByteArray, Hid (s7 = t) := ⟨_, Lib.hid rfl⟩
  have hts : t7.size = 20 := by rw [← HT.out]; rfl
  rw [HT.out] at H3 H4
  go_enter Try.func6, Try.ntmps6
  go_wp2_with (first
    | (go_at_call 9; (with_reducible refine (H1.out _).mono ?_); rintro en w1 ⟨rfl, hb⟩; replace HB := Lib.hid (below_step HB.out hb); clear hb)
    | (go_at_call 9; (with_reducible refine (H2.out _).mono ?_); rintro en w2 ⟨rfl, hb⟩; replace HB := Lib.hid (below_step (below_alloc HB.out _) hb); clear hb)
    | (go_at_call 8; (with_reducible refine (H3.out _).mono ?_); rintro en w3 ⟨rfl, hb⟩; replace HB := Lib.hid (below_step (below_alloc HB.out _) hb); clear hb)
    | (go_at_call 9; (with_reducible refine (H4.out _).mono ?_); rintro en w4 ⟨cs, rfl, hr, hb⟩; replace HB := Lib.hid (below_step HB.out hb); obtain ⟨⟨A0, A1, A2, A3, A4, A5, A6, A7, A8, A9, c0, c1, c2, c3, c4, c5, c6, c7, c8, c9, hcs, _⟩⟩ := hr; obtain rfl : cs = _ := (congrArg List.toArray hcs).symm ▸ (Array.toArray_toList (xs := cs)).symm; clear hcs hb))
  go_ret
  exact ⟨rfl, below_alloc HB.out _⟩
end Go.Proofs.Ytlkfbdeddfhocaa

set_option linter.unusedVariables false
set_option linter.unusedSimpArgs false
namespace Go.Proofs.Ytlkfbdeddfhocaa
open Go.Proofs Go.RowKit Go.Proofs.YtlkfbdeddfhocaaW.PrintWords Go.Proofs.YtlkfbdeddfhocaaW.PrintLast Go.Proofs.YtlkfbdeddfhocaaW.PrintMore Q

theorem ReadsV.below {w w' : World} {v : Vw} {cs : List Value} (h : ReadsV w v cs) (hb : Below w.heap.size w w') : ReadsV w' v cs := by
  obtain ⟨⟨A0, A1, A2, A3, A4, A5, A6, A7, A8, A9, c0, c1, c2, c3, c4, c5, c6, c7, c8, c9, hcs, ⟨h0, l0⟩, ⟨h1, l1⟩, ⟨h2, l2⟩, ⟨h3, l3⟩, ⟨h4, l4⟩, ⟨h5, l5⟩, ⟨h6, l6⟩, ⟨h7, l7⟩, ⟨h8, l8⟩, ⟨h9, l9⟩⟩⟩ := h
  exact ⟨⟨A0, A1, A2, A3, A4, A5, A6, A7, A8, A9, c0, c1, c2, c3, c4, c5, c6, c7, c8, c9, hcs, ⟨Kd.C_below h0 hb, l0⟩, ⟨Kd.C_below h1 hb, l1⟩, ⟨Kd.C_below h2 hb, l2⟩, ⟨Kd.C_below h3 hb, l3⟩, ⟨Kd.C_below h4 hb, l4⟩, ⟨Kd.C_below h5 hb, l5⟩, ⟨Kd.C_below h6 hb, l6⟩, ⟨Kd.C_below h7 hb, l7⟩, ⟨Kd.C_below h8 hb, l8⟩, ⟨Kd.C_below h9 hb, l9⟩⟩⟩
theorem below_drewN {w W : World} (h : Below w.heap.size w W) (n : Nat) : Below w.heap.size w (W.drewN n) := pw_below_drewN h n
set_option maxHeartbeats 8000000 in
set_option maxRecDepth 1000000 in
theorem reads_long (s : ByteArray) (hs : 20000 < s.size) (hs2 : s.size ≤ 9223372036854775807) (w : World) : Calls Try.prog 4 #[.string s] w fun en w' => en = .returned (.bool true) ∧ Below w.heap.size w w' := by
  have HA := Lib.hid awake_walk
  go_enter Try.func4, Try.ntmps4
  go_wp2_with (go_at_call 6; refine (HA.out _).mono ?_; rintro en w1 ⟨rfl, hb⟩)
  go_ret
  exact ⟨rfl, hb⟩
set_option maxHeartbeats 8000000 in
set_option maxRecDepth 1000000 in
theorem reads_short (s : ByteArray) (hs : s.size < 8) (hok : ∀ j : Nat, j < s.size → bt s j = bt markB j) (w : World) : Calls Try.prog 4 #[.string s] w fun en w' => en = .returned (.bool true) ∧ Below w.heap.size w w' := by
  have HA := Lib.hid awake_walk
  have HSm := Lib.hid same_zero
  have HD := Lib.hid (decode_short s hs hok)
  unfold zview at HD HSm
  have HOK := Lib.hid hok
  clear hok
  go_enter Try.func4, Try.ntmps4
  go_wp2_with (go_at_call 9; (refine (HD.out _).mono ?_); rintro en w1 ⟨rfl, hb⟩)
  have HB := Lib.hid (below_alloc hb (Obj.cells #[.int .i64 0, .slice none 0 0, .slice none 0 0, .slice none 0 0, .slice none 0 0, .slice none 0 0, .slice none 0 0, .slice none 0 0, .int .i64 0, .slice none 0 0, .slice none 0 0, .slice none 0 0] 45))
  have HV := Lib.hid (blk_new w1 (Obj.cells #[.int .i64 0, .slice none 0 0, .slice none 0 0, .slice none 0 0, .slice none 0 0, .slice none 0 0, .slice none 0 0, .slice none 0 0, .int .i64 0, .slice none 0 0, .slice none 0 0, .slice none 0 0] 45))
  clear hb
  generalize w1.alloc (Obj.cells #[.int .i64 0, .slice none 0 0, .slice none 0 0, .slice none 0 0, .slice none 0 0, .slice none 0 0, .slice none 0 0, .slice none 0 0, .int .i64 0, .slice none 0 0, .slice none 0 0, .slice none 0 0] 45) = W at HB HV ⊢
  generalize w1.heap.size = b at HV ⊢
  go_loopw [6] (fun i wr => ∃ k : Nat, i = .int .i64 k ∧ k ≤ s.size ∧ Hid (Below w.heap.size w wr) ∧ Hid (wr.heap[b]? = some (Obj.cells #[.int .i64 0, .slice none 0 0, .slice none 0 0, .slice none 0 0, .slice none 0 0, .slice none 0 0, .slice none 0 0, .slice none 0 0, .int .i64 0, .slice none 0 0, .slice none 0 0, .slice none 0 0] 45))) (fun i _ => s.size - (intOf i).toNat)
  case atStart => exact ⟨0, rfl, by omega, HB, HV⟩
  case round =>
    clear HB HV
    obtain ⟨k, rfl, hk, HB, HV⟩ := hrel
    by_cases hkm : k < s.size
    · have h1 := bt_nat s k
      have h2 := mark_at k (by omega)
      have hk8 : k < 8 := by omega
      have e := HOK.out k hkm
      rw [← e] at h2
      have e2 : (bt s k != bt s k) = false := by simp
      clear e
      have hks : k < s.size := by omega
      go_wp2
      go_quiet (fail)
      go_wp2
      go_roundw
      case rel => exact ⟨k + 1, by go_num, by omega, Lib.hid (by first | exact HB.out | exact below_drew1 HB.out | exact below_drewN HB.out _), Lib.hid HV.out⟩
      case measure => simp [intOf]; omega
    · have hkn : k = s.size := by omega
      subst hkn
      have f0 := blk_cell HV.out 0
      have f1 := blk_cell HV.out 1
      have f2 := blk_cell HV.out 2
      have f3 := blk_cell HV.out 3
      have f4 := blk_cell HV.out 4
      have f5 := blk_cell HV.out 5
      have f6 := blk_cell HV.out 6
      have f7 := blk_cell HV.out 7
      have f8 := blk_cell HV.out 8
      have f9 := blk_cell HV.out 9
      have f10 := blk_cell HV.out 10
      have f11 := blk_cell HV.out 11
      go_wp2_with (first | (go_at_call 10; (refine (HSm.out _).mono ?_); rintro en w2 ⟨rfl, hb⟩; replace HB := Lib.hid (below_step HB.out hb); clear hb) | (go_at_call 6; (refine (HA.out _).mono ?_); rintro en w3 ⟨rfl, hb⟩; replace HB := Lib.hid (below_step HB.out hb); clear hb))
      go_ret
      exact ⟨rfl, HB.out⟩
set_option maxHeartbeats 8000000 in
set_option maxRecDepth 1000000 in
theorem reads_bad (s : ByteArray) (hs : s.size ≤ 20000) (m : Nat) (hm : m < s.size) (hm8 : m < 8) (hok : ∀ j : Nat, j < m → bt s j = bt markB j) (hbad : bt s m ≠ bt markB m) (w : World) : Calls Try.prog 4 #[.string s] w fun en w' => en = .returned (.bool true) ∧ Below w.heap.size w w' := by
  have HA := Lib.hid awake_walk
  have HSm := Lib.hid same_zero
  have HD := Lib.hid (decode_bad s (by omega) m hm hm8 hok hbad)
  unfold zview at HD HSm
  have HOK := Lib.hid hok
  have HBAD := Lib.hid hbad
  clear hok hbad
  go_enter Try.func4, Try.ntmps4
  go_wp2_with (go_at_call 9; (refine (HD.out _).mono ?_); rintro en w1 ⟨rfl, hb⟩)
  have HB := Lib.hid (below_alloc hb (Obj.cells #[.int .i64 0, .slice none 0 0, .slice none 0 0, .slice none 0 0, .slice none 0 0, .slice none 0 0, .slice none 0 0, .slice none 0 0, .int .i64 0, .slice none 0 0, .slice none 0 0, .slice none 0 0] 45))
  have HV := Lib.hid (blk_new w1 (Obj.cells #[.int .i64 0, .slice none 0 0, .slice none 0 0, .slice none 0 0, .slice none 0 0, .slice none 0 0, .slice none 0 0, .slice none 0 0, .int .i64 0, .slice none 0 0, .slice none 0 0, .slice none 0 0] 45))
  clear hb
  generalize w1.alloc (Obj.cells #[.int .i64 0, .slice none 0 0, .slice none 0 0, .slice none 0 0, .slice none 0 0, .slice none 0 0, .slice none 0 0, .slice none 0 0, .int .i64 0, .slice none 0 0, .slice none 0 0, .slice none 0 0] 45) = W at HB HV ⊢
  generalize w1.heap.size = b at HV ⊢
  go_loopw [6] (fun i wr => ∃ k : Nat, i = .int .i64 k ∧ k ≤ m ∧ Hid (Below w.heap.size w wr) ∧ Hid (wr.heap[b]? = some (Obj.cells #[.int .i64 0, .slice none 0 0, .slice none 0 0, .slice none 0 0, .slice none 0 0, .slice none 0 0, .slice none 0 0, .slice none 0 0, .int .i64 0, .slice none 0 0, .slice none 0 0, .slice none 0 0] 45))) (fun i _ => m - (intOf i).toNat)
  case atStart => exact ⟨0, rfl, by omega, HB, HV⟩
  case round =>
    clear HB HV
    obtain ⟨k, rfl, hk, HB, HV⟩ := hrel
    by_cases hkm : k < m
    · have h1 := bt_nat s k
      have h2 := mark_at k (by omega)
      have hk8 : k < 8 := by omega
      have e := HOK.out k hkm
      rw [← e] at h2
      have e2 : (bt s k != bt s k) = false := by simp
      clear e
      have hks : k < s.size := by omega
      go_wp2
      go_quiet (fail)
      go_wp2
      go_roundw
      case rel => exact ⟨k + 1, by go_num, by omega, Lib.hid (by first | exact HB.out | exact below_drew1 HB.out | exact below_drewN HB.out _), Lib.hid HV.out⟩
      case measure => simp [intOf]; omega
    · have hkn : k = m := by omega
      subst hkn
      have h1 := bt_nat s k
      have h2 := mark_at k (by omega)
      have e2 : (bt s k != bt markB k) = true := bne_iff_ne.mpr HBAD.out
      go_wp2
      go_quiet (fail)
      clear h1 h2 e2
      replace HB := Lib.hid (show Below w.heap.size w _ from below_drewN HB.out nq)
      replace HV := Lib.hid (blk_drewN HV.out nq)
      have f0 := blk_cell HV.out 0
      have f1 := blk_cell HV.out 1
      have f2 := blk_cell HV.out 2
      have f3 := blk_cell HV.out 3
      have f4 := blk_cell HV.out 4
      have f5 := blk_cell HV.out 5
      have f6 := blk_cell HV.out 6
      have f7 := blk_cell HV.out 7
      have f8 := blk_cell HV.out 8
      have f9 := blk_cell HV.out 9
      have f10 := blk_cell HV.out 10
      have f11 := blk_cell HV.out 11
      go_wp2_with (first | (go_at_call 10; (refine (HSm.out _).mono ?_); rintro en w2 ⟨rfl, hb⟩; replace HB := Lib.hid (below_step HB.out hb); clear hb) | (go_at_call 6; (refine (HA.out _).mono ?_); rintro en w3 ⟨rfl, hb⟩; replace HB := Lib.hid (below_step HB.out hb); clear hb))
      go_ret
      exact ⟨rfl, HB.out⟩
set_option maxHeartbeats 8000000 in
set_option maxRecDepth 1000000 in
theorem reads_fault (T : List UInt8) (hT : T.length ≤ 20000) (h8 : 8 ≤ T.length) (hok : ∀ j : Nat, j < 8 → bt ⟨T.toArray⟩ j = bt markB j) (he : (decW T).2.2 ≠ 0) (w : World) : Calls Try.prog 4 #[.string ⟨T.toArray⟩] w fun en w' => en = .returned (.bool true) ∧ Below w.heap.size w w' := by
  have HA := Lib.hid awake_walk
  have HSm := Lib.hid same_zero
  have HD := Lib.hid (decode_whole T (by omega) h8 hok)
  obtain ⟨-, hn1, hn2⟩ := decW_fault T h8 he
  unfold zview at HD HSm
  obtain ⟨s, HS⟩ : ∃ s : ByteArray, Hid (s = ⟨T.toArray⟩) := ⟨_, Lib.hid rfl⟩
  have hss : T.length = s.size := by rw [HS.out, ba_size]
  rw [← HS.out] at hok HD ⊢
  rw [hss] at hn2 hT h8
  clear hss
  generalize (decW T).1 = v at HD
  generalize (decW T).2.1 = n at HD hn1 hn2
  generalize (decW T).2.2 = e at HD he
  have he1 : (e != 0) = true := bne_iff_ne.mpr he
  have HOK := Lib.hid hok
  have HE := Lib.hid he
  clear hok he
  go_enter Try.func4, Try.ntmps4
  go_wp2_with (go_at_call 9; (refine (HD.out _).mono ?_); rintro en w1 ⟨cs, rfl, hr, hb, hz⟩; have hz2 := hz HE.out; injection hz2 with hz3; subst hz3; clear hr hz)
  have HB := Lib.hid (below_alloc hb (Obj.cells #[.int .i64 0, .slice none 0 0, .slice none 0 0, .slice none 0 0, .slice none 0 0, .slice none 0 0, .slice none 0 0, .slice none 0 0, .int .i64 0, .slice none 0 0, .slice none 0 0, .slice none 0 0] 45))
  have HV := Lib.hid (blk_new w1 (Obj.cells #[.int .i64 0, .slice none 0 0, .slice none 0 0, .slice none 0 0, .slice none 0 0, .slice none 0 0, .slice none 0 0, .slice none 0 0, .int .i64 0, .slice none 0 0, .slice none 0 0, .slice none 0 0] 45))
  clear hb
  generalize w1.alloc (Obj.cells #[.int .i64 0, .slice none 0 0, .slice none 0 0, .slice none 0 0, .slice none 0 0, .slice none 0 0, .slice none 0 0, .slice none 0 0, .int .i64 0, .slice none 0 0, .slice none 0 0, .slice none 0 0] 45) = W at HB HV ⊢
  generalize w1.heap.size = b at HV ⊢
  go_loopw [6] (fun i wr => ∃ k : Nat, i = .int .i64 k ∧ k ≤ 8 ∧ Hid (Below w.heap.size w wr) ∧ Hid (wr.heap[b]? = some (Obj.cells #[.int .i64 0, .slice none 0 0, .slice none 0 0, .slice none 0 0, .slice none 0 0, .slice none 0 0, .slice none 0 0, .slice none 0 0, .int .i64 0, .slice none 0 0, .slice none 0 0, .slice none 0 0] 45))) (fun i _ => 8 - (intOf i).toNat)
  case atStart => exact ⟨0, rfl, by omega, HB, HV⟩
  case round =>
    clear HB HV
    obtain ⟨k, rfl, hk, HB, HV⟩ := hrel
    by_cases hkm : k < 8
    · have h1 := bt_nat s k
      have h2 := mark_at k (by omega)
      have hk8 : k < 8 := by omega
      have e := HOK.out k hkm
      rw [← e] at h2
      have e2 : (bt s k != bt s k) = false := by simp
      clear e
      have hks : k < s.size := by omega
      go_wp2
      go_quiet (fail)
      go_wp2
      go_roundw
      case rel => exact ⟨k + 1, by go_num, by omega, Lib.hid (by first | exact HB.out | exact below_drew1 HB.out | exact below_drewN HB.out _), Lib.hid HV.out⟩
      case measure => simp [intOf]; omega
    · have hkn : k = 8 := by omega
      subst hkn
      have f0 := blk_cell HV.out 0
      have f1 := blk_cell HV.out 1
      have f2 := blk_cell HV.out 2
      have f3 := blk_cell HV.out 3
      have f4 := blk_cell HV.out 4
      have f5 := blk_cell HV.out 5
      have f6 := blk_cell HV.out 6
      have f7 := blk_cell HV.out 7
      have f8 := blk_cell HV.out 8
      have f9 := blk_cell HV.out 9
      have f10 := blk_cell HV.out 10
      have f11 := blk_cell HV.out 11
      go_wp2_with (first | (go_at_call 10; (refine (HSm.out _).mono ?_); rintro en w2 ⟨rfl, hb⟩; replace HB := Lib.hid (below_step HB.out hb); clear hb) | (go_at_call 6; (refine (HA.out _).mono ?_); rintro en w3 ⟨rfl, hb⟩; replace HB := Lib.hid (below_step HB.out hb); clear hb))
      all_goals
        go_ret
        exact ⟨rfl, HB.out⟩
set_option maxHeartbeats 8000000 in
set_option maxRecDepth 1000000 in
theorem reads_whole (T : List UInt8) (hT : T.length ≤ 20000) (h8 : T.take 8 = mark) (he : (decW T).2.2 = 0) (w : World) : Calls Try.prog 4 #[.string ⟨T.toArray⟩] w fun en w' => en = .returned (.bool true) ∧ Below w.heap.size w w' := by
  have HA := Lib.hid awake_walk
  have HSm := Lib.hid same_zero
  have hl8 : 8 ≤ T.length := by
    have := congrArg List.length h8
    simp [mark] at this
    omega
  have hok := mark_bt T h8
  have HD := Lib.hid (decode_whole T (by omega) hl8 hok)
  obtain ⟨hv, hTe, hn⟩ := decW_sound T h8 he
  have hlen : (encV (decW T).1).length + 8 = T.length := by
    have := congrArg List.length hTe
    rw [List.length_append] at this
    rw [this]; simp [mark]; omega
  have HE := Lib.hid (fun W cs hR => encode_walk (decW T).1 hv (by omega) W cs hR)
  have hs1 : encS (decW T).1 = .string ⟨T.toArray⟩ := by
    unfold encS; rw [if_neg (by omega), ← hTe]
  have hs2 : encE (decW T).1 = 0 := by
    unfold encE; rw [if_neg (by omega)]
  rw [hs1, hs2] at HE
  rw [hn, he] at HD
  clear hs1 hs2 hTe hv hlen hn
  obtain ⟨s, HS⟩ : ∃ s : ByteArray, Hid (s = ⟨T.toArray⟩) := ⟨_, Lib.hid rfl⟩
  have hss : T.length = s.size := by rw [HS.out, ba_size]
  rw [← HS.out] at hok HD HE ⊢
  rw [hss] at hT hl8 HD
  clear hss h8 he
  generalize (decW T).1 = v at HD HE
  have HOK := Lib.hid hok
  clear hok
  go_enter Try.func4, Try.ntmps4
  go_wp2_with (go_at_call 9; (refine (HD.out _).mono ?_); rintro en w1 ⟨cs, rfl, hr, hb, -⟩; have HR1 := Lib.hid hr; obtain ⟨⟨A0, A1, A2, A3, A4, A5, A6, A7, A8, A9, c0, c1, c2, c3, c4, c5, c6, c7, c8, c9, hcs, -⟩⟩ := hr; have hcs2 := congrArg List.toArray hcs; rw [Array.toArray_toList] at hcs2; subst hcs2; clear hcs)
  have HB := Lib.hid (below_alloc hb (Obj.cells #[.int .i64 v.day, .slice A0 v.ms.length c0, .slice A1 v.as_.length c1, .slice A2 v.ps.length c2, .slice A3 v.bk.length c3, .slice A4 v.bl.length c4, .slice A5 v.qs.length c5, .slice A6 v.ts.length c6, .int .i64 v.next, .slice A7 v.cv.length c7, .slice A8 v.li.length c8, .slice A9 v.lo.length c9] 45))
  have HV := Lib.hid (blk_new w1 (Obj.cells #[.int .i64 v.day, .slice A0 v.ms.length c0, .slice A1 v.as_.length c1, .slice A2 v.ps.length c2, .slice A3 v.bk.length c3, .slice A4 v.bl.length c4, .slice A5 v.qs.length c5, .slice A6 v.ts.length c6, .int .i64 v.next, .slice A7 v.cv.length c7, .slice A8 v.li.length c8, .slice A9 v.lo.length c9] 45))
  have HRW : Hid (ReadsV (w1.alloc (Obj.cells #[.int .i64 v.day, .slice A0 v.ms.length c0, .slice A1 v.as_.length c1, .slice A2 v.ps.length c2, .slice A3 v.bk.length c3, .slice A4 v.bl.length c4, .slice A5 v.qs.length c5, .slice A6 v.ts.length c6, .int .i64 v.next, .slice A7 v.cv.length c7, .slice A8 v.li.length c8, .slice A9 v.lo.length c9] 45)) v [.int .i64 v.day, .slice A0 v.ms.length c0, .slice A1 v.as_.length c1, .slice A2 v.ps.length c2, .slice A3 v.bk.length c3, .slice A4 v.bl.length c4, .slice A5 v.qs.length c5, .slice A6 v.ts.length c6, .int .i64 v.next, .slice A7 v.cv.length c7, .slice A8 v.li.length c8, .slice A9 v.lo.length c9]) := Lib.hid (HR1.out.below (below_alloc (Below.refl w1.heap.size w1) (Obj.cells #[.int .i64 v.day, .slice A0 v.ms.length c0, .slice A1 v.as_.length c1, .slice A2 v.ps.length c2, .slice A3 v.bk.length c3, .slice A4 v.bl.length c4, .slice A5 v.qs.length c5, .slice A6 v.ts.length c6, .int .i64 v.next, .slice A7 v.cv.length c7, .slice A8 v.li.length c8, .slice A9 v.lo.length c9] 45)))
  clear hb HR1
  generalize w1.alloc (Obj.cells #[.int .i64 v.day, .slice A0 v.ms.length c0, .slice A1 v.as_.length c1, .slice A2 v.ps.length c2, .slice A3 v.bk.length c3, .slice A4 v.bl.length c4, .slice A5 v.qs.length c5, .slice A6 v.ts.length c6, .int .i64 v.next, .slice A7 v.cv.length c7, .slice A8 v.li.length c8, .slice A9 v.lo.length c9] 45) = W at HB HV HRW ⊢
  generalize w1.heap.size = b at HV ⊢
  go_loopw [6] (fun i wr => ∃ k : Nat, i = .int .i64 k ∧ k ≤ 8 ∧ Hid (Below w.heap.size w wr) ∧ Hid (wr.heap[b]? = some (Obj.cells #[.int .i64 v.day, .slice A0 v.ms.length c0, .slice A1 v.as_.length c1, .slice A2 v.ps.length c2, .slice A3 v.bk.length c3, .slice A4 v.bl.length c4, .slice A5 v.qs.length c5, .slice A6 v.ts.length c6, .int .i64 v.next, .slice A7 v.cv.length c7, .slice A8 v.li.length c8, .slice A9 v.lo.length c9] 45)) ∧ Hid (ReadsV wr v [.int .i64 v.day, .slice A0 v.ms.length c0, .slice A1 v.as_.length c1, .slice A2 v.ps.length c2, .slice A3 v.bk.length c3, .slice A4 v.bl.length c4, .slice A5 v.qs.length c5, .slice A6 v.ts.length c6, .int .i64 v.next, .slice A7 v.cv.length c7, .slice A8 v.li.length c8, .slice A9 v.lo.length c9])) (fun i _ => 8 - (intOf i).toNat)
  case atStart => exact ⟨0, rfl, by omega, HB, HV, HRW⟩
  case round =>
    clear HB HV HRW
    obtain ⟨k, rfl, hk, HB, HV, HRW⟩ := hrel
    by_cases hkm : k < 8
    · have h1 := bt_nat s k
      have h2 := mark_at k (by omega)
      have e := HOK.out k hkm
      rw [← e] at h2
      have e2 : (bt s k != bt s k) = false := by simp
      clear e
      have hks : k < s.size := by omega
      go_wp2
      go_quiet (fail)
      go_wp2
      go_roundw
      case rel => exact ⟨k + 1, by go_num, by omega, Lib.hid (below_drewN HB.out nq), Lib.hid HV.out, Lib.hid (HRW.out.below (below_drewN (Below.refl _ _) nq))⟩
      case measure => simp [intOf]; omega
    · have hkn : k = 8 := by omega
      subst hkn
      have f0 := blk_cell HV.out 0
      have f1 := blk_cell HV.out 1
      have f2 := blk_cell HV.out 2
      have f3 := blk_cell HV.out 3
      have f4 := blk_cell HV.out 4
      have f5 := blk_cell HV.out 5
      have f6 := blk_cell HV.out 6
      have f7 := blk_cell HV.out 7
      have f8 := blk_cell HV.out 8
      have f9 := blk_cell HV.out 9
      have f10 := blk_cell HV.out 10
      have f11 := blk_cell HV.out 11
      go_wp2_with (first | (go_at_call 8; (refine (HE.out _ #[.int .i64 v.day, .slice A0 v.ms.length c0, .slice A1 v.as_.length c1, .slice A2 v.ps.length c2, .slice A3 v.bk.length c3, .slice A4 v.bl.length c4, .slice A5 v.qs.length c5, .slice A6 v.ts.length c6, .int .i64 v.next, .slice A7 v.cv.length c7, .slice A8 v.li.length c8, .slice A9 v.lo.length c9] HRW.out).mono ?_); rintro en w2 ⟨rfl, hb⟩; replace HB := Lib.hid (below_step HB.out hb); clear hb) | (go_at_call 6; (refine (HA.out _).mono ?_); rintro en w3 ⟨rfl, hb⟩; replace HB := Lib.hid (below_step HB.out hb); clear hb))
      all_goals
        go_ret
        exact ⟨rfl, HB.out⟩
/-- Where a text parts from the mark first. -/
theorem first_bad (s : ByteArray) : ∀ n : Nat, (∃ m, m < n ∧ (∀ j : Nat, j < m → bt s j = bt markB j) ∧ bt s m ≠ bt markB m) ∨ ∀ j : Nat, j < n → bt s j = bt markB j
  | 0 => .inr fun j hj => absurd hj (by omega)
  | n + 1 => by
    rcases first_bad s n with ⟨m, h1, h2, h3⟩ | h
    · exact .inl ⟨m, by omega, h2, h3⟩
    · by_cases hn : bt s n = bt markB n
      · refine .inr fun j hj => ?_
        rcases Nat.lt_or_ge j n with hlt | hge
        · exact h j hlt
        · have : j = n := by omega
          subst this; exact hn
      · exact .inl ⟨n, by omega, h, hn⟩
theorem bt_getD (l : List UInt8) (j : Nat) (hj : j < l.length) : bt ⟨l.toArray⟩ j = ((l.getD j 0).toNat : Int) := by
  unfold bt
  rw [dif_pos (by simpa [ByteArray.size] using hj)]
  simp [List.getD_eq_getElem?_getD, hj]
  rfl
theorem take_mark (T : List UInt8) (h8 : 8 ≤ T.length) (h : ∀ j : Nat, j < 8 → bt ⟨T.toArray⟩ j = bt markB j) : T.take 8 = mark := by
  apply List.ext_getElem
  · simp [mark]; omega
  · intro j h1 h2
    have hj : j < 8 := by simp [mark] at h2; exact h2
    have e := h j hj
    have e2 : bt markB j = ((mark.getD j 0).toNat : Int) := bt_getD mark j h2
    rw [bt_getD T j (by omega), e2] at e
    rw [List.getElem_take]
    have e3 : (T.getD j 0).toNat = (mark.getD j 0).toNat := by exact_mod_cast e
    have e4 := UInt8.toNat_inj.1 e3
    rw [List.getD_eq_getElem?_getD, List.getD_eq_getElem?_getD, List.getElem?_eq_getElem (by omega), List.getElem?_eq_getElem h2] at e4
    exact e4
theorem reads_walk (s : ByteArray) (hs : s.size ≤ 9223372036854775807) (w : World) : Calls Try.prog 4 #[.string s] w fun en w' => en = .returned (.bool true) ∧ Below w.heap.size w w' := by
  rcases Nat.lt_or_ge 20000 s.size with hl | hl
  · exact reads_long s hl hs w
  · have hse : s = ⟨s.data.toList.toArray⟩ := (text_eta s).symm
    have hsl : s.data.toList.length = s.size := data_length s
    rcases first_bad s (min s.size 8) with ⟨m, h1, h2, h3⟩ | h
    · exact reads_bad s hl m (by omega) (by omega) h2 h3 w
    · rcases Nat.lt_or_ge s.size 8 with hlt | hge
      · exact reads_short s hlt (fun j hj => h j (by omega)) w
      · have hok : ∀ j : Nat, j < 8 → bt ⟨s.data.toList.toArray⟩ j = bt markB j := by
          rw [← hse]; exact fun j hj => h j (by omega)
        rw [hse]
        by_cases he : (decW s.data.toList).2.2 = 0
        · exact reads_whole _ (by omega) (take_mark _ (by omega) hok) he w
        · exact reads_fault _ (by omega) (by omega) hok he w
end Go.Proofs.Ytlkfbdeddfhocaa
