/- What Decode answers where the text begins with the mark. Condition: the text has at most 1000000 bytes. Written by genT.py. -/
import Derived.Test.YtlkfbdeddfhocaaMh
set_option linter.unusedVariables false
set_option linter.unusedSimpArgs false
namespace Go.Proofs.Ytlkfbdeddfhocaa
open Go.Proofs Go.RowKit Go.Proofs.YtlkfbdeddfhocaaW.PrintWords Go.Proofs.YtlkfbdeddfhocaaW.PrintLast Go.Proofs.YtlkfbdeddfhocaaW.PrintMore Q

def v0 : Vw := ⟨0, 0, [], [], [], [], [], [], [], [], [], []⟩
/-- What Decode answers to a text that begins with the mark. -/
def decW (T : List UInt8) : Vw × Int × Int :=
  if (endR (T.drop 8) (viewR (T.drop 8) 0 0).2.1 (viewR (T.drop 8) 0 0).2.2).1 = true then ((viewR (T.drop 8) 0 0).1, T.length, 0)
  else (v0, 8 + ((endR (T.drop 8) (viewR (T.drop 8) 0 0).2.1 (viewR (T.drop 8) 0 0).2.2).2.1 : Int), (endR (T.drop 8) (viewR (T.drop 8) 0 0).2.1 (viewR (T.drop 8) 0 0).2.2).2.2)
theorem ext8 (T : List UInt8) : (⟨T.toArray⟩ : ByteArray).extract 8 (⟨T.toArray⟩ : ByteArray).size = ⟨(T.drop 8).toArray⟩ := by
  rw [ext_list, ba_size, ← List.length_drop, List.take_length]
theorem kd_C {α : Type} {d : Kd α} {e base : Nat} {ok : Nat → Prop} {w : World} {A : Option Addr} {c : Nat} {xs : List α} (h : d.R e w base ok (.slice A xs.length c) xs) : d.C w A xs.length xs ∧ xs.length ≤ c := by
  obtain ⟨A', c', he, hl, hc⟩ := Kd.R_reads h
  injection he with h1 h2 h3
  subst h1; subst h3
  exact ⟨hc, hl⟩
theorem readsV_zero (w : World) : ReadsV w v0 [.int .i64 0, .slice none 0 0, .slice none 0 0, .slice none 0 0, .slice none 0 0, .slice none 0 0, .slice none 0 0, .slice none 0 0, .int .i64 0, .slice none 0 0, .slice none 0 0, .slice none 0 0] := ⟨⟨none, none, none, none, none, none, none, none, none, none, 0, 0, 0, 0, 0, 0, 0, 0, 0, 0, rfl, ⟨Kd.C_nil _ _, Nat.le_refl _⟩, ⟨Kd.C_nil _ _, Nat.le_refl _⟩, ⟨Kd.C_nil _ _, Nat.le_refl _⟩, ⟨Kd.C_nil _ _, Nat.le_refl _⟩, ⟨Kd.C_nil _ _, Nat.le_refl _⟩, ⟨Kd.C_nil _ _, Nat.le_refl _⟩, ⟨Kd.C_nil _ _, Nat.le_refl _⟩, ⟨Kd.C_nil _ _, Nat.le_refl _⟩, ⟨Kd.C_nil _ _, Nat.le_refl _⟩, ⟨Kd.C_nil _ _, Nat.le_refl _⟩⟩⟩
theorem at_call (S : ByteArray) (g : Nat) (q e : Int) (w0 W : World) (hi : IsS132 w0 W g S q e) : Calls Try.prog 35 #[.pointer (some ⟨g, 0, none⟩)] W fun en w' => en = .returned (.int .i64 q) ∧ W = w' := by
  have h1 := blk_cell hi.1 1
  clear hi
  go_enter Try.func35, Try.ntmps35
  go_wp2
  go_ret
  exact ⟨rfl, rfl⟩
theorem err_call (S : ByteArray) (g : Nat) (q e : Int) (w0 W : World) (hi : IsS132 w0 W g S q e) : Calls Try.prog 36 #[.pointer (some ⟨g, 0, none⟩)] W fun en w' => en = .returned (.int .i64 e) ∧ W = w' := by
  have h1 := blk_cell hi.1 2
  clear hi
  go_enter Try.func36, Try.ntmps36
  go_wp2
  go_ret
  exact ⟨rfl, rfl⟩
set_option maxHeartbeats 32000000 in
set_option maxRecDepth 1000000 in
theorem decode_whole (T : List UInt8) (hT : T.length ≤ 1000000) (h8 : 8 ≤ T.length) (hok : ∀ j : Nat, j < 8 → bt ⟨T.toArray⟩ j = bt markB j) (w : World) :
    Calls Try.prog 9 #[.string ⟨T.toArray⟩] w fun en w' => ∃ (cs : Array Value), en = .returned (.tuple #[.agg cs, .int .i64 (decW T).2.1, .int .i64 (decW T).2.2]) ∧ ReadsV w' (decW T).1 cs.toList ∧ Below w.heap.size w w' ∧ ((decW T).2.2 ≠ 0 → Value.agg cs = zview) := by
  obtain ⟨s, HS⟩ : ∃ s : ByteArray, Hid (s = ⟨T.toArray⟩) := ⟨_, Lib.hid rfl⟩
  have hss : T.length = s.size := by rw [HS.out, ba_size]
  rw [← HS.out] at hok ⊢
  have hs1 : s.size ≤ 1000000 := by omega
  have hs8 : 8 ≤ s.size := by omega
  obtain ⟨S, HSd⟩ : ∃ S : List UInt8, Hid (S = T.drop 8) := ⟨_, Lib.hid rfl⟩
  have HX : Hid (s.extract 8 s.size = ⟨S.toArray⟩) := Lib.hid (by rw [HS.out, HSd.out]; exact ext8 T)
  have hSl : S.length ≤ 1000000 := by rw [HSd.out, List.length_drop]; omega
  have HSS := Lib.hid hss
  have HOK := Lib.hid hok
  have HN := Lib.hid (int_call S hSl)
  clear hok hss h8 hT
  have hq0 : (0 : Nat) ≤ S.length := Nat.zero_le _
  obtain ⟨⟨x0, q1, e1⟩, h0⟩ : ∃ x, intR S 0 0 = x := ⟨_, rfl⟩
  have hq1 := (good_int.place S 0 0 hq0).2
  simp only [h0] at hq1
  obtain ⟨⟨x1, q2, e2⟩, h1⟩ : ∃ x, intR S q1 e1 = x := ⟨_, rfl⟩
  have hq2 := (good_int.place S q1 e1 hq1).2
  simp only [h1] at hq2
  obtain ⟨⟨x2, q3, e3⟩, h2⟩ : ∃ x, listR 4096 membersR S q2 e2 = x := ⟨_, rfl⟩
  have hq3 := ((good_list good_members 4096 (by omega)).place S q2 e2 hq2).2
  simp only [h2] at hq3
  obtain ⟨⟨x3, q4, e4⟩, h3⟩ : ∃ x, listR 4096 assetsR S q3 e3 = x := ⟨_, rfl⟩
  have hq4 := ((good_list good_assets 4096 (by omega)).place S q3 e3 hq3).2
  simp only [h3] at hq4
  obtain ⟨⟨x4, q5, e5⟩, h4⟩ : ∃ x, listR 4096 pricesR S q4 e4 = x := ⟨_, rfl⟩
  have hq5 := ((good_list good_prices 4096 (by omega)).place S q4 e4 hq4).2
  simp only [h4] at hq5
  obtain ⟨⟨x5, q6, e6⟩, h5⟩ : ∃ x, listR 4096 basketsR S q5 e5 = x := ⟨_, rfl⟩
  have hq6 := ((good_list good_baskets 4096 (by omega)).place S q5 e5 hq5).2
  simp only [h5] at hq6
  obtain ⟨⟨x6, q7, e7⟩, h6⟩ : ∃ x, listR 4096 balancesR S q6 e6 = x := ⟨_, rfl⟩
  have hq7 := ((good_list good_balances 4096 (by omega)).place S q6 e6 hq6).2
  simp only [h6] at hq7
  obtain ⟨⟨x7, q8, e8⟩, h7⟩ : ∃ x, listR 4096 quotesR S q7 e7 = x := ⟨_, rfl⟩
  have hq8 := ((good_list good_quotes 4096 (by omega)).place S q7 e7 hq7).2
  simp only [h7] at hq8
  obtain ⟨⟨x8, q9, e9⟩, h8⟩ : ∃ x, listR 4096 tradesR S q8 e8 = x := ⟨_, rfl⟩
  have hq9 := ((good_list good_trades 4096 (by omega)).place S q8 e8 hq8).2
  simp only [h8] at hq9
  obtain ⟨⟨x9, q10, e10⟩, h9⟩ : ∃ x, listR 4096 coversR S q9 e9 = x := ⟨_, rfl⟩
  have hq10 := ((good_list good_covers 4096 (by omega)).place S q9 e9 hq9).2
  simp only [h9] at hq10
  obtain ⟨⟨x10, q11, e11⟩, h10⟩ : ∃ x, listR 4096 linksR S q10 e10 = x := ⟨_, rfl⟩
  have hq11 := ((good_list good_links 4096 (by omega)).place S q10 e10 hq10).2
  simp only [h10] at hq11
  obtain ⟨⟨x11, q12, e12⟩, h11⟩ : ∃ x, listR 4096 linksR S q11 e11 = x := ⟨_, rfl⟩
  have hq12 := ((good_list good_links 4096 (by omega)).place S q11 e11 hq11).2
  simp only [h11] at hq12
  have HV0 : Hid (viewR S 0 0 = (⟨x0, x1, x2, x3, x4, x5, x6, x7, x8, x9, x10, x11⟩, q12, e12)) := Lib.hid (by simp only [viewR, isoR, pairR, h0, h1, h2, h3, h4, h5, h6, h7, h8, h9, h10, h11])
  have hday : isI64 x0 ∨ True := Or.inr trivial
  clear hday
  have c0 := fun g W hi hb => HN.out g w 0 0 hq0 W hi hb
  simp only [h0] at c0
  replace c0 := Lib.hid c0
  have c1 := fun g W hi hb => HN.out g w q1 e1 hq1 W hi hb
  simp only [h1] at c1
  replace c1 := Lib.hid c1
  have c2 := fun g W hi hb => members_walk S hSl g q2 e2 hq2 w W hi hb
  simp only [h2] at c2
  replace c2 := Lib.hid c2
  have c3 := fun g W hi hb => assets_walk S hSl g q3 e3 hq3 w W hi hb
  simp only [h3] at c3
  replace c3 := Lib.hid c3
  have c4 := fun g W hi hb => prices_walk S hSl g q4 e4 hq4 w W hi hb
  simp only [h4] at c4
  replace c4 := Lib.hid c4
  have c5 := fun g W hi hb => baskets_walk S hSl g q5 e5 hq5 w W hi hb
  simp only [h5] at c5
  replace c5 := Lib.hid c5
  have c6 := fun g W hi hb => balances_walk S hSl g q6 e6 hq6 w W hi hb
  simp only [h6] at c6
  replace c6 := Lib.hid c6
  have c7 := fun g W hi hb => quotes_walk S hSl g q7 e7 hq7 w W hi hb
  simp only [h7] at c7
  replace c7 := Lib.hid c7
  have c8 := fun g W hi hb => trades_walk S hSl g q8 e8 hq8 w W hi hb
  simp only [h8] at c8
  replace c8 := Lib.hid c8
  have c9 := fun g W hi hb => covers_walk S hSl g q9 e9 hq9 w W hi hb
  simp only [h9] at c9
  replace c9 := Lib.hid c9
  have c10 := fun g W hi hb => links_walk S hSl g q10 e10 hq10 w W hi hb
  simp only [h10] at c10
  replace c10 := Lib.hid c10
  have c11 := fun g W hi hb => links_walk S hSl g q11 e11 hq11 w W hi hb
  simp only [h11] at c11
  replace c11 := Lib.hid c11
  have cE := Lib.hid (fun g W hi hb => wire_Reader_End.calls g ⟨S.toArray⟩ q12 e12 _ _ _ _ w W hi hb (end_ref S q12 e12))
  clear h0 h1 h2 h3 h4 h5 h6 h7 h8 h9 h10 h11
  go_enter Try.func9, Try.ntmps9
  go_wp2
  all_goals
   go_loopw [5, 11] (fun _ i wr => ∃ k : Nat, i = .int .i64 k ∧ k ≤ 8 ∧ Hid (Below w.heap.size w wr) ∧ Hid (wr.heap[w.heap.size]? = some (.cells #[.int .i64 0, .slice none 0 0, .slice none 0 0, .slice none 0 0, .slice none 0 0, .slice none 0 0, .slice none 0 0, .slice none 0 0, .int .i64 0, .slice none 0 0, .slice none 0 0, .slice none 0 0] 45 (0, 0)))) (fun _ i _ => 8 - (intOf i).toNat)
   case atStart => exact ⟨0, rfl, by omega, Lib.hid (below_alloc (Below.refl _ _) _), Lib.hid (blk_new w _)⟩
   case round =>
     obtain ⟨k, rfl, hk, HB, HV⟩ := hrel
     by_cases hkm : k < 8
     · have h1 := bt_nat s k
       have h2 := mark_at k (by omega)
       have hks : k < s.size := by omega
       have e := HOK.out k hkm
       rw [← e] at h2
       have e2 : (bt s k != bt s k) = false := by simp
       clear e
       go_wp2
       go_quiet (fail)
       go_wp2
       go_roundw
       case rel => exact ⟨k + 1, by go_num, by omega, Lib.hid (by first | exact HB.out | exact below_drew1 HB.out | exact pw_below_drewN HB.out _), Lib.hid HV.out⟩
       case measure => simp [intOf]; omega
     · have hkn : k = 8 := by omega
       subst hkn
       clear hkm hk
       have cN := Lib.hid (wire_NewReader.calls ⟨S.toArray⟩ _ _ _ w wr HB.out rfl)
       rw [← HX.out] at cN
       go_wp2_with (go_at_call 23; refine (cN.out).mono ?_; rintro en wA ⟨g, rfl, hi, hb, hb2⟩; have HI := Lib.hid hi; have HB1 := Lib.hid hb; have HV1 := Lib.hid (blk_below HV.out hb2); clear hi hb hb2)
       rw [HX.out] at HI
       have hvg : w.heap.size ≠ g := Ne.symm (IsS132.ne_blk HI.out HV1.out (by decide))
       have HD : Hid (Dc w (wA.alloc (.cells #[.pointer (some ⟨g, 0, none⟩)] 101)) g ⟨S.toArray⟩ 0 0 wA.heap.size (fun _ => True)) := Lib.hid ⟨HI.out.alloc _, blk_new wA _, below_alloc HB1.out _, trivial⟩
       replace HV := Lib.hid (blk_alloc HV1.out (.cells #[.pointer (some ⟨g, 0, none⟩)] 101))
       have hbxg : wA.heap.size ≠ g := Nat.ne_of_gt HI.out.lt
       have hvx : w.heap.size ≠ wA.heap.size := Nat.ne_of_lt (blk_lt HV1.out)
       clear HI HB1 HV1 HB cN
       generalize wA.alloc (.cells #[.pointer (some ⟨g, 0, none⟩)] 101) = wr2 at HD HV ⊢
       generalize wA.heap.size = bx at HD hbxg hvx ⊢
       have hgw : g < wr2.heap.size := HD.out.i.lt
       have hbw : bx < wr2.heap.size := blk_lt HD.out.x
       have hvw : w.heap.size < wr2.heap.size := blk_lt HV.out
       refine start_ (ds := ([] : List Nat)) (n := 9) (S := fun w' => w'.cell? ⟨bx, 0, none⟩ = some (.pointer (some ⟨g, 0, none⟩))) #[false, false, false, false, false, false, false, false, false] (by kernel_rfl) (by rfl) (by rfl) (blk_cell (blk_drew HD.out.x) 0) (fun hHeld => ?_)
       replace HD := Lib.hid (Dc.drew HD.out Mv.true)
       replace HV := Lib.hid (blk_drew HV.out)
       have hgw2 : g < wr2.drew.heap.size := hgw
       have hbw2 : bx < wr2.drew.heap.size := hbw
       have hvw2 : w.heap.size < wr2.drew.heap.size := hvw
       clear hgw hbw hvw
       generalize wr2.drew = w5 at HD HV hHeld hgw2 hbw2 hvw2 ⊢
       have hsz : w5.heap.size ≤ w5.heap.size := Nat.le_refl _
       refine pure_ (i := 0) (N := some 33) (v := ?_) (a' := ?_) #[true, false, false, false, false, false, false, false, false] rfl rfl (by kernel_rfl) (fun _ _ _ h => h) (Or.inl ⟨by rfl, ?_⟩) ?_ ?_
       rotate_left
       · intro w'
         go_simp
         with_reducible rfl
       rotate_left
       · simp only [putAll, Act.put, List.setIfInBounds_toArray, List.set_cons_zero, List.set_cons_succ, i64_w, i32_w]
         rfl
       refine pure_ (i := 3) (N := some 36) (v := ?_) (a' := ?_) #[true, false, false, true, false, false, false, false, false] rfl rfl (by kernel_rfl) (fun _ _ _ h => h) (Or.inl ⟨by rfl, ?_⟩) ?_ ?_
       rotate_left
       · intro w'
         go_simp
         with_reducible rfl
       rotate_left
       · simp only [putAll, Act.put, List.setIfInBounds_toArray, List.set_cons_zero, List.set_cons_succ, i64_w, i32_w]
         rfl
       refine take_ (i := 1) (N := some 34) (v := ?_) (a' := ?_) #[true, true, false, true, false, false, false, false, false] rfl rfl (by kernel_rfl) (fun _ _ _ h => h) (Or.inl ⟨by rfl, ?_⟩) hHeld ?_ ?_
       rotate_left
       · rintro w' s0
         go_simp
         with_reducible rfl
       rotate_left
       · simp only [putAll, Act.put, List.setIfInBounds_toArray, List.set_cons_zero, List.set_cons_succ, i64_w, i32_w]
         rfl
       refine take_ (i := 4) (N := some 37) (v := ?_) (a' := ?_) #[true, true, false, true, true, false, false, false, false] rfl rfl (by kernel_rfl) (fun _ _ _ h => h) (Or.inl ⟨by rfl, ?_⟩) hHeld ?_ ?_
       rotate_left
       · rintro w' s0
         go_simp
         with_reducible rfl
       rotate_left
       · simp only [putAll, Act.put, List.setIfInBounds_toArray, List.set_cons_zero, List.set_cons_succ, i64_w, i32_w]
         rfl
       refine join_ 1 #[true, true, true, true, true, true, true, true, false] (fun b : Nat => [(35, .int .i64 x0), (38, .int .i64 x1), (39, .agg #[.int .i64 x0, .slice none 0 0, .slice none 0 0, .slice none 0 0, .slice none 0 0, .slice none 0 0, .slice none 0 0, .slice none 0 0, .int .i64 x1, .slice none 0 0, .slice none 0 0, .slice none 0 0]), (7, .pointer (some ⟨b, 0, none⟩))]) (fun b W' => Dc w W' g ⟨S.toArray⟩ q2 e2 bx (fun _ => True) ∧ W'.heap[w.heap.size]? = some (.cells #[.int .i64 0, .slice none 0 0, .slice none 0 0, .slice none 0 0, .slice none 0 0, .slice none 0 0, .slice none 0 0, .slice none 0 0, .int .i64 0, .slice none 0 0, .slice none 0 0, .slice none 0 0] 45 (0, 0)) ∧ W'.heap[b]? = some (.cells #[.int .i64 0, .slice none 0 0, .slice none 0 0, .slice none 0 0, .slice none 0 0, .slice none 0 0, .slice none 0 0, .slice none 0 0, .int .i64 0, .slice none 0 0, .slice none 0 0, .slice none 0 0] 45 (0, 0)) ∧ w5.heap.size ≤ b) (fun b W' hF => ?_) (fun hA2 => ?_)
       rotate_left
       · -- the orders
         refine join_ 3 #[true, true, true, true, true, false, false, true, false] (fun b : Nat => [(35, .int .i64 x0), (7, .pointer (some ⟨b, 0, none⟩))]) (fun b W' => Dc w W' g ⟨S.toArray⟩ q1 e1 bx (fun _ => True) ∧ W'.heap[w.heap.size]? = some (.cells #[.int .i64 0, .slice none 0 0, .slice none 0 0, .slice none 0 0, .slice none 0 0, .slice none 0 0, .slice none 0 0, .slice none 0 0, .int .i64 0, .slice none 0 0, .slice none 0 0, .slice none 0 0] 45 (0, 0)) ∧ W'.heap[b]? = some (.cells #[.int .i64 0, .slice none 0 0, .slice none 0 0, .slice none 0 0, .slice none 0 0, .slice none 0 0, .slice none 0 0, .slice none 0 0, .int .i64 0, .slice none 0 0, .slice none 0 0, .slice none 0 0] 45 (0, 0)) ∧ w5.heap.size ≤ b) (fun b W' hF => ?_) (fun hA1 => ?_)
         · obtain ⟨hd, hv, hm, hb0⟩ := hF
           have HD := Lib.hid hd
           have HV := Lib.hid hv
           have HM := Lib.hid hm
           clear hd hm hv
           have hbg : b ≠ g := by omega
           refine norm_ (a' := ?_) ?_ ?_
           rotate_left
           · simp only [putAll, Act.put, List.setIfInBounds_toArray, List.set_cons_zero, List.set_cons_succ, i64_w, i32_w]
             rfl
           refine one_ (i := 5) (N := some 38) #[true, true, true, true, true, true, false, true, false] rfl rfl (by kernel_rfl) (by decide) (fun K hK => ?_)
           refine goes_ Try.func24 (by kernel_rfl) rfl #[.pointer (some ⟨g, 0, none⟩)] (by rfl) rfl rfl (by first | rfl | (simp only [List.map_toArray, List.map_cons, List.map_nil]; rfl)) ?_
           refine (c1.out g _ HD.out.i HD.out.b).mono ?_
           rintro en w' ⟨rfl, hi, hb, hk⟩
           refine ⟨_, rfl, ?_⟩
           replace HM := Lib.hid ((hk.2 _ (blk_lt HM.out) hbg (by simp)).trans HM.out)
           replace HV := Lib.hid ((hk.2 _ (blk_lt HV.out) hvg (by simp)).trans HV.out)
           replace HD := Lib.hid (HD.out.call Mv.true hbxg hi hb hk)
           clear hi hb hk
           refine hK.out _ _ (blk_cell HD.out.x 0) (fun hHeld => ?_)
           clear hK K
           refine norm_ (a' := ?_) ?_ ?_
           rotate_left
           · show Act.put _ (some 38) _ = _
             simp only [putAll, Act.put, List.setIfInBounds_toArray, List.set_cons_zero, List.set_cons_succ, i64_w, i32_w]
             rfl
           refine pure_ (i := 6) (N := some 39) (v := ?_) (a' := ?_) #[true, true, true, true, true, true, true, true, false] rfl rfl (by kernel_rfl) (fun _ _ _ h => h) (Or.inl ⟨by rfl, ?_⟩) ?_ ?_
           rotate_left
           · intro w'
             go_simp
             with_reducible rfl
           rotate_left
           · simp only [putAll, Act.put, List.setIfInBounds_toArray, List.set_cons_zero, List.set_cons_succ, i64_w, i32_w]
             rfl
           refine norm_ ?_ (hA2 b _ ⟨HD.out, HV.out, HM.out, hb0⟩)
           simp only [putAll, Act.put, List.setIfInBounds_toArray, List.set_cons_zero, List.set_cons_succ, i64_w, i32_w]
         refine join_ 4 #[true, true, false, true, true, false, false, true, false] (fun b : Nat => [(7, .pointer (some ⟨b, 0, none⟩))]) (fun b W' => Dc w W' g ⟨S.toArray⟩ 0 0 bx (fun _ => True) ∧ W'.heap[w.heap.size]? = some (.cells #[.int .i64 0, .slice none 0 0, .slice none 0 0, .slice none 0 0, .slice none 0 0, .slice none 0 0, .slice none 0 0, .slice none 0 0, .int .i64 0, .slice none 0 0, .slice none 0 0, .slice none 0 0] 45 (0, 0)) ∧ W'.heap[b]? = some (.cells #[.int .i64 0, .slice none 0 0, .slice none 0 0, .slice none 0 0, .slice none 0 0, .slice none 0 0, .slice none 0 0, .slice none 0 0, .int .i64 0, .slice none 0 0, .slice none 0 0, .slice none 0 0] 45 (0, 0)) ∧ w5.heap.size ≤ b) (fun b W' hF => ?_) (fun hA0 => ?_)
         · obtain ⟨hd, hv, hm, hb0⟩ := hF
           have HD := Lib.hid hd
           have HV := Lib.hid hv
           have HM := Lib.hid hm
           clear hd hm hv
           have hbg : b ≠ g := by omega
           refine norm_ (a' := ?_) ?_ ?_
           rotate_left
           · simp only [putAll, Act.put, List.setIfInBounds_toArray, List.set_cons_zero, List.set_cons_succ, i64_w, i32_w]
             rfl
           refine one_ (i := 2) (N := some 35) #[true, true, true, true, true, false, false, true, false] rfl rfl (by kernel_rfl) (by decide) (fun K hK => ?_)
           refine goes_ Try.func24 (by kernel_rfl) rfl #[.pointer (some ⟨g, 0, none⟩)] (by rfl) rfl rfl (by first | rfl | (simp only [List.map_toArray, List.map_cons, List.map_nil]; rfl)) ?_
           refine (c0.out g _ HD.out.i HD.out.b).mono ?_
           rintro en w' ⟨rfl, hi, hb, hk⟩
           refine ⟨_, rfl, ?_⟩
           replace HM := Lib.hid ((hk.2 _ (blk_lt HM.out) hbg (by simp)).trans HM.out)
           replace HV := Lib.hid ((hk.2 _ (blk_lt HV.out) hvg (by simp)).trans HV.out)
           replace HD := Lib.hid (HD.out.call Mv.true hbxg hi hb hk)
           clear hi hb hk
           refine hK.out _ _ (blk_cell HD.out.x 0) (fun hHeld => ?_)
           clear hK K
           refine norm_ ?_ (hA1 b _ ⟨HD.out, HV.out, HM.out, hb0⟩)
           simp only [putAll, Act.put, List.setIfInBounds_toArray, List.set_cons_zero, List.set_cons_succ, i64_w, i32_w]
         refine two_ (i := 2) (j := 7) (Ni := some 35) (Nj := some 7) #[true, true, true, true, true, false, false, false, false] #[true, true, false, true, true, false, false, true, false] rfl rfl rfl rfl (by kernel_rfl) (by decide) (by decide) (fun K hK => ?_) (fun K hK => ?_)
         rotate_left
         · refine value_ (w1 := ?_) (v := ?_) (by rfl) rfl ?_ ?_
           rotate_left 2
           · go_simp
             constructor
             · rfl
             · rfl
           refine hK.out _ _ (blk_cell (blk_alloc HD.out.x _) 0) (fun _ => ?_)
           clear hK K
           refine norm_ ?_ (hA0 _ _ ⟨HD.out.alloc Mv.true _, blk_alloc HV.out _, blk_new _ _, hsz⟩)
           simp only [putAll, Act.put, List.setIfInBounds_toArray, List.set_cons_zero, List.set_cons_succ, i64_w, i32_w]
         refine goes_ Try.func24 (by kernel_rfl) rfl #[.pointer (some ⟨g, 0, none⟩)] (by rfl) rfl rfl (by first | rfl | (simp only [List.map_toArray, List.map_cons, List.map_nil]; rfl)) ?_
         refine (c0.out g _ HD.out.i HD.out.b).mono ?_
         rintro en w' ⟨rfl, hi, hb, hk⟩
         refine ⟨_, rfl, ?_⟩
         replace HV := Lib.hid ((hk.2 _ (blk_lt HV.out) hvg (by simp)).trans HV.out)
         replace HD := Lib.hid (HD.out.call Mv.true hbxg hi hb hk)
         replace hsz := Nat.le_trans hsz hk.1
         clear hi hb hk
         refine hK.out _ _ (blk_cell HD.out.x 0) (fun hHeld => ?_)
         clear hK K
         refine norm_ (a' := ?_) ?_ ?_
         rotate_left
         · show Act.put _ (some 35) _ = _
           simp only [putAll, Act.put, List.setIfInBounds_toArray, List.set_cons_zero, List.set_cons_succ, i64_w, i32_w]
           rfl
         refine two_ (i := 5) (j := 7) (Ni := some 38) (Nj := some 7) #[true, true, true, true, true, true, false, false, false] #[true, true, true, true, true, false, false, true, false] rfl rfl rfl rfl (by kernel_rfl) (by decide) (by decide) (fun K hK => ?_) (fun K hK => ?_)
         rotate_left
         · refine value_ (w1 := ?_) (v := ?_) (by rfl) rfl ?_ ?_
           rotate_left 2
           · go_simp
             constructor
             · rfl
             · rfl
           refine hK.out _ _ (blk_cell (blk_alloc HD.out.x _) 0) (fun _ => ?_)
           clear hK K
           refine norm_ ?_ (hA1 _ _ ⟨HD.out.alloc Mv.true _, blk_alloc HV.out _, blk_new _ _, hsz⟩)
           simp only [putAll, Act.put, List.setIfInBounds_toArray, List.set_cons_zero, List.set_cons_succ, i64_w, i32_w]
         refine goes_ Try.func24 (by kernel_rfl) rfl #[.pointer (some ⟨g, 0, none⟩)] (by rfl) rfl rfl (by first | rfl | (simp only [List.map_toArray, List.map_cons, List.map_nil]; rfl)) ?_
         refine (c1.out g _ HD.out.i HD.out.b).mono ?_
         rintro en w' ⟨rfl, hi, hb, hk⟩
         refine ⟨_, rfl, ?_⟩
         replace HV := Lib.hid ((hk.2 _ (blk_lt HV.out) hvg (by simp)).trans HV.out)
         replace HD := Lib.hid (HD.out.call Mv.true hbxg hi hb hk)
         replace hsz := Nat.le_trans hsz hk.1
         clear hi hb hk
         refine hK.out _ _ (blk_cell HD.out.x 0) (fun hHeld => ?_)
         clear hK K
         refine norm_ (a' := ?_) ?_ ?_
         rotate_left
         · show Act.put _ (some 38) _ = _
           simp only [putAll, Act.put, List.setIfInBounds_toArray, List.set_cons_zero, List.set_cons_succ, i64_w, i32_w]
           rfl
         refine pure_ (i := 6) (N := some 39) (v := ?_) (a' := ?_) #[true, true, true, true, true, true, true, false, false] rfl rfl (by kernel_rfl) (fun _ _ _ h => h) (Or.inl ⟨by rfl, ?_⟩) ?_ ?_
         rotate_left
         · intro w'
           go_simp
           with_reducible rfl
         rotate_left
         · simp only [putAll, Act.put, List.setIfInBounds_toArray, List.set_cons_zero, List.set_cons_succ, i64_w, i32_w]
           rfl
         refine one_ (i := 7) (N := some 7) #[true, true, true, true, true, true, true, true, false] rfl rfl (by kernel_rfl) (by decide) (fun K hK => ?_)
         refine value_ (w1 := ?_) (v := ?_) (by rfl) rfl ?_ ?_
         rotate_left 2
         · go_simp
           constructor
           · rfl
           · rfl
         refine hK.out _ _ (blk_cell (blk_alloc HD.out.x _) 0) (fun _ => ?_)
         clear hK K
         refine norm_ ?_ (hA2 _ _ ⟨HD.out.alloc Mv.true _, blk_alloc HV.out _, blk_new _ _, hsz⟩)
         simp only [putAll, Act.put, List.setIfInBounds_toArray, List.set_cons_zero, List.set_cons_succ, i64_w, i32_w]
       clear HD HV hHeld hsz
       obtain ⟨hd, hv, hm, hb0⟩ := hF
       have HD := Lib.hid hd
       have HV := Lib.hid hv
       have HM := Lib.hid hm
       clear hd hm hv
       have hbg : b ≠ g := by omega
       have hwb : w.heap.size ≤ b := by omega
       have hgb : g ≠ b := by omega
       have hbb : bx ≠ b := by omega
       have hvb : w.heap.size ≠ b := by omega
       clear hb0 hgw2 hbw2 hvw2
       refine norm_ (a' := ?_) ?_ ?_
       rotate_left
       · simp only [putAll, Act.put, List.setIfInBounds_toArray, List.set_cons_zero, List.set_cons_succ, i64_w, i32_w]
         rfl
       refine one_ (i := 8) (N := none) #[true, true, true, true, true, true, true, true, true] rfl rfl (by kernel_rfl) (by decide) (fun K hK => ?_)
       refine store_step 45 (.tmp 7) (.tmp 39) (.agg #[.int .i64 x0, .slice none 0 0, .slice none 0 0, .slice none 0 0, .slice none 0 0, .slice none 0 0, .slice none 0 0, .slice none 0 0, .int .i64 x1, .slice none 0 0, .slice none 0 0, .slice none 0 0]) [.int .i64 x0, .slice none 0 0, .slice none 0 0, .slice none 0 0, .slice none 0 0, .slice none 0 0, .slice none 0 0, .slice none 0 0, .int .i64 x1, .slice none 0 0, .slice none 0 0, .slice none 0 0] #[.int .i64 0, .slice none 0 0, .slice none 0 0, .slice none 0 0, .slice none 0 0, .slice none 0 0, .slice none 0 0, .slice none 0 0, .int .i64 0, .slice none 0 0, .slice none 0 0, .slice none 0 0] #[.int .i64 x0, .slice none 0 0, .slice none 0 0, .slice none 0 0, .slice none 0 0, .slice none 0 0, .slice none 0 0, .slice none 0 0, .int .i64 x1, .slice none 0 0, .slice none 0 0, .slice none 0 0] b 0 45 (by rfl) rfl rfl rfl rfl HM.out rfl (by kernel_rfl) (by simp) rfl rfl ?_
       intro w1 hw
       replace HD := Lib.hid (HD.out.wrote Mv.true hw HM.out hwb hgb hbb)
       replace HV := Lib.hid (hw.blk HV.out hvb)
       replace HM := Lib.hid hw.row
       clear hw
       refine hK.out _ _ (blk_cell HD.out.x 0) (fun _ => ?_)
       clear hK K
       refine done_ (by kernel_rfl) ?_
       have HP := Lib.hid Mv.true
       have hbx := blk_cell HD.out.x 0
       clear HOK HN c0 c1
       go_wp2_with (first
         | (go_at_call 25; (with_reducible refine (c2.out g _ HD.out.i HD.out.b).mono ?_); rintro en w1 ⟨v9, rfl, hR, hi, hb2, hk⟩; obtain ⟨B0, d0, eR⟩ := Kd.R_slice hR; subst eR; replace HV := Lib.hid ((hk.2 _ (blk_lt HV.out) hvg (by simp)).trans HV.out); replace HM := Lib.hid ((hk.2 _ (blk_lt HM.out) hbg (by simp)).trans HM.out); replace HD := Lib.hid ((HD.out.call HP.out hbxg hi hb2 hk).more (Q := fun W => Kd.R k68 68 W w.heap.size (fun _ => True) (.slice B0 x2.length d0) x2) (Kd.R_lower hR HD.out.b.size)); replace HP := Lib.hid (HP.out.and (Mv.row k68 68 w.heap.size (.slice B0 x2.length d0) x2 (by decide))); clear hR hi hb2 hk hbx; have hbx := blk_cell HD.out.x 0)
         | ((with_reducible refine gate_ (.store 38 (.tmp 42) (.tmp 41)) rfl ?_); refine store_plain 38 (.tmp 42) (.tmp 41) (.slice B0 x2.length d0) [.slice B0 x2.length d0] #[.int .i64 x0, .slice none 0 0, .slice none 0 0, .slice none 0 0, .slice none 0 0, .slice none 0 0, .slice none 0 0, .slice none 0 0, .int .i64 x1, .slice none 0 0, .slice none 0 0, .slice none 0 0] #[.int .i64 x0, .slice B0 x2.length d0, .slice none 0 0, .slice none 0 0, .slice none 0 0, .slice none 0 0, .slice none 0 0, .slice none 0 0, .int .i64 x1, .slice none 0 0, .slice none 0 0, .slice none 0 0] b 1 45 rfl rfl rfl rfl rfl HM.out rfl (by kernel_rfl) (by simp) rfl rfl ?_; intro w1 hw; replace HD := Lib.hid (HD.out.wrote HP.out hw HM.out hwb hgb hbb); replace HV := Lib.hid (hw.blk HV.out hvb); replace HM := Lib.hid hw.row; clear hw hbx; have hbx := blk_cell HD.out.x 0)
         | (go_at_call 26; (with_reducible refine (c3.out g _ HD.out.i HD.out.b).mono ?_); rintro en w1 ⟨v9, rfl, hR, hi, hb2, hk⟩; obtain ⟨B1, d1, eR⟩ := Kd.R_slice hR; subst eR; replace HV := Lib.hid ((hk.2 _ (blk_lt HV.out) hvg (by simp)).trans HV.out); replace HM := Lib.hid ((hk.2 _ (blk_lt HM.out) hbg (by simp)).trans HM.out); replace HD := Lib.hid ((HD.out.call HP.out hbxg hi hb2 hk).more (Q := fun W => Kd.R k57 57 W w.heap.size (fun _ => True) (.slice B1 x3.length d1) x3) (Kd.R_lower hR HD.out.b.size)); replace HP := Lib.hid (HP.out.and (Mv.row k57 57 w.heap.size (.slice B1 x3.length d1) x3 (by decide))); clear hR hi hb2 hk hbx; have hbx := blk_cell HD.out.x 0)
         | ((with_reducible refine gate_ (.store 39 (.tmp 45) (.tmp 44)) rfl ?_); refine store_plain 39 (.tmp 45) (.tmp 44) (.slice B1 x3.length d1) [.slice B1 x3.length d1] #[.int .i64 x0, .slice B0 x2.length d0, .slice none 0 0, .slice none 0 0, .slice none 0 0, .slice none 0 0, .slice none 0 0, .slice none 0 0, .int .i64 x1, .slice none 0 0, .slice none 0 0, .slice none 0 0] #[.int .i64 x0, .slice B0 x2.length d0, .slice B1 x3.length d1, .slice none 0 0, .slice none 0 0, .slice none 0 0, .slice none 0 0, .slice none 0 0, .int .i64 x1, .slice none 0 0, .slice none 0 0, .slice none 0 0] b 2 45 rfl rfl rfl rfl rfl HM.out rfl (by kernel_rfl) (by simp) rfl rfl ?_; intro w1 hw; replace HD := Lib.hid (HD.out.wrote HP.out hw HM.out hwb hgb hbb); replace HV := Lib.hid (hw.blk HV.out hvb); replace HM := Lib.hid hw.row; clear hw hbx; have hbx := blk_cell HD.out.x 0)
         | (go_at_call 27; (with_reducible refine (c4.out g _ HD.out.i HD.out.b).mono ?_); rintro en w1 ⟨v9, rfl, hR, hi, hb2, hk⟩; obtain ⟨B2, d2, eR⟩ := Kd.R_slice hR; subst eR; replace HV := Lib.hid ((hk.2 _ (blk_lt HV.out) hvg (by simp)).trans HV.out); replace HM := Lib.hid ((hk.2 _ (blk_lt HM.out) hbg (by simp)).trans HM.out); replace HD := Lib.hid ((HD.out.call HP.out hbxg hi hb2 hk).more (Q := fun W => Kd.R k70 70 W w.heap.size (fun _ => True) (.slice B2 x4.length d2) x4) (Kd.R_lower hR HD.out.b.size)); replace HP := Lib.hid (HP.out.and (Mv.row k70 70 w.heap.size (.slice B2 x4.length d2) x4 (by decide))); clear hR hi hb2 hk hbx; have hbx := blk_cell HD.out.x 0)
         | ((with_reducible refine gate_ (.store 40 (.tmp 48) (.tmp 47)) rfl ?_); refine store_plain 40 (.tmp 48) (.tmp 47) (.slice B2 x4.length d2) [.slice B2 x4.length d2] #[.int .i64 x0, .slice B0 x2.length d0, .slice B1 x3.length d1, .slice none 0 0, .slice none 0 0, .slice none 0 0, .slice none 0 0, .slice none 0 0, .int .i64 x1, .slice none 0 0, .slice none 0 0, .slice none 0 0] #[.int .i64 x0, .slice B0 x2.length d0, .slice B1 x3.length d1, .slice B2 x4.length d2, .slice none 0 0, .slice none 0 0, .slice none 0 0, .slice none 0 0, .int .i64 x1, .slice none 0 0, .slice none 0 0, .slice none 0 0] b 3 45 rfl rfl rfl rfl rfl HM.out rfl (by kernel_rfl) (by simp) rfl rfl ?_; intro w1 hw; replace HD := Lib.hid (HD.out.wrote HP.out hw HM.out hwb hgb hbb); replace HV := Lib.hid (hw.blk HV.out hvb); replace HM := Lib.hid hw.row; clear hw hbx; have hbx := blk_cell HD.out.x 0)
         | (go_at_call 28; (with_reducible refine (c5.out g _ HD.out.i HD.out.b).mono ?_); rintro en w1 ⟨v9, rfl, hR, hi, hb2, hk⟩; obtain ⟨B3, d3, eR⟩ := Kd.R_slice hR; subst eR; replace HV := Lib.hid ((hk.2 _ (blk_lt HV.out) hvg (by simp)).trans HV.out); replace HM := Lib.hid ((hk.2 _ (blk_lt HM.out) hbg (by simp)).trans HM.out); replace HD := Lib.hid ((HD.out.call HP.out hbxg hi hb2 hk).more (Q := fun W => Kd.R k63 63 W w.heap.size (fun _ => True) (.slice B3 x5.length d3) x5) (Kd.R_lower hR HD.out.b.size)); replace HP := Lib.hid (HP.out.and (Mv.row k63 63 w.heap.size (.slice B3 x5.length d3) x5 (by decide))); clear hR hi hb2 hk hbx; have hbx := blk_cell HD.out.x 0)
         | ((with_reducible refine gate_ (.store 24 (.tmp 51) (.tmp 50)) rfl ?_); refine store_plain 24 (.tmp 51) (.tmp 50) (.slice B3 x5.length d3) [.slice B3 x5.length d3] #[.int .i64 x0, .slice B0 x2.length d0, .slice B1 x3.length d1, .slice B2 x4.length d2, .slice none 0 0, .slice none 0 0, .slice none 0 0, .slice none 0 0, .int .i64 x1, .slice none 0 0, .slice none 0 0, .slice none 0 0] #[.int .i64 x0, .slice B0 x2.length d0, .slice B1 x3.length d1, .slice B2 x4.length d2, .slice B3 x5.length d3, .slice none 0 0, .slice none 0 0, .slice none 0 0, .int .i64 x1, .slice none 0 0, .slice none 0 0, .slice none 0 0] b 4 45 rfl rfl rfl rfl rfl HM.out rfl (by kernel_rfl) (by simp) rfl rfl ?_; intro w1 hw; replace HD := Lib.hid (HD.out.wrote HP.out hw HM.out hwb hgb hbb); replace HV := Lib.hid (hw.blk HV.out hvb); replace HM := Lib.hid hw.row; clear hw hbx; have hbx := blk_cell HD.out.x 0)
         | (go_at_call 29; (with_reducible refine (c6.out g _ HD.out.i HD.out.b).mono ?_); rintro en w1 ⟨v9, rfl, hR, hi, hb2, hk⟩; obtain ⟨B4, d4, eR⟩ := Kd.R_slice hR; subst eR; replace HV := Lib.hid ((hk.2 _ (blk_lt HV.out) hvg (by simp)).trans HV.out); replace HM := Lib.hid ((hk.2 _ (blk_lt HM.out) hbg (by simp)).trans HM.out); replace HD := Lib.hid ((HD.out.call HP.out hbxg hi hb2 hk).more (Q := fun W => Kd.R k73 73 W w.heap.size (fun _ => True) (.slice B4 x6.length d4) x6) (Kd.R_lower hR HD.out.b.size)); replace HP := Lib.hid (HP.out.and (Mv.row k73 73 w.heap.size (.slice B4 x6.length d4) x6 (by decide))); clear hR hi hb2 hk hbx; have hbx := blk_cell HD.out.x 0)
         | ((with_reducible refine gate_ (.store 41 (.tmp 54) (.tmp 53)) rfl ?_); refine store_plain 41 (.tmp 54) (.tmp 53) (.slice B4 x6.length d4) [.slice B4 x6.length d4] #[.int .i64 x0, .slice B0 x2.length d0, .slice B1 x3.length d1, .slice B2 x4.length d2, .slice B3 x5.length d3, .slice none 0 0, .slice none 0 0, .slice none 0 0, .int .i64 x1, .slice none 0 0, .slice none 0 0, .slice none 0 0] #[.int .i64 x0, .slice B0 x2.length d0, .slice B1 x3.length d1, .slice B2 x4.length d2, .slice B3 x5.length d3, .slice B4 x6.length d4, .slice none 0 0, .slice none 0 0, .int .i64 x1, .slice none 0 0, .slice none 0 0, .slice none 0 0] b 5 45 rfl rfl rfl rfl rfl HM.out rfl (by kernel_rfl) (by simp) rfl rfl ?_; intro w1 hw; replace HD := Lib.hid (HD.out.wrote HP.out hw HM.out hwb hgb hbb); replace HV := Lib.hid (hw.blk HV.out hvb); replace HM := Lib.hid hw.row; clear hw hbx; have hbx := blk_cell HD.out.x 0)
         | (go_at_call 30; (with_reducible refine (c7.out g _ HD.out.i HD.out.b).mono ?_); rintro en w1 ⟨v9, rfl, hR, hi, hb2, hk⟩; obtain ⟨B5, d5, eR⟩ := Kd.R_slice hR; subst eR; replace HV := Lib.hid ((hk.2 _ (blk_lt HV.out) hvg (by simp)).trans HV.out); replace HM := Lib.hid ((hk.2 _ (blk_lt HM.out) hbg (by simp)).trans HM.out); replace HD := Lib.hid ((HD.out.call HP.out hbxg hi hb2 hk).more (Q := fun W => Kd.R k127 127 W w.heap.size (fun _ => True) (.slice B5 x7.length d5) x7) (Kd.R_lower hR HD.out.b.size)); replace HP := Lib.hid (HP.out.and (Mv.row k127 127 w.heap.size (.slice B5 x7.length d5) x7 (by decide))); clear hR hi hb2 hk hbx; have hbx := blk_cell HD.out.x 0)
         | ((with_reducible refine gate_ (.store 26 (.tmp 57) (.tmp 56)) rfl ?_); refine store_plain 26 (.tmp 57) (.tmp 56) (.slice B5 x7.length d5) [.slice B5 x7.length d5] #[.int .i64 x0, .slice B0 x2.length d0, .slice B1 x3.length d1, .slice B2 x4.length d2, .slice B3 x5.length d3, .slice B4 x6.length d4, .slice none 0 0, .slice none 0 0, .int .i64 x1, .slice none 0 0, .slice none 0 0, .slice none 0 0] #[.int .i64 x0, .slice B0 x2.length d0, .slice B1 x3.length d1, .slice B2 x4.length d2, .slice B3 x5.length d3, .slice B4 x6.length d4, .slice B5 x7.length d5, .slice none 0 0, .int .i64 x1, .slice none 0 0, .slice none 0 0, .slice none 0 0] b 6 45 rfl rfl rfl rfl rfl HM.out rfl (by kernel_rfl) (by simp) rfl rfl ?_; intro w1 hw; replace HD := Lib.hid (HD.out.wrote HP.out hw HM.out hwb hgb hbb); replace HV := Lib.hid (hw.blk HV.out hvb); replace HM := Lib.hid hw.row; clear hw hbx; have hbx := blk_cell HD.out.x 0)
         | (go_at_call 31; (with_reducible refine (c8.out g _ HD.out.i HD.out.b).mono ?_); rintro en w1 ⟨v9, rfl, hR, hi, hb2, hk⟩; obtain ⟨B6, d6, eR⟩ := Kd.R_slice hR; subst eR; replace HV := Lib.hid ((hk.2 _ (blk_lt HV.out) hvg (by simp)).trans HV.out); replace HM := Lib.hid ((hk.2 _ (blk_lt HM.out) hbg (by simp)).trans HM.out); replace HD := Lib.hid ((HD.out.call HP.out hbxg hi hb2 hk).more (Q := fun W => Kd.R k117 117 W w.heap.size (fun _ => True) (.slice B6 x8.length d6) x8) (Kd.R_lower hR HD.out.b.size)); replace HP := Lib.hid (HP.out.and (Mv.row k117 117 w.heap.size (.slice B6 x8.length d6) x8 (by decide))); clear hR hi hb2 hk hbx; have hbx := blk_cell HD.out.x 0)
         | ((with_reducible refine gate_ (.store 27 (.tmp 60) (.tmp 59)) rfl ?_); refine store_plain 27 (.tmp 60) (.tmp 59) (.slice B6 x8.length d6) [.slice B6 x8.length d6] #[.int .i64 x0, .slice B0 x2.length d0, .slice B1 x3.length d1, .slice B2 x4.length d2, .slice B3 x5.length d3, .slice B4 x6.length d4, .slice B5 x7.length d5, .slice none 0 0, .int .i64 x1, .slice none 0 0, .slice none 0 0, .slice none 0 0] #[.int .i64 x0, .slice B0 x2.length d0, .slice B1 x3.length d1, .slice B2 x4.length d2, .slice B3 x5.length d3, .slice B4 x6.length d4, .slice B5 x7.length d5, .slice B6 x8.length d6, .int .i64 x1, .slice none 0 0, .slice none 0 0, .slice none 0 0] b 7 45 rfl rfl rfl rfl rfl HM.out rfl (by kernel_rfl) (by simp) rfl rfl ?_; intro w1 hw; replace HD := Lib.hid (HD.out.wrote HP.out hw HM.out hwb hgb hbb); replace HV := Lib.hid (hw.blk HV.out hvb); replace HM := Lib.hid hw.row; clear hw hbx; have hbx := blk_cell HD.out.x 0)
         | (go_at_call 32; (with_reducible refine (c9.out g _ HD.out.i HD.out.b).mono ?_); rintro en w1 ⟨v9, rfl, hR, hi, hb2, hk⟩; obtain ⟨B7, d7, eR⟩ := Kd.R_slice hR; subst eR; replace HV := Lib.hid ((hk.2 _ (blk_lt HV.out) hvg (by simp)).trans HV.out); replace HM := Lib.hid ((hk.2 _ (blk_lt HM.out) hbg (by simp)).trans HM.out); replace HD := Lib.hid ((HD.out.call HP.out hbxg hi hb2 hk).more (Q := fun W => Kd.R k77 77 W w.heap.size (fun _ => True) (.slice B7 x9.length d7) x9) (Kd.R_lower hR HD.out.b.size)); replace HP := Lib.hid (HP.out.and (Mv.row k77 77 w.heap.size (.slice B7 x9.length d7) x9 (by decide))); clear hR hi hb2 hk hbx; have hbx := blk_cell HD.out.x 0)
         | ((with_reducible refine gate_ (.store 42 (.tmp 63) (.tmp 62)) rfl ?_); refine store_plain 42 (.tmp 63) (.tmp 62) (.slice B7 x9.length d7) [.slice B7 x9.length d7] #[.int .i64 x0, .slice B0 x2.length d0, .slice B1 x3.length d1, .slice B2 x4.length d2, .slice B3 x5.length d3, .slice B4 x6.length d4, .slice B5 x7.length d5, .slice B6 x8.length d6, .int .i64 x1, .slice none 0 0, .slice none 0 0, .slice none 0 0] #[.int .i64 x0, .slice B0 x2.length d0, .slice B1 x3.length d1, .slice B2 x4.length d2, .slice B3 x5.length d3, .slice B4 x6.length d4, .slice B5 x7.length d5, .slice B6 x8.length d6, .int .i64 x1, .slice B7 x9.length d7, .slice none 0 0, .slice none 0 0] b 9 45 rfl rfl rfl rfl rfl HM.out rfl (by kernel_rfl) (by simp) rfl rfl ?_; intro w1 hw; replace HD := Lib.hid (HD.out.wrote HP.out hw HM.out hwb hgb hbb); replace HV := Lib.hid (hw.blk HV.out hvb); replace HM := Lib.hid hw.row; clear hw hbx; have hbx := blk_cell HD.out.x 0)
         | (go_at_call 33; (with_reducible refine (c10.out g _ HD.out.i HD.out.b).mono ?_); rintro en w1 ⟨v9, rfl, hR, hi, hb2, hk⟩; obtain ⟨B8, d8, eR⟩ := Kd.R_slice hR; subst eR; replace HV := Lib.hid ((hk.2 _ (blk_lt HV.out) hvg (by simp)).trans HV.out); replace HM := Lib.hid ((hk.2 _ (blk_lt HM.out) hbg (by simp)).trans HM.out); replace HD := Lib.hid ((HD.out.call HP.out hbxg hi hb2 hk).more (Q := fun W => Kd.R k80 80 W w.heap.size (fun _ => True) (.slice B8 x10.length d8) x10) (Kd.R_lower hR HD.out.b.size)); replace HP := Lib.hid (HP.out.and (Mv.row k80 80 w.heap.size (.slice B8 x10.length d8) x10 (by decide))); clear hR hi hb2 hk hbx; have hbx := blk_cell HD.out.x 0)
         | ((with_reducible refine gate_ (.store 43 (.tmp 66) (.tmp 65)) rfl ?_); refine store_plain 43 (.tmp 66) (.tmp 65) (.slice B8 x10.length d8) [.slice B8 x10.length d8] #[.int .i64 x0, .slice B0 x2.length d0, .slice B1 x3.length d1, .slice B2 x4.length d2, .slice B3 x5.length d3, .slice B4 x6.length d4, .slice B5 x7.length d5, .slice B6 x8.length d6, .int .i64 x1, .slice B7 x9.length d7, .slice none 0 0, .slice none 0 0] #[.int .i64 x0, .slice B0 x2.length d0, .slice B1 x3.length d1, .slice B2 x4.length d2, .slice B3 x5.length d3, .slice B4 x6.length d4, .slice B5 x7.length d5, .slice B6 x8.length d6, .int .i64 x1, .slice B7 x9.length d7, .slice B8 x10.length d8, .slice none 0 0] b 10 45 rfl rfl rfl rfl rfl HM.out rfl (by kernel_rfl) (by simp) rfl rfl ?_; intro w1 hw; replace HD := Lib.hid (HD.out.wrote HP.out hw HM.out hwb hgb hbb); replace HV := Lib.hid (hw.blk HV.out hvb); replace HM := Lib.hid hw.row; clear hw hbx; have hbx := blk_cell HD.out.x 0)
         | (go_at_call 33; (with_reducible refine (c11.out g _ HD.out.i HD.out.b).mono ?_); rintro en w1 ⟨v9, rfl, hR, hi, hb2, hk⟩; obtain ⟨B9, d9, eR⟩ := Kd.R_slice hR; subst eR; replace HV := Lib.hid ((hk.2 _ (blk_lt HV.out) hvg (by simp)).trans HV.out); replace HM := Lib.hid ((hk.2 _ (blk_lt HM.out) hbg (by simp)).trans HM.out); replace HD := Lib.hid ((HD.out.call HP.out hbxg hi hb2 hk).more (Q := fun W => Kd.R k80 80 W w.heap.size (fun _ => True) (.slice B9 x11.length d9) x11) (Kd.R_lower hR HD.out.b.size)); replace HP := Lib.hid (HP.out.and (Mv.row k80 80 w.heap.size (.slice B9 x11.length d9) x11 (by decide))); clear hR hi hb2 hk hbx; have hbx := blk_cell HD.out.x 0)
         | ((with_reducible refine gate_ (.store 43 (.tmp 69) (.tmp 68)) rfl ?_); refine store_plain 43 (.tmp 69) (.tmp 68) (.slice B9 x11.length d9) [.slice B9 x11.length d9] #[.int .i64 x0, .slice B0 x2.length d0, .slice B1 x3.length d1, .slice B2 x4.length d2, .slice B3 x5.length d3, .slice B4 x6.length d4, .slice B5 x7.length d5, .slice B6 x8.length d6, .int .i64 x1, .slice B7 x9.length d7, .slice B8 x10.length d8, .slice none 0 0] #[.int .i64 x0, .slice B0 x2.length d0, .slice B1 x3.length d1, .slice B2 x4.length d2, .slice B3 x5.length d3, .slice B4 x6.length d4, .slice B5 x7.length d5, .slice B6 x8.length d6, .int .i64 x1, .slice B7 x9.length d7, .slice B8 x10.length d8, .slice B9 x11.length d9] b 11 45 rfl rfl rfl rfl rfl HM.out rfl (by kernel_rfl) (by simp) rfl rfl ?_; intro w1 hw; replace HD := Lib.hid (HD.out.wrote HP.out hw HM.out hwb hgb hbb); replace HV := Lib.hid (hw.blk HV.out hvb); replace HM := Lib.hid hw.row; clear hw hbx; have hbx := blk_cell HD.out.x 0))
       refine (cE.out g _ HD.out.i HD.out.b).mono ?_
       rintro en w1 ⟨rfl, hi, hb2, hk⟩
       replace HV := Lib.hid ((hk.2 _ (blk_lt HV.out) hvg (by simp)).trans HV.out)
       replace HM := Lib.hid ((hk.2 _ (blk_lt HM.out) hbg (by simp)).trans HM.out)
       replace HD := Lib.hid (HD.out.call HP.out hbxg hi hb2 hk)
       clear hi hb2 hk hbx
       have hbx := blk_cell HD.out.x 0
       clear c2 c3 c4 c5 c6 c7 c8 c9 c10 c11 cE
       obtain ⟨⟨bE, qE, eE⟩, hE⟩ : ∃ x, endR S q12 e12 = x := ⟨_, rfl⟩
       rw [hE] at HD ⊢
       replace hE := Lib.hid hE
       cases bE with
       | true =>
         have hdec : decW T = ((⟨x0, x1, x2, x3, x4, x5, x6, x7, x8, x9, x10, x11⟩ : Vw), (s.size : Int), 0) := by
           unfold decW; rw [← HSd.out, HV0.out]; simp only [hE.out, if_true, HSS.out]
         have HDEC := Lib.hid hdec
         clear hdec HSS
         have hm0 := blk_cell HM.out 0
         have hm1 := blk_cell HM.out 1
         have hm2 := blk_cell HM.out 2
         have hm3 := blk_cell HM.out 3
         have hm4 := blk_cell HM.out 4
         have hm5 := blk_cell HM.out 5
         have hm6 := blk_cell HM.out 6
         have hm7 := blk_cell HM.out 7
         have hm8 := blk_cell HM.out 8
         have hm9 := blk_cell HM.out 9
         have hm10 := blk_cell HM.out 10
         have hm11 := blk_cell HM.out 11
         simp only
         go_wp2_with ((with_reducible refine gate_ (.store 45 (.tmp 2) (.tmp 82)) rfl ?_); refine store_plain 45 (.tmp 2) (.tmp 82) (.agg #[.int .i64 x0, .slice B0 x2.length d0, .slice B1 x3.length d1, .slice B2 x4.length d2, .slice B3 x5.length d3, .slice B4 x6.length d4, .slice B5 x7.length d5, .slice B6 x8.length d6, .int .i64 x1, .slice B7 x9.length d7, .slice B8 x10.length d8, .slice B9 x11.length d9]) [.int .i64 x0, .slice B0 x2.length d0, .slice B1 x3.length d1, .slice B2 x4.length d2, .slice B3 x5.length d3, .slice B4 x6.length d4, .slice B5 x7.length d5, .slice B6 x8.length d6, .int .i64 x1, .slice B7 x9.length d7, .slice B8 x10.length d8, .slice B9 x11.length d9] #[.int .i64 0, .slice none 0 0, .slice none 0 0, .slice none 0 0, .slice none 0 0, .slice none 0 0, .slice none 0 0, .slice none 0 0, .int .i64 0, .slice none 0 0, .slice none 0 0, .slice none 0 0] #[.int .i64 x0, .slice B0 x2.length d0, .slice B1 x3.length d1, .slice B2 x4.length d2, .slice B3 x5.length d3, .slice B4 x6.length d4, .slice B5 x7.length d5, .slice B6 x8.length d6, .int .i64 x1, .slice B7 x9.length d7, .slice B8 x10.length d8, .slice B9 x11.length d9] w.heap.size 0 45 rfl rfl rfl rfl rfl HV.out rfl (by kernel_rfl) (by simp) rfl rfl ?_; intro w2 hw; have HW := Lib.hid hw; replace HD := Lib.hid (HD.out.wrote HP.out hw HV.out (Nat.le_refl _) (Ne.symm hvg) (Ne.symm hvx)); clear hw)
         obtain ⟨⟨⟨⟨⟨⟨⟨⟨⟨⟨_, r0⟩, r1⟩, r2⟩, r3⟩, r4⟩, r5⟩, r6⟩, r7⟩, r8⟩, r9⟩ := HD.out.p
         refine bodyPost_ret (results_dec _ w.heap.size _ _ _ _ _ _ _ _ _ _ _ _ _ _ _ rfl rfl rfl HW.out.row) rfl ⟨#[.int .i64 x0, .slice B0 x2.length d0, .slice B1 x3.length d1, .slice B2 x4.length d2, .slice B3 x5.length d3, .slice B4 x6.length d4, .slice B5 x7.length d5, .slice B6 x8.length d6, .int .i64 x1, .slice B7 x9.length d7, .slice B8 x10.length d8, .slice B9 x11.length d9], by rw [HDEC.out], (by rw [HDEC.out]; exact ⟨⟨B0, B1, B2, B3, B4, B5, B6, B7, B8, B9, d0, d1, d2, d3, d4, d5, d6, d7, d8, d9, rfl, kd_C r0, kd_C r1, kd_C r2, kd_C r3, kd_C r4, kd_C r5, kd_C r6, kd_C r7, kd_C r8, kd_C r9⟩⟩), HD.out.b, (by rw [HDEC.out]; exact fun h => absurd rfl h)⟩
       | false =>
         have hqE : qE ≤ S.length := by
           have h1 : (endR S q12 e12).2.1 = q12 := by unfold endR; split <;> rfl
           rw [hE.out] at h1
           have h2 : qE = q12 := h1
           omega
         have hdec : decW T = (v0, 8 + (qE : Int), eE) := by
           unfold decW; rw [← HSd.out, HV0.out]; simp only [hE.out]; rfl
         have HDEC := Lib.hid hdec
         clear hdec HSS
         simp only
         go_wp2
         refine start_ (ds := ([] : List Nat)) (n := 11) (S := fun w' => w'.cell? ⟨bx, 0, none⟩ = some (.pointer (some ⟨g, 0, none⟩))) #[false, false, false, false, false, false, false, false, false, false, false] (by kernel_rfl) (by rfl) (by rfl) (blk_cell (blk_drew HD.out.x) 0) (fun hHeld => ?_)
         replace HD := Lib.hid (Dc.drew HD.out HP.out)
         replace HV := Lib.hid (blk_drew HV.out)
         clear HM hbx
         generalize w1.drew = w5 at HD HV hHeld ⊢
         refine pure_ (i := 0) (N := some 74) (v := ?_) (a' := ?_) #[true, false, false, false, false, false, false, false, false, false, false] rfl rfl (by kernel_rfl) (fun _ _ _ h => h) (Or.inl ⟨by rfl, ?_⟩) ?_ ?_
         rotate_left
         · intro w'
           go_simp
           with_reducible rfl
         rotate_left
         · simp only [putAll, Act.put, List.setIfInBounds_toArray, List.set_cons_zero, List.set_cons_succ, i64_w, i32_w]
           rfl
         refine pure_ (i := 1) (N := some 75) (v := ?_) (a' := ?_) #[true, true, false, false, false, false, false, false, false, false, false] rfl rfl (by kernel_rfl) (fun _ _ _ h => h) (Or.inl ⟨by rfl, ?_⟩) ?_ ?_
         rotate_left
         · intro w'
           go_simp
           with_reducible rfl
         rotate_left
         · simp only [putAll, Act.put, List.setIfInBounds_toArray, List.set_cons_zero, List.set_cons_succ, i64_w, i32_w]
           rfl
         refine pure_ (i := 5) (N := some 79) (v := ?_) (a' := ?_) #[true, true, false, false, false, true, false, false, false, false, false] rfl rfl (by kernel_rfl) (fun _ _ _ h => h) (Or.inl ⟨by rfl, ?_⟩) ?_ ?_
         rotate_left
         · intro w'
           go_simp
           with_reducible rfl
         rotate_left
         · simp only [putAll, Act.put, List.setIfInBounds_toArray, List.set_cons_zero, List.set_cons_succ, i64_w, i32_w]
           rfl
         refine take_ (i := 2) (N := some 76) (v := ?_) (a' := ?_) #[true, true, true, false, false, true, false, false, false, false, false] rfl rfl (by kernel_rfl) (fun _ _ _ h => h) (Or.inl ⟨by rfl, ?_⟩) hHeld ?_ ?_
         rotate_left
         · rintro w' s0
           go_simp
           with_reducible rfl
         rotate_left
         · simp only [putAll, Act.put, List.setIfInBounds_toArray, List.set_cons_zero, List.set_cons_succ, i64_w, i32_w]
           rfl
         refine take_ (i := 6) (N := some 80) (v := ?_) (a' := ?_) #[true, true, true, false, false, true, true, false, false, false, false] rfl rfl (by kernel_rfl) (fun _ _ _ h => h) (Or.inl ⟨by rfl, ?_⟩) hHeld ?_ ?_
         rotate_left
         · rintro w' s0
           go_simp
           with_reducible rfl
         rotate_left
         · simp only [putAll, Act.put, List.setIfInBounds_toArray, List.set_cons_zero, List.set_cons_succ, i64_w, i32_w]
           rfl
         refine one_ (i := 3) (N := some 77) #[true, true, true, true, false, true, true, false, false, false, false] rfl rfl (by kernel_rfl) (by decide) (fun K hK => ?_)
         refine goes_ Try.func35 (by kernel_rfl) rfl #[.pointer (some ⟨g, 0, none⟩)] (by rfl) rfl rfl (by first | rfl | (simp only [List.map_toArray, List.map_cons, List.map_nil]; rfl)) ?_
         refine (at_call _ g _ _ w _ HD.out.i).mono ?_
         rintro en w' ⟨rfl, rfl⟩
         refine ⟨_, rfl, ?_⟩
         refine hK.out _ _ (blk_cell HD.out.x 0) (fun hHeld => ?_)
         clear hK K
         refine norm_ (a' := ?_) ?_ ?_
         rotate_left
         · show Act.put _ (some 77) _ = _
           simp only [putAll, Act.put, List.setIfInBounds_toArray, List.set_cons_zero, List.set_cons_succ, i64_w, i32_w]
           rfl
         refine pure_ (i := 4) (N := some 78) (v := ?_) (a' := ?_) #[true, true, true, true, true, true, true, false, false, false, false] rfl rfl (by kernel_rfl) (fun _ _ _ h => h) (Or.inl ⟨by rfl, ?_⟩) ?_ ?_
         rotate_left
         · intro w'
           go_simp
           with_reducible rfl
         rotate_left
         · simp only [putAll, Act.put, List.setIfInBounds_toArray, List.set_cons_zero, List.set_cons_succ, i64_w, i32_w]
           rfl
         refine one_ (i := 7) (N := some 81) #[true, true, true, true, true, true, true, true, false, false, false] rfl rfl (by kernel_rfl) (by decide) (fun K hK => ?_)
         refine goes_ Try.func36 (by kernel_rfl) rfl #[.pointer (some ⟨g, 0, none⟩)] (by rfl) rfl rfl (by first | rfl | (simp only [List.map_toArray, List.map_cons, List.map_nil]; rfl)) ?_
         refine (err_call _ g _ _ w _ HD.out.i).mono ?_
         rintro en w' ⟨rfl, rfl⟩
         refine ⟨_, rfl, ?_⟩
         refine hK.out _ _ (blk_cell HD.out.x 0) (fun hHeld => ?_)
         clear hK K
         refine norm_ (a' := ?_) ?_ ?_
         rotate_left
         · show Act.put _ (some 81) _ = _
           simp only [putAll, Act.put, List.setIfInBounds_toArray, List.set_cons_zero, List.set_cons_succ, i64_w, i32_w]
           rfl
         refine one_ (i := 8) (N := none) #[true, true, true, true, true, true, true, true, true, false, false] rfl rfl (by kernel_rfl) (by decide) (fun K hK => ?_)
         refine store_step 45 (.tmp 2) (.tmp 74) zview [.int .i64 0, .slice none 0 0, .slice none 0 0, .slice none 0 0, .slice none 0 0, .slice none 0 0, .slice none 0 0, .slice none 0 0, .int .i64 0, .slice none 0 0, .slice none 0 0, .slice none 0 0] #[.int .i64 0, .slice none 0 0, .slice none 0 0, .slice none 0 0, .slice none 0 0, .slice none 0 0, .slice none 0 0, .slice none 0 0, .int .i64 0, .slice none 0 0, .slice none 0 0, .slice none 0 0] #[.int .i64 0, .slice none 0 0, .slice none 0 0, .slice none 0 0, .slice none 0 0, .slice none 0 0, .slice none 0 0, .slice none 0 0, .int .i64 0, .slice none 0 0, .slice none 0 0, .slice none 0 0] w.heap.size 0 45 (by rfl) rfl rfl rfl rfl HV.out rfl (by kernel_rfl) (by simp) rfl rfl ?_
         intro w2 hw
         replace HD := Lib.hid (HD.out.wrote HP.out hw HV.out (Nat.le_refl _) (Ne.symm hvg) (Ne.symm hvx))
         have HW := Lib.hid hw.row
         clear hw HV
         refine hK.out _ _ (blk_cell HD.out.x 0) (fun hHeld => ?_)
         clear hK K
         refine pure_ (i := 9) (N := some 3) (v := ?_) (a' := ?_) #[true, true, true, true, true, true, true, true, true, true, false] rfl rfl (by kernel_rfl) (fun _ _ _ h => h) (Or.inl ⟨by rfl, ?_⟩) ?_ ?_
         rotate_left
         · intro w'
           go_simp
           with_reducible rfl
         rotate_left
         · simp only [putAll, Act.put, List.setIfInBounds_toArray, List.set_cons_zero, List.set_cons_succ, i64_w, i32_w]
           rfl
         refine pure_ (i := 10) (N := some 4) (v := ?_) (a' := ?_) #[true, true, true, true, true, true, true, true, true, true, true] rfl rfl (by kernel_rfl) (fun _ _ _ h => h) (Or.inl ⟨by rfl, ?_⟩) ?_ ?_
         rotate_left
         · intro w'
           go_simp
           with_reducible rfl
         rotate_left
         · simp only [putAll, Act.put, List.setIfInBounds_toArray, List.set_cons_zero, List.set_cons_succ, i64_w, i32_w]
           rfl
         refine done_ (by kernel_rfl) ?_
         go_wp2
         exact bodyPost_ret (results_dec _ w.heap.size _ _ _ _ _ _ _ _ _ _ _ _ _ _ _ rfl rfl rfl HW.out) rfl ⟨#[.int .i64 0, .slice none 0 0, .slice none 0 0, .slice none 0 0, .slice none 0 0, .slice none 0 0, .slice none 0 0, .slice none 0 0, .int .i64 0, .slice none 0 0, .slice none 0 0, .slice none 0 0], by (rw [HDEC.out, w64 (x := 8 + (qE : Int)) (by omega) (by omega)]), (by rw [HDEC.out]; exact readsV_zero _), HD.out.b, fun _ => rfl⟩
end Go.Proofs.Ytlkfbdeddfhocaa
