/- The items' readers read back what is written, and what they read is its writing (Good). The view and its reader. No program in sight. What Encode answers: the mark and a view's writing, or ErrLimit. Condition: fewer than 10^8 bytes in all. What Decode answers where the text does not begin with the mark. The state in which Decode walks, and its movers; what Decode answers where the text is short. -/
import Derived.Test.YtlkfbdeddfhocaaMb
import Derived.Test.YtlkfbdeddfhocaaMe
import Derived.Test.YtlkfbdeddfhocaaMf
import Derived.Test.YtlkfbdeddfhocaaMg
import Derived.Test.YtlkfbdeddfhocaaMc
import Derived.Test.YtlkfbdeddfhocaaMd
set_option linter.unusedVariables false
set_option linter.unusedSimpArgs false
namespace Go.Proofs.Ytlkfbdeddfhocaa
open Go.Proofs Go.RowKit Go.Proofs.YtlkfbdeddfhocaaW.PrintWords Q

theorem text_eta (t : ByteArray) : (⟨t.data.toList.toArray⟩ : ByteArray) = t := by
  cases t with | mk d => cases d with | mk l => rfl

theorem good_cut : Good cutR enc_cut ok_cut := by
  unfold cutR
  refine Good.congr (good_iso (good_pair good_int (good_pair good_int good_int)) _ (fun y : S124 => (y.f0, y.f1, y.f2)) ?h1 ?h2) ?he ?ho
  case h1 => intro x _; rfl
  case h2 => intro y _; simp only [text_eta]
  case he => intro x; simp [enc_cut, List.append_assoc]
  case ho => intro x; simp only [ok_cut, true_and, and_true]; try (constructor <;> (intro h; (try simp only [and_assoc] at h ⊢); simp_all))
theorem good_reset : Good resetR enc_reset ok_reset := by
  unfold resetR
  refine Good.congr (good_iso (good_pair good_int good_int) _ (fun y : S129 => (y.f0, y.f1)) ?h1 ?h2) ?he ?ho
  case h1 => intro x _; rfl
  case h2 => intro y _; simp only [text_eta]
  case he => intro x; simp [enc_reset, List.append_assoc]
  case ho => intro x; simp only [ok_reset, true_and, and_true]; try (constructor <;> (intro h; (try simp only [and_assoc] at h ⊢); simp_all))
theorem good_lot : Good lotR enc_lot ok_lot := by
  unfold lotR
  refine Good.congr (good_iso (good_pair (good_text 160 (by omega)) good_int) _ (fun y : S119 => (y.f0.data.toList, y.f1)) ?h1 ?h2) ?he ?ho
  case h1 => intro x _; rfl
  case h2 => intro y _; simp only [text_eta]
  case he => intro x; simp [enc_lot, List.append_assoc]
  case ho => intro x; simp only [ok_lot, true_and, and_true]; try (constructor <;> (intro h; (try simp only [and_assoc] at h ⊢); simp_all))
theorem good_members : Good membersR enc_members ok_members := by
  unfold membersR
  refine Good.congr (good_iso (good_pair good_int (good_pair good_int (good_pair good_int (good_pair (good_text 160 (by omega)) good_bool)))) _ (fun y : S68 => (y.f0, y.f2, y.f3, y.f1.data.toList, y.f4)) ?h1 ?h2) ?he ?ho
  case h1 => intro x _; rfl
  case h2 => intro y _; simp only [text_eta]
  case he => intro x; simp [enc_members, List.append_assoc]
  case ho => intro x; simp only [ok_members, true_and, and_true]; try (constructor <;> (intro h; (try simp only [and_assoc] at h ⊢); simp_all))
theorem good_assets : Good assetsR enc_assets ok_assets := by
  unfold assetsR
  refine Good.congr (good_iso (good_pair (good_text 160 (by omega)) (good_pair good_int (good_pair good_int (good_pair good_int (good_text 160 (by omega)))))) _ (fun y : S57 => (y.f0.data.toList, y.f1, y.f2, y.f3, y.f4.data.toList)) ?h1 ?h2) ?he ?ho
  case h1 => intro x _; rfl
  case h2 => intro y _; simp only [text_eta]
  case he => intro x; simp [enc_assets, List.append_assoc]
  case ho => intro x; simp only [ok_assets, true_and, and_true]; try (constructor <;> (intro h; (try simp only [and_assoc] at h ⊢); simp_all))
theorem good_prices : Good pricesR enc_prices ok_prices := by
  unfold pricesR
  refine Good.congr (good_iso (good_pair (good_text 160 (by omega)) good_int) _ (fun y : S70 => (y.f0.data.toList, y.f1)) ?h1 ?h2) ?he ?ho
  case h1 => intro x _; rfl
  case h2 => intro y _; simp only [text_eta]
  case he => intro x; simp [enc_prices, List.append_assoc]
  case ho => intro x; simp only [ok_prices, true_and, and_true]; try (constructor <;> (intro h; (try simp only [and_assoc] at h ⊢); simp_all))
theorem good_baskets : Good basketsR enc_baskets ok_baskets := by
  unfold basketsR
  refine Good.congr (good_iso (good_pair good_int (good_pair good_int (good_pair good_int (good_pair good_int (good_pair good_int (good_pair good_int (good_pair good_int (good_pair (good_text 160 (by omega)) (good_pair (good_list good_cut 4096 (by omega)) (good_ints 4096 (by omega))))))))))) _ (fun y : S63 => (y.f0, y.f1, y.f3, y.f4, y.f5, y.f7, y.f8, y.f2.data.toList, y.f6, y.f9)) ?h1 ?h2) ?he ?ho
  case h1 => intro x _; rfl
  case h2 => intro y _; simp only [text_eta]
  case he => intro x; simp [enc_baskets, List.append_assoc]
  case ho => intro x; simp only [ok_baskets, true_and, and_true]; try (constructor <;> (intro h; (try simp only [and_assoc] at h ⊢); simp_all))
theorem good_balances : Good balancesR enc_balances ok_balances := by
  unfold balancesR
  refine Good.congr (good_iso (good_pair good_int (good_pair good_int (good_pair (good_text 160 (by omega)) good_int))) _ (fun y : S73 => (y.f0.f0, y.f0.f1, y.f0.f2.data.toList, y.f1)) ?h1 ?h2) ?he ?ho
  case h1 => intro x _; rfl
  case h2 => intro y _; simp only [text_eta]
  case he => intro x; simp [enc_balances, List.append_assoc]
  case ho => intro x; simp only [ok_balances, true_and, and_true]; try (constructor <;> (intro h; (try simp only [and_assoc] at h ⊢); simp_all))
theorem good_quotes : Good quotesR enc_quotes ok_quotes := by
  unfold quotesR
  refine Good.congr (good_iso (good_pair good_int (good_pair good_int (good_pair good_int (good_pair good_int (good_pair good_int (good_pair good_int (good_pair good_int good_int))))))) _ (fun y : S127 => (y.f0, y.f1, y.f2, y.f3, y.f4, y.f5, y.f6, y.f7)) ?h1 ?h2) ?he ?ho
  case h1 => intro x _; rfl
  case h2 => intro y _; simp only [text_eta]
  case he => intro x; simp [enc_quotes, List.append_assoc]
  case ho => intro x; simp only [ok_quotes, true_and, and_true]; try (constructor <;> (intro h; (try simp only [and_assoc] at h ⊢); simp_all))
theorem good_trades : Good tradesR enc_trades ok_trades := by
  unfold tradesR
  refine Good.congr (good_iso (good_pair good_int (good_pair good_int (good_pair good_int (good_pair good_int (good_pair good_int (good_pair good_int (good_pair good_int (good_pair good_int (good_pair good_int (good_pair good_bool (good_list good_reset 4096 (by omega)))))))))))) _ (fun y : S117 => (y.f0, y.f1, y.f2, y.f3, y.f4, y.f5, y.f6, y.f7, y.f9, y.f10, y.f8)) ?h1 ?h2) ?he ?ho
  case h1 => intro x _; rfl
  case h2 => intro y _; simp only [text_eta]
  case he => intro x; simp [enc_trades, List.append_assoc]
  case ho => intro x; simp only [ok_trades, true_and, and_true]; try (constructor <;> (intro h; (try simp only [and_assoc] at h ⊢); simp_all))
theorem good_covers : Good coversR enc_covers ok_covers := by
  unfold coversR
  refine Good.congr (good_iso (good_pair good_int (good_list good_lot 4096 (by omega))) _ (fun y : S77 => (y.f0, y.f1)) ?h1 ?h2) ?he ?ho
  case h1 => intro x _; rfl
  case h2 => intro y _; simp only [text_eta]
  case he => intro x; simp [enc_covers, List.append_assoc]
  case ho => intro x; simp only [ok_covers, true_and, and_true]; try (constructor <;> (intro h; (try simp only [and_assoc] at h ⊢); simp_all))
theorem good_links : Good linksR enc_links ok_links := by
  unfold linksR
  refine Good.congr (good_iso (good_pair good_int (good_pair good_int (good_pair (good_text 160 (by omega)) good_int))) _ (fun y : S80 => (y.f0, y.f1, y.f2.data.toList, y.f3)) ?h1 ?h2) ?he ?ho
  case h1 => intro x _; rfl
  case h2 => intro y _; simp only [text_eta]
  case he => intro x; simp [enc_links, List.append_assoc]
  case ho => intro x; simp only [ok_links, true_and, and_true]; try (constructor <;> (intro h; (try simp only [and_assoc] at h ⊢); simp_all))
/-- All that a book knows, as it is written. -/
structure Vw where
  day : Int
  next : Int
  ms : List S68
  as_ : List S57
  ps : List S70
  bk : List S63
  bl : List S73
  qs : List S127
  ts : List S117
  cv : List S77
  li : List S80
  lo : List S80
def encV (v : Vw) : List UInt8 := encI v.day ++ (encI v.next ++ (encL enc_members v.ms ++ (encL enc_assets v.as_ ++ (encL enc_prices v.ps ++ (encL enc_baskets v.bk ++ (encL enc_balances v.bl ++ (encL enc_quotes v.qs ++ (encL enc_trades v.ts ++ (encL enc_covers v.cv ++ (encL enc_links v.li ++ (encL enc_links v.lo)))))))))))
def okV (v : Vw) : Prop := isI64 v.day ∧ isI64 v.next ∧ (v.ms.length ≤ 4096 ∧ ∀ x ∈ v.ms, ok_members x) ∧ (v.as_.length ≤ 4096 ∧ ∀ x ∈ v.as_, ok_assets x) ∧ (v.ps.length ≤ 4096 ∧ ∀ x ∈ v.ps, ok_prices x) ∧ (v.bk.length ≤ 4096 ∧ ∀ x ∈ v.bk, ok_baskets x) ∧ (v.bl.length ≤ 4096 ∧ ∀ x ∈ v.bl, ok_balances x) ∧ (v.qs.length ≤ 4096 ∧ ∀ x ∈ v.qs, ok_quotes x) ∧ (v.ts.length ≤ 4096 ∧ ∀ x ∈ v.ts, ok_trades x) ∧ (v.cv.length ≤ 4096 ∧ ∀ x ∈ v.cv, ok_covers x) ∧ (v.li.length ≤ 4096 ∧ ∀ x ∈ v.li, ok_links x) ∧ (v.lo.length ≤ 4096 ∧ ∀ x ∈ v.lo, ok_links x)
def viewR : Rdr Vw := isoR (pairR intR (pairR intR (pairR (listR 4096 membersR) (pairR (listR 4096 assetsR) (pairR (listR 4096 pricesR) (pairR (listR 4096 basketsR) (pairR (listR 4096 balancesR) (pairR (listR 4096 quotesR) (pairR (listR 4096 tradesR) (pairR (listR 4096 coversR) (pairR (listR 4096 linksR) (listR 4096 linksR)))))))))))) (fun x => ⟨x.1, x.2.1, x.2.2.1, x.2.2.2.1, x.2.2.2.2.1, x.2.2.2.2.2.1, x.2.2.2.2.2.2.1, x.2.2.2.2.2.2.2.1, x.2.2.2.2.2.2.2.2.1, x.2.2.2.2.2.2.2.2.2.1, x.2.2.2.2.2.2.2.2.2.2.1, x.2.2.2.2.2.2.2.2.2.2.2⟩)
theorem good_view : Good viewR encV okV := by
  unfold viewR
  refine Good.congr (good_iso (good_pair good_int (good_pair good_int (good_pair (good_list good_members 4096 (by omega)) (good_pair (good_list good_assets 4096 (by omega)) (good_pair (good_list good_prices 4096 (by omega)) (good_pair (good_list good_baskets 4096 (by omega)) (good_pair (good_list good_balances 4096 (by omega)) (good_pair (good_list good_quotes 4096 (by omega)) (good_pair (good_list good_trades 4096 (by omega)) (good_pair (good_list good_covers 4096 (by omega)) (good_pair (good_list good_links 4096 (by omega)) (good_list good_links 4096 (by omega))))))))))))) _ (fun y : Vw => (y.day, y.next, y.ms, y.as_, y.ps, y.bk, y.bl, y.qs, y.ts, y.cv, y.li, y.lo)) ?h1 ?h2) ?he ?ho
  case h1 => intro x _; rfl
  case h2 => intro y _; rfl
  case he => intro x; rfl
  case ho => intro x; rfl
end Go.Proofs.Ytlkfbdeddfhocaa

set_option linter.unusedVariables false
set_option linter.unusedSimpArgs false
namespace Go.Proofs.Ytlkfbdeddfhocaa
open Go.Proofs Go.RowKit Go.Proofs.YtlkfbdeddfhocaaW.PrintWords Go.Proofs.YtlkfbdeddfhocaaW.PrintLast Go.Proofs.YtlkfbdeddfhocaaW.PrintMore Q

def mark : List UInt8 := [108, 111, 109, 98, 97, 114, 100, 49]
/-- The view's cells, as they are read. -/
structure ReadsV (w : World) (v : Vw) (cs : List Value) : Prop where
  ex : ∃ A0 A1 A2 A3 A4 A5 A6 A7 A8 A9 c0 c1 c2 c3 c4 c5 c6 c7 c8 c9, cs = [(.int .i64 v.day), .slice A0 v.ms.length c0, .slice A1 v.as_.length c1, .slice A2 v.ps.length c2, .slice A3 v.bk.length c3, .slice A4 v.bl.length c4, .slice A5 v.qs.length c5, .slice A6 v.ts.length c6, (.int .i64 v.next), .slice A7 v.cv.length c7, .slice A8 v.li.length c8, .slice A9 v.lo.length c9]
    ∧ (Kd.C k68 w A0 v.ms.length v.ms ∧ v.ms.length ≤ c0)
    ∧ (Kd.C k57 w A1 v.as_.length v.as_ ∧ v.as_.length ≤ c1)
    ∧ (Kd.C k70 w A2 v.ps.length v.ps ∧ v.ps.length ≤ c2)
    ∧ (Kd.C k63 w A3 v.bk.length v.bk ∧ v.bk.length ≤ c3)
    ∧ (Kd.C k73 w A4 v.bl.length v.bl ∧ v.bl.length ≤ c4)
    ∧ (Kd.C k127 w A5 v.qs.length v.qs ∧ v.qs.length ≤ c5)
    ∧ (Kd.C k117 w A6 v.ts.length v.ts ∧ v.ts.length ≤ c6)
    ∧ (Kd.C k77 w A7 v.cv.length v.cv ∧ v.cv.length ≤ c7)
    ∧ (Kd.C k80 w A8 v.li.length v.li ∧ v.li.length ≤ c8)
    ∧ (Kd.C k80 w A9 v.lo.length v.lo ∧ v.lo.length ≤ c9)
def encS (v : Vw) : Value := if (encV v).length + 8 > 524288 then .string ⟨#[]⟩ else .string ⟨(mark ++ encV v).toArray⟩
def encE (v : Vw) : Int := if (encV v).length + 8 > 524288 then 2 else 0
theorem isW_new (w W : World) (g : Nat) (hg : W.heap[g]? = some (.cells #[.slice none 0 0] 86 (0, 0))) (hge : w.heap.size ≤ g) : IsW w W g 86 [] := ⟨_, hg, Kd.R_nil _ _ _ _ _, hge⟩
theorem lenL (v : Vw) (h : (encV v).length ≤ 90000000) : Hid ((encI v.day).length + (encI v.next).length + (encL enc_members v.ms).length + (encL enc_assets v.as_).length + (encL enc_prices v.ps).length + (encL enc_baskets v.bk).length + (encL enc_balances v.bl).length + (encL enc_quotes v.qs).length + (encL enc_trades v.ts).length + (encL enc_covers v.cv).length + (encL enc_links v.li).length + (encL enc_links v.lo).length ≤ 90000000) := Lib.hid (by
  unfold encV at h; simp only [List.length_append] at h; omega)
theorem encV_flat (v : Vw) : encV v = [] ++ [v.day, v.next].flatMap encI ++ encL enc_members v.ms ++ encL enc_assets v.as_ ++ encL enc_prices v.ps ++ encL enc_baskets v.bk ++ encL enc_balances v.bl ++ encL enc_quotes v.qs ++ encL enc_trades v.ts ++ encL enc_covers v.cv ++ encL enc_links v.li ++ encL enc_links v.lo := by
  unfold encV; simp only [List.flatMap_cons, List.flatMap_nil, List.append_nil, List.nil_append, List.append_assoc]
theorem mark_app (l : List UInt8) : (⟨#[108, 111, 109, 98, 97, 114, 100, 49]⟩ : ByteArray) ++ ⟨l.toArray⟩ = ⟨(mark ++ l).toArray⟩ := by
  apply ByteArray.ext
  rw [ByteArray.data_append]
  simp [mark]
theorem wbytes_t (t : ByteArray) (bs : List UInt8) (ht : t = ⟨bs.toArray⟩) (g T : Nat) (w0 w : World) (hI : IsW w0 w g T bs) :
    Calls Try.prog 22 #[.pointer (some ⟨g, 0, none⟩)] w fun en w' => en = .returned (.string t) ∧ w = w' := by
  subst ht; exact wbytes g T bs w0 w hI
set_option maxHeartbeats 8000000 in
set_option maxRecDepth 1000000 in
theorem encode_walk (v : Vw) (hv : okV v) (hl : (encV v).length ≤ 90000000) (w : World) (cs : Array Value) (hR : ReadsV w v cs.toList) :
    Calls Try.prog 8 #[.agg cs] w fun en w' => en = .returned (.tuple #[encS v, .int .i64 (encE v)]) ∧ Below w.heap.size w w' := by
  obtain ⟨⟨A0, A1, A2, A3, A4, A5, A6, A7, A8, A9, c0, c1, c2, c3, c4, c5, c6, c7, c8, c9, hcs, ⟨hC0, hc0⟩, ⟨hC1, hc1⟩, ⟨hC2, hc2⟩, ⟨hC3, hc3⟩, ⟨hC4, hc4⟩, ⟨hC5, hc5⟩, ⟨hC6, hc6⟩, ⟨hC7, hc7⟩, ⟨hC8, hc8⟩, ⟨hC9, hc9⟩⟩⟩ := hR
  have hcs2 : cs = #[(.int .i64 v.day), .slice A0 v.ms.length c0, .slice A1 v.as_.length c1, .slice A2 v.ps.length c2, .slice A3 v.bk.length c3, .slice A4 v.bl.length c4, .slice A5 v.qs.length c5, .slice A6 v.ts.length c6, (.int .i64 v.next), .slice A7 v.cv.length c7, .slice A8 v.li.length c8, .slice A9 v.lo.length c9] := by
    have := congrArg List.toArray hcs
    simpa using this
  subst hcs2
  obtain ⟨hday, hnext, hk0, hk1, hk2, hk3, hk4, hk5, hk6, hk7, hk8, hk9⟩ := hv
  have HL := lenL v hl
  have HN := Lib.hid (show ∀ n ∈ [v.day, v.next], isI64 n by intro z hz; simp only [List.mem_cons, List.not_mem_nil, or_false] at hz; rcases hz with rfl | rfl <;> assumption)
  have HC0 := Lib.hid hC0
  have HK0 := Lib.hid hk0
  have HC1 := Lib.hid hC1
  have HK1 := Lib.hid hk1
  have HC2 := Lib.hid hC2
  have HK2 := Lib.hid hk2
  have HC3 := Lib.hid hC3
  have HK3 := Lib.hid hk3
  have HC4 := Lib.hid hC4
  have HK4 := Lib.hid hk4
  have HC5 := Lib.hid hC5
  have HK5 := Lib.hid hk5
  have HC6 := Lib.hid hC6
  have HK6 := Lib.hid hk6
  have HC7 := Lib.hid hC7
  have HK7 := Lib.hid hk7
  have HC8 := Lib.hid hC8
  have HK8 := Lib.hid hk8
  have HC9 := Lib.hid hC9
  have HK9 := Lib.hid hk9
  have HLV := Lib.hid hl
  clear hC0 hk0 hC1 hk1 hC2 hk2 hC3 hk3 hC4 hk4 hC5 hk5 hC6 hk6 hC7 hk7 hC8 hk8 hC9 hk9 hday hnext hcs hl
  obtain ⟨t, HT⟩ : ∃ t : ByteArray, Hid (t = ⟨(encV v).toArray⟩) := ⟨_, Lib.hid rfl⟩
  have HTS : Hid (t.size = (encV v).length) := Lib.hid (by rw [HT.out]; simp [ByteArray.size])
  have hts : t.size ≤ 90000000 := by rw [HTS.out]; exact HLV.out
  have hts8 : 8 + t.size ≤ 90000008 := by omega
  go_enter Try.func8, Try.ntmps8
  have hbg : w.heap.size ≠ w.heap.size + 1 := by omega
  have HV := Lib.hid (blk_alloc (blk_new w (Obj.cells #[(.int .i64 v.day), .slice A0 v.ms.length c0, .slice A1 v.as_.length c1, .slice A2 v.ps.length c2, .slice A3 v.bk.length c3, .slice A4 v.bl.length c4, .slice A5 v.qs.length c5, .slice A6 v.ts.length c6, (.int .i64 v.next), .slice A7 v.cv.length c7, .slice A8 v.li.length c8, .slice A9 v.lo.length c9] 45)) (Obj.cells #[.slice none 0 0] 86))
  have HI := Lib.hid (isW_new w ((w.alloc (Obj.cells #[(.int .i64 v.day), .slice A0 v.ms.length c0, .slice A1 v.as_.length c1, .slice A2 v.ps.length c2, .slice A3 v.bk.length c3, .slice A4 v.bl.length c4, .slice A5 v.qs.length c5, .slice A6 v.ts.length c6, (.int .i64 v.next), .slice A7 v.cv.length c7, .slice A8 v.li.length c8, .slice A9 v.lo.length c9] 45)).alloc (Obj.cells #[.slice none 0 0] 86)) (w.heap.size + 1) (blk_newb _ _ _ (by simp)) (by omega))
  have HB := Lib.hid (below_alloc (below_alloc (Below.refl w.heap.size w) (Obj.cells #[(.int .i64 v.day), .slice A0 v.ms.length c0, .slice A1 v.as_.length c1, .slice A2 v.ps.length c2, .slice A3 v.bk.length c3, .slice A4 v.bl.length c4, .slice A5 v.qs.length c5, .slice A6 v.ts.length c6, (.int .i64 v.next), .slice A7 v.cv.length c7, .slice A8 v.li.length c8, .slice A9 v.lo.length c9] 45)) (Obj.cells #[.slice none 0 0] 86))
  go_wp2_with (first
    | (go_at_call 12; refine (wints_call [v.day, v.next] 2 rfl HN.out (by simp) _ _ (w.heap.size + 1) 86 (by decide) [] (by have := HL.out; simp only [List.flatMap_cons, List.flatMap_nil, List.length_append, List.length_nil]; omega) w _ (IsW.alloc HI.out _) (below_alloc HB.out _) (reads_blk (blk_newb _ _ _ (by simp)) rfl (by omega) (by simp))).mono ?_; rintro en w1 ⟨rfl, h1, h2, h3⟩; replace HV := Lib.hid (h3.blk (blk_alloc HV.out _) (by decide) hbg); replace HI := Lib.hid h1; replace HB := Lib.hid h2; clear h1 h2 h3; have hb1 := blk_cell HV.out 1)
    | (go_at_call 13; (with_reducible refine (emembers v.ms HK0.out.2 (by have := HK0.out.1; omega) A0 c0 (w.heap.size + 1) _ (by have := HL.out; (try simp only [List.flatMap_cons, List.flatMap_nil, List.length_append, List.length_nil, Nat.zero_add, List.nil_append, List.append_nil] at this ⊢); omega) w _ HI.out HB.out HC0.out).mono ?_); rintro en w1 ⟨rfl, h1, h2, h3⟩; replace HV := Lib.hid (h3.blk HV.out (by decide) hbg); replace HI := Lib.hid h1; replace HB := Lib.hid h2; clear h1 h2 h3; have hb2 := blk_cell HV.out 2)
    | (go_at_call 14; (with_reducible refine (eassets v.as_ HK1.out.2 (by have := HK1.out.1; omega) A1 c1 (w.heap.size + 1) _ (by have := HL.out; (try simp only [List.flatMap_cons, List.flatMap_nil, List.length_append, List.length_nil, Nat.zero_add, List.nil_append, List.append_nil] at this ⊢); omega) w _ HI.out HB.out HC1.out).mono ?_); rintro en w1 ⟨rfl, h1, h2, h3⟩; replace HV := Lib.hid (h3.blk HV.out (by decide) hbg); replace HI := Lib.hid h1; replace HB := Lib.hid h2; clear h1 h2 h3; have hb3 := blk_cell HV.out 3)
    | (go_at_call 15; (with_reducible refine (eprices v.ps HK2.out.2 (by have := HK2.out.1; omega) A2 c2 (w.heap.size + 1) _ (by have := HL.out; (try simp only [List.flatMap_cons, List.flatMap_nil, List.length_append, List.length_nil, Nat.zero_add, List.nil_append, List.append_nil] at this ⊢); omega) w _ HI.out HB.out HC2.out).mono ?_); rintro en w1 ⟨rfl, h1, h2, h3⟩; replace HV := Lib.hid (h3.blk HV.out (by decide) hbg); replace HI := Lib.hid h1; replace HB := Lib.hid h2; clear h1 h2 h3; have hb4 := blk_cell HV.out 4)
    | (go_at_call 16; (with_reducible refine (ebaskets v.bk HK3.out.2 (by have := HK3.out.1; omega) A3 c3 (w.heap.size + 1) _ (by have := HL.out; (try simp only [List.flatMap_cons, List.flatMap_nil, List.length_append, List.length_nil, Nat.zero_add, List.nil_append, List.append_nil] at this ⊢); omega) w _ HI.out HB.out HC3.out).mono ?_); rintro en w1 ⟨rfl, h1, h2, h3⟩; replace HV := Lib.hid (h3.blk HV.out (by decide) hbg); replace HI := Lib.hid h1; replace HB := Lib.hid h2; clear h1 h2 h3; have hb5 := blk_cell HV.out 5)
    | (go_at_call 17; (with_reducible refine (ebalances v.bl HK4.out.2 (by have := HK4.out.1; omega) A4 c4 (w.heap.size + 1) _ (by have := HL.out; (try simp only [List.flatMap_cons, List.flatMap_nil, List.length_append, List.length_nil, Nat.zero_add, List.nil_append, List.append_nil] at this ⊢); omega) w _ HI.out HB.out HC4.out).mono ?_); rintro en w1 ⟨rfl, h1, h2, h3⟩; replace HV := Lib.hid (h3.blk HV.out (by decide) hbg); replace HI := Lib.hid h1; replace HB := Lib.hid h2; clear h1 h2 h3; have hb6 := blk_cell HV.out 6)
    | (go_at_call 18; (with_reducible refine (equotes v.qs HK5.out.2 (by have := HK5.out.1; omega) A5 c5 (w.heap.size + 1) _ (by have := HL.out; (try simp only [List.flatMap_cons, List.flatMap_nil, List.length_append, List.length_nil, Nat.zero_add, List.nil_append, List.append_nil] at this ⊢); omega) w _ HI.out HB.out HC5.out).mono ?_); rintro en w1 ⟨rfl, h1, h2, h3⟩; replace HV := Lib.hid (h3.blk HV.out (by decide) hbg); replace HI := Lib.hid h1; replace HB := Lib.hid h2; clear h1 h2 h3; have hb7 := blk_cell HV.out 7)
    | (go_at_call 19; (with_reducible refine (etrades v.ts HK6.out.2 (by have := HK6.out.1; omega) A6 c6 (w.heap.size + 1) _ (by have := HL.out; (try simp only [List.flatMap_cons, List.flatMap_nil, List.length_append, List.length_nil, Nat.zero_add, List.nil_append, List.append_nil] at this ⊢); omega) w _ HI.out HB.out HC6.out).mono ?_); rintro en w1 ⟨rfl, h1, h2, h3⟩; replace HV := Lib.hid (h3.blk HV.out (by decide) hbg); replace HI := Lib.hid h1; replace HB := Lib.hid h2; clear h1 h2 h3; have hb9 := blk_cell HV.out 9)
    | (go_at_call 20; (with_reducible refine (ecovers v.cv HK7.out.2 (by have := HK7.out.1; omega) A7 c7 (w.heap.size + 1) _ (by have := HL.out; (try simp only [List.flatMap_cons, List.flatMap_nil, List.length_append, List.length_nil, Nat.zero_add, List.nil_append, List.append_nil] at this ⊢); omega) w _ HI.out HB.out HC7.out).mono ?_); rintro en w1 ⟨rfl, h1, h2, h3⟩; replace HV := Lib.hid (h3.blk HV.out (by decide) hbg); replace HI := Lib.hid h1; replace HB := Lib.hid h2; clear h1 h2 h3; have hb10 := blk_cell HV.out 10)
    | (go_at_call 21; (with_reducible refine (elinks v.li HK8.out.2 (by have := HK8.out.1; omega) A8 c8 (w.heap.size + 1) _ (by have := HL.out; (try simp only [List.flatMap_cons, List.flatMap_nil, List.length_append, List.length_nil, Nat.zero_add, List.nil_append, List.append_nil] at this ⊢); omega) w _ HI.out HB.out HC8.out).mono ?_); rintro en w1 ⟨rfl, h1, h2, h3⟩; replace HV := Lib.hid (h3.blk HV.out (by decide) hbg); replace HI := Lib.hid h1; replace HB := Lib.hid h2; clear h1 h2 h3; have hb11 := blk_cell HV.out 11)
    | (go_at_call 21; (with_reducible refine (elinks v.lo HK9.out.2 (by have := HK9.out.1; omega) A9 c9 (w.heap.size + 1) _ (by have := HL.out; (try simp only [List.flatMap_cons, List.flatMap_nil, List.length_append, List.length_nil, Nat.zero_add, List.nil_append, List.append_nil] at this ⊢); omega) w _ HI.out HB.out HC9.out).mono ?_); rintro en w1 ⟨rfl, h1, h2, h3⟩; replace HV := Lib.hid (h3.blk HV.out (by decide) hbg); replace HI := Lib.hid h1; replace HB := Lib.hid h2; clear h1 h2 h3)
    | (go_at_call 22; refine (wbytes_t t (encV v) HT.out (w.heap.size + 1) 86 w _ (by rw [encV_flat]; exact HI.out)).mono ?_; rintro en w1 ⟨rfl, rfl⟩))
  · go_ret2
    have hbig : (encV v).length + 8 > 524288 := by have := HTS.out; omega
    refine ⟨?_, HB.out⟩
    show Ending.returned (.tuple #[.string ⟨#[]⟩, .int .i64 2]) = _
    unfold encS encE
    rw [if_pos hbig, if_pos hbig]
  · go_ret2
    have hbig : ¬ (encV v).length + 8 > 524288 := by have := HTS.out; omega
    refine ⟨?_, HB.out⟩
    show Ending.returned (.tuple #[.string (⟨#[108, 111, 109, 98, 97, 114, 100, 49]⟩ ++ t), .int .i64 0]) = _
    unfold encS encE
    rw [if_neg hbig, if_neg hbig, HT.out, mark_app]
end Go.Proofs.Ytlkfbdeddfhocaa

set_option linter.unusedVariables false
set_option linter.unusedSimpArgs false
namespace Go.Proofs.Ytlkfbdeddfhocaa
open Go.Proofs Go.RowKit Go.Proofs.YtlkfbdeddfhocaaW.PrintWords Go.Proofs.YtlkfbdeddfhocaaW.PrintLast Go.Proofs.YtlkfbdeddfhocaaW.PrintMore Q

def markB : ByteArray := ⟨#[108, 111, 109, 98, 97, 114, 100, 49]⟩
theorem mark_at (k : Nat) (h : k < 8) (W : World) : (Instr.index 9 (.string ⟨#[108, 111, 109, 98, 97, 114, 100, 49]⟩) (.int .i64 k)).run Try.prog W = .ok (.int .u8 (bt markB k)) W := by
  rw [run_index_string W 9 _ _ _ Try.underlying9]
  have hk : k = 0 ∨ k = 1 ∨ k = 2 ∨ k = 3 ∨ k = 4 ∨ k = 5 ∨ k = 6 ∨ k = 7 := by omega
  rcases hk with rfl | rfl | rfl | rfl | rfl | rfl | rfl | rfl <;> rfl
theorem bt_nat (s : ByteArray) (k : Nat) : ∀ h : k < s.size, ((s[k]'h).toNat : Int) = bt s k := by
  have h := bt_at s k
  simp only [Int.toNat_natCast] at h
  exact h
def zview : Value := .agg #[.int .i64 0, .slice none 0 0, .slice none 0 0, .slice none 0 0, .slice none 0 0, .slice none 0 0, .slice none 0 0, .slice none 0 0, .int .i64 0, .slice none 0 0, .slice none 0 0, .slice none 0 0]
theorem results_dec (tm : Array Value) (b : Nat) (x0 x1 x2 x3 x4 x5 x6 x7 x8 x9 x10 x11 : Value) (n e : Int) (w : World) (h2 : tm.getD 2 undef = .pointer (some ⟨b, 0, none⟩)) (h3 : tm.getD 3 undef = .int .i64 n) (h4 : tm.getD 4 undef = .int .i64 e)
    (hb : w.heap[b]? = some (.cells #[x0, x1, x2, x3, x4, x5, x6, x7, x8, x9, x10, x11] 45 (0, 0))) : (results Try.f9 tm).run Try.prog w = .ok (.tuple #[.agg #[x0, x1, x2, x3, x4, x5, x6, x7, x8, x9, x10, x11], .int .i64 n, .int .i64 e]) w := by
  have c0 : w.cell? ⟨b, 0, none⟩ = some x0 := blk_cell hb 0
  have c1 : w.cell? ⟨b, 1, none⟩ = some x1 := blk_cell hb 1
  have c2 : w.cell? ⟨b, 2, none⟩ = some x2 := blk_cell hb 2
  have c3 : w.cell? ⟨b, 3, none⟩ = some x3 := blk_cell hb 3
  have c4 : w.cell? ⟨b, 4, none⟩ = some x4 := blk_cell hb 4
  have c5 : w.cell? ⟨b, 5, none⟩ = some x5 := blk_cell hb 5
  have c6 : w.cell? ⟨b, 6, none⟩ = some x6 := blk_cell hb 6
  have c7 : w.cell? ⟨b, 7, none⟩ = some x7 := blk_cell hb 7
  have c8 : w.cell? ⟨b, 8, none⟩ = some x8 := blk_cell hb 8
  have c9 : w.cell? ⟨b, 9, none⟩ = some x9 := blk_cell hb 9
  have c10 : w.cell? ⟨b, 10, none⟩ = some x10 := blk_cell hb 10
  have c11 : w.cell? ⟨b, 11, none⟩ = some x11 := blk_cell hb 11
  clear hb
  have k2 : tm[2]?.getD undef = .pointer (some ⟨b, 0, none⟩) := by simpa using h2
  have k3 : tm[3]?.getD undef = .int .i64 n := by simpa using h3
  have k4 : tm[4]?.getD undef = .int .i64 e := by simpa using h4
  simp [results, k2, k3, k4, Try.results9, go_sem, h2, h3, h4, c0, c1, c2, c3, c4, c5, c6, c7, c8, c9, c10, c11]
set_option maxHeartbeats 4000000 in
set_option maxRecDepth 100000 in
theorem decode_bad (s : ByteArray) (hs : s.size ≤ 1000000) (m : Nat) (hm : m < s.size) (hm8 : m < 8) (hok : ∀ j : Nat, j < m → bt s j = bt markB j) (hbad : bt s m ≠ bt markB m) (w : World) :
    Calls Try.prog 9 #[.string s] w fun en w' => en = .returned (.tuple #[zview, .int .i64 m, .int .i64 15]) ∧ Below w.heap.size w w' := by
  have HOK := Lib.hid hok
  have HBAD := Lib.hid hbad
  clear hok hbad
  go_enter Try.func9, Try.ntmps9
  go_wp2
  all_goals
    go_loopw [5, 11] (fun _ i wr => ∃ k : Nat, i = .int .i64 k ∧ k ≤ m ∧ Hid (Below w.heap.size w wr) ∧ Hid (wr.heap[w.heap.size]? = some (.cells #[.int .i64 0, .slice none 0 0, .slice none 0 0, .slice none 0 0, .slice none 0 0, .slice none 0 0, .slice none 0 0, .slice none 0 0, .int .i64 0, .slice none 0 0, .slice none 0 0, .slice none 0 0] 45 (0, 0)))) (fun _ i _ => m - (intOf i).toNat)
    case atStart => exact ⟨0, rfl, by omega, Lib.hid (below_alloc (Below.refl _ _) _), Lib.hid (blk_new w _)⟩
    case round =>
      obtain ⟨k, rfl, hk, HB, HV⟩ := hrel
      have h1 := bt_nat s k
      have h2 := mark_at k (by omega)
      have hks : k < s.size := by omega
      have hk8 : k < 8 := by omega
      by_cases hkm : k < m
      · have e := HOK.out k hkm
        rw [← e] at h2
        have e2 : (bt s k != bt s k) = false := by simp
        clear e
        go_wp2
        go_quiet (fail)
        go_wp2
        go_roundw
        case rel => exact ⟨k + 1, by go_num, by omega, Lib.hid (by first | exact HB.out | exact below_drew1 HB.out | exact pw_below_drewN HB.out _), Lib.hid HV.out⟩
        case measure => simp [intOf]; omega
      · obtain rfl : k = m := by omega
        have e2 : (bt s k != bt markB k) = true := bne_iff_ne.mpr HBAD.out
        go_wp2
        go_quiet (fail)
        clear h1 h2 e2
        go_wp2_with ((with_reducible refine gate_ (.store 45 (.tmp 2) (.tmp 20)) rfl ?_); refine store_plain 45 (.tmp 2) (.tmp 20) zview [.int .i64 0, .slice none 0 0, .slice none 0 0, .slice none 0 0, .slice none 0 0, .slice none 0 0, .slice none 0 0, .slice none 0 0, .int .i64 0, .slice none 0 0, .slice none 0 0, .slice none 0 0] #[.int .i64 0, .slice none 0 0, .slice none 0 0, .slice none 0 0, .slice none 0 0, .slice none 0 0, .slice none 0 0, .slice none 0 0, .int .i64 0, .slice none 0 0, .slice none 0 0, .slice none 0 0] #[.int .i64 0, .slice none 0 0, .slice none 0 0, .slice none 0 0, .slice none 0 0, .slice none 0 0, .slice none 0 0, .slice none 0 0, .int .i64 0, .slice none 0 0, .slice none 0 0, .slice none 0 0] w.heap.size 0 45 rfl rfl rfl rfl rfl (by first | exact HV.out | exact blk_drewN HV.out _) rfl (by kernel_rfl) (by simp) rfl rfl ?_; intro w2 hw; have HW := Lib.hid hw; clear hw)
        have hBl := HW.out.below (w0 := w) (by first | exact HB.out | exact below_drew1 HB.out | exact pw_below_drewN HB.out _) (Nat.le_refl _)
        exact bodyPost_ret (results_dec _ w.heap.size _ _ _ _ _ _ _ _ _ _ _ _ _ _ _ rfl rfl rfl HW.out.row) rfl ⟨rfl, hBl⟩
end Go.Proofs.Ytlkfbdeddfhocaa

set_option linter.unusedVariables false
set_option linter.unusedSimpArgs false
namespace Go.Proofs.Ytlkfbdeddfhocaa
open Go.Proofs Go.RowKit Go.Proofs.YtlkfbdeddfhocaaW.PrintWords Go.Proofs.YtlkfbdeddfhocaaW.PrintLast Go.Proofs.YtlkfbdeddfhocaaW.PrintMore Q

/-- What is known of rows, and lives on where no block but those of a reader, a decoder's box or a view is written. -/
def Mv (P : World → Prop) : Prop := ∀ W W' : World, P W → (∀ (k : Nat) (cs : Array Value) (q : Nat), W.heap[k]? = some (.cells cs q (0, 0)) → q ≠ 132 → q ≠ 101 → q ≠ 45 → W'.heap[k]? = W.heap[k]?) → P W'
theorem Mv.true : Mv (fun _ => True) := fun _ _ _ _ => trivial
theorem Mv.and {P Q : World → Prop} (hP : Mv P) (hQ : Mv Q) : Mv (fun W => P W ∧ Q W) := fun W W' h k => ⟨hP W W' h.1 k, hQ W W' h.2 k⟩
theorem Mv.row {α : Type} (kd : Kd α) (T base : Nat) (v : Value) (xs : List α) (ht : ∀ q, q ∈ T :: kd.E → q ≠ 132 ∧ q ≠ 101 ∧ q ≠ 45) : Mv (fun W => kd.R T W base (fun _ => True) v xs) := fun W W' h k =>
  Kd.R_mono (Kd.R_move (Kd.R_bound h) (fun j hj => by
    obtain ⟨_, _, _, q, hq, cs, hc⟩ := hj
    obtain ⟨h1, h2, h3⟩ := ht q hq
    exact k j cs q hc h1 h2 h3)) (fun _ _ => trivial)
structure Dc (w W : World) (g : Nat) (S : ByteArray) (q e : Int) (bx : Nat) (P : World → Prop) : Prop where
  i : IsS132 w W g S q e
  x : W.heap[bx]? = some (.cells #[.pointer (some ⟨g, 0, none⟩)] 101 (0, 0))
  b : Below w.heap.size w W
  p : P W
section
variable {w W w' : World} {g : Nat} {S : ByteArray} {q e q' e' : Int} {bx : Nat} {P : World → Prop}
theorem Dc.call (h : Dc w W g S q e bx P) (hP : Mv P) (hbx : bx ≠ g) (hi : IsS132 w w' g S q' e') (hb : Below w.heap.size w w') (hk : KeepBut W w' g none) : Dc w w' g S q' e' bx P :=
  ⟨hi, (hk.2 _ (blk_lt h.x) hbx (by simp)).trans h.x, hb, hP W w' h.p (fun k cs t hc h1 _ _ => hk.2 k (blk_lt hc) (fun he => by
    subst he
    have := h.i.1
    rw [hc] at this
    injection this with this
    injection this with _ h3
    exact h1 h3) (by simp))⟩
theorem Dc.drew (h : Dc w W g S q e bx P) (hP : Mv P) : Dc w W.drew g S q e bx P := ⟨h.i.drew, blk_drew h.x, below_drew1 h.b, hP W W.drew h.p (fun _ _ _ _ _ _ _ => rfl)⟩
theorem Dc.alloc (h : Dc w W g S q e bx P) (hP : Mv P) (o : Obj) : Dc w (W.alloc o) g S q e bx P :=
  ⟨h.i.alloc o, blk_alloc h.x o, below_alloc h.b o, hP W (W.alloc o) h.p (fun k cs t hc _ _ _ => (blk_alloc hc o).trans hc.symm)⟩
theorem Dc.wrote {b : Nat} {cs : Array Value} {cur : Array Value} (h : Dc w W g S q e bx P) (hP : Mv P) (hw : Wrote W w' b 45 cs) (hcur : W.heap[b]? = some (.cells cur 45 (0, 0))) (hb : w.heap.size ≤ b) (h1 : g ≠ b) (h2 : bx ≠ b) : Dc w w' g S q e bx P :=
  ⟨⟨(hw.far g h1).trans h.i.1, h.i.2⟩, hw.blk h.x h2, hw.below h.b hb, hP W w' h.p (fun k cs t hc _ _ h45 => hw.far k (fun he => by
    subst he
    rw [hcur] at hc
    injection hc with hc
    injection hc with _ h3
    exact h45 h3.symm))⟩
theorem Dc.more {Q : World → Prop} (h : Dc w W g S q e bx P) (hq : Q W) : Dc w W g S q e bx (fun W => P W ∧ Q W) := ⟨h.i, h.x, h.b, h.p, hq⟩
end
set_option maxHeartbeats 4000000 in
set_option maxRecDepth 100000 in
theorem decode_short (s : ByteArray) (hs : s.size < 8) (hok : ∀ j : Nat, j < s.size → bt s j = bt markB j) (w : World) :
    Calls Try.prog 9 #[.string s] w fun en w' => en = .returned (.tuple #[zview, .int .i64 s.size, .int .i64 14]) ∧ Below w.heap.size w w' := by
  have HOK := Lib.hid hok
  clear hok
  go_enter Try.func9, Try.ntmps9
  go_wp2
  go_loopw [5, 11] (fun _ i wr => ∃ k : Nat, i = .int .i64 k ∧ k ≤ s.size ∧ Hid (Below w.heap.size w wr) ∧ Hid (wr.heap[w.heap.size]? = some (.cells #[.int .i64 0, .slice none 0 0, .slice none 0 0, .slice none 0 0, .slice none 0 0, .slice none 0 0, .slice none 0 0, .slice none 0 0, .int .i64 0, .slice none 0 0, .slice none 0 0, .slice none 0 0] 45 (0, 0)))) (fun _ i _ => s.size - (intOf i).toNat)
  case atStart => exact ⟨0, rfl, by omega, Lib.hid (below_alloc (Below.refl _ _) _), Lib.hid (blk_new w _)⟩
  case round =>
    obtain ⟨k, rfl, hk, HB, HV⟩ := hrel
    by_cases hkm : k < s.size
    · have h1 := bt_nat s k
      have h2 := mark_at k (by omega)
      have hk8 : k < 8 := by omega
      have e := HOK.out k hkm
      rw [← e] at h2
      have e2 : (bt s k != bt s k) = false := by simp
      clear e
      go_wp2
      go_quiet (fail)
      go_wp2
      go_roundw
      case rel => exact ⟨k + 1, by go_num, by omega, Lib.hid (by first | exact HB.out | exact below_drew1 HB.out | exact pw_below_drewN HB.out _), Lib.hid HV.out⟩
      case measure => simp [intOf]; omega
    · have hkn : k = s.size := by omega
      subst hkn
      go_wp2_with ((with_reducible refine gate_ (.store 45 (.tmp 2) (.tmp 26)) rfl ?_); refine store_plain 45 (.tmp 2) (.tmp 26) zview [.int .i64 0, .slice none 0 0, .slice none 0 0, .slice none 0 0, .slice none 0 0, .slice none 0 0, .slice none 0 0, .slice none 0 0, .int .i64 0, .slice none 0 0, .slice none 0 0, .slice none 0 0] #[.int .i64 0, .slice none 0 0, .slice none 0 0, .slice none 0 0, .slice none 0 0, .slice none 0 0, .slice none 0 0, .slice none 0 0, .int .i64 0, .slice none 0 0, .slice none 0 0, .slice none 0 0] #[.int .i64 0, .slice none 0 0, .slice none 0 0, .slice none 0 0, .slice none 0 0, .slice none 0 0, .slice none 0 0, .slice none 0 0, .int .i64 0, .slice none 0 0, .slice none 0 0, .slice none 0 0] w.heap.size 0 45 rfl rfl rfl rfl rfl (by first | exact HV.out | exact blk_drewN HV.out _) rfl (by kernel_rfl) (by simp) rfl rfl ?_; intro w2 hw; have HW := Lib.hid hw; clear hw)
      have hBl := HW.out.below (w0 := w) (by first | exact HB.out | exact below_drew1 HB.out | exact pw_below_drewN HB.out _) (Nat.le_refl _)
      exact bodyPost_ret (results_dec _ w.heap.size _ _ _ _ _ _ _ _ _ _ _ _ _ _ _ rfl rfl rfl HW.out.row) rfl ⟨rfl, hBl⟩
end Go.Proofs.Ytlkfbdeddfhocaa
