/- Push. -/
import Derived.Test.YtnpndjdkdcbjcaaV2
import Derived.Deep.RegionLaw
namespace Go.Proofs.Ytnpndjdkdcbjcaa.Pv
open Go.RowKit Go.Proofs.Ytnpndjdkdcbjcaa.Pq Go.Proofs.Ytnpndjdkdcbjcaa.PX Go.Proofs.YtnpndjdkdcbjcaaW.PrintWords Go.Proofs.YtnpndjdkdcbjcaaW.PrintLast Go.Proofs.YtnpndjdkdcbjcaaW.PrintMore
set_option linter.unusedVariables false
set_option linter.unusedSimpArgs false
theorem info71 : (Try.prog.info? 71).map (fun i => (i.zero, i.size, i.bytes)) = some (some (.agg #[.string ByteArray.empty, .int .i64 0]), 2, 24) := by kernel_rfl
/-- Does one entry leave before another one? -/
abbrev bI (lt : ByteArray → ByteArray → Bool) : ByteArray × Int → ByteArray × Int → Bool := bfE lt Prod.fst Prod.snd
theorem before_calls' (B g : Nat) (F : Nat → Prop) (K : Nat) (lt : ByteArray → ByteArray → Bool) (HLE : LessI K lt) (h : List (ByteArray × Int)) (num : Int) (i k : Nat) (w : World) (hQ : QI 69 71 kI w B g F K h num) (hi : i < h.length) (hk : k < h.length) :
    Calls Try.prog 40 #[.pointer (some ⟨g, 0, none⟩), .int .i64 (i : Int), .int .i64 (k : Int)] w fun e w' => e = .returned (.bool (bI lt (h.getD i zI) (h.getD k zI))) ∧ Below w.heap.size w w' := before_calls B g F K lt HLE h num i k w hQ hi hk
theorem swap_calls' (B g : Nat) (F : Nat → Prop) (K : Nat) (h : List (ByteArray × Int)) (num : Int) (i k : Nat) (w : World) (hQ : QI 69 71 kI w B g F K h num) (hi : i < h.length) (hk : k < h.length) :
    Calls Try.prog 41 #[.pointer (some ⟨g, 0, none⟩), .int .i64 (i : Int), .int .i64 (k : Int)] w fun e w' => e = .returned (.tuple #[]) ∧ QI 69 71 kI w' B g F K (swp zI h i k) num ∧ Keeps F w w' ∧ Below B w w' := swap_calls B g F K h num i k w hQ hi hk
set_option maxHeartbeats 2000000 in
set_option maxRecDepth 100000 in
theorem push_calls (B g : Nat) (F : Nat → Prop) (K : Nat) (lt : ByteArray → ByteArray → Bool) (HLE : LessI K lt) (h : List (ByteArray × Int)) (num : Int) (x : ByteArray) (w : World) (hQ : QI 69 71 kI w B g F K h num) (hF : ∀ k, w.heap.size ≤ k → F k) (hl : h.length < 1000) (hn : 0 ≤ num ∧ num < 1000000) :
    Calls Try.prog 28 #[.pointer (some ⟨g, 0, none⟩), .string x] w fun e w' => e = .returned (.tuple #[]) ∧ QI 69 71 kI w' B g F K (pushS (bI lt) zI h (x, num)) (num + 1) ∧ Below B w w' ∧ Keeps F w w' := by
  have HQ := Aside0.mk hQ
  have HF := Aside0.mk hF
  have HL := Aside0.mk hl
  have HN := Aside0.mk hn
  have HB := Aside0.mk (Below.refl w.heap.size w)
  have HGW := Aside0.mk hQ.lt.1
  obtain ⟨n2, hn2⟩ : ∃ n2 : Nat, (h ++ [(x, num)]).length = n2 := ⟨_, rfl⟩
  have HN2 := Aside0.mk hn2
  clear hn2
  clear hQ hF hl hn
  go_enter Try.func28, Try.ntmps28
  go_upto_region 1 with (fail)
  obtain ⟨hb0, hl0, v, hg, hR⟩ := HQ.out
  obtain ⟨A, cp, rfl⟩ := Kd.R_slice hR
  have HG := Aside0.mk hg
  have HR := Aside0.mk (Kd.R_drew hR)
  have HX := Aside0.mk hb0
  have e1 : w.cell? ⟨g, 1, none⟩ = some (.slice A h.length cp) := (blk_cell hg 1).trans rfl
  have e2 : w.cell? ⟨g, 2, none⟩ = some (.int .i64 num) := (blk_cell hg 2).trans rfl
  have e5 := blk_frozen hg 1
  have n2 : (g = w.heap.size) = False := eq_false (fun e => absurd (blk_lt hg) (by omega))
  have al : ∀ (p : Addr) (v : Value), p.block < w.heap.size → w.cell? p = some v → ∀ o, (w.alloc o).cell? p = some v := fun p v hp hv o => (Below.cell (below_alloc (Below.refl _ _) o) hp).trans hv
  have a1 := al _ _ (blk_lt hg) e1
  have a2 := al _ _ (blk_lt hg) e2
  have PF := Aside0.mk (show ∀ k, w.drew.heap.size ≤ k → k ≠ g ∧ F k from fun k hk => ⟨fun e => absurd (blk_lt hg) (by have h_ : w.heap.size ≤ k := hk; omega), HF.out k (Nat.le_trans HB.out.size hk)⟩)
  have PS := Aside0.mk (show B ≤ w.drew.heap.size from Nat.le_trans hb0.1 (Nat.le_of_lt (blk_lt hg)))
  have PL := Aside0.mk (show (h.length + 1) * 24 ≤ 140737488355328 from by have := HL.out; omega)
  clear hg hR hb0 hl0 al
  go_cut [1] (fun v1 wx => Aside0 (QI 69 71 kI wx B g F K (h ++ [(x, num)]) num ∧ Below B w wx ∧ Keeps F w wx))
  case first =>
    go_region_law ((refine Kd.R_append_step kI (w0 := w.drew) (W := w.drew) B (by simp [Region.wanted]) (.tmp 12) (.tmp 19) 67 71 (.agg #[.string ByteArray.empty, .int .i64 0]) 24 rfl Try.underlying67 info71 rfl (by decide) (by decide) (.slice A h.length cp) h (x, num) [.string x, .int .i64 num] (fun k => k ≠ g ∧ F k) (fun _ => False) (by simp [Act.eval, Act.put]) (by simp [Act.eval, Act.put]) (kI_mkM _ _ _ _) (fun _ h => h.elim) PF.out HR.out (Below.refl _ _) PS.out PL.out ?_); intro v2 w2 hr2 hb2 hg2 hat2; have BK2 := Aside0.mk ((hg2.block g (blk_lt HG.out) (fun e => (HR.out.1 g e.symm).1 rfl)).trans HG.out); obtain ⟨A2, cp2, hv2⟩ := Kd.R_slice hr2; rw [HN2.out] at hv2; subst hv2; have HR2 := Aside0.mk hr2; have HK2 := Aside0.mk (show Keeps F w w2 from ((Keeps.below HB.out).trans (Keeps.refl F w).drew).trans (Keeps.grown hg2 (fun k_ e_ => (HR.out.1 k_ e_).2))); have HB2 := Aside0.mk (show Below B w w2 from ((HB.out.mono (Nat.le_trans HX.out.1 (Nat.le_of_lt HGW.out))).drew).trans hb2); have c20 : w2.cell? ⟨g, 1, none⟩ = some (.slice A h.length cp) := (blk_cell BK2.out 1).trans rfl; have f20 := blk_frozen BK2.out 1; clear hr2 hb2 hg2 hat2)
    all_goals
      go_wp2
      go_meet
      exact ⟨⟨HX.out, by have := HL.out; simp; omega, _, blk_put BK2.out 1 _ rfl, Kd.R_far HR2.out (fun k hk e => hk.1 e) _⟩, HB2.out.setCell HX.out.1 _, HK2.out.trans (Keeps.setCell w2 HX.out.2 _)⟩
  case rest =>
    have HC := hcut
    clear hcut HQ HB HR HG PF PS PL e1 e2 e5 n2 a1 a2
    obtain ⟨hq, hb, hk⟩ := HC.out
    obtain ⟨A3, c3, hg, _, _⟩ := hq.row
    rw [HN2.out] at hg
    have HQ := Aside0.mk hq
    have BK := Aside0.mk hg
    have f1 : wc.cell? ⟨g, 1, none⟩ = some (.slice A3 n2 c3) := (blk_cell hg 1).trans rfl
    have f2 : wc.cell? ⟨g, 2, none⟩ = some (.int .i64 num) := (blk_cell hg 2).trans rfl
    have f3 := blk_frozen hg 2
    have q1 := HN.out.1
    have q2 := HN.out.2
    have HB := Aside0.mk hb
    have HK := Aside0.mk hk
    clear hq hb hk hg HC
    have l1 : wrap64 ((n2 : Int) - 1) = (h.length : Int) := by rw [← HN2.out, List.length_append]; simp; unfold wrap64; have := HL.out; omega
    have l2 : IntKind.i64.wrap ((n2 : Int) - 1) = (h.length : Int) := by rw [← HN2.out, List.length_append]; simp; rw [IntKind.wrap_i64]; have := HL.out; omega
    go_wp2_with (first | ((with_reducible refine gate_store (t := 3) (p := 29) rfl ?_); go_must (refine store_event (t := 3) (p := 29) (v := ?vo_w4) (w1 := (wc.setCell ⟨g, 2, none⟩ (.int .i64 (num + 1)))) ?hg ?ho ?hn ?hr ?_; (case ho => rfl); (case hg => rfl); (case hn => rfl); (case hr => first | (go_simp; done) | (go_simp; rfl)); intro w4 hw; have BK4 := Aside0.mk (show w4.heap[g]? = some (.cells #[.func (.func K) #[] #[], .slice A3 n2 c3, .int .i64 (num + 1)] 69 (0, 0)) from (by rw [hw]; exact blk_put BK.out 2 _ rfl)); have HQ4 := Aside0.mk (show QI 69 71 kI w4 B g F K (h ++ [(x, num)]) (num + 1) from (by rw [hw]; exact HQ.out.setNum _)); have HB4 := Aside0.mk (show Below B w w4 from (by rw [hw]; exact HB.out.setCell HX.out.1 _)); have HK4 := Aside0.mk (show Keeps F w w4 from (by rw [hw]; exact HK.out.trans (Keeps.setCell wc HX.out.2 _))); have f4 : w4.cell? ⟨g, 1, none⟩ = some (.slice A3 n2 c3) := (blk_cell BK4.out 1).trans rfl; clear hw f1 f2 f3 BK HQ HB HK)))
    have hlen : (h ++ [(x, num)]).length = h.length + 1 := by simp
    generalize hh : h ++ [(x, num)] = h1 at HQ4 HN2
    have HP := Aside0.mk (show upS (bI lt) zI (h.length + 1) h1 h.length = pushS (bI lt) zI h (x, num) from by rw [← hh]; rfl)
    have HL1 := Aside0.mk (show h1.length = h.length + 1 from by rw [← hh]; exact hlen)
    generalize hpe : pushS (bI lt) zI h (x, num) = hp at HP
    have HPE := Aside0.mk hpe
    clear hpe
    generalize h.length = m at HP HL1 HL
    clear hlen hh l1 l2 f4 BK4
    go_loopg [4, 5] (m + 1) (fun kq v4 v5 wr => ∃ (i f : Nat) (h' : List (ByteArray × Int)), v4 = .int .i64 (i : Int) ∧ Aside0 (i < h'.length ∧ h'.length = m + 1 ∧ i < f ∧ kq = i + 1) ∧ Aside0 (upS (bI lt) zI f h' i = hp) ∧ Aside0 (QI 69 71 kI wr B g F K h' (num + 1)) ∧ Aside0 (Below B w wr) ∧ Aside0 (Keeps F w wr))
    case atStart => exact ⟨m, m + 1, h1, rfl, ⟨by have := HL1.out; omega⟩, HP, HQ4, HB4, HK4⟩
    case round =>
      clear HQ4 HB4 HK4 HP HL1 HN2 h1
      obtain ⟨i, f, h', rfl, HI, HU, HQ, HB, HK⟩ := hrel
      by_cases h0 : 0 < i
      · obtain ⟨u, hu⟩ : ∃ u : Nat, (i - 1) / 2 = u := ⟨_, rfl⟩
        have huu : u < i := by omega
        have HUI := Aside0.mk (show u < i ∧ 0 < i ∧ (i - 1) / 2 = u from ⟨huu, h0, hu⟩)
        have huh : u < h'.length := Nat.lt_trans huu HI.out.1
        have HUH := Aside0.mk huh
        clear huh huu
        have hi1000 : i < 1001 := by have := HI.out; have := HL.out; omega
        have d1 : decide ((0 : Int) < (i : Int)) = true := decide_eq_true (by omega)
        have d2 : decide (0 < i) = true := decide_eq_true h0
        have q1_ : wrap64 ((i : Int) - 1) = (i : Int) - 1 := by unfold wrap64; omega
        have q2_ : IntKind.i64.wrap ((i : Int) - 1) = (i : Int) - 1 := by rw [IntKind.wrap_i64]; omega
        have q3_ : ((i : Int) - 1) / 2 = (u : Int) := by omega
        have q4_ : Int.tdiv ((i : Int) - 1) 2 = (u : Int) := by rw [Int.tdiv_eq_ediv_of_nonneg (by omega)]; omega
        have q5_ : wrap64 (u : Int) = (u : Int) := by unfold wrap64; omega
        have p1_ : (1 : Int) ≤ (i : Int) := by omega
        obtain ⟨f', hf'⟩ : ∃ f', f = f' + 1 := ⟨f - 1, by have := HI.out; omega⟩
        cases hbv : bI lt (h'.getD i zI) (h'.getD u zI) with
        | true =>
          have HBV := Aside0.mk hbv
          have HU2 := Aside0.mk (show upS (bI lt) zI f' (swp zI h' i u) u = hp from by have h_ := HU.out; rw [hf', upS, if_pos h0, hu, if_pos hbv] at h_; exact h_)
          have HF2 := Aside0.mk hf'
          clear hbv hu hi1000 hf' HU
          replace h0 := eq_true h0
          go_wp2_with (first
            | (go_at_call 40; go_must (refine (before_calls' B g F K lt HLE h' (num + 1) i u _ HQ.out HI.out.1 HUH.out).mono ?_; rw [HBV.out]; rintro e w5 ⟨rfl, hb⟩; have HQ5 := Aside0.mk (HQ.out.below hb); have HB5 := Aside0.mk (HB.out.trans (hb.mono (Nat.le_trans HQ.out.lt.2 (Nat.le_of_lt HQ.out.lt.1)))); have HK5 := Aside0.mk (HK.out.trans (Keeps.below hb)); clear HQ HB HK hb))
            | (go_at_call 41; go_must (refine (swap_calls' B g F K h' (num + 1) i u _ HQ5.out HI.out.1 HUH.out).mono ?_; rintro e w6 ⟨rfl, hq, hk, hb⟩; have HQ6 := Aside0.mk hq; have HB6 := Aside0.mk (HB5.out.trans hb); have HK6 := Aside0.mk (HK5.out.trans hk); clear HQ5 HB5 HK5 hq hk hb)))
          go_roundg (u + 1)
          case measure => have := HUI.out; have := HI.out; omega
          case rel => exact ⟨u, f', swp zI h' i u, rfl, ⟨by rw [swp_len]; have := HUI.out; have := HI.out; have := HF2.out; omega⟩, HU2, HQ6, HB6, HK6⟩
        | false =>
          have HBV := Aside0.mk hbv
          have HU2 := Aside0.mk (show h' = hp from by have h_ := HU.out; rw [hf', upS, if_pos h0, hu, if_neg (by rw [hbv]; simp)] at h_; exact h_)
          clear hbv hu hi1000 hf' HU
          replace h0 := eq_true h0
          go_wp2_with (first
            | (go_at_call 40; go_must (refine (before_calls' B g F K lt HLE h' (num + 1) i u _ HQ.out HI.out.1 HUH.out).mono ?_; rw [HBV.out]; rintro e w5 ⟨rfl, hb⟩; have HQ5 := Aside0.mk (HQ.out.below hb); have HB5 := Aside0.mk (HB.out.trans (hb.mono (Nat.le_trans HQ.out.lt.2 (Nat.le_of_lt HQ.out.lt.1)))); have HK5 := Aside0.mk (HK.out.trans (Keeps.below hb)); clear HQ HB HK hb)))
          exact ⟨rfl, .tuple #[], results_none rfl _ _ _, rfl, by rw [HPE.out, ← HU2.out]; exact HQ5.out, HB5.out, HK5.out⟩
      · have hz : i = 0 := by omega
        subst hz
        have HU2 := Aside0.mk (show h' = hp from by have h_ := HU.out; cases f with | zero => exact h_ | succ f => rw [upS, if_neg (by omega)] at h_; exact h_)
        clear h0 HU
        go_wp2
        exact ⟨rfl, .tuple #[], results_none rfl _ _ _, rfl, by rw [HPE.out, ← HU2.out]; exact HQ.out, HB.out, HK.out⟩
end Go.Proofs.Ytnpndjdkdcbjcaa.Pv
