/- Stable: items leave the queue in the order of Sort, equal ones as they came. -/
import Derived.Test.YtnpndjdkdcbjcaaS0
namespace Go.Proofs.Ytnpndjdkdcbjcaa.Pq
open Go.RowKit Go.Proofs.Ytnpndjdkdcbjcaa.PX Go.Proofs.YtnpndjdkdcbjcaaW.PrintWords Go.Proofs.YtnpndjdkdcbjcaaW.PrintLast Go.Proofs.YtnpndjdkdcbjcaaW.PrintMore
set_option linter.unusedVariables false
set_option linter.unusedSimpArgs false
set_option maxHeartbeats 4000000 in
set_option maxRecDepth 100000 in
theorem Stable_calls (mode : Int) (A0 : Option Addr) (c0 : Nat) (l0 : List Int) (w : World) (hr0 : (Kd.int .i64).C w A0 l0.length l0) :
    Calls Try.prog 6 #[.int .i64 mode, .slice A0 l0.length c0] w fun e w' => e = .returned (.bool true) ∧ Below w.heap.size w w' := by
  have HR := Aside0.mk hr0
  clear hr0
  have HB := Aside0.mk (Below.refl w.heap.size w)
  by_cases hbig : 200 < l0.length
  · have d1 : decide ((200 : Int) < (l0.length : Int)) = true := decide_eq_true (by omega)
    have d2 := eq_true hbig
    go_enter Try.func6, Try.ntmps6
    go_wp2_with (first | (go_at_call 10; go_must (refine (awake_calls _).mono ?_; rintro e w1 ⟨rfl, hb⟩; have nHB := Aside0.mk (below_step HB.out hb); clear HB hb; have HB := nHB; clear nHB)))
    go_ret
    exact ⟨rfl, HB.out⟩
  obtain ⟨K, hK⟩ : ∃ K, KM mode = K := ⟨_, rfl⟩
  obtain ⟨lt, hlt⟩ : ∃ lt, ltM mode = lt := ⟨_, rfl⟩
  have HLE := Aside0.mk (show LessI K lt from hK ▸ hlt ▸ lessM mode)
  have HSW := Aside0.mk (show Swo lt from hlt ▸ swo_ltM mode)
  have HK := Aside0.mk hK
  have HN := Aside0.mk (show l0.length ≤ 200 by omega)
  have d1 : decide ((200 : Int) < (l0.length : Int)) = false := decide_eq_false (by omega)
  have d2 := eq_false hbig
  clear hlt hK hbig
  obtain ⟨B, hB⟩ : ∃ B, w.heap.size = B := ⟨_, rfl⟩
  rw [hB] at HB
  have HBW := Aside0.mk hB
  clear hB
  go_enter Try.func6, Try.ntmps6
  go_wp2_with (first
    | (go_at_call 12; go_must (refine (order_calls mode _).mono ?_; rw [HK.out]; rintro e w1 ⟨rfl, hw_⟩; obtain rfl := hw_.symm))
    | (go_at_call 11; go_must (refine (new_calls K _).mono ?_; rintro e w1 ⟨g, rfl, hq, hb⟩; rw [HBW.out] at hq; rw [HBW.out] at hb; have HQ := Aside0.mk (show QI 60 62 kI w1 B g (fun k => k < w1.heap.size) K [] 0 from hq.narrow (fun k hk _ => hk)); have nHB := Aside0.mk (HB.out.trans hb); have HBS := Aside0.mk (show B ≤ w1.heap.size from HBW.out ▸ hb.size); clear HB hb hq; have HB := nHB; clear nHB)))
  go_loopg [7, 8, 9] l0.length (fun kq v7 v8 v9 wr => ∃ (i : Nat) (acc : List S27) (Ao : Option Addr) (co : Nat) (FQ : Nat → Prop), v8 = .int .i64 (i : Int) ∧ v7 = .slice Ao i co ∧ Aside0 (i ≤ l0.length ∧ acc.length = i ∧ kq = l0.length - i) ∧ Aside0 (keyL (l0.take i) = acc) ∧ Aside0 (QI 60 62 kI wr B g FQ K (pushL lt acc) (i : Int)) ∧ Aside0 (∀ k, FQ k → k < wr.heap.size) ∧ Aside0 (k27.R 27 wr B (fun k => B ≤ k ∧ ¬ FQ k) (.slice Ao i co) acc) ∧ Aside0 (Below B w wr) ∧ Aside0 (B ≤ wr.heap.size))
  case atStart => exact ⟨0, [], none, 0, fun k => k < w1.heap.size, rfl, rfl, ⟨by simp⟩, ⟨rfl⟩, HQ, ⟨fun k hk => hk⟩, ⟨Kd.R_nil _ _ _ _ _⟩, HB, HBS⟩
  case round =>
    clear HQ HB HBS
    obtain ⟨i, acc, Ao, co, FQ, rfl, rfl, HI, HAC, HQ, HFQ, HO, HB, HBS⟩ := hrel
    by_cases ci : i < l0.length
    · obtain ⟨ad, rfl, f1⟩ := key_at (Kd.C_below HR.out (HBW.out ▸ HB.out)) i ci
      obtain ⟨x, hx⟩ : ∃ x, l0.getD i 0 = x := ⟨_, rfl⟩
      have HX := Aside0.mk (show keyL (l0.take (i + 1)) = acc ++ [⟨x, (i : Int)⟩] from by
        have e1 : l0.take (i + 1) = l0.take i ++ [l0.getD i 0] := by rw [List.take_add_one, List.getD_eq_getElem?_getD, List.getElem?_eq_getElem ci]; rfl
        rw [e1, keyL_snoc, HAC.out, hx, List.length_take, Nat.min_eq_left (Nat.le_of_lt ci)])
      rw [hx] at f1
      have HI2 := Aside0.mk ci
      have HNX := Aside0.mk (show pushL lt (acc ++ [⟨x, (i : Int)⟩]) = pushS (bI lt) zI (pushL lt acc) ((⟨x, (i : Int)⟩ : S27), (i : Int)) from by rw [pushL_snoc, HI.out.2.1])
      have HPL := Aside0.mk (show (pushL lt acc).length = i from by rw [pushL_len]; exact HI.out.2.1)
      obtain ⟨SZ, hSZ⟩ : ∃ SZ, wr.heap.size = SZ := ⟨_, rfl⟩
      have HBZ := Aside0.mk (hSZ ▸ HBS.out)
      have HS := Aside0.mk (Nat.le_of_eq hSZ.symm)
      have HFZ := Aside0.mk (show ∀ k, FQ k → k < SZ from hSZ ▸ HFQ.out)
      have p1 := eq_true (show (i : Int) < (l0.length : Int) by omega)
      have q1 : wrap64 ((i : Int) + 1) = (i : Int) + 1 := by have := HN.out; unfold wrap64; omega
      replace ci := eq_true ci
      clear hx hSZ HFQ HAC
      go_wp2_with (first
        | ((with_reducible refine gate_dst (N := 9) rfl ?_); go_must (refine box_event ?hg (N := 9) ?hd (cs := #[.int .i64 0, .int .i64 0]) (t := 27) ?hr ?_; (case hd => rfl); (case hg => rfl); (case hr => first | (go_simp; done) | (go_simp; rfl)); intro g9 hg w12 hbox hb; have nHO := Aside0.mk (Kd.R_below (Kd.R_elderB HO.out g9 (Nat.le_of_eq hg.symm)) hb); clear HO; have HO := nHO; clear nHO; have GE9 := Aside0.mk (show SZ ≤ g9 from by rw [hg]; exact HS.out); have BK9 := Aside0.mk hbox; have k0 : w12.cell? ⟨g9, 0, none⟩ = some (.int .i64 0) := (blk_cell hbox 0).trans rfl; have k1 : w12.cell? ⟨g9, 1, none⟩ = some (.int .i64 0) := (blk_cell hbox 1).trans rfl; have k2 := blk_frozen hbox 0; have k3 := blk_frozen hbox 1; have nHQ := Aside0.mk (HQ.out.below hb); have nHB := Aside0.mk (HB.out.trans (hb.mono HBS.out)); have nHBS := Aside0.mk (Nat.le_trans HBS.out hb.size); have nHS := Aside0.mk (Nat.le_trans HS.out hb.size); clear HQ; clear HB; clear HBS; clear HS; have HQ := nHQ; clear nHQ; have HB := nHB; clear nHB; have HBS := nHBS; clear nHBS; have HS := nHS; clear nHS; clear hbox hb hg))
        | ((with_reducible refine gate_store (t := 27) (p := 9) rfl ?_); go_must (refine store_event (t := 27) (p := 9) (v := ?vo_9) (w1 := ((w12.setCell ⟨g9, 0, none⟩ (.int .i64 x)).setCell ⟨g9, 1, none⟩ (.int .i64 (i : Int)))) ?hg ?ho ?hn ?hr ?_; (case ho => rfl); (case hg => rfl); (case hn => rfl); (case hr => first | (go_simp; done) | (go_simp; rfl)); intro w13 hw; have nHO := Aside0.mk (show k27.R 27 w13 B (fun k => B ≤ k ∧ ¬ FQ k) (.slice Ao i co) acc from by rw [hw]; exact Kd.R_mono (Kd.R_step HO.out (fun k hk _ => (Below.heap_setCell _ ⟨g9, 1, none⟩ _ k (show k ≠ g9 from hk.2)).trans (Below.heap_setCell _ ⟨g9, 0, none⟩ _ k (show k ≠ g9 from hk.2)))) (fun k hk => hk.1)); clear HO; have HO := nHO; clear nHO; have nBK9 := Aside0.mk (show w13.heap[g9]? = some (.cells #[.int .i64 x, .int .i64 (i : Int)] 27 (0, 0)) from (by rw [hw]; exact put_two BK9.out)); clear BK9; have BK9 := nBK9; clear nBK9; have hkp := (show ∀ k, k < SZ → w13.heap[k]? = w12.heap[k]? from by rw [hw]; exact fun k hf => (Below.heap_setCell _ ⟨g9, 1, none⟩ _ k (by have := GE9.out; show k ≠ g9; omega)).trans (Below.heap_setCell _ ⟨g9, 0, none⟩ _ k (by have := GE9.out; show k ≠ g9; omega))); have nHQ := Aside0.mk (HQ.out.keep (fun k _ hf => hkp k (HFZ.out k hf))); have nHB := Aside0.mk (show Below B w w13 from (by rw [hw]; exact (HB.out.setCell (Nat.le_trans HBZ.out GE9.out) _).setCell (Nat.le_trans HBZ.out GE9.out) _)); have nHBS := Aside0.mk (show B ≤ w13.heap.size from (by rw [hw]; simpa using HBS.out)); have nHS := Aside0.mk (show SZ ≤ w13.heap.size from (by rw [hw]; simpa using HS.out)); clear HQ; clear HB; clear HBS; clear HS; have HQ := nHQ; clear nHQ; have HB := nHB; clear nHB; have HBS := nHBS; clear nHBS; have HS := nHS; clear nHS; clear hw hkp k0 k1 k2 k3; clear f1; have f9 : w13.cell? ⟨g9, 0, none⟩ = some (.int .i64 x) := (blk_cell BK9.out 0).trans rfl; have f9' : w13.cell? ⟨g9, 1, none⟩ = some (.int .i64 (i : Int)) := (blk_cell BK9.out 1).trans rfl))
        | (go_at_call 13; go_must (refine (push_calls B g (fun k => FQ k ∨ w13.heap.size ≤ k) K lt HLE.out (pushL lt acc) i x i _ (HQ.out.narrow (fun k _ hk => Or.inl hk)) (fun k hk => Or.inr hk) (by rw [HPL.out]; have := HN.out; have := HI2.out; omega) (by have := HN.out; have := HI2.out; omega)).mono ?_; rw [← HNX.out]; rintro e w14 ⟨rfl, hq, hb, hk⟩; have nHQ := Aside0.mk (hq.narrow (F' := fun k => (FQ k ∨ w13.heap.size ≤ k) ∧ k < w14.heap.size) (fun k hk hf => ⟨hf, hk⟩)); have nHO := Aside0.mk (Kd.R_mono (Kd.R_bound (Kd.R_step (Kd.R_bound HO.out) (fun k hk_ hlt => hk.2 k hlt (fun hf => hf.elim (fun h => hk_.1.2 h) (fun h => absurd hlt (Nat.not_lt.2 h)))))) (fun k hk_ => (show B ≤ k ∧ ¬ ((FQ k ∨ w13.heap.size ≤ k) ∧ k < w14.heap.size) from ⟨hk_.1.1.1, fun h => h.1.elim (fun h => hk_.1.1.2 h) (fun h => absurd (hk_.1.2.2.1 : k < w13.heap.size) (Nat.not_lt.2 h))⟩))); have nBK9 := Aside0.mk ((hk.2 g9 (blk_lt BK9.out) (fun hf => hf.elim (fun h => absurd (HFZ.out g9 h) (Nat.not_lt.2 GE9.out)) (fun h => absurd (blk_lt BK9.out) (Nat.not_lt.2 h)))).trans BK9.out); have nHB := Aside0.mk (HB.out.trans hb); have nHBS := Aside0.mk (Nat.le_trans HBS.out hk.1.size); clear HQ HO HB HBS BK9 hq hb hk f9 f9'; have HQ := nHQ; have HO := nHO; have HB := nHB; have HBS := nHBS; have BK9 := nBK9; clear nHQ nHO nHB nHBS nBK9; obtain ⟨FP, hFP⟩ : ∃ FP, (fun k => (FQ k ∨ w13.heap.size ≤ k) ∧ k < w14.heap.size) = FP := ⟨_, rfl⟩; have HFP := Aside0.mk (show ∀ k, FP k → k < w14.heap.size from hFP ▸ fun k hk => hk.2); have nHO := Aside0.mk (show k27.R 27 w14 B (fun k => B ≤ k ∧ ¬ FP k) (.slice Ao i co) acc from hFP ▸ HO.out); clear HO; have HO := nHO; clear nHO; rw [hFP] at HQ; clear hFP; have f9 : w14.cell? ⟨g9, 0, none⟩ = some (.int .i64 x) := (blk_cell BK9.out 0).trans rfl; have f9' : w14.cell? ⟨g9, 1, none⟩ = some (.int .i64 (i : Int)) := (blk_cell BK9.out 1).trans rfl))
        | ((with_reducible refine gate_builtin (b := .append) (xs := #[.tmp 39, .tmp 41]) rfl ?_); go_must (at_builtin; refine Kd.R_append k27 (w0 := w14) B rfl (.tmp 39) (.tmp 41) 31 27 (.agg #[.int .i64 0, .int .i64 0]) 16 rfl Try.underlying31 info27 rfl (by decide) (by decide) (.slice Ao i co) acc ⟨x, (i : Int)⟩ [.int .i64 x, .int .i64 (i : Int)] (fun k => B ≤ k ∧ ¬ FP k) (fun _ => False) rfl rfl (k27_mkM _ _ _ ⟨x, (i : Int)⟩) (fun _ h => h.elim) (fun k hk => ⟨Nat.le_trans HBS.out hk, fun h => absurd (HFP.out k h) (Nat.not_lt.2 hk)⟩) HO.out (Below.refl _ _) HBS.out ?aL ?_; (case aL => have := HI.out; have := HN.out; omega); intro v2 w15 hr2 hb2 hg2 hat2; have nHQ := Aside0.mk (HQ.out.keep (fun k hk hf => hg2.block k hk (fun e => (HO.out.1 k e.symm).2 hf))); have nHB := Aside0.mk (HB.out.trans hb2); have nHBS := Aside0.mk (Nat.le_trans HBS.out hb2.size); have nHFP := Aside0.mk (show ∀ k, FP k → k < w15.heap.size from fun k h => Nat.lt_of_lt_of_le (HFP.out k h) hb2.size); have nHO := Aside0.mk hr2; clear HQ HB HBS HFP HO hr2 hb2 hg2 hat2 f9 f9'; have HQ := nHQ; have HB := nHB; have HBS := nHBS; have HFP := nHFP; have HO := nHO; clear nHQ nHB nHBS nHFP nHO)))
      obtain ⟨Ao2, co2, hv2⟩ := Kd.R_slice HO.out
      rw [List.length_append, List.length_singleton, HI.out.2.1] at hv2
      subst hv2
      go_roundg (l0.length - (i + 1))
      case measure => have h_ := HI.out; have := HI2.out; omega
      case rel => exact ⟨i + 1, acc ++ [⟨x, (i : Int)⟩], Ao2, co2, FP, by first | rfl | (rw [q1]; rfl), rfl, ⟨by have := HI2.out; have := HI.out; rw [List.length_append, List.length_singleton]; omega⟩, HX, HQ, HFP, HO, HB, HBS⟩
    · obtain rfl : i = l0.length := by have := HI.out; omega
      have HSO := Aside0.mk (show (srt lt l0.length acc).Pairwise (rK lt) from by have h_ := keyL_sorted lt HSW.out l0 l0.length (by omega); have h2_ := HAC.out; rw [List.take_length] at h2_; rw [← h2_]; exact h_)
      have HPO := Aside0.mk (show (popsS (bI lt) zI (pushL lt acc).length (pushL lt acc)).map Prod.fst = srt lt l0.length acc from by have h_ := pops_all lt HSW.out acc; rw [HI.out.2.1] at h_; exact h_)
      have HPL := Aside0.mk (show (pushL lt acc).length = l0.length from by rw [pushL_len]; exact HI.out.2.1)
      have HLS := Aside0.mk (show (srt lt l0.length acc).length = l0.length from by rw [srt_len]; exact HI.out.2.1)
      have p1 := eq_false (show ¬ (l0.length : Int) < (l0.length : Int) by omega)
      clear ci HAC
      obtain ⟨SZ, hSZ⟩ : ∃ SZ, wr.heap.size = SZ := ⟨_, rfl⟩
      have HBZ := Aside0.mk (hSZ ▸ HBS.out)
      have HSZ := Aside0.mk hSZ
      have nHQ := Aside0.mk (HQ.out.narrow (F' := fun k => FQ k ∧ k < SZ) (fun k hk hf => ⟨hf, hSZ ▸ hk⟩))
      clear HQ hSZ HFQ
      have HQ := nHQ
      clear nHQ
      go_wp2_with (first
        | (go_at_call 21; go_must (refine (sort_vals K lt HLE.out Ao l0.length co acc _ (Kd.R_reads HO.out) (by have := HN.out; omega) HI.out.2.1).mono ?_; rw [HSZ.out]; rintro e w20 ⟨A2, c2, rfl, hr, hb⟩; have nHO := Aside0.mk hr; have nHQ := Aside0.mk (HQ.out.below (HSZ.out.symm ▸ hb)); have nHB := Aside0.mk (HB.out.trans (hb.mono HBZ.out)); have HS := Aside0.mk (show SZ ≤ w20.heap.size from by have h_ := hb.size; rw [HSZ.out] at h_; exact h_); have nHBS := Aside0.mk (Nat.le_trans HBZ.out HS.out); clear HQ HO HB HBS hr hb; have HQ := nHQ; have HO := nHO; have HB := nHB; have HBS := nHBS; clear nHQ nHO nHB nHBS)))
      have HS27 := Aside0.mk (show srt lt l0.length acc = srt lt l0.length acc from rfl)
      generalize srt lt l0.length acc = S at HSO HPO HLS HO
      generalize pushL lt acc = h0 at HQ HPO HPL
      generalize hnum : (l0.length : Int) = num at HQ
      have HNUM := Aside0.mk hnum
      clear hnum HS27
      go_loopg [11, 12, 13] l0.length (fun kq v11 v12 v13 ws => ∃ (i : Nat) (h : List (S27 × Int)), v11 = .int .i64 (i : Int) ∧ Aside0 (i + h.length = l0.length ∧ kq = h.length) ∧ Aside0 ((popsS (bI lt) zI h.length h).map Prod.fst = S.drop i) ∧ Aside0 (QI 60 62 kI ws B g (fun k => FQ k ∧ k < SZ) K h num) ∧ Aside0 (k27.R 27 ws SZ (fun k => SZ ≤ k) (.slice A2 l0.length c2) S) ∧ Aside0 (Below B w ws) ∧ Aside0 (SZ ≤ ws.heap.size) ∧ Aside0 (B ≤ ws.heap.size))
      case atStart => exact ⟨0, h0, rfl, ⟨by rw [HPL.out]; simp⟩, ⟨by rw [List.drop_zero]; exact HPO.out⟩, HQ, HO, HB, HS, HBS⟩
      case round =>
        clear HQ HB HS HBS HO HPO HPL
        obtain ⟨i, h, rfl, HI2, HPO, HQ, HO, HB, HS, HBS⟩ := hrel
        have M1 := trivial
        by_cases h0_ : 0 < h.length
        · have HP := Aside0.mk h0_
          have HP1 := Aside0.mk (pops_one lt h S i h0_ HPO.out)
          have HPL := Aside0.mk (popS_len (bI lt) zI h h0_)
          obtain ⟨x, hx⟩ : ∃ x, S.getD i z27 = x := ⟨_, rfl⟩
          have HXS := Aside0.mk hx
          have HX := Aside0.mk (show (h.getD 0 zI).1 = x from HP1.out.2.1.trans hx)
          have HIL := Aside0.mk (show i < l0.length from by have := HI2.out; omega)
          have p1 := eq_true (show (i : Int) < (l0.length : Int) by have := HIL.out; omega)
          have p2 := eq_true HIL.out
          have q1 : wrap64 ((i : Int) + 1) = (i : Int) + 1 := by have := HIL.out; have := HN.out; unfold wrap64; omega
          have nq := neq27
          clear h0_ hx
          go_upto_region 21 with (first
            | (go_at_call 15; clear M1; go_must (refine (pop_calls B g _ K lt HLE.out h _ _ HQ.out HP.out).mono ?_; rw [HX.out]; rintro e w11 ⟨rfl, hq, hb, hk⟩; have nHO := Aside0.mk (Kd.R_step HO.out (fun k hk_ hlt => hk.2 k hlt (fun hf => absurd hf.2 (Nat.not_lt.2 hk_)))); clear HO; have HO := nHO; clear nHO; have nHQ := Aside0.mk hq; have nHB := Aside0.mk (HB.out.trans hb); have nHBS := Aside0.mk (Nat.le_trans HBS.out hk.1.size); have nHS := Aside0.mk (Nat.le_trans HS.out hk.1.size); clear HQ; clear HB; clear HBS; clear HS; have HQ := nHQ; clear nHQ; have HB := nHB; clear nHB; have HBS := nHBS; clear nHBS; have HS := nHS; clear nHS; clear hq hb hk))
            | ((with_reducible refine gate_dst (N := 12) rfl ?_); go_must (refine box_event ?hg (N := 12) ?hd (cs := #[.int .i64 0, .int .i64 0]) (t := 27) ?hr ?_; (case hd => rfl); (case hg => rfl); (case hr => first | (go_simp; done) | (go_simp; rfl)); intro g12 hg w12 hbox hb; have nHO := Aside0.mk (Kd.R_below (Kd.R_elderB HO.out g12 (Nat.le_of_eq hg.symm)) hb); clear HO; have HO := nHO; clear nHO; have GE12 := Aside0.mk (show SZ ≤ g12 from by rw [hg]; exact HS.out); have BK12 := Aside0.mk hbox; have k0 : w12.cell? ⟨g12, 0, none⟩ = some (.int .i64 0) := (blk_cell hbox 0).trans rfl; have k1 : w12.cell? ⟨g12, 1, none⟩ = some (.int .i64 0) := (blk_cell hbox 1).trans rfl; have k2 := blk_frozen hbox 0; have k3 := blk_frozen hbox 1; have nHQ := Aside0.mk (HQ.out.below hb); have nHB := Aside0.mk (HB.out.trans (hb.mono HBS.out)); have nHBS := Aside0.mk (Nat.le_trans HBS.out hb.size); have nHS := Aside0.mk (Nat.le_trans HS.out hb.size); clear HQ; clear HB; clear HBS; clear HS; have HQ := nHQ; clear nHQ; have HB := nHB; clear nHB; have HBS := nHBS; clear nHBS; have HS := nHS; clear nHS; clear hbox hb hg))
            | ((with_reducible refine gate_store (t := 27) (p := 12) rfl ?_); go_must (refine store_event (t := 27) (p := 12) (v := ?vo_12) (w1 := ((w12.setCell ⟨g12, 0, none⟩ (.int .i64 x.f0)).setCell ⟨g12, 1, none⟩ (.int .i64 x.f1))) ?hg ?ho ?hn ?hr ?_; (case ho => rfl); (case hg => rfl); (case hn => rfl); (case hr => first | (go_simp; done) | (go_simp; rfl)); intro w13 hw; have nHO := Aside0.mk (show k27.R 27 w13 SZ (fun k => SZ ≤ k) (.slice A2 l0.length c2) S from by rw [hw]; exact Kd.R_mono (Kd.R_step HO.out (fun k hk _ => (Below.heap_setCell _ ⟨g12, 1, none⟩ _ k (show k ≠ g12 from hk.2)).trans (Below.heap_setCell _ ⟨g12, 0, none⟩ _ k (show k ≠ g12 from hk.2)))) (fun k hk => hk.1)); clear HO; have HO := nHO; clear nHO; have nBK12 := Aside0.mk (show w13.heap[g12]? = some (.cells #[.int .i64 x.f0, .int .i64 x.f1] 27 (0, 0)) from (by rw [hw]; exact put_two BK12.out)); clear BK12; have BK12 := nBK12; clear nBK12; have hkp := (show ∀ k, k < SZ → w13.heap[k]? = w12.heap[k]? from by rw [hw]; exact fun k hf => (Below.heap_setCell _ ⟨g12, 1, none⟩ _ k (by have := GE12.out; show k ≠ g12; omega)).trans (Below.heap_setCell _ ⟨g12, 0, none⟩ _ k (by have := GE12.out; show k ≠ g12; omega))); have nHQ := Aside0.mk (HQ.out.keep (fun k _ hf => hkp k hf.2)); have nHB := Aside0.mk (show Below B w w13 from (by rw [hw]; exact (HB.out.setCell (Nat.le_trans HBZ.out GE12.out) _).setCell (Nat.le_trans HBZ.out GE12.out) _)); have nHBS := Aside0.mk (show B ≤ w13.heap.size from (by rw [hw]; simpa using HBS.out)); have nHS := Aside0.mk (show SZ ≤ w13.heap.size from (by rw [hw]; simpa using HS.out)); clear HQ; clear HB; clear HBS; clear HS; have HQ := nHQ; clear nHQ; have HB := nHB; clear nHB; have HBS := nHBS; clear nHBS; have HS := nHS; clear nHS; clear hw hkp k0 k1 k2 k3; skip)))
          obtain ⟨pa, hpa, hpb, f1, f2⟩ := row_of HO.out i HIL.out HLS.out
          subst hpa
          rw [HXS.out] at f1 f2
          have e1 : w13.cell? ⟨g12, 0, none⟩ = some (.int .i64 x.f0) := (blk_cell BK12.out 0).trans rfl
          have e2 : w13.cell? ⟨g12, 1, none⟩ = some (.int .i64 x.f1) := (blk_cell BK12.out 1).trans rfl
          by_cases hi0 : i = 0
          · have k1 : decide ((0 : Int) < (i : Int)) = false := decide_eq_false (by omega)
            have k2 := eq_false (show ¬ ((0 : Int) < (i : Int)) by omega)
            have k3 := eq_false (show ¬ (0 < i) by omega)
            clear hpb hi0
            go_quiet (fail)
            go_wp2
            go_roundg (popS (bI lt) zI h).length
            case measure => have := HPL.out; have := HP.out; have := HI2.out; omega
            case rel => exact ⟨i + 1, popS (bI lt) zI h, by first | rfl | (rw [q1]; rfl), ⟨by have := HPL.out; have := HP.out; have := HI2.out; omega⟩, ⟨HP1.out.2.2⟩, ⟨HQ.out.below (pw_below_drewN (Below.refl w13.heap.size w13) _)⟩, ⟨Kd.R_below HO.out (pw_below_drewN (Below.refl w13.heap.size w13) _)⟩, ⟨HB.out.trans ((pw_below_drewN (Below.refl w13.heap.size w13) _).mono HBS.out)⟩, ⟨Nat.le_trans HS.out (pw_below_drewN (Below.refl w13.heap.size w13) _).size⟩, ⟨Nat.le_trans HBS.out (pw_below_drewN (Below.refl w13.heap.size w13) _).size⟩⟩
          · obtain ⟨j, hj⟩ : ∃ j, i = j + 1 := ⟨i - 1, by omega⟩
            obtain ⟨pb, hpb2, hpb3, f3, f4⟩ := row_of HO.out j (by have := HIL.out; omega) HLS.out
            obtain rfl := Option.some.inj hpb2
            obtain ⟨y, hy⟩ : ∃ y, S.getD j z27 = y := ⟨_, rfl⟩
            rw [hy] at f3 f4
            have hrk : rK lt y x := by
              have h_ := sorted_at z27 HSO.out j (by rw [HLS.out, ← hj]; exact HIL.out)
              rw [hy, ← hj, HXS.out] at h_
              exact h_
            have LXY := Aside0.mk hrk.1
            have SIX := Aside0.mk (show Six w13 g12 (pa.add (i * 2)) (pa.add (j * 2)) x x y from ⟨⟨blk_lt BK12.out, by unfold Addr.add; split <;> exact hpb, by unfold Addr.add; split <;> exact hpb⟩, e1, e2, f1, f2, f3, f4⟩)
            have HLS2 := Aside0.mk HLE.out.2
            have hen := HLE.out.1
            have DD0 := Aside0.mk (show Below w13.heap.size w13 w13.drew from (Below.refl w13.heap.size w13).drew)
            have k1 : decide ((0 : Int) < (i : Int)) = true := decide_eq_true (by omega)
            have k2 := eq_true (show ((0 : Int) < (i : Int)) by omega)
            have k3 := eq_true (show (0 < i) by omega)
            have k4 : wrap64 ((i : Int) - 1) = (j : Int) := by have := HIL.out; have := HN.out; unfold wrap64; omega
            have k4' : IntKind.i64.wrap ((i : Int) - 1) = (j : Int) := by rw [IntKind.wrap_i64]; have := HIL.out; have := HN.out; omega
            have k5 := eq_true (show (j : Int) < (l0.length : Int) by have := HIL.out; omega)
            have k6 := eq_true (show j < l0.length by have := HIL.out; omega)
            have HJ := Aside0.mk hj
            clear hpb hpb2 hpb3 hj hy hi0
            cases hlt : lt y x with
            | true =>
              have LYX := Aside0.mk hlt
              clear hrk hlt
              refine wp_region_held_drew (S := (fun w' => w'.cell? ⟨g12, 0, none⟩ = some (.int .i64 x.f0) ∧ w'.cell? ⟨g12, 1, none⟩ = some (.int .i64 x.f1) ∧ w'.cell? (pa.add (i * 2)) = some (.int .i64 x.f0) ∧ w'.cell? ⟨(pa.add (i * 2)).block, (pa.add (i * 2)).off + 1, none⟩ = some (.int .i64 x.f1) ∧ w'.cell? (pa.add (j * 2)) = some (.int .i64 y.f0) ∧ w'.cell? ⟨(pa.add (j * 2)).block, (pa.add (j * 2)).off + 1, none⟩ = some (.int .i64 y.f1))) (by kernel_rfl) ?_ (fun hHeld => ?_)
              · exact SIX.out.2
              refine' take_ (i := 0) ?ho_0 ?more_0
              case ho_0 => simp only [List.getElem?_toArray, List.getElem?_cons_succ, List.getElem?_cons_zero]; rfl
              refine ⟨by kernel_rfl, by kernel_rfl, by kernel_rfl, fun _ _ _ _ h => h, ?v_0, Or.inl ⟨by rfl, ?hy_0⟩, by assumption, ?rest_0⟩
              case hy_0 => intro w hSw; (try dsimp only at hSw); (go_simp <;> rfl)
              simp only [Act.put, List.setIfInBounds_toArray, List.set_cons_zero, List.set_cons_succ]
              refine' take_ (i := 1) ?ho_1 ?more_1
              case ho_1 => simp only [List.getElem?_toArray, List.getElem?_cons_succ, List.getElem?_cons_zero]; rfl
              refine ⟨by kernel_rfl, by kernel_rfl, by kernel_rfl, fun _ _ _ _ h => h, ?v_1, Or.inl ⟨by rfl, ?hy_1⟩, by assumption, ?rest_1⟩
              case hy_1 => intro w hSw; (try dsimp only at hSw); (go_simp <;> rfl)
              simp only [Act.put, List.setIfInBounds_toArray, List.set_cons_zero, List.set_cons_succ]
              refine' take_ (i := 2) ?ho_2 ?more_2
              case ho_2 => simp only [List.getElem?_toArray, List.getElem?_cons_succ, List.getElem?_cons_zero]; rfl
              refine ⟨by kernel_rfl, by kernel_rfl, by kernel_rfl, fun _ _ _ _ h => h, ?v_2, Or.inl ⟨by rfl, ?hy_2⟩, by assumption, ?rest_2⟩
              case hy_2 => intro w hSw; (try dsimp only at hSw); (go_simp <;> rfl)
              simp only [Act.put, List.setIfInBounds_toArray, List.set_cons_zero, List.set_cons_succ]
              refine' take_ (i := 3) ?ho_3 ?more_3
              case ho_3 => simp only [List.getElem?_toArray, List.getElem?_cons_succ, List.getElem?_cons_zero]; rfl
              refine ⟨by kernel_rfl, by kernel_rfl, by kernel_rfl, fun _ _ _ _ h => h, ?v_3, Or.inl ⟨by rfl, ?hy_3⟩, by assumption, ?rest_3⟩
              case hy_3 => intro w hSw; (try dsimp only at hSw); (go_simp <;> rfl)
              simp only [Act.put, List.setIfInBounds_toArray, List.set_cons_zero, List.set_cons_succ]
              refine' take_ (i := 4) ?ho_4 ?more_4
              case ho_4 => simp only [List.getElem?_toArray, List.getElem?_cons_succ, List.getElem?_cons_zero]; rfl
              refine ⟨by kernel_rfl, by kernel_rfl, by kernel_rfl, fun _ _ _ _ h => h, ?v_4, Or.inl ⟨by rfl, ?hy_4⟩, by assumption, ?rest_4⟩
              case hy_4 => intro w hSw; (try dsimp only at hSw); (go_simp <;> rfl)
              simp only [Act.put, List.setIfInBounds_toArray, List.set_cons_zero, List.set_cons_succ]
              refine' take_ (i := 5) ?ho_5 ?more_5
              case ho_5 => simp only [List.getElem?_toArray, List.getElem?_cons_succ, List.getElem?_cons_zero]; rfl
              refine ⟨by kernel_rfl, by kernel_rfl, by kernel_rfl, fun _ _ _ _ h => h, ?v_5, Or.inl ⟨by rfl, ?hy_5⟩, by assumption, ?rest_5⟩
              case hy_5 => intro w hSw; (try dsimp only at hSw); (go_simp <;> rfl)
              simp only [Act.put, List.setIfInBounds_toArray, List.set_cons_zero, List.set_cons_succ]
              refine' take_ (i := 6) ?ho_6 ?more_6
              case ho_6 => simp only [List.getElem?_toArray, List.getElem?_cons_succ, List.getElem?_cons_zero]; rfl
              refine ⟨by kernel_rfl, by kernel_rfl, by kernel_rfl, fun _ _ _ _ h => h, ?v_6, Or.inl ⟨by rfl, ?hy_6⟩, by assumption, ?rest_6⟩
              case hy_6 => intro w hSw; (try dsimp only at hSw); (go_simp <;> rfl)
              simp only [Act.put, List.setIfInBounds_toArray, List.set_cons_zero, List.set_cons_succ]
              refine' take_ (i := 7) ?ho_7 ?more_7
              case ho_7 => simp only [List.getElem?_toArray, List.getElem?_cons_succ, List.getElem?_cons_zero]; rfl
              refine ⟨by kernel_rfl, by kernel_rfl, by kernel_rfl, fun _ _ _ _ h => h, ?v_7, Or.inl ⟨by rfl, ?hy_7⟩, by assumption, ?rest_7⟩
              case hy_7 => intro w hSw; (try dsimp only at hSw); (go_simp <;> rfl)
              simp only [Act.put, List.setIfInBounds_toArray, List.set_cons_zero, List.set_cons_succ]
              refine' take_ (i := 8) ?ho_8 ?more_8
              case ho_8 => simp only [List.getElem?_toArray, List.getElem?_cons_succ, List.getElem?_cons_zero]; rfl
              refine ⟨by kernel_rfl, by kernel_rfl, by kernel_rfl, fun _ _ _ _ h => h, ?v_8, Or.inl ⟨by rfl, ?hy_8⟩, by assumption, ?rest_8⟩
              case hy_8 => intro w hSw; (try dsimp only at hSw); (go_simp <;> rfl)
              simp only [Act.put, List.setIfInBounds_toArray, List.set_cons_zero, List.set_cons_succ]
              refine' take_ (i := 9) ?ho_9 ?more_9
              case ho_9 => simp only [List.getElem?_toArray, List.getElem?_cons_succ, List.getElem?_cons_zero]; rfl
              refine ⟨by kernel_rfl, by kernel_rfl, by kernel_rfl, fun _ _ _ _ h => h, ?v_9, Or.inl ⟨by rfl, ?hy_9⟩, by assumption, ?rest_9⟩
              case hy_9 => intro w hSw; (try dsimp only at hSw); (go_simp <;> rfl)
              simp only [Act.put, List.setIfInBounds_toArray, List.set_cons_zero, List.set_cons_succ]
              refine' take_ (i := 10) ?ho_10 ?more_10
              case ho_10 => simp only [List.getElem?_toArray, List.getElem?_cons_succ, List.getElem?_cons_zero]; rfl
              refine ⟨by kernel_rfl, by kernel_rfl, by kernel_rfl, fun _ _ _ _ h => h, ?v_10, Or.inl ⟨by rfl, ?hy_10⟩, by assumption, ?rest_10⟩
              case hy_10 => intro w hSw; (try dsimp only at hSw); (go_simp <;> rfl)
              simp only [Act.put, List.setIfInBounds_toArray, List.set_cons_zero, List.set_cons_succ]
              refine' take_ (i := 11) ?ho_11 ?more_11
              case ho_11 => simp only [List.getElem?_toArray, List.getElem?_cons_succ, List.getElem?_cons_zero]; rfl
              refine ⟨by kernel_rfl, by kernel_rfl, by kernel_rfl, fun _ _ _ _ h => h, ?v_11, Or.inl ⟨by rfl, ?hy_11⟩, by assumption, ?rest_11⟩
              case hy_11 => intro w hSw; (try dsimp only at hSw); (go_simp <;> rfl)
              simp only [Act.put, List.setIfInBounds_toArray, List.set_cons_zero, List.set_cons_succ]
              refine' take_ (i := 12) ?ho_12 ?more_12
              case ho_12 => simp only [List.getElem?_toArray, List.getElem?_cons_succ, List.getElem?_cons_zero]; rfl
              refine ⟨by kernel_rfl, by kernel_rfl, by kernel_rfl, fun _ _ _ _ h => h, ?v_12, Or.inl ⟨by rfl, ?hy_12⟩, by assumption, ?rest_12⟩
              case hy_12 => intro w hSw; (try dsimp only at hSw); (go_simp <;> rfl)
              simp only [Act.put, List.setIfInBounds_toArray, List.set_cons_zero, List.set_cons_succ]
              refine' take_ (i := 13) ?ho_13 ?more_13
              case ho_13 => simp only [List.getElem?_toArray, List.getElem?_cons_succ, List.getElem?_cons_zero]; rfl
              refine ⟨by kernel_rfl, by kernel_rfl, by kernel_rfl, fun _ _ _ _ h => h, ?v_13, Or.inl ⟨by rfl, ?hy_13⟩, by assumption, ?rest_13⟩
              case hy_13 => intro w hSw; (try dsimp only at hSw); (go_simp <;> rfl)
              simp only [Act.put, List.setIfInBounds_toArray, List.set_cons_zero, List.set_cons_succ]
              refine' take_ (i := 14) ?ho_14 ?more_14
              case ho_14 => simp only [List.getElem?_toArray, List.getElem?_cons_succ, List.getElem?_cons_zero]; rfl
              refine ⟨by kernel_rfl, by kernel_rfl, by kernel_rfl, fun _ _ _ _ h => h, ?v_14, Or.inl ⟨by rfl, ?hy_14⟩, by assumption, ?rest_14⟩
              case hy_14 => intro w hSw; (try dsimp only at hSw); (go_simp <;> rfl)
              simp only [Act.put, List.setIfInBounds_toArray, List.set_cons_zero, List.set_cons_succ]
              refine' take_ (i := 15) ?ho_15 ?more_15
              case ho_15 => simp only [List.getElem?_toArray, List.getElem?_cons_succ, List.getElem?_cons_zero]; rfl
              refine ⟨by kernel_rfl, by kernel_rfl, by kernel_rfl, fun _ _ _ _ h => h, ?v_15, Or.inl ⟨by rfl, ?hy_15⟩, by assumption, ?rest_15⟩
              case hy_15 => intro w hSw; (try dsimp only at hSw); (go_simp <;> rfl)
              simp only [Act.put, List.setIfInBounds_toArray, List.set_cons_zero, List.set_cons_succ]
              refine' take_ (i := 16) ?ho_16 ?more_16
              case ho_16 => simp only [List.getElem?_toArray, List.getElem?_cons_succ, List.getElem?_cons_zero]; rfl
              refine ⟨by kernel_rfl, by kernel_rfl, by kernel_rfl, fun _ _ _ _ h => h, ?v_16, Or.inl ⟨by rfl, ?hy_16⟩, by assumption, ?rest_16⟩
              case hy_16 => intro w hSw; (try dsimp only at hSw); (go_simp <;> rfl)
              simp only [Act.put, List.setIfInBounds_toArray, List.set_cons_zero, List.set_cons_succ]
              refine' take_ (i := 17) ?ho_17 ?more_17
              case ho_17 => simp only [List.getElem?_toArray, List.getElem?_cons_succ, List.getElem?_cons_zero]; rfl
              refine ⟨by kernel_rfl, by kernel_rfl, by kernel_rfl, fun _ _ _ _ h => h, ?v_17, Or.inl ⟨by rfl, ?hy_17⟩, by assumption, ?rest_17⟩
              case hy_17 => intro w hSw; (try dsimp only at hSw); (go_simp <;> rfl)
              simp only [Act.put, List.setIfInBounds_toArray, List.set_cons_zero, List.set_cons_succ]
              refine' take_ (i := 18) ?ho_18 ?more_18
              case ho_18 => simp only [List.getElem?_toArray, List.getElem?_cons_succ, List.getElem?_cons_zero]; rfl
              refine ⟨by kernel_rfl, by kernel_rfl, by kernel_rfl, fun _ _ _ _ h => h, ?v_18, Or.inl ⟨by rfl, ?hy_18⟩, by assumption, ?rest_18⟩
              case hy_18 => intro w hSw; (try dsimp only at hSw); (go_simp <;> rfl)
              simp only [Act.put, List.setIfInBounds_toArray, List.set_cons_zero, List.set_cons_succ]
              refine' take_ (i := 19) ?ho_19 ?more_19
              case ho_19 => simp only [List.getElem?_toArray, List.getElem?_cons_succ, List.getElem?_cons_zero]; rfl
              refine ⟨by kernel_rfl, by kernel_rfl, by kernel_rfl, fun _ _ _ _ h => h, ?v_19, Or.inl ⟨by rfl, ?hy_19⟩, by assumption, ?rest_19⟩
              case hy_19 => intro w hSw; (try dsimp only at hSw); (go_simp <;> rfl)
              simp only [Act.put, List.setIfInBounds_toArray, List.set_cons_zero, List.set_cons_succ]
              refine' take_ (i := 20) ?ho_20 ?more_20
              case ho_20 => simp only [List.getElem?_toArray, List.getElem?_cons_succ, List.getElem?_cons_zero]; rfl
              refine ⟨by kernel_rfl, by kernel_rfl, by kernel_rfl, fun _ _ _ _ h => h, ?v_20, Or.inl ⟨by rfl, ?hy_20⟩, by assumption, ?rest_20⟩
              case hy_20 => intro w hSw; (try dsimp only at hSw); (go_simp <;> rfl)
              simp only [Act.put, List.setIfInBounds_toArray, List.set_cons_zero, List.set_cons_succ]
              refine' take_ (i := 21) ?ho_21 ?more_21
              case ho_21 => simp only [List.getElem?_toArray, List.getElem?_cons_succ, List.getElem?_cons_zero]; rfl
              refine ⟨by kernel_rfl, by kernel_rfl, by kernel_rfl, fun _ _ _ _ h => h, ?v_21, Or.inl ⟨by rfl, ?hy_21⟩, by assumption, ?rest_21⟩
              case hy_21 => intro w hSw; (try dsimp only at hSw); (go_simp <;> rfl)
              simp only [Act.put, List.setIfInBounds_toArray, List.set_cons_zero, List.set_cons_succ]
              refine' take_ (i := 22) ?ho_22 ?more_22
              case ho_22 => simp only [List.getElem?_toArray, List.getElem?_cons_succ, List.getElem?_cons_zero]; rfl
              refine ⟨by kernel_rfl, by kernel_rfl, by kernel_rfl, fun _ _ _ _ h => h, ?v_22, Or.inl ⟨by rfl, ?hy_22⟩, by assumption, ?rest_22⟩
              case hy_22 => intro w hSw; (try dsimp only at hSw); (go_simp <;> rfl)
              simp only [Act.put, List.setIfInBounds_toArray, List.set_cons_zero, List.set_cons_succ]
              refine' take_ (i := 23) ?ho_23 ?more_23
              case ho_23 => simp only [List.getElem?_toArray, List.getElem?_cons_succ, List.getElem?_cons_zero]; rfl
              refine ⟨by kernel_rfl, by kernel_rfl, by kernel_rfl, fun _ _ _ _ h => h, ?v_23, Or.inl ⟨by rfl, ?hy_23⟩, by assumption, ?rest_23⟩
              case hy_23 => intro w hSw; (try dsimp only at hSw); (go_simp <;> rfl)
              simp only [Act.put, List.setIfInBounds_toArray, List.set_cons_zero, List.set_cons_succ]
              refine wpAnyH_ready (rs := [24]) (by kernel_rfl) (by simp) ?_
              refine' AllReadyH.cons ?ho_24 (fun K hK => ?rest_24) AllReadyH.nil
              case ho_24 => simp only [List.getElem?_toArray, List.getElem?_cons_succ, List.getElem?_cons_zero]; rfl
              go_simp
              refine (HLS2.out x y _).mono ?_
              rw [LXY.out]
              rintro e w31 ⟨rfl, hb⟩
              have Dw31 := Aside0.mk (below_step DD0.out hb)
              clear hb
              go_simp
              refine hK.out _ _ (Six.below SIX.out Dw31.out).2 (fun hHeld => ?_)
              clear hK K
              try simp only [Act.put, List.setIfInBounds_toArray, List.set_cons_zero, List.set_cons_succ]
              refine' take_ (i := 25) ?ho_25 ?more_25
              case ho_25 => simp only [List.getElem?_toArray, List.getElem?_cons_succ, List.getElem?_cons_zero]; rfl
              refine ⟨by kernel_rfl, by kernel_rfl, by kernel_rfl, fun _ _ _ _ h => h, ?v_25, Or.inl ⟨by rfl, ?hy_25⟩, by assumption, ?rest_25⟩
              case hy_25 => intro w hSw; (try dsimp only at hSw); (go_simp <;> rfl)
              simp only [Act.put, List.setIfInBounds_toArray, List.set_cons_zero, List.set_cons_succ]
              refine' take_ (i := 26) ?ho_26 ?more_26
              case ho_26 => simp only [List.getElem?_toArray, List.getElem?_cons_succ, List.getElem?_cons_zero]; rfl
              refine ⟨by kernel_rfl, by kernel_rfl, by kernel_rfl, fun _ _ _ _ h => h, ?v_26, Or.inl ⟨by rfl, ?hy_26⟩, by assumption, ?rest_26⟩
              case hy_26 => intro w hSw; (try dsimp only at hSw); (go_simp <;> rfl)
              simp only [Act.put, List.setIfInBounds_toArray, List.set_cons_zero, List.set_cons_succ]
              refine' take_ (i := 27) ?ho_27 ?more_27
              case ho_27 => simp only [List.getElem?_toArray, List.getElem?_cons_succ, List.getElem?_cons_zero]; rfl
              refine ⟨by kernel_rfl, by kernel_rfl, by kernel_rfl, fun _ _ _ _ h => h, ?v_27, Or.inl ⟨by rfl, ?hy_27⟩, by assumption, ?rest_27⟩
              case hy_27 => intro w hSw; (try dsimp only at hSw); (go_simp <;> rfl)
              simp only [Act.put, List.setIfInBounds_toArray, List.set_cons_zero, List.set_cons_succ]
              refine' take_ (i := 28) ?ho_28 ?more_28
              case ho_28 => simp only [List.getElem?_toArray, List.getElem?_cons_succ, List.getElem?_cons_zero]; rfl
              refine ⟨by kernel_rfl, by kernel_rfl, by kernel_rfl, fun _ _ _ _ h => h, ?v_28, Or.inl ⟨by rfl, ?hy_28⟩, by assumption, ?rest_28⟩
              case hy_28 => intro w hSw; (try dsimp only at hSw); (go_simp <;> rfl)
              simp only [Act.put, List.setIfInBounds_toArray, List.set_cons_zero, List.set_cons_succ]
              refine' take_ (i := 29) ?ho_29 ?more_29
              case ho_29 => simp only [List.getElem?_toArray, List.getElem?_cons_succ, List.getElem?_cons_zero]; rfl
              refine ⟨by kernel_rfl, by kernel_rfl, by kernel_rfl, fun _ _ _ _ h => h, ?v_29, Or.inl ⟨by rfl, ?hy_29⟩, by assumption, ?rest_29⟩
              case hy_29 => intro w hSw; (try dsimp only at hSw); (go_simp <;> rfl)
              simp only [Act.put, List.setIfInBounds_toArray, List.set_cons_zero, List.set_cons_succ]
              refine' take_ (i := 30) ?ho_30 ?more_30
              case ho_30 => simp only [List.getElem?_toArray, List.getElem?_cons_succ, List.getElem?_cons_zero]; rfl
              refine ⟨by kernel_rfl, by kernel_rfl, by kernel_rfl, fun _ _ _ _ h => h, ?v_30, Or.inl ⟨by rfl, ?hy_30⟩, by assumption, ?rest_30⟩
              case hy_30 => intro w hSw; (try dsimp only at hSw); (go_simp <;> rfl)
              simp only [Act.put, List.setIfInBounds_toArray, List.set_cons_zero, List.set_cons_succ]
              refine' take_ (i := 31) ?ho_31 ?more_31
              case ho_31 => simp only [List.getElem?_toArray, List.getElem?_cons_succ, List.getElem?_cons_zero]; rfl
              refine ⟨by kernel_rfl, by kernel_rfl, by kernel_rfl, fun _ _ _ _ h => h, ?v_31, Or.inl ⟨by rfl, ?hy_31⟩, by assumption, ?rest_31⟩
              case hy_31 => intro w hSw; (try dsimp only at hSw); (go_simp <;> rfl)
              simp only [Act.put, List.setIfInBounds_toArray, List.set_cons_zero, List.set_cons_succ]
              refine' take_ (i := 32) ?ho_32 ?more_32
              case ho_32 => simp only [List.getElem?_toArray, List.getElem?_cons_succ, List.getElem?_cons_zero]; rfl
              refine ⟨by kernel_rfl, by kernel_rfl, by kernel_rfl, fun _ _ _ _ h => h, ?v_32, Or.inl ⟨by rfl, ?hy_32⟩, by assumption, ?rest_32⟩
              case hy_32 => intro w hSw; (try dsimp only at hSw); (go_simp <;> rfl)
              simp only [Act.put, List.setIfInBounds_toArray, List.set_cons_zero, List.set_cons_succ]
              refine' take_ (i := 33) ?ho_33 ?more_33
              case ho_33 => simp only [List.getElem?_toArray, List.getElem?_cons_succ, List.getElem?_cons_zero]; rfl
              refine ⟨by kernel_rfl, by kernel_rfl, by kernel_rfl, fun _ _ _ _ h => h, ?v_33, Or.inl ⟨by rfl, ?hy_33⟩, by assumption, ?rest_33⟩
              case hy_33 => intro w hSw; (try dsimp only at hSw); (go_simp <;> rfl)
              simp only [Act.put, List.setIfInBounds_toArray, List.set_cons_zero, List.set_cons_succ]
              refine' take_ (i := 34) ?ho_34 ?more_34
              case ho_34 => simp only [List.getElem?_toArray, List.getElem?_cons_succ, List.getElem?_cons_zero]; rfl
              refine ⟨by kernel_rfl, by kernel_rfl, by kernel_rfl, fun _ _ _ _ h => h, ?v_34, Or.inl ⟨by rfl, ?hy_34⟩, by assumption, ?rest_34⟩
              case hy_34 => intro w hSw; (try dsimp only at hSw); (go_simp <;> rfl)
              simp only [Act.put, List.setIfInBounds_toArray, List.set_cons_zero, List.set_cons_succ]
              refine' take_ (i := 35) ?ho_35 ?more_35
              case ho_35 => simp only [List.getElem?_toArray, List.getElem?_cons_succ, List.getElem?_cons_zero]; rfl
              refine ⟨by kernel_rfl, by kernel_rfl, by kernel_rfl, fun _ _ _ _ h => h, ?v_35, Or.inl ⟨by rfl, ?hy_35⟩, by assumption, ?rest_35⟩
              case hy_35 => intro w hSw; (try dsimp only at hSw); (go_simp <;> rfl)
              simp only [Act.put, List.setIfInBounds_toArray, List.set_cons_zero, List.set_cons_succ]
              refine wpAnyH_ready (rs := [36]) (by kernel_rfl) (by simp) ?_
              refine' AllReadyH.cons ?ho_36 (fun K hK => ?rest_36) AllReadyH.nil
              case ho_36 => simp only [List.getElem?_toArray, List.getElem?_cons_succ, List.getElem?_cons_zero]; rfl
              go_simp
              refine (HLS2.out y x _).mono ?_
              rw [LYX.out]
              rintro e w32 ⟨rfl, hb⟩
              have Dw32 := Aside0.mk (below_step Dw31.out hb)
              clear hb
              go_simp
              refine hK.out _ _ (Six.below SIX.out Dw32.out).2 (fun hHeld => ?_)
              clear hK K
              try simp only [Act.put, List.setIfInBounds_toArray, List.set_cons_zero, List.set_cons_succ]
              refine' take_ (i := 37) ?ho_37 ?more_37
              case ho_37 => simp only [List.getElem?_toArray, List.getElem?_cons_succ, List.getElem?_cons_zero]; rfl
              refine ⟨by kernel_rfl, by kernel_rfl, by kernel_rfl, fun _ _ _ _ h => h, ?v_37, Or.inl ⟨by rfl, ?hy_37⟩, by assumption, ?rest_37⟩
              case hy_37 => intro w hSw; (try dsimp only at hSw); (go_simp <;> rfl)
              simp only [Act.put, List.setIfInBounds_toArray, List.set_cons_zero, List.set_cons_succ]
              refine' take_ (i := 38) ?ho_38 ?more_38
              case ho_38 => simp only [List.getElem?_toArray, List.getElem?_cons_succ, List.getElem?_cons_zero]; rfl
              refine ⟨by kernel_rfl, by kernel_rfl, by kernel_rfl, fun _ _ _ _ h => h, ?v_38, Or.inl ⟨by rfl, ?hy_38⟩, by assumption, ?rest_38⟩
              case hy_38 => intro w hSw; (try dsimp only at hSw); (go_simp <;> rfl)
              simp only [Act.put, List.setIfInBounds_toArray, List.set_cons_zero, List.set_cons_succ]
              refine' take_ (i := 39) ?ho_39 ?more_39
              case ho_39 => simp only [List.getElem?_toArray, List.getElem?_cons_succ, List.getElem?_cons_zero]; rfl
              refine ⟨by kernel_rfl, by kernel_rfl, by kernel_rfl, fun _ _ _ _ h => h, undef, Or.inr ⟨by rfl, rfl⟩, by assumption, ?rest_39⟩
              simp only [Act.put, List.setIfInBounds_toArray, List.set_cons_zero, List.set_cons_succ]
              refine' take_ (i := 40) ?ho_40 ?more_40
              case ho_40 => simp only [List.getElem?_toArray, List.getElem?_cons_succ, List.getElem?_cons_zero]; rfl
              refine ⟨by kernel_rfl, by kernel_rfl, by kernel_rfl, fun _ _ _ _ h => h, undef, Or.inr ⟨by rfl, rfl⟩, by assumption, ?rest_40⟩
              simp only [Act.put, List.setIfInBounds_toArray, List.set_cons_zero, List.set_cons_succ]
              refine' take_ (i := 41) ?ho_41 ?more_41
              case ho_41 => simp only [List.getElem?_toArray, List.getElem?_cons_succ, List.getElem?_cons_zero]; rfl
              refine ⟨by kernel_rfl, by kernel_rfl, by kernel_rfl, fun _ _ _ _ h => h, undef, Or.inr ⟨by rfl, rfl⟩, by assumption, ?rest_41⟩
              simp only [Act.put, List.setIfInBounds_toArray, List.set_cons_zero, List.set_cons_succ]
              refine' take_ (i := 42) ?ho_42 ?more_42
              case ho_42 => simp only [List.getElem?_toArray, List.getElem?_cons_succ, List.getElem?_cons_zero]; rfl
              refine ⟨by kernel_rfl, by kernel_rfl, by kernel_rfl, fun _ _ _ _ h => h, undef, Or.inr ⟨by rfl, rfl⟩, by assumption, ?rest_42⟩
              simp only [Act.put, List.setIfInBounds_toArray, List.set_cons_zero, List.set_cons_succ]
              refine' take_ (i := 43) ?ho_43 ?more_43
              case ho_43 => simp only [List.getElem?_toArray, List.getElem?_cons_succ, List.getElem?_cons_zero]; rfl
              refine ⟨by kernel_rfl, by kernel_rfl, by kernel_rfl, fun _ _ _ _ h => h, undef, Or.inr ⟨by rfl, rfl⟩, by assumption, ?rest_43⟩
              simp only [Act.put, List.setIfInBounds_toArray, List.set_cons_zero, List.set_cons_succ]
              refine' take_ (i := 44) ?ho_44 ?more_44
              case ho_44 => simp only [List.getElem?_toArray, List.getElem?_cons_succ, List.getElem?_cons_zero]; rfl
              refine ⟨by kernel_rfl, by kernel_rfl, by kernel_rfl, fun _ _ _ _ h => h, undef, Or.inr ⟨by rfl, rfl⟩, by assumption, ?rest_44⟩
              simp only [Act.put, List.setIfInBounds_toArray, List.set_cons_zero, List.set_cons_succ]
              refine' take_ (i := 45) ?ho_45 ?more_45
              case ho_45 => simp only [List.getElem?_toArray, List.getElem?_cons_succ, List.getElem?_cons_zero]; rfl
              refine ⟨by kernel_rfl, by kernel_rfl, by kernel_rfl, fun _ _ _ _ h => h, undef, Or.inr ⟨by rfl, rfl⟩, by assumption, ?rest_45⟩
              simp only [Act.put, List.setIfInBounds_toArray, List.set_cons_zero, List.set_cons_succ]
              refine' take_ (i := 46) ?ho_46 ?more_46
              case ho_46 => simp only [List.getElem?_toArray, List.getElem?_cons_succ, List.getElem?_cons_zero]; rfl
              refine ⟨by kernel_rfl, by kernel_rfl, by kernel_rfl, fun _ _ _ _ h => h, undef, Or.inr ⟨by rfl, rfl⟩, by assumption, ?rest_46⟩
              simp only [Act.put, List.setIfInBounds_toArray, List.set_cons_zero, List.set_cons_succ]
              refine' take_ (i := 47) ?ho_47 ?more_47
              case ho_47 => simp only [List.getElem?_toArray, List.getElem?_cons_succ, List.getElem?_cons_zero]; rfl
              refine ⟨by kernel_rfl, by kernel_rfl, by kernel_rfl, fun _ _ _ _ h => h, undef, Or.inr ⟨by rfl, rfl⟩, by assumption, ?rest_47⟩
              simp only [Act.put, List.setIfInBounds_toArray, List.set_cons_zero, List.set_cons_succ]
              refine' take_ (i := 48) ?ho_48 ?more_48
              case ho_48 => simp only [List.getElem?_toArray, List.getElem?_cons_succ, List.getElem?_cons_zero]; rfl
              refine ⟨by kernel_rfl, by kernel_rfl, by kernel_rfl, fun _ _ _ _ h => h, undef, Or.inr ⟨by rfl, rfl⟩, by assumption, ?rest_48⟩
              simp only [Act.put, List.setIfInBounds_toArray, List.set_cons_zero, List.set_cons_succ]
              refine' take_ (i := 49) ?ho_49 ?more_49
              case ho_49 => simp only [List.getElem?_toArray, List.getElem?_cons_succ, List.getElem?_cons_zero]; rfl
              refine ⟨by kernel_rfl, by kernel_rfl, by kernel_rfl, fun _ _ _ _ h => h, undef, Or.inr ⟨by rfl, rfl⟩, by assumption, ?rest_49⟩
              simp only [Act.put, List.setIfInBounds_toArray, List.set_cons_zero, List.set_cons_succ]
              refine' take_ (i := 50) ?ho_50 ?more_50
              case ho_50 => simp only [List.getElem?_toArray, List.getElem?_cons_succ, List.getElem?_cons_zero]; rfl
              refine ⟨by kernel_rfl, by kernel_rfl, by kernel_rfl, fun _ _ _ _ h => h, undef, Or.inr ⟨by rfl, rfl⟩, by assumption, ?rest_50⟩
              simp only [Act.put, List.setIfInBounds_toArray, List.set_cons_zero, List.set_cons_succ]
              refine' take_ (i := 51) ?ho_51 ?more_51
              case ho_51 => simp only [List.getElem?_toArray, List.getElem?_cons_succ, List.getElem?_cons_zero]; rfl
              refine ⟨by kernel_rfl, by kernel_rfl, by kernel_rfl, fun _ _ _ _ h => h, ?v_51, Or.inl ⟨by rfl, ?hy_51⟩, by assumption, ?rest_51⟩
              case hy_51 => intro w hSw; (try dsimp only at hSw); (go_simp <;> rfl)
              simp only [Act.put, List.setIfInBounds_toArray, List.set_cons_zero, List.set_cons_succ]
              refine' take_ (i := 52) ?ho_52 ?more_52
              case ho_52 => simp only [List.getElem?_toArray, List.getElem?_cons_succ, List.getElem?_cons_zero]; rfl
              refine ⟨by kernel_rfl, by kernel_rfl, by kernel_rfl, fun _ _ _ _ h => h, ?v_52, Or.inl ⟨by rfl, ?hy_52⟩, by assumption, ?rest_52⟩
              case hy_52 => intro w hSw; (try dsimp only at hSw); (go_simp <;> rfl)
              simp only [Act.put, List.setIfInBounds_toArray, List.set_cons_zero, List.set_cons_succ]
              refine' take_ (i := 53) ?ho_53 ?more_53
              case ho_53 => simp only [List.getElem?_toArray, List.getElem?_cons_succ, List.getElem?_cons_zero]; rfl
              refine ⟨by kernel_rfl, by kernel_rfl, by kernel_rfl, fun _ _ _ _ h => h, ?v_53, Or.inl ⟨by rfl, ?hy_53⟩, by assumption, ?rest_53⟩
              case hy_53 => intro w hSw; (try dsimp only at hSw); (go_simp <;> rfl)
              simp only [Act.put, List.setIfInBounds_toArray, List.set_cons_zero, List.set_cons_succ]
              refine' take_ (i := 54) ?ho_54 ?more_54
              case ho_54 => simp only [List.getElem?_toArray, List.getElem?_cons_succ, List.getElem?_cons_zero]; rfl
              refine ⟨by kernel_rfl, by kernel_rfl, by kernel_rfl, fun _ _ _ _ h => h, ?v_54, Or.inl ⟨by rfl, ?hy_54⟩, by assumption, ?rest_54⟩
              case hy_54 => intro w hSw; (try dsimp only at hSw); (go_simp <;> rfl)
              simp only [Act.put, List.setIfInBounds_toArray, List.set_cons_zero, List.set_cons_succ]
              refine wpAnyH_done (by kernel_rfl) ?_ _
              go_wp2
              go_roundg (popS (bI lt) zI h).length
              case measure => have := HPL.out; have := HP.out; have := HI2.out; omega
              case rel => exact ⟨i + 1, popS (bI lt) zI h, by first | rfl | (rw [q1]; rfl), ⟨by have := HPL.out; have := HP.out; have := HI2.out; omega⟩, ⟨HP1.out.2.2⟩, ⟨HQ.out.below Dw32.out⟩, ⟨Kd.R_below HO.out Dw32.out⟩, ⟨HB.out.trans (Dw32.out.mono HBS.out)⟩, ⟨Nat.le_trans HS.out Dw32.out.size⟩, ⟨Nat.le_trans HBS.out Dw32.out.size⟩⟩
            | false =>
              have LYX := Aside0.mk hlt
              have k8 : decide (x.f1 ≤ y.f1) = false := decide_eq_false (by have := hrk.2 hlt; omega)
              have k9 := eq_false (show ¬ (x.f1 ≤ y.f1) by have := hrk.2 hlt; omega)
              clear hrk hlt
              refine wp_region_held_drew (S := (fun w' => w'.cell? ⟨g12, 0, none⟩ = some (.int .i64 x.f0) ∧ w'.cell? ⟨g12, 1, none⟩ = some (.int .i64 x.f1) ∧ w'.cell? (pa.add (i * 2)) = some (.int .i64 x.f0) ∧ w'.cell? ⟨(pa.add (i * 2)).block, (pa.add (i * 2)).off + 1, none⟩ = some (.int .i64 x.f1) ∧ w'.cell? (pa.add (j * 2)) = some (.int .i64 y.f0) ∧ w'.cell? ⟨(pa.add (j * 2)).block, (pa.add (j * 2)).off + 1, none⟩ = some (.int .i64 y.f1))) (by kernel_rfl) ?_ (fun hHeld => ?_)
              · exact SIX.out.2
              refine' take_ (i := 0) ?ho_100 ?more_100
              case ho_100 => simp only [List.getElem?_toArray, List.getElem?_cons_succ, List.getElem?_cons_zero]; rfl
              refine ⟨by kernel_rfl, by kernel_rfl, by kernel_rfl, fun _ _ _ _ h => h, ?v_100, Or.inl ⟨by rfl, ?hy_100⟩, by assumption, ?rest_100⟩
              case hy_100 => intro w hSw; (try dsimp only at hSw); (go_simp <;> rfl)
              simp only [Act.put, List.setIfInBounds_toArray, List.set_cons_zero, List.set_cons_succ]
              refine' take_ (i := 1) ?ho_101 ?more_101
              case ho_101 => simp only [List.getElem?_toArray, List.getElem?_cons_succ, List.getElem?_cons_zero]; rfl
              refine ⟨by kernel_rfl, by kernel_rfl, by kernel_rfl, fun _ _ _ _ h => h, ?v_101, Or.inl ⟨by rfl, ?hy_101⟩, by assumption, ?rest_101⟩
              case hy_101 => intro w hSw; (try dsimp only at hSw); (go_simp <;> rfl)
              simp only [Act.put, List.setIfInBounds_toArray, List.set_cons_zero, List.set_cons_succ]
              refine' take_ (i := 2) ?ho_102 ?more_102
              case ho_102 => simp only [List.getElem?_toArray, List.getElem?_cons_succ, List.getElem?_cons_zero]; rfl
              refine ⟨by kernel_rfl, by kernel_rfl, by kernel_rfl, fun _ _ _ _ h => h, ?v_102, Or.inl ⟨by rfl, ?hy_102⟩, by assumption, ?rest_102⟩
              case hy_102 => intro w hSw; (try dsimp only at hSw); (go_simp <;> rfl)
              simp only [Act.put, List.setIfInBounds_toArray, List.set_cons_zero, List.set_cons_succ]
              refine' take_ (i := 3) ?ho_103 ?more_103
              case ho_103 => simp only [List.getElem?_toArray, List.getElem?_cons_succ, List.getElem?_cons_zero]; rfl
              refine ⟨by kernel_rfl, by kernel_rfl, by kernel_rfl, fun _ _ _ _ h => h, ?v_103, Or.inl ⟨by rfl, ?hy_103⟩, by assumption, ?rest_103⟩
              case hy_103 => intro w hSw; (try dsimp only at hSw); (go_simp <;> rfl)
              simp only [Act.put, List.setIfInBounds_toArray, List.set_cons_zero, List.set_cons_succ]
              refine' take_ (i := 4) ?ho_104 ?more_104
              case ho_104 => simp only [List.getElem?_toArray, List.getElem?_cons_succ, List.getElem?_cons_zero]; rfl
              refine ⟨by kernel_rfl, by kernel_rfl, by kernel_rfl, fun _ _ _ _ h => h, ?v_104, Or.inl ⟨by rfl, ?hy_104⟩, by assumption, ?rest_104⟩
              case hy_104 => intro w hSw; (try dsimp only at hSw); (go_simp <;> rfl)
              simp only [Act.put, List.setIfInBounds_toArray, List.set_cons_zero, List.set_cons_succ]
              refine' take_ (i := 5) ?ho_105 ?more_105
              case ho_105 => simp only [List.getElem?_toArray, List.getElem?_cons_succ, List.getElem?_cons_zero]; rfl
              refine ⟨by kernel_rfl, by kernel_rfl, by kernel_rfl, fun _ _ _ _ h => h, ?v_105, Or.inl ⟨by rfl, ?hy_105⟩, by assumption, ?rest_105⟩
              case hy_105 => intro w hSw; (try dsimp only at hSw); (go_simp <;> rfl)
              simp only [Act.put, List.setIfInBounds_toArray, List.set_cons_zero, List.set_cons_succ]
              refine' take_ (i := 6) ?ho_106 ?more_106
              case ho_106 => simp only [List.getElem?_toArray, List.getElem?_cons_succ, List.getElem?_cons_zero]; rfl
              refine ⟨by kernel_rfl, by kernel_rfl, by kernel_rfl, fun _ _ _ _ h => h, ?v_106, Or.inl ⟨by rfl, ?hy_106⟩, by assumption, ?rest_106⟩
              case hy_106 => intro w hSw; (try dsimp only at hSw); (go_simp <;> rfl)
              simp only [Act.put, List.setIfInBounds_toArray, List.set_cons_zero, List.set_cons_succ]
              refine' take_ (i := 7) ?ho_107 ?more_107
              case ho_107 => simp only [List.getElem?_toArray, List.getElem?_cons_succ, List.getElem?_cons_zero]; rfl
              refine ⟨by kernel_rfl, by kernel_rfl, by kernel_rfl, fun _ _ _ _ h => h, ?v_107, Or.inl ⟨by rfl, ?hy_107⟩, by assumption, ?rest_107⟩
              case hy_107 => intro w hSw; (try dsimp only at hSw); (go_simp <;> rfl)
              simp only [Act.put, List.setIfInBounds_toArray, List.set_cons_zero, List.set_cons_succ]
              refine' take_ (i := 8) ?ho_108 ?more_108
              case ho_108 => simp only [List.getElem?_toArray, List.getElem?_cons_succ, List.getElem?_cons_zero]; rfl
              refine ⟨by kernel_rfl, by kernel_rfl, by kernel_rfl, fun _ _ _ _ h => h, ?v_108, Or.inl ⟨by rfl, ?hy_108⟩, by assumption, ?rest_108⟩
              case hy_108 => intro w hSw; (try dsimp only at hSw); (go_simp <;> rfl)
              simp only [Act.put, List.setIfInBounds_toArray, List.set_cons_zero, List.set_cons_succ]
              refine' take_ (i := 9) ?ho_109 ?more_109
              case ho_109 => simp only [List.getElem?_toArray, List.getElem?_cons_succ, List.getElem?_cons_zero]; rfl
              refine ⟨by kernel_rfl, by kernel_rfl, by kernel_rfl, fun _ _ _ _ h => h, ?v_109, Or.inl ⟨by rfl, ?hy_109⟩, by assumption, ?rest_109⟩
              case hy_109 => intro w hSw; (try dsimp only at hSw); (go_simp <;> rfl)
              simp only [Act.put, List.setIfInBounds_toArray, List.set_cons_zero, List.set_cons_succ]
              refine' take_ (i := 10) ?ho_110 ?more_110
              case ho_110 => simp only [List.getElem?_toArray, List.getElem?_cons_succ, List.getElem?_cons_zero]; rfl
              refine ⟨by kernel_rfl, by kernel_rfl, by kernel_rfl, fun _ _ _ _ h => h, ?v_110, Or.inl ⟨by rfl, ?hy_110⟩, by assumption, ?rest_110⟩
              case hy_110 => intro w hSw; (try dsimp only at hSw); (go_simp <;> rfl)
              simp only [Act.put, List.setIfInBounds_toArray, List.set_cons_zero, List.set_cons_succ]
              refine' take_ (i := 11) ?ho_111 ?more_111
              case ho_111 => simp only [List.getElem?_toArray, List.getElem?_cons_succ, List.getElem?_cons_zero]; rfl
              refine ⟨by kernel_rfl, by kernel_rfl, by kernel_rfl, fun _ _ _ _ h => h, ?v_111, Or.inl ⟨by rfl, ?hy_111⟩, by assumption, ?rest_111⟩
              case hy_111 => intro w hSw; (try dsimp only at hSw); (go_simp <;> rfl)
              simp only [Act.put, List.setIfInBounds_toArray, List.set_cons_zero, List.set_cons_succ]
              refine' take_ (i := 12) ?ho_112 ?more_112
              case ho_112 => simp only [List.getElem?_toArray, List.getElem?_cons_succ, List.getElem?_cons_zero]; rfl
              refine ⟨by kernel_rfl, by kernel_rfl, by kernel_rfl, fun _ _ _ _ h => h, ?v_112, Or.inl ⟨by rfl, ?hy_112⟩, by assumption, ?rest_112⟩
              case hy_112 => intro w hSw; (try dsimp only at hSw); (go_simp <;> rfl)
              simp only [Act.put, List.setIfInBounds_toArray, List.set_cons_zero, List.set_cons_succ]
              refine' take_ (i := 13) ?ho_113 ?more_113
              case ho_113 => simp only [List.getElem?_toArray, List.getElem?_cons_succ, List.getElem?_cons_zero]; rfl
              refine ⟨by kernel_rfl, by kernel_rfl, by kernel_rfl, fun _ _ _ _ h => h, ?v_113, Or.inl ⟨by rfl, ?hy_113⟩, by assumption, ?rest_113⟩
              case hy_113 => intro w hSw; (try dsimp only at hSw); (go_simp <;> rfl)
              simp only [Act.put, List.setIfInBounds_toArray, List.set_cons_zero, List.set_cons_succ]
              refine' take_ (i := 14) ?ho_114 ?more_114
              case ho_114 => simp only [List.getElem?_toArray, List.getElem?_cons_succ, List.getElem?_cons_zero]; rfl
              refine ⟨by kernel_rfl, by kernel_rfl, by kernel_rfl, fun _ _ _ _ h => h, ?v_114, Or.inl ⟨by rfl, ?hy_114⟩, by assumption, ?rest_114⟩
              case hy_114 => intro w hSw; (try dsimp only at hSw); (go_simp <;> rfl)
              simp only [Act.put, List.setIfInBounds_toArray, List.set_cons_zero, List.set_cons_succ]
              refine' take_ (i := 15) ?ho_115 ?more_115
              case ho_115 => simp only [List.getElem?_toArray, List.getElem?_cons_succ, List.getElem?_cons_zero]; rfl
              refine ⟨by kernel_rfl, by kernel_rfl, by kernel_rfl, fun _ _ _ _ h => h, ?v_115, Or.inl ⟨by rfl, ?hy_115⟩, by assumption, ?rest_115⟩
              case hy_115 => intro w hSw; (try dsimp only at hSw); (go_simp <;> rfl)
              simp only [Act.put, List.setIfInBounds_toArray, List.set_cons_zero, List.set_cons_succ]
              refine' take_ (i := 16) ?ho_116 ?more_116
              case ho_116 => simp only [List.getElem?_toArray, List.getElem?_cons_succ, List.getElem?_cons_zero]; rfl
              refine ⟨by kernel_rfl, by kernel_rfl, by kernel_rfl, fun _ _ _ _ h => h, ?v_116, Or.inl ⟨by rfl, ?hy_116⟩, by assumption, ?rest_116⟩
              case hy_116 => intro w hSw; (try dsimp only at hSw); (go_simp <;> rfl)
              simp only [Act.put, List.setIfInBounds_toArray, List.set_cons_zero, List.set_cons_succ]
              refine' take_ (i := 17) ?ho_117 ?more_117
              case ho_117 => simp only [List.getElem?_toArray, List.getElem?_cons_succ, List.getElem?_cons_zero]; rfl
              refine ⟨by kernel_rfl, by kernel_rfl, by kernel_rfl, fun _ _ _ _ h => h, ?v_117, Or.inl ⟨by rfl, ?hy_117⟩, by assumption, ?rest_117⟩
              case hy_117 => intro w hSw; (try dsimp only at hSw); (go_simp <;> rfl)
              simp only [Act.put, List.setIfInBounds_toArray, List.set_cons_zero, List.set_cons_succ]
              refine' take_ (i := 18) ?ho_118 ?more_118
              case ho_118 => simp only [List.getElem?_toArray, List.getElem?_cons_succ, List.getElem?_cons_zero]; rfl
              refine ⟨by kernel_rfl, by kernel_rfl, by kernel_rfl, fun _ _ _ _ h => h, ?v_118, Or.inl ⟨by rfl, ?hy_118⟩, by assumption, ?rest_118⟩
              case hy_118 => intro w hSw; (try dsimp only at hSw); (go_simp <;> rfl)
              simp only [Act.put, List.setIfInBounds_toArray, List.set_cons_zero, List.set_cons_succ]
              refine' take_ (i := 19) ?ho_119 ?more_119
              case ho_119 => simp only [List.getElem?_toArray, List.getElem?_cons_succ, List.getElem?_cons_zero]; rfl
              refine ⟨by kernel_rfl, by kernel_rfl, by kernel_rfl, fun _ _ _ _ h => h, ?v_119, Or.inl ⟨by rfl, ?hy_119⟩, by assumption, ?rest_119⟩
              case hy_119 => intro w hSw; (try dsimp only at hSw); (go_simp <;> rfl)
              simp only [Act.put, List.setIfInBounds_toArray, List.set_cons_zero, List.set_cons_succ]
              refine' take_ (i := 20) ?ho_120 ?more_120
              case ho_120 => simp only [List.getElem?_toArray, List.getElem?_cons_succ, List.getElem?_cons_zero]; rfl
              refine ⟨by kernel_rfl, by kernel_rfl, by kernel_rfl, fun _ _ _ _ h => h, ?v_120, Or.inl ⟨by rfl, ?hy_120⟩, by assumption, ?rest_120⟩
              case hy_120 => intro w hSw; (try dsimp only at hSw); (go_simp <;> rfl)
              simp only [Act.put, List.setIfInBounds_toArray, List.set_cons_zero, List.set_cons_succ]
              refine' take_ (i := 21) ?ho_121 ?more_121
              case ho_121 => simp only [List.getElem?_toArray, List.getElem?_cons_succ, List.getElem?_cons_zero]; rfl
              refine ⟨by kernel_rfl, by kernel_rfl, by kernel_rfl, fun _ _ _ _ h => h, ?v_121, Or.inl ⟨by rfl, ?hy_121⟩, by assumption, ?rest_121⟩
              case hy_121 => intro w hSw; (try dsimp only at hSw); (go_simp <;> rfl)
              simp only [Act.put, List.setIfInBounds_toArray, List.set_cons_zero, List.set_cons_succ]
              refine' take_ (i := 22) ?ho_122 ?more_122
              case ho_122 => simp only [List.getElem?_toArray, List.getElem?_cons_succ, List.getElem?_cons_zero]; rfl
              refine ⟨by kernel_rfl, by kernel_rfl, by kernel_rfl, fun _ _ _ _ h => h, ?v_122, Or.inl ⟨by rfl, ?hy_122⟩, by assumption, ?rest_122⟩
              case hy_122 => intro w hSw; (try dsimp only at hSw); (go_simp <;> rfl)
              simp only [Act.put, List.setIfInBounds_toArray, List.set_cons_zero, List.set_cons_succ]
              refine' take_ (i := 23) ?ho_123 ?more_123
              case ho_123 => simp only [List.getElem?_toArray, List.getElem?_cons_succ, List.getElem?_cons_zero]; rfl
              refine ⟨by kernel_rfl, by kernel_rfl, by kernel_rfl, fun _ _ _ _ h => h, ?v_123, Or.inl ⟨by rfl, ?hy_123⟩, by assumption, ?rest_123⟩
              case hy_123 => intro w hSw; (try dsimp only at hSw); (go_simp <;> rfl)
              simp only [Act.put, List.setIfInBounds_toArray, List.set_cons_zero, List.set_cons_succ]
              refine wpAnyH_ready (rs := [24]) (by kernel_rfl) (by simp) ?_
              refine' AllReadyH.cons ?ho_124 (fun K hK => ?rest_124) AllReadyH.nil
              case ho_124 => simp only [List.getElem?_toArray, List.getElem?_cons_succ, List.getElem?_cons_zero]; rfl
              go_simp
              refine (HLS2.out x y _).mono ?_
              rw [LXY.out]
              rintro e w31 ⟨rfl, hb⟩
              have Dw31 := Aside0.mk (below_step DD0.out hb)
              clear hb
              go_simp
              refine hK.out _ _ (Six.below SIX.out Dw31.out).2 (fun hHeld => ?_)
              clear hK K
              try simp only [Act.put, List.setIfInBounds_toArray, List.set_cons_zero, List.set_cons_succ]
              refine' take_ (i := 25) ?ho_125 ?more_125
              case ho_125 => simp only [List.getElem?_toArray, List.getElem?_cons_succ, List.getElem?_cons_zero]; rfl
              refine ⟨by kernel_rfl, by kernel_rfl, by kernel_rfl, fun _ _ _ _ h => h, ?v_125, Or.inl ⟨by rfl, ?hy_125⟩, by assumption, ?rest_125⟩
              case hy_125 => intro w hSw; (try dsimp only at hSw); (go_simp <;> rfl)
              simp only [Act.put, List.setIfInBounds_toArray, List.set_cons_zero, List.set_cons_succ]
              refine' take_ (i := 26) ?ho_126 ?more_126
              case ho_126 => simp only [List.getElem?_toArray, List.getElem?_cons_succ, List.getElem?_cons_zero]; rfl
              refine ⟨by kernel_rfl, by kernel_rfl, by kernel_rfl, fun _ _ _ _ h => h, ?v_126, Or.inl ⟨by rfl, ?hy_126⟩, by assumption, ?rest_126⟩
              case hy_126 => intro w hSw; (try dsimp only at hSw); (go_simp <;> rfl)
              simp only [Act.put, List.setIfInBounds_toArray, List.set_cons_zero, List.set_cons_succ]
              refine' take_ (i := 27) ?ho_127 ?more_127
              case ho_127 => simp only [List.getElem?_toArray, List.getElem?_cons_succ, List.getElem?_cons_zero]; rfl
              refine ⟨by kernel_rfl, by kernel_rfl, by kernel_rfl, fun _ _ _ _ h => h, ?v_127, Or.inl ⟨by rfl, ?hy_127⟩, by assumption, ?rest_127⟩
              case hy_127 => intro w hSw; (try dsimp only at hSw); (go_simp <;> rfl)
              simp only [Act.put, List.setIfInBounds_toArray, List.set_cons_zero, List.set_cons_succ]
              refine' take_ (i := 28) ?ho_128 ?more_128
              case ho_128 => simp only [List.getElem?_toArray, List.getElem?_cons_succ, List.getElem?_cons_zero]; rfl
              refine ⟨by kernel_rfl, by kernel_rfl, by kernel_rfl, fun _ _ _ _ h => h, ?v_128, Or.inl ⟨by rfl, ?hy_128⟩, by assumption, ?rest_128⟩
              case hy_128 => intro w hSw; (try dsimp only at hSw); (go_simp <;> rfl)
              simp only [Act.put, List.setIfInBounds_toArray, List.set_cons_zero, List.set_cons_succ]
              refine' take_ (i := 29) ?ho_129 ?more_129
              case ho_129 => simp only [List.getElem?_toArray, List.getElem?_cons_succ, List.getElem?_cons_zero]; rfl
              refine ⟨by kernel_rfl, by kernel_rfl, by kernel_rfl, fun _ _ _ _ h => h, ?v_129, Or.inl ⟨by rfl, ?hy_129⟩, by assumption, ?rest_129⟩
              case hy_129 => intro w hSw; (try dsimp only at hSw); (go_simp <;> rfl)
              simp only [Act.put, List.setIfInBounds_toArray, List.set_cons_zero, List.set_cons_succ]
              refine' take_ (i := 30) ?ho_130 ?more_130
              case ho_130 => simp only [List.getElem?_toArray, List.getElem?_cons_succ, List.getElem?_cons_zero]; rfl
              refine ⟨by kernel_rfl, by kernel_rfl, by kernel_rfl, fun _ _ _ _ h => h, ?v_130, Or.inl ⟨by rfl, ?hy_130⟩, by assumption, ?rest_130⟩
              case hy_130 => intro w hSw; (try dsimp only at hSw); (go_simp <;> rfl)
              simp only [Act.put, List.setIfInBounds_toArray, List.set_cons_zero, List.set_cons_succ]
              refine' take_ (i := 31) ?ho_131 ?more_131
              case ho_131 => simp only [List.getElem?_toArray, List.getElem?_cons_succ, List.getElem?_cons_zero]; rfl
              refine ⟨by kernel_rfl, by kernel_rfl, by kernel_rfl, fun _ _ _ _ h => h, ?v_131, Or.inl ⟨by rfl, ?hy_131⟩, by assumption, ?rest_131⟩
              case hy_131 => intro w hSw; (try dsimp only at hSw); (go_simp <;> rfl)
              simp only [Act.put, List.setIfInBounds_toArray, List.set_cons_zero, List.set_cons_succ]
              refine' take_ (i := 32) ?ho_132 ?more_132
              case ho_132 => simp only [List.getElem?_toArray, List.getElem?_cons_succ, List.getElem?_cons_zero]; rfl
              refine ⟨by kernel_rfl, by kernel_rfl, by kernel_rfl, fun _ _ _ _ h => h, ?v_132, Or.inl ⟨by rfl, ?hy_132⟩, by assumption, ?rest_132⟩
              case hy_132 => intro w hSw; (try dsimp only at hSw); (go_simp <;> rfl)
              simp only [Act.put, List.setIfInBounds_toArray, List.set_cons_zero, List.set_cons_succ]
              refine' take_ (i := 33) ?ho_133 ?more_133
              case ho_133 => simp only [List.getElem?_toArray, List.getElem?_cons_succ, List.getElem?_cons_zero]; rfl
              refine ⟨by kernel_rfl, by kernel_rfl, by kernel_rfl, fun _ _ _ _ h => h, ?v_133, Or.inl ⟨by rfl, ?hy_133⟩, by assumption, ?rest_133⟩
              case hy_133 => intro w hSw; (try dsimp only at hSw); (go_simp <;> rfl)
              simp only [Act.put, List.setIfInBounds_toArray, List.set_cons_zero, List.set_cons_succ]
              refine' take_ (i := 34) ?ho_134 ?more_134
              case ho_134 => simp only [List.getElem?_toArray, List.getElem?_cons_succ, List.getElem?_cons_zero]; rfl
              refine ⟨by kernel_rfl, by kernel_rfl, by kernel_rfl, fun _ _ _ _ h => h, ?v_134, Or.inl ⟨by rfl, ?hy_134⟩, by assumption, ?rest_134⟩
              case hy_134 => intro w hSw; (try dsimp only at hSw); (go_simp <;> rfl)
              simp only [Act.put, List.setIfInBounds_toArray, List.set_cons_zero, List.set_cons_succ]
              refine' take_ (i := 35) ?ho_135 ?more_135
              case ho_135 => simp only [List.getElem?_toArray, List.getElem?_cons_succ, List.getElem?_cons_zero]; rfl
              refine ⟨by kernel_rfl, by kernel_rfl, by kernel_rfl, fun _ _ _ _ h => h, ?v_135, Or.inl ⟨by rfl, ?hy_135⟩, by assumption, ?rest_135⟩
              case hy_135 => intro w hSw; (try dsimp only at hSw); (go_simp <;> rfl)
              simp only [Act.put, List.setIfInBounds_toArray, List.set_cons_zero, List.set_cons_succ]
              refine wpAnyH_ready (rs := [36]) (by kernel_rfl) (by simp) ?_
              refine' AllReadyH.cons ?ho_136 (fun K hK => ?rest_136) AllReadyH.nil
              case ho_136 => simp only [List.getElem?_toArray, List.getElem?_cons_succ, List.getElem?_cons_zero]; rfl
              go_simp
              refine (HLS2.out y x _).mono ?_
              rw [LYX.out]
              rintro e w32 ⟨rfl, hb⟩
              have Dw32 := Aside0.mk (below_step Dw31.out hb)
              clear hb
              go_simp
              refine hK.out _ _ (Six.below SIX.out Dw32.out).2 (fun hHeld => ?_)
              clear hK K
              try simp only [Act.put, List.setIfInBounds_toArray, List.set_cons_zero, List.set_cons_succ]
              refine' take_ (i := 37) ?ho_137 ?more_137
              case ho_137 => simp only [List.getElem?_toArray, List.getElem?_cons_succ, List.getElem?_cons_zero]; rfl
              refine ⟨by kernel_rfl, by kernel_rfl, by kernel_rfl, fun _ _ _ _ h => h, ?v_137, Or.inl ⟨by rfl, ?hy_137⟩, by assumption, ?rest_137⟩
              case hy_137 => intro w hSw; (try dsimp only at hSw); (go_simp <;> rfl)
              simp only [Act.put, List.setIfInBounds_toArray, List.set_cons_zero, List.set_cons_succ]
              refine' take_ (i := 38) ?ho_138 ?more_138
              case ho_138 => simp only [List.getElem?_toArray, List.getElem?_cons_succ, List.getElem?_cons_zero]; rfl
              refine ⟨by kernel_rfl, by kernel_rfl, by kernel_rfl, fun _ _ _ _ h => h, ?v_138, Or.inl ⟨by rfl, ?hy_138⟩, by assumption, ?rest_138⟩
              case hy_138 => intro w hSw; (try dsimp only at hSw); (go_simp <;> rfl)
              simp only [Act.put, List.setIfInBounds_toArray, List.set_cons_zero, List.set_cons_succ]
              refine' take_ (i := 39) ?ho_139 ?more_139
              case ho_139 => simp only [List.getElem?_toArray, List.getElem?_cons_succ, List.getElem?_cons_zero]; rfl
              refine ⟨by kernel_rfl, by kernel_rfl, by kernel_rfl, fun _ _ _ _ h => h, ?v_139, Or.inl ⟨by rfl, ?hy_139⟩, by assumption, ?rest_139⟩
              case hy_139 => intro w hSw; (try dsimp only at hSw); (go_simp <;> rfl)
              simp only [Act.put, List.setIfInBounds_toArray, List.set_cons_zero, List.set_cons_succ]
              refine' take_ (i := 40) ?ho_140 ?more_140
              case ho_140 => simp only [List.getElem?_toArray, List.getElem?_cons_succ, List.getElem?_cons_zero]; rfl
              refine ⟨by kernel_rfl, by kernel_rfl, by kernel_rfl, fun _ _ _ _ h => h, ?v_140, Or.inl ⟨by rfl, ?hy_140⟩, by assumption, ?rest_140⟩
              case hy_140 => intro w hSw; (try dsimp only at hSw); (go_simp <;> rfl)
              simp only [Act.put, List.setIfInBounds_toArray, List.set_cons_zero, List.set_cons_succ]
              refine' take_ (i := 41) ?ho_141 ?more_141
              case ho_141 => simp only [List.getElem?_toArray, List.getElem?_cons_succ, List.getElem?_cons_zero]; rfl
              refine ⟨by kernel_rfl, by kernel_rfl, by kernel_rfl, fun _ _ _ _ h => h, ?v_141, Or.inl ⟨by rfl, ?hy_141⟩, by assumption, ?rest_141⟩
              case hy_141 => intro w hSw; (try dsimp only at hSw); (go_simp <;> rfl)
              simp only [Act.put, List.setIfInBounds_toArray, List.set_cons_zero, List.set_cons_succ]
              refine' take_ (i := 42) ?ho_142 ?more_142
              case ho_142 => simp only [List.getElem?_toArray, List.getElem?_cons_succ, List.getElem?_cons_zero]; rfl
              refine ⟨by kernel_rfl, by kernel_rfl, by kernel_rfl, fun _ _ _ _ h => h, ?v_142, Or.inl ⟨by rfl, ?hy_142⟩, by assumption, ?rest_142⟩
              case hy_142 => intro w hSw; (try dsimp only at hSw); (go_simp <;> rfl)
              simp only [Act.put, List.setIfInBounds_toArray, List.set_cons_zero, List.set_cons_succ]
              refine' take_ (i := 43) ?ho_143 ?more_143
              case ho_143 => simp only [List.getElem?_toArray, List.getElem?_cons_succ, List.getElem?_cons_zero]; rfl
              refine ⟨by kernel_rfl, by kernel_rfl, by kernel_rfl, fun _ _ _ _ h => h, ?v_143, Or.inl ⟨by rfl, ?hy_143⟩, by assumption, ?rest_143⟩
              case hy_143 => intro w hSw; (try dsimp only at hSw); (go_simp <;> rfl)
              simp only [Act.put, List.setIfInBounds_toArray, List.set_cons_zero, List.set_cons_succ]
              refine' take_ (i := 44) ?ho_144 ?more_144
              case ho_144 => simp only [List.getElem?_toArray, List.getElem?_cons_succ, List.getElem?_cons_zero]; rfl
              refine ⟨by kernel_rfl, by kernel_rfl, by kernel_rfl, fun _ _ _ _ h => h, ?v_144, Or.inl ⟨by rfl, ?hy_144⟩, by assumption, ?rest_144⟩
              case hy_144 => intro w hSw; (try dsimp only at hSw); (go_simp <;> rfl)
              simp only [Act.put, List.setIfInBounds_toArray, List.set_cons_zero, List.set_cons_succ]
              refine' take_ (i := 45) ?ho_145 ?more_145
              case ho_145 => simp only [List.getElem?_toArray, List.getElem?_cons_succ, List.getElem?_cons_zero]; rfl
              refine ⟨by kernel_rfl, by kernel_rfl, by kernel_rfl, fun _ _ _ _ h => h, ?v_145, Or.inl ⟨by rfl, ?hy_145⟩, by assumption, ?rest_145⟩
              case hy_145 => intro w hSw; (try dsimp only at hSw); (go_simp <;> rfl)
              simp only [Act.put, List.setIfInBounds_toArray, List.set_cons_zero, List.set_cons_succ]
              refine' take_ (i := 46) ?ho_146 ?more_146
              case ho_146 => simp only [List.getElem?_toArray, List.getElem?_cons_succ, List.getElem?_cons_zero]; rfl
              refine ⟨by kernel_rfl, by kernel_rfl, by kernel_rfl, fun _ _ _ _ h => h, ?v_146, Or.inl ⟨by rfl, ?hy_146⟩, by assumption, ?rest_146⟩
              case hy_146 => intro w hSw; (try dsimp only at hSw); (go_simp <;> rfl)
              simp only [Act.put, List.setIfInBounds_toArray, List.set_cons_zero, List.set_cons_succ]
              refine' take_ (i := 47) ?ho_147 ?more_147
              case ho_147 => simp only [List.getElem?_toArray, List.getElem?_cons_succ, List.getElem?_cons_zero]; rfl
              refine ⟨by kernel_rfl, by kernel_rfl, by kernel_rfl, fun _ _ _ _ h => h, ?v_147, Or.inl ⟨by rfl, ?hy_147⟩, by assumption, ?rest_147⟩
              case hy_147 => intro w hSw; (try dsimp only at hSw); (go_simp <;> rfl)
              simp only [Act.put, List.setIfInBounds_toArray, List.set_cons_zero, List.set_cons_succ]
              refine' take_ (i := 48) ?ho_148 ?more_148
              case ho_148 => simp only [List.getElem?_toArray, List.getElem?_cons_succ, List.getElem?_cons_zero]; rfl
              refine ⟨by kernel_rfl, by kernel_rfl, by kernel_rfl, fun _ _ _ _ h => h, ?v_148, Or.inl ⟨by rfl, ?hy_148⟩, by assumption, ?rest_148⟩
              case hy_148 => intro w hSw; (try dsimp only at hSw); (go_simp <;> rfl)
              simp only [Act.put, List.setIfInBounds_toArray, List.set_cons_zero, List.set_cons_succ]
              refine' take_ (i := 49) ?ho_149 ?more_149
              case ho_149 => simp only [List.getElem?_toArray, List.getElem?_cons_succ, List.getElem?_cons_zero]; rfl
              refine ⟨by kernel_rfl, by kernel_rfl, by kernel_rfl, fun _ _ _ _ h => h, ?v_149, Or.inl ⟨by rfl, ?hy_149⟩, by assumption, ?rest_149⟩
              case hy_149 => intro w hSw; (try dsimp only at hSw); (go_simp <;> rfl)
              simp only [Act.put, List.setIfInBounds_toArray, List.set_cons_zero, List.set_cons_succ]
              refine' take_ (i := 50) ?ho_150 ?more_150
              case ho_150 => simp only [List.getElem?_toArray, List.getElem?_cons_succ, List.getElem?_cons_zero]; rfl
              refine ⟨by kernel_rfl, by kernel_rfl, by kernel_rfl, fun _ _ _ _ h => h, ?v_150, Or.inl ⟨by rfl, ?hy_150⟩, by assumption, ?rest_150⟩
              case hy_150 => intro w hSw; (try dsimp only at hSw); (go_simp <;> rfl)
              simp only [Act.put, List.setIfInBounds_toArray, List.set_cons_zero, List.set_cons_succ]
              refine' take_ (i := 51) ?ho_151 ?more_151
              case ho_151 => simp only [List.getElem?_toArray, List.getElem?_cons_succ, List.getElem?_cons_zero]; rfl
              refine ⟨by kernel_rfl, by kernel_rfl, by kernel_rfl, fun _ _ _ _ h => h, ?v_151, Or.inl ⟨by rfl, ?hy_151⟩, by assumption, ?rest_151⟩
              case hy_151 => intro w hSw; (try dsimp only at hSw); (go_simp <;> rfl)
              simp only [Act.put, List.setIfInBounds_toArray, List.set_cons_zero, List.set_cons_succ]
              refine' take_ (i := 52) ?ho_152 ?more_152
              case ho_152 => simp only [List.getElem?_toArray, List.getElem?_cons_succ, List.getElem?_cons_zero]; rfl
              refine ⟨by kernel_rfl, by kernel_rfl, by kernel_rfl, fun _ _ _ _ h => h, ?v_152, Or.inl ⟨by rfl, ?hy_152⟩, by assumption, ?rest_152⟩
              case hy_152 => intro w hSw; (try dsimp only at hSw); (go_simp <;> rfl)
              simp only [Act.put, List.setIfInBounds_toArray, List.set_cons_zero, List.set_cons_succ]
              refine' take_ (i := 53) ?ho_153 ?more_153
              case ho_153 => simp only [List.getElem?_toArray, List.getElem?_cons_succ, List.getElem?_cons_zero]; rfl
              refine ⟨by kernel_rfl, by kernel_rfl, by kernel_rfl, fun _ _ _ _ h => h, ?v_153, Or.inl ⟨by rfl, ?hy_153⟩, by assumption, ?rest_153⟩
              case hy_153 => intro w hSw; (try dsimp only at hSw); (go_simp <;> rfl)
              simp only [Act.put, List.setIfInBounds_toArray, List.set_cons_zero, List.set_cons_succ]
              refine' take_ (i := 54) ?ho_154 ?more_154
              case ho_154 => simp only [List.getElem?_toArray, List.getElem?_cons_succ, List.getElem?_cons_zero]; rfl
              refine ⟨by kernel_rfl, by kernel_rfl, by kernel_rfl, fun _ _ _ _ h => h, ?v_154, Or.inl ⟨by rfl, ?hy_154⟩, by assumption, ?rest_154⟩
              case hy_154 => intro w hSw; (try dsimp only at hSw); (go_simp <;> rfl)
              simp only [Act.put, List.setIfInBounds_toArray, List.set_cons_zero, List.set_cons_succ]
              refine wpAnyH_done (by kernel_rfl) ?_ _
              go_wp2
              go_roundg (popS (bI lt) zI h).length
              case measure => have := HPL.out; have := HP.out; have := HI2.out; omega
              case rel => exact ⟨i + 1, popS (bI lt) zI h, by first | rfl | (rw [q1]; rfl), ⟨by have := HPL.out; have := HP.out; have := HI2.out; omega⟩, ⟨HP1.out.2.2⟩, ⟨HQ.out.below Dw32.out⟩, ⟨Kd.R_below HO.out Dw32.out⟩, ⟨HB.out.trans (Dw32.out.mono HBS.out)⟩, ⟨Nat.le_trans HS.out Dw32.out.size⟩, ⟨Nat.le_trans HBS.out Dw32.out.size⟩⟩
        · obtain rfl : h = [] := List.length_eq_zero_iff.1 (by omega)
          obtain rfl : i = l0.length := by have := HI2.out; simpa using this.1
          have p1 := eq_false (show ¬ (l0.length : Int) < num by rw [← HNUM.out]; omega)
          have p2 := eq_false (show ¬ (l0.length : Int) < (l0.length : Int) by omega)
          clear h0_
          go_wp2_with (first
            | (go_at_call 19; go_must (refine (len_calls B g _ K [] _ _ HQ.out).mono ?_; rintro e wl ⟨rfl, hw_⟩; obtain rfl := hw_.symm))
            | (go_at_call 10; go_must (refine (awake_calls _).mono ?_; rintro e w27 ⟨rfl, hb⟩; have nHB := Aside0.mk (HB.out.trans (hb.mono HBS.out)); clear HB hb; have HB := nHB; clear nHB)))
          go_ret
          exact ⟨rfl, HBW.out ▸ HB.out⟩
end Go.Proofs.Ytnpndjdkdcbjcaa.Pq
