/- The reference's Sort; Sort agrees with it. -/
import Derived.Test.YtnpndjdkdcbjcaaR2
namespace Go.Proofs.Ytnpndjdkdcbjcaa.Pq
open Go.RowKit Go.Proofs.Ytnpndjdkdcbjcaa.PX Go.Proofs.YtnpndjdkdcbjcaaW.PrintWords Go.Proofs.YtnpndjdkdcbjcaaW.PrintLast Go.Proofs.YtnpndjdkdcbjcaaW.PrintMore
set_option linter.unusedVariables false
set_option linter.unusedSimpArgs false
theorem heap27 : Kd.Heap k27 := Kd.heap_iso _ (Kd.heap_pair (Kd.heap_int _) (Kd.heap_int _))
theorem selS_step (lt : S27 → S27 → Bool) (n : Nat) (L : List S27) : selS lt z27 (n + 1) L = L.getD (firstI lt z27 L) z27 :: selS lt z27 n (L.eraseIdx (firstI lt z27 L)) := rfl
theorem sel_sort (lt : S27 → S27 → Bool) (hs : Swo lt) (l : List S27) : selS lt z27 l.length l = srt lt l.length l :=
  sel_srt (lt := lt) (v := (Prod.fst : S27 × Int → S27)) (no := Prod.snd) (mk := Prod.mk) (d := zI) (da := z27) hs (fun _ _ => rfl) (fun _ _ => rfl) l l.length (by omega)
set_option maxHeartbeats 2000000 in
set_option maxRecDepth 100000 in
theorem rsort_calls (mode : Int) (A0 : Option Addr) (c0 : Nat) (l0 : List S27) (w : World) (hr0 : k27.C w A0 l0.length l0) (hc0 : l0.length ≤ c0) (hn : l0.length ≤ 1000) :
    Calls Try.prog 22 #[.int .i64 mode, .slice A0 l0.length c0] w fun e w' => ∃ v, e = .returned v ∧ k27.R 27 w' w.heap.size (fun k => w.heap.size ≤ k) v (srt (ltM mode) l0.length l0) ∧ Below w.heap.size w w' := by
  have HN := Aside0.mk hn
  have HFF := Aside0.mk (Kd.C_F heap27 hr0)
  have HC := Aside0.mk hc0
  have HSR := Aside0.mk (sel_sort (ltM mode) (swo_ltM mode) l0)
  have HSW := Aside0.mk (swo_ltM mode)
  obtain ⟨lt, hlt⟩ : ∃ lt, ltM mode = lt := ⟨_, rfl⟩
  rw [hlt] at HSR HSW
  rw [hlt]
  have HLT := Aside0.mk hlt
  obtain ⟨B, hB⟩ : ∃ B, w.heap.size = B := ⟨_, rfl⟩
  have HBW := Aside0.mk hB
  rw [hB] at HFF
  have HB := Aside0.mk (Below.refl B w)
  rw [hB]
  clear hr0 hc0 hn hB hlt
  go_enter Try.func22, Try.ntmps22
  go_wp2_with (first | ((with_reducible refine gate_dst (N := 13) rfl ?_); go_must (refine box_event ?hg (N := 13) ?hd (cs := #[.int .i64 mode, .slice A0 l0.length c0]) (t := 33) ?hr ?_; (case hd => rfl); (case hg => rfl); (case hr => first | (go_simp; done) | (go_simp; rfl)); intro g hg w1 hbox hb; have HQ := Aside0.mk (show RQ w1 B g (fun k => k < w1.heap.size) mode l0 from ⟨⟨by rw [hg, HBW.out]; exact Nat.le_refl _, blk_lt hbox⟩, HN.out, A0, c0, hbox, HC.out, Kd.F_mono (Kd.F_below HFF.out hb) (fun k hk => ⟨fun e => by rw [hg, HBW.out] at e; omega, Nat.lt_of_lt_of_le hk (HBW.out ▸ hb.size)⟩)⟩); have nHB := Aside0.mk (HB.out.trans (hb.mono (Nat.le_of_eq HBW.out.symm))); have HBS := Aside0.mk (show B ≤ w1.heap.size from HBW.out ▸ hb.size); clear HB hbox hb hg; have HB := nHB; clear nHB)))
  go_loopg [6, 7, 8, 9] l0.length (fun kq v6 v7 v8 v9 wr => ∃ (i : Nat) (L acc : List S27) (Ao : Option Addr) (co : Nat) (FQ : Nat → Prop), v7 = .int .i64 (i : Int) ∧ v6 = .slice Ao acc.length co ∧ Aside0 (i + L.length = l0.length ∧ acc.length = i ∧ kq = L.length) ∧ Aside0 (acc ++ selS lt z27 L.length L = srt lt l0.length l0) ∧ Aside0 (RQ wr B g FQ mode L) ∧ Aside0 (∀ k, FQ k → k < wr.heap.size) ∧ Aside0 (k27.R 27 wr B (fun k => B ≤ k ∧ ¬ FQ k) (.slice Ao acc.length co) acc) ∧ Aside0 (Below B w wr) ∧ Aside0 (B ≤ wr.heap.size))
  case atStart => exact ⟨0, l0, [], none, 0, fun k => k < w1.heap.size, rfl, rfl, ⟨by simp⟩, ⟨by rw [List.nil_append]; exact HSR.out⟩, HQ, ⟨fun k hk => hk⟩, ⟨Kd.R_nil _ _ _ _ _⟩, HB, HBS⟩
  case round =>
    clear HQ HB HSR HBS
    obtain ⟨i, L, acc, Ao, co, FQ, rfl, rfl, HI, HSS, HQ, HFQ, HO, HB, HBS⟩ := hrel
    by_cases h0 : 0 < L.length
    · have HP := Aside0.mk h0
      obtain ⟨SZ, hSZ⟩ : ∃ SZ, wr.heap.size = SZ := ⟨_, rfl⟩
      have HSZ := Aside0.mk hSZ
      obtain ⟨x, hx⟩ : ∃ x, L.getD (firstI lt z27 L) z27 = x := ⟨_, rfl⟩
      have HX := Aside0.mk hx
      have HFL := Aside0.mk (firstI_lt lt HSW.out L h0)
      obtain ⟨L', hL'⟩ : ∃ L', L.eraseIdx (firstI lt z27 L) = L' := ⟨_, rfl⟩
      have HL' := Aside0.mk (show L'.length + 1 = L.length from by rw [← hL', List.length_eraseIdx_of_lt HFL.out]; omega)
      have HEL := Aside0.mk hL'
      have HS2 := Aside0.mk (show (acc ++ [x]) ++ selS lt z27 L'.length L' = srt lt l0.length l0 from by rw [← HSS.out, ← HL'.out, selS_step, hx, hL', List.append_assoc]; rfl)
      have p1 := eq_true (show (i : Int) < (l0.length : Int) by have := HI.out; omega)
      have p2 := eq_true (show i < l0.length by have := HI.out; omega)
      have q1 : wrap64 ((i : Int) + 1) = (i : Int) + 1 := by have := HI.out; have := HN.out; unfold wrap64; omega
      clear h0 hx hL' hSZ HFL
      go_wp2_with (first
        | (go_at_call 16; go_must (refine (rpop_calls B g (fun k => FQ k ∨ SZ ≤ k) mode L _ (HQ.out.narrow (fun k _ hk => Or.inl hk)) (fun k hk => Or.inr (HSZ.out ▸ hk)) HP.out).mono ?_; rw [HLT.out, HX.out, HEL.out]; rintro e w11 ⟨rfl, hq, hb, hk⟩; have nHQ := Aside0.mk (hq.narrow (F' := fun k => (FQ k ∨ SZ ≤ k) ∧ k < w11.heap.size) (fun k hk hf => ⟨hf, hk⟩)); have nHO := Aside0.mk (Kd.R_mono (Kd.R_bound (Kd.R_step (Kd.R_bound HO.out) (fun k hk_ hlt => hk.2 k hlt (fun hf => hf.elim (fun h => hk_.1.2 h) (fun h => absurd (HSZ.out ▸ hlt : k < SZ) (Nat.not_lt.2 h)))))) (fun k hk_ => (show B ≤ k ∧ ¬ ((FQ k ∨ SZ ≤ k) ∧ k < w11.heap.size) from ⟨hk_.1.1.1, fun h => h.1.elim (fun h => hk_.1.1.2 h) (fun h => absurd (HSZ.out ▸ hk_.1.2.2.1 : k < SZ) (Nat.not_lt.2 h))⟩))); have nHB := Aside0.mk (HB.out.trans hb); have nHBS := Aside0.mk (Nat.le_trans HBS.out hk.1.size); clear HQ HO HB HBS hq hb hk HSS HFQ HSZ; have HQ := nHQ; have HO := nHO; have HB := nHB; have HBS := nHBS; clear nHQ nHO nHB nHBS; obtain ⟨FP, hFP⟩ : ∃ FP, (fun k => (FQ k ∨ SZ ≤ k) ∧ k < w11.heap.size) = FP := ⟨_, rfl⟩; have HFP := Aside0.mk (show ∀ k, FP k → k < w11.heap.size from hFP ▸ fun k hk => hk.2); have nHO := Aside0.mk (show k27.R 27 w11 B (fun k => B ≤ k ∧ ¬ FP k) (.slice Ao acc.length co) acc from hFP ▸ HO.out); clear HO; have HO := nHO; clear nHO; rw [hFP] at HQ; clear hFP; have HS := Aside0.mk (Nat.le_refl w11.heap.size); have HBZ := HBS))
        | ((with_reducible refine gate_dst (N := 8) rfl ?_); go_must (refine box_event ?hg (N := 8) ?hd (cs := #[.int .i64 0, .int .i64 0]) (t := 27) ?hr ?_; (case hd => rfl); (case hg => rfl); (case hr => first | (go_simp; done) | (go_simp; rfl)); intro g8 hg w12 hbox hb; have nHO := Aside0.mk (Kd.R_below (Kd.R_elderB HO.out g8 (Nat.le_of_eq hg.symm)) hb); clear HO; have HO := nHO; clear nHO; have GE8 := Aside0.mk (show w11.heap.size ≤ g8 from by rw [hg]; exact HS.out); have BK8 := Aside0.mk hbox; have k0 : w12.cell? ⟨g8, 0, none⟩ = some (.int .i64 0) := (blk_cell hbox 0).trans rfl; have k1 : w12.cell? ⟨g8, 1, none⟩ = some (.int .i64 0) := (blk_cell hbox 1).trans rfl; have k2 := blk_frozen hbox 0; have k3 := blk_frozen hbox 1; have nHQ := Aside0.mk (HQ.out.below hb); have nHB := Aside0.mk (HB.out.trans (hb.mono HBS.out)); have nHBS := Aside0.mk (Nat.le_trans HBS.out hb.size); have nHS := Aside0.mk (Nat.le_trans HS.out hb.size); clear HQ; clear HB; clear HBS; clear HS; have HQ := nHQ; clear nHQ; have HB := nHB; clear nHB; have HBS := nHBS; clear nHBS; have HS := nHS; clear nHS; clear hbox hb hg))
        | ((with_reducible refine gate_store (t := 27) (p := 8) rfl ?_); go_must (refine store_event (t := 27) (p := 8) (v := ?vo_8) (w1 := ((w12.setCell ⟨g8, 0, none⟩ (.int .i64 x.f0)).setCell ⟨g8, 1, none⟩ (.int .i64 x.f1))) ?hg ?ho ?hn ?hr ?_; (case ho => rfl); (case hg => rfl); (case hn => rfl); (case hr => first | (go_simp; done) | (go_simp; rfl)); intro w13 hw; have nHO := Aside0.mk (show k27.R 27 w13 B (fun k => B ≤ k ∧ ¬ FP k) (.slice Ao acc.length co) acc from by rw [hw]; exact Kd.R_mono (Kd.R_step HO.out (fun k hk _ => (Below.heap_setCell _ ⟨g8, 1, none⟩ _ k (show k ≠ g8 from hk.2)).trans (Below.heap_setCell _ ⟨g8, 0, none⟩ _ k (show k ≠ g8 from hk.2)))) (fun k hk => hk.1)); clear HO; have HO := nHO; clear nHO; have nBK8 := Aside0.mk (show w13.heap[g8]? = some (.cells #[.int .i64 x.f0, .int .i64 x.f1] 27 (0, 0)) from (by rw [hw]; exact put_two BK8.out)); clear BK8; have BK8 := nBK8; clear nBK8; have hkp := (show ∀ k, k < w11.heap.size → w13.heap[k]? = w12.heap[k]? from by rw [hw]; exact fun k hf => (Below.heap_setCell _ ⟨g8, 1, none⟩ _ k (by have := GE8.out; show k ≠ g8; omega)).trans (Below.heap_setCell _ ⟨g8, 0, none⟩ _ k (by have := GE8.out; show k ≠ g8; omega))); have nHQ := Aside0.mk (HQ.out.keep (fun k _ hf => hkp k (HFP.out k hf))); have nHB := Aside0.mk (show Below B w w13 from (by rw [hw]; exact (HB.out.setCell (Nat.le_trans HBZ.out GE8.out) _).setCell (Nat.le_trans HBZ.out GE8.out) _)); have nHBS := Aside0.mk (show B ≤ w13.heap.size from (by rw [hw]; simpa using HBS.out)); have nHS := Aside0.mk (show w11.heap.size ≤ w13.heap.size from (by rw [hw]; simpa using HS.out)); clear HQ; clear HB; clear HBS; clear HS; have HQ := nHQ; clear nHQ; have HB := nHB; clear nHB; have HBS := nHBS; clear nHBS; have HS := nHS; clear nHS; clear hw hkp k0 k1 k2 k3; have f8 : w13.cell? ⟨g8, 0, none⟩ = some (.int .i64 x.f0) := (blk_cell BK8.out 0).trans rfl; have f8' : w13.cell? ⟨g8, 1, none⟩ = some (.int .i64 x.f1) := (blk_cell BK8.out 1).trans rfl))
        | ((with_reducible refine gate_builtin (b := .append) (xs := #[.tmp 25, .tmp 27]) rfl ?_); go_must (at_builtin; refine Kd.R_append k27 (w0 := w13) B rfl (.tmp 25) (.tmp 27) 31 27 (.agg #[.int .i64 0, .int .i64 0]) 16 rfl Try.underlying31 info27 rfl (by decide) (by decide) (.slice Ao acc.length co) acc x [.int .i64 x.f0, .int .i64 x.f1] (fun k => B ≤ k ∧ ¬ FP k) (fun _ => False) rfl rfl (k27_mkM _ _ _ _) (fun _ h => h.elim) (fun k hk => ⟨Nat.le_trans HBS.out hk, fun h => absurd (HFP.out k h) (by have := HS.out; omega)⟩) HO.out (Below.refl _ _) HBS.out ?aL ?_; (case aL => have := HI.out; have := HN.out; omega); intro v2 w15 hr2 hb2 hg2 hat2; have nHQ := Aside0.mk (HQ.out.keep (fun k hk hf => hg2.block k hk (fun e => (HO.out.1 k e.symm).2 hf))); have nHB := Aside0.mk (HB.out.trans hb2); have nHBS := Aside0.mk (Nat.le_trans HBS.out hb2.size); have nHS := Aside0.mk (Nat.le_trans HS.out hb2.size); have nHO := Aside0.mk hr2; clear HQ HB HBS HS HO hr2 hb2 hg2 hat2; have HQ := nHQ; have HB := nHB; have HBS := nHBS; have HS := nHS; have HO := nHO; clear nHQ nHB nHBS nHS nHO)))
      obtain ⟨Ao2, co2, rfl⟩ := Kd.R_slice HO.out
      go_roundg L'.length
      case measure => have := HL'.out; have := HI.out; omega
      case rel => exact ⟨i + 1, L', acc ++ [x], Ao2, co2, FP, by first | rfl | (rw [q1]; rfl), rfl, ⟨by have := HL'.out; have := HI.out; rw [List.length_append, List.length_singleton]; omega⟩, HS2, HQ, ⟨fun k hk => Nat.lt_of_lt_of_le (HFP.out k hk) HS.out⟩, HO, HB, HBS⟩
    · obtain rfl : L = [] := List.length_eq_zero_iff.1 (by omega)
      have hi : i = l0.length := by have := HI.out; simpa using this.1
      have HE := Aside0.mk (show acc = srt lt l0.length l0 from by have h_ := HSS.out; simpa [selS] using h_)
      have p1 := eq_false (show ¬ (i : Int) < (l0.length : Int) by omega)
      have p2 := eq_false (show ¬ i < l0.length by omega)
      clear h0 hi
      go_wp2
      go_ret
      exact ⟨_, rfl, HE.out ▸ Kd.R_mono HO.out (fun k hk => hk.1), HB.out⟩
set_option maxHeartbeats 2000000 in
set_option maxRecDepth 100000 in
theorem Sorts_calls (mode : Int) (A0 : Option Addr) (c0 : Nat) (l0 : List S27) (w : World) (hr0 : k27.C w A0 l0.length l0) (hc0 : l0.length ≤ c0) :
    Calls Try.prog 5 #[.int .i64 mode, .slice A0 l0.length c0] w fun e w' => e = .returned (.bool true) ∧ Below w.heap.size w w' := by
  have HR := Aside0.mk hr0
  have HC := Aside0.mk hc0
  clear hr0 hc0
  have HB := Aside0.mk (Below.refl w.heap.size w)
  by_cases hbig : 150 < l0.length
  · have d1 : decide ((150 : Int) < (l0.length : Int)) = true := decide_eq_true (by omega)
    have d2 := eq_true hbig
    go_enter Try.func5, Try.ntmps5
    go_wp2_with (first | (go_at_call 10; go_must (refine (awake_calls _).mono ?_; rintro e w1 ⟨rfl, hb⟩; have nHB := Aside0.mk (below_step HB.out hb); clear HB hb; have HB := nHB; clear nHB)))
    go_ret
    exact ⟨rfl, HB.out⟩
  have HN := Aside0.mk (show l0.length ≤ 150 by omega)
  have d1 : decide ((150 : Int) < (l0.length : Int)) = false := decide_eq_false (by omega)
  have d2 := eq_false hbig
  clear hbig
  go_enter Try.func5, Try.ntmps5
  go_wp2_with (first
    | (go_at_call 12; go_must (refine (order_calls mode _).mono ?_; rintro e w1 ⟨rfl, hw_⟩; obtain rfl := hw_.symm))
    | (go_at_call 21; go_must (refine (sort_calls (KM mode) (ltM mode) (lessM mode) l0.length A0 c0 l0 _ (Kd.C_below HR.out HB.out) HC.out (by have := HN.out; omega) (by omega)).mono ?_; rintro e w2 ⟨v9, rfl, hr, hb⟩; have HT := Aside0.mk hr; have nHB := Aside0.mk (below_step HB.out hb); clear HB hr hb; have HB := nHB; clear nHB))
    | (go_at_call 22; go_must (refine (rsort_calls mode A0 c0 l0 _ (Kd.C_below HR.out HB.out) HC.out (by have := HN.out; omega)).mono ?_; rintro e w3 ⟨v8, rfl, hr, hb⟩; have HU := Aside0.mk hr; have nHT := Aside0.mk (Kd.R_below HT.out hb); have nHB := Aside0.mk (below_step HB.out hb); clear HB HT hr hb; have HB := nHB; have HT := nHT; clear nHB nHT))
    | (go_at_call 20; go_must (refine (Same_calls _ _ (srt (ltM mode) l0.length l0) (srt (ltM mode) l0.length l0) _ (Kd.R_reads HT.out) (Kd.R_reads HU.out) rfl (by rw [srt_len]; have := HN.out; omega)).mono ?_; rintro e w4 ⟨rfl, hb⟩; have nHB := Aside0.mk (below_step HB.out hb); clear HB HT HU hb; have HB := nHB; clear nHB))
    | (go_at_call 10; go_must (refine (awake_calls _).mono ?_; rintro e w27 ⟨rfl, hb⟩; have nHB := Aside0.mk (below_step HB.out hb); clear HB hb; have HB := nHB; clear nHB)))
  go_ret
  exact ⟨rfl, HB.out⟩
end Go.Proofs.Ytnpndjdkdcbjcaa.Pq
