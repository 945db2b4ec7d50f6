/- Peeks. -/
import Derived.Test.YtnpndjdkdcbjcaaQ8
namespace Go.Proofs.Ytnpndjdkdcbjcaa.Pq
open Go.RowKit Go.Proofs.Ytnpndjdkdcbjcaa.PX Go.Proofs.YtnpndjdkdcbjcaaW.PrintWords Go.Proofs.YtnpndjdkdcbjcaaW.PrintLast Go.Proofs.YtnpndjdkdcbjcaaW.PrintMore
set_option linter.unusedVariables false
set_option linter.unusedSimpArgs false
theorem neq27 (a b : Int) (w : World) : (binOp .neq 27 (.agg #[.int .i64 a, .int .i64 b]) (.agg #[.int .i64 a, .int .i64 b])).run Try.prog w = .ok (.bool false) w := by
  go_simp
theorem row_at {w : World} {A : Option Addr} {l : List S27} (h : k27.C w A l.length l) (i : Nat) (hi : i < l.length) : ∃ ad, A = some ad ∧ w.cell? (ad.add (i * 2)) = some (.int .i64 (l.getD i z27).f0) ∧ w.cell? ⟨(ad.add (i * 2)).block, (ad.add (i * 2)).off + 1, none⟩ = some (.int .i64 (l.getD i z27).f1) := by
  have h_ := at_T27 h (i : Int) (by omega) (by omega)
  simpa [rd_T27] using h_
set_option maxHeartbeats 2000000 in
set_option maxRecDepth 100000 in
theorem Peeks_calls (mode : Int) (A0 : Option Addr) (c0 : Nat) (l0 : List S27) (w : World) (hr0 : k27.C w A0 l0.length l0) :
    Calls Try.prog 4 #[.int .i64 mode, .slice A0 l0.length c0] w fun e w' => e = .returned (.bool true) ∧ Below w.heap.size w w' := by
  have HR := Aside0.mk hr0
  clear hr0
  have HB := Aside0.mk (Below.refl w.heap.size w)
  by_cases hbig : 200 < l0.length
  · have d1 : decide ((200 : Int) < (l0.length : Int)) = true := decide_eq_true (by omega)
    have d2 := eq_true hbig
    go_enter Try.func4, Try.ntmps4
    go_wp2_with (first | (go_at_call 10; go_must (refine (awake_calls _).mono ?_; rintro e w1 ⟨rfl, hb⟩; have nHB := Aside0.mk (below_step HB.out hb); clear HB hb; have HB := nHB; clear nHB)))
    go_ret
    exact ⟨rfl, HB.out⟩
  obtain ⟨K, hK⟩ : ∃ K, KM mode = K := ⟨_, rfl⟩
  obtain ⟨lt, hlt⟩ : ∃ lt, ltM mode = lt := ⟨_, rfl⟩
  have HLE := Aside0.mk (show LessI K lt from hK ▸ hlt ▸ lessM mode)
  have HSW := Aside0.mk (show Swo lt from hlt ▸ swo_ltM mode)
  have HK := Aside0.mk hK
  have HN := Aside0.mk (show l0.length ≤ 200 by omega)
  have d1 : decide ((200 : Int) < (l0.length : Int)) = false := decide_eq_false (by omega)
  have d2 := eq_false hbig
  clear hlt hK hbig
  obtain ⟨B, hB⟩ : ∃ B, w.heap.size = B := ⟨_, rfl⟩
  rw [hB] at HB
  have HBW := Aside0.mk hB
  clear hB
  go_enter Try.func4, Try.ntmps4
  go_wp2_with (first
    | (go_at_call 12; go_must (refine (order_calls mode _).mono ?_; rw [HK.out]; rintro e w1 ⟨rfl, hw_⟩; obtain rfl := hw_.symm))
    | (go_at_call 11; go_must (refine (new_calls K _).mono ?_; rintro e w1 ⟨g, rfl, hq, hb⟩; rw [HBW.out] at hq; rw [HBW.out] at hb; have HQ := Aside0.mk hq; have nHB := Aside0.mk (HB.out.trans hb); clear HB hb hq; have HB := nHB; clear nHB)))
  go_loopg [6] l0.length (fun kq v6 wr => ∃ i : Nat, v6 = .int .i64 (i : Int) ∧ Aside0 (i ≤ l0.length ∧ kq = l0.length - i) ∧ Aside0 (QI 60 62 kI wr B g (fun k => B ≤ k) K (pushL lt (l0.take i)) i) ∧ Aside0 (Below B w wr))
  case atStart => exact ⟨0, rfl, ⟨by simp⟩, HQ, HB⟩
  case round =>
    clear HQ HB
    obtain ⟨i, rfl, HI, HQ, HB⟩ := hrel
    have HBS := Aside0.mk (show B ≤ wr.heap.size from by rw [← HBW.out]; exact HB.out.size)
    by_cases ci : i < l0.length
    · obtain ⟨ad, rfl, f1, f2⟩ := row_at (Kd.C_below HR.out (HBW.out ▸ HB.out)) i ci
      have HX := Aside0.mk (show l0.take (i + 1) = l0.take i ++ [l0.getD i z27] from by rw [List.take_add_one, List.getD_eq_getElem?_getD, List.getElem?_eq_getElem ci]; rfl)
      obtain ⟨x, hx⟩ : ∃ x, l0.getD i z27 = x := ⟨_, rfl⟩
      rw [hx] at f1 f2 HX
      have HI2 := Aside0.mk ci
      have p1 := eq_true (show (i : Int) < (l0.length : Int) by omega)
      have q1 : wrap64 ((i : Int) + 1) = (i : Int) + 1 := by have := HN.out; unfold wrap64; omega
      replace ci := eq_true ci
      clear hx
      go_wp2_with (first
        | (go_at_call 13; go_must (refine (push_calls B g _ K lt HLE.out (pushL lt (l0.take i)) i x.f0 x.f1 _ HQ.out (fun k hk => Nat.le_trans HBS.out hk) (by rw [pushL_len, List.length_take]; have := HN.out; omega) (by have := HN.out; have := HI2.out; omega)).mono ?_; rintro e w5 ⟨rfl, hq, hb, hk⟩; have HQ5 := Aside0.mk (show QI 60 62 kI w5 B g (fun k => B ≤ k) K (pushL lt (l0.take (i + 1))) ((i + 1 : Nat) : Int) from by rw [HX.out, pushL_snoc, List.length_take, Nat.min_eq_left (Nat.le_of_lt HI2.out)]; exact hq); have HB5 := Aside0.mk (HB.out.trans hb); clear HQ HB HBS hq hb hk f1 f2)))
      go_roundg (l0.length - (i + 1))
      case measure => have h_ := HI.out; have := HI2.out; omega
      case rel => exact ⟨i + 1, by first | rfl | (rw [q1]; rfl), ⟨by have := HI2.out; omega⟩, HQ5, HB5⟩
    · obtain rfl : i = l0.length := by have := HI.out; omega
      clear ci HI
      rw [List.take_length] at HQ
      have HLN := Aside0.mk (pushL_len lt l0)
      generalize pushL lt l0 = h0 at HQ HLN
      generalize hnum : (l0.length : Int) = num at HQ
      rw [← hnum]
      clear hnum
      go_wp2
      go_loopg [7, 8, 9, 10, 11] l0.length (fun kq v7 v8 v9 v10 v11 ws => ∃ (h : List (S27 × Int)), v7 = .int .i64 (h.length : Int) ∧ Aside0 (h.length ≤ 200 ∧ kq = h.length) ∧ Aside0 (QI 60 62 kI ws B g (fun k => B ≤ k) K h num) ∧ Aside0 (Below B w ws))
      case atStart => exact ⟨h0, by rw [HLN.out], ⟨by rw [HLN.out]; exact ⟨HN.out, rfl⟩⟩, HQ, HB⟩
      case round =>
        clear HQ HB HLN HBS
        obtain ⟨h, rfl, HI, HQ, HB⟩ := hrel
        have HBS := Aside0.mk (show B ≤ wr.heap.size from by rw [← HBW.out]; exact HB.out.size)
        have HBZ := HBS
        have HS := Aside0.mk (Nat.le_refl wr.heap.size)
        have HQn := Aside0.mk (HQ.out.narrow (F' := fun k => B ≤ k ∧ k < wr.heap.size) (fun k hk hf => ⟨hf, hk⟩))
        clear HQ
        have HQ := HQn
        clear HQn
        have M1 := trivial
        have M2 := trivial
        by_cases h0 : 0 < h.length
        · have HP := Aside0.mk h0
          have HPL := Aside0.mk (popS_len (bI lt) zI h h0)
          obtain ⟨x, hx⟩ : ∃ x, (h.getD 0 zI).1 = x := ⟨_, rfl⟩
          have HX := Aside0.mk hx
          have d3 : decide ((0 : Int) < (h.length : Int)) = true := decide_eq_true (by omega)
          have q1 : wrap64 ((h.length : Int) - 1) = (h.length : Int) - 1 := by have := HI.out; unfold wrap64; omega
          have q27 := neq27
          replace h0 := eq_true h0
          clear hx
          go_wp2_with (first
            | (go_at_call 19; go_must (refine (len_calls B g _ K h _ _ HQ.out).mono ?_; rintro e wl ⟨rfl, hw_⟩; obtain rfl := hw_.symm))
            | (go_at_call 17; clear M1; go_must (refine (peek_calls B g _ K h _ _ HQ.out HP.out).mono ?_; rw [HX.out]; rintro e w11 ⟨rfl, hb⟩; have nHQ := Aside0.mk (HQ.out.below hb); have nHB := Aside0.mk (HB.out.trans (hb.mono HBS.out)); have nHBS := Aside0.mk (Nat.le_trans HBS.out hb.size); have nHS := Aside0.mk (Nat.le_trans HS.out hb.size); clear HQ; clear HB; clear HBS; clear HS; have HQ := nHQ; clear nHQ; have HB := nHB; clear nHB; have HBS := nHBS; clear nHBS; have HS := nHS; clear nHS; clear hb))
            | ((with_reducible refine gate_dst (N := 8) rfl ?_); go_must (refine box_event ?hg (N := 8) ?hd (cs := #[.int .i64 0, .int .i64 0]) (t := 27) ?hr ?_; (case hd => rfl); (case hg => rfl); (case hr => first | (go_simp; done) | (go_simp; rfl)); intro g8 hg w12 hbox hb; have GE8 := Aside0.mk (show wr.heap.size ≤ g8 from by rw [hg]; exact HS.out); have BK8 := Aside0.mk hbox; have k0 : w12.cell? ⟨g8, 0, none⟩ = some (.int .i64 0) := (blk_cell hbox 0).trans rfl; have k1 : w12.cell? ⟨g8, 1, none⟩ = some (.int .i64 0) := (blk_cell hbox 1).trans rfl; have k2 := blk_frozen hbox 0; have k3 := blk_frozen hbox 1; have nHQ := Aside0.mk (HQ.out.below hb); have nHB := Aside0.mk (HB.out.trans (hb.mono HBS.out)); have nHBS := Aside0.mk (Nat.le_trans HBS.out hb.size); have nHS := Aside0.mk (Nat.le_trans HS.out hb.size); clear HQ; clear HB; clear HBS; clear HS; have HQ := nHQ; clear nHQ; have HB := nHB; clear nHB; have HBS := nHBS; clear nHBS; have HS := nHS; clear nHS; clear hbox hb hg))
            | ((with_reducible refine gate_store (t := 27) (p := 8) rfl ?_); go_must (refine store_event (t := 27) (p := 8) (v := ?vo_8) (w1 := ((w12.setCell ⟨g8, 0, none⟩ (.int .i64 x.f0)).setCell ⟨g8, 1, none⟩ (.int .i64 x.f1))) ?hg ?ho ?hn ?hr ?_; (case ho => rfl); (case hg => rfl); (case hn => rfl); (case hr => first | (go_simp; done) | (go_simp; rfl)); intro w13 hw; have nBK8 := Aside0.mk (show w13.heap[g8]? = some (.cells #[.int .i64 x.f0, .int .i64 x.f1] 27 (0, 0)) from (by rw [hw]; exact put_two BK8.out)); clear BK8; have BK8 := nBK8; clear nBK8; have hkp := (show ∀ k, k < wr.heap.size → w13.heap[k]? = w12.heap[k]? from by rw [hw]; exact fun k hf => (Below.heap_setCell _ ⟨g8, 1, none⟩ _ k (by have := GE8.out; show k ≠ g8; omega)).trans (Below.heap_setCell _ ⟨g8, 0, none⟩ _ k (by have := GE8.out; show k ≠ g8; omega))); have nHQ := Aside0.mk (HQ.out.keep (fun k _ hf => hkp k hf.2)); have nHB := Aside0.mk (show Below B w w13 from (by rw [hw]; exact (HB.out.setCell (Nat.le_trans HBZ.out GE8.out) _).setCell (Nat.le_trans HBZ.out GE8.out) _)); have nHBS := Aside0.mk (show B ≤ w13.heap.size from (by rw [hw]; simpa using HBS.out)); have nHS := Aside0.mk (show wr.heap.size ≤ w13.heap.size from (by rw [hw]; simpa using HS.out)); clear HQ; clear HB; clear HBS; clear HS; have HQ := nHQ; clear nHQ; have HB := nHB; clear nHB; have HBS := nHBS; clear nHBS; have HS := nHS; clear nHS; clear hw hkp k0 k1 k2 k3; skip))
            | (go_at_call 15; clear M2; go_must (refine (pop_calls B g _ K lt HLE.out h _ _ HQ.out HP.out).mono ?_; rw [HX.out]; rintro e w14 ⟨rfl, hq, hb, hk⟩; have nBK8 := Aside0.mk ((hk.2 g8 (blk_lt BK8.out) (fun hf => absurd hf.2 (by have := GE8.out; omega))).trans BK8.out); clear BK8; have BK8 := nBK8; clear nBK8; have nHQ := Aside0.mk hq; have nHB := Aside0.mk (HB.out.trans hb); have nHBS := Aside0.mk (Nat.le_trans HBS.out hk.1.size); have nHS := Aside0.mk (Nat.le_trans HS.out hk.1.size); clear HQ; clear HB; clear HBS; clear HS; have HQ := nHQ; clear nHQ; have HB := nHB; clear nHB; have HBS := nHBS; clear nHBS; have HS := nHS; clear nHS; clear hq hb hk))
            | ((with_reducible refine gate_dst (N := 10) rfl ?_); go_must (refine box_event ?hg (N := 10) ?hd (cs := #[.int .i64 0, .int .i64 0]) (t := 27) ?hr ?_; (case hd => rfl); (case hg => rfl); (case hr => first | (go_simp; done) | (go_simp; rfl)); intro g10 hg w15 hbox hb; have GE10 := Aside0.mk (show wr.heap.size ≤ g10 from by rw [hg]; exact HS.out); have NE10_8 := Aside0.mk (show g8 ≠ g10 from fun e => absurd (blk_lt BK8.out) (by omega)); have nBK8 := Aside0.mk (blk_below BK8.out hb); clear BK8; have BK8 := nBK8; clear nBK8; have BK10 := Aside0.mk hbox; have k0 : w15.cell? ⟨g10, 0, none⟩ = some (.int .i64 0) := (blk_cell hbox 0).trans rfl; have k1 : w15.cell? ⟨g10, 1, none⟩ = some (.int .i64 0) := (blk_cell hbox 1).trans rfl; have k2 := blk_frozen hbox 0; have k3 := blk_frozen hbox 1; have nHQ := Aside0.mk (HQ.out.below hb); have nHB := Aside0.mk (HB.out.trans (hb.mono HBS.out)); have nHBS := Aside0.mk (Nat.le_trans HBS.out hb.size); have nHS := Aside0.mk (Nat.le_trans HS.out hb.size); clear HQ; clear HB; clear HBS; clear HS; have HQ := nHQ; clear nHQ; have HB := nHB; clear nHB; have HBS := nHBS; clear nHBS; have HS := nHS; clear nHS; clear hbox hb hg))
            | ((with_reducible refine gate_store (t := 27) (p := 10) rfl ?_); go_must (refine store_event (t := 27) (p := 10) (v := ?vo_10) (w1 := ((w15.setCell ⟨g10, 0, none⟩ (.int .i64 x.f0)).setCell ⟨g10, 1, none⟩ (.int .i64 x.f1))) ?hg ?ho ?hn ?hr ?_; (case ho => rfl); (case hg => rfl); (case hn => rfl); (case hr => first | (go_simp; done) | (go_simp; rfl)); intro w16 hw; have nBK8 := Aside0.mk (show w16.heap[g8]? = some (.cells #[.int .i64 x.f0, .int .i64 x.f1] 27 (0, 0)) from (by rw [hw]; exact blk_far (blk_far BK8.out (p := ⟨g10, 0, none⟩) NE10_8.out _) (p := ⟨g10, 1, none⟩) NE10_8.out _)); clear BK8; have BK8 := nBK8; clear nBK8; have nBK10 := Aside0.mk (show w16.heap[g10]? = some (.cells #[.int .i64 x.f0, .int .i64 x.f1] 27 (0, 0)) from (by rw [hw]; exact put_two BK10.out)); clear BK10; have BK10 := nBK10; clear nBK10; have hkp := (show ∀ k, k < wr.heap.size → w16.heap[k]? = w15.heap[k]? from by rw [hw]; exact fun k hf => (Below.heap_setCell _ ⟨g10, 1, none⟩ _ k (by have := GE10.out; show k ≠ g10; omega)).trans (Below.heap_setCell _ ⟨g10, 0, none⟩ _ k (by have := GE10.out; show k ≠ g10; omega))); have nHQ := Aside0.mk (HQ.out.keep (fun k _ hf => hkp k hf.2)); have nHB := Aside0.mk (show Below B w w16 from (by rw [hw]; exact (HB.out.setCell (Nat.le_trans HBZ.out GE10.out) _).setCell (Nat.le_trans HBZ.out GE10.out) _)); have nHBS := Aside0.mk (show B ≤ w16.heap.size from (by rw [hw]; simpa using HBS.out)); have nHS := Aside0.mk (show wr.heap.size ≤ w16.heap.size from (by rw [hw]; simpa using HS.out)); clear HQ; clear HB; clear HBS; clear HS; have HQ := nHQ; clear nHQ; have HB := nHB; clear nHB; have HBS := nHBS; clear nHBS; have HS := nHS; clear nHS; clear hw hkp k0 k1 k2 k3; have f8 : w16.cell? ⟨g8, 0, none⟩ = some (.int .i64 x.f0) := (blk_cell BK8.out 0).trans rfl; have f8' : w16.cell? ⟨g8, 1, none⟩ = some (.int .i64 x.f1) := (blk_cell BK8.out 1).trans rfl; have f10 : w16.cell? ⟨g10, 0, none⟩ = some (.int .i64 x.f0) := (blk_cell BK10.out 0).trans rfl; have f10' : w16.cell? ⟨g10, 1, none⟩ = some (.int .i64 x.f1) := (blk_cell BK10.out 1).trans rfl)))
          go_roundg (popS (bI lt) zI h).length
          case measure => have := HPL.out; have := HI.out; have := HP.out; omega
          case rel => exact ⟨popS (bI lt) zI h, by rw [HPL.out]; congr 1; have := HP.out; omega, ⟨by have := HPL.out; have := HI.out; omega⟩, ⟨HQ.out.narrow (fun k _ hf => hf.1)⟩, HB⟩
        · obtain rfl : h = [] := List.length_eq_zero_iff.1 (by omega)
          clear h0 HI
          have q27 := neq27
          go_wp2_with (first
            | (go_at_call 17; clear M1; go_must (refine (peek_none B g _ K _ _ HQ.out).mono ?_; skip; rintro e w21 ⟨rfl, hb⟩; have nHQ := Aside0.mk (HQ.out.below hb); have nHB := Aside0.mk (HB.out.trans (hb.mono HBS.out)); have nHBS := Aside0.mk (Nat.le_trans HBS.out hb.size); have nHS := Aside0.mk (Nat.le_trans HS.out hb.size); clear HQ; clear HB; clear HBS; clear HS; have HQ := nHQ; clear nHQ; have HB := nHB; clear nHB; have HBS := nHBS; clear nHBS; have HS := nHS; clear nHS; clear hb))
            | ((with_reducible refine gate_dst (N := 12) rfl ?_); go_must (refine box_event ?hg (N := 12) ?hd (cs := #[.int .i64 0, .int .i64 0]) (t := 27) ?hr ?_; (case hd => rfl); (case hg => rfl); (case hr => first | (go_simp; done) | (go_simp; rfl)); intro g12 hg w22 hbox hb; have GE12 := Aside0.mk (show wr.heap.size ≤ g12 from by rw [hg]; exact HS.out); have BK12 := Aside0.mk hbox; have k0 : w22.cell? ⟨g12, 0, none⟩ = some (.int .i64 0) := (blk_cell hbox 0).trans rfl; have k1 : w22.cell? ⟨g12, 1, none⟩ = some (.int .i64 0) := (blk_cell hbox 1).trans rfl; have k2 := blk_frozen hbox 0; have k3 := blk_frozen hbox 1; have nHQ := Aside0.mk (HQ.out.below hb); have nHB := Aside0.mk (HB.out.trans (hb.mono HBS.out)); have nHBS := Aside0.mk (Nat.le_trans HBS.out hb.size); have nHS := Aside0.mk (Nat.le_trans HS.out hb.size); clear HQ; clear HB; clear HBS; clear HS; have HQ := nHQ; clear nHQ; have HB := nHB; clear nHB; have HBS := nHBS; clear nHBS; have HS := nHS; clear nHS; clear hbox hb hg))
            | ((with_reducible refine gate_store (t := 27) (p := 12) rfl ?_); go_must (refine store_event (t := 27) (p := 12) (v := ?vo_12) (w1 := ((w22.setCell ⟨g12, 0, none⟩ (.int .i64 0)).setCell ⟨g12, 1, none⟩ (.int .i64 0))) ?hg ?ho ?hn ?hr ?_; (case ho => rfl); (case hg => rfl); (case hn => rfl); (case hr => first | (go_simp; done) | (go_simp; rfl)); intro w23 hw; have nBK12 := Aside0.mk (show w23.heap[g12]? = some (.cells #[.int .i64 0, .int .i64 0] 27 (0, 0)) from (by rw [hw]; exact put_two BK12.out)); clear BK12; have BK12 := nBK12; clear nBK12; have hkp := (show ∀ k, k < wr.heap.size → w23.heap[k]? = w22.heap[k]? from by rw [hw]; exact fun k hf => (Below.heap_setCell _ ⟨g12, 1, none⟩ _ k (by have := GE12.out; show k ≠ g12; omega)).trans (Below.heap_setCell _ ⟨g12, 0, none⟩ _ k (by have := GE12.out; show k ≠ g12; omega))); have nHQ := Aside0.mk (HQ.out.keep (fun k _ hf => hkp k hf.2)); have nHB := Aside0.mk (show Below B w w23 from (by rw [hw]; exact (HB.out.setCell (Nat.le_trans HBZ.out GE12.out) _).setCell (Nat.le_trans HBZ.out GE12.out) _)); have nHBS := Aside0.mk (show B ≤ w23.heap.size from (by rw [hw]; simpa using HBS.out)); have nHS := Aside0.mk (show wr.heap.size ≤ w23.heap.size from (by rw [hw]; simpa using HS.out)); clear HQ; clear HB; clear HBS; clear HS; have HQ := nHQ; clear nHQ; have HB := nHB; clear nHB; have HBS := nHBS; clear nHBS; have HS := nHS; clear nHS; clear hw hkp k0 k1 k2 k3; skip))
            | (go_at_call 15; clear M2; go_must (refine (pop_none B g _ K _ _ HQ.out).mono ?_; skip; rintro e w24 ⟨rfl, hb⟩; have nBK12 := Aside0.mk (blk_below BK12.out hb); clear BK12; have BK12 := nBK12; clear nBK12; have nHQ := Aside0.mk (HQ.out.below hb); have nHB := Aside0.mk (HB.out.trans (hb.mono HBS.out)); have nHBS := Aside0.mk (Nat.le_trans HBS.out hb.size); have nHS := Aside0.mk (Nat.le_trans HS.out hb.size); clear HQ; clear HB; clear HBS; clear HS; have HQ := nHQ; clear nHQ; have HB := nHB; clear nHB; have HBS := nHBS; clear nHBS; have HS := nHS; clear nHS; clear hb))
            | ((with_reducible refine gate_dst (N := 14) rfl ?_); go_must (refine box_event ?hg (N := 14) ?hd (cs := #[.int .i64 0, .int .i64 0]) (t := 27) ?hr ?_; (case hd => rfl); (case hg => rfl); (case hr => first | (go_simp; done) | (go_simp; rfl)); intro g14 hg w25 hbox hb; have GE14 := Aside0.mk (show wr.heap.size ≤ g14 from by rw [hg]; exact HS.out); have NE14_12 := Aside0.mk (show g12 ≠ g14 from fun e => absurd (blk_lt BK12.out) (by omega)); have nBK12 := Aside0.mk (blk_below BK12.out hb); clear BK12; have BK12 := nBK12; clear nBK12; have BK14 := Aside0.mk hbox; have k0 : w25.cell? ⟨g14, 0, none⟩ = some (.int .i64 0) := (blk_cell hbox 0).trans rfl; have k1 : w25.cell? ⟨g14, 1, none⟩ = some (.int .i64 0) := (blk_cell hbox 1).trans rfl; have k2 := blk_frozen hbox 0; have k3 := blk_frozen hbox 1; have nHQ := Aside0.mk (HQ.out.below hb); have nHB := Aside0.mk (HB.out.trans (hb.mono HBS.out)); have nHBS := Aside0.mk (Nat.le_trans HBS.out hb.size); have nHS := Aside0.mk (Nat.le_trans HS.out hb.size); clear HQ; clear HB; clear HBS; clear HS; have HQ := nHQ; clear nHQ; have HB := nHB; clear nHB; have HBS := nHBS; clear nHBS; have HS := nHS; clear nHS; clear hbox hb hg))
            | ((with_reducible refine gate_store (t := 27) (p := 14) rfl ?_); go_must (refine store_event (t := 27) (p := 14) (v := ?vo_14) (w1 := ((w25.setCell ⟨g14, 0, none⟩ (.int .i64 0)).setCell ⟨g14, 1, none⟩ (.int .i64 0))) ?hg ?ho ?hn ?hr ?_; (case ho => rfl); (case hg => rfl); (case hn => rfl); (case hr => first | (go_simp; done) | (go_simp; rfl)); intro w26 hw; have nBK12 := Aside0.mk (show w26.heap[g12]? = some (.cells #[.int .i64 0, .int .i64 0] 27 (0, 0)) from (by rw [hw]; exact blk_far (blk_far BK12.out (p := ⟨g14, 0, none⟩) NE14_12.out _) (p := ⟨g14, 1, none⟩) NE14_12.out _)); clear BK12; have BK12 := nBK12; clear nBK12; have nBK14 := Aside0.mk (show w26.heap[g14]? = some (.cells #[.int .i64 0, .int .i64 0] 27 (0, 0)) from (by rw [hw]; exact put_two BK14.out)); clear BK14; have BK14 := nBK14; clear nBK14; have hkp := (show ∀ k, k < wr.heap.size → w26.heap[k]? = w25.heap[k]? from by rw [hw]; exact fun k hf => (Below.heap_setCell _ ⟨g14, 1, none⟩ _ k (by have := GE14.out; show k ≠ g14; omega)).trans (Below.heap_setCell _ ⟨g14, 0, none⟩ _ k (by have := GE14.out; show k ≠ g14; omega))); have nHQ := Aside0.mk (HQ.out.keep (fun k _ hf => hkp k hf.2)); have nHB := Aside0.mk (show Below B w w26 from (by rw [hw]; exact (HB.out.setCell (Nat.le_trans HBZ.out GE14.out) _).setCell (Nat.le_trans HBZ.out GE14.out) _)); have nHBS := Aside0.mk (show B ≤ w26.heap.size from (by rw [hw]; simpa using HBS.out)); have nHS := Aside0.mk (show wr.heap.size ≤ w26.heap.size from (by rw [hw]; simpa using HS.out)); clear HQ; clear HB; clear HBS; clear HS; have HQ := nHQ; clear nHQ; have HB := nHB; clear nHB; have HBS := nHBS; clear nHBS; have HS := nHS; clear nHS; clear hw hkp k0 k1 k2 k3; have f12 : w26.cell? ⟨g12, 0, none⟩ = some (.int .i64 0) := (blk_cell BK12.out 0).trans rfl; have f12' : w26.cell? ⟨g12, 1, none⟩ = some (.int .i64 0) := (blk_cell BK12.out 1).trans rfl; have f14 : w26.cell? ⟨g14, 0, none⟩ = some (.int .i64 0) := (blk_cell BK14.out 0).trans rfl; have f14' : w26.cell? ⟨g14, 1, none⟩ = some (.int .i64 0) := (blk_cell BK14.out 1).trans rfl))
            | (go_at_call 10; go_must (refine (awake_calls _).mono ?_; rintro e w27 ⟨rfl, hb⟩; have HBn := Aside0.mk (HB.out.trans (hb.mono HBS.out)); clear HB hb; have HB := HBn; clear HBn)))
          go_ret
          exact ⟨rfl, HBW.out ▸ HB.out⟩
end Go.Proofs.Ytnpndjdkdcbjcaa.Pq
