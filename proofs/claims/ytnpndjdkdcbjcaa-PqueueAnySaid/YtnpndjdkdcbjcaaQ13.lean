/- Any order: a queue and Sort give back what was laid in. -/
import Derived.Test.YtnpndjdkdcbjcaaQ12
namespace Go.Proofs.Ytnpndjdkdcbjcaa.Pq
open Go.RowKit Go.Proofs.Ytnpndjdkdcbjcaa.PX Go.Proofs.YtnpndjdkdcbjcaaW.PrintWords Go.Proofs.YtnpndjdkdcbjcaaW.PrintLast Go.Proofs.YtnpndjdkdcbjcaaW.PrintMore
set_option linter.unusedVariables false
set_option linter.unusedSimpArgs false
theorem pushL_perm (lt : S27 → S27 → Bool) (l : List S27) : ((pushL lt l).map Prod.fst).Perm l := by
  have h := (pushAll_perm lt Prod.fst Prod.snd Prod.mk zI l [] 0).map Prod.fst
  rw [List.nil_append, numS_map Prod.fst Prod.mk (fun (_ : S27) (_ : Int) => rfl)] at h
  exact h
theorem pop_perm (lt : S27 → S27 → Bool) (h : List (S27 × Int)) (acc l : List S27) (x : S27) (h0 : 0 < h.length) (hx : (h.getD 0 zI).1 = x) (hp : (acc ++ h.map Prod.fst).Perm l) : ((acc ++ [x]) ++ (popS (bI lt) zI h).map Prod.fst).Perm l := by
  refine List.Perm.trans ?_ hp
  rw [List.append_assoc]
  refine List.Perm.append_left acc ?_
  have h1 := (popS_perm (bI lt) zI h h0).map Prod.fst
  rw [List.map_cons, hx] at h1
  exact h1
set_option maxHeartbeats 2000000 in
set_option maxRecDepth 100000 in
theorem Any_calls (A0 : Option Addr) (c0 : Nat) (l0 : List S27) (w : World) (hr0 : k27.C w A0 l0.length l0) (hc0 : l0.length ≤ c0) :
    Calls Try.prog 7 #[.slice A0 l0.length c0] w fun e w' => e = .returned (.bool true) ∧ Below w.heap.size w w' := by
  have HR := Aside0.mk hr0
  have HC := Aside0.mk hc0
  clear hr0 hc0
  have HB := Aside0.mk (Below.refl w.heap.size w)
  by_cases hbig : 100 < l0.length
  · have d1 : decide ((100 : Int) < (l0.length : Int)) = true := decide_eq_true (by omega)
    have d2 := eq_true hbig
    go_enter Try.func7, Try.ntmps7
    go_wp2_with (first | (go_at_call 10; go_must (refine (awake_calls _).mono ?_; rintro e w1 ⟨rfl, hb⟩; have nHB := Aside0.mk (below_step HB.out hb); clear HB hb; have HB := nHB; clear nHB)))
    go_ret
    exact ⟨rfl, HB.out⟩
  obtain ⟨K, hK⟩ : ∃ K, 23 = K := ⟨_, rfl⟩
  obtain ⟨lt, hlt⟩ : ∃ lt, ltO = lt := ⟨_, rfl⟩
  have HLE := Aside0.mk (show LessI K lt from hK ▸ hlt ▸ lessO)
  have HK := Aside0.mk hK
  have HN := Aside0.mk (show l0.length ≤ 100 by omega)
  have d1 : decide ((100 : Int) < (l0.length : Int)) = false := decide_eq_false (by omega)
  have d2 := eq_false hbig
  clear hlt hK hbig
  obtain ⟨B, hB⟩ : ∃ B, w.heap.size = B := ⟨_, rfl⟩
  rw [hB] at HB
  have HBW := Aside0.mk hB
  clear hB
  go_enter Try.func7, Try.ntmps7
  go_wp2_with (first
    | (go_at_call 11; go_must (rw [HK.out]; refine (new_calls K _).mono ?_; rintro e w1 ⟨g, rfl, hq, hb⟩; rw [HBW.out] at hq; rw [HBW.out] at hb; have HQ := Aside0.mk hq; have nHB := Aside0.mk (HB.out.trans hb); clear HB hb hq; have HB := nHB; clear nHB)))
  go_loopg [4] l0.length (fun kq v4 wr => ∃ i : Nat, v4 = .int .i64 (i : Int) ∧ Aside0 (i ≤ l0.length ∧ kq = l0.length - i) ∧ Aside0 (QI 60 62 kI wr B g (fun k => B ≤ k) K (pushL lt (l0.take i)) i) ∧ Aside0 (Below B w wr))
  case atStart => exact ⟨0, rfl, ⟨by simp⟩, HQ, HB⟩
  case round =>
    clear HQ HB
    obtain ⟨i, rfl, HI, HQ, HB⟩ := hrel
    have HBS := Aside0.mk (show B ≤ wr.heap.size from by rw [← HBW.out]; exact HB.out.size)
    by_cases ci : i < l0.length
    · obtain ⟨ad, rfl, f1, f2⟩ := row_at (Kd.C_below HR.out (HBW.out ▸ HB.out)) i ci
      have HX := Aside0.mk (show l0.take (i + 1) = l0.take i ++ [l0.getD i z27] from by rw [List.take_add_one, List.getD_eq_getElem?_getD, List.getElem?_eq_getElem ci]; rfl)
      obtain ⟨x, hx⟩ : ∃ x, l0.getD i z27 = x := ⟨_, rfl⟩
      rw [hx] at f1 f2 HX
      have HI2 := Aside0.mk ci
      have p1 := eq_true (show (i : Int) < (l0.length : Int) by omega)
      have q1 : wrap64 ((i : Int) + 1) = (i : Int) + 1 := by have := HN.out; unfold wrap64; omega
      replace ci := eq_true ci
      clear hx
      go_wp2_with (first
        | (go_at_call 13; go_must (refine (push_calls B g _ K lt HLE.out (pushL lt (l0.take i)) i x.f0 x.f1 _ HQ.out (fun k hk => Nat.le_trans HBS.out hk) (by rw [pushL_len, List.length_take]; have := HN.out; omega) (by have := HN.out; have := HI2.out; omega)).mono ?_; rintro e w5 ⟨rfl, hq, hb, hk⟩; have HQ5 := Aside0.mk (show QI 60 62 kI w5 B g (fun k => B ≤ k) K (pushL lt (l0.take (i + 1))) ((i + 1 : Nat) : Int) from by rw [HX.out, pushL_snoc, List.length_take, Nat.min_eq_left (Nat.le_of_lt HI2.out)]; exact hq); have HB5 := Aside0.mk (HB.out.trans hb); clear HQ HB HBS hq hb hk f1 f2)))
      go_roundg (l0.length - (i + 1))
      case measure => have h_ := HI.out; have := HI2.out; omega
      case rel => exact ⟨i + 1, by first | rfl | (rw [q1]; rfl), ⟨by have := HI2.out; omega⟩, HQ5, HB5⟩
    · obtain rfl : i = l0.length := by have := HI.out; omega
      clear ci HI
      rw [List.take_length] at HQ
      have HLN := Aside0.mk (pushL_len lt l0)
      have HPM := Aside0.mk (pushL_perm lt l0)
      generalize pushL lt l0 = h0 at HQ HLN HPM
      generalize hnum : (l0.length : Int) = num at HQ
      rw [← hnum]
      clear hnum
      obtain ⟨SZ, hSZ⟩ : ∃ SZ, wr.heap.size = SZ := ⟨_, rfl⟩
      have HBZ := Aside0.mk (hSZ ▸ HBS.out)
      have HS := Aside0.mk (Nat.le_of_eq hSZ.symm)
      have nHQ := Aside0.mk (HQ.out.narrow (F' := fun k => B ≤ k ∧ k < SZ) (fun k hk hf => ⟨hf, hSZ ▸ hk⟩))
      clear HQ hSZ HBS
      have HQ := nHQ
      clear nHQ
      go_wp2
      go_loopg [5, 6, 7, 8] l0.length (fun kq v5 v6 v7 v8 ws => ∃ (i : Nat) (h : List (S27 × Int)) (acc : List S27) (Ao : Option Addr) (co : Nat), v6 = .int .i64 (i : Int) ∧ v5 = .slice Ao acc.length co ∧ Aside0 (i + h.length = l0.length ∧ acc.length = i ∧ kq = h.length) ∧ Aside0 ((acc ++ h.map Prod.fst).Perm l0) ∧ Aside0 (QI 60 62 kI ws B g (fun k => B ≤ k ∧ k < SZ) K h num) ∧ Aside0 (k27.R 27 ws SZ (fun k => SZ ≤ k) (.slice Ao acc.length co) acc) ∧ Aside0 (Below B w ws) ∧ Aside0 (SZ ≤ ws.heap.size))
      case atStart => exact ⟨0, h0, [], none, 0, rfl, rfl, ⟨by rw [HLN.out]; simp⟩, HPM, HQ, ⟨Kd.R_nil _ _ _ _ _⟩, HB, HS⟩
      case round =>
        clear HQ HB HLN HPM HS
        obtain ⟨i, h, acc, Ao, co, rfl, rfl, HI, HPM, HQ, HO, HB, HS⟩ := hrel
        have HBS := Aside0.mk (Nat.le_trans HBZ.out HS.out)
        have M1 := trivial
        have M2 := trivial
        by_cases h0 : 0 < h.length
        · have HP := Aside0.mk h0
          have HPL := Aside0.mk (popS_len (bI lt) zI h h0)
          obtain ⟨pl, hpl⟩ : ∃ pl, h.length - 1 = pl := ⟨_, rfl⟩
          rw [hpl] at HPL
          have HPP := Aside0.mk (show h.length = pl + 1 by omega)
          obtain ⟨x, hx⟩ : ∃ x, (h.getD 0 zI).1 = x := ⟨_, rfl⟩
          have HX := Aside0.mk hx
          have p1 := eq_true (show (i : Int) < (l0.length : Int) by have := HI.out; omega)
          have p2 := eq_true (show i < l0.length by have := HI.out; omega)
          have q1 : wrap64 ((i : Int) + 1) = (i : Int) + 1 := by have := HI.out; have := HN.out; unfold wrap64; omega
          have q2 : wrap64 ((l0.length : Int) - 1) = (l0.length : Int) - 1 := by have := HN.out; unfold wrap64; omega
          have q3 : wrap64 ((l0.length : Int) - 1 - (i : Int)) = (pl : Int) := by have := HN.out; have := HI.out; unfold wrap64; omega
          clear h0 hx hpl
          go_wp2_with (first
            | (go_at_call 15; clear M1; go_must (refine (pop_calls B g _ K lt HLE.out h _ _ HQ.out HP.out).mono ?_; rw [HX.out]; rintro e w11 ⟨rfl, hq, hb, hk⟩; have nHO := Aside0.mk (Kd.R_step HO.out (fun k hk_ hlt => hk.2 k hlt (fun hf => absurd hf.2 (Nat.not_lt.2 hk_)))); clear HO; have HO := nHO; clear nHO; have nHQ := Aside0.mk hq; have nHB := Aside0.mk (HB.out.trans hb); have nHBS := Aside0.mk (Nat.le_trans HBS.out hk.1.size); have nHS := Aside0.mk (Nat.le_trans HS.out hk.1.size); clear HQ; clear HB; clear HBS; clear HS; have HQ := nHQ; clear nHQ; have HB := nHB; clear nHB; have HBS := nHBS; clear nHBS; have HS := nHS; clear nHS; clear hq hb hk))
            | ((with_reducible refine gate_dst (N := 7) rfl ?_); go_must (refine box_event ?hg (N := 7) ?hd (cs := #[.int .i64 0, .int .i64 0]) (t := 27) ?hr ?_; (case hd => rfl); (case hg => rfl); (case hr => first | (go_simp; done) | (go_simp; rfl)); intro g7 hg w12 hbox hb; have nHO := Aside0.mk (Kd.R_below (Kd.R_elderB HO.out g7 (Nat.le_of_eq hg.symm)) hb); clear HO; have HO := nHO; clear nHO; have GE7 := Aside0.mk (show SZ ≤ g7 from by rw [hg]; exact HS.out); have BK7 := Aside0.mk hbox; have k0 : w12.cell? ⟨g7, 0, none⟩ = some (.int .i64 0) := (blk_cell hbox 0).trans rfl; have k1 : w12.cell? ⟨g7, 1, none⟩ = some (.int .i64 0) := (blk_cell hbox 1).trans rfl; have k2 := blk_frozen hbox 0; have k3 := blk_frozen hbox 1; have nHQ := Aside0.mk (HQ.out.below hb); have nHB := Aside0.mk (HB.out.trans (hb.mono HBS.out)); have nHBS := Aside0.mk (Nat.le_trans HBS.out hb.size); have nHS := Aside0.mk (Nat.le_trans HS.out hb.size); clear HQ; clear HB; clear HBS; clear HS; have HQ := nHQ; clear nHQ; have HB := nHB; clear nHB; have HBS := nHBS; clear nHBS; have HS := nHS; clear nHS; clear hbox hb hg))
            | ((with_reducible refine gate_store (t := 27) (p := 7) rfl ?_); go_must (refine store_event (t := 27) (p := 7) (v := ?vo_7) (w1 := ((w12.setCell ⟨g7, 0, none⟩ (.int .i64 x.f0)).setCell ⟨g7, 1, none⟩ (.int .i64 x.f1))) ?hg ?ho ?hn ?hr ?_; (case ho => rfl); (case hg => rfl); (case hn => rfl); (case hr => first | (go_simp; done) | (go_simp; rfl)); intro w13 hw; have nHO := Aside0.mk (show k27.R 27 w13 SZ (fun k => SZ ≤ k) (.slice Ao acc.length co) acc from by rw [hw]; exact Kd.R_mono (Kd.R_step HO.out (fun k hk _ => (Below.heap_setCell _ ⟨g7, 1, none⟩ _ k (show k ≠ g7 from hk.2)).trans (Below.heap_setCell _ ⟨g7, 0, none⟩ _ k (show k ≠ g7 from hk.2)))) (fun k hk => hk.1)); clear HO; have HO := nHO; clear nHO; have nBK7 := Aside0.mk (show w13.heap[g7]? = some (.cells #[.int .i64 x.f0, .int .i64 x.f1] 27 (0, 0)) from (by rw [hw]; exact put_two BK7.out)); clear BK7; have BK7 := nBK7; clear nBK7; have hkp := (show ∀ k, k < SZ → w13.heap[k]? = w12.heap[k]? from by rw [hw]; exact fun k hf => (Below.heap_setCell _ ⟨g7, 1, none⟩ _ k (by have := GE7.out; show k ≠ g7; omega)).trans (Below.heap_setCell _ ⟨g7, 0, none⟩ _ k (by have := GE7.out; show k ≠ g7; omega))); have nHQ := Aside0.mk (HQ.out.keep (fun k _ hf => hkp k hf.2)); have nHB := Aside0.mk (show Below B w w13 from (by rw [hw]; exact (HB.out.setCell (Nat.le_trans HBZ.out GE7.out) _).setCell (Nat.le_trans HBZ.out GE7.out) _)); have nHBS := Aside0.mk (show B ≤ w13.heap.size from (by rw [hw]; simpa using HBS.out)); have nHS := Aside0.mk (show SZ ≤ w13.heap.size from (by rw [hw]; simpa using HS.out)); clear HQ; clear HB; clear HBS; clear HS; have HQ := nHQ; clear nHQ; have HB := nHB; clear nHB; have HBS := nHBS; clear nHBS; have HS := nHS; clear nHS; clear hw hkp k0 k1 k2 k3; have f7 : w13.cell? ⟨g7, 0, none⟩ = some (.int .i64 x.f0) := (blk_cell BK7.out 0).trans rfl; have f7' : w13.cell? ⟨g7, 1, none⟩ = some (.int .i64 x.f1) := (blk_cell BK7.out 1).trans rfl))
            | (go_at_call 19; go_must (refine (len_calls B g _ K (popS (bI lt) zI h) _ _ HQ.out).mono ?_; rw [HPL.out]; rintro e wl ⟨rfl, hw_⟩; obtain rfl := hw_.symm))
            | ((with_reducible refine gate_builtin (b := .append) (xs := #[.tmp 52, .tmp 54]) rfl ?_); go_must (at_builtin; refine Kd.R_append k27 (w0 := w13) SZ rfl (.tmp 52) (.tmp 54) 31 27 (.agg #[.int .i64 0, .int .i64 0]) 16 rfl Try.underlying31 info27 rfl (by decide) (by decide) (.slice Ao acc.length co) acc x [.int .i64 x.f0, .int .i64 x.f1] (fun k => SZ ≤ k) (fun _ => False) rfl rfl (k27_mkM _ _ _ _) (fun _ h => h.elim) (fun k hk => Nat.le_trans HS.out hk) HO.out (Below.refl _ _) HS.out ?aL ?_; (case aL => have := HI.out; have := HN.out; omega); intro v2 w15 hr2 hb2 hg2 hat2; have nHQ := Aside0.mk (HQ.out.keep (fun k hk hf => hg2.block k hk (fun e => absurd hf.2 (Nat.not_lt.2 (HO.out.1 k e.symm))))); have nHB := Aside0.mk (HB.out.trans (hb2.mono HBZ.out)); have nHS := Aside0.mk (Nat.le_trans HS.out hb2.size); have nHO := Aside0.mk hr2; clear HQ HB HS HO hr2 hb2 hg2 hat2; have HQ := nHQ; have HB := nHB; have HS := nHS; have HO := nHO; clear nHQ nHB nHS nHO)))
          obtain ⟨Ao2, co2, rfl⟩ := Kd.R_slice HO.out
          go_roundg pl
          case measure => have := HPP.out; have := HI.out; omega
          case rel => exact ⟨i + 1, popS (bI lt) zI h, acc ++ [x], Ao2, co2, by first | rfl | (rw [q1]; rfl), rfl, ⟨by have := HPL.out; have := HPP.out; have := HI.out; rw [List.length_append, List.length_singleton]; omega⟩, ⟨pop_perm lt h acc l0 x HP.out HX.out HPM.out⟩, HQ, HO, HB, HS⟩
        · obtain rfl : h = [] := List.length_eq_zero_iff.1 (by omega)
          obtain rfl : i = l0.length := by have := HI.out; simpa using this.1
          rw [List.map_nil, List.append_nil] at HPM
          clear h0
          go_wp2_with (first
            | (go_at_call 21; go_must (rw [HK.out]; refine (sort_calls K lt HLE.out l0.length A0 c0 l0 _ (Kd.C_below HR.out (HBW.out ▸ HB.out)) HC.out (by have := HN.out; omega) (by omega)).mono ?_; rintro e w20 ⟨v9, rfl, hr, hb⟩; have HT := Aside0.mk hr; have nHO := Aside0.mk (Kd.R_below HO.out hb); have nHB := Aside0.mk (HB.out.trans (hb.mono HBS.out)); clear HO HB hr hb; have HO := nHO; have HB := nHB; clear nHO nHB))
            | (go_at_call 24; clear M1; go_must (refine (same_calls _ _ l0 acc _ ⟨A0, c0, rfl, HC.out, Kd.C_below HR.out (HBW.out ▸ HB.out)⟩ (Kd.R_reads HO.out) HPM.out.symm (by have := HN.out; omega)).mono ?_; rintro e w21 ⟨rfl, hb⟩; have nHT := Aside0.mk (Kd.R_below HT.out hb); have nHBS := Aside0.mk (show B ≤ w21.heap.size from by rw [← HBW.out]; exact Nat.le_trans HB.out.size hb.size); have nHB := Aside0.mk (HB.out.trans (hb.mono (show B ≤ w20.heap.size from by rw [← HBW.out]; exact HB.out.size))); clear HT HB HBS hb HO; have HT := nHT; have HB := nHB; have HBS := nHBS; clear nHT nHB nHBS))
            | (go_at_call 24; clear M2; go_must (refine (same_calls _ _ l0 (srt lt l0.length l0) _ ⟨A0, c0, rfl, HC.out, Kd.C_below HR.out (HBW.out ▸ HB.out)⟩ (Kd.R_reads HT.out) (srt_perm lt _ l0).symm (by have := HN.out; omega)).mono ?_; rintro e w22 ⟨rfl, hb⟩; have nHBS := Aside0.mk (Nat.le_trans HBS.out hb.size); have nHB := Aside0.mk (HB.out.trans (hb.mono HBS.out)); clear HT HB HBS hb; have HB := nHB; have HBS := nHBS; clear nHB nHBS))
            | (go_at_call 10; go_must (refine (awake_calls _).mono ?_; rintro e w27 ⟨rfl, hb⟩; have nHB := Aside0.mk (HB.out.trans (hb.mono HBS.out)); clear HB hb; have HB := nHB; clear nHB)))
          go_ret
          exact ⟨rfl, HBW.out ▸ HB.out⟩
end Go.Proofs.Ytnpndjdkdcbjcaa.Pq
