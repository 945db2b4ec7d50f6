/- The reference's Pop. -/
import Derived.Test.YtnpndjdkdcbjcaaR1
namespace Go.Proofs.Ytnpndjdkdcbjcaa.Pq
open Go.RowKit Go.Proofs.Ytnpndjdkdcbjcaa.PX Go.Proofs.YtnpndjdkdcbjcaaW.PrintWords Go.Proofs.YtnpndjdkdcbjcaaW.PrintLast Go.Proofs.YtnpndjdkdcbjcaaW.PrintMore
set_option linter.unusedVariables false
set_option linter.unusedSimpArgs false
theorem empty_row {w : World} {B : Nat} {ok : Nat → Prop} {g : Nat} (hg : w.heap[g]? = some (.cells #[] 27 (0, 0))) (hB : B ≤ g) (hok : ok g) : k27.R 27 w B ok (.slice (some ⟨g, 0, none⟩) 0 0) ([] : List S27) := by
  refine ⟨fun k hk => ?_, [], ?_, ?_⟩
  · have : g = k := by simpa [Value.ownBlock] using hk
    exact this ▸ hok
  · exact ⟨rfl, Or.inr ⟨g, 0, #[], rfl, hB, hg, Nat.le_refl _, Nat.zero_le _, rfl, rfl⟩⟩
  · exact Reps.none _ _
theorem erase_take (L : List S27) (i : Nat) : L.take i ++ L.drop (i + 1) = L.eraseIdx i := (List.eraseIdx_eq_take_drop_succ L i).symm
theorem firstI_lt (lt : S27 → S27 → Bool) (hs : Swo lt) (L : List S27) (h : 0 < L.length) : firstI lt z27 L < L.length := (firstI_spec lt z27 hs L h).1
set_option maxHeartbeats 2000000 in
set_option maxRecDepth 100000 in
theorem rpop_calls (B g : Nat) (F : Nat → Prop) (mode : Int) (L : List S27) (w : World) (hQ : RQ w B g F mode L) (hF : ∀ k, w.heap.size ≤ k → F k) (h0 : 0 < L.length) :
    Calls Try.prog 16 #[.pointer (some ⟨g, 0, none⟩)] w fun e w' => e = .returned (.tuple #[.agg #[.int .i64 (L.getD (firstI (ltM mode) z27 L) z27).f0, .int .i64 (L.getD (firstI (ltM mode) z27 L) z27).f1], .bool true]) ∧ RQ w' B g F mode (L.eraseIdx (firstI (ltM mode) z27 L)) ∧ Below B w w' ∧ Keeps F w w' := by
  have HQ := Aside0.mk (hQ.narrow (F' := fun k => F k ∧ k < w.heap.size) (fun k hk hf => ⟨hf, hk⟩))
  have HF := Aside0.mk hF
  have H0 := Aside0.mk h0
  have HL := Aside0.mk hQ.2.1
  have HGL := Aside0.mk (show g < w.heap.size ∧ B ≤ g ∧ F g from ⟨hQ.lt.1, hQ.lt.2, hQ.1.2⟩)
  have HBZ := Aside0.mk (show B ≤ w.heap.size from Nat.le_trans hQ.lt.2 (Nat.le_of_lt hQ.lt.1))
  have HBS := HBZ
  have HS := Aside0.mk (Nat.le_refl w.heap.size)
  have HB := Aside0.mk (Below.refl B w)
  have HBT := Aside0.mk (Below.refl w.heap.size w)
  obtain ⟨i, hi⟩ : ∃ i, firstI (ltM mode) z27 L = i := ⟨_, rfl⟩
  have HI := Aside0.mk hi
  have HIL := Aside0.mk (show i < L.length from hi ▸ firstI_lt _ (swo_ltM mode) L h0)
  rw [hi]
  obtain ⟨x, hx⟩ : ∃ x, L.getD i z27 = x := ⟨_, rfl⟩
  rw [hx]
  have HX := Aside0.mk hx
  have d0 : ((L.length : Int) == 0) = false := by rw [beq_eq_false_iff_ne]; omega
  obtain ⟨Le, hLe⟩ : ∃ Le, L.eraseIdx i = Le := ⟨_, rfl⟩
  have HLe := Aside0.mk (show (([] : List S27) ++ L.take i) ++ L.drop (i + 1) = Le from by rw [List.nil_append, erase_take, hLe])
  obtain ⟨n6, hn6⟩ : ∃ n6, Le.length = n6 := ⟨_, rfl⟩
  have HN6 := Aside0.mk hn6
  have HLL := Aside0.mk (show Le.length ≤ 1000 from by rw [← hLe, List.length_eraseIdx]; have := HL.out; split <;> omega)
  rw [hLe]
  clear hn6 hLe
  clear hQ hF hi hx
  go_enter Try.func16, Try.ntmps16
  go_upto_region 5 with (first
    | ((with_reducible refine gate_dst (N := 2) rfl ?_); go_must (refine box_event ?hg (N := 2) ?hd (cs := #[.int .i64 0, .int .i64 0]) (t := 27) ?hr ?_; (case hd => rfl); (case hg => rfl); (case hr => first | (go_simp; done) | (go_simp; rfl)); intro g2 hg w1 hbox hb; have GE2 := Aside0.mk (show w.heap.size ≤ g2 from by rw [hg]; exact HS.out); have BK2 := Aside0.mk hbox; have k0 : w1.cell? ⟨g2, 0, none⟩ = some (.int .i64 0) := (blk_cell hbox 0).trans rfl; have k1 : w1.cell? ⟨g2, 1, none⟩ = some (.int .i64 0) := (blk_cell hbox 1).trans rfl; have k2 := blk_frozen hbox 0; have k3 := blk_frozen hbox 1; have nHQ := Aside0.mk (HQ.out.below hb); have nHBT := Aside0.mk (below_step HBT.out hb); clear HBT; have HBT := nHBT; clear nHBT; have nHB := Aside0.mk (HB.out.trans (hb.mono HBS.out)); have nHBS := Aside0.mk (Nat.le_trans HBS.out hb.size); have nHS := Aside0.mk (Nat.le_trans HS.out hb.size); clear HQ; clear HB; clear HBS; clear HS; have HQ := nHQ; clear nHQ; have HB := nHB; clear nHB; have HBS := nHBS; clear nHBS; have HS := nHS; clear nHS; obtain ⟨_, _, A_, c_, hg_, _, _⟩ := HQ.out; have f1 : w1.cell? ⟨g, 1, none⟩ = some (.slice A_ L.length c_) := (blk_cell hg_ 1).trans rfl; clear hg_ hbox hb hg))
    | (go_at_call 37; go_must (refine (first_calls B g _ mode L _ HQ.out).mono ?_; rw [HI.out]; rintro e w2 ⟨rfl, hb⟩; have nBK2 := Aside0.mk (blk_below BK2.out hb); have nHQ := Aside0.mk (HQ.out.below hb); have nHBT := Aside0.mk (below_step HBT.out hb); clear HBT; have HBT := nHBT; clear nHBT; have nHB := Aside0.mk (HB.out.trans (hb.mono HBS.out)); have nHBS := Aside0.mk (Nat.le_trans HBS.out hb.size); have nHS := Aside0.mk (Nat.le_trans HS.out hb.size); clear BK2; clear HQ; clear HB; clear HBS; clear HS; have BK2 := nBK2; clear nBK2; have HQ := nHQ; clear nHQ; have HB := nHB; clear nHB; have HBS := nHBS; clear nHBS; have HS := nHS; clear nHS; clear hb f1; obtain ⟨_, _, A, c, hg_, _, hFF_⟩ := HQ.out; obtain ⟨ad, rfl, e1, e2⟩ := row_at (Kd.F_now hFF_) i HIL.out; rw [HX.out] at e1 e2; have f1 : w2.cell? ⟨g, 1, none⟩ = some (.slice (some ad) L.length c) := (blk_cell hg_ 1).trans rfl; have p1 := eq_true (show (i : Int) < (L.length : Int) from by have := HIL.out; omega); have p2 := eq_true HIL.out; clear hg_ hFF_))
    | ((with_reducible refine gate_dst (N := 5) rfl ?_); go_must (refine box_event ?hg (N := 5) ?hd (cs := #[.int .i64 0, .int .i64 0]) (t := 27) ?hr ?_; (case hd => rfl); (case hg => rfl); (case hr => first | (go_simp; done) | (go_simp; rfl)); intro g5 hg w3 hbox hb; have GE5 := Aside0.mk (show w.heap.size ≤ g5 from by rw [hg]; exact HS.out); have NE5_2 := Aside0.mk (show g2 ≠ g5 from fun e => absurd (blk_lt BK2.out) (by omega)); have nBK2 := Aside0.mk (blk_below BK2.out hb); clear BK2; have BK2 := nBK2; clear nBK2; have BK5 := Aside0.mk hbox; have k0 : w3.cell? ⟨g5, 0, none⟩ = some (.int .i64 0) := (blk_cell hbox 0).trans rfl; have k1 : w3.cell? ⟨g5, 1, none⟩ = some (.int .i64 0) := (blk_cell hbox 1).trans rfl; have k2 := blk_frozen hbox 0; have k3 := blk_frozen hbox 1; have nHQ := Aside0.mk (HQ.out.below hb); have nHBT := Aside0.mk (below_step HBT.out hb); clear HBT; have HBT := nHBT; clear nHBT; have nHB := Aside0.mk (HB.out.trans (hb.mono HBS.out)); have nHBS := Aside0.mk (Nat.le_trans HBS.out hb.size); have nHS := Aside0.mk (Nat.le_trans HS.out hb.size); clear HQ; clear HB; clear HBS; clear HS; have HQ := nHQ; clear nHQ; have HB := nHB; clear nHB; have HBS := nHBS; clear nHBS; have HS := nHS; clear nHS; clear hbox hb hg))
    | ((with_reducible refine gate_store (t := 27) (p := 5) rfl ?_); go_must (refine store_event (t := 27) (p := 5) (v := ?vo_5) (w1 := ((w3.setCell ⟨g5, 0, none⟩ (.int .i64 x.f0)).setCell ⟨g5, 1, none⟩ (.int .i64 x.f1))) ?hg ?ho ?hn ?hr ?_; (case ho => rfl); (case hg => rfl); (case hn => rfl); (case hr => first | (go_simp; done) | (go_simp; rfl)); intro w4 hw; have nBK2 := Aside0.mk (show w4.heap[g2]? = some (.cells #[.int .i64 0, .int .i64 0] 27 (0, 0)) from (by rw [hw]; exact blk_far (blk_far BK2.out (p := ⟨g5, 0, none⟩) NE5_2.out _) (p := ⟨g5, 1, none⟩) NE5_2.out _)); clear BK2; have BK2 := nBK2; clear nBK2; have nBK5 := Aside0.mk (show w4.heap[g5]? = some (.cells #[.int .i64 x.f0, .int .i64 x.f1] 27 (0, 0)) from (by rw [hw]; exact put_two BK5.out)); clear BK5; have BK5 := nBK5; clear nBK5; have hkp := (show ∀ k, k < w.heap.size → w4.heap[k]? = w3.heap[k]? from by rw [hw]; exact fun k hf => (Below.heap_setCell _ ⟨g5, 1, none⟩ _ k (by have := GE5.out; show k ≠ g5; omega)).trans (Below.heap_setCell _ ⟨g5, 0, none⟩ _ k (by have := GE5.out; show k ≠ g5; omega))); have nHQ := Aside0.mk (HQ.out.keep (fun k _ hf => hkp k hf.2)); have nHBT := Aside0.mk (show Below w.heap.size w w4 from (by rw [hw]; exact (HBT.out.setCell GE5.out _).setCell GE5.out _)); clear HBT; have HBT := nHBT; clear nHBT; have nHB := Aside0.mk (show Below B w w4 from (by rw [hw]; exact (HB.out.setCell (Nat.le_trans HBZ.out GE5.out) _).setCell (Nat.le_trans HBZ.out GE5.out) _)); have nHBS := Aside0.mk (show B ≤ w4.heap.size from (by rw [hw]; simpa using HBS.out)); have nHS := Aside0.mk (show w.heap.size ≤ w4.heap.size from (by rw [hw]; simpa using HS.out)); clear HQ; clear HB; clear HBS; clear HS; have HQ := nHQ; clear nHQ; have HB := nHB; clear nHB; have HBS := nHBS; clear nHBS; have HS := nHS; clear nHS; clear hw hkp e1 e2 f1 p1 p2 k0 k1 k2 k3; skip)))
  obtain ⟨_, _, A', c', hg, hc, hFF⟩ := HQ.out
  have hlen : 0 < L.length := H0.out
  obtain ⟨ad', rfl, _, _⟩ := row_at (Kd.F_now hFF) 0 hlen
  clear hlen
  have HG := Aside0.mk hg
  have HC := Aside0.mk hc
  have HFF := Aside0.mk hFF
  have e1 : w4.cell? ⟨g, 1, none⟩ = some (.slice (some ad') L.length c') := (blk_cell hg 1).trans rfl
  have a1 : ∀ o, (w4.alloc o).cell? ⟨g, 1, none⟩ = some (.slice (some ad') L.length c') := fun o => (Below.cell (below_alloc (Below.refl _ _) o) (blk_lt hg)).trans e1
  obtain ⟨N4, hN4⟩ : ∃ N4, w4.heap.size = N4 := ⟨_, rfl⟩
  have HN4 := Aside0.mk hN4
  have HO0 := Aside0.mk (show k27.R 27 (w4.drew.alloc (.cells #[] 27)) N4 (fun k => N4 ≤ k) (.slice (some ⟨w4.drew.heap.size, 0, none⟩) 0 0) ([] : List S27) from empty_row (blk_new w4.drew _) (Nat.le_of_eq hN4.symm) (Nat.le_of_eq hN4.symm))
  have HT0 := Aside0.mk (show k27.C (w4.drew.alloc (.cells #[] 27)) (some ad') i (L.take i) from by have h_ := Kd.C_take (Kd.F_now (Kd.F_alloc (Kd.F_drew hFF) (.cells #[] 27))) (m := i) (Nat.le_of_lt HIL.out); rwa [List.length_take, Nat.min_eq_left (Nat.le_of_lt HIL.out)] at h_)
  have HB0 := Aside0.mk (show Below N4 w4 (w4.drew.alloc (.cells #[] 27)) from hN4 ▸ below_alloc (Below.refl _ _).drew _)
  have HZ0 := Aside0.mk (show N4 ≤ (w4.drew.alloc (.cells #[] 27)).heap.size from HN4.out ▸ (below_alloc (Below.refl w4.heap.size w4).drew (.cells #[] 27)).size)
  have HGN := Aside0.mk (show g < N4 ∧ g2 < N4 ∧ g5 < N4 ∧ w.heap.size ≤ N4 from ⟨hN4 ▸ blk_lt hg, hN4 ▸ blk_lt BK2.out, hN4 ▸ blk_lt BK5.out, hN4 ▸ HS.out⟩)
  have p1 : (i : Int) ≤ (c' : Int) := by have := HIL.out; omega
  have p2 : (i : Int) ≤ (L.length : Int) := by have := HIL.out; omega
  have p3 : (i : Int) + 1 ≤ (L.length : Int) := by have := HIL.out; omega
  have p6 : (0 : Int) ≤ (i : Int) + 1 := by omega
  have p4 : (L.length : Int) ≤ (c' : Int) := by omega
  have p5 : i ≤ c' := by have := HIL.out; omega
  have q1 : IntKind.i64.wrap ((i : Int) + 1) = (i : Int) + 1 := by rw [IntKind.wrap_i64]; have := HIL.out; have := HL.out; omega
  have q2 : wrap64 ((i : Int) + 1) = (i : Int) + 1 := by have := HIL.out; have := HL.out; unfold wrap64; omega
  have n5 : (g5 = g) = False := eq_false (fun e => by have := GE5.out; have := HGL.out; omega)
  have n2 : (g2 = g) = False := eq_false (fun e => by have := GE2.out; have := HGL.out; omega)
  have n5' : (g = g5) = False := eq_false (fun e => by have := GE5.out; have := HGL.out; omega)
  have n2' : (g = g2) = False := eq_false (fun e => by have := GE2.out; have := HGL.out; omega)
  have HNE := Aside0.mk (show g ≠ g2 from fun e => by have := GE2.out; have := HGL.out; omega)
  obtain ⟨A2, hA2⟩ : ∃ A2, (if c' = i + 1 then some ad' else some (ad'.add ((i + 1) * 2))) = A2 := ⟨_, rfl⟩
  have HD0 := Aside0.mk (show ∀ w5, Below N4 w4 w5 → k27.C w5 A2 (L.length - (i + 1)) (L.drop (i + 1)) from fun w5 hb => by have h_ := Kd.C_drop (Kd.F_now (Kd.F_below HFF.out (HN4.out.symm ▸ hb))) (m := i + 1) (c := c') HIL.out HC.out; rw [List.length_drop] at h_; exact hA2 ▸ h_)
  have HA2 := Aside0.mk hA2
  clear hA2 hN4 hg hc hFF d0
  by_cases hce : c' = i + 1
  · have hA : some ad' = A2 := by rw [← HA2.out, if_pos hce]
    have HAA := Aside0.mk hA.symm
    replace hce := eq_true hce
    clear hA
    go_region_law (first | (refine Kd.R_append_rows_step k27 (w0 := w4) (W := w4.drew.alloc (.cells #[] 27)) N4 (by simp [Region.wanted]) (.tmp 23) (.tmp 29) 31 27 (.agg #[.int .i64 0, .int .i64 0]) 16 rfl Try.underlying31 info27 rfl (by decide) (by decide) (.slice (some ⟨w4.drew.heap.size, 0, none⟩) 0 0) ([] : List S27) (L.take i) (some ad') i c' (fun k => N4 ≤ k) (fun _ => False) (by simp [Act.eval, Act.put]) (by simp [Act.eval, Act.put]) HO0.out HT0.out k27_KM (fun _ h => h.elim) (fun k hk => Nat.le_trans HZ0.out hk) HB0.out HZ0.out (by have := HIL.out; have := HL.out; simp; omega) ?_; intro v5 w5 hr2 hb2 hg2 hat2; have HO5 := Aside0.mk hr2; have HB5 := Aside0.mk hb2; have BK2' := Aside0.mk (blk_below BK2.out (HN4.out.symm ▸ hb2)); have BK5' := Aside0.mk (blk_below BK5.out (HN4.out.symm ▸ hb2)); have HG5 := Aside0.mk (blk_below HG.out (HN4.out.symm ▸ hb2)); have e1_5 : w5.cell? ⟨g, 1, none⟩ = some (.slice (some ad') L.length c') := (blk_cell HG5.out 1).trans rfl; clear hr2 hb2 hg2 hat2) | (refine Kd.R_append_rows_step k27 (w0 := w4) (W := w5) N4 (by simp [Region.wanted]) (.tmp 30) (.tmp 37) 31 27 (.agg #[.int .i64 0, .int .i64 0]) 16 rfl Try.underlying31 info27 rfl (by decide) (by decide) v5 (([] : List S27) ++ L.take i) (L.drop (i + 1)) A2 (L.length - (i + 1)) (c' - (i + 1)) (fun k => N4 ≤ k) (fun _ => False) (by simp [Act.eval, Act.put]) (by rw [HAA.out]; simp [Act.eval, Act.put]) HO5.out (HD0.out w5 HB5.out) k27_KM (fun _ h => h.elim) (fun k hk => Nat.le_trans (HN4.out ▸ HB5.out.size) hk) HB5.out (HN4.out ▸ HB5.out.size) (by have := HIL.out; have := HL.out; simp; omega) ?_; intro v6 w6 hr2 hb2 hg2 hat2; rw [HLe.out] at hr2; obtain ⟨Af, cf, hv⟩ := Kd.R_slice hr2; rw [HN6.out] at hv; subst hv; have HO6 := Aside0.mk hr2; have HB6 := Aside0.mk hb2; have BK2'' := Aside0.mk (blk_below BK2.out (HN4.out.symm ▸ hb2)); have BK5'' := Aside0.mk (blk_below BK5.out (HN4.out.symm ▸ hb2)); have HG6 := Aside0.mk (blk_below HG.out (HN4.out.symm ▸ hb2)); have e1_6 : w6.cell? ⟨g, 1, none⟩ = some (.slice (some ad') L.length c') := (blk_cell HG6.out 1).trans rfl; have f1_6 := blk_frozen HG6.out 1; clear hr2 hb2 hg2 hat2))
    all_goals
      have e2 : w6.cell? ⟨g2, 0, none⟩ = some (.int .i64 0) := (blk_cell BK2''.out 0).trans rfl
      have e3 : w6.cell? ⟨g2, 1, none⟩ = some (.int .i64 0) := (blk_cell BK2''.out 1).trans rfl
      have e4 := blk_frozen BK2''.out 0
      have e5 := blk_frozen BK2''.out 1
      have e6 : w6.cell? ⟨g5, 0, none⟩ = some (.int .i64 x.f0) := (blk_cell BK5''.out 0).trans rfl
      have e7 : w6.cell? ⟨g5, 1, none⟩ = some (.int .i64 x.f1) := (blk_cell BK5''.out 1).trans rfl
      go_wp2
      have BK2f := blk_far BK2''.out (p := ⟨g, 1, none⟩) (show g2 ≠ g from HNE.out.symm) (.slice Af n6 cf)
      have BF := put_two (x := .int .i64 x.f0) (y := .int .i64 x.f1) BK2f
      have r0 := (blk_cell BF 0).trans rfl
      have r1 := (blk_cell BF 1).trans rfl
      have hng : g ≠ g2 := HNE.out
      have BGf := blk_far (blk_far (blk_put HG6.out 1 (.slice Af n6 cf) rfl) (p := ⟨g2, 0, none⟩) hng (.int .i64 x.f0)) (p := ⟨g2, 1, none⟩) hng (.int .i64 x.f1)
      have BGF := Aside0.mk BGf
      have HRQ := Aside0.mk (show RQ (((w6.setCell ⟨g, 1, none⟩ (.slice Af n6 cf)).setCell ⟨g2, 0, none⟩ (.int .i64 x.f0)).setCell ⟨g2, 1, none⟩ (.int .i64 x.f1)) B g F mode Le from
        ⟨HGL.out.2, HLL.out, Af, cf, by rw [HN6.out]; exact BGF.out, by rw [HN6.out]; exact (Kd.R_reads' HO6.out).2.1, by
          rw [HN6.out]
          exact Kd.F_mono (Kd.F_far (Kd.F_far (Kd.F_far (Kd.R_F HO6.out) (p := ⟨g, 1, none⟩) (fun k hk e => by have := HGN.out; have e' : k = g := e; omega) _) (p := ⟨g2, 0, none⟩) (fun k hk e => by have := HGN.out; have e' : k = g2 := e; omega) _) (p := ⟨g2, 1, none⟩) (fun k hk e => by have := HGN.out; have e' : k = g2 := e; omega) _) (fun k hk => ⟨fun e => by have := HGN.out; omega, HF.out k (Nat.le_trans HGN.out.2.2.2 hk)⟩)⟩)
      have HBF := Aside0.mk (show Below B w (((w6.setCell ⟨g, 1, none⟩ (.slice Af n6 cf)).setCell ⟨g2, 0, none⟩ (.int .i64 x.f0)).setCell ⟨g2, 1, none⟩ (.int .i64 x.f1)) from (((HB.out.trans (HB6.out.mono (Nat.le_trans HBZ.out HGN.out.2.2.2))).setCell HGL.out.2.1 _).setCell (Nat.le_trans HBZ.out GE2.out) _).setCell (Nat.le_trans HBZ.out GE2.out) _)
      have HKF := Aside0.mk (show Keeps F w (((w6.setCell ⟨g, 1, none⟩ (.slice Af n6 cf)).setCell ⟨g2, 0, none⟩ (.int .i64 x.f0)).setCell ⟨g2, 1, none⟩ (.int .i64 x.f1)) from
        ⟨HBF.out.mono (Nat.zero_le _), fun k hk hf => (Below.heap_setCell _ ⟨g2, 1, none⟩ _ k (by have := GE2.out; show k ≠ g2; omega)).trans ((Below.heap_setCell _ ⟨g2, 0, none⟩ _ k (by have := GE2.out; show k ≠ g2; omega)).trans ((Below.heap_setCell _ ⟨g, 1, none⟩ _ k (fun e => hf (e ▸ HGL.out.2.2))).trans ((HB6.out.block k (Nat.lt_of_lt_of_le hk HGN.out.2.2.2)).trans (HBT.out.block k hk))))⟩)
      clear e2 e3 e4 e5 e6 e7 BF BK2f BGf
      exact bodyPost_ret (v := .tuple #[.agg #[.int .i64 x.f0, .int .i64 x.f1], .bool true]) (by simp [results, Try.results16, go_sem, r0, r1]) rfl ⟨rfl, HRQ.out, HBF.out, HKF.out⟩
  · have hA : some (ad'.add ((i + 1) * 2)) = A2 := by rw [← HA2.out, if_neg hce]
    have HAA := Aside0.mk hA.symm
    replace hce := eq_false hce
    clear hA
    go_region_law (first | (refine Kd.R_append_rows_step k27 (w0 := w4) (W := w4.drew.alloc (.cells #[] 27)) N4 (by simp [Region.wanted]) (.tmp 23) (.tmp 29) 31 27 (.agg #[.int .i64 0, .int .i64 0]) 16 rfl Try.underlying31 info27 rfl (by decide) (by decide) (.slice (some ⟨w4.drew.heap.size, 0, none⟩) 0 0) ([] : List S27) (L.take i) (some ad') i c' (fun k => N4 ≤ k) (fun _ => False) (by simp [Act.eval, Act.put]) (by simp [Act.eval, Act.put]) HO0.out HT0.out k27_KM (fun _ h => h.elim) (fun k hk => Nat.le_trans HZ0.out hk) HB0.out HZ0.out (by have := HIL.out; have := HL.out; simp; omega) ?_; intro v5 w5 hr2 hb2 hg2 hat2; have HO5 := Aside0.mk hr2; have HB5 := Aside0.mk hb2; have BK2' := Aside0.mk (blk_below BK2.out (HN4.out.symm ▸ hb2)); have BK5' := Aside0.mk (blk_below BK5.out (HN4.out.symm ▸ hb2)); have HG5 := Aside0.mk (blk_below HG.out (HN4.out.symm ▸ hb2)); have e1_5 : w5.cell? ⟨g, 1, none⟩ = some (.slice (some ad') L.length c') := (blk_cell HG5.out 1).trans rfl; clear hr2 hb2 hg2 hat2) | (refine Kd.R_append_rows_step k27 (w0 := w4) (W := w5) N4 (by simp [Region.wanted]) (.tmp 30) (.tmp 37) 31 27 (.agg #[.int .i64 0, .int .i64 0]) 16 rfl Try.underlying31 info27 rfl (by decide) (by decide) v5 (([] : List S27) ++ L.take i) (L.drop (i + 1)) A2 (L.length - (i + 1)) (c' - (i + 1)) (fun k => N4 ≤ k) (fun _ => False) (by simp [Act.eval, Act.put]) (by rw [HAA.out]; simp [Act.eval, Act.put]) HO5.out (HD0.out w5 HB5.out) k27_KM (fun _ h => h.elim) (fun k hk => Nat.le_trans (HN4.out ▸ HB5.out.size) hk) HB5.out (HN4.out ▸ HB5.out.size) (by have := HIL.out; have := HL.out; simp; omega) ?_; intro v6 w6 hr2 hb2 hg2 hat2; rw [HLe.out] at hr2; obtain ⟨Af, cf, hv⟩ := Kd.R_slice hr2; rw [HN6.out] at hv; subst hv; have HO6 := Aside0.mk hr2; have HB6 := Aside0.mk hb2; have BK2'' := Aside0.mk (blk_below BK2.out (HN4.out.symm ▸ hb2)); have BK5'' := Aside0.mk (blk_below BK5.out (HN4.out.symm ▸ hb2)); have HG6 := Aside0.mk (blk_below HG.out (HN4.out.symm ▸ hb2)); have e1_6 : w6.cell? ⟨g, 1, none⟩ = some (.slice (some ad') L.length c') := (blk_cell HG6.out 1).trans rfl; have f1_6 := blk_frozen HG6.out 1; clear hr2 hb2 hg2 hat2))
    all_goals
      have e2 : w6.cell? ⟨g2, 0, none⟩ = some (.int .i64 0) := (blk_cell BK2''.out 0).trans rfl
      have e3 : w6.cell? ⟨g2, 1, none⟩ = some (.int .i64 0) := (blk_cell BK2''.out 1).trans rfl
      have e4 := blk_frozen BK2''.out 0
      have e5 := blk_frozen BK2''.out 1
      have e6 : w6.cell? ⟨g5, 0, none⟩ = some (.int .i64 x.f0) := (blk_cell BK5''.out 0).trans rfl
      have e7 : w6.cell? ⟨g5, 1, none⟩ = some (.int .i64 x.f1) := (blk_cell BK5''.out 1).trans rfl
      go_wp2
      have BK2f := blk_far BK2''.out (p := ⟨g, 1, none⟩) (show g2 ≠ g from HNE.out.symm) (.slice Af n6 cf)
      have BF := put_two (x := .int .i64 x.f0) (y := .int .i64 x.f1) BK2f
      have r0 := (blk_cell BF 0).trans rfl
      have r1 := (blk_cell BF 1).trans rfl
      have hng : g ≠ g2 := HNE.out
      have BGf := blk_far (blk_far (blk_put HG6.out 1 (.slice Af n6 cf) rfl) (p := ⟨g2, 0, none⟩) hng (.int .i64 x.f0)) (p := ⟨g2, 1, none⟩) hng (.int .i64 x.f1)
      have BGF := Aside0.mk BGf
      have HRQ := Aside0.mk (show RQ (((w6.setCell ⟨g, 1, none⟩ (.slice Af n6 cf)).setCell ⟨g2, 0, none⟩ (.int .i64 x.f0)).setCell ⟨g2, 1, none⟩ (.int .i64 x.f1)) B g F mode Le from
        ⟨HGL.out.2, HLL.out, Af, cf, by rw [HN6.out]; exact BGF.out, by rw [HN6.out]; exact (Kd.R_reads' HO6.out).2.1, by
          rw [HN6.out]
          exact Kd.F_mono (Kd.F_far (Kd.F_far (Kd.F_far (Kd.R_F HO6.out) (p := ⟨g, 1, none⟩) (fun k hk e => by have := HGN.out; have e' : k = g := e; omega) _) (p := ⟨g2, 0, none⟩) (fun k hk e => by have := HGN.out; have e' : k = g2 := e; omega) _) (p := ⟨g2, 1, none⟩) (fun k hk e => by have := HGN.out; have e' : k = g2 := e; omega) _) (fun k hk => ⟨fun e => by have := HGN.out; omega, HF.out k (Nat.le_trans HGN.out.2.2.2 hk)⟩)⟩)
      have HBF := Aside0.mk (show Below B w (((w6.setCell ⟨g, 1, none⟩ (.slice Af n6 cf)).setCell ⟨g2, 0, none⟩ (.int .i64 x.f0)).setCell ⟨g2, 1, none⟩ (.int .i64 x.f1)) from (((HB.out.trans (HB6.out.mono (Nat.le_trans HBZ.out HGN.out.2.2.2))).setCell HGL.out.2.1 _).setCell (Nat.le_trans HBZ.out GE2.out) _).setCell (Nat.le_trans HBZ.out GE2.out) _)
      have HKF := Aside0.mk (show Keeps F w (((w6.setCell ⟨g, 1, none⟩ (.slice Af n6 cf)).setCell ⟨g2, 0, none⟩ (.int .i64 x.f0)).setCell ⟨g2, 1, none⟩ (.int .i64 x.f1)) from
        ⟨HBF.out.mono (Nat.zero_le _), fun k hk hf => (Below.heap_setCell _ ⟨g2, 1, none⟩ _ k (by have := GE2.out; show k ≠ g2; omega)).trans ((Below.heap_setCell _ ⟨g2, 0, none⟩ _ k (by have := GE2.out; show k ≠ g2; omega)).trans ((Below.heap_setCell _ ⟨g, 1, none⟩ _ k (fun e => hf (e ▸ HGL.out.2.2))).trans ((HB6.out.block k (Nat.lt_of_lt_of_le hk HGN.out.2.2.2)).trans (HBT.out.block k hk))))⟩)
      clear e2 e3 e4 e5 e6 e7 BF BK2f BGf
      exact bodyPost_ret (v := .tuple #[.agg #[.int .i64 x.f0, .int .i64 x.f1], .bool true]) (by simp [results, Try.results16, go_sem, r0, r1]) rfl ⟨rfl, HRQ.out, HBF.out, HKF.out⟩
end Go.Proofs.Ytnpndjdkdcbjcaa.Pq
