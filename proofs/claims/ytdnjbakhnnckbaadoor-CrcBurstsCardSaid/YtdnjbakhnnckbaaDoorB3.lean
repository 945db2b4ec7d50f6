/- The law's own steps: a box for the four bytes, the copy, the loop, the two sums. -/
import Derived.Test.YtdnjbakhnnckbaaDoorB2
import Derived.Test.YtdnjbakhnnckbaaDoorPBx5
import Derived.StillTailTactics
import Derived.Deep.DeepMust
namespace Go.Proofs.YtdnjbakhnnckbaaDoor.PB
open Go.RowKit Go.Proofs.YtdnjbakhnnckbaaDoor.Crc Go.Proofs.YtdnjbakhnnckbaaDoorW.PrintWords Go.Proofs.YtdnjbakhnnckbaaDoorW.PrintLast Go.Proofs.YtdnjbakhnnckbaaDoorW.PrintMore
set_option linter.unusedVariables false
set_option linter.unusedSimpArgs false

theorem awake_true (k : Nat) (hk : 60 ≤ k) : papermilllaw09_awake.f k = some true := by
  have h : papermilllaw09_awake.f 60 = some true := by decide +kernel
  exact at_rounds (fun k => papermilllaw09_awake.mono k) hk h
def X4 (x0 x1 x2 x3 : Int) : Value := .agg #[.int .u8 x0, .int .u8 x1, .int .u8 x2, .int .u8 x3]
set_option maxHeartbeats 400000 in
theorem bursts_long (A0 : Option Addr) (c0 : Nat) (l0 : List Int) (a1 x0 x1 x2 x3 : Int) (w : World) (hr0 : Kd.C (Kd.int .u8) w A0 l0.length l0) (hc0 : l0.length ≤ c0) (hT : Kd.C (Kd.int .u32) w TabA crcTab.length crcTab) (hl : 4000 < l0.length) :
    Calls Tryd.prog 9 #[.slice A0 l0.length c0, .int .u16 a1, .agg #[.int .u8 x0, .int .u8 x1, .int .u8 x2, .int .u8 x3]] w fun e w' => e = .returned (.bool true) ∧ Below w.heap.size w w' := by
  have HT := Aside0.mk hT
  have HA := Aside0.mk (awake_true 60 (by decide))
  clear hr0 hc0 hT
  have HB := Aside0.mk (Below.refl w.heap.size w)
  have hlen : decide ((4000 : Int) < (l0.length : Int)) = true := decide_eq_true (by omega)
  clear hl
  go_enter Tryd.func9, Tryd.ntmps9
  go_wp2_with (first | ((with_reducible refine gate_dst (N := 5) rfl ?_); go_must (refine box_event ?hg (N := 5) ?hd (cs := #[.int .u8 x0, .int .u8 x1, .int .u8 x2, .int .u8 x3]) (t := 41) ?hr ?_; (case hd => rfl); (case hg => rfl); (case hr => first | (go_simp; done) | (go_simp; rfl)); intro gb hg w1 hbox hb; have HB1 := Aside0.mk hb; clear hbox hb hg HB; have HB := HB1; clear HB1)) | (go_at_call 12; (with_reducible refine (papermilllaw09_awake.calls 60 true _ (Kd.C_below HT.out HB.out) HA.out).mono ?_); rintro e w2 ⟨rfl, hb⟩; have HB1 := Aside0.mk (below_step HB.out hb); clear HB hb; have HB := HB1; clear HB1))
  go_ret
  exact ⟨rfl, HB.out⟩
set_option maxHeartbeats 400000 in
theorem bursts_none (A0 : Option Addr) (c0 : Nat) (l0 : List Int) (a1 x0 x1 x2 x3 : Int) (w : World) (hr0 : Kd.C (Kd.int .u8) w A0 l0.length l0) (hc0 : l0.length ≤ c0) (hT : Kd.C (Kd.int .u32) w TabA crcTab.length crcTab) (hl : l0.length = 0) :
    Calls Tryd.prog 9 #[.slice A0 l0.length c0, .int .u16 a1, .agg #[.int .u8 x0, .int .u8 x1, .int .u8 x2, .int .u8 x3]] w fun e w' => e = .returned (.bool true) ∧ Below w.heap.size w w' := by
  have HT := Aside0.mk hT
  have HA := Aside0.mk (awake_true 60 (by decide))
  clear hr0 hc0 hT
  have HB := Aside0.mk (Below.refl w.heap.size w)
  have hlen : decide ((4000 : Int) < (l0.length : Int)) = false := decide_eq_false (by omega)
  have hlen0 : ((l0.length : Int) == 0) = true := beq_iff_eq.mpr (by omega)
  clear hl
  go_enter Tryd.func9, Tryd.ntmps9
  go_wp2_with (first | ((with_reducible refine gate_dst (N := 5) rfl ?_); go_must (refine box_event ?hg (N := 5) ?hd (cs := #[.int .u8 x0, .int .u8 x1, .int .u8 x2, .int .u8 x3]) (t := 41) ?hr ?_; (case hd => rfl); (case hg => rfl); (case hr => first | (go_simp; done) | (go_simp; rfl)); intro gb hg w1 hbox hb; have HB1 := Aside0.mk hb; clear hbox hb hg HB; have HB := HB1; clear HB1)) | (go_at_call 12; (with_reducible refine (papermilllaw09_awake.calls 60 true _ (Kd.C_below HT.out HB.out) HA.out).mono ?_); rintro e w2 ⟨rfl, hb⟩; have HB1 := Aside0.mk (below_step HB.out hb); clear HB hb; have HB := HB1; clear HB1))
  go_ret
  exact ⟨rfl, HB.out⟩
theorem cell_far {W : World} {g gb i j : Nat} {u v : Value} (h : g ≠ gb) (hc : W.cell? ⟨gb, j, none⟩ = some v) : (W.setCell ⟨g, i, none⟩ u).cell? ⟨gb, j, none⟩ = some v := by
  have hh : (W.setCell ⟨g, i, none⟩ u).heap[gb]? = W.heap[gb]? := Below.heap_setCell W ⟨g, i, none⟩ u gb (fun e => h e.symm)
  unfold World.cell? at hc ⊢
  simp only [hh]
  exact hc
theorem sum_len (A : Option Addr) (n c : Nat) (l : List Int) (r : Int) (w : World) (hn : n = l.length) (hr : Kd.C (Kd.int .u8) w A l.length l) (hc : n ≤ c) (hT : Kd.C (Kd.int .u32) w TabA crcTab.length crcTab) (h : crc_Sum.f l = some r) :
    Calls Tryd.prog 13 #[.slice A n c] w fun e w' => e = .returned (.int .u32 r) ∧ Below w.heap.size w w' := by
  subst hn
  refine (crc_Sum.calls A c l r w hr hc hT h).mono ?_
  rintro e w' ⟨h1, h2⟩
  exact ⟨h1, h2.below⟩
set_option maxHeartbeats 4000000 in
theorem bursts_some (A0 : Option Addr) (c0 : Nat) (l0 : List Int) (a1 x0 x1 x2 x3 : Int) (w : World) (hr0 : Kd.C (Kd.int .u8) w A0 l0.length l0) (hc0 : l0.length ≤ c0) (hT : Kd.C (Kd.int .u32) w TabA crcTab.length crcTab) (ha : 0 ≤ a1 ∧ a1 < 65536) (hl : 0 < l0.length ∧ l0.length ≤ 4000) (xs : List Int) (ch : Bool) (s0 s1 : Int)
    (hres : bL [x0, x1, x2, x3] (Int.tmod a1 (l0.length : Int)).toNat 4 0 l0 false = (xs, ch)) (h0 : crc_Sum.f l0 = some s0) (h1 : crc_Sum.f xs = some s1) (hch : ((s1 != s0) == ch) = true) :
    Calls Tryd.prog 9 #[.slice A0 l0.length c0, .int .u16 a1, .agg #[.int .u8 x0, .int .u8 x1, .int .u8 x2, .int .u8 x3]] w fun e w' => e = .returned (.bool true) ∧ Below w.heap.size w w' := by
  have HT := Aside0.mk hT
  have HR0 := Aside0.mk hr0
  have HC0 := Aside0.mk hc0
  have HS0 := Aside0.mk h0
  have HS1 := Aside0.mk h1
  have HCH := Aside0.mk hch
  have HRES := Aside0.mk hres
  have HA := Aside0.mk (awake_true 60 (by decide))
  have hn0 : ((l0.length : Int) == 0) = false := beq_eq_false_iff_ne.mpr (by omega)
  have hn1 : ¬ ((l0.length : Int) = 0) := by omega
  have hn2 : ¬ (l0 = []) := by intro e; rw [e] at hl; exact absurd hl.1 (by decide)
  have hw1 : wrap64 a1 = a1 := by unfold wrap64; omega
  obtain ⟨i, hi⟩ : ∃ i : Int, Int.tmod a1 (l0.length : Int) = i := ⟨_, rfl⟩
  have hi0 : Aside0 (0 ≤ i ∧ i < l0.length) := ⟨by rw [← hi, Int.tmod_eq_emod_of_nonneg ha.1]; exact ⟨Int.emod_nonneg _ (by omega), Int.emod_lt_of_pos _ (by omega)⟩⟩
  have HL := Aside0.mk hl
  clear hr0 hc0 hT h0 h1 hch hres
  have HB := Aside0.mk (Below.refl w.heap.size w)
  have hlen : decide ((4000 : Int) < (l0.length : Int)) = false := decide_eq_false (by omega)
  clear hl ha
  go_enter Tryd.func9, Tryd.ntmps9
  go_wp2_with (first | ((with_reducible refine gate_dst (N := 5) rfl ?_); go_must (refine box_event ?hg (N := 5) ?hd (cs := #[.int .u8 x0, .int .u8 x1, .int .u8 x2, .int .u8 x3]) (t := 41) ?hr ?_; (case hd => rfl); (case hg => rfl); (case hr => first | (go_simp; done) | (go_simp; rfl)); intro gb hg w1 hbox hb; have HB1 := Aside0.mk hb; have BK := Aside0.mk hbox; have GE := Aside0.mk (Nat.le_of_eq hg.symm); clear hbox hb hg HB; have HB := HB1; clear HB1)) | ((with_reducible refine gate_builtin (b := .append) (xs := #[.tmp 20, .tmp 21]) rfl ?_); go_must (at_builtin; refine Kd.R_append_rows (Kd.int .u8) (w0 := w) w.heap.size rfl (.tmp 20) (.tmp 21) 22 5 (.int .u8 0) 1 rfl Tryd.underlying22 info5 rfl (by decide) (by omega) (.slice none 0 0) ([] : List Int) l0 _ _ _ (fun k_ => k_ ≠ gb) (fun _ => False) rfl rfl ?aO ?aR (fun _ _ h => h) (fun _ h => h.elim) ?aF ?aB ?aS ?aL ?_; (case aR => exact Kd.C_below HR0.out HB.out); (case aB => exact HB.out); (case aF => exact (fun k_ hk e_ => absurd (blk_lt BK.out) (by omega))); (case aO => exact Kd.R_nil _ _ _ _ _); (case aS => exact below_size HB.out); (case aL => have := HL.out; simp only [List.length_nil]; omega); intro v22 w2 ho hb hg hat; rw [List.nil_append] at ho; have BK1 := Aside0.mk ((hg.block gb (blk_lt BK.out) (by simp [Value.ownBlock])).trans BK.out); obtain ⟨g, cap, eo, hgb, hgl, hcl⟩ := Kd.R_form ho HL.out.1; subst eo; have HG := Aside0.mk (show w.heap.size ≤ g ∧ g ≠ gb from ⟨hgb, ho.1 g rfl⟩); have HO := Aside0.mk ho; have HBq := Aside0.mk hb; clear BK HB ho hb hg hat hgb hgl hcl; have BK := BK1; have HB := HBq; clear BK1 HBq)))
  go_loopg [9, 10] 4 (fun kq v9 v10 wr => ∃ (c : Bool) (K : Int) (ys : List Int), v9 = .bool c ∧ v10 = .int .i64 K ∧ Aside0 (0 ≤ K ∧ K ≤ 4 ∧ kq = 4 - K.toNat ∧ ys.length = l0.length) ∧ Aside0 (bL [x0, x1, x2, x3] i.toNat (4 - K.toNat) K.toNat ys c = (xs, ch)) ∧ Aside0 (Kd.R (Kd.int .u8) 5 wr w.heap.size (fun k_ => k_ ≠ gb) (.slice (some ⟨g, 0, none⟩) l0.length cap) ys) ∧ Aside0 (wr.heap[gb]? = some (.cells #[.int .u8 x0, .int .u8 x1, .int .u8 x2, .int .u8 x3] 41 (0, 0))) ∧ Aside0 (Below w.heap.size w wr))
  case atStart => exact ⟨false, 0, l0, rfl, rfl, ⟨by simp⟩, ⟨by rw [← hi]; exact HRES.out⟩, HO, BK, HB⟩
  case round =>
    clear HO BK HB hw1
    obtain ⟨c, K, ys, rfl, rfl, HK, HRS, HO, BK, HB⟩ := hrel
    have hwk : wrap64 (i + K) = i + K := by have := HK.out; have := hi0.out; have := HL.out; unfold wrap64; omega
    by_cases c1 : K < 4 ∧ i + K < l0.length
    · have hk := HK.out
      have hi1 := hi0.out
      have p1 : 0 ≤ i + K := by omega
      have q1 : i + K < (l0.length : Int) := c1.2
      have p2 : 0 ≤ K := hk.1
      have q2 : K < 4 := c1.1
      obtain ⟨hx, hf⟩ := Kd.R_celln 0 HO.out (i + K) p1 q1
      have hy : wr.cell? ⟨gb, K.toNat, none⟩ = some (.int .u8 (rd [x0, x1, x2, x3] K)) := by
        obtain ⟨j, rfl⟩ := Int.eq_ofNat_of_zero_le p2
        refine (blk_cell BK.out _).trans ?_
        have : j = 0 ∨ j = 1 ∨ j = 2 ∨ j = 3 := by omega
        rcases this with rfl | rfl | rfl | rfl <;> rfl
      have HP := Kd.R_putg HO.out (i + K) (Go.bits .xor .u8 (rd ys (i + K)) (rd [x0, x1, x2, x3] K))
      have HPA := Aside0.mk HP
      have HRN : Aside0 (bL [x0, x1, x2, x3] i.toNat (4 - (K + 1).toNat) (K + 1).toNat (ys.set (i + K).toNat (Go.bits .xor .u8 (rd ys (i + K)) (rd [x0, x1, x2, x3] K))) (c || (rd [x0, x1, x2, x3] K != 0)) = (xs, ch)) := ⟨by
        obtain ⟨f, hf_⟩ : ∃ f, 4 - K.toNat = f + 1 := ⟨3 - K.toNat, by omega⟩
        have hr := HRS.out
        rw [hf_] at hr
        unfold bL at hr
        rw [if_pos (by omega)] at hr
        rw [show 4 - (K + 1).toNat = f by omega, show (K + 1).toNat = K.toNat + 1 by omega, show (i + K).toNat = i.toNat + K.toNat by omega]
        rw [show ((i.toNat + K.toNat : Nat) : Int) = i + K by omega, show ((K.toNat : Nat) : Int) = K by omega] at hr
        exact hr⟩
      have HKN : Aside0 (0 ≤ K + 1 ∧ K + 1 ≤ 4 ∧ 4 - (K + 1).toNat = 4 - (K + 1).toNat ∧ (ys.set (i + K).toNat (Go.bits .xor .u8 (rd ys (i + K)) (rd [x0, x1, x2, x3] K))).length = l0.length) := ⟨by rw [List.length_set]; omega⟩
      have hk1 : wrap64 (K + 1) = K + 1 := by unfold wrap64; omega
      have HLT : Aside0 (4 - (K + 1).toNat < gk) := ⟨by omega⟩
      clear HP hk
      have d1 : decide (K < 4) = true := decide_eq_true c1.1
      have d2 : decide (i + K < (l0.length : Int)) = true := decide_eq_true c1.2
      clear c1
      replace p1 := eq_true p1
      replace q1 := eq_true q1
      replace p2 := eq_true p2
      replace q2 := eq_true q2
      have hwk2 : IntKind.i64.wrap (i + K) = i + K := (i64_w _).trans hwk
      have hxd : wr.drew.cell? ⟨g, (i + K).toNat, none⟩ = some (.int .u8 (rd ys (i + K))) := hx
      have hyd : wr.drew.cell? ⟨gb, K.toNat, none⟩ = some (.int .u8 (rd [x0, x1, x2, x3] K)) := hy
      have hwx : (wr.drew).frozen? ⟨g, (i + K).toNat, none⟩ = false := hf
      clear hx hy hf
      cases c
      · go_wp2
        go_still_tail 15, (by kernel_rfl)
        generalize hwd : ({ heap := wr.heap, tape := wr.tape, drawn := wr.drawn + 1, os := wr.os, output := wr.output } : World) = wd
        have HOD : Aside0 (Kd.R (Kd.int .u8) 5 wd w.heap.size (fun k_ => k_ ≠ gb) (.slice (some ⟨g, 0, none⟩) l0.length cap) ys) := ⟨by rw [← hwd]; exact Kd.R_drew HO.out⟩
        have BKD : Aside0 (wd.heap[gb]? = some (.cells #[.int .u8 x0, .int .u8 x1, .int .u8 x2, .int .u8 x3] 41 (0, 0))) := ⟨by rw [← hwd]; exact BK.out⟩
        have HBD : Aside0 (Below w.heap.size w wd) := ⟨by rw [← hwd]; exact below_drew1 HB.out⟩
        replace hxd : wd.cell? ⟨g, (i + K).toNat, none⟩ = some (.int .u8 (rd ys (i + K))) := by rw [← hwd]; exact hxd
        replace hyd : wd.cell? ⟨gb, K.toNat, none⟩ = some (.int .u8 (rd [x0, x1, x2, x3] K)) := by rw [← hwd]; exact hyd
        replace hwx : wd.frozen? ⟨g, (i + K).toNat, none⟩ = false := by rw [← hwd]; exact hwx
        clear hwd HO BK HB HPA
        go_wp2_with (first | ((with_reducible refine gate_store (t := 5) (p := 54) rfl ?_); go_must (refine store_event (t := 5) (p := 54) (v := ?vo_w5) (w1 := (wd.setCell ⟨g, (i + K).toNat, none⟩ (.int .u8 (Go.bits .xor .u8 (rd ys (i + K)) (rd [x0, x1, x2, x3] K))))) ?hg ?ho ?hn ?hr ?_; (case ho => rfl); (case hg => rfl); (case hn => rfl); (case hr => first | (go_simp; done) | (go_simp; rfl)); intro w5 hw; have HO5 : Aside0 (Kd.R (Kd.int .u8) 5 w5 w.heap.size (fun k_ => k_ ≠ gb) (.slice (some ⟨g, 0, none⟩) l0.length cap) (ys.set (i + K).toNat (Go.bits .xor .u8 (rd ys (i + K)) (rd [x0, x1, x2, x3] K)))) := ⟨by rw [hw]; exact (Kd.R_putg HOD.out (i + K) _).1⟩; have BK5 := Aside0.mk (show w5.heap[gb]? = some (.cells #[.int .u8 x0, .int .u8 x1, .int .u8 x2, .int .u8 x3] 41 (0, 0)) from (by rw [hw]; exact blk_far BKD.out (fun e => HG.out.2 e.symm) _)); have HB5 := Aside0.mk (show Below w.heap.size w w5 from (by rw [hw]; exact below_set HBD.out HG.out.1)); have hy5 : w5.cell? ⟨gb, K.toNat, none⟩ = some (.int .u8 (rd [x0, x1, x2, x3] K)) := (by rw [hw]; exact cell_far HG.out.2 hyd); clear hw HOD BKD HBD hxd hyd hwx)))
        go_roundg (4 - (K + 1).toNat)
        case measure => exact HLT.out
        case rel => exact ⟨_, K + 1, _, rfl, by first | rfl | simp [hk1], ⟨⟨HKN.out.1, HKN.out.2.1, rfl, HKN.out.2.2.2⟩⟩, HRN, HO5, BK5, HB5⟩
      · go_wp2
        go_still_tail 15, (by kernel_rfl)
        generalize hwd : ({ heap := wr.heap, tape := wr.tape, drawn := wr.drawn + 1, os := wr.os, output := wr.output } : World) = wd
        have HOD : Aside0 (Kd.R (Kd.int .u8) 5 wd w.heap.size (fun k_ => k_ ≠ gb) (.slice (some ⟨g, 0, none⟩) l0.length cap) ys) := ⟨by rw [← hwd]; exact Kd.R_drew HO.out⟩
        have BKD : Aside0 (wd.heap[gb]? = some (.cells #[.int .u8 x0, .int .u8 x1, .int .u8 x2, .int .u8 x3] 41 (0, 0))) := ⟨by rw [← hwd]; exact BK.out⟩
        have HBD : Aside0 (Below w.heap.size w wd) := ⟨by rw [← hwd]; exact below_drew1 HB.out⟩
        replace hxd : wd.cell? ⟨g, (i + K).toNat, none⟩ = some (.int .u8 (rd ys (i + K))) := by rw [← hwd]; exact hxd
        replace hyd : wd.cell? ⟨gb, K.toNat, none⟩ = some (.int .u8 (rd [x0, x1, x2, x3] K)) := by rw [← hwd]; exact hyd
        replace hwx : wd.frozen? ⟨g, (i + K).toNat, none⟩ = false := by rw [← hwd]; exact hwx
        clear hwd HO BK HB HPA
        go_wp2_with (first | ((with_reducible refine gate_store (t := 5) (p := 54) rfl ?_); go_must (refine store_event (t := 5) (p := 54) (v := ?vo_w5) (w1 := (wd.setCell ⟨g, (i + K).toNat, none⟩ (.int .u8 (Go.bits .xor .u8 (rd ys (i + K)) (rd [x0, x1, x2, x3] K))))) ?hg ?ho ?hn ?hr ?_; (case ho => rfl); (case hg => rfl); (case hn => rfl); (case hr => first | (go_simp; done) | (go_simp; rfl)); intro w5 hw; have HO5 : Aside0 (Kd.R (Kd.int .u8) 5 w5 w.heap.size (fun k_ => k_ ≠ gb) (.slice (some ⟨g, 0, none⟩) l0.length cap) (ys.set (i + K).toNat (Go.bits .xor .u8 (rd ys (i + K)) (rd [x0, x1, x2, x3] K)))) := ⟨by rw [hw]; exact (Kd.R_putg HOD.out (i + K) _).1⟩; have BK5 := Aside0.mk (show w5.heap[gb]? = some (.cells #[.int .u8 x0, .int .u8 x1, .int .u8 x2, .int .u8 x3] 41 (0, 0)) from (by rw [hw]; exact blk_far BKD.out (fun e => HG.out.2 e.symm) _)); have HB5 := Aside0.mk (show Below w.heap.size w w5 from (by rw [hw]; exact below_set HBD.out HG.out.1)); have hy5 : w5.cell? ⟨gb, K.toNat, none⟩ = some (.int .u8 (rd [x0, x1, x2, x3] K)) := (by rw [hw]; exact cell_far HG.out.2 hyd); clear hw HOD BKD HBD hxd hyd hwx)))
        go_roundg (4 - (K + 1).toNat)
        case measure => exact HLT.out
        case rel => exact ⟨_, K + 1, _, rfl, by first | rfl | simp [hk1], ⟨⟨HKN.out.1, HKN.out.2.1, rfl, HKN.out.2.2.2⟩⟩, HRN, HO5, BK5, HB5⟩
    · have hex : ys = xs ∧ c = ch := by
        have hk := HK.out
        have hr := HRS.out
        by_cases h4 : K = 4
        · subst h4
          simpa [bL] using hr
        · obtain ⟨f, hf⟩ : ∃ f, 4 - K.toNat = f + 1 := ⟨3 - K.toNat, by omega⟩
          rw [hf] at hr
          unfold bL at hr
          rw [if_neg (by have := hi0.out; omega)] at hr
          exact Prod.mk.inj hr
      obtain ⟨rfl, rfl⟩ := hex
      have HYL := Aside0.mk HK.out.2.2.2
      by_cases h4 : K < 4
      · have d1 : decide (K < 4) = true := decide_eq_true h4
        have d2 : decide (i + K < (l0.length : Int)) = false := decide_eq_false (by omega)
        clear c1 h4 HK HRS
        have hcq := HCH.out
        have tkA := True.intro
        go_wp2_with (first | (have t_ := tkA; clear t_ tkA; go_at_call 13; go_must ((refine (sum_len (some ⟨g, 0, none⟩) l0.length cap ys s1 _ (Kd.R_reads' HO.out).1 (Kd.R_reads' HO.out).2.2 (Kd.R_reads' HO.out).2.1 (Kd.C_below HT.out HB.out) HS1.out).mono ?_); rintro e w3 ⟨rfl, hb⟩; have HB1 := Aside0.mk (below_step HB.out hb); clear HB hb HO; have HB := HB1; clear HB1)) | (go_at_call 13; go_must ((refine (sum_len A0 l0.length c0 l0 s0 _ rfl (Kd.C_below HR0.out HB.out) HC0.out (Kd.C_below HT.out HB.out) HS0.out).mono ?_); rintro e w4 ⟨rfl, hb⟩; have HB1 := Aside0.mk (below_step HB.out hb); clear HB hb; have HB := HB1; clear HB1)) | (go_at_call 12; (with_reducible refine (papermilllaw09_awake.calls 60 true _ (Kd.C_below HT.out HB.out) HA.out).mono ?_); rintro e w2 ⟨rfl, hb⟩; have HB1 := Aside0.mk (below_step HB.out hb); clear HB hb; have HB := HB1; clear HB1))
        go_ret
        exact ⟨rfl, HB.out⟩
      · have d1 : decide (K < 4) = false := decide_eq_false h4
        clear c1 h4 HK HRS
        have hcq := HCH.out
        have tkA := True.intro
        go_wp2_with (first | (have t_ := tkA; clear t_ tkA; go_at_call 13; go_must ((refine (sum_len (some ⟨g, 0, none⟩) l0.length cap ys s1 _ (Kd.R_reads' HO.out).1 (Kd.R_reads' HO.out).2.2 (Kd.R_reads' HO.out).2.1 (Kd.C_below HT.out HB.out) HS1.out).mono ?_); rintro e w3 ⟨rfl, hb⟩; have HB1 := Aside0.mk (below_step HB.out hb); clear HB hb HO; have HB := HB1; clear HB1)) | (go_at_call 13; go_must ((refine (sum_len A0 l0.length c0 l0 s0 _ rfl (Kd.C_below HR0.out HB.out) HC0.out (Kd.C_below HT.out HB.out) HS0.out).mono ?_); rintro e w4 ⟨rfl, hb⟩; have HB1 := Aside0.mk (below_step HB.out hb); clear HB hb; have HB := HB1; clear HB1)) | (go_at_call 12; (with_reducible refine (papermilllaw09_awake.calls 60 true _ (Kd.C_below HT.out HB.out) HA.out).mono ?_); rintro e w2 ⟨rfl, hb⟩; have HB1 := Aside0.mk (below_step HB.out hb); clear HB hb; have HB := HB1; clear HB1))
        go_ret
        exact ⟨rfl, HB.out⟩
end Go.Proofs.YtdnjbakhnnckbaaDoor.PB
