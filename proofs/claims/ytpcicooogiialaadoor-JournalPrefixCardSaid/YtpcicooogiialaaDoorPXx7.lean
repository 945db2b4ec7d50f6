-- Written by a program of this session (hyb.py), which runs the print over the translation with contracts of its own added; it is not the print itself. Lean checks it.
import Derived.Test.YtpcicooogiialaaDoorPXx0
import Derived.Test.YtpcicooogiialaaDoorPXx1
import Derived.Test.YtpcicooogiialaaDoorPXx3
import Derived.Test.YtpcicooogiialaaDoorPXx5
import Derived.Test.YtpcicooogiialaaDoorPXx6
namespace Go.Proofs.YtpcicooogiialaaDoor.PX
open Go.RowKit Go.Proofs.YtpcicooogiialaaDoorW.PrintWords Go.Proofs.YtpcicooogiialaaDoorW.PrintLast Go.Proofs.YtpcicooogiialaaDoorW.PrintMore
attribute [local go_sem] max2_int min2_int max_two min_two max_three min_three max_four min_four   -- for this text's walks alone
set_option linter.unusedVariables false
set_option linter.unusedSimpArgs false

/-! ### journal_Recover: function 23 -/
def journal_Recover.l0 : Nat → List Int → List S24 → Int → Option (List S24 × Int)
  | 0, _, _, _ => none
  | k + 1, l0, acc, at_ => if 0 ≤ at_ ∧ at_ ≤ (l0.length : Int) ∧ l0.length ≤ 1000000 ∧ acc.length ≤ 1000000 then (crc_Open.f k (l0.drop at_.toNat)).bind fun t => if t.2.2 = 0 then (journal_Get.f k t.1).bind fun g => if g.2.2.2.2.2.2.2 = 0 then (if 0 < acc.length ∧ g.2.1 < (rd_T24 acc ((acc.length : Int) - 1)).f1 then some (acc, at_) else if 0 ≤ t.2.1 ∧ t.2.1 ≤ (l0.length : Int) then journal_Recover.l0 k l0 (acc ++ [⟨g.1, g.2.1, g.2.2.1, g.2.2.2.1, g.2.2.2.2.1, g.2.2.2.2.2.1, g.2.2.2.2.2.2.1⟩]) (at_ + t.2.1) else none) else some (acc, at_) else some (acc, at_) else none
def journal_Recover.f (k : Nat) (l0 : List Int) : Option (List S24 × Int) := journal_Recover.l0 k l0 [] 0
theorem journal_Recover.mono_l : ∀ k l0 acc a, LeO (journal_Recover.l0 k l0 acc a) (journal_Recover.l0 (k + 1) l0 acc a)
  | 0, l0, acc, a => by
    intro r h
    simp [journal_Recover.l0] at h
  | k + 1, l0, acc, a => by
    unfold journal_Recover.l0
    repeat' first
      | (with_reducible exact LeO.refl _)
      | (with_reducible exact LeO.none _)
      | exact journal_Recover.mono_l k _ _ _
      | exact crc_Open.mono _ _
      | exact journal_Get.mono _ _
      | (with_reducible refine LeO.ite ?_ ?_)
      | (with_reducible refine LeO.bind ?_ (fun _ => ?_))
theorem journal_Recover.mono : ∀ a0 k, LeO (journal_Recover.f k a0) (journal_Recover.f (k + 1) a0) := fun a0 k => journal_Recover.mono_l k a0 [] 0
set_option maxHeartbeats 4000000 in
set_option maxRecDepth 100000 in
theorem journal_Recover.calls (k : Nat) (A0 : Option Addr) (c0 : Nat) (l0 : List Int) (r1 : List S24) (r2 : Int) (w : World) (hr0 : Kd.C (Kd.int .u8) w A0 l0.length l0) (hc0 : l0.length ≤ c0) (hT : Kd.C (Kd.int .u32) w TabA crcTab.length crcTab) (h : journal_Recover.f k l0 = some (r1, r2)) :
    Calls Tryd.prog 23 #[.slice A0 l0.length c0] w fun e w' => ∃ v0_ : Value, e = .returned (.tuple #[v0_, .int .i64 r2]) ∧ Kd.S k24 24 w' w.heap.size (fun _ => True) v0_ r1 ∧ Below w.heap.size w w' := by
  have hu24 := Tryd.underlying24
  have HR := Aside0.mk hr0
  have HC := Aside0.mk hc0
  have H := Aside0.mk h
  have HB := Aside0.mk (Below.refl w.heap.size w)
  have HT := Aside0.mk hT
  clear hr0 hc0 h hT
  go_enter Tryd.func23, Tryd.ntmps23
  go_wp2
  go_loopg [4, 5] k (fun kq v4 v5 w' => ∃ (acc : List S24) (at_ : Int), v5 = .int .i64 at_ ∧ Aside0 (kq ≤ k) ∧ Aside0 (journal_Recover.l0 kq l0 acc at_ = some (r1, r2)) ∧ Aside0 (Kd.S k24 24 w' w.heap.size (fun _ => True) v4 acc) ∧ Aside0 (Below w.heap.size w w'))
  case atStart => exact ⟨[], 0, rfl, ⟨Nat.le_refl _⟩, H, ⟨Kd.S_nil _ _ _ _ _⟩, HB⟩
  case round =>
    clear H HB
    obtain ⟨acc, at_, rfl, HK, HQ, HS3, HB3⟩ := hrel
    cases gk with
    | zero => exact absurd HQ.out (by simp [journal_Recover.l0])
    | succ k =>
    have hq := HQ.out
    unfold journal_Recover.l0 at hq
    by_cases ca : 0 ≤ at_ ∧ at_ ≤ (l0.length : Int) ∧ l0.length ≤ 1000000 ∧ acc.length ≤ 1000000
    case neg => rw [if_neg ca] at hq; cases hq
    rw [if_pos ca] at hq
    obtain ⟨⟨t1, t2, t3⟩, hcs, hcr⟩ := Option.bind_eq_some_iff.mp hq
    have HCS := Aside0.mk hcs
    obtain ⟨i0_, hi0_, _, hsz0_, _⟩ := info_parts info5
    obtain ⟨A5, hcut5, hA5, hC5⟩ := print_drop_of (P := Tryd.prog) (Value.int .u8) 0 28 5 .i64 Tryd.underlying28 hi0_ hsz0_ A0 c0 l0 at_ ca.1 ca.2.1 HC.out
    have HX5 := Aside0.mk (show Kd.C (Kd.int .u8) w A5 (l0.drop at_.toNat).length (l0.drop at_.toNat) ∧ _ from ⟨Kd.C_of_reads (h1 := fun _ => rfl) (hA5 _ (Kd.reads_of_C HR.out)), hC5⟩)
    clear hA5 hC5 hi0_ hsz0_ hcs hq HQ
    obtain ⟨ca1, ca2, ca3, ca4⟩ := ca
    have cb1 : decide (0 ≤ at_) = true := decide_eq_true ca1
    have cb2 : decide (at_ ≤ (l0.length : Int)) = true := decide_eq_true ca2
    simp only at hcr
    by_cases c3 : t3 = 0
    case neg =>
      rw [if_neg c3] at hcr
      injection hcr with hcr
      injection hcr with e1 e2
      subst e1 e2
      have cb3 : (t3 != 0) = true := bne_iff_ne.mpr c3
      clear c3
      go_wp2_with (first | (go_at_call 40; (go_must (refine calls_of_args (args' := #[.slice A5 (l0.drop at_.toNat).length (c0 - at_.toNat)]) (by first | (rw [show (l0.drop at_.toNat).length = (l0.length - at_.toNat) from List.length_drop] <;> rfl) | rfl) ?_)); (go_must (refine (crc_Open.calls k _ _ (l0.drop at_.toNat) t1 t2 t3 _ (Kd.C_below HX5.out.1 HB3.out) HX5.out.2 (Kd.C_below HT.out HB3.out) HCS.out).mono ?_)); rintro e w5 ⟨v5, rfl, ho, hb⟩; have HS5 := Aside0.mk (Kd.S_below HS3.out hb); have HO5 := Aside0.mk (Kd.R_lower ho (below_size HB3.out)); have HB5 := Aside0.mk (below_step HB3.out hb); clear ho hb; obtain ⟨Ao, co, eo⟩ := Kd.R_slice HO5.out; subst eo))
      go_ret2
      exact ⟨_, rfl, HS5.out, HB5.out⟩
    subst c3
    rw [if_pos rfl] at hcr
    obtain ⟨⟨g0, g1, g2, g3, g4, g5, g6, f⟩, hg, hcr⟩ := Option.bind_eq_some_iff.mp hcr
    have HG := Aside0.mk hg
    simp only at hcr
    have HCR := Aside0.mk hcr
    clear hg hcr
    go_wp2_with (first
      | (go_at_call 40; (go_must (refine calls_of_args (args' := #[.slice A5 (l0.drop at_.toNat).length (c0 - at_.toNat)]) (by first | (rw [show (l0.drop at_.toNat).length = (l0.length - at_.toNat) from List.length_drop] <;> rfl) | rfl) ?_)); (go_must (refine (crc_Open.calls k _ _ (l0.drop at_.toNat) t1 t2 0 _ (Kd.C_below HX5.out.1 HB3.out) HX5.out.2 (Kd.C_below HT.out HB3.out) HCS.out).mono ?_)); rintro e w5 ⟨v5, rfl, ho, hb⟩; have HS5 := Aside0.mk (Kd.S_below HS3.out hb); have HO5 := Aside0.mk (Kd.R_lower ho (below_size HB3.out)); have HB5 := Aside0.mk (below_step HB3.out hb); clear ho hb; obtain ⟨Ao, co, eo⟩ := Kd.R_slice HO5.out; subst eo)
      | (go_at_call 18; (go_must (refine (journal_Get.calls k _ _ t1 g0 g1 g2 g3 g4 g5 g6 f _ (Kd.R_reads' HO5.out).2.2 (Kd.R_reads' HO5.out).2.1 HG.out).mono ?_)); rintro e w6 ⟨v6, rfl, ho, hb⟩; have HS6 := Aside0.mk (Kd.S_elder' HS5.out (Kd.R_base ho) hb); have HV6 := Aside0.mk (Kd.R_lower ho (below_size HB5.out)); have HB6 := Aside0.mk (below_step HB5.out hb); clear ho hb; obtain ⟨Av, cv, ev⟩ := Kd.R_slice HV6.out; subst ev)
      | ((with_reducible refine gate_dst (N := 9) rfl ?_); (go_must (refine box_event ?hg (N := 9) ?hd (cs := #[.int .i64 0, .int .i64 0, .int .i64 0, .int .i64 0, .int .i64 0, .int .i64 0, .slice none 0 0]) (t := 24) ?hr ?_)); (case hd => rfl); (case hg => rfl); (case hr => first | (go_simp; done) | (go_simp; rfl)); intro gx hg w7q hbox hb; have BK := Aside0.mk hbox; have HQ := Aside0.mk hb; have GE := Aside0.mk (Nat.le_of_eq hg.symm); have HGE := Aside0.mk hg; clear hbox hb hg; have hz0 : w7q.cell? ⟨gx, 0, none⟩ = some (.int .i64 0) := (blk_cell BK.out 0).trans rfl; have hz1 : w7q.cell? ⟨gx, 1, none⟩ = some (.int .i64 0) := (blk_cell BK.out 1).trans rfl; have hz2 : w7q.cell? ⟨gx, 2, none⟩ = some (.int .i64 0) := (blk_cell BK.out 2).trans rfl; have hz3 : w7q.cell? ⟨gx, 3, none⟩ = some (.int .i64 0) := (blk_cell BK.out 3).trans rfl; have hz4 : w7q.cell? ⟨gx, 4, none⟩ = some (.int .i64 0) := (blk_cell BK.out 4).trans rfl; have hz5 : w7q.cell? ⟨gx, 5, none⟩ = some (.int .i64 0) := (blk_cell BK.out 5).trans rfl; have hz6 : w7q.cell? ⟨gx, 6, none⟩ = some (.slice none 0 0) := (blk_cell BK.out 6).trans rfl; have hf0 := blk_frozen BK.out 0; have hf1 := blk_frozen BK.out 1; have hf2 := blk_frozen BK.out 2; have hf3 := blk_frozen BK.out 3; have hf4 := blk_frozen BK.out 4; have hf5 := blk_frozen BK.out 5; have hf6 := blk_frozen BK.out 6; go_step; go_step; generalize hW : World.setCell _ _ _ = w7; have hq := (show Below _ _ w7 from (by rw [← hW]; exact (below_set (below_set (below_set (below_set (below_set (below_set (below_set HQ.out GE.out) GE.out) GE.out) GE.out) GE.out) GE.out) GE.out))); have BX := Aside0.mk (show w7.heap[gx]? = some (.cells #[(.int .i64 g0), (.int .i64 g1), (.int .i64 g2), (.int .i64 g3), (.int .i64 g4), (.int .i64 g5), (.slice Av g6.length cv)] 24 (0, 0)) from (by rw [← hW]; exact (blk_put (blk_put (blk_put (blk_put (blk_put (blk_put (blk_put BK.out 0 _ rfl) 1 _ rfl) 2 _ rfl) 3 _ rfl) 4 _ rfl) 5 _ rfl) 6 _ rfl))); have HS7 := Aside0.mk (Kd.S_below (Kd.S_elderB HS6.out gx (Nat.le_of_eq HGE.out.symm)) hq); have HV7 := Aside0.mk (Kd.R_below HV6.out hq); have HB7 := Aside0.mk (below_step HB6.out hq); clear hq hW BK HQ GE HGE hz0 hf0 hz1 hf1 hz2 hf2 hz3 hf3 hz4 hf4 hz5 hf5 hz6 hf6 HS5 HS6 HB5 HB6 HV6 HO5; obtain ⟨As, cs, es⟩ := Kd.S_slice HS7.out; subst es; have hx0 : w7.cell? ⟨gx, 0, none⟩ = some (.int .i64 g0) := (blk_cell BX.out 0).trans rfl; have hx1 : w7.cell? ⟨gx, 1, none⟩ = some (.int .i64 g1) := (blk_cell BX.out 1).trans rfl; have hx2 : w7.cell? ⟨gx, 2, none⟩ = some (.int .i64 g2) := (blk_cell BX.out 2).trans rfl; have hx3 : w7.cell? ⟨gx, 3, none⟩ = some (.int .i64 g3) := (blk_cell BX.out 3).trans rfl; have hx4 : w7.cell? ⟨gx, 4, none⟩ = some (.int .i64 g4) := (blk_cell BX.out 4).trans rfl; have hx5 : w7.cell? ⟨gx, 5, none⟩ = some (.int .i64 g5) := (blk_cell BX.out 5).trans rfl; have hx6 : w7.cell? ⟨gx, 6, none⟩ = some (.slice Av g6.length cv) := (blk_cell BX.out 6).trans rfl))
    have hcr := HCR.out
    clear HCR HCS HG HX5
    by_cases cf : f = 0
    case neg =>
      rw [if_neg cf] at hcr
      injection hcr with hcr
      injection hcr with e1 e2
      subst e1 e2
      have cfb : (f != 0) = true := bne_iff_ne.mpr cf
      clear cf
      repeat (go_quiet (fail); try go_wp2)
      go_ret2
      exact ⟨_, rfl, Kd.S_mono (Kd.S_drewN HS7.out _) (fun _ _ => trivial), pw_below_drewN HB7.out _⟩
    subst cf
    rw [if_pos rfl] at hcr
    by_cases cl : 0 < acc.length
    · have hj := (Kd.S_reads' HS7.out).2.2
      obtain ⟨ad, A6_, c6_, e1, hy0, hy1, hyr⟩ := at_T24 hj ((acc.length : Int) - 1) (by omega) (by omega)
      subst e1
      rw [show ((acc.length : Int) - 1).toNat = acc.length - 1 by omega] at hy1
      generalize (rd_T24 acc ((acc.length : Int) - 1)).f1 = lf at *
      have hp0_ : decide (0 < (acc.length : Int)) = true := decide_eq_true (by omega)
      have hp1_ : 1 ≤ (acc.length : Int) := by omega
      have hp2_ : 0 ≤ (acc.length : Int) - 1 := by omega
      have hp3_ : (acc.length : Int) - 1 < (acc.length : Int) := by omega
      have hp4_ : decide (0 < acc.length) = true := decide_eq_true cl
      clear hj hy0 hyr
      by_cases co : g1 < lf
      · rw [if_pos ⟨cl, co⟩] at hcr
        injection hcr with hcr
        injection hcr with e1 e2
        subst e1 e2
        have cob : decide (g1 < lf) = true := decide_eq_true co
        clear co cl
        go_quiet (fail)
        go_wp2
        go_ret2
        exact ⟨_, rfl, Kd.S_mono (Kd.S_drewN HS7.out _) (fun _ _ => trivial), pw_below_drewN HB7.out _⟩
      · rw [if_neg (fun h => co h.2)] at hcr
        by_cases cn : 0 ≤ t2 ∧ t2 ≤ (l0.length : Int)
        case neg => rw [if_neg cn] at hcr; cases hcr
        rw [if_pos cn] at hcr
        have HCR := Aside0.mk hcr
        obtain ⟨cn1, cn2⟩ := cn
        have cob : decide (g1 < lf) = false := decide_eq_false co
        clear co cl hcr
        go_quiet (fail)
        have HS8 := Aside0.mk (Kd.S_drewN HS7.out nq)
        have HV8 := Aside0.mk (Kd.R_drewN HV7.out nq)
        have BX8 := Aside0.mk (blk_drewN BX.out nq)
        have HB8 := Aside0.mk (pw_below_drewN HB7.out nq)
        clear hy1
        go_wp2_with (first | ((with_reducible refine gate_builtin (b := .append) (xs := #[.tmp 48, .tmp 50]) rfl ?_); at_builtin; (go_must (refine Kd.S_append k24 (w0 := w) w.heap.size rfl (.tmp 48) (.tmp 50) 26 24 (.agg #[(.int .i64 0), (.int .i64 0), (.int .i64 0), (.int .i64 0), (.int .i64 0), (.int .i64 0), (.slice none 0 0)]) 72 rfl Tryd.underlying26 info24 rfl (by decide) (by omega) (.slice (some ad) acc.length cs) acc (⟨g0, g1, g2, g3, g4, g5, g6⟩ : S24) [(.int .i64 g0), (.int .i64 g1), (.int .i64 g2), (.int .i64 g3), (.int .i64 g4), (.int .i64 g5), (.slice Av g6.length cv)] (fun k_ => k_ ≠ gx) (fun k_ => some k_ = (.slice Av g6.length cv : Value).ownBlock) rfl rfl ?aP (fun k_ hk_ => ((Kd.R_mono (ok' := fun k_ => ((fun k_ => k_ ≠ gx)) k_ ∧ some k_ ≠ (.slice (some ad) acc.length cs : Value).ownBlock) (Kd.R_types (Kd.R_apart' (HV8.out) (Kd.S_typed HS8.out) (by decide)) BX8.out (by decide)) (fun k_ hk => ⟨hk.2, hk.1.2⟩))).1 k_ hk_.symm) ?aF ?aO ?aB ?aS ?aL ?_)); (case aP => exact k24_mkM _ _ _ (⟨g0, g1, g2, g3, g4, g5, g6⟩ : S24) (Kd.R_mono (Kd.R_tight rfl (Kd.R_mono (ok' := fun k_ => ((fun k_ => k_ ≠ gx)) k_ ∧ some k_ ≠ (.slice (some ad) acc.length cs : Value).ownBlock) (Kd.R_types (Kd.R_apart' (HV8.out) (Kd.S_typed HS8.out) (by decide)) BX8.out (by decide)) (fun k_ hk => ⟨hk.2, hk.1.2⟩))) (fun _ h_ => h_))); (case aB => exact HB8.out); (case aF => exact (fun k_ hk => Kd.freshB BX8.out k_ hk)); (case aO => exact (Kd.S_mono HS8.out (fun k_ hk => ⟨hk.2, fun e_ => hk.1.2 e_⟩))); (case aS => exact (below_size HB8.out)); (case aL => omega); intro v9 w9 ho hb hg hat; have HS9 := Aside0.mk ho; have HB9 := Aside0.mk hb; clear ho hb hg hat))
        go_roundg k
        case measure => have := HK.out; omega
        case rel => exact ⟨_, _, rfl, ⟨by have := HK.out; omega⟩, ⟨HCR.out⟩, ⟨Kd.S_mono HS9.out (fun _ _ => trivial)⟩, HB9⟩
    · rw [if_neg (fun h => cl h.1)] at hcr
      by_cases cn : 0 ≤ t2 ∧ t2 ≤ (l0.length : Int)
      case neg => rw [if_neg cn] at hcr; cases hcr
      rw [if_pos cn] at hcr
      have HCR := Aside0.mk hcr
      obtain ⟨cn1, cn2⟩ := cn
      have hp0_ : decide (0 < (acc.length : Int)) = false := decide_eq_false (by omega)
      have hp4_ : decide (0 < acc.length) = false := decide_eq_false cl
      clear hcr cl
      go_quiet (fail)
      have HS8 := Aside0.mk (Kd.S_drewN HS7.out nq)
      have HV8 := Aside0.mk (Kd.R_drewN HV7.out nq)
      have BX8 := Aside0.mk (blk_drewN BX.out nq)
      have HB8 := Aside0.mk (pw_below_drewN HB7.out nq)
      go_wp2_with (first | ((with_reducible refine gate_builtin (b := .append) (xs := #[.tmp 48, .tmp 50]) rfl ?_); at_builtin; (go_must (refine Kd.S_append k24 (w0 := w) w.heap.size rfl (.tmp 48) (.tmp 50) 26 24 (.agg #[(.int .i64 0), (.int .i64 0), (.int .i64 0), (.int .i64 0), (.int .i64 0), (.int .i64 0), (.slice none 0 0)]) 72 rfl Tryd.underlying26 info24 rfl (by decide) (by omega) (.slice As acc.length cs) acc (⟨g0, g1, g2, g3, g4, g5, g6⟩ : S24) [(.int .i64 g0), (.int .i64 g1), (.int .i64 g2), (.int .i64 g3), (.int .i64 g4), (.int .i64 g5), (.slice Av g6.length cv)] (fun k_ => k_ ≠ gx) (fun k_ => some k_ = (.slice Av g6.length cv : Value).ownBlock) rfl rfl ?aP (fun k_ hk_ => ((Kd.R_mono (ok' := fun k_ => ((fun k_ => k_ ≠ gx)) k_ ∧ some k_ ≠ (.slice As acc.length cs : Value).ownBlock) (Kd.R_types (Kd.R_apart' (HV8.out) (Kd.S_typed HS8.out) (by decide)) BX8.out (by decide)) (fun k_ hk => ⟨hk.2, hk.1.2⟩))).1 k_ hk_.symm) ?aF ?aO ?aB ?aS ?aL ?_)); (case aP => exact k24_mkM _ _ _ (⟨g0, g1, g2, g3, g4, g5, g6⟩ : S24) (Kd.R_mono (Kd.R_tight rfl (Kd.R_mono (ok' := fun k_ => ((fun k_ => k_ ≠ gx)) k_ ∧ some k_ ≠ (.slice As acc.length cs : Value).ownBlock) (Kd.R_types (Kd.R_apart' (HV8.out) (Kd.S_typed HS8.out) (by decide)) BX8.out (by decide)) (fun k_ hk => ⟨hk.2, hk.1.2⟩))) (fun _ h_ => h_))); (case aB => exact HB8.out); (case aF => exact (fun k_ hk => Kd.freshB BX8.out k_ hk)); (case aO => exact (Kd.S_mono HS8.out (fun k_ hk => ⟨hk.2, fun e_ => hk.1.2 e_⟩))); (case aS => exact (below_size HB8.out)); (case aL => omega); intro v9 w9 ho hb hg hat; have HS9 := Aside0.mk ho; have HB9 := Aside0.mk hb; clear ho hb hg hat))
      go_roundg k
      case measure => have := HK.out; omega
      case rel => exact ⟨_, _, rfl, ⟨by have := HK.out; omega⟩, ⟨HCR.out⟩, ⟨Kd.S_mono HS9.out (fun _ _ => trivial)⟩, HB9⟩

/-! ### papermillref61_Same: function 25 -/
def evEq (e f : S24) : Bool := decide (e.f0 = f.f0) && (decide (e.f1 = f.f1) && (decide (e.f2 = f.f2) && (decide (e.f3 = f.f3) && (decide (e.f4 = f.f4) && (decide (e.f5 = f.f5) && (decide (e.f6 = f.f6) && decide (e.f6.length ≤ 1000000)))))))
def evsEq : List S24 → List S24 → Bool
  | [], [] => true
  | e :: l, f :: m => evEq e f && evsEq l m
  | _, _ => false
theorem evEq_of {e f : S24} (h : evEq e f = true) : e = f ∧ e.f6.length ≤ 1000000 := by
  cases e
  cases f
  simp only [evEq, Bool.and_eq_true, decide_eq_true_eq] at h
  obtain ⟨h0, h1, h2, h3, h4, h5, h6, h7⟩ := h
  subst h0 h1 h2 h3 h4 h5 h6
  exact ⟨rfl, h7⟩
theorem evEq_refl (e : S24) (h : e.f6.length ≤ 1000000) : evEq e e = true := by simp [evEq, h]
theorem evsEq_of : ∀ {l m : List S24}, evsEq l m = true → l = m ∧ ∀ e ∈ l, e.f6.length ≤ 1000000
  | [], [], _ => ⟨rfl, fun e he => by simp at he⟩
  | [], _ :: _, h => by simp [evsEq] at h
  | _ :: _, [], h => by simp [evsEq] at h
  | e :: l, f :: m, h => by
    simp only [evsEq, Bool.and_eq_true] at h
    obtain ⟨h1, h2⟩ := evEq_of h.1
    obtain ⟨h3, h4⟩ := evsEq_of h.2
    refine ⟨by rw [h1, h3], fun x hx => ?_⟩
    rcases List.mem_cons.1 hx with rfl | hx
    · exact h2
    · exact h4 x hx
theorem evsEq_refl : ∀ (l : List S24), (∀ e ∈ l, e.f6.length ≤ 1000000) → evsEq l l = true
  | [], _ => rfl
  | e :: l, h => by
    simp only [evsEq, Bool.and_eq_true]
    exact ⟨evEq_refl e (h e (by simp)), evsEq_refl l (fun x hx => h x (List.mem_cons_of_mem _ hx))⟩
def papermillref61_Same.f (k : Nat) (l m : List S24) : Option Bool := if evsEq l m = true ∧ l.length ≤ 1000000 then some true else none
theorem papermillref61_Same.mono (l m : List S24) (k : Nat) : LeO (papermillref61_Same.f k l m) (papermillref61_Same.f (k + 1) l m) := LeO.refl _
set_option maxHeartbeats 4000000 in
set_option maxRecDepth 100000 in
theorem papermillref61_Same.equal (A0 : Option Addr) (c0 : Nat) (l : List S24) (A1 : Option Addr) (c1 : Nat) (w : World) (hr0 : Kd.C k24 w A0 l.length l) (hr1 : Kd.C k24 w A1 l.length l) (hl : l.length ≤ 1000000) (hs : ∀ e ∈ l, e.f6.length ≤ 1000000) :
    Calls Tryd.prog 25 #[.slice A0 l.length c0, .slice A1 l.length c1] w fun e w' => e = .returned (.bool true) ∧ Below w.heap.size w w' := by
  have hu24 := Tryd.underlying24
  have HR0 := Aside0.mk hr0
  have HR1 := Aside0.mk hr1
  have HS := Aside0.mk hs
  have HB := Aside0.mk (Below.refl w.heap.size w)
  clear hr0 hr1 hs
  go_enter Tryd.func25, Tryd.ntmps25
  go_wp2
  go_loopg [5] l.length (fun kq v5 w' => ∃ i : Nat, v5 = .int .i64 (i : Int) ∧ Aside0 (kq + i = l.length) ∧ Aside0 (Below w.heap.size w w'))
  case atStart => exact ⟨0, rfl, ⟨rfl⟩, HB⟩
  case round =>
    obtain ⟨i, rfl, HI, HB3⟩ := hrel
    clear HB
    by_cases c4 : i < l.length
    · have c4b : decide ((i : Int) < (l.length : Int)) = true := decide_eq_true (by omega)
      have c4c : decide (i < l.length) = true := decide_eq_true c4
      have HM := Aside0.mk (HS.out l[i] (List.getElem_mem _))
      rw [show l[i] = rd_T24 l (i : Int) by simp [rd_T24, List.getElem?_eq_getElem c4]] at HM
      obtain ⟨ad, A6, c6, e1, hx0, hx1, hx2, hx3, hx4, hx5, hx6, hxl, hxc⟩ := at_T24 (Kd.C_below HR0.out HB3.out) (i : Int) (by omega) (by omega)
      obtain ⟨ae, B6, d6, e2, hy0, hy1, hy2, hy3, hy4, hy5, hy6, hyl, hyc⟩ := at_T24 (Kd.C_below HR1.out HB3.out) (i : Int) (by omega) (by omega)
      subst e1 e2
      rw [Int.toNat_natCast] at hx0 hx1 hx2 hx3 hx4 hx5 hx6 hy0 hy1 hy2 hy3 hy4 hy5 hy6
      generalize rd_T24 l (i : Int) = x at *
      obtain ⟨x0, x1, x2, x3, x4, x5, x6⟩ := x
      simp only at hx0 hx1 hx2 hx3 hx4 hx5 hx6 hxl hxc hy0 hy1 hy2 hy3 hy4 hy5 hy6 hyl hyc HM
      have HX := Aside0.mk hxc
      have HY := Aside0.mk hyc
      have p1 : 0 ≤ (i : Int) := by omega
      have p2 : (i : Int) < (l.length : Int) := by omega
      clear hxc hyc hxl hyl
      go_wp2
      go_region_held3 (fun w' => w'.cell? (ad.add (i * 7)) = some (.int .i64 x0) ∧ w'.cell? ⟨(ad.add (i * 7)).block, (ad.add (i * 7)).off + 1, none⟩ = some (.int .i64 x1) ∧ w'.cell? ⟨(ad.add (i * 7)).block, (ad.add (i * 7)).off + 2, none⟩ = some (.int .i64 x2) ∧ w'.cell? ⟨(ad.add (i * 7)).block, (ad.add (i * 7)).off + 3, none⟩ = some (.int .i64 x3) ∧ w'.cell? ⟨(ad.add (i * 7)).block, (ad.add (i * 7)).off + 4, none⟩ = some (.int .i64 x4) ∧ w'.cell? ⟨(ad.add (i * 7)).block, (ad.add (i * 7)).off + 5, none⟩ = some (.int .i64 x5) ∧ w'.cell? ⟨(ad.add (i * 7)).block, (ad.add (i * 7)).off + 6, none⟩ = some (.slice A6 x6.length c6) ∧ w'.cell? (ae.add (i * 7)) = some (.int .i64 x0) ∧ w'.cell? ⟨(ae.add (i * 7)).block, (ae.add (i * 7)).off + 1, none⟩ = some (.int .i64 x1) ∧ w'.cell? ⟨(ae.add (i * 7)).block, (ae.add (i * 7)).off + 2, none⟩ = some (.int .i64 x2) ∧ w'.cell? ⟨(ae.add (i * 7)).block, (ae.add (i * 7)).off + 3, none⟩ = some (.int .i64 x3) ∧ w'.cell? ⟨(ae.add (i * 7)).block, (ae.add (i * 7)).off + 4, none⟩ = some (.int .i64 x4) ∧ w'.cell? ⟨(ae.add (i * 7)).block, (ae.add (i * 7)).off + 5, none⟩ = some (.int .i64 x5) ∧ w'.cell? ⟨(ae.add (i * 7)).block, (ae.add (i * 7)).off + 6, none⟩ = some (.slice B6 x6.length d6)) (first | go_keep | exact ⟨pw_cell_below HX_.out hx0, pw_cell_below HX_.out hx1, pw_cell_below HX_.out hx2, pw_cell_below HX_.out hx3, pw_cell_below HX_.out hx4, pw_cell_below HX_.out hx5, pw_cell_below HX_.out hx6, pw_cell_below HX_.out hy0, pw_cell_below HX_.out hy1, pw_cell_below HX_.out hy2, pw_cell_below HX_.out hy3, pw_cell_below HX_.out hy4, pw_cell_below HX_.out hy5, pw_cell_below HX_.out hy6⟩) ((go_at_call 20; (go_must (refine (papermillref61_SameOne.equal x0 x1 x2 x3 x4 x5 A6 c6 x6 B6 d6 _ (Kd.C_drewN HX.out 1) (Kd.C_drewN HY.out 1) HM.out).mono ?_)); rintro e w5 ⟨rfl, hb⟩; have HB5 := Aside0.mk (below_step (pw_below_drewN HB3.out 1) hb); have HX_ := Aside0.mk hb; clear hb))
      go_wp2
      go_roundg (l.length - (i + 1))
      case measure => have := HI.out; omega
      case rel => exact ⟨i + 1, rfl, ⟨by have := HI.out; omega⟩, HB5⟩
    · have c4b : decide ((i : Int) < (l.length : Int)) = false := decide_eq_false (by omega)
      have c4c : decide (i < l.length) = false := decide_eq_false c4
      go_wp2
      go_ret
      exact ⟨rfl, HB3.out⟩
theorem papermillref61_Same.calls (k : Nat) (A0 : Option Addr) (c0 : Nat) (l : List S24) (A1 : Option Addr) (c1 : Nat) (m : List S24) (r : Bool) (w : World) (hr0 : Kd.C k24 w A0 l.length l) (hc0 : l.length ≤ c0) (hr1 : Kd.C k24 w A1 m.length m) (hc1 : m.length ≤ c1) (h : papermillref61_Same.f k l m = some r) :
    Calls Tryd.prog 25 #[.slice A0 l.length c0, .slice A1 m.length c1] w fun e w' => e = .returned (.bool r) ∧ Below w.heap.size w w' := by
  unfold papermillref61_Same.f at h
  split at h
  · rename_i hc
    obtain ⟨he, hl⟩ := hc
    obtain ⟨rfl, hs⟩ := evsEq_of he
    injection h with h
    subst h
    exact papermillref61_Same.equal A0 c0 l A1 c1 w hr0 hr1 hl hs
  · cases h

/-! ### papermilllaw61_awake: function 12 -/
def papermilllaw61_awake.g (k : Nat)  : Option (Bool) := (journal_Put.f k 1 5 3 0 0 0 ([] : List Int)).bind fun bt178 => ((journal_Get.f k bt178.1).bind fun bt182 => ((journal_Get.f k (([2, 10] : List Int))).bind fun bt196 => ((journal_Get.f k (([2, 10, 6, 0, 0, 0, 0, 0] : List Int))).bind fun bt210 => ((journal_Get.f k (([38, 0, 0, 0, 0, 0, 0] : List Int))).bind fun bt224 => ((journal_Append.f k ([] : List Int) bt182.1 bt182.2.1 bt182.2.2.1 bt182.2.2.2.1 bt182.2.2.2.2.1 bt182.2.2.2.2.2.1 bt182.2.2.2.2.2.2.1).bind fun bt235 => ((some (([] : List Int) : List Int)).bind fun y239 => (if y239.length + bt235.1.length < 140737488355328 then ((some (y239 ++ bt235.1 : List Int)).bind fun y242 => ((some (([1, 2, 3] : List Int) : List Int)).bind fun y245 => (if y242.length + y245.length < 140737488355328 then ((journal_Recover.f k (y242 ++ y245)).bind fun bt251 => ((journal_Recover.f k ([] : List Int)).bind fun bt255 => (if bt178.2 = 0 then ((papermillref61_SameBytes.f bt178.1 (([2, 10, 6, 0, 0, 0, 0] : List Int))).bind fun t262 => (if t262 = true then (if bt182.2.2.2.2.2.2.2 = 0 then ((papermillref61_SameOne.f k bt182.1 bt182.2.1 bt182.2.2.1 bt182.2.2.2.1 bt182.2.2.2.2.1 bt182.2.2.2.2.2.1 bt182.2.2.2.2.2.2.1 1 5 3 0 0 0 ([] : List Int)).bind fun t263 => (if t263 = true then (if bt196.2.2.2.2.2.2.2 = 4 then (if bt210.2.2.2.2.2.2.2 = 3 then (if bt224.2.2.2.2.2.2.2 = 17 then (if bt235.2 = 0 then ((papermillref61_Same.f k bt251.1 (([(⟨bt182.1, bt182.2.1, bt182.2.2.1, bt182.2.2.2.1, bt182.2.2.2.2.1, bt182.2.2.2.2.2.1, bt182.2.2.2.2.2.2.1⟩ : S24)] : List (S24)))).bind fun t267 => (if t267 = true then (if bt251.2 = (bt235.1.length : Int) then (if (bt255.1.length : Int) = 0 then (some (bt255.2 == 0)) else (some false)) else (some false)) else (some false))) else (some false)) else (some false)) else (some false)) else (some false)) else (some false))) else (some false)) else (some false))) else (some false)))) else (none)))) else (none))))))))
theorem papermilllaw61_awake.gmono : ∀ k, LeO (papermilllaw61_awake.g k ) (papermilllaw61_awake.g (k + 1) ) := by
  intro  k
  unfold papermilllaw61_awake.g
  repeat' first
      | (with_reducible exact journal_Append.mono _ _ _ _ _ _ _ _ _)
      | (with_reducible exact journal_Get.mono _ _)
      | (with_reducible exact journal_Put.mono _ _ _ _ _ _ _ _)
      | (with_reducible exact journal_Recover.mono _ _)
      | (with_reducible exact papermillref61_Same.mono _ _ _)
      | (with_reducible exact papermillref61_SameOne.mono _ _ _ _ _ _ _ _ _ _ _ _ _ _ _)
      | (with_reducible exact LeO.refl _)
      | (with_reducible exact LeO.none _)
      | (with_reducible refine LeO.ite ?_ ?_)
      | (with_reducible refine LeO.bind ?_ (fun _ => ?_))
      | exact journal_Append.mono _ _ _ _ _ _ _ _ _
      | exact journal_Get.mono _ _
      | exact journal_Put.mono _ _ _ _ _ _ _ _
      | exact journal_Recover.mono _ _
      | exact papermillref61_Same.mono _ _ _
      | exact papermillref61_SameOne.mono _ _ _ _ _ _ _ _ _ _ _ _ _ _ _
      | exact LeO.none _
      | refine LeO.ite ?_ ?_
      | refine LeO.bind ?_ (fun _ => ?_)
set_option maxHeartbeats 8000000 in
set_option maxRecDepth 100000 in
theorem papermilllaw61_awake.walk (k : Nat)  (w : World) (hT : Kd.C (Kd.int .u32) w TabA crcTab.length crcTab) (h : papermilllaw61_awake.g k  = some true) :
    Calls Tryd.prog 12 #[] w fun e w' => e = .returned (.bool true) ∧ Below w.heap.size w w' := by
  have HT := Aside0.mk hT
  clear hT
  have hu24 := Tryd.underlying24
  have HB := Aside0.mk (Below.refl w.heap.size w)
  have H : ((journal_Put.f k 1 5 3 0 0 0 ([] : List Int)).bind fun bt178 => ((journal_Get.f k bt178.1).bind fun bt182 => ((journal_Get.f k (([2, 10] : List Int))).bind fun bt196 => ((journal_Get.f k (([2, 10, 6, 0, 0, 0, 0, 0] : List Int))).bind fun bt210 => ((journal_Get.f k (([38, 0, 0, 0, 0, 0, 0] : List Int))).bind fun bt224 => ((journal_Append.f k ([] : List Int) bt182.1 bt182.2.1 bt182.2.2.1 bt182.2.2.2.1 bt182.2.2.2.2.1 bt182.2.2.2.2.2.1 bt182.2.2.2.2.2.2.1).bind fun bt235 => ((some (([] : List Int) : List Int)).bind fun y239 => (if y239.length + bt235.1.length < 140737488355328 then ((some (y239 ++ bt235.1 : List Int)).bind fun y242 => ((some (([1, 2, 3] : List Int) : List Int)).bind fun y245 => (if y242.length + y245.length < 140737488355328 then ((journal_Recover.f k (y242 ++ y245)).bind fun bt251 => ((journal_Recover.f k ([] : List Int)).bind fun bt255 => (if bt178.2 = 0 then ((papermillref61_SameBytes.f bt178.1 (([2, 10, 6, 0, 0, 0, 0] : List Int))).bind fun t262 => (if t262 = true then (if bt182.2.2.2.2.2.2.2 = 0 then ((papermillref61_SameOne.f k bt182.1 bt182.2.1 bt182.2.2.1 bt182.2.2.2.1 bt182.2.2.2.2.1 bt182.2.2.2.2.2.1 bt182.2.2.2.2.2.2.1 1 5 3 0 0 0 ([] : List Int)).bind fun t263 => (if t263 = true then (if bt196.2.2.2.2.2.2.2 = 4 then (if bt210.2.2.2.2.2.2.2 = 3 then (if bt224.2.2.2.2.2.2.2 = 17 then (if bt235.2 = 0 then ((papermillref61_Same.f k bt251.1 (([(⟨bt182.1, bt182.2.1, bt182.2.2.1, bt182.2.2.2.1, bt182.2.2.2.2.1, bt182.2.2.2.2.2.1, bt182.2.2.2.2.2.2.1⟩ : S24)] : List (S24)))).bind fun t267 => (if t267 = true then (if bt251.2 = (bt235.1.length : Int) then (if (bt255.1.length : Int) = 0 then (some (bt255.2 == 0)) else (some false)) else (some false)) else (some false))) else (some false)) else (some false)) else (some false)) else (some false)) else (some false))) else (some false)) else (some false))) else (some false)))) else (none)))) else (none))))))))) = some true := h
  clear h
  replace H := Option.bind_eq_some_iff.mp H
  obtain ⟨⟨t178, t181⟩, A10, H⟩ := H
  replace H : ((journal_Get.f k t178).bind fun bt182 => ((journal_Get.f k (([2, 10] : List Int))).bind fun bt196 => ((journal_Get.f k (([2, 10, 6, 0, 0, 0, 0, 0] : List Int))).bind fun bt210 => ((journal_Get.f k (([38, 0, 0, 0, 0, 0, 0] : List Int))).bind fun bt224 => ((journal_Append.f k ([] : List Int) bt182.1 bt182.2.1 bt182.2.2.1 bt182.2.2.2.1 bt182.2.2.2.2.1 bt182.2.2.2.2.2.1 bt182.2.2.2.2.2.2.1).bind fun bt235 => ((some (([] : List Int) : List Int)).bind fun y239 => (if y239.length + bt235.1.length < 140737488355328 then ((some (y239 ++ bt235.1 : List Int)).bind fun y242 => ((some (([1, 2, 3] : List Int) : List Int)).bind fun y245 => (if y242.length + y245.length < 140737488355328 then ((journal_Recover.f k (y242 ++ y245)).bind fun bt251 => ((journal_Recover.f k ([] : List Int)).bind fun bt255 => (if t181 = 0 then ((papermillref61_SameBytes.f t178 (([2, 10, 6, 0, 0, 0, 0] : List Int))).bind fun t262 => (if t262 = true then (if bt182.2.2.2.2.2.2.2 = 0 then ((papermillref61_SameOne.f k bt182.1 bt182.2.1 bt182.2.2.1 bt182.2.2.2.1 bt182.2.2.2.2.1 bt182.2.2.2.2.2.1 bt182.2.2.2.2.2.2.1 1 5 3 0 0 0 ([] : List Int)).bind fun t263 => (if t263 = true then (if bt196.2.2.2.2.2.2.2 = 4 then (if bt210.2.2.2.2.2.2.2 = 3 then (if bt224.2.2.2.2.2.2.2 = 17 then (if bt235.2 = 0 then ((papermillref61_Same.f k bt251.1 (([(⟨bt182.1, bt182.2.1, bt182.2.2.1, bt182.2.2.2.1, bt182.2.2.2.2.1, bt182.2.2.2.2.2.1, bt182.2.2.2.2.2.2.1⟩ : S24)] : List (S24)))).bind fun t267 => (if t267 = true then (if bt251.2 = (bt235.1.length : Int) then (if (bt255.1.length : Int) = 0 then (some (bt255.2 == 0)) else (some false)) else (some false)) else (some false))) else (some false)) else (some false)) else (some false)) else (some false)) else (some false))) else (some false)) else (some false))) else (some false)))) else (none)))) else (none)))))))) = some true := H
  have A1 := Aside0.mk A10
  clear A10
  replace H := Option.bind_eq_some_iff.mp H
  obtain ⟨⟨t182, t183, t184, t185, t186, t187, t188, t191⟩, A20, H⟩ := H
  replace H : ((journal_Get.f k (([2, 10] : List Int))).bind fun bt196 => ((journal_Get.f k (([2, 10, 6, 0, 0, 0, 0, 0] : List Int))).bind fun bt210 => ((journal_Get.f k (([38, 0, 0, 0, 0, 0, 0] : List Int))).bind fun bt224 => ((journal_Append.f k ([] : List Int) t182 t183 t184 t185 t186 t187 t188).bind fun bt235 => ((some (([] : List Int) : List Int)).bind fun y239 => (if y239.length + bt235.1.length < 140737488355328 then ((some (y239 ++ bt235.1 : List Int)).bind fun y242 => ((some (([1, 2, 3] : List Int) : List Int)).bind fun y245 => (if y242.length + y245.length < 140737488355328 then ((journal_Recover.f k (y242 ++ y245)).bind fun bt251 => ((journal_Recover.f k ([] : List Int)).bind fun bt255 => (if t181 = 0 then ((papermillref61_SameBytes.f t178 (([2, 10, 6, 0, 0, 0, 0] : List Int))).bind fun t262 => (if t262 = true then (if t191 = 0 then ((papermillref61_SameOne.f k t182 t183 t184 t185 t186 t187 t188 1 5 3 0 0 0 ([] : List Int)).bind fun t263 => (if t263 = true then (if bt196.2.2.2.2.2.2.2 = 4 then (if bt210.2.2.2.2.2.2.2 = 3 then (if bt224.2.2.2.2.2.2.2 = 17 then (if bt235.2 = 0 then ((papermillref61_Same.f k bt251.1 (([(⟨t182, t183, t184, t185, t186, t187, t188⟩ : S24)] : List (S24)))).bind fun t267 => (if t267 = true then (if bt251.2 = (bt235.1.length : Int) then (if (bt255.1.length : Int) = 0 then (some (bt255.2 == 0)) else (some false)) else (some false)) else (some false))) else (some false)) else (some false)) else (some false)) else (some false)) else (some false))) else (some false)) else (some false))) else (some false)))) else (none)))) else (none))))))) = some true := H
  have A2 := Aside0.mk A20
  clear A20
  obtain ⟨y193, hy193⟩ : ∃ y_ : List Int, y_ = (([2, 10] : List Int)) := ⟨_, rfl⟩
  replace H : ((journal_Get.f k y193).bind fun bt196 => ((journal_Get.f k (([2, 10, 6, 0, 0, 0, 0, 0] : List Int))).bind fun bt210 => ((journal_Get.f k (([38, 0, 0, 0, 0, 0, 0] : List Int))).bind fun bt224 => ((journal_Append.f k ([] : List Int) t182 t183 t184 t185 t186 t187 t188).bind fun bt235 => ((some (([] : List Int) : List Int)).bind fun y239 => (if y239.length + bt235.1.length < 140737488355328 then ((some (y239 ++ bt235.1 : List Int)).bind fun y242 => ((some (([1, 2, 3] : List Int) : List Int)).bind fun y245 => (if y242.length + y245.length < 140737488355328 then ((journal_Recover.f k (y242 ++ y245)).bind fun bt251 => ((journal_Recover.f k ([] : List Int)).bind fun bt255 => (if t181 = 0 then ((papermillref61_SameBytes.f t178 (([2, 10, 6, 0, 0, 0, 0] : List Int))).bind fun t262 => (if t262 = true then (if t191 = 0 then ((papermillref61_SameOne.f k t182 t183 t184 t185 t186 t187 t188 1 5 3 0 0 0 ([] : List Int)).bind fun t263 => (if t263 = true then (if bt196.2.2.2.2.2.2.2 = 4 then (if bt210.2.2.2.2.2.2.2 = 3 then (if bt224.2.2.2.2.2.2.2 = 17 then (if bt235.2 = 0 then ((papermillref61_Same.f k bt251.1 (([(⟨t182, t183, t184, t185, t186, t187, t188⟩ : S24)] : List (S24)))).bind fun t267 => (if t267 = true then (if bt251.2 = (bt235.1.length : Int) then (if (bt255.1.length : Int) = 0 then (some (bt255.2 == 0)) else (some false)) else (some false)) else (some false))) else (some false)) else (some false)) else (some false)) else (some false)) else (some false))) else (some false)) else (some false))) else (some false)))) else (none)))) else (none))))))) = some true := by first | (rw [hy193]; with_reducible exact H) | (have H2_ := (Option.bind_some _ _).symm.trans H; rw [hy193]; with_reducible exact H2_) | (have H2_ := (Option.bind_some _ _).symm.trans H; with_reducible exact H2_) | with_reducible exact H | (rw [hy193]; exact H) | exact H
  have Ny193 := Aside0.mk hy193
  clear hy193
  replace H := Option.bind_eq_some_iff.mp H
  obtain ⟨⟨t196, t197, t198, t199, t200, t201, t202, t205⟩, A30, H⟩ := H
  replace H : ((journal_Get.f k (([2, 10, 6, 0, 0, 0, 0, 0] : List Int))).bind fun bt210 => ((journal_Get.f k (([38, 0, 0, 0, 0, 0, 0] : List Int))).bind fun bt224 => ((journal_Append.f k ([] : List Int) t182 t183 t184 t185 t186 t187 t188).bind fun bt235 => ((some (([] : List Int) : List Int)).bind fun y239 => (if y239.length + bt235.1.length < 140737488355328 then ((some (y239 ++ bt235.1 : List Int)).bind fun y242 => ((some (([1, 2, 3] : List Int) : List Int)).bind fun y245 => (if y242.length + y245.length < 140737488355328 then ((journal_Recover.f k (y242 ++ y245)).bind fun bt251 => ((journal_Recover.f k ([] : List Int)).bind fun bt255 => (if t181 = 0 then ((papermillref61_SameBytes.f t178 (([2, 10, 6, 0, 0, 0, 0] : List Int))).bind fun t262 => (if t262 = true then (if t191 = 0 then ((papermillref61_SameOne.f k t182 t183 t184 t185 t186 t187 t188 1 5 3 0 0 0 ([] : List Int)).bind fun t263 => (if t263 = true then (if t205 = 4 then (if bt210.2.2.2.2.2.2.2 = 3 then (if bt224.2.2.2.2.2.2.2 = 17 then (if bt235.2 = 0 then ((papermillref61_Same.f k bt251.1 (([(⟨t182, t183, t184, t185, t186, t187, t188⟩ : S24)] : List (S24)))).bind fun t267 => (if t267 = true then (if bt251.2 = (bt235.1.length : Int) then (if (bt255.1.length : Int) = 0 then (some (bt255.2 == 0)) else (some false)) else (some false)) else (some false))) else (some false)) else (some false)) else (some false)) else (some false)) else (some false))) else (some false)) else (some false))) else (some false)))) else (none)))) else (none)))))) = some true := H
  have A3 := Aside0.mk A30
  clear A30
  obtain ⟨y207, hy207⟩ : ∃ y_ : List Int, y_ = (([2, 10, 6, 0, 0, 0, 0, 0] : List Int)) := ⟨_, rfl⟩
  replace H : ((journal_Get.f k y207).bind fun bt210 => ((journal_Get.f k (([38, 0, 0, 0, 0, 0, 0] : List Int))).bind fun bt224 => ((journal_Append.f k ([] : List Int) t182 t183 t184 t185 t186 t187 t188).bind fun bt235 => ((some (([] : List Int) : List Int)).bind fun y239 => (if y239.length + bt235.1.length < 140737488355328 then ((some (y239 ++ bt235.1 : List Int)).bind fun y242 => ((some (([1, 2, 3] : List Int) : List Int)).bind fun y245 => (if y242.length + y245.length < 140737488355328 then ((journal_Recover.f k (y242 ++ y245)).bind fun bt251 => ((journal_Recover.f k ([] : List Int)).bind fun bt255 => (if t181 = 0 then ((papermillref61_SameBytes.f t178 (([2, 10, 6, 0, 0, 0, 0] : List Int))).bind fun t262 => (if t262 = true then (if t191 = 0 then ((papermillref61_SameOne.f k t182 t183 t184 t185 t186 t187 t188 1 5 3 0 0 0 ([] : List Int)).bind fun t263 => (if t263 = true then (if t205 = 4 then (if bt210.2.2.2.2.2.2.2 = 3 then (if bt224.2.2.2.2.2.2.2 = 17 then (if bt235.2 = 0 then ((papermillref61_Same.f k bt251.1 (([(⟨t182, t183, t184, t185, t186, t187, t188⟩ : S24)] : List (S24)))).bind fun t267 => (if t267 = true then (if bt251.2 = (bt235.1.length : Int) then (if (bt255.1.length : Int) = 0 then (some (bt255.2 == 0)) else (some false)) else (some false)) else (some false))) else (some false)) else (some false)) else (some false)) else (some false)) else (some false))) else (some false)) else (some false))) else (some false)))) else (none)))) else (none)))))) = some true := by first | (rw [hy207]; with_reducible exact H) | (have H2_ := (Option.bind_some _ _).symm.trans H; rw [hy207]; with_reducible exact H2_) | (have H2_ := (Option.bind_some _ _).symm.trans H; with_reducible exact H2_) | with_reducible exact H | (rw [hy207]; exact H) | exact H
  have Ny207 := Aside0.mk hy207
  clear hy207
  replace H := Option.bind_eq_some_iff.mp H
  obtain ⟨⟨t210, t211, t212, t213, t214, t215, t216, t219⟩, A40, H⟩ := H
  replace H : ((journal_Get.f k (([38, 0, 0, 0, 0, 0, 0] : List Int))).bind fun bt224 => ((journal_Append.f k ([] : List Int) t182 t183 t184 t185 t186 t187 t188).bind fun bt235 => ((some (([] : List Int) : List Int)).bind fun y239 => (if y239.length + bt235.1.length < 140737488355328 then ((some (y239 ++ bt235.1 : List Int)).bind fun y242 => ((some (([1, 2, 3] : List Int) : List Int)).bind fun y245 => (if y242.length + y245.length < 140737488355328 then ((journal_Recover.f k (y242 ++ y245)).bind fun bt251 => ((journal_Recover.f k ([] : List Int)).bind fun bt255 => (if t181 = 0 then ((papermillref61_SameBytes.f t178 (([2, 10, 6, 0, 0, 0, 0] : List Int))).bind fun t262 => (if t262 = true then (if t191 = 0 then ((papermillref61_SameOne.f k t182 t183 t184 t185 t186 t187 t188 1 5 3 0 0 0 ([] : List Int)).bind fun t263 => (if t263 = true then (if t205 = 4 then (if t219 = 3 then (if bt224.2.2.2.2.2.2.2 = 17 then (if bt235.2 = 0 then ((papermillref61_Same.f k bt251.1 (([(⟨t182, t183, t184, t185, t186, t187, t188⟩ : S24)] : List (S24)))).bind fun t267 => (if t267 = true then (if bt251.2 = (bt235.1.length : Int) then (if (bt255.1.length : Int) = 0 then (some (bt255.2 == 0)) else (some false)) else (some false)) else (some false))) else (some false)) else (some false)) else (some false)) else (some false)) else (some false))) else (some false)) else (some false))) else (some false)))) else (none)))) else (none))))) = some true := H
  have A4 := Aside0.mk A40
  clear A40
  obtain ⟨y221, hy221⟩ : ∃ y_ : List Int, y_ = (([38, 0, 0, 0, 0, 0, 0] : List Int)) := ⟨_, rfl⟩
  replace H : ((journal_Get.f k y221).bind fun bt224 => ((journal_Append.f k ([] : List Int) t182 t183 t184 t185 t186 t187 t188).bind fun bt235 => ((some (([] : List Int) : List Int)).bind fun y239 => (if y239.length + bt235.1.length < 140737488355328 then ((some (y239 ++ bt235.1 : List Int)).bind fun y242 => ((some (([1, 2, 3] : List Int) : List Int)).bind fun y245 => (if y242.length + y245.length < 140737488355328 then ((journal_Recover.f k (y242 ++ y245)).bind fun bt251 => ((journal_Recover.f k ([] : List Int)).bind fun bt255 => (if t181 = 0 then ((papermillref61_SameBytes.f t178 (([2, 10, 6, 0, 0, 0, 0] : List Int))).bind fun t262 => (if t262 = true then (if t191 = 0 then ((papermillref61_SameOne.f k t182 t183 t184 t185 t186 t187 t188 1 5 3 0 0 0 ([] : List Int)).bind fun t263 => (if t263 = true then (if t205 = 4 then (if t219 = 3 then (if bt224.2.2.2.2.2.2.2 = 17 then (if bt235.2 = 0 then ((papermillref61_Same.f k bt251.1 (([(⟨t182, t183, t184, t185, t186, t187, t188⟩ : S24)] : List (S24)))).bind fun t267 => (if t267 = true then (if bt251.2 = (bt235.1.length : Int) then (if (bt255.1.length : Int) = 0 then (some (bt255.2 == 0)) else (some false)) else (some false)) else (some false))) else (some false)) else (some false)) else (some false)) else (some false)) else (some false))) else (some false)) else (some false))) else (some false)))) else (none)))) else (none))))) = some true := by first | (rw [hy221]; with_reducible exact H) | (have H2_ := (Option.bind_some _ _).symm.trans H; rw [hy221]; with_reducible exact H2_) | (have H2_ := (Option.bind_some _ _).symm.trans H; with_reducible exact H2_) | with_reducible exact H | (rw [hy221]; exact H) | exact H
  have Ny221 := Aside0.mk hy221
  clear hy221
  replace H := Option.bind_eq_some_iff.mp H
  obtain ⟨⟨t224, t225, t226, t227, t228, t229, t230, t233⟩, A50, H⟩ := H
  replace H : ((journal_Append.f k ([] : List Int) t182 t183 t184 t185 t186 t187 t188).bind fun bt235 => ((some (([] : List Int) : List Int)).bind fun y239 => (if y239.length + bt235.1.length < 140737488355328 then ((some (y239 ++ bt235.1 : List Int)).bind fun y242 => ((some (([1, 2, 3] : List Int) : List Int)).bind fun y245 => (if y242.length + y245.length < 140737488355328 then ((journal_Recover.f k (y242 ++ y245)).bind fun bt251 => ((journal_Recover.f k ([] : List Int)).bind fun bt255 => (if t181 = 0 then ((papermillref61_SameBytes.f t178 (([2, 10, 6, 0, 0, 0, 0] : List Int))).bind fun t262 => (if t262 = true then (if t191 = 0 then ((papermillref61_SameOne.f k t182 t183 t184 t185 t186 t187 t188 1 5 3 0 0 0 ([] : List Int)).bind fun t263 => (if t263 = true then (if t205 = 4 then (if t219 = 3 then (if t233 = 17 then (if bt235.2 = 0 then ((papermillref61_Same.f k bt251.1 (([(⟨t182, t183, t184, t185, t186, t187, t188⟩ : S24)] : List (S24)))).bind fun t267 => (if t267 = true then (if bt251.2 = (bt235.1.length : Int) then (if (bt255.1.length : Int) = 0 then (some (bt255.2 == 0)) else (some false)) else (some false)) else (some false))) else (some false)) else (some false)) else (some false)) else (some false)) else (some false))) else (some false)) else (some false))) else (some false)))) else (none)))) else (none)))) = some true := H
  have A5 := Aside0.mk A50
  clear A50
  replace H := Option.bind_eq_some_iff.mp H
  obtain ⟨⟨t235, t238⟩, A60, H⟩ := H
  replace H : ((some (([] : List Int) : List Int)).bind fun y239 => (if y239.length + t235.length < 140737488355328 then ((some (y239 ++ t235 : List Int)).bind fun y242 => ((some (([1, 2, 3] : List Int) : List Int)).bind fun y245 => (if y242.length + y245.length < 140737488355328 then ((journal_Recover.f k (y242 ++ y245)).bind fun bt251 => ((journal_Recover.f k ([] : List Int)).bind fun bt255 => (if t181 = 0 then ((papermillref61_SameBytes.f t178 (([2, 10, 6, 0, 0, 0, 0] : List Int))).bind fun t262 => (if t262 = true then (if t191 = 0 then ((papermillref61_SameOne.f k t182 t183 t184 t185 t186 t187 t188 1 5 3 0 0 0 ([] : List Int)).bind fun t263 => (if t263 = true then (if t205 = 4 then (if t219 = 3 then (if t233 = 17 then (if t238 = 0 then ((papermillref61_Same.f k bt251.1 (([(⟨t182, t183, t184, t185, t186, t187, t188⟩ : S24)] : List (S24)))).bind fun t267 => (if t267 = true then (if bt251.2 = (t235.length : Int) then (if (bt255.1.length : Int) = 0 then (some (bt255.2 == 0)) else (some false)) else (some false)) else (some false))) else (some false)) else (some false)) else (some false)) else (some false)) else (some false))) else (some false)) else (some false))) else (some false)))) else (none)))) else (none))) = some true := H
  have A6 := Aside0.mk A60
  clear A60
  obtain ⟨y239, hy239⟩ : ∃ y_ : List Int, y_ = (([] : List Int)) := ⟨_, rfl⟩
  replace H : (if y239.length + t235.length < 140737488355328 then ((some (y239 ++ t235 : List Int)).bind fun y242 => ((some (([1, 2, 3] : List Int) : List Int)).bind fun y245 => (if y242.length + y245.length < 140737488355328 then ((journal_Recover.f k (y242 ++ y245)).bind fun bt251 => ((journal_Recover.f k ([] : List Int)).bind fun bt255 => (if t181 = 0 then ((papermillref61_SameBytes.f t178 (([2, 10, 6, 0, 0, 0, 0] : List Int))).bind fun t262 => (if t262 = true then (if t191 = 0 then ((papermillref61_SameOne.f k t182 t183 t184 t185 t186 t187 t188 1 5 3 0 0 0 ([] : List Int)).bind fun t263 => (if t263 = true then (if t205 = 4 then (if t219 = 3 then (if t233 = 17 then (if t238 = 0 then ((papermillref61_Same.f k bt251.1 (([(⟨t182, t183, t184, t185, t186, t187, t188⟩ : S24)] : List (S24)))).bind fun t267 => (if t267 = true then (if bt251.2 = (t235.length : Int) then (if (bt255.1.length : Int) = 0 then (some (bt255.2 == 0)) else (some false)) else (some false)) else (some false))) else (some false)) else (some false)) else (some false)) else (some false)) else (some false))) else (some false)) else (some false))) else (some false)))) else (none)))) else (none)) = some true := by first | (rw [hy239]; with_reducible exact H) | (have H2_ := (Option.bind_some _ _).symm.trans H; rw [hy239]; with_reducible exact H2_) | (have H2_ := (Option.bind_some _ _).symm.trans H; with_reducible exact H2_) | with_reducible exact H | (rw [hy239]; exact H) | exact H
  have Ny239 := Aside0.mk hy239
  clear hy239
  by_cases c7 : y239.length + t235.length < 140737488355328
  ·rw [if_pos c7] at H
   have LMc7 := Aside0.mk c7
   clear c7
   obtain ⟨y242, hy242⟩ : ∃ y_ : List Int, y_ = (y239 ++ t235) := ⟨_, rfl⟩
   replace H : ((some (([1, 2, 3] : List Int) : List Int)).bind fun y245 => (if y242.length + y245.length < 140737488355328 then ((journal_Recover.f k (y242 ++ y245)).bind fun bt251 => ((journal_Recover.f k ([] : List Int)).bind fun bt255 => (if t181 = 0 then ((papermillref61_SameBytes.f t178 (([2, 10, 6, 0, 0, 0, 0] : List Int))).bind fun t262 => (if t262 = true then (if t191 = 0 then ((papermillref61_SameOne.f k t182 t183 t184 t185 t186 t187 t188 1 5 3 0 0 0 ([] : List Int)).bind fun t263 => (if t263 = true then (if t205 = 4 then (if t219 = 3 then (if t233 = 17 then (if t238 = 0 then ((papermillref61_Same.f k bt251.1 (([(⟨t182, t183, t184, t185, t186, t187, t188⟩ : S24)] : List (S24)))).bind fun t267 => (if t267 = true then (if bt251.2 = (t235.length : Int) then (if (bt255.1.length : Int) = 0 then (some (bt255.2 == 0)) else (some false)) else (some false)) else (some false))) else (some false)) else (some false)) else (some false)) else (some false)) else (some false))) else (some false)) else (some false))) else (some false)))) else (none))) = some true := by first | (rw [hy242]; with_reducible exact H) | (have H2_ := (Option.bind_some _ _).symm.trans H; rw [hy242]; with_reducible exact H2_) | (have H2_ := (Option.bind_some _ _).symm.trans H; with_reducible exact H2_) | with_reducible exact H | (rw [hy242]; exact H) | exact H
   have Ny242 := Aside0.mk hy242
   clear hy242
   obtain ⟨y245, hy245⟩ : ∃ y_ : List Int, y_ = (([1, 2, 3] : List Int)) := ⟨_, rfl⟩
   replace H : (if y242.length + y245.length < 140737488355328 then ((journal_Recover.f k (y242 ++ y245)).bind fun bt251 => ((journal_Recover.f k ([] : List Int)).bind fun bt255 => (if t181 = 0 then ((papermillref61_SameBytes.f t178 (([2, 10, 6, 0, 0, 0, 0] : List Int))).bind fun t262 => (if t262 = true then (if t191 = 0 then ((papermillref61_SameOne.f k t182 t183 t184 t185 t186 t187 t188 1 5 3 0 0 0 ([] : List Int)).bind fun t263 => (if t263 = true then (if t205 = 4 then (if t219 = 3 then (if t233 = 17 then (if t238 = 0 then ((papermillref61_Same.f k bt251.1 (([(⟨t182, t183, t184, t185, t186, t187, t188⟩ : S24)] : List (S24)))).bind fun t267 => (if t267 = true then (if bt251.2 = (t235.length : Int) then (if (bt255.1.length : Int) = 0 then (some (bt255.2 == 0)) else (some false)) else (some false)) else (some false))) else (some false)) else (some false)) else (some false)) else (some false)) else (some false))) else (some false)) else (some false))) else (some false)))) else (none)) = some true := by first | (rw [hy245]; with_reducible exact H) | (have H2_ := (Option.bind_some _ _).symm.trans H; rw [hy245]; with_reducible exact H2_) | (have H2_ := (Option.bind_some _ _).symm.trans H; with_reducible exact H2_) | with_reducible exact H | (rw [hy245]; exact H) | exact H
   have Ny245 := Aside0.mk hy245
   clear hy245
   by_cases c8 : y242.length + y245.length < 140737488355328
   ·rw [if_pos c8] at H
    have LMc8 := Aside0.mk c8
    clear c8
    obtain ⟨y248, hy248⟩ : ∃ y_ : List Int, y_ = (y242 ++ y245) := ⟨_, rfl⟩
    replace H : ((journal_Recover.f k y248).bind fun bt251 => ((journal_Recover.f k ([] : List Int)).bind fun bt255 => (if t181 = 0 then ((papermillref61_SameBytes.f t178 (([2, 10, 6, 0, 0, 0, 0] : List Int))).bind fun t262 => (if t262 = true then (if t191 = 0 then ((papermillref61_SameOne.f k t182 t183 t184 t185 t186 t187 t188 1 5 3 0 0 0 ([] : List Int)).bind fun t263 => (if t263 = true then (if t205 = 4 then (if t219 = 3 then (if t233 = 17 then (if t238 = 0 then ((papermillref61_Same.f k bt251.1 (([(⟨t182, t183, t184, t185, t186, t187, t188⟩ : S24)] : List (S24)))).bind fun t267 => (if t267 = true then (if bt251.2 = (t235.length : Int) then (if (bt255.1.length : Int) = 0 then (some (bt255.2 == 0)) else (some false)) else (some false)) else (some false))) else (some false)) else (some false)) else (some false)) else (some false)) else (some false))) else (some false)) else (some false))) else (some false)))) = some true := by first | (rw [hy248]; with_reducible exact H) | (have H2_ := (Option.bind_some _ _).symm.trans H; rw [hy248]; with_reducible exact H2_) | (have H2_ := (Option.bind_some _ _).symm.trans H; with_reducible exact H2_) | with_reducible exact H | (rw [hy248]; exact H) | exact H
    have Ny248 := Aside0.mk hy248
    clear hy248
    replace H := Option.bind_eq_some_iff.mp H
    obtain ⟨⟨t251, t252⟩, A90, H⟩ := H
    replace H : ((journal_Recover.f k ([] : List Int)).bind fun bt255 => (if t181 = 0 then ((papermillref61_SameBytes.f t178 (([2, 10, 6, 0, 0, 0, 0] : List Int))).bind fun t262 => (if t262 = true then (if t191 = 0 then ((papermillref61_SameOne.f k t182 t183 t184 t185 t186 t187 t188 1 5 3 0 0 0 ([] : List Int)).bind fun t263 => (if t263 = true then (if t205 = 4 then (if t219 = 3 then (if t233 = 17 then (if t238 = 0 then ((papermillref61_Same.f k t251 (([(⟨t182, t183, t184, t185, t186, t187, t188⟩ : S24)] : List (S24)))).bind fun t267 => (if t267 = true then (if t252 = (t235.length : Int) then (if (bt255.1.length : Int) = 0 then (some (bt255.2 == 0)) else (some false)) else (some false)) else (some false))) else (some false)) else (some false)) else (some false)) else (some false)) else (some false))) else (some false)) else (some false))) else (some false))) = some true := H
    have A9 := Aside0.mk A90
    clear A90
    replace H := Option.bind_eq_some_iff.mp H
    obtain ⟨⟨t255, t256⟩, A100, H⟩ := H
    replace H : (if t181 = 0 then ((papermillref61_SameBytes.f t178 (([2, 10, 6, 0, 0, 0, 0] : List Int))).bind fun t262 => (if t262 = true then (if t191 = 0 then ((papermillref61_SameOne.f k t182 t183 t184 t185 t186 t187 t188 1 5 3 0 0 0 ([] : List Int)).bind fun t263 => (if t263 = true then (if t205 = 4 then (if t219 = 3 then (if t233 = 17 then (if t238 = 0 then ((papermillref61_Same.f k t251 (([(⟨t182, t183, t184, t185, t186, t187, t188⟩ : S24)] : List (S24)))).bind fun t267 => (if t267 = true then (if t252 = (t235.length : Int) then (if (t255.length : Int) = 0 then (some (t256 == 0)) else (some false)) else (some false)) else (some false))) else (some false)) else (some false)) else (some false)) else (some false)) else (some false))) else (some false)) else (some false))) else (some false)) = some true := H
    have A10 := Aside0.mk A100
    clear A100
    by_cases c11 : t181 = 0
    ·rw [if_pos c11] at H
     have c11b0 : (t181 == 0) = true := beq_iff_eq.mpr c11
     have c11b1 : (t181 != 0) = false := bne_eq_false_iff_eq.mpr c11
     clear c11
     obtain ⟨y259, hy259⟩ : ∃ y_ : List Int, y_ = (([2, 10, 6, 0, 0, 0, 0] : List Int)) := ⟨_, rfl⟩
     replace H : ((papermillref61_SameBytes.f t178 y259).bind fun t262 => (if t262 = true then (if t191 = 0 then ((papermillref61_SameOne.f k t182 t183 t184 t185 t186 t187 t188 1 5 3 0 0 0 ([] : List Int)).bind fun t263 => (if t263 = true then (if t205 = 4 then (if t219 = 3 then (if t233 = 17 then (if t238 = 0 then ((papermillref61_Same.f k t251 (([(⟨t182, t183, t184, t185, t186, t187, t188⟩ : S24)] : List (S24)))).bind fun t267 => (if t267 = true then (if t252 = (t235.length : Int) then (if (t255.length : Int) = 0 then (some (t256 == 0)) else (some false)) else (some false)) else (some false))) else (some false)) else (some false)) else (some false)) else (some false)) else (some false))) else (some false)) else (some false))) = some true := by first | (rw [hy259]; with_reducible exact H) | (have H2_ := (Option.bind_some _ _).symm.trans H; rw [hy259]; with_reducible exact H2_) | (have H2_ := (Option.bind_some _ _).symm.trans H; with_reducible exact H2_) | with_reducible exact H | (rw [hy259]; exact H) | exact H
     have Ny259 := Aside0.mk hy259
     clear hy259
     replace H := Option.bind_eq_some_iff.mp H
     obtain ⟨t262, A120, H⟩ := H
     replace H : (if t262 = true then (if t191 = 0 then ((papermillref61_SameOne.f k t182 t183 t184 t185 t186 t187 t188 1 5 3 0 0 0 ([] : List Int)).bind fun t263 => (if t263 = true then (if t205 = 4 then (if t219 = 3 then (if t233 = 17 then (if t238 = 0 then ((papermillref61_Same.f k t251 (([(⟨t182, t183, t184, t185, t186, t187, t188⟩ : S24)] : List (S24)))).bind fun t267 => (if t267 = true then (if t252 = (t235.length : Int) then (if (t255.length : Int) = 0 then (some (t256 == 0)) else (some false)) else (some false)) else (some false))) else (some false)) else (some false)) else (some false)) else (some false)) else (some false))) else (some false)) else (some false)) = some true := H
     have A12 := Aside0.mk A120
     clear A120
     by_cases c13 : t262 = true
     ·subst c13
      have H1 : (if t191 = 0 then ((papermillref61_SameOne.f k t182 t183 t184 t185 t186 t187 t188 1 5 3 0 0 0 ([] : List Int)).bind fun t263 => (if t263 = true then (if t205 = 4 then (if t219 = 3 then (if t233 = 17 then (if t238 = 0 then ((papermillref61_Same.f k t251 (([(⟨t182, t183, t184, t185, t186, t187, t188⟩ : S24)] : List (S24)))).bind fun t267 => (if t267 = true then (if t252 = (t235.length : Int) then (if (t255.length : Int) = 0 then (some (t256 == 0)) else (some false)) else (some false)) else (some false))) else (some false)) else (some false)) else (some false)) else (some false)) else (some false))) else (some false)) = some true := by rw [if_pos rfl] at H; exact H
      clear H
      have H := H1
      clear H1
      by_cases c14 : t191 = 0
      ·rw [if_pos c14] at H
       have c14b0 : (t191 == 0) = true := beq_iff_eq.mpr c14
       have c14b1 : (t191 != 0) = false := bne_eq_false_iff_eq.mpr c14
       clear c14
       replace H := Option.bind_eq_some_iff.mp H
       obtain ⟨t263, A150, H⟩ := H
       replace H : (if t263 = true then (if t205 = 4 then (if t219 = 3 then (if t233 = 17 then (if t238 = 0 then ((papermillref61_Same.f k t251 (([(⟨t182, t183, t184, t185, t186, t187, t188⟩ : S24)] : List (S24)))).bind fun t267 => (if t267 = true then (if t252 = (t235.length : Int) then (if (t255.length : Int) = 0 then (some (t256 == 0)) else (some false)) else (some false)) else (some false))) else (some false)) else (some false)) else (some false)) else (some false)) else (some false)) = some true := H
       have A15 := Aside0.mk A150
       clear A150
       by_cases c16 : t263 = true
       ·subst c16
        have H1 : (if t205 = 4 then (if t219 = 3 then (if t233 = 17 then (if t238 = 0 then ((papermillref61_Same.f k t251 (([(⟨t182, t183, t184, t185, t186, t187, t188⟩ : S24)] : List (S24)))).bind fun t267 => (if t267 = true then (if t252 = (t235.length : Int) then (if (t255.length : Int) = 0 then (some (t256 == 0)) else (some false)) else (some false)) else (some false))) else (some false)) else (some false)) else (some false)) else (some false)) = some true := by rw [if_pos rfl] at H; exact H
        clear H
        have H := H1
        clear H1
        by_cases c17 : t205 = 4
        ·rw [if_pos c17] at H
         have c17b0 : (t205 == 4) = true := beq_iff_eq.mpr c17
         have c17b1 : (t205 != 4) = false := bne_eq_false_iff_eq.mpr c17
         clear c17
         by_cases c18 : t219 = 3
         ·rw [if_pos c18] at H
          have c18b0 : (t219 == 3) = true := beq_iff_eq.mpr c18
          have c18b1 : (t219 != 3) = false := bne_eq_false_iff_eq.mpr c18
          clear c18
          by_cases c19 : t233 = 17
          ·rw [if_pos c19] at H
           have c19b0 : (t233 == 17) = true := beq_iff_eq.mpr c19
           have c19b1 : (t233 != 17) = false := bne_eq_false_iff_eq.mpr c19
           clear c19
           by_cases c20 : t238 = 0
           ·rw [if_pos c20] at H
            have c20b0 : (t238 == 0) = true := beq_iff_eq.mpr c20
            have c20b1 : (t238 != 0) = false := bne_eq_false_iff_eq.mpr c20
            clear c20
            obtain ⟨y264, hy264⟩ : ∃ y_ : List (S24), y_ = (([(⟨t182, t183, t184, t185, t186, t187, t188⟩ : S24)] : List (S24))) := ⟨_, rfl⟩
            replace H : ((papermillref61_Same.f k t251 y264).bind fun t267 => (if t267 = true then (if t252 = (t235.length : Int) then (if (t255.length : Int) = 0 then (some (t256 == 0)) else (some false)) else (some false)) else (some false))) = some true := by first | (rw [hy264]; with_reducible exact H) | (have H2_ := (Option.bind_some _ _).symm.trans H; rw [hy264]; with_reducible exact H2_) | (have H2_ := (Option.bind_some _ _).symm.trans H; with_reducible exact H2_) | with_reducible exact H | (rw [hy264]; exact H) | exact H
            have Ny264 := Aside0.mk hy264
            clear hy264
            replace H := Option.bind_eq_some_iff.mp H
            obtain ⟨t267, A210, H⟩ := H
            replace H : (if t267 = true then (if t252 = (t235.length : Int) then (if (t255.length : Int) = 0 then (some (t256 == 0)) else (some false)) else (some false)) else (some false)) = some true := H
            have A21 := Aside0.mk A210
            clear A210
            by_cases c22 : t267 = true
            ·subst c22
             have H1 : (if t252 = (t235.length : Int) then (if (t255.length : Int) = 0 then (some (t256 == 0)) else (some false)) else (some false)) = some true := by rw [if_pos rfl] at H; exact H
             clear H
             have H := H1
             clear H1
             by_cases c23 : t252 = (t235.length : Int)
             ·rw [if_pos c23] at H
              have c23b0 : (t252 == (t235.length : Int)) = true := beq_iff_eq.mpr c23
              have c23b1 : (t252 != (t235.length : Int)) = false := bne_eq_false_iff_eq.mpr c23
              clear c23
              by_cases c24 : (t255.length : Int) = 0
              ·rw [if_pos c24] at H
               have c24b0 : ((t255.length : Int) == 0) = true := beq_iff_eq.mpr c24
               have c24b1 : ((t255.length : Int) != 0) = false := bne_eq_false_iff_eq.mpr c24
               clear c24
               have Hl := Option.some.inj H
               go_enter Tryd.func12, Tryd.ntmps12
               go_wp2_with (first | (go_at_call 13; (refine (journal_Put.calls k 1 5 3 0 0 0 none 0 ([] : List Int) t178 t181 _ (Kd.C_nil _ _) (Nat.le_refl _) A1.out).mono ?_); rintro e w1 ⟨v1, rfl, ho, hb⟩; obtain ⟨Aa, ca, ea⟩ := Kd.R_slice ho; subst ea; have HB_ := Aside0.mk (below_step HB.out hb); clear HB; have HB := HB_; clear HB_; have HA := Aside0.mk (show _ ∧ _ from ⟨(Kd.R_reads' ho).2.2, (Kd.R_reads' ho).2.1⟩); clear ho hb) | (go_at_call 18; (with_reducible refine (journal_Get.calls k _ _ t178 t182 t183 t184 t185 t186 t187 t188 t191 _ HA.out.1 HA.out.2 A2.out).mono ?_); rintro e w2 ⟨v2, rfl, ho, hb⟩; obtain ⟨Ax, cx, ex⟩ := Kd.R_slice ho; subst ex; have HB_ := Aside0.mk (below_step HB.out hb); have HA_ := Aside0.mk (show _ ∧ _ from ⟨Kd.C_below HA.out.1 hb, HA.out.2⟩); clear HB HA; have HB := HB_; have HA := HA_; clear HB_ HA_; have HX := Aside0.mk (show _ ∧ _ from ⟨(Kd.R_reads' ho).2.2, (Kd.R_reads' ho).2.1⟩); clear ho hb) | ((with_reducible refine gate_dst (N := 3) rfl ?_); refine box_event ?hg (N := 3) ?hd (cs := #[.int .i64 0, .int .i64 0, .int .i64 0, .int .i64 0, .int .i64 0, .int .i64 0, .slice none 0 0]) (t := 24) ?hr ?_; (case hd => rfl); (case hg => rfl); (case hr => first | (go_simp; done) | (go_simp; rfl)); intro g3 hg w3q hbox hb; have BK := Aside0.mk hbox; have HS := Aside0.mk hb; have GE := Aside0.mk (Nat.le_of_eq hg.symm); clear hbox hb hg; have hz0 : w3q.cell? ⟨g3, 0, none⟩ = some (.int .i64 0) := (blk_cell BK.out 0).trans rfl; have hz1 : w3q.cell? ⟨g3, 1, none⟩ = some (.int .i64 0) := (blk_cell BK.out 1).trans rfl; have hz2 : w3q.cell? ⟨g3, 2, none⟩ = some (.int .i64 0) := (blk_cell BK.out 2).trans rfl; have hz3 : w3q.cell? ⟨g3, 3, none⟩ = some (.int .i64 0) := (blk_cell BK.out 3).trans rfl; have hz4 : w3q.cell? ⟨g3, 4, none⟩ = some (.int .i64 0) := (blk_cell BK.out 4).trans rfl; have hz5 : w3q.cell? ⟨g3, 5, none⟩ = some (.int .i64 0) := (blk_cell BK.out 5).trans rfl; have hz6 : w3q.cell? ⟨g3, 6, none⟩ = some (.slice none 0 0) := (blk_cell BK.out 6).trans rfl; have hf0 := blk_frozen BK.out 0; have hf1 := blk_frozen BK.out 1; have hf2 := blk_frozen BK.out 2; have hf3 := blk_frozen BK.out 3; have hf4 := blk_frozen BK.out 4; have hf5 := blk_frozen BK.out 5; have hf6 := blk_frozen BK.out 6; go_step; go_step; generalize hW : World.setCell _ _ _ = w3; have hq := (show Below _ _ w3 from (by rw [← hW]; exact (below_set (below_set (below_set (below_set (below_set (below_set (below_set HS.out GE.out) GE.out) GE.out) GE.out) GE.out) GE.out) GE.out))); have BX := Aside0.mk (show w3.heap[g3]? = some (.cells #[(.int .i64 t182), (.int .i64 t183), (.int .i64 t184), (.int .i64 t185), (.int .i64 t186), (.int .i64 t187), (.slice Ax t188.length cx)] 24 (0, 0)) from (by rw [← hW]; exact (blk_put (blk_put (blk_put (blk_put (blk_put (blk_put (blk_put BK.out 0 _ rfl) 1 _ rfl) 2 _ rfl) 3 _ rfl) 4 _ rfl) 5 _ rfl) 6 _ rfl))); have HB_ := Aside0.mk (below_step HB.out hq); have HA_ := Aside0.mk (show _ ∧ _ from ⟨Kd.C_below HA.out.1 hq, HA.out.2⟩); have HX_ := Aside0.mk (show _ ∧ _ from ⟨Kd.C_below HX.out.1 hq, HX.out.2⟩); clear HB HA HX; have HB := HB_; have HA := HA_; have HX := HX_; clear HB_ HA_ HX_; clear hz0 hf0 hz1 hf1 hz2 hf2 hz3 hf3 hz4 hf4 hz5 hf5 hz6 hf6; clear hq hW BK HS GE) | ((with_reducible refine gate_dst (N := 28) rfl ?_); refine Kd.R_lit (Kd.int .u8) _ 5 ?hg (N := 28) ?hd (xs := ([2, 10] : List Int)) (inner := [.int .u8 2, .int .u8 10]) (ok := fun _ => True) (okp := fun _ => True) ?hr ?hp (fun _ hk => hk) trivial (Below.refl _ _) (Nat.le_refl _) (by simp) ?_; (case hd => rfl); (case hg => rfl); (case hr => first | (go_simp; done) | (go_simp; rfl)); (case hp => exact (Reps.one (show Kd.M (Kd.int .u8) _ _ _ 2 [.int .u8 2] from rfl) (Reps.one (show Kd.M (Kd.int .u8) _ _ _ 10 [.int .u8 10] from rfl) (Reps.none _ _)))); intro v w4 ho hb hg_ hnew_; clear hg_ hnew_; (first | rw [← Ny193.out] at ho | (simp only [Int.reduceToNat] at ho; rw [← Ny193.out] at ho)); have HB_ := Aside0.mk (below_step HB.out hb); have HA_ := Aside0.mk (show _ ∧ _ from ⟨Kd.C_below HA.out.1 hb, HA.out.2⟩); have HX_ := Aside0.mk (show _ ∧ _ from ⟨Kd.C_below HX.out.1 hb, HX.out.2⟩); have BX_ := Aside0.mk (blk_below BX.out hb); clear HB HA HX BX; have HB := HB_; have HA := HA_; have HX := HX_; have BX := BX_; clear HB_ HA_ HX_ BX_; obtain ⟨Al, cl, el⟩ := Kd.R_slice ho; subst el; have HLIT := Aside0.mk (show _ ∧ _ from ⟨(Kd.R_reads' ho).2.2, (Kd.R_reads' ho).2.1⟩); clear ho hb) | (go_at_call 18; (with_reducible refine (journal_Get.calls k _ _ y193 t196 t197 t198 t199 t200 t201 t202 t205 _ HLIT.out.1 HLIT.out.2 A3.out).mono ?_); rintro e w5 ⟨v, rfl, ho, hb⟩; obtain ⟨Ad, cd, ed⟩ := Kd.R_slice ho; subst ed; have HB_ := Aside0.mk (below_step HB.out hb); have HA_ := Aside0.mk (show _ ∧ _ from ⟨Kd.C_below HA.out.1 hb, HA.out.2⟩); have HX_ := Aside0.mk (show _ ∧ _ from ⟨Kd.C_below HX.out.1 hb, HX.out.2⟩); have BX_ := Aside0.mk (blk_below BX.out hb); clear HB HA HX BX; have HB := HB_; have HA := HA_; have HX := HX_; have BX := BX_; clear HB_ HA_ HX_ BX_; clear ho hb HLIT) | ((with_reducible refine gate_dst (N := 5) rfl ?_); refine box_event ?hg (N := 5) ?hd (cs := #[.int .i64 0, .int .i64 0, .int .i64 0, .int .i64 0, .int .i64 0, .int .i64 0, .slice none 0 0]) (t := 24) ?hr ?_; (case hd => rfl); (case hg => rfl); (case hr => first | (go_simp; done) | (go_simp; rfl)); intro g5 hg w6q hbox hb; have BK := Aside0.mk hbox; have HS := Aside0.mk hb; have GE := Aside0.mk (Nat.le_of_eq hg.symm); clear hbox hb hg; have hz0 : w6q.cell? ⟨g5, 0, none⟩ = some (.int .i64 0) := (blk_cell BK.out 0).trans rfl; have hz1 : w6q.cell? ⟨g5, 1, none⟩ = some (.int .i64 0) := (blk_cell BK.out 1).trans rfl; have hz2 : w6q.cell? ⟨g5, 2, none⟩ = some (.int .i64 0) := (blk_cell BK.out 2).trans rfl; have hz3 : w6q.cell? ⟨g5, 3, none⟩ = some (.int .i64 0) := (blk_cell BK.out 3).trans rfl; have hz4 : w6q.cell? ⟨g5, 4, none⟩ = some (.int .i64 0) := (blk_cell BK.out 4).trans rfl; have hz5 : w6q.cell? ⟨g5, 5, none⟩ = some (.int .i64 0) := (blk_cell BK.out 5).trans rfl; have hz6 : w6q.cell? ⟨g5, 6, none⟩ = some (.slice none 0 0) := (blk_cell BK.out 6).trans rfl; have hf0 := blk_frozen BK.out 0; have hf1 := blk_frozen BK.out 1; have hf2 := blk_frozen BK.out 2; have hf3 := blk_frozen BK.out 3; have hf4 := blk_frozen BK.out 4; have hf5 := blk_frozen BK.out 5; have hf6 := blk_frozen BK.out 6; go_step; go_step; generalize hW : World.setCell _ _ _ = w6; have hq := (show Below _ _ w6 from (by rw [← hW]; exact (below_set (below_set (below_set (below_set (below_set (below_set (below_set HS.out GE.out) GE.out) GE.out) GE.out) GE.out) GE.out) GE.out))); have HB_ := Aside0.mk (below_step HB.out hq); have HA_ := Aside0.mk (show _ ∧ _ from ⟨Kd.C_below HA.out.1 hq, HA.out.2⟩); have HX_ := Aside0.mk (show _ ∧ _ from ⟨Kd.C_below HX.out.1 hq, HX.out.2⟩); have BX_ := Aside0.mk (blk_below BX.out hq); clear HB HA HX BX; have HB := HB_; have HA := HA_; have HX := HX_; have BX := BX_; clear HB_ HA_ HX_ BX_; clear hz0 hf0 hz1 hf1 hz2 hf2 hz3 hf3 hz4 hf4 hz5 hf5 hz6 hf6; clear hq hW BK HS GE) | ((with_reducible refine gate_dst (N := 33) rfl ?_); refine Kd.R_lit (Kd.int .u8) _ 5 ?hg (N := 33) ?hd (xs := ([2, 10, 6, 0, 0, 0, 0, 0] : List Int)) (inner := [.int .u8 2, .int .u8 10, .int .u8 6, .int .u8 0, .int .u8 0, .int .u8 0, .int .u8 0, .int .u8 0]) (ok := fun _ => True) (okp := fun _ => True) ?hr ?hp (fun _ hk => hk) trivial (Below.refl _ _) (Nat.le_refl _) (by simp) ?_; (case hd => rfl); (case hg => rfl); (case hr => first | (go_simp; done) | (go_simp; rfl)); (case hp => exact (Reps.one (show Kd.M (Kd.int .u8) _ _ _ 2 [.int .u8 2] from rfl) (Reps.one (show Kd.M (Kd.int .u8) _ _ _ 10 [.int .u8 10] from rfl) (Reps.one (show Kd.M (Kd.int .u8) _ _ _ 6 [.int .u8 6] from rfl) (Reps.one (show Kd.M (Kd.int .u8) _ _ _ 0 [.int .u8 0] from rfl) (Reps.one (show Kd.M (Kd.int .u8) _ _ _ 0 [.int .u8 0] from rfl) (Reps.one (show Kd.M (Kd.int .u8) _ _ _ 0 [.int .u8 0] from rfl) (Reps.one (show Kd.M (Kd.int .u8) _ _ _ 0 [.int .u8 0] from rfl) (Reps.one (show Kd.M (Kd.int .u8) _ _ _ 0 [.int .u8 0] from rfl) (Reps.none _ _)))))))))); intro v w7 ho hb hg_ hnew_; clear hg_ hnew_; (first | rw [← Ny207.out] at ho | (simp only [Int.reduceToNat] at ho; rw [← Ny207.out] at ho)); have HB_ := Aside0.mk (below_step HB.out hb); have HA_ := Aside0.mk (show _ ∧ _ from ⟨Kd.C_below HA.out.1 hb, HA.out.2⟩); have HX_ := Aside0.mk (show _ ∧ _ from ⟨Kd.C_below HX.out.1 hb, HX.out.2⟩); have BX_ := Aside0.mk (blk_below BX.out hb); clear HB HA HX BX; have HB := HB_; have HA := HA_; have HX := HX_; have BX := BX_; clear HB_ HA_ HX_ BX_; obtain ⟨Al, cl, el⟩ := Kd.R_slice ho; subst el; have HLIT := Aside0.mk (show _ ∧ _ from ⟨(Kd.R_reads' ho).2.2, (Kd.R_reads' ho).2.1⟩); clear ho hb) | (go_at_call 18; (with_reducible refine (journal_Get.calls k _ _ y207 t210 t211 t212 t213 t214 t215 t216 t219 _ HLIT.out.1 HLIT.out.2 A4.out).mono ?_); rintro e w8 ⟨v, rfl, ho, hb⟩; obtain ⟨Ad, cd, ed⟩ := Kd.R_slice ho; subst ed; have HB_ := Aside0.mk (below_step HB.out hb); have HA_ := Aside0.mk (show _ ∧ _ from ⟨Kd.C_below HA.out.1 hb, HA.out.2⟩); have HX_ := Aside0.mk (show _ ∧ _ from ⟨Kd.C_below HX.out.1 hb, HX.out.2⟩); have BX_ := Aside0.mk (blk_below BX.out hb); clear HB HA HX BX; have HB := HB_; have HA := HA_; have HX := HX_; have BX := BX_; clear HB_ HA_ HX_ BX_; clear ho hb HLIT) | ((with_reducible refine gate_dst (N := 7) rfl ?_); refine box_event ?hg (N := 7) ?hd (cs := #[.int .i64 0, .int .i64 0, .int .i64 0, .int .i64 0, .int .i64 0, .int .i64 0, .slice none 0 0]) (t := 24) ?hr ?_; (case hd => rfl); (case hg => rfl); (case hr => first | (go_simp; done) | (go_simp; rfl)); intro g7 hg w9q hbox hb; have BK := Aside0.mk hbox; have HS := Aside0.mk hb; have GE := Aside0.mk (Nat.le_of_eq hg.symm); clear hbox hb hg; have hz0 : w9q.cell? ⟨g7, 0, none⟩ = some (.int .i64 0) := (blk_cell BK.out 0).trans rfl; have hz1 : w9q.cell? ⟨g7, 1, none⟩ = some (.int .i64 0) := (blk_cell BK.out 1).trans rfl; have hz2 : w9q.cell? ⟨g7, 2, none⟩ = some (.int .i64 0) := (blk_cell BK.out 2).trans rfl; have hz3 : w9q.cell? ⟨g7, 3, none⟩ = some (.int .i64 0) := (blk_cell BK.out 3).trans rfl; have hz4 : w9q.cell? ⟨g7, 4, none⟩ = some (.int .i64 0) := (blk_cell BK.out 4).trans rfl; have hz5 : w9q.cell? ⟨g7, 5, none⟩ = some (.int .i64 0) := (blk_cell BK.out 5).trans rfl; have hz6 : w9q.cell? ⟨g7, 6, none⟩ = some (.slice none 0 0) := (blk_cell BK.out 6).trans rfl; have hf0 := blk_frozen BK.out 0; have hf1 := blk_frozen BK.out 1; have hf2 := blk_frozen BK.out 2; have hf3 := blk_frozen BK.out 3; have hf4 := blk_frozen BK.out 4; have hf5 := blk_frozen BK.out 5; have hf6 := blk_frozen BK.out 6; go_step; go_step; generalize hW : World.setCell _ _ _ = w9; have hq := (show Below _ _ w9 from (by rw [← hW]; exact (below_set (below_set (below_set (below_set (below_set (below_set (below_set HS.out GE.out) GE.out) GE.out) GE.out) GE.out) GE.out) GE.out))); have HB_ := Aside0.mk (below_step HB.out hq); have HA_ := Aside0.mk (show _ ∧ _ from ⟨Kd.C_below HA.out.1 hq, HA.out.2⟩); have HX_ := Aside0.mk (show _ ∧ _ from ⟨Kd.C_below HX.out.1 hq, HX.out.2⟩); have BX_ := Aside0.mk (blk_below BX.out hq); clear HB HA HX BX; have HB := HB_; have HA := HA_; have HX := HX_; have BX := BX_; clear HB_ HA_ HX_ BX_; clear hz0 hf0 hz1 hf1 hz2 hf2 hz3 hf3 hz4 hf4 hz5 hf5 hz6 hf6; clear hq hW BK HS GE) | ((with_reducible refine gate_dst (N := 38) rfl ?_); refine Kd.R_lit (Kd.int .u8) _ 5 ?hg (N := 38) ?hd (xs := ([38, 0, 0, 0, 0, 0, 0] : List Int)) (inner := [.int .u8 38, .int .u8 0, .int .u8 0, .int .u8 0, .int .u8 0, .int .u8 0, .int .u8 0]) (ok := fun _ => True) (okp := fun _ => True) ?hr ?hp (fun _ hk => hk) trivial (Below.refl _ _) (Nat.le_refl _) (by simp) ?_; (case hd => rfl); (case hg => rfl); (case hr => first | (go_simp; done) | (go_simp; rfl)); (case hp => exact (Reps.one (show Kd.M (Kd.int .u8) _ _ _ 38 [.int .u8 38] from rfl) (Reps.one (show Kd.M (Kd.int .u8) _ _ _ 0 [.int .u8 0] from rfl) (Reps.one (show Kd.M (Kd.int .u8) _ _ _ 0 [.int .u8 0] from rfl) (Reps.one (show Kd.M (Kd.int .u8) _ _ _ 0 [.int .u8 0] from rfl) (Reps.one (show Kd.M (Kd.int .u8) _ _ _ 0 [.int .u8 0] from rfl) (Reps.one (show Kd.M (Kd.int .u8) _ _ _ 0 [.int .u8 0] from rfl) (Reps.one (show Kd.M (Kd.int .u8) _ _ _ 0 [.int .u8 0] from rfl) (Reps.none _ _))))))))); intro v w10 ho hb hg_ hnew_; clear hg_ hnew_; (first | rw [← Ny221.out] at ho | (simp only [Int.reduceToNat] at ho; rw [← Ny221.out] at ho)); have HB_ := Aside0.mk (below_step HB.out hb); have HA_ := Aside0.mk (show _ ∧ _ from ⟨Kd.C_below HA.out.1 hb, HA.out.2⟩); have HX_ := Aside0.mk (show _ ∧ _ from ⟨Kd.C_below HX.out.1 hb, HX.out.2⟩); have BX_ := Aside0.mk (blk_below BX.out hb); clear HB HA HX BX; have HB := HB_; have HA := HA_; have HX := HX_; have BX := BX_; clear HB_ HA_ HX_ BX_; obtain ⟨Al, cl, el⟩ := Kd.R_slice ho; subst el; have HLIT := Aside0.mk (show _ ∧ _ from ⟨(Kd.R_reads' ho).2.2, (Kd.R_reads' ho).2.1⟩); clear ho hb) | (go_at_call 18; (with_reducible refine (journal_Get.calls k _ _ y221 t224 t225 t226 t227 t228 t229 t230 t233 _ HLIT.out.1 HLIT.out.2 A5.out).mono ?_); rintro e w11 ⟨v, rfl, ho, hb⟩; obtain ⟨Ad, cd, ed⟩ := Kd.R_slice ho; subst ed; have HB_ := Aside0.mk (below_step HB.out hb); have HA_ := Aside0.mk (show _ ∧ _ from ⟨Kd.C_below HA.out.1 hb, HA.out.2⟩); have HX_ := Aside0.mk (show _ ∧ _ from ⟨Kd.C_below HX.out.1 hb, HX.out.2⟩); have BX_ := Aside0.mk (blk_below BX.out hb); clear HB HA HX BX; have HB := HB_; have HA := HA_; have HX := HX_; have BX := BX_; clear HB_ HA_ HX_ BX_; clear ho hb HLIT) | ((with_reducible refine gate_dst (N := 9) rfl ?_); refine box_event ?hg (N := 9) ?hd (cs := #[.int .i64 0, .int .i64 0, .int .i64 0, .int .i64 0, .int .i64 0, .int .i64 0, .slice none 0 0]) (t := 24) ?hr ?_; (case hd => rfl); (case hg => rfl); (case hr => first | (go_simp; done) | (go_simp; rfl)); intro g9 hg w12q hbox hb; have BK := Aside0.mk hbox; have HS := Aside0.mk hb; have GE := Aside0.mk (Nat.le_of_eq hg.symm); clear hbox hb hg; have hz0 : w12q.cell? ⟨g9, 0, none⟩ = some (.int .i64 0) := (blk_cell BK.out 0).trans rfl; have hz1 : w12q.cell? ⟨g9, 1, none⟩ = some (.int .i64 0) := (blk_cell BK.out 1).trans rfl; have hz2 : w12q.cell? ⟨g9, 2, none⟩ = some (.int .i64 0) := (blk_cell BK.out 2).trans rfl; have hz3 : w12q.cell? ⟨g9, 3, none⟩ = some (.int .i64 0) := (blk_cell BK.out 3).trans rfl; have hz4 : w12q.cell? ⟨g9, 4, none⟩ = some (.int .i64 0) := (blk_cell BK.out 4).trans rfl; have hz5 : w12q.cell? ⟨g9, 5, none⟩ = some (.int .i64 0) := (blk_cell BK.out 5).trans rfl; have hz6 : w12q.cell? ⟨g9, 6, none⟩ = some (.slice none 0 0) := (blk_cell BK.out 6).trans rfl; have hf0 := blk_frozen BK.out 0; have hf1 := blk_frozen BK.out 1; have hf2 := blk_frozen BK.out 2; have hf3 := blk_frozen BK.out 3; have hf4 := blk_frozen BK.out 4; have hf5 := blk_frozen BK.out 5; have hf6 := blk_frozen BK.out 6; go_step; go_step; generalize hW : World.setCell _ _ _ = w12; have hq := (show Below _ _ w12 from (by rw [← hW]; exact (below_set (below_set (below_set (below_set (below_set (below_set (below_set HS.out GE.out) GE.out) GE.out) GE.out) GE.out) GE.out) GE.out))); have HB_ := Aside0.mk (below_step HB.out hq); have HA_ := Aside0.mk (show _ ∧ _ from ⟨Kd.C_below HA.out.1 hq, HA.out.2⟩); have HX_ := Aside0.mk (show _ ∧ _ from ⟨Kd.C_below HX.out.1 hq, HX.out.2⟩); have BX_ := Aside0.mk (blk_below BX.out hq); clear HB HA HX BX; have HB := HB_; have HA := HA_; have HX := HX_; have BX := BX_; clear HB_ HA_ HX_ BX_; clear hz0 hf0 hz1 hf1 hz2 hf2 hz3 hf3 hz4 hf4 hz5 hf5 hz6 hf6; clear hq hW BK HS GE; have hx0 : w12.cell? ⟨g3, 0, none⟩ = some (.int .i64 t182) := (blk_cell BX.out 0).trans rfl; have hx1 : w12.cell? ⟨g3, 1, none⟩ = some (.int .i64 t183) := (blk_cell BX.out 1).trans rfl; have hx2 : w12.cell? ⟨g3, 2, none⟩ = some (.int .i64 t184) := (blk_cell BX.out 2).trans rfl; have hx3 : w12.cell? ⟨g3, 3, none⟩ = some (.int .i64 t185) := (blk_cell BX.out 3).trans rfl; have hx4 : w12.cell? ⟨g3, 4, none⟩ = some (.int .i64 t186) := (blk_cell BX.out 4).trans rfl; have hx5 : w12.cell? ⟨g3, 5, none⟩ = some (.int .i64 t187) := (blk_cell BX.out 5).trans rfl; have hx6 : w12.cell? ⟨g3, 6, none⟩ = some (.slice Ax t188.length cx) := (blk_cell BX.out 6).trans rfl) | (go_at_call 21; (refine (journal_Append.calls k none 0 ([] : List Int) t182 t183 t184 t185 t186 t187 Ax cx t188 t235 t238 _ (Kd.C_nil _ _) (Nat.le_refl _) HX.out.1 HX.out.2 (Kd.C_below HT.out HB.out) A6.out).mono ?_); rintro e w13 ⟨v11, rfl, ho, hb⟩; clear hx0 hx1 hx2 hx3 hx4 hx5 hx6; have HB_ := Aside0.mk (below_step HB.out hb); have HA_ := Aside0.mk (show _ ∧ _ from ⟨Kd.C_below HA.out.1 hb, HA.out.2⟩); have HX_ := Aside0.mk (show _ ∧ _ from ⟨Kd.C_below HX.out.1 hb, HX.out.2⟩); have BX_ := Aside0.mk (blk_below BX.out hb); clear HB HA HX BX; have HB := HB_; have HA := HA_; have HX := HX_; have BX := BX_; clear HB_ HA_ HX_ BX_; obtain ⟨Ab, cb, eb⟩ := Kd.R_slice ho; subst eb; have HBB := Aside0.mk (show _ ∧ _ from ⟨(Kd.R_reads' ho).2.2, (Kd.R_reads' ho).2.1⟩); clear ho hb) | ((with_reducible refine gate_dst (N := 48) rfl ?_); refine Kd.R_lit (Kd.int .u8) _ 5 ?hg (N := 48) ?hd (xs := ([] : List Int)) (inner := []) (ok := fun _ => True) (okp := fun _ => True) ?hr ?hp (fun _ hk => hk) trivial (Below.refl _ _) (Nat.le_refl _) (by simp) ?_; (case hd => rfl); (case hg => rfl); (case hr => first | (go_simp; done) | (go_simp; rfl)); (case hp => exact (Reps.none _ _)); intro v48 w14 ho hb hg_ hnew_; clear hg_ hnew_; (first | rw [← Ny239.out] at ho | (simp only [Int.reduceToNat] at ho; rw [← Ny239.out] at ho)); have HO := Aside0.mk ho; have HQ := Aside0.mk hb; clear ho hb) | ((with_reducible refine gate_builtin (b := .append) (xs := #[.tmp 48, .tmp 49]) rfl ?_); at_builtin; refine Kd.R_append_rows (Kd.int .u8) (w0 := w13) w13.heap.size rfl (.tmp 48) (.tmp 49) 28 5 (.int .u8 0) 1 rfl Tryd.underlying28 info5 rfl (by decide) (by omega) v48 y239 t235 _ _ _ (fun _ => True) (fun _ => False) rfl rfl HO.out ?aR (fun _ _ h => h) (fun _ h => h.elim) (fun _ _ => trivial) HQ.out (below_size HQ.out) ?aL ?_; (case aR => exact Kd.C_below HBB.out.1 HQ.out); (case aL => have := LMc7.out; omega); intro v50 w15 ho hb hg hat; rw [← Ny242.out] at ho; clear HO HQ hg hat; have HO := Aside0.mk ho; have HQ := Aside0.mk hb; clear ho hb) | ((with_reducible refine gate_dst (N := 51) rfl ?_); refine Kd.R_lit (Kd.int .u8) _ 5 ?hg (N := 51) ?hd (xs := ([1, 2, 3] : List Int)) (inner := [.int .u8 1, .int .u8 2, .int .u8 3]) (ok := fun _ => True) (okp := fun _ => True) ?hr ?hp (fun _ hk => hk) trivial (Below.refl _ _) (Nat.le_refl _) (by simp) ?_; (case hd => rfl); (case hg => rfl); (case hr => first | (go_simp; done) | (go_simp; rfl)); (case hp => exact (Reps.one (show Kd.M (Kd.int .u8) _ _ _ 1 [.int .u8 1] from rfl) (Reps.one (show Kd.M (Kd.int .u8) _ _ _ 2 [.int .u8 2] from rfl) (Reps.one (show Kd.M (Kd.int .u8) _ _ _ 3 [.int .u8 3] from rfl) (Reps.none _ _))))); intro v w16 ho hb hg_ hnew_; clear hg_ hnew_; (first | rw [← Ny245.out] at ho | (simp only [Int.reduceToNat] at ho; rw [← Ny245.out] at ho)); obtain ⟨Al, cl, el⟩ := Kd.R_slice ho; subst el; have HLIT := Aside0.mk (show _ ∧ _ from ⟨(Kd.R_reads' ho).2.2, (Kd.R_reads' ho).2.1⟩); have HO_ := Aside0.mk (Kd.R_below HO.out hb); have HQ_ := Aside0.mk (below_step HQ.out hb); clear HO HQ; have HO := HO_; have HQ := HQ_; clear HO_ HQ_ ho hb) | ((with_reducible refine gate_builtin (b := .append) (xs := #[.tmp 50, .tmp 51]) rfl ?_); at_builtin; refine Kd.R_append_rows (Kd.int .u8) (w0 := w13) w13.heap.size rfl (.tmp 50) (.tmp 51) 28 5 (.int .u8 0) 1 rfl Tryd.underlying28 info5 rfl (by decide) (by omega) v50 y242 y245 _ _ _ (fun _ => True) (fun _ => False) rfl rfl HO.out ?aR (fun _ _ h => h) (fun _ h => h.elim) (fun _ _ => trivial) HQ.out (below_size HQ.out) ?aL ?_; (case aR => exact HLIT.out.1); (case aL => have := LMc8.out; omega); intro v52 w17 ho hb hg hat; rw [← Ny248.out] at ho; clear HO HQ hg hat HLIT; have HO := Aside0.mk ho; have HQ := Aside0.mk hb; clear ho hb; obtain ⟨Al, cl, el⟩ := Kd.R_slice HO.out; subst el; have HB_ := Aside0.mk (below_step HB.out HQ.out); have HA_ := Aside0.mk (show _ ∧ _ from ⟨Kd.C_below HA.out.1 HQ.out, HA.out.2⟩); have HX_ := Aside0.mk (show _ ∧ _ from ⟨Kd.C_below HX.out.1 HQ.out, HX.out.2⟩); have BX_ := Aside0.mk (blk_below BX.out HQ.out); have HBB_ := Aside0.mk (show _ ∧ _ from ⟨Kd.C_below HBB.out.1 HQ.out, HBB.out.2⟩); clear HB HA HX BX HBB; have HB := HB_; have HA := HA_; have HX := HX_; have BX := BX_; have HBB := HBB_; clear HB_ HA_ HX_ BX_ HBB_; have HLIT := Aside0.mk (show _ ∧ _ from ⟨(Kd.R_reads' HO.out).2.2, (Kd.R_reads' HO.out).2.1⟩); clear HO; clear HQ) | (go_at_call 23; (with_reducible refine (journal_Recover.calls k _ _ y248 t251 t252 _ HLIT.out.1 HLIT.out.2 (Kd.C_below HT.out HB.out) A9.out).mono ?_); rintro e w18 ⟨v13, rfl, ho, hb⟩; obtain ⟨Ag, cg, eg⟩ := Kd.R_slice (Kd.S_R ho); subst eg; have HB_ := Aside0.mk (below_step HB.out hb); have HA_ := Aside0.mk (show _ ∧ _ from ⟨Kd.C_below HA.out.1 hb, HA.out.2⟩); have HX_ := Aside0.mk (show _ ∧ _ from ⟨Kd.C_below HX.out.1 hb, HX.out.2⟩); have BX_ := Aside0.mk (blk_below BX.out hb); have HBB_ := Aside0.mk (show _ ∧ _ from ⟨Kd.C_below HBB.out.1 hb, HBB.out.2⟩); clear HB HA HX BX HBB; have HB := HB_; have HA := HA_; have HX := HX_; have BX := BX_; have HBB := HBB_; clear HB_ HA_ HX_ BX_ HBB_; have HLL := Aside0.mk (show _ ∧ _ from ⟨(Kd.S_reads' ho).2.2, (Kd.S_reads' ho).2.1⟩); clear ho hb HLIT) | (go_at_call 23; (refine (journal_Recover.calls k none 0 ([] : List Int) t255 t256 _ (Kd.C_nil _ _) (Nat.le_refl _) (Kd.C_below HT.out HB.out) A10.out).mono ?_); rintro e w19 ⟨v15, rfl, ho, hb⟩; obtain ⟨Am, cm, em⟩ := Kd.R_slice (Kd.S_R ho); subst em; have HB_ := Aside0.mk (below_step HB.out hb); have HA_ := Aside0.mk (show _ ∧ _ from ⟨Kd.C_below HA.out.1 hb, HA.out.2⟩); have HX_ := Aside0.mk (show _ ∧ _ from ⟨Kd.C_below HX.out.1 hb, HX.out.2⟩); have BX_ := Aside0.mk (blk_below BX.out hb); have HBB_ := Aside0.mk (show _ ∧ _ from ⟨Kd.C_below HBB.out.1 hb, HBB.out.2⟩); have HLL_ := Aside0.mk (show _ ∧ _ from ⟨Kd.C_below HLL.out.1 hb, HLL.out.2⟩); clear HB HA HX BX HBB HLL; have HB := HB_; have HA := HA_; have HX := HX_; have BX := BX_; have HBB := HBB_; have HLL := HLL_; clear HB_ HA_ HX_ BX_ HBB_ HLL_; clear ho hb) | ((with_reducible refine gate_dst (N := 64) rfl ?_); (try (refine gate_guard (by rfl) ?_; dsimp only)); refine Kd.R_lit (Kd.int .u8) _ 5 ?hg (N := 64) ?hd (xs := ([2, 10, 6, 0, 0, 0, 0] : List Int)) (inner := [.int .u8 2, .int .u8 10, .int .u8 6, .int .u8 0, .int .u8 0, .int .u8 0, .int .u8 0]) (ok := fun _ => True) (okp := fun _ => True) ?hr ?hp (fun _ hk => hk) trivial (Below.refl _ _) (Nat.le_refl _) (by simp) ?_; (case hd => rfl); (case hg => rfl); (case hr => first | (go_simp; done) | (go_simp; rfl)); (case hp => exact (Reps.one (show Kd.M (Kd.int .u8) _ _ _ 2 [.int .u8 2] from rfl) (Reps.one (show Kd.M (Kd.int .u8) _ _ _ 10 [.int .u8 10] from rfl) (Reps.one (show Kd.M (Kd.int .u8) _ _ _ 6 [.int .u8 6] from rfl) (Reps.one (show Kd.M (Kd.int .u8) _ _ _ 0 [.int .u8 0] from rfl) (Reps.one (show Kd.M (Kd.int .u8) _ _ _ 0 [.int .u8 0] from rfl) (Reps.one (show Kd.M (Kd.int .u8) _ _ _ 0 [.int .u8 0] from rfl) (Reps.one (show Kd.M (Kd.int .u8) _ _ _ 0 [.int .u8 0] from rfl) (Reps.none _ _))))))))); intro v w20 ho hb hg_ hnew_; clear hg_ hnew_; (first | rw [← Ny259.out] at ho | (simp only [Int.reduceToNat] at ho; rw [← Ny259.out] at ho)); obtain ⟨Al, cl, el⟩ := Kd.R_slice ho; subst el; have HB_ := Aside0.mk (below_step HB.out hb); have HA_ := Aside0.mk (show _ ∧ _ from ⟨Kd.C_below HA.out.1 hb, HA.out.2⟩); have HX_ := Aside0.mk (show _ ∧ _ from ⟨Kd.C_below HX.out.1 hb, HX.out.2⟩); have BX_ := Aside0.mk (blk_below BX.out hb); have HBB_ := Aside0.mk (show _ ∧ _ from ⟨Kd.C_below HBB.out.1 hb, HBB.out.2⟩); have HLL_ := Aside0.mk (show _ ∧ _ from ⟨Kd.C_below HLL.out.1 hb, HLL.out.2⟩); clear HB HA HX BX HBB HLL; have HB := HB_; have HA := HA_; have HX := HX_; have BX := BX_; have HBB := HBB_; have HLL := HLL_; clear HB_ HA_ HX_ BX_ HBB_ HLL_; have HLIT := Aside0.mk (show _ ∧ _ from ⟨(Kd.R_reads' ho).2.2, (Kd.R_reads' ho).2.1⟩); clear ho hb) | (go_at_call 17; (with_reducible refine (papermillref61_SameBytes.calls _ _ t178 _ _ y259 true _ HA.out.1 HA.out.2 HLIT.out.1 HLIT.out.2 A12.out).mono ?_); rintro e w21 ⟨rfl, hd⟩; have hb := hd.below; have HB_ := Aside0.mk (below_step HB.out hb); have HA_ := Aside0.mk (show _ ∧ _ from ⟨Kd.C_below HA.out.1 hb, HA.out.2⟩); have HX_ := Aside0.mk (show _ ∧ _ from ⟨Kd.C_below HX.out.1 hb, HX.out.2⟩); have BX_ := Aside0.mk (blk_below BX.out hb); have HBB_ := Aside0.mk (show _ ∧ _ from ⟨Kd.C_below HBB.out.1 hb, HBB.out.2⟩); have HLL_ := Aside0.mk (show _ ∧ _ from ⟨Kd.C_below HLL.out.1 hb, HLL.out.2⟩); clear HB HA HX BX HBB HLL; have HB := HB_; have HA := HA_; have HX := HX_; have BX := BX_; have HBB := HBB_; have HLL := HLL_; clear HB_ HA_ HX_ BX_ HBB_ HLL_; clear hd hb HLIT; have hx0 : w21.cell? ⟨g3, 0, none⟩ = some (.int .i64 t182) := (blk_cell BX.out 0).trans rfl; have hx1 : w21.cell? ⟨g3, 1, none⟩ = some (.int .i64 t183) := (blk_cell BX.out 1).trans rfl; have hx2 : w21.cell? ⟨g3, 2, none⟩ = some (.int .i64 t184) := (blk_cell BX.out 2).trans rfl; have hx3 : w21.cell? ⟨g3, 3, none⟩ = some (.int .i64 t185) := (blk_cell BX.out 3).trans rfl; have hx4 : w21.cell? ⟨g3, 4, none⟩ = some (.int .i64 t186) := (blk_cell BX.out 4).trans rfl; have hx5 : w21.cell? ⟨g3, 5, none⟩ = some (.int .i64 t187) := (blk_cell BX.out 5).trans rfl; have hx6 : w21.cell? ⟨g3, 6, none⟩ = some (.slice Ax t188.length cx) := (blk_cell BX.out 6).trans rfl) | (go_at_call 20; (refine (papermillref61_SameOne.calls k t182 t183 t184 t185 t186 t187 _ _ t188 1 5 3 0 0 0 none 0 ([] : List Int) true _ HX.out.1 HX.out.2 (Kd.C_nil _ _) (Nat.le_refl _) A15.out).mono ?_); rintro e w22 ⟨rfl, hb⟩; clear hx0 hx1 hx2 hx3 hx4 hx5 hx6; have HB_ := Aside0.mk (below_step HB.out hb); have HA_ := Aside0.mk (show _ ∧ _ from ⟨Kd.C_below HA.out.1 hb, HA.out.2⟩); have HX_ := Aside0.mk (show _ ∧ _ from ⟨Kd.C_below HX.out.1 hb, HX.out.2⟩); have BX_ := Aside0.mk (blk_below BX.out hb); have HBB_ := Aside0.mk (show _ ∧ _ from ⟨Kd.C_below HBB.out.1 hb, HBB.out.2⟩); have HLL_ := Aside0.mk (show _ ∧ _ from ⟨Kd.C_below HLL.out.1 hb, HLL.out.2⟩); clear HB HA HX BX HBB HLL; have HB := HB_; have HA := HA_; have HX := HX_; have BX := BX_; have HBB := HBB_; have HLL := HLL_; clear HB_ HA_ HX_ BX_ HBB_ HLL_; clear hb; have hx0 : w22.cell? ⟨g3, 0, none⟩ = some (.int .i64 t182) := (blk_cell BX.out 0).trans rfl; have hx1 : w22.cell? ⟨g3, 1, none⟩ = some (.int .i64 t183) := (blk_cell BX.out 1).trans rfl; have hx2 : w22.cell? ⟨g3, 2, none⟩ = some (.int .i64 t184) := (blk_cell BX.out 2).trans rfl; have hx3 : w22.cell? ⟨g3, 3, none⟩ = some (.int .i64 t185) := (blk_cell BX.out 3).trans rfl; have hx4 : w22.cell? ⟨g3, 4, none⟩ = some (.int .i64 t186) := (blk_cell BX.out 4).trans rfl; have hx5 : w22.cell? ⟨g3, 5, none⟩ = some (.int .i64 t187) := (blk_cell BX.out 5).trans rfl; have hx6 : w22.cell? ⟨g3, 6, none⟩ = some (.slice Ax t188.length cx) := (blk_cell BX.out 6).trans rfl) | ((with_reducible refine gate_dst (N := 95) rfl ?_); (try (refine gate_guard (by rfl) ?_; dsimp only)); refine Kd.N_lit k24 _ 24 ?hg (N' := 95) ?hd (xs := ([(⟨t182, t183, t184, t185, t186, t187, t188⟩ : S24)] : List (S24))) (inner := [.int .i64 t182, .int .i64 t183, .int .i64 t184, .int .i64 t185, .int .i64 t186, .int .i64 t187, .slice Ax t188.length cx]) (ok := fun _ => True) (okp := fun _ => True) ?hr ?hp (fun _ hk => hk) trivial (Below.refl _ _) (Nat.le_refl _) (by simp) ?_; (case hd => rfl); (case hg => rfl); (case hr => first | (go_simp; done) | (go_simp; rfl)); (case hp => exact (Reps.c7 (show Kd.FK k24 _ _ (⟨t182, t183, t184, t185, t186, t187, t188⟩ : S24) [.int .i64 t182, .int .i64 t183, .int .i64 t184, .int .i64 t185, .int .i64 t186, .int .i64 t187, .slice Ax t188.length cx] from (k24_mkF _ _ (⟨t182, t183, t184, t185, t186, t187, t188⟩ : S24) HX.out.2 (Kd.F_mono (Kd.C_F (Kd.heap_int .i64) HX.out.1) (fun _ _ => trivial)))) (Reps.none _ _))); intro v w23 ho hb hg_ hnew_; clear hg_ hnew_; rw [← Ny264.out] at ho; obtain ⟨Al, cl, el⟩ := Kd.N_slice ho; subst el; have HB_ := Aside0.mk (below_step HB.out hb); have HA_ := Aside0.mk (show _ ∧ _ from ⟨Kd.C_below HA.out.1 hb, HA.out.2⟩); have HX_ := Aside0.mk (show _ ∧ _ from ⟨Kd.C_below HX.out.1 hb, HX.out.2⟩); have BX_ := Aside0.mk (blk_below BX.out hb); have HBB_ := Aside0.mk (show _ ∧ _ from ⟨Kd.C_below HBB.out.1 hb, HBB.out.2⟩); have HLL_ := Aside0.mk (show _ ∧ _ from ⟨Kd.C_below HLL.out.1 hb, HLL.out.2⟩); clear HB HA HX BX HBB HLL; have HB := HB_; have HA := HA_; have HX := HX_; have BX := BX_; have HBB := HBB_; have HLL := HLL_; clear HB_ HA_ HX_ BX_ HBB_ HLL_; have HLIT := Aside0.mk (show _ ∧ _ from ⟨(Kd.N_reads' ho).2.2, (Kd.N_reads' ho).2.1⟩); clear ho hb hx0 hx1 hx2 hx3 hx4 hx5 hx6) | (go_at_call 25; (with_reducible refine (papermillref61_Same.calls k _ _ t251 _ _ y264 true _ HLL.out.1 HLL.out.2 HLIT.out.1 HLIT.out.2 A21.out).mono ?_); rintro e w24 ⟨rfl, hb⟩; have HB_ := Aside0.mk (below_step HB.out hb); have HA_ := Aside0.mk (show _ ∧ _ from ⟨Kd.C_below HA.out.1 hb, HA.out.2⟩); have HX_ := Aside0.mk (show _ ∧ _ from ⟨Kd.C_below HX.out.1 hb, HX.out.2⟩); have BX_ := Aside0.mk (blk_below BX.out hb); have HBB_ := Aside0.mk (show _ ∧ _ from ⟨Kd.C_below HBB.out.1 hb, HBB.out.2⟩); have HLL_ := Aside0.mk (show _ ∧ _ from ⟨Kd.C_below HLL.out.1 hb, HLL.out.2⟩); clear HB HA HX BX HBB HLL; have HB := HB_; have HA := HA_; have HX := HX_; have BX := BX_; have HBB := HBB_; have HLL := HLL_; clear HB_ HA_ HX_ BX_ HBB_ HLL_; clear hb))
               go_ret
               exact ⟨by first | rfl | simp [*], HB.out⟩
              ·rw [if_neg c24] at H
               exact absurd H (by simp)
             ·rw [if_neg c23] at H
              exact absurd H (by simp)
            ·exact absurd H (by rw [if_neg c22]; simp)
           ·rw [if_neg c20] at H
            exact absurd H (by simp)
          ·rw [if_neg c19] at H
           exact absurd H (by simp)
         ·rw [if_neg c18] at H
          exact absurd H (by simp)
        ·rw [if_neg c17] at H
         exact absurd H (by simp)
       ·exact absurd H (by rw [if_neg c16]; simp)
      ·rw [if_neg c14] at H
       exact absurd H (by simp)
     ·exact absurd H (by rw [if_neg c13]; simp)
    ·rw [if_neg c11] at H
     exact absurd H (by simp)
   ·rw [if_neg c8] at H
    exact absurd H (by simp)
  ·rw [if_neg c7] at H
   exact absurd H (by simp)
def papermilllaw61_awake.f (k : Nat) : Option Bool := if papermilllaw61_awake.g k = some true then some true else none
theorem papermilllaw61_awake.mono : ∀ k, LeO (papermilllaw61_awake.f k) (papermilllaw61_awake.f (k + 1)) := by
  intro k r h
  unfold papermilllaw61_awake.f at h ⊢
  by_cases c : papermilllaw61_awake.g k = some true
  · rw [if_pos c] at h
    rw [if_pos (papermilllaw61_awake.gmono k true c)]
    exact h
  · rw [if_neg c] at h
    cases h
theorem papermilllaw61_awake.calls (k : Nat) (r : Bool) (w : World) (hT : Kd.C (Kd.int .u32) w TabA crcTab.length crcTab) (h : papermilllaw61_awake.f k = some r) : Calls Tryd.prog 12 #[] w fun e w' => e = .returned (.bool r) ∧ Below w.heap.size w w' := by
  unfold papermilllaw61_awake.f at h
  by_cases c : papermilllaw61_awake.g k = some true
  · rw [if_pos c] at h
    cases h
    exact papermilllaw61_awake.walk k w hT c
  · rw [if_neg c] at h
    cases h

end Go.Proofs.YtpcicooogiialaaDoor.PX
