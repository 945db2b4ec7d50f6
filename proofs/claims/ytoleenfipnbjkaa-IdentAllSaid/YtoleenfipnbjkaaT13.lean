/- What the statements' closure collects of an iterator. -/
import Derived.Test.YtoleenfipnbjkaaT12
import Derived.Laws.EntriesVeiled
namespace Go.Proofs.Ytoleenfipnbjkaa.Tab
open Go.RowKit Go.Maps Go.Proofs.Ytoleenfipnbjkaa.PX Go.Proofs.YtoleenfipnbjkaaW.PrintWords Go.Proofs.YtoleenfipnbjkaaW.PrintLast Go.Proofs.YtoleenfipnbjkaaW.PrintMore
set_option linter.unusedVariables false
set_option linter.unusedSimpArgs false
theorem info3 : (Try.prog.info? 3).map (fun i => (i.zero, i.size, i.bytes)) = some (some (.int .i64 0), 1, 8) := by kernel_rfl
def okR (F : Nat → Prop) (gl gm gn : Nat) (k : Nat) : Prop := F k ∧ k ≠ gl ∧ k ≠ gm ∧ k ≠ gn
/-- What all's closure shares: the indices (gl), the most (gm), the names (gn); its blocks are of F. -/
def AllI (w : World) (F : Nat → Prop) (gl gm gn : Nat) (most : Int) (ns : List Int) (names : List ByteArray) : Prop :=
  ∃ vl vn, w.heap[gl]? = some (.cells #[vl] 64 (0, 0)) ∧ w.heap[gm]? = some (.cells #[.int .i64 most] 3 (0, 0)) ∧ w.heap[gn]? = some (.cells #[vn] 24 (0, 0)) ∧
    Kd.R (Kd.int .i64) 3 w 0 (okR F gl gm gn) vl ns ∧ Kd.R Kd.string 9 w 0 (okR F gl gm gn) vn names ∧ (gl ≠ gm ∧ gl ≠ gn ∧ gm ≠ gn) ∧ F gl ∧ F gm ∧ F gn
theorem AllI.keep {w w' : World} {F : Nat → Prop} {gl gm gn : Nat} {most : Int} {ns : List Int} {names : List ByteArray} (h : AllI w F gl gm gn most ns names) (hk : ∀ k, k < w.heap.size → F k → w'.heap[k]? = w.heap[k]?) : AllI w' F gl gm gn most ns names := by
  obtain ⟨vl, vn, hl, hm, hn, hrl, hrn, hne, f1, f2, f3⟩ := h
  exact ⟨vl, vn, (hk gl (blk_lt hl) f1).trans hl, (hk gm (blk_lt hm) f2).trans hm, (hk gn (blk_lt hn) f3).trans hn, Kd.R_step hrl (fun k ho hlt => hk k hlt ho.1), Kd.R_step hrn (fun k ho hlt => hk k hlt ho.1), hne, f1, f2, f3⟩
set_option maxHeartbeats 2000000 in
set_option maxRecDepth 100000 in
theorem yield_calls (F : Nat → Prop) (gl gm gn : Nat) (most : Int) (ns : List Int) (names : List ByteArray) (i : Int) (s : ByteArray) (w : World) (h : AllI w F gl gm gn most ns names) (hF : ∀ k, w.heap.size ≤ k → F k)
    (hlen : ns.length ≤ 1000) (hlen2 : names.length ≤ 1000) (hm : (ns.length : Int) + 1 < most) :
    Calls Try.prog 32 #[.int .i64 i, .string s, .pointer (some ⟨gl, 0, none⟩), .pointer (some ⟨gm, 0, none⟩), .pointer (some ⟨gn, 0, none⟩)] w fun e w' =>
      e = .returned (.bool true) ∧ AllI w' F gl gm gn most (ns ++ [i]) (names ++ [s]) ∧ Keeps F w w' := by
  obtain ⟨vl, vn, hl, hgm, hn, hrl, hrn, hne, f1, f2, f3⟩ := h
  obtain ⟨Al, cl, rfl⟩ := Kd.R_slice hrl
  obtain ⟨An, cn, rfl⟩ := Kd.R_slice hrn
  have BL := Aside0.mk hl
  have BM := Aside0.mk hgm
  have BN := Aside0.mk hn
  have RL := Aside0.mk hrl
  have RN := Aside0.mk hrn
  have NE := Aside0.mk hne
  have FF := Aside0.mk (show F gl ∧ F gm ∧ F gn from ⟨f1, f2, f3⟩)
  have HF := Aside0.mk hF
  have HL := Aside0.mk hlen
  have HL2 := Aside0.mk hlen2
  have HM := Aside0.mk hm
  have hc1 := (blk_cell BL.out 0).trans rfl
  have hc2 := (blk_cell BM.out 0).trans rfl
  have hc3 := (blk_cell BN.out 0).trans rfl
  have d1 : decide ((ns.length : Int) < most) = true := decide_eq_true (by omega)
  obtain ⟨n1, hn1⟩ : ∃ n1 : Nat, (ns ++ [i]).length = n1 := ⟨_, rfl⟩
  have HN1 := Aside0.mk hn1
  obtain ⟨n2, hn2⟩ : ∃ n2 : Nat, (names ++ [s]).length = n2 := ⟨_, rfl⟩
  have HN2 := Aside0.mk hn2
  have d2 : decide ((n1 : Int) < most) = true := decide_eq_true (by rw [← hn1, List.length_append]; simp; omega)
  clear hl hgm hn hrl hrn hne f1 f2 f3 hF hlen hlen2 hm hn1 hn2
  go_enter Try.func32, Try.ntmps32
  go_wp2_with (first
    | ((with_reducible refine gate_builtin (b := .append) (xs := #[.tmp 12, .tmp 14]) rfl ?_); go_must (at_builtin; refine Kd.R_append (Kd.int .i64) (w0 := w) 0 rfl (.tmp 12) (.tmp 14) 64 3 (.int .i64 0) 8 rfl Try.underlying64 info3 rfl (by decide) (by decide) (.slice Al ns.length cl) ns i [.int .i64 i] (okR F gl gm gn) (fun _ => False) rfl rfl ?aP ?aK ?aF RL.out (Below.refl _ _) (Nat.zero_le _) ?aL ?_; (case aP => rfl); (case aK => exact fun _ h => h.elim); (case aF => exact fun k hk => ⟨HF.out k hk, fun e => absurd (blk_lt BL.out) (by omega), fun e => absurd (blk_lt BM.out) (by omega), fun e => absurd (blk_lt BN.out) (by omega)⟩); (case aL => have := HL.out; omega); intro v2 w2 hr2 hb2 hg2 hat2; have hown := (RL.out).1; have BL2 := Aside0.mk (blk_grown BL.out hg2 (fun e => (hown gl e.symm).2.1 rfl)); have BM2 := Aside0.mk (blk_grown BM.out hg2 (fun e => (hown gm e.symm).2.2.1 rfl)); have BN2 := Aside0.mk (blk_grown BN.out hg2 (fun e => (hown gn e.symm).2.2.2 rfl)); have RN2 := Aside0.mk (Kd.R_mono (Kd.R_grown (Kd.R_apartR RN.out RL.out (by decide)) hg2 (fun k hk => hk.2)) (fun k hk => hk.1)); obtain ⟨A2, cp2, hv2⟩ := Kd.R_slice hr2; rw [HN1.out] at hv2; subst hv2; have RL2 := Aside0.mk hr2; have HK2 := Aside0.mk (Keeps.grown (F := F) hg2 (fun k e => (hown k e).1)); have c2l : w2.cell? ⟨gl, 0, none⟩ = some (.slice Al ns.length cl) := (blk_cell BL2.out 0).trans rfl; have f2l := blk_frozen BL2.out 0; clear hc1 hc2 hc3 hown hr2 hb2 hg2 hat2 BL BM BN RL RN))
    | ((with_reducible refine gate_store (t := 64) (p := 2) rfl ?_); go_must (refine store_event (t := 64) (p := 2) (v := ?vo_w3) (w1 := (w2.setCell ⟨gl, 0, none⟩ (.slice A2 n1 cp2))) ?hg ?ho ?hn ?hr ?_; (case ho => rfl); (case hg => rfl); (case hn => rfl); (case hr => first | (go_simp; done) | (go_simp; rfl)); intro w3 hw; have BL3 := Aside0.mk (show w3.heap[gl]? = some (.cells #[.slice A2 n1 cp2] 64 (0, 0)) from (by rw [hw]; exact blk_put BL2.out 0 _ rfl)); have BM3 := Aside0.mk (show w3.heap[gm]? = some (.cells #[.int .i64 most] 3 (0, 0)) from (by rw [hw]; exact blk_far BM2.out (fun e => NE.out.1 e.symm) _)); have BN3 := Aside0.mk (show w3.heap[gn]? = some (.cells #[.slice An names.length cn] 24 (0, 0)) from (by rw [hw]; exact blk_far BN2.out (fun e => NE.out.2.1 e.symm) _)); have RL3 := Aside0.mk (show Kd.R (Kd.int .i64) 3 w3 0 (okR F gl gm gn) (.slice A2 n1 cp2) (ns ++ [i]) from (by rw [hw]; exact Kd.R_far RL2.out (fun k hk => hk.2.1) _)); have RN3 := Aside0.mk (show Kd.R Kd.string 9 w3 0 (okR F gl gm gn) (.slice An names.length cn) names from (by rw [hw]; exact Kd.R_far RN2.out (fun k hk => hk.2.1) _)); have HK3 := Aside0.mk (show Keeps F w w3 from (by rw [hw]; exact HK2.out.trans (Keeps.setCell w2 FF.out.1 _))); have c3l : w3.cell? ⟨gl, 0, none⟩ = some (.slice A2 n1 cp2) := (blk_cell BL3.out 0).trans rfl; have c3n : w3.cell? ⟨gn, 0, none⟩ = some (.slice An names.length cn) := (blk_cell BN3.out 0).trans rfl; clear hw c2l f2l BL2 BM2 BN2 RL2 RN2 HK2))
    | ((with_reducible refine gate_builtin (b := .append) (xs := #[.tmp 16, .tmp 18]) rfl ?_); go_must (at_builtin; refine Kd.R_append Kd.string (w0 := w3) 0 rfl (.tmp 16) (.tmp 18) 24 9 (.string E0) 16 rfl Try.underlying24 infoS rfl (by decide) (by decide) (.slice An names.length cn) names s [.string s] (okR F gl gm gn) (fun _ => False) rfl rfl ?aP ?aK ?aF RN3.out (Below.refl _ _) (Nat.zero_le _) ?aL ?_; (case aP => rfl); (case aK => exact fun _ h => h.elim); (case aF => exact fun k hk => ⟨HF.out k (Nat.le_trans HK3.out.1.size hk), fun e => absurd (blk_lt BL3.out) (by omega), fun e => absurd (blk_lt BM3.out) (by omega), fun e => absurd (blk_lt BN3.out) (by omega)⟩); (case aL => have := HL2.out; omega); intro v4 w4 hr4 hb4 hg4 hat4; have hown := (RN3.out).1; have BL4 := Aside0.mk (blk_grown BL3.out hg4 (fun e => (hown gl e.symm).2.1 rfl)); have BM4 := Aside0.mk (blk_grown BM3.out hg4 (fun e => (hown gm e.symm).2.2.1 rfl)); have BN4 := Aside0.mk (blk_grown BN3.out hg4 (fun e => (hown gn e.symm).2.2.2 rfl)); have RL4 := Aside0.mk (Kd.R_mono (Kd.R_grown (Kd.R_apartR RL3.out RN3.out (by decide)) hg4 (fun k hk => hk.2)) (fun k hk => hk.1)); obtain ⟨A4, cp4, hv4⟩ := Kd.R_slice hr4; rw [HN2.out] at hv4; subst hv4; have RN4 := Aside0.mk hr4; have HK4 := Aside0.mk (HK3.out.trans (Keeps.grown (F := F) hg4 (fun k e => (hown k e).1))); have c4n : w4.cell? ⟨gn, 0, none⟩ = some (.slice An names.length cn) := (blk_cell BN4.out 0).trans rfl; have f4n := blk_frozen BN4.out 0; clear c3l c3n hown hr4 hb4 hg4 hat4 BL3 BM3 BN3 RL3 RN3 HK3))
    | ((with_reducible refine gate_store (t := 24) (p := 4) rfl ?_); go_must (refine store_event (t := 24) (p := 4) (v := ?vo_w5) (w1 := (w4.setCell ⟨gn, 0, none⟩ (.slice A4 n2 cp4))) ?hg ?ho ?hn ?hr ?_; (case ho => rfl); (case hg => rfl); (case hn => rfl); (case hr => first | (go_simp; done) | (go_simp; rfl)); intro w5 hw; have BL5 := Aside0.mk (show w5.heap[gl]? = some (.cells #[.slice A2 n1 cp2] 64 (0, 0)) from (by rw [hw]; exact blk_far BL4.out NE.out.2.1 _)); have BM5 := Aside0.mk (show w5.heap[gm]? = some (.cells #[.int .i64 most] 3 (0, 0)) from (by rw [hw]; exact blk_far BM4.out NE.out.2.2 _)); have BN5 := Aside0.mk (show w5.heap[gn]? = some (.cells #[.slice A4 n2 cp4] 24 (0, 0)) from (by rw [hw]; exact blk_put BN4.out 0 _ rfl)); have RL5 := Aside0.mk (show Kd.R (Kd.int .i64) 3 w5 0 (okR F gl gm gn) (.slice A2 n1 cp2) (ns ++ [i]) from (by rw [hw]; exact Kd.R_far RL4.out (fun k hk => hk.2.2.2) _)); have RN5 := Aside0.mk (show Kd.R Kd.string 9 w5 0 (okR F gl gm gn) (.slice A4 n2 cp4) (names ++ [s]) from (by rw [hw]; exact Kd.R_far RN4.out (fun k hk => hk.2.2.2) _)); have HK5 := Aside0.mk (show Keeps F w w5 from (by rw [hw]; exact HK4.out.trans (Keeps.setCell w4 FF.out.2.2 _))); have c5l : w5.cell? ⟨gl, 0, none⟩ = some (.slice A2 n1 cp2) := (blk_cell BL5.out 0).trans rfl; have c5m : w5.cell? ⟨gm, 0, none⟩ = some (.int .i64 most) := (blk_cell BM5.out 0).trans rfl; clear hw c4n f4n BL4 BM4 BN4 RL4 RN4 HK4)))
  go_ret
  exact ⟨rfl, ⟨_, _, BL5.out, BM5.out, BN5.out, RL5.out, RN5.out, NE.out, FF.out.1, FF.out.2.1, FF.out.2.2⟩, HK5.out⟩
end Go.Proofs.Ytoleenfipnbjkaa.Tab
