/- The iterator of a table. -/
import Derived.Test.YtoleenfipnbjkaaT13
namespace Go.Proofs.Ytoleenfipnbjkaa.Tab
open Go.RowKit Go.Maps Go.Proofs.Ytoleenfipnbjkaa.PX Go.Proofs.YtoleenfipnbjkaaW.PrintWords Go.Proofs.YtoleenfipnbjkaaW.PrintLast Go.Proofs.YtoleenfipnbjkaaW.PrintMore
set_option linter.unusedVariables false
set_option linter.unusedSimpArgs false
theorem TabI.row {w : World} {base g : Nat} {F : Nat → Prop} {names : List ByteArray} (h : TabI w base g F names) : ∃ A c, w.cell? ⟨g, 0, none⟩ = some (.slice A names.length c) ∧ names.length ≤ c ∧ Kd.C Kd.string w A names.length names ∧ ∀ ad, A = some ad → F ad.block := by
  obtain ⟨hb, hl, v, m, n, D, hg, hm, hR, hown, hn, hD⟩ := h
  obtain ⟨A, c, rfl, hc, hC⟩ := Kd.R_reads hR
  exact ⟨A, c, (blk_cell hg 0).trans rfl, hc, hC, fun ad e => (hR.1 ad.block (by subst e; rfl)).2⟩
set_option maxHeartbeats 1000000 in
theorem All_some (base g : Nat) (F : Nat → Prop) (names : List ByteArray) (A : Option Addr) (c : Nat) (w : World) (h : TabI w base g F names) (hA : w.cell? ⟨g, 0, none⟩ = some (.slice A names.length c)) (hc : names.length ≤ c) :
    Calls Try.prog 25 #[.pointer (some ⟨g, 0, none⟩)] w fun e w' => ∃ gb, e = .returned (.func (.func 31) #[] #[.pointer (some ⟨gb, 0, none⟩)]) ∧ w.heap.size ≤ gb ∧ w'.heap[gb]? = some (.cells #[.slice A names.length names.length] 24 (0, 0)) ∧ Below w.heap.size w w' := by
  have HT := Aside0.mk h
  have HL := Aside0.mk h.2.1
  have HC := Aside0.mk hc
  have HB := Aside0.mk (Below.refl w.heap.size w)
  have HA := Aside0.mk hA
  clear h hA
  go_enter Try.func25, Try.ntmps25
  go_wp2_with (first | ((with_reducible refine gate_dst (N := 3) rfl ?_); go_must (refine box_event ?hg (N := 3) ?hd (cs := #[.slice none 0 0]) (t := 24) ?hr ?_; (case hd => rfl); (case hg => rfl); (case hr => first | (go_simp; done) | (go_simp; rfl)); intro gb hg w1 hbox hb; have BK := Aside0.mk hbox; have HG := Aside0.mk hg; have HBn := Aside0.mk (below_step HB.out hb); have hA := (Below.cell hb (p := ⟨g, 0, none⟩) HT.out.lt.1).trans HA.out; clear hbox hb hg HB; have HB := HBn; clear HBn)))
  have c3 : w1.cell? ⟨gb, 0, none⟩ = some (.slice none 0 0) := (blk_cell BK.out 0).trans rfl
  have hA' : w1.drew.cell? ⟨g, 0, none⟩ = some (.slice A names.length c) := hA
  go_still_tail 15, (by kernel_rfl)
  generalize hwd : ({ heap := w1.heap, tape := w1.tape, drawn := w1.drawn + 1, os := w1.os, output := w1.output } : World) = wd
  have BKD : Aside0 (wd.heap[gb]? = some (.cells #[.slice none 0 0] 24 (0, 0))) := ⟨by rw [← hwd]; exact BK.out⟩
  have HBD : Aside0 (Below w.heap.size w wd) := ⟨by rw [← hwd]; exact HB.out.drew⟩
  have cb : wd.cell? ⟨gb, 0, none⟩ = some (.slice none 0 0) := (blk_cell BKD.out 0).trans rfl
  have fb := blk_frozen BKD.out 0
  clear hwd c3 hA hA' BK HB
  go_wp2
  go_ret
  exact ⟨gb, rfl, Nat.le_of_eq HG.out.symm, blk_put BKD.out 0 _ rfl, HBD.out.setCell (Nat.le_of_eq HG.out.symm) _⟩
set_option maxHeartbeats 1000000 in
theorem All_nil (w : World) :
    Calls Try.prog 25 #[.pointer none] w fun e w' => ∃ gb, e = .returned (.func (.func 31) #[] #[.pointer (some ⟨gb, 0, none⟩)]) ∧ w.heap.size ≤ gb ∧ w'.heap[gb]? = some (.cells #[.slice none 0 0] 24 (0, 0)) ∧ Below w.heap.size w w' := by
  have HB := Aside0.mk (Below.refl w.heap.size w)
  go_enter Try.func25, Try.ntmps25
  go_wp2_with (first | ((with_reducible refine gate_dst (N := 3) rfl ?_); go_must (refine box_event ?hg (N := 3) ?hd (cs := #[.slice none 0 0]) (t := 24) ?hr ?_; (case hd => rfl); (case hg => rfl); (case hr => first | (go_simp; done) | (go_simp; rfl)); intro gb hg w1 hbox hb; have BK := Aside0.mk hbox; have HG := Aside0.mk hg; have HBn := Aside0.mk (below_step HB.out hb); clear hbox hb hg HB; have HB := HBn; clear HBn)))
  go_ret
  exact ⟨gb, rfl, Nat.le_of_eq HG.out.symm, BK.out, HB.out⟩
/-- The slice at A reads in w' what it read in w. -/
def SameCells (A : Option Addr) (n : Nat) (w w' : World) : Prop := ∀ ad, A = some ad → ∀ j, j < n → ∀ u, w.cell? (ad.add j) = some u → w'.cell? (ad.add j) = some u
theorem C_same {A : Option Addr} {n : Nat} {xs : List ByteArray} {w w' : World} (h : Kd.C Kd.string w A n xs) (hs : SameCells A n w w') : Kd.C Kd.string w' A n xs := by
  refine Kd.C_of_reads (d := E0) ?_
  obtain ⟨h1, h2, h3⟩ := Kd.reads_of_C (d := E0) h
  refine ⟨h1, h2, fun hn => ?_⟩
  obtain ⟨ad, rfl, hc⟩ := h3 hn
  exact ⟨ad, rfl, fun j hj => hs ad rfl j hj _ (hc j hj)⟩
theorem SameCells.of_block {A : Option Addr} {n : Nat} {w w' : World} (h : ∀ ad, A = some ad → ad.block < w.heap.size → w'.heap[ad.block]? = w.heap[ad.block]?) : SameCells A n w w' := by
  intro ad he j hj u hu
  have hb : (ad.add j).block = ad.block := by unfold Addr.add; split <;> rfl
  have hlt := World.block_lt_of_cell? w _ hu
  rw [hb] at hlt
  have hx : w'.heap[(ad.add j).block]? = w.heap[(ad.add j).block]? := by rw [hb]; exact h ad he hlt
  exact (World.cell?_of_block hx).trans hu
set_option maxHeartbeats 1000000 in
/-- The iterator, over all's closure: all names are collected. -/
theorem iter32 (F : Nat → Prop) (gl gm gn gb : Nat) (most : Int) (names : List ByteArray) (A : Option Addr) (c : Nat) (w : World) (h : AllI w F gl gm gn most [] []) (hF : ∀ k, w.heap.size ≤ k → F k)
    (hb : w.heap[gb]? = some (.cells #[.slice A names.length c] 24 (0, 0))) (hC : Kd.C Kd.string w A names.length names) (hA : ∀ ad, A = some ad → ¬ F ad.block) (hgb : ¬ F gb) (hl : names.length ≤ 1000) (hm : (names.length : Int) < most) :
    Calls Try.prog 31 #[.func (.func 32) #[] #[.pointer (some ⟨gl, 0, none⟩), .pointer (some ⟨gm, 0, none⟩), .pointer (some ⟨gn, 0, none⟩)], .pointer (some ⟨gb, 0, none⟩)] w fun e w' =>
      e = .returned (.tuple #[]) ∧ AllI w' F gl gm gn most ((List.range names.length).map (fun k : Nat => (k : Int))) names ∧ Keeps F w w' := by
  have HI := Aside0.mk h
  have HF := Aside0.mk hF
  have HC := Aside0.mk hC
  have HA := Aside0.mk hA
  have HG := Aside0.mk hgb
  have HL := Aside0.mk hl
  have HM := Aside0.mk hm
  have c0 := (blk_cell hb 0).trans rfl
  clear h hF hb hC hA hgb hl hm
  go_enter Try.func31, Try.ntmps31
  go_wp2
  go_loopg [3, 4, 7] names.length (fun kq v3 v4 v7 wr => ∃ (K : Nat), v7 = .int .i64 (K : Int) ∧ Aside0 (K ≤ names.length ∧ kq = names.length - K) ∧ Aside0 (AllI wr F gl gm gn most ((List.range K).map (fun k : Nat => (k : Int))) (names.take K)) ∧ Aside0 (Keeps F w wr))
  case atStart => exact ⟨0, rfl, ⟨by simp⟩, HI, ⟨Keeps.refl _ _⟩⟩
  case round =>
    clear HI
    obtain ⟨K, rfl, HK, HI, HW⟩ := hrel
    by_cases c1 : K < names.length
    · obtain ⟨ad, rfl, hx⟩ := Kd.at_string (C_same HC.out (SameCells.of_block (fun ad e hlt => HW.out.2 _ hlt (HA.out ad e)))) (K : Int) (by omega) (by omega)
      simp only [Int.toNat_natCast] at hx
      have htk := take_rd names K c1
      generalize rdOf ByteArray.empty names (K : Int) = s at hx htk
      have HTK := Aside0.mk htk
      have HL2 := Aside0.mk c1
      have hk1 : wrap64 ((K : Int) + 1) = (K : Int) + 1 := by have := HL.out; unfold wrap64; omega
      have d6 : decide ((K : Int) < (names.length : Int)) = true := decide_eq_true (by omega)
      have d7 : decide (K < names.length) = true := decide_eq_true c1
      have c2 := eq_true (show (K : Int) < (names.length : Int) from by omega)
      replace c1 := eq_true c1
      clear htk
      go_wp2_with (first | (go_at_call 32; go_must (refine (yield_calls F gl gm gn most _ _ (K : Int) s _ HI.out (fun k hk => HF.out k (Nat.le_trans HW.out.1.size hk)) ?s1 ?s2 ?s3).mono ?_; (case s1 => have := HL.out; have := HL2.out; simp; omega); (case s2 => have := HL.out; have := HL2.out; rw [List.length_take]; omega); (case s3 => have := HM.out; have := HL2.out; simp; omega); rintro e w2 ⟨rfl, hi, hk⟩; have HI2 := Aside0.mk hi; have HW2 := Aside0.mk (HW.out.trans hk); clear HI HW hi hk hx)))
      go_roundg (names.length - (K + 1))
      case measure => have := HK.out; have := HL2.out; omega
      case rel => exact ⟨K + 1, by first | rfl | simp [hk1], ⟨by have := HK.out; have := HL2.out; omega⟩, ⟨by rw [HTK.out, List.range_succ, List.map_append]; exact HI2.out⟩, HW2⟩
    · have hK : K = names.length := by have := HK.out; omega
      subst hK
      have d6 : decide ((names.length : Int) < (names.length : Int)) = false := decide_eq_false (by omega)
      have d7 : decide (names.length < names.length) = false := decide_eq_false (by omega)
      clear c1
      go_wp2
      exact ⟨rfl, .tuple #[], results_none rfl _ _ _, rfl, by have h := HI.out; rw [List.take_length] at h; exact h, HW.out⟩
end Go.Proofs.Ytoleenfipnbjkaa.Tab
