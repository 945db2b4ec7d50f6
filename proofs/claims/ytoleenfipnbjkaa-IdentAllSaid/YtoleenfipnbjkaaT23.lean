/- Add of a new name, and what the old names read behind it. -/
import Derived.Test.YtoleenfipnbjkaaT22
namespace Go.Proofs.Ytoleenfipnbjkaa.Tab
open Go.RowKit Go.Maps Go.Proofs.Ytoleenfipnbjkaa.PX Go.Proofs.YtoleenfipnbjkaaW.PrintWords Go.Proofs.YtoleenfipnbjkaaW.PrintLast Go.Proofs.YtoleenfipnbjkaaW.PrintMore
set_option linter.unusedVariables false
set_option linter.unusedSimpArgs false
set_option maxHeartbeats 1000000 in
theorem Add_new2 (base g : Nat) (F : Nat → Prop) (names : List ByteArray) (s : ByteArray) (w : World) (h : TabI w base g F names) (hF : ∀ k, w.heap.size ≤ k → F k) (hv : validB s = true) (hi : (idx s names).isSome = false) (hf : names.length < 512) (A0 : Option Addr) (c0 : Nat) (hA : w.cell? ⟨g, 0, none⟩ = some (.slice A0 names.length c0)) :
    Calls Try.prog 17 #[.pointer (some ⟨g, 0, none⟩), .string s] w fun e w' => e = .returned (.tuple #[.int .i64 (names.length : Nat), .int .i64 0]) ∧ TabI w' base g F (names ++ [s]) ∧ Below base w w' ∧ Keeps F w w' ∧ SameCells A0 names.length w w' := by
  have HI := Aside0.mk h
  have HF := Aside0.mk hF
  have HA := Aside0.mk hA
  have HN := Aside0.mk hf
  have hkey : keyOf Try.prog 9 (.string s) = some (kl s) := Go.WideMaps.keyOf_string_mk Try.underlying9 (Nat.le_trans (valid_size hv) (by decide))
  have d1 : decide ((512 : Int) ≤ (names.length : Int)) = false := decide_eq_false (by omega)
  clear h hf hF hA
  have q60 := eqlSome
  go_enter Try.func17, Try.ntmps17
  go_wp2_with (first | (go_at_call 10; (with_reducible refine (Valid_calls s _).mono ?_); rintro e w1 ⟨rfl, hb⟩; have HB := Aside0.mk hb; obtain ⟨hbg_, hl_, v, m, n, D, hg_, hbm_, hR_, hown, hn_, hD⟩ := HI.out.below hb; obtain ⟨A, cp, rfl⟩ := Kd.R_slice hR_; have c0 : w1.cell? ⟨g, 0, none⟩ = some (.slice A names.length cp) := (blk_cell hg_ 0).trans rfl; have HA1 := Aside0.mk (show A = A0 from by have h1_ := (Below.cell hb (p := ⟨g, 0, none⟩) HI.out.lt.1).trans HA.out; rw [c0] at h1_; injection h1_ with h1_; injection h1_); have c1 : w1.cell? ⟨g, 1, none⟩ = some (.map (some m)) := (blk_cell hg_ 1).trans rfl; have hh := (hD s).1; have HD := Aside0.mk hD; have HM := Aside0.mk hown.isMap; have HR := Aside0.mk hR_; have BK := Aside0.mk hg_; have HX := Aside0.mk (show (base ≤ g ∧ F g) ∧ (base ≤ m ∧ F m) ∧ n ≤ names.length from ⟨hbg_, hbm_, hn_⟩); clear hb hg_ hR_ hD hl_ hbg_ hbm_ hn_) | (at_lookup; refine wpList_lookup_own_ok_int _ rfl _ _ 60 rfl 9 3 .i64 law9 Try.underlying60 Try.underlying3 (zero3 _) m n D rfl hown _ _ rfl hkey ?_; intro c hat hwc) | ((with_reducible refine gate_builtin (b := .append) (xs := #[.tmp 44, .tmp 46]) rfl ?_); go_must (at_builtin; refine R_append_same (w0 := w1) base rfl (.tmp 44) (.tmp 46) rfl (.slice A names.length cp) names s (fun k_ => k_ ≠ g ∧ F k_) rfl rfl ?aF HR.out (Below.refl _ _) ?aS ?aL ?_; (case aF => exact fun k_ hk => ⟨fun e_ => absurd (blk_lt BK.out) (by omega), HF.out k_ (Nat.le_trans HB.out.size hk)⟩); (case aS => exact Nat.le_trans HX.out.1.1 (Nat.le_of_lt (blk_lt BK.out))); (case aL => have := HN.out; omega); intro v2 w2 hr2 hb2 hg2 hat2 hsm2; have HS2 := Aside0.mk (hsm2 A cp rfl); have HAG := Aside0.mk (show ∀ ad, A = some ad → ad.block ≠ g ∧ ad.block ≠ m from fun ad e_ => ⟨(HR.out.1 ad.block (by rw [e_]; rfl)).1, fun e2_ => R_ne_map HR.out hown (by rw [e_, ← e2_]; rfl)⟩); clear hsm2; have BK2 := Aside0.mk ((hg2.block g (blk_lt BK.out) (fun e => (HR.out.1 g e.symm).1 rfl)).trans BK.out); have HO2 := Aside0.mk (hown.kept hg2 (R_ne_map HR.out hown)); have HMG := Aside0.mk (show m ≠ g from by intro e; subst e; obtain ⟨es_, ck_, hb_, _⟩ := hown; rw [BK.out] at hb_; cases hb_); obtain ⟨A2, cp2, hv2⟩ := Kd.R_slice hr2; obtain ⟨n2, hn2⟩ : ∃ n2 : Nat, (names ++ [s]).length = n2 := ⟨_, rfl⟩; rw [hn2] at hv2; subst hv2; have HN2 := Aside0.mk hn2; clear hn2; have c20 : w2.cell? ⟨g, 0, none⟩ = some (.slice A names.length cp) := (blk_cell BK2.out 0).trans rfl; have f20 := blk_frozen BK2.out 0; have HR2 := Aside0.mk hr2; have HK2 := Aside0.mk ((Keeps.below (F := F) HB.out).trans (Keeps.grown hg2 (fun k_ e_ => (HR.out.1 k_ e_).2))); have HB2 := Aside0.mk ((HB.out.mono (Nat.le_trans HX.out.1.1 (Nat.le_of_lt HI.out.lt.1))).trans hb2); clear c0 c1 hown HR BK hr2 hb2 hg2 hat2)) | ((with_reducible refine gate_store (t := 24) (p := 49) rfl ?_); go_must (refine store_event (t := 24) (p := 49) (v := ?vo_w3) (w1 := (w2.setCell ⟨g, 0, none⟩ (.slice A2 n2 cp2))) ?hg ?ho ?hn ?hr ?_; (case ho => rfl); (case hg => rfl); (case hn => rfl); (case hr => first | (go_simp; done) | (go_simp; rfl)); intro w3 hw; have BK3 := Aside0.mk (show w3.heap[g]? = some (.cells #[.slice A2 n2 cp2, .map (some m)] 62 (0, 0)) from (by rw [hw]; exact blk_put BK2.out 0 _ rfl)); have HR3 := Aside0.mk (show Kd.R Kd.string 9 w3 base (fun k => k ≠ g ∧ F k) (.slice A2 n2 cp2) (names ++ [s]) from (by rw [hw]; exact Kd.R_far HR2.out (fun k hk e => hk.1 e) _)); have HO3 := Aside0.mk (show w3.ownsMap Try.prog 9 (plainElem Try.prog 3) m n D from (by rw [hw]; exact HO2.out.setCell HMG.out _)); have HK3 := Aside0.mk (show Keeps F w w3 from (by rw [hw]; exact HK2.out.trans (Keeps.setCell w2 HX.out.1.2 _))); have HS3 := Aside0.mk (show SameCells A names.length w1 w3 from (by rw [hw]; exact HS2.out.trans (SameCells.of_block (fun ad e_ _ => Below.heap_setCell w2 _ _ _ (HAG.out ad e_).1)))); have HB3 := Aside0.mk (show Below base w w3 from (by rw [hw]; exact HB2.out.setCell HX.out.1.1 _)); clear hw c20 f20 BK2 HR2 HO2 HB2 HK2 HS2)))
  have c30 : w3.drew.cell? ⟨g, 0, none⟩ = some (.slice A2 n2 cp2) := (blk_cell BK3.out 0).trans rfl
  have c31 : w3.drew.cell? ⟨g, 1, none⟩ = some (.map (some m)) := (blk_cell BK3.out 1).trans rfl
  have hn1 : Aside0 (n2 = names.length + 1) := ⟨by rw [← HN2.out, List.length_append]; rfl⟩
  obtain ⟨nl, hnl⟩ : ∃ nl : Int, nl = (n2 : Int) - 1 := ⟨_, rfl⟩
  have HNL := Aside0.mk hnl
  have e1 : IntKind.i64.wrap ((n2 : Int) - 1) = nl := by have := hn1.out; have := HN.out; rw [IntKind.wrap_i64, hnl]; omega
  have e2 : wrap64 ((n2 : Int) - 1) = nl := by have := hn1.out; have := HN.out; unfold wrap64; rw [hnl]; omega
  clear hnl
  go_still_tail 11, (by kernel_rfl)
  generalize hwd : ({ heap := w3.heap, tape := w3.tape, drawn := w3.drawn + 1, os := w3.os, output := w3.output } : World) = wd
  have BKD : Aside0 (wd.heap[g]? = some (.cells #[.slice A2 n2 cp2, .map (some m)] 62 (0, 0))) := ⟨by rw [← hwd]; exact BK3.out⟩
  have HRD : Aside0 (Kd.R Kd.string 9 wd base (fun k => k ≠ g ∧ F k) (.slice A2 n2 cp2) (names ++ [s])) := ⟨by rw [← hwd]; exact Kd.R_drew HR3.out⟩
  have HOD : Aside0 (wd.ownsMap Try.prog 9 (plainElem Try.prog 3) m n D) := ⟨by rw [← hwd]; exact HO3.out.drew⟩
  have HBD : Aside0 (Below base w wd) := ⟨by rw [← hwd]; exact HB3.out.drew⟩
  have HKD : Aside0 (Keeps F w wd) := ⟨by rw [← hwd]; exact ⟨HK3.out.1.drew, HK3.out.2⟩⟩
  have HSD : Aside0 (SameCells A names.length w1 wd) := ⟨by rw [← hwd]; exact HS3.out⟩
  have hwf : (Lit.int .i64 nl).wf = true := WalkArith.wf_i64 (by have := HNL.out; have := hn1.out; have := HN.out; omega)
  clear hwd BK3 HR3 HO3 HB3 HK3 HS3 c30 c31
  go_wp2_with (first | (at_mapUpdate; go_must (refine wpList_mapUpdate_in _ rfl _ _ _ 60 rfl 9 3 law9 Try.underlying60 _ m n D rfl HOD.out (by have := HX.out.2.2; have := HN.out; unfold maxLen; omega) _ _ _ rfl rfl hkey _ [] (plainElem_int Try.underlying3 hwf) ?_; intro w4 hown4 hturn4; have BK4 := Aside0.mk ((hturn4.grown.block g (blk_lt BKD.out) (fun e => HMG.out (Option.some.inj e).symm)).trans BKD.out); have HR4 := Aside0.mk (Kd.R_grown2 HRD.out rfl hturn4.grown (fun k hk => by cases hk; exact R_ne_map HRD.out HOD.out)); have HK4 := Aside0.mk (HKD.out.trans (Keeps.grown hturn4.grown (fun j hj => by cases hj; exact HX.out.2.1.2))); have HS4 := Aside0.mk (HSD.out.trans (SameCells.of_block (fun ad e_ hlt_ => hturn4.grown.block _ hlt_ (fun h_ => (HAG.out ad e_).2 (Option.some.inj h_))))); have HB4 := Aside0.mk (HBD.out.grown hturn4.grown (Nat.le_trans HX.out.1.1 (Nat.le_of_lt (blk_lt BKD.out))) (fun j hj => by cases hj; exact HX.out.2.1.1)); have c41 : w4.cell? ⟨g, 1, none⟩ = some (.map (some m)) := (blk_cell BK4.out 1).trans rfl; clear hturn4 BKD HRD HOD HBD HKD HSD)) | (at_lookup; go_must (refine wpList_lookup_own_int _ rfl _ _ 60 rfl 9 3 .i64 law9 Try.underlying60 Try.underlying3 (zero3 _) m (n + 1) _ rfl hown4 _ _ rfl hkey ?_; intro c2 hat2 hwc2)))
  go_ret2
  have hm : IsMap D := HM.out
  have hnl2 : nl = (names.length : Int) := by have := HNL.out; have := hn1.out; omega
  have hc : c2 = (names.length : Int) := by
    rw [atKey_put_same hm (kl_key s)] at hat2
    injection hat2 with hat2
    injection hat2 with _ hat2
    rw [← hat2, hnl2]
  subst hc
  have hnone : idx s names = none := by
    cases h : idx s names with
    | none => rfl
    | some i => rw [h] at hi; cases hi
  refine ⟨rfl, ⟨HX.out.1, by rw [HN2.out]; have := hn1.out; have := HN.out; omega, .slice A2 n2 cp2, m, n + 1, _, BK4.out, HX.out.2.1, HR4.out, hown4, by rw [HN2.out]; have := hn1.out; have := HX.out.2.2; omega, ?_⟩, HB4.out, HK4.out, HA1.out ▸ (SameCells.below HB.out).trans HS4.out⟩
  rw [hnl2]
  exact HD.out.put hm s hnone
end Go.Proofs.Ytoleenfipnbjkaa.Tab
