/- Sort. -/
import Derived.Test.YtnpndjdkdcbjcaaQ10
namespace Go.Proofs.Ytnpndjdkdcbjcaa.Pq
open Go.RowKit Go.Proofs.Ytnpndjdkdcbjcaa.PX Go.Proofs.YtnpndjdkdcbjcaaW.PrintWords Go.Proofs.YtnpndjdkdcbjcaaW.PrintLast Go.Proofs.YtnpndjdkdcbjcaaW.PrintMore
set_option linter.unusedVariables false
set_option linter.unusedSimpArgs false
set_option maxHeartbeats 1000000 in
theorem copy_nil (A : Option Addr) (c : Nat) (l : List S27) (w : World) (hr : k27.C w A l.length l) (hn : l.length ≤ 1000) :
    Calls Try.prog 21 #[.slice A l.length c, .nilFunc] w fun e w' => ∃ v, e = .returned v ∧ k27.R 27 w' w.heap.size (fun k => w.heap.size ≤ k) v l ∧ Below w.heap.size w w' := by
  have HR := Aside0.mk hr
  have HN := Aside0.mk hn
  have q28 := eqlN
  clear hr hn
  go_enter Try.func21, Try.ntmps21
  go_wp2_with (first | ((with_reducible refine gate_builtin (b := .append) (xs := #[.const (.slice none 0 0), .tmp 13]) rfl ?_); go_must (at_builtin; refine Kd.R_append_rows k27 (w0 := w) w.heap.size rfl (.const (.slice none 0 0)) (.tmp 13) 31 27 (.agg #[.int .i64 0, .int .i64 0]) 16 rfl Try.underlying31 info27 rfl (by decide) (by decide) (.slice none 0 0) ([] : List S27) l _ _ _ (fun k => w.heap.size ≤ k) (fun _ => False) rfl rfl (Kd.R_nil _ _ _ _ _) HR.out k27_KM (fun _ h => h.elim) (fun k hk => hk) (Below.refl _ _) (Nat.le_refl _) ?aL ?_; (case aL => have := HN.out; simp; omega); intro v2 w2 hr2 hb2 hg2 hat2; have HO := Aside0.mk (show k27.R 27 w2 w.heap.size (fun k => w.heap.size ≤ k) v2 l from hr2); have HB := Aside0.mk hb2; clear hr2 hb2 hg2 hat2)))
  go_ret
  exact ⟨_, rfl, HO.out, HB.out⟩
set_option maxHeartbeats 1000000 in
theorem copy_short (K : Nat) (A : Option Addr) (c : Nat) (l : List S27) (w : World) (hr : k27.C w A l.length l) (hn : l.length ≤ 1000) (hb : l.length < 2) :
    Calls Try.prog 21 #[.slice A l.length c, (.func (.func K) #[] #[])] w fun e w' => ∃ v, e = .returned v ∧ k27.R 27 w' w.heap.size (fun k => w.heap.size ≤ k) v l ∧ Below w.heap.size w w' := by
  have HR := Aside0.mk hr
  have HN := Aside0.mk hn
  have q28 := eqlF K
  have d1 : decide ((l.length : Int) < 2) = true := decide_eq_true (by omega)
  replace hb := eq_true hb
  clear hr hn
  go_enter Try.func21, Try.ntmps21
  go_wp2_with (first | ((with_reducible refine gate_builtin (b := .append) (xs := #[.const (.slice none 0 0), .tmp 13]) rfl ?_); go_must (at_builtin; refine Kd.R_append_rows k27 (w0 := w) w.heap.size rfl (.const (.slice none 0 0)) (.tmp 13) 31 27 (.agg #[.int .i64 0, .int .i64 0]) 16 rfl Try.underlying31 info27 rfl (by decide) (by decide) (.slice none 0 0) ([] : List S27) l _ _ _ (fun k => w.heap.size ≤ k) (fun _ => False) rfl rfl (Kd.R_nil _ _ _ _ _) HR.out k27_KM (fun _ h => h.elim) (fun k hk => hk) (Below.refl _ _) (Nat.le_refl _) ?aL ?_; (case aL => have := HN.out; simp; omega); intro v2 w2 hr2 hb2 hg2 hat2; have HO := Aside0.mk (show k27.R 27 w2 w.heap.size (fun k => w.heap.size ≤ k) v2 l from hr2); have HB := Aside0.mk hb2; clear hr2 hb2 hg2 hat2)))
  go_ret
  exact ⟨_, rfl, HO.out, HB.out⟩
theorem merged_vals (K : Nat) (lt : S27 → S27 → Bool) (HLE : LessI K lt) (v1 v2 : Value) (l1 l2 : List S27) (w : World) (h1 : ∃ A c, v1 = .slice A l1.length c ∧ l1.length ≤ c ∧ k27.C w A l1.length l1) (h2 : ∃ A c, v2 = .slice A l2.length c ∧ l2.length ≤ c ∧ k27.C w A l2.length l2) (hn : l1.length + l2.length ≤ 1000) :
    Calls Try.prog 38 #[v1, v2, .func (.func K) #[] #[]] w fun e w' => ∃ v, e = .returned v ∧ k27.R 27 w' w.heap.size (fun k => w.heap.size ≤ k) v (mrg lt l1 l2) ∧ Below w.heap.size w w' := by
  obtain ⟨A1, c1, rfl, hc1, hr1⟩ := h1
  obtain ⟨A2, c2, rfl, hc2, hr2⟩ := h2
  exact merged_calls K lt HLE A1 c1 l1 A2 c2 l2 w hr1 hc1 hr2 hc2 hn
set_option maxHeartbeats 2000000 in
set_option maxRecDepth 100000 in
theorem sort_calls (K : Nat) (lt : S27 → S27 → Bool) (HLE : LessI K lt) : ∀ (f : Nat) (A : Option Addr) (c : Nat) (l : List S27) (w : World) (hr : k27.C w A l.length l) (hc : l.length ≤ c) (hn : l.length ≤ 1000) (hf : l.length ≤ f + 1),
    Calls Try.prog 21 #[.slice A l.length c, .func (.func K) #[] #[]] w fun e w' => ∃ v, e = .returned v ∧ k27.R 27 w' w.heap.size (fun k => w.heap.size ≤ k) v (srt lt f l) ∧ Below w.heap.size w w' := by
  intro f
  induction f with
  | zero => intro A c l w hr hc hn hf; exact copy_short K A c l w hr hn (by omega)
  | succ f ih =>
    intro A c l w hr hc hn hf
    by_cases h2 : l.length < 2
    · rw [srt, if_pos h2]
      exact copy_short K A c l w hr hn h2
    · obtain ⟨m, hm⟩ : ∃ m, l.length / 2 = m := ⟨_, rfl⟩
      have HS := Aside0.mk (show srt lt (f + 1) l = mrg lt (srt lt f (l.take m)) (srt lt f (l.drop m)) from by rw [srt, if_neg h2, hm])
      have HI := Aside0.mk (show l.length ≤ 1000 ∧ l.length ≤ f + 2 ∧ 1 ≤ m ∧ m < l.length ∧ l.length - m ≤ f + 1 ∧ m ≤ f + 1 ∧ l.length ≤ c from by omega)
      have HT := Aside0.mk (Kd.C_take hr (m := m) (by omega))
      have HD := Aside0.mk (Kd.C_drop hr (m := m) (c := c) (by omega) hc)
      rw [if_neg (show c ≠ m by have := HI.out; omega)] at HD
      have HTL := Aside0.mk (show (l.take m).length = m from by rw [List.length_take]; have := HI.out; omega)
      have HDL := Aside0.mk (show (l.drop m).length = l.length - m from List.length_drop)
      have HLE := Aside0.mk HLE
      have IH := Aside0.mk (show ∀ (n : Nat) (A : Option Addr) (c : Nat) (l : List S27) (w : World) (hl : l.length = n) (hr : k27.C w A l.length l) (hc : l.length ≤ c) (hn : l.length ≤ 1000) (hf : l.length ≤ f + 1), Calls Try.prog 21 #[.slice A n c, .func (.func K) #[] #[]] w fun e w' => ∃ v, e = .returned v ∧ k27.R 27 w' w.heap.size (fun k => w.heap.size ≤ k) v (srt lt f l) ∧ Below w.heap.size w w' from fun n A c l w hl hr hc hn hf => hl ▸ ih A c l w hr hc hn hf)
      have q28 := eqlF K
      have d1 : decide ((l.length : Int) < 2) = false := decide_eq_false (by omega)
      have t1 : Int.tdiv (l.length : Int) 2 = (m : Int) := by rw [Int.tdiv_eq_ediv_of_nonneg (by omega)]; omega
      have t2 : wrap64 (m : Int) = (m : Int) := by have := HI.out; unfold wrap64; omega
      have t3 : (l.length : Int) / 2 = (m : Int) := by omega
      have p1 : (m : Int) ≤ (c : Int) := by have := HI.out; omega
      have p2 : (m : Int) ≤ (l.length : Int) := by have := HI.out; omega
      have p3 : (l.length : Int) ≤ (c : Int) := by have := HI.out; omega
      have p4 : m ≤ c := by have := HI.out; omega
      have p5 : m ≤ l.length := by have := HI.out; omega
      obtain ⟨ad, rfl⟩ : ∃ ad, A = some ad := by obtain ⟨ad, h, _⟩ := row_at hr 0 (by omega); exact ⟨ad, h⟩
      have n1 : (c = m) = False := eq_false (by have := HI.out; omega)
      clear hr hc hn hf h2 hm ih
      go_enter Try.func21, Try.ntmps21
      go_upto_region 4 with (fail)
      have HB := Aside0.mk (show Below w.heap.size w w.drew from (Below.refl _ _).drew)
      have M1 := trivial
      have M2 := trivial
      have MN := Aside0.mk (show (srt lt f (l.take m)).length + (srt lt f (l.drop m)).length ≤ 1000 from by rw [srt_len, srt_len, HTL.out, HDL.out]; have := HI.out; omega)
      have T1 := Aside0.mk (show (l.take m).length ≤ c ∧ (l.take m).length ≤ 1000 ∧ (l.take m).length ≤ f + 1 from by have := HI.out; have := HTL.out; omega)
      have D1 := Aside0.mk (show (l.drop m).length ≤ c - m ∧ (l.drop m).length ≤ 1000 ∧ (l.drop m).length ≤ f + 1 from by have := HI.out; have := HDL.out; omega)
      go_region_with (first | (go_at_call 21; clear M1; (refine (IH.out m (some ad) c (l.take m) _ HTL.out (Kd.C_below HT.out HB.out) T1.out.1 T1.out.2.1 T1.out.2.2).mono ?_); (rintro e w2 ⟨v2, rfl, hr, hb⟩; have R2 := Aside0.mk hr; have nHB := Aside0.mk (below_step HB.out hb); clear HB hr hb; have HB := nHB; clear nHB)) | (go_at_call 21; clear M2; (refine (IH.out (l.length - m) (some (ad.add (m * 2))) (c - m) (l.drop m) _ HDL.out (Kd.C_below HD.out HB.out) D1.out.1 D1.out.2.1 D1.out.2.2).mono ?_); (rintro e w3 ⟨v3, rfl, hr, hb⟩; have R2' := Aside0.mk (Kd.R_below R2.out hb); have S3 := Aside0.mk (show w.heap.size ≤ w2.heap.size from HB.out.size); have R3 := Aside0.mk hr; have nHB := Aside0.mk (below_step HB.out hb); clear HB hr hb R2; have HB := nHB; clear nHB)) | (go_at_call 38; (refine (merged_vals K lt HLE.out v2 v3 _ _ _ (Kd.R_reads R2'.out) (Kd.R_reads R3.out) MN.out).mono ?_); (rintro e w4 ⟨v4, rfl, hr, hb⟩; have R4 := Aside0.mk (show k27.R 27 w4 w.heap.size (fun k => w.heap.size ≤ k) v4 (srt lt (f + 1) l) from by rw [HS.out]; exact Kd.R_mono (Kd.R_lower hr HB.out.size) (fun k hk => Nat.le_trans HB.out.size hk)); have nHB := Aside0.mk (below_step HB.out hb); clear HB hr hb R2' R3; have HB := nHB; clear nHB)))
      all_goals
        go_wp2
        go_ret
        exact ⟨_, rfl, R4.out, HB.out⟩
end Go.Proofs.Ytnpndjdkdcbjcaa.Pq
