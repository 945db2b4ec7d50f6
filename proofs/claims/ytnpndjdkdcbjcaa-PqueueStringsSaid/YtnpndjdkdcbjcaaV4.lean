/- sink. -/
import Derived.Test.YtnpndjdkdcbjcaaV3
namespace Go.Proofs.Ytnpndjdkdcbjcaa.Pv
open Go.RowKit Go.Proofs.Ytnpndjdkdcbjcaa.Pq Go.Proofs.Ytnpndjdkdcbjcaa.PX Go.Proofs.YtnpndjdkdcbjcaaW.PrintWords Go.Proofs.YtnpndjdkdcbjcaaW.PrintLast Go.Proofs.YtnpndjdkdcbjcaaW.PrintMore
set_option linter.unusedVariables false
set_option linter.unusedSimpArgs false
theorem before_at (B g : Nat) (F : Nat → Prop) (K : Nat) (lt : ByteArray → ByteArray → Bool) (HLE : LessI K lt) (h : List (ByteArray × Int)) (num : Int) (k f : Nat) (kz : Int) (hz : kz = (k : Int)) (w : World) (hQ : QI 69 71 kI w B g F K h num) (hk : k < h.length) (hf : f < h.length) {b : Bool} (hb : bI lt (h.getD k zI) (h.getD f zI) = b) :
    Calls Try.prog 40 #[.pointer (some ⟨g, 0, none⟩), .int .i64 kz, .int .i64 (f : Int)] w fun e w' => e = .returned (.bool b) ∧ Below w.heap.size w w' := by
  subst hz
  rw [← hb]
  exact before_calls' B g F K lt HLE h num k f w hQ hk hf
set_option maxHeartbeats 2000000 in
set_option maxRecDepth 100000 in
theorem sink_calls (B g : Nat) (F : Nat → Prop) (K : Nat) (lt : ByteArray → ByteArray → Bool) (HLE : LessI K lt) (h : List (ByteArray × Int)) (num : Int) (w : World) (hQ : QI 69 71 kI w B g F K h num) :
    Calls Try.prog 44 #[.pointer (some ⟨g, 0, none⟩)] w fun e w' => e = .returned (.tuple #[]) ∧ QI 69 71 kI w' B g F K (sinkS (bI lt) zI h.length h 0) num ∧ Below B w w' ∧ Keeps F w w' := by
  have HQ := Aside0.mk hQ
  have HL := Aside0.mk hQ.2.1
  have HB := Aside0.mk (Below.refl B w)
  have HK := Aside0.mk (Keeps.refl F w)
  obtain ⟨n, hn⟩ : ∃ n, h.length = n := ⟨_, rfl⟩
  have HNN := Aside0.mk hn
  obtain ⟨hp, hhp⟩ : ∃ hp, sinkS (bI lt) zI h.length h 0 = hp := ⟨_, rfl⟩
  have HP := Aside0.mk hhp
  have HU0 := Aside0.mk (show sinkS (bI lt) zI n h 0 = hp from by rw [← hn]; exact hhp)
  clear hQ hn hhp
  have qx0 := ix0
  have qx1 := ix1
  go_enter Try.func44, Try.ntmps44
  go_wp2
  go_loopg [2, 3, 5] (n + 1) (fun kq v2 v3 v5 wr => ∃ (i f : Nat) (h' : List (ByteArray × Int)), v2 = .int .i64 (i : Int) ∧ Aside0 (h'.length = n ∧ n ≤ i + f ∧ kq = f + 1 ∧ i ≤ n) ∧ Aside0 (sinkS (bI lt) zI f h' i = hp) ∧ Aside0 (QI 69 71 kI wr B g F K h' num) ∧ Aside0 (Below B w wr) ∧ Aside0 (Keeps F w wr))
  case atStart => exact ⟨0, n, h, rfl, ⟨HNN.out, by omega, rfl, Nat.zero_le _⟩, HU0, HQ, HB, HK⟩
  case round =>
    clear HQ HB HK HU0 HNN
    obtain ⟨i, f, h', rfl, HI, HU, HQ, HB, HK⟩ := hrel
    have hi1000 : i ≤ 1000 := by have h1_ := HI.out; have h2_ := HL.out; have h3_ := HQ.out.2.1; omega
    have l1 : wrap64 (2 * (i : Int)) = 2 * (i : Int) := by unfold wrap64; omega
    have l2 : wrap64 (2 * (i : Int) + 1) = 2 * (i : Int) + 1 := by unfold wrap64; omega
    have l3 : wrap64 (2 * (i : Int) + 2) = 2 * (i : Int) + 2 := by unfold wrap64; omega
    go_wp2
    go_loopg [3, 5, 14] 2 (fun kq v3 v5 v14 ws => ∃ (j : Nat), v14 = .int .i64 (j : Int) ∧ v3 = .int .i64 ((fstJ (bI lt) zI h' i j : Nat) : Int) ∧ Aside0 (j ≤ 2 ∧ kq = 2 - j) ∧ Aside0 (QI 69 71 kI ws B g F K h' num) ∧ Aside0 (Below B w ws) ∧ Aside0 (Keeps F w ws))
    case atStart => exact ⟨0, rfl, rfl, ⟨by simp⟩, HQ, HB, HK⟩
    case round =>
      clear HQ HB HK
      obtain ⟨j, rfl, rfl, HJ, HQ, HB, HK⟩ := hrel
      obtain rfl | rfl | rfl : j = 0 ∨ j = 1 ∨ j = 2 := by have := HJ.out; omega
      · obtain ⟨A, c, hg, _, _⟩ := HQ.out.row
        rw [HI.out.1] at hg
        have f1 : wr.cell? ⟨g, 1, none⟩ = some (.slice A n c) := (blk_cell hg 1).trans rfl
        clear hg
        by_cases ck : 2 * i + 1 < n
        · have hkl : 2 * i + 1 < h'.length := by rw [HI.out.1]; exact ck
          have hil : i < h'.length := by omega
          have hfl := fstJ_lt (bI lt) zI h' i hil 0
          have HKL := Aside0.mk hkl
          have HFL := Aside0.mk hfl
          have d1 : decide ((2 * (i : Int) + 1 : Int) < (n : Int)) = true := decide_eq_true (by omega)
          cases hbv : bI lt (h'.getD (2 * i + 1) zI) (h'.getD (fstJ (bI lt) zI h' i 0) zI) with
          | true =>
            have hx : fstJ (bI lt) zI h' i 1 = 2 * i + 1 := by show pick (bI lt) zI h' (2 * i + 1) (fstJ (bI lt) zI h' i 0) = _; unfold pick; rw [if_pos hkl, if_pos hbv]
            have HBX := Aside0.mk hx
            have HBV := Aside0.mk hbv
            clear hkl hil hfl hbv hx ck
            skip
            go_wp2_with (first | (go_at_call 40; go_must (refine (before_at B g F K lt HLE h' num (2 * i + 1) (fstJ (bI lt) zI h' i 0) _ (by omega) _ HQ.out HKL.out HFL.out HBV.out).mono ?_; rintro e w5 ⟨rfl, hb⟩; have HQ5 := Aside0.mk (HQ.out.below hb); have HB5 := Aside0.mk (HB.out.trans (hb.mono (Nat.le_trans HQ.out.lt.2 (Nat.le_of_lt HQ.out.lt.1)))); have HK5 := Aside0.mk (HK.out.trans (Keeps.below hb)); clear HQ HB HK hb)))
            go_roundg (2 - 1)
            case measure => have h_ := HJ.out; omega
            case rel => exact ⟨1, rfl, by rw [HBX.out]; first | rfl | (congr 1; omega), ⟨by omega⟩, HQ5, HB5, HK5⟩
          | false =>
            have hx : fstJ (bI lt) zI h' i 1 = fstJ (bI lt) zI h' i 0 := by show pick (bI lt) zI h' (2 * i + 1) (fstJ (bI lt) zI h' i 0) = _; unfold pick; rw [if_pos hkl, if_neg (by rw [hbv]; simp)]
            have HBX := Aside0.mk hx
            have HBV := Aside0.mk hbv
            clear hkl hil hfl hbv hx ck
            go_wp2_with (first | (go_at_call 40; go_must (refine (before_at B g F K lt HLE h' num (2 * i + 1) (fstJ (bI lt) zI h' i 0) _ (by omega) _ HQ.out HKL.out HFL.out HBV.out).mono ?_; rintro e w5 ⟨rfl, hb⟩; have HQ5 := Aside0.mk (HQ.out.below hb); have HB5 := Aside0.mk (HB.out.trans (hb.mono (Nat.le_trans HQ.out.lt.2 (Nat.le_of_lt HQ.out.lt.1)))); have HK5 := Aside0.mk (HK.out.trans (Keeps.below hb)); clear HQ HB HK hb)))
            go_roundg (2 - 1)
            case measure => have h_ := HJ.out; omega
            case rel => exact ⟨1, rfl, by rw [HBX.out], ⟨by omega⟩, HQ5, HB5, HK5⟩
        · have d1 : decide ((2 * (i : Int) + 1 : Int) < (n : Int)) = false := decide_eq_false (by omega)
          have hx : fstJ (bI lt) zI h' i 1 = fstJ (bI lt) zI h' i 0 := by show pick (bI lt) zI h' (2 * i + 1) (fstJ (bI lt) zI h' i 0) = _; unfold pick; rw [if_neg (by rw [HI.out.1]; exact ck)]
          have HBX := Aside0.mk hx
          clear hx ck
          go_wp2
          go_roundg (2 - 1)
          case measure => have h_ := HJ.out; omega
          case rel => exact ⟨1, rfl, by rw [HBX.out], ⟨by omega⟩, HQ, HB, HK⟩
      · obtain ⟨A, c, hg, _, _⟩ := HQ.out.row
        rw [HI.out.1] at hg
        have f1 : wr.cell? ⟨g, 1, none⟩ = some (.slice A n c) := (blk_cell hg 1).trans rfl
        clear hg
        by_cases ck : 2 * i + 2 < n
        · have hkl : 2 * i + 2 < h'.length := by rw [HI.out.1]; exact ck
          have hil : i < h'.length := by omega
          have hfl := fstJ_lt (bI lt) zI h' i hil 1
          have HKL := Aside0.mk hkl
          have HFL := Aside0.mk hfl
          have d1 : decide ((2 * (i : Int) + 2 : Int) < (n : Int)) = true := decide_eq_true (by omega)
          cases hbv : bI lt (h'.getD (2 * i + 2) zI) (h'.getD (fstJ (bI lt) zI h' i 1) zI) with
          | true =>
            have hx : fstJ (bI lt) zI h' i 2 = 2 * i + 2 := by show pick (bI lt) zI h' (2 * i + 2) (fstJ (bI lt) zI h' i 1) = _; unfold pick; rw [if_pos hkl, if_pos hbv]
            have HBX := Aside0.mk hx
            have HBV := Aside0.mk hbv
            clear hkl hil hfl hbv hx ck
            skip
            go_wp2_with (first | (go_at_call 40; go_must (refine (before_at B g F K lt HLE h' num (2 * i + 2) (fstJ (bI lt) zI h' i 1) _ (by omega) _ HQ.out HKL.out HFL.out HBV.out).mono ?_; rintro e w5 ⟨rfl, hb⟩; have HQ5 := Aside0.mk (HQ.out.below hb); have HB5 := Aside0.mk (HB.out.trans (hb.mono (Nat.le_trans HQ.out.lt.2 (Nat.le_of_lt HQ.out.lt.1)))); have HK5 := Aside0.mk (HK.out.trans (Keeps.below hb)); clear HQ HB HK hb)))
            go_roundg (2 - 2)
            case measure => have h_ := HJ.out; omega
            case rel => exact ⟨2, rfl, by rw [HBX.out]; first | rfl | (congr 1; omega), ⟨by omega⟩, HQ5, HB5, HK5⟩
          | false =>
            have hx : fstJ (bI lt) zI h' i 2 = fstJ (bI lt) zI h' i 1 := by show pick (bI lt) zI h' (2 * i + 2) (fstJ (bI lt) zI h' i 1) = _; unfold pick; rw [if_pos hkl, if_neg (by rw [hbv]; simp)]
            have HBX := Aside0.mk hx
            have HBV := Aside0.mk hbv
            clear hkl hil hfl hbv hx ck
            go_wp2_with (first | (go_at_call 40; go_must (refine (before_at B g F K lt HLE h' num (2 * i + 2) (fstJ (bI lt) zI h' i 1) _ (by omega) _ HQ.out HKL.out HFL.out HBV.out).mono ?_; rintro e w5 ⟨rfl, hb⟩; have HQ5 := Aside0.mk (HQ.out.below hb); have HB5 := Aside0.mk (HB.out.trans (hb.mono (Nat.le_trans HQ.out.lt.2 (Nat.le_of_lt HQ.out.lt.1)))); have HK5 := Aside0.mk (HK.out.trans (Keeps.below hb)); clear HQ HB HK hb)))
            go_roundg (2 - 2)
            case measure => have h_ := HJ.out; omega
            case rel => exact ⟨2, rfl, by rw [HBX.out], ⟨by omega⟩, HQ5, HB5, HK5⟩
        · have d1 : decide ((2 * (i : Int) + 2 : Int) < (n : Int)) = false := decide_eq_false (by omega)
          have hx : fstJ (bI lt) zI h' i 2 = fstJ (bI lt) zI h' i 1 := by show pick (bI lt) zI h' (2 * i + 2) (fstJ (bI lt) zI h' i 1) = _; unfold pick; rw [if_neg (by rw [HI.out.1]; exact ck)]
          have HBX := Aside0.mk hx
          clear hx ck
          go_wp2
          go_roundg (2 - 2)
          case measure => have h_ := HJ.out; omega
          case rel => exact ⟨2, rfl, by rw [HBX.out], ⟨by omega⟩, HQ, HB, HK⟩
      · by_cases hf : firstS (bI lt) zI h' i = i
        · have HF0 := Aside0.mk (show h' = hp from by have h_ := HU.out; cases f with | zero => exact h_ | succ f => rw [sinkS, if_pos hf] at h_; exact h_)
          have hx : ((fstJ (bI lt) zI h' i 2 : Nat) : Int) = (i : Int) := by show ((firstS (bI lt) zI h' i : Nat) : Int) = _; rw [hf]
          have d1 : (((fstJ (bI lt) zI h' i 2 : Nat) : Int) == (i : Int)) = true := by rw [hx]; simp
          have d2 : decide (fstJ (bI lt) zI h' i 2 = i) = true := decide_eq_true hf
          have d3 : (fstJ (bI lt) zI h' i 2 == i) = true := beq_iff_eq.2 hf
          clear hx hf
          go_wp2
          exact ⟨rfl, .tuple #[], results_none rfl _ _ _, rfl, by rw [HP.out, ← HF0.out]; exact HQ.out, HB.out, HK.out⟩
        · have hil : i < h'.length := by
            by_cases hil : i < h'.length
            · exact hil
            · exact absurd (fstJ_out (bI lt) zI h' i hil 2) hf
          obtain ⟨f', hf'⟩ : ∃ f', f = f' + 1 := ⟨f - 1, by have h_ := HI.out; omega⟩
          have HR := Aside0.mk (firstS_range (bI lt) zI h' i hil)
          have HU2 := Aside0.mk (show sinkS (bI lt) zI f' (swp zI h' i (fstJ (bI lt) zI h' i 2)) (fstJ (bI lt) zI h' i 2) = hp from by have h_ := HU.out; rw [hf', sinkS, if_neg hf] at h_; exact h_)
          have HIL := Aside0.mk hil
          have HFL := Aside0.mk (fstJ_lt (bI lt) zI h' i hil 2)
          have HF1 := Aside0.mk hf'
          have HNE := Aside0.mk hf
          have d1 : (((fstJ (bI lt) zI h' i 2 : Nat) : Int) == (i : Int)) = false := beq_eq_false_iff_ne.2 (fun e => hf (show fstJ (bI lt) zI h' i 2 = i by omega))
          have d2 : decide (fstJ (bI lt) zI h' i 2 = i) = false := decide_eq_false hf
          have d3 : (fstJ (bI lt) zI h' i 2 == i) = false := beq_eq_false_iff_ne.2 hf
          have HFI := Aside0.mk (show firstS (bI lt) zI h' i = fstJ (bI lt) zI h' i 2 from rfl)
          clear hil hf hf' HU
          generalize fstJ (bI lt) zI h' i 2 = p at *
          go_wp2_with (first | (go_at_call 41; go_must (refine (swap_calls' B g F K h' num i p _ HQ.out HIL.out HFL.out).mono ?_; rintro e w6 ⟨rfl, hq, hk, hb⟩; have HQ6 := Aside0.mk hq; have HB6 := Aside0.mk (HB.out.trans hb); have HK6 := Aside0.mk (HK.out.trans hk); clear HQ HB HK hq hk hb)))
          go_roundg (f' + 1)
          case measure => have h1_ := HF1.out; have h2_ := HI.out; omega
          case rel => exact ⟨p, f', swp zI h' i p, rfl, ⟨by have h1_ := HR.out; have h2_ := HNE.out; have h3_ := HI.out; have h4_ := HF1.out; rw [HFI.out] at h1_ h2_; rw [swp_len]; omega⟩, HU2, HQ6, HB6, HK6⟩
end Go.Proofs.Ytnpndjdkdcbjcaa.Pv
