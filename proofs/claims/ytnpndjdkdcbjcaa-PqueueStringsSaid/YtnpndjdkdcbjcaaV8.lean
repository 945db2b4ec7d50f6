/- Strings, by their lengths, leave a queue as Sort returns them. -/
import Derived.Test.YtnpndjdkdcbjcaaV7
import Derived.Test.YtnpndjdkdcbjcaaS0
namespace Go.Proofs.Ytnpndjdkdcbjcaa.Pv
open Go.RowKit Go.Proofs.Ytnpndjdkdcbjcaa.Pq Go.Proofs.Ytnpndjdkdcbjcaa.PX Go.Proofs.YtnpndjdkdcbjcaaW.PrintWords Go.Proofs.YtnpndjdkdcbjcaaW.PrintLast Go.Proofs.YtnpndjdkdcbjcaaW.PrintMore
set_option linter.unusedVariables false
set_option linter.unusedSimpArgs false
def ltS (a b : ByteArray) : Bool := decide ((a.size : Int) < (b.size : Int))
theorem swoS : Swo ltS := swo_key (fun a : ByteArray => (a.size : Int))
theorem lessS : LessI 27 ltS := by
  refine ⟨fun args w => enters_ Try.func27 (by kernel_rfl) rfl args w, fun a b w => ?_⟩
  exact (papermilllaw11_shorter.calls a b _ w rfl).mono (fun e w2 h => ⟨h.1, h.2.below⟩)
abbrev pushL (lt : ByteArray → ByteArray → Bool) (l : List ByteArray) : List (ByteArray × Int) := pushAll lt Prod.fst Prod.snd Prod.mk zI l [] 0
theorem pushL_snoc (lt : ByteArray → ByteArray → Bool) (l : List ByteArray) (x : ByteArray) : pushL lt (l ++ [x]) = pushS (bI lt) zI (pushL lt l) (x, (l.length : Int)) := by
  show pushAll lt Prod.fst Prod.snd Prod.mk zI (l ++ [x]) [] 0 = _
  rw [pushAll_snoc, Int.zero_add]
theorem pushL_len (lt : ByteArray → ByteArray → Bool) (l : List ByteArray) : (pushL lt l).length = l.length := by
  have h := (pushAll_perm lt Prod.fst Prod.snd Prod.mk zI l [] 0).length_eq
  have h2 := numS_map Prod.fst Prod.mk (fun (_ : ByteArray) (_ : Int) => rfl) l 0
  rw [List.nil_append] at h
  rw [← congrArg List.length h2, List.length_map]
  exact h
theorem pops_all (lt : ByteArray → ByteArray → Bool) (hs : Swo lt) (l : List ByteArray) : (popsS (bI lt) zI (pushL lt l).length (pushL lt l)).map Prod.fst = srt lt l.length l := by
  rw [pushL_len]
  obtain ⟨h1, h2, _, _⟩ := pops_srt (lt := lt) (v := (Prod.fst : ByteArray × Int → ByteArray)) (no := Prod.snd) (mk := Prod.mk) (d := zI) hs (fun _ _ => rfl) (fun _ _ => rfl) l l.length (by omega)
  exact (congrArg (List.map Prod.fst) h1).trans h2
theorem pops_one (lt : ByteArray → ByteArray → Bool) (h : List (ByteArray × Int)) (s : List ByteArray) (i : Nat) (h0 : 0 < h.length) (hp : (popsS (bI lt) zI h.length h).map Prod.fst = s.drop i) :
    i < s.length ∧ (h.getD 0 zI).1 = s.getD i ByteArray.empty ∧ (popsS (bI lt) zI (popS (bI lt) zI h).length (popS (bI lt) zI h)).map Prod.fst = s.drop (i + 1) := by
  obtain ⟨m, hm⟩ : ∃ m, h.length = m + 1 := ⟨h.length - 1, by omega⟩
  rw [popS_len _ _ _ h0, show h.length - 1 = m by omega]
  rw [hm, popsS, List.map_cons] at hp
  have hi : i < s.length := by
    by_cases c : i < s.length
    · exact c
    · rw [List.drop_eq_nil_of_le (by omega)] at hp
      cases hp
  rw [List.drop_eq_getElem_cons hi] at hp
  obtain ⟨h1, h2⟩ := List.cons.inj hp
  exact ⟨hi, by rw [h1, getD_lt ByteArray.empty s hi], h2⟩
theorem srtS (lt : ByteArray → ByteArray → Bool) (hs : Swo lt) (l : List ByteArray) : (srt lt l.length l).Pairwise (fun x y => lt y x = false) :=
  srt_sorted lt (fun x y => lt y x = false) (fun _ _ => True) (fun x y z h1 h2 => hs.ntr _ _ _ h2 h1) (fun x y _ => ⟨fun c => hs.asym _ _ c, fun c => c⟩) l.length l (by omega) (List.pairwise_of_forall (fun _ _ => trivial))
theorem row_of {w : World} {B n c : Nat} {A : Option Addr} {ok : Nat → Prop} {l : List ByteArray} (h : Kd.string.R 9 w B ok (.slice A n c) l) (i : Nat) (hi : i < n) (hn : l.length = n) : ∃ ad : Addr, A = some ad ∧ w.cell? (ad.add i) = some (.string (l.getD i ByteArray.empty)) := by
  obtain ⟨A2, c2, e, _, hC⟩ := Kd.R_reads h
  obtain ⟨rfl, _, _⟩ := Value.slice.inj e
  exact row_at hC i (by omega)
theorem sort_vals (K : Nat) (lt : ByteArray → ByteArray → Bool) (HLE : LessI K lt) (A : Option Addr) (c : Nat) (l : List ByteArray) (w : World) (hr : Kd.string.C w A l.length l) (hc : l.length ≤ c) (hn : l.length ≤ 1000) :
    Calls Try.prog 29 #[.slice A l.length c, .func (.func K) #[] #[]] w fun e w' => ∃ A2 c2, e = .returned (.slice A2 l.length c2) ∧ Kd.string.R 9 w' w.heap.size (fun k => w.heap.size ≤ k) (.slice A2 l.length c2) (srt lt l.length l) ∧ Below w.heap.size w w' := by
  refine (sort_calls K lt HLE l.length A c l w hr hc hn (by omega)).mono ?_
  rintro e2 w2 ⟨v, rfl, hr, hb⟩
  obtain ⟨A2, c2, rfl⟩ := Kd.R_slice hr
  rw [srt_len] at hr ⊢
  exact ⟨A2, c2, rfl, hr, hb⟩
theorem neqS (a : ByteArray) (w : World) : (binOp .neq 9 (.string a) (.string a)).run Try.prog w = .ok (.bool false) w := by
  go_simp
set_option maxHeartbeats 4000000 in
set_option maxRecDepth 100000 in
theorem Strings_calls (A0 : Option Addr) (c0 : Nat) (l0 : List ByteArray) (w : World) (hr0 : Kd.string.C w A0 l0.length l0) (hc0 : l0.length ≤ c0) :
    Calls Try.prog 9 #[.slice A0 l0.length c0] w fun e w' => e = .returned (.bool true) ∧ Below w.heap.size w w' := by
  have HR := Aside0.mk hr0
  have HC := Aside0.mk hc0
  clear hr0 hc0
  have HB := Aside0.mk (Below.refl w.heap.size w)
  by_cases hbig : 100 < l0.length
  · have d1 : decide ((100 : Int) < (l0.length : Int)) = true := decide_eq_true (by omega)
    have d2 := eq_true hbig
    go_enter Try.func9, Try.ntmps9
    go_wp2_with (first | (go_at_call 10; go_must (refine (awake_calls _).mono ?_; rintro e w1 ⟨rfl, hb⟩; have nHB := Aside0.mk (below_step HB.out hb); clear HB hb; have HB := nHB; clear nHB)))
    go_ret
    exact ⟨rfl, HB.out⟩
  obtain ⟨K, hK⟩ : ∃ K, 27 = K := ⟨_, rfl⟩
  obtain ⟨lt, hlt⟩ : ∃ lt, ltS = lt := ⟨_, rfl⟩
  have HLE := Aside0.mk (show LessI K lt from hK ▸ hlt ▸ lessS)
  have HSW := Aside0.mk (show Swo lt from hlt ▸ swoS)
  have HLT := Aside0.mk hlt
  have HK := Aside0.mk hK
  have HN := Aside0.mk (show l0.length ≤ 100 by omega)
  have d1 : decide ((100 : Int) < (l0.length : Int)) = false := decide_eq_false (by omega)
  have d2 := eq_false hbig
  clear hlt hK hbig
  obtain ⟨B, hB⟩ : ∃ B, w.heap.size = B := ⟨_, rfl⟩
  rw [hB] at HB
  have HBW := Aside0.mk hB
  clear hB
  go_enter Try.func9, Try.ntmps9
  go_wp2_with (first
    | (go_at_call 26; go_must (rw [HK.out]; refine (new_calls K _).mono ?_; rintro e w1 ⟨g, rfl, hq, hb⟩; rw [HBW.out] at hq; rw [HBW.out] at hb; have HQ := Aside0.mk hq; have nHB := Aside0.mk (HB.out.trans hb); clear HB hb hq; have HB := nHB; clear nHB)))
  go_loopg [4] l0.length (fun kq v4 wr => ∃ i : Nat, v4 = .int .i64 (i : Int) ∧ Aside0 (i ≤ l0.length ∧ kq = l0.length - i) ∧ Aside0 (QI 69 71 kI wr B g (fun k => B ≤ k) K (pushL lt (l0.take i)) i) ∧ Aside0 (Below B w wr))
  case atStart => exact ⟨0, rfl, ⟨by simp⟩, HQ, HB⟩
  case round =>
    clear HQ HB
    obtain ⟨i, rfl, HI, HQ, HB⟩ := hrel
    have HBS := Aside0.mk (show B ≤ wr.heap.size from by rw [← HBW.out]; exact HB.out.size)
    by_cases ci : i < l0.length
    · obtain ⟨ad, rfl, f1⟩ := row_at (Kd.C_below HR.out (HBW.out ▸ HB.out)) i ci
      have HX := Aside0.mk (show l0.take (i + 1) = l0.take i ++ [l0.getD i ByteArray.empty] from by rw [List.take_add_one, List.getD_eq_getElem?_getD, List.getElem?_eq_getElem ci]; rfl)
      obtain ⟨x, hx⟩ : ∃ x, l0.getD i ByteArray.empty = x := ⟨_, rfl⟩
      rw [hx] at f1 HX
      have HI2 := Aside0.mk ci
      have p1 := eq_true (show (i : Int) < (l0.length : Int) by omega)
      have q1 : wrap64 ((i : Int) + 1) = (i : Int) + 1 := by have := HN.out; unfold wrap64; omega
      replace ci := eq_true ci
      clear hx
      go_wp2_with (first
        | (go_at_call 28; go_must (refine (push_calls B g _ K lt HLE.out (pushL lt (l0.take i)) i x _ HQ.out (fun k hk => Nat.le_trans HBS.out hk) (by rw [pushL_len, List.length_take]; have := HN.out; omega) (by have := HN.out; have := HI2.out; omega)).mono ?_; rintro e w5 ⟨rfl, hq, hb, hk⟩; have HQ5 := Aside0.mk (show QI 69 71 kI w5 B g (fun k => B ≤ k) K (pushL lt (l0.take (i + 1))) ((i + 1 : Nat) : Int) from by rw [HX.out, pushL_snoc, List.length_take, Nat.min_eq_left (Nat.le_of_lt HI2.out)]; exact hq); have HB5 := Aside0.mk (HB.out.trans hb); clear HQ HB HBS hq hb hk f1)))
      go_roundg (l0.length - (i + 1))
      case measure => have h_ := HI.out; have := HI2.out; omega
      case rel => exact ⟨i + 1, by first | rfl | (rw [q1]; rfl), ⟨by have := HI2.out; omega⟩, HQ5, HB5⟩
    · obtain rfl : i = l0.length := by have := HI.out; omega
      clear ci HI
      rw [List.take_length] at HQ
      have HSO := Aside0.mk (srtS lt HSW.out l0)
      have HPO := Aside0.mk (pops_all lt HSW.out l0)
      have HPL := Aside0.mk (pushL_len lt l0)
      have HLS := Aside0.mk (show (srt lt l0.length l0).length = l0.length from srt_len lt _ _)
      have p1 := eq_false (show ¬ (l0.length : Int) < (l0.length : Int) by omega)
      obtain ⟨SZ, hSZ⟩ : ∃ SZ, wr.heap.size = SZ := ⟨_, rfl⟩
      have HBZ := Aside0.mk (hSZ ▸ HBS.out)
      have HSZ := Aside0.mk hSZ
      have nHQ := Aside0.mk (HQ.out.narrow (F' := fun k => B ≤ k ∧ k < SZ) (fun k hk hf => ⟨hf, hSZ ▸ hk⟩))
      clear HQ hSZ
      have HQ := nHQ
      clear nHQ
      go_wp2_with (first
        | (go_at_call 29; go_must (rw [HK.out]; refine (sort_vals K lt HLE.out A0 c0 l0 _ (Kd.C_below HR.out (HBW.out ▸ HB.out)) HC.out (by have := HN.out; omega)).mono ?_; rw [HSZ.out]; rintro e w20 ⟨A2, c2, rfl, hr, hb⟩; have HO := Aside0.mk hr; have nHQ := Aside0.mk (HQ.out.below (HSZ.out.symm ▸ hb)); have nHB := Aside0.mk (HB.out.trans (hb.mono HBZ.out)); have HS := Aside0.mk (show SZ ≤ w20.heap.size from by have h_ := hb.size; rw [HSZ.out] at h_; exact h_); have nHBS := Aside0.mk (Nat.le_trans HBZ.out HS.out); clear HQ HB HBS hr hb; have HQ := nHQ; have HB := nHB; have HBS := nHBS; clear nHQ nHB nHBS)))
      generalize srt lt l0.length l0 = S at HSO HPO HLS HO
      generalize pushL lt l0 = h0 at HQ HPO HPL
      generalize hnum : (l0.length : Int) = num at HQ
      have HNUM := Aside0.mk hnum
      clear hnum
      go_loopg [6, 7, 8] l0.length (fun kq v6 v7 v8 ws => ∃ (i : Nat) (h : List (ByteArray × Int)), v6 = .int .i64 (i : Int) ∧ Aside0 (i + h.length = l0.length ∧ kq = h.length) ∧ Aside0 ((popsS (bI lt) zI h.length h).map Prod.fst = S.drop i) ∧ Aside0 (QI 69 71 kI ws B g (fun k => B ≤ k ∧ k < SZ) K h num) ∧ Aside0 (Kd.string.R 9 ws SZ (fun k => SZ ≤ k) (.slice A2 l0.length c2) S) ∧ Aside0 (Below B w ws) ∧ Aside0 (SZ ≤ ws.heap.size) ∧ Aside0 (B ≤ ws.heap.size))
      case atStart => exact ⟨0, h0, rfl, ⟨by rw [HPL.out]; simp⟩, ⟨by rw [List.drop_zero]; exact HPO.out⟩, HQ, HO, HB, HS, HBS⟩
      case round =>
        clear HQ HB HS HBS HO HPO HPL
        obtain ⟨i, h, rfl, HI2, HPO, HQ, HO, HB, HS, HBS⟩ := hrel
        by_cases h0_ : 0 < h.length
        · have HP := Aside0.mk h0_
          have HP1 := Aside0.mk (pops_one lt h S i h0_ HPO.out)
          have HPL := Aside0.mk (popS_len (bI lt) zI h h0_)
          obtain ⟨x, hx⟩ : ∃ x, S.getD i ByteArray.empty = x := ⟨_, rfl⟩
          have HXS := Aside0.mk hx
          have HX := Aside0.mk (show (h.getD 0 zI).1 = x from HP1.out.2.1.trans hx)
          have HIL := Aside0.mk (show i < l0.length from by have := HI2.out; omega)
          have p1 := eq_true (show (i : Int) < (l0.length : Int) by have := HIL.out; omega)
          have p2 := eq_true HIL.out
          have q1 : wrap64 ((i : Int) + 1) = (i : Int) + 1 := by have := HIL.out; have := HN.out; unfold wrap64; omega
          have nq := neqS
          clear h0_ hx
          go_upto_region 17 with (first
            | (go_at_call 30; go_must (refine (pop_calls B g _ K lt HLE.out h _ _ HQ.out HP.out).mono ?_; rw [HX.out]; rintro e w11 ⟨rfl, hq, hb, hk⟩; have nHO := Aside0.mk (Kd.R_step HO.out (fun k hk_ hlt => hk.2 k hlt (fun hf => absurd hf.2 (Nat.not_lt.2 hk_)))); have nHQ := Aside0.mk hq; have nHB := Aside0.mk (HB.out.trans hb); have nHBS := Aside0.mk (Nat.le_trans HBS.out hk.1.size); have nHS := Aside0.mk (Nat.le_trans HS.out hk.1.size); clear HQ HO HB HBS HS hq hb hk; have HQ := nHQ; have HO := nHO; have HB := nHB; have HBS := nHBS; have HS := nHS; clear nHQ nHO nHB nHBS nHS)))
          obtain ⟨pa, hpa, f1⟩ := row_of HO.out i HIL.out HLS.out
          subst hpa
          rw [HXS.out] at f1
          by_cases hi0 : i = 0
          · have k1 : decide ((0 : Int) < (i : Int)) = false := decide_eq_false (by omega)
            have k2 := eq_false (show ¬ ((0 : Int) < (i : Int)) by omega)
            have k3 := eq_false (show ¬ (0 < i) by omega)
            clear hi0
            go_quiet (fail)
            go_wp2
            go_roundg (popS (bI lt) zI h).length
            case measure => have := HPL.out; have := HP.out; have := HI2.out; omega
            case rel => exact ⟨i + 1, popS (bI lt) zI h, by first | rfl | (rw [q1]; rfl), ⟨by have := HPL.out; have := HP.out; have := HI2.out; omega⟩, ⟨HP1.out.2.2⟩, ⟨HQ.out.below (pw_below_drewN (Below.refl w11.heap.size w11) _)⟩, ⟨Kd.R_below HO.out (pw_below_drewN (Below.refl w11.heap.size w11) _)⟩, ⟨HB.out.trans ((pw_below_drewN (Below.refl w11.heap.size w11) _).mono HBS.out)⟩, ⟨Nat.le_trans HS.out (pw_below_drewN (Below.refl w11.heap.size w11) _).size⟩, ⟨Nat.le_trans HBS.out (pw_below_drewN (Below.refl w11.heap.size w11) _).size⟩⟩
          · obtain ⟨j, hj⟩ : ∃ j, i = j + 1 := ⟨i - 1, by omega⟩
            obtain ⟨pb, hpb2, f3⟩ := row_of HO.out j (by have := HIL.out; omega) HLS.out
            obtain rfl := Option.some.inj hpb2
            obtain ⟨y, hy⟩ : ∃ y, S.getD j ByteArray.empty = y := ⟨_, rfl⟩
            rw [hy] at f3
            have hxy : ¬ (x.size : Int) < (y.size : Int) := by
              have h_ := sorted_at ByteArray.empty HSO.out j (by rw [HLS.out, ← hj]; exact HIL.out)
              rw [hy, ← hj, HXS.out, ← HLT.out] at h_
              exact of_decide_eq_false h_
            have k1 : decide ((0 : Int) < (i : Int)) = true := decide_eq_true (by omega)
            have k2 := eq_true (show ((0 : Int) < (i : Int)) by omega)
            have k3 := eq_true (show (0 < i) by omega)
            have k4 : wrap64 ((i : Int) - 1) = (j : Int) := by have := HIL.out; have := HN.out; unfold wrap64; omega
            have k4' : IntKind.i64.wrap ((i : Int) - 1) = (j : Int) := by rw [IntKind.wrap_i64]; have := HIL.out; have := HN.out; omega
            have k5 := eq_true (show (j : Int) < (l0.length : Int) by have := HIL.out; omega)
            have k6 := eq_true (show j < l0.length by have := HIL.out; omega)
            have k7 : decide ((x.size : Int) < (y.size : Int)) = false := decide_eq_false hxy
            have k8 := eq_false hxy
            have k9 := eq_false (show ¬ x.size < y.size by omega)
            clear hpb2 hj hy hi0 hxy
            go_quiet (fail)
            go_wp2
            go_roundg (popS (bI lt) zI h).length
            case measure => have := HPL.out; have := HP.out; have := HI2.out; omega
            case rel => exact ⟨i + 1, popS (bI lt) zI h, by first | rfl | (rw [q1]; rfl), ⟨by have := HPL.out; have := HP.out; have := HI2.out; omega⟩, ⟨HP1.out.2.2⟩, ⟨HQ.out.below (pw_below_drewN (Below.refl w11.heap.size w11) _)⟩, ⟨Kd.R_below HO.out (pw_below_drewN (Below.refl w11.heap.size w11) _)⟩, ⟨HB.out.trans ((pw_below_drewN (Below.refl w11.heap.size w11) _).mono HBS.out)⟩, ⟨Nat.le_trans HS.out (pw_below_drewN (Below.refl w11.heap.size w11) _).size⟩, ⟨Nat.le_trans HBS.out (pw_below_drewN (Below.refl w11.heap.size w11) _).size⟩⟩
        · obtain rfl : h = [] := List.length_eq_zero_iff.1 (by omega)
          obtain rfl : i = l0.length := by have := HI2.out; simpa using this.1
          have p1 := eq_false (show ¬ (l0.length : Int) < num by rw [← HNUM.out]; omega)
          have p2 := eq_false (show ¬ (l0.length : Int) < (l0.length : Int) by omega)
          clear h0_
          go_wp2_with (first
            | (go_at_call 10; go_must (refine (awake_calls _).mono ?_; rintro e w27 ⟨rfl, hb⟩; have nHB := Aside0.mk (HB.out.trans (hb.mono HBS.out)); clear HB hb; have HB := nHB; clear nHB)))
          go_ret
          exact ⟨rfl, HBW.out ▸ HB.out⟩
end Go.Proofs.Ytnpndjdkdcbjcaa.Pv
