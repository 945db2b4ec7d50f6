/- IdentPlays. -/
import Derived.Test.YtoleenfipnbjkaaT20
namespace Go.Proofs.Ytoleenfipnbjkaa.Tab
open Go.RowKit Go.Maps Go.Proofs.Ytoleenfipnbjkaa.PX Go.Proofs.YtoleenfipnbjkaaW.PrintWords Go.Proofs.YtoleenfipnbjkaaW.PrintLast Go.Proofs.YtoleenfipnbjkaaW.PrintMore
set_option linter.unusedVariables false
set_option linter.unusedSimpArgs false
set_option maxHeartbeats 2000000 in
set_option maxRecDepth 100000 in
theorem Plays_big1 (A0 : Option Addr) (c0 : Nat) (l0 : List ByteArray) (A1 : Option Addr) (c1 : Nat) (l1 : List (Int × Int × ByteArray)) (w : World) (hr0 : Kd.C Kd.string w A0 l0.length l0) (hc0 : l0.length ≤ c0) (hr1 : Kd.C kStep w A1 l1.length l1) (hq : ∀ x ∈ l1, x.2.2.size ≤ maxLen) (h : 40 < l0.length) :
    Calls Try.prog 8 #[.slice A0 l0.length c0, .slice A1 l1.length c1] w fun e w' => e = .returned (.bool true) ∧ Below w.heap.size w w' := by
  have HR0 := Aside0.mk hr0
  have HC0 := Aside0.mk hc0
  have HR1 := Aside0.mk hr1
  have HQ := Aside0.mk hq
  have HB := Aside0.mk (Below.refl w.heap.size w)
  have d1 : decide ((40 : Int) < (l0.length : Int)) = true := decide_eq_true (by omega)
  clear hr0 hc0 hr1 hq h
  go_enter Try.func8, Try.ntmps8
  go_wp2_with (first | (go_at_call 12; (with_reducible refine (awake_calls _).mono ?_); rintro e w9 ⟨rfl, hb⟩; have HBn := Aside0.mk (below_step HB.out hb); clear HB; have HB := HBn; clear HBn hb))
  go_ret
  exact ⟨rfl, HB.out⟩
set_option maxHeartbeats 2000000 in
set_option maxRecDepth 100000 in
theorem Plays_big2 (A0 : Option Addr) (c0 : Nat) (l0 : List ByteArray) (A1 : Option Addr) (c1 : Nat) (l1 : List (Int × Int × ByteArray)) (w : World) (hr0 : Kd.C Kd.string w A0 l0.length l0) (hc0 : l0.length ≤ c0) (hr1 : Kd.C kStep w A1 l1.length l1) (hq : ∀ x ∈ l1, x.2.2.size ≤ maxLen) (h0 : l0.length ≤ 40) (h : 60 < l1.length) :
    Calls Try.prog 8 #[.slice A0 l0.length c0, .slice A1 l1.length c1] w fun e w' => e = .returned (.bool true) ∧ Below w.heap.size w w' := by
  have HR0 := Aside0.mk hr0
  have HC0 := Aside0.mk hc0
  have HR1 := Aside0.mk hr1
  have HQ := Aside0.mk hq
  have HB := Aside0.mk (Below.refl w.heap.size w)
  have d1 : decide ((40 : Int) < (l0.length : Int)) = false := decide_eq_false (by omega)
  have d2 : decide ((60 : Int) < (l1.length : Int)) = true := decide_eq_true (by omega)
  clear h0
  clear hr0 hc0 hr1 hq h
  go_enter Try.func8, Try.ntmps8
  go_wp2_with (first | (go_at_call 12; (with_reducible refine (awake_calls _).mono ?_); rintro e w9 ⟨rfl, hb⟩; have HBn := Aside0.mk (below_step HB.out hb); clear HB; have HB := HBn; clear HBn hb))
  go_ret
  exact ⟨rfl, HB.out⟩
set_option maxHeartbeats 2000000 in
set_option maxRecDepth 100000 in
theorem Plays_nil (A0 : Option Addr) (c0 : Nat) (l0 : List ByteArray) (A1 : Option Addr) (c1 : Nat) (l1 : List (Int × Int × ByteArray)) (w : World) (hr0 : Kd.C Kd.string w A0 l0.length l0) (hc0 : l0.length ≤ c0) (hr1 : Kd.C kStep w A1 l1.length l1) (hq : ∀ x ∈ l1, x.2.2.size ≤ maxLen) (h0 : l0.length ≤ 40) (h1 : l1.length ≤ 60) (hn : ¬ (newF l0).1 = 0) :
    Calls Try.prog 8 #[.slice A0 l0.length c0, .slice A1 l1.length c1] w fun e w' => e = .returned (.bool true) ∧ Below w.heap.size w w' := by
  have HR0 := Aside0.mk hr0
  have HC0 := Aside0.mk hc0
  have HR1 := Aside0.mk hr1
  have HQ := Aside0.mk hq
  have HB := Aside0.mk (Below.refl w.heap.size w)
  have d1 : decide ((40 : Int) < (l0.length : Int)) = false := decide_eq_false (by omega)
  have d2 : decide ((60 : Int) < (l1.length : Int)) = false := decide_eq_false (by omega)
  have HL1 := Aside0.mk h1
  clear hr0 hc0 hr1 hq h0 h1
  have HNF := Aside0.mk hn
  clear hn
  have e1_ : E0.toList = [] := by rw [ByteArray.toList_eq]; rfl
  go_enter Try.func8, Try.ntmps8
  go_wp2_with (first
    | (go_at_call 13; go_must (refine (New_no _ _ l0 _ HR0.out HNF.out).mono ?_; rintro e w1 ⟨rfl, hb⟩; have HBn := Aside0.mk (below_step HB.out hb); clear HB; have HB := HBn; clear HBn; clear hb))
    | (go_at_call 18; go_must (refine (RNew_no _ _ l0 _ (Kd.C_below HR0.out HB.out) HC0.out HNF.out).mono ?_; rintro e w2 ⟨rfl, hb⟩; have HBn := Aside0.mk (below_step HB.out hb); clear HB; have HB := HBn; clear HBn; clear hb)))
  go_loopg [9, 10, 11, 12, 13, 14, 15, 16, 17, 18, 19, 20, 21] l1.length (fun kq v9 v10 v11 v12 v13 v14 v15 v16 v17 v18 v19 v20 v21 wr => ∃ (K : Nat), v9 = .int .i64 (K : Int) ∧ Aside0 (K ≤ l1.length ∧ kq = l1.length - K) ∧ Aside0 (Below w.heap.size w wr))
  case atStart => exact ⟨0, rfl, ⟨by simp⟩, HB⟩
  case round =>
    clear HB
    obtain ⟨K, rfl, HK, HB⟩ := hrel
    by_cases c1' : K < l1.length
    · obtain ⟨ad, rfl, hcell⟩ := step_at HR1.out K c1'
      have hqs := HQ.out _ (List.getElem_mem c1')
      obtain ⟨⟨kd, iv, s⟩, hx⟩ : ∃ x, l1[K] = x := ⟨_, rfl⟩
      rw [hx] at hcell hqs
      have HCE := Aside0.mk hcell
      have HQS := Aside0.mk (show s.size ≤ maxLen from hqs)
      obtain ⟨e0, e1, e2⟩ := hcell wr HB.out
      have HL2 := Aside0.mk c1'
      have hk1 : wrap64 ((K : Int) + 1) = (K : Int) + 1 := by have := HL1.out; unfold wrap64; omega
      have d6 : decide ((K : Int) < (l1.length : Int)) = true := decide_eq_true (by omega)
      have d7 : decide (K < l1.length) = true := decide_eq_true c1'
      have c2 := eq_true (show (K : Int) < (l1.length : Int) from by omega)
      replace c1' := eq_true c1'
      clear hx hcell hqs
      by_cases k0 : kd = 0
      · subst k0
        go_wp2_with (first
          | (go_at_call 17; (with_reducible refine (Add_nil s _).mono ?_); rintro e w3 ⟨rfl, rfl⟩)
          | (go_at_call 20; (with_reducible refine (RAdd_nil s _).mono ?_); rintro e w3 ⟨rfl, rfl⟩)
          | (go_at_call 16; (with_reducible refine (Find_nil s _).mono ?_); rintro e w3 ⟨rfl, rfl⟩)
          | (go_at_call 21; (with_reducible refine (RFind_nil s _).mono ?_); rintro e w3 ⟨rfl, rfl⟩)
          | (go_at_call 15; (with_reducible refine (Name_nil iv _).mono ?_); rintro e w3 ⟨rfl, rfl⟩)
          | (go_at_call 22; (with_reducible refine (RName_nil iv _).mono ?_); rintro e w3 ⟨rfl, rfl⟩)
          | (go_at_call 14; (with_reducible refine (Len_nil _).mono ?_); rintro e w3 ⟨rfl, rfl⟩)
          | (go_at_call 23; (with_reducible refine (RLen_nil _).mono ?_); rintro e w3 ⟨rfl, rfl⟩))
        go_roundg (l1.length - (K + 1))
        case measure => have := HK.out; have := HL2.out; omega
        case rel => exact ⟨K + 1, by first | rfl | simp [hk1], ⟨by have := HK.out; have := HL2.out; omega⟩, HB⟩
      · have q0 : (kd == 0) = false := by simpa using k0
        by_cases k1 : kd = 1
        · subst k1
          go_wp2_with (first
            | (go_at_call 17; (with_reducible refine (Add_nil s _).mono ?_); rintro e w3 ⟨rfl, rfl⟩)
            | (go_at_call 20; (with_reducible refine (RAdd_nil s _).mono ?_); rintro e w3 ⟨rfl, rfl⟩)
            | (go_at_call 16; (with_reducible refine (Find_nil s _).mono ?_); rintro e w3 ⟨rfl, rfl⟩)
            | (go_at_call 21; (with_reducible refine (RFind_nil s _).mono ?_); rintro e w3 ⟨rfl, rfl⟩)
            | (go_at_call 15; (with_reducible refine (Name_nil iv _).mono ?_); rintro e w3 ⟨rfl, rfl⟩)
            | (go_at_call 22; (with_reducible refine (RName_nil iv _).mono ?_); rintro e w3 ⟨rfl, rfl⟩)
            | (go_at_call 14; (with_reducible refine (Len_nil _).mono ?_); rintro e w3 ⟨rfl, rfl⟩)
            | (go_at_call 23; (with_reducible refine (RLen_nil _).mono ?_); rintro e w3 ⟨rfl, rfl⟩))
          go_roundg (l1.length - (K + 1))
          case measure => have := HK.out; have := HL2.out; omega
          case rel => exact ⟨K + 1, by first | rfl | simp [hk1], ⟨by have := HK.out; have := HL2.out; omega⟩, HB⟩
        · have q1 : (kd == 1) = false := by simpa using k1
          by_cases k2 : kd = 2
          · subst k2
            go_wp2_with (first
              | (go_at_call 17; (with_reducible refine (Add_nil s _).mono ?_); rintro e w3 ⟨rfl, rfl⟩)
              | (go_at_call 20; (with_reducible refine (RAdd_nil s _).mono ?_); rintro e w3 ⟨rfl, rfl⟩)
              | (go_at_call 16; (with_reducible refine (Find_nil s _).mono ?_); rintro e w3 ⟨rfl, rfl⟩)
              | (go_at_call 21; (with_reducible refine (RFind_nil s _).mono ?_); rintro e w3 ⟨rfl, rfl⟩)
              | (go_at_call 15; (with_reducible refine (Name_nil iv _).mono ?_); rintro e w3 ⟨rfl, rfl⟩)
              | (go_at_call 22; (with_reducible refine (RName_nil iv _).mono ?_); rintro e w3 ⟨rfl, rfl⟩)
              | (go_at_call 14; (with_reducible refine (Len_nil _).mono ?_); rintro e w3 ⟨rfl, rfl⟩)
              | (go_at_call 23; (with_reducible refine (RLen_nil _).mono ?_); rintro e w3 ⟨rfl, rfl⟩))
            go_roundg (l1.length - (K + 1))
            case measure => have := HK.out; have := HL2.out; omega
            case rel => exact ⟨K + 1, by first | rfl | simp [hk1], ⟨by have := HK.out; have := HL2.out; omega⟩, HB⟩
          · have q2 : (kd == 2) = false := by simpa using k2
            go_wp2_with (first
              | (go_at_call 17; (with_reducible refine (Add_nil s _).mono ?_); rintro e w3 ⟨rfl, rfl⟩)
              | (go_at_call 20; (with_reducible refine (RAdd_nil s _).mono ?_); rintro e w3 ⟨rfl, rfl⟩)
              | (go_at_call 16; (with_reducible refine (Find_nil s _).mono ?_); rintro e w3 ⟨rfl, rfl⟩)
              | (go_at_call 21; (with_reducible refine (RFind_nil s _).mono ?_); rintro e w3 ⟨rfl, rfl⟩)
              | (go_at_call 15; (with_reducible refine (Name_nil iv _).mono ?_); rintro e w3 ⟨rfl, rfl⟩)
              | (go_at_call 22; (with_reducible refine (RName_nil iv _).mono ?_); rintro e w3 ⟨rfl, rfl⟩)
              | (go_at_call 14; (with_reducible refine (Len_nil _).mono ?_); rintro e w3 ⟨rfl, rfl⟩)
              | (go_at_call 23; (with_reducible refine (RLen_nil _).mono ?_); rintro e w3 ⟨rfl, rfl⟩))
            go_roundg (l1.length - (K + 1))
            case measure => have := HK.out; have := HL2.out; omega
            case rel => exact ⟨K + 1, by first | rfl | simp [hk1], ⟨by have := HK.out; have := HL2.out; omega⟩, HB⟩
    · have d6 : decide ((K : Int) < (l1.length : Int)) = false := decide_eq_false (by omega)
      have d7 : decide (K < l1.length) = false := decide_eq_false c1'
      clear c1'
      go_wp2_with (first
        | (go_at_call 24; (with_reducible refine (none_calls _).mono ?_); rintro e w4 ⟨rfl, hb⟩; have HBn := Aside0.mk (below_step HB.out hb); clear HB; have HB := HBn; clear HBn; clear hb)
        | (go_at_call 12; (with_reducible refine (awake_calls _).mono ?_); rintro e w9 ⟨rfl, hb⟩; have HBn := Aside0.mk (below_step HB.out hb); clear HB; have HB := HBn; clear HBn hb))
      go_ret
      exact ⟨rfl, HB.out⟩
set_option maxHeartbeats 2000000 in
set_option maxRecDepth 100000 in
theorem Plays_ok (A0 : Option Addr) (c0 : Nat) (l0 : List ByteArray) (A1 : Option Addr) (c1 : Nat) (l1 : List (Int × Int × ByteArray)) (w : World) (hr0 : Kd.C Kd.string w A0 l0.length l0) (hc0 : l0.length ≤ c0) (hr1 : Kd.C kStep w A1 l1.length l1) (hq : ∀ x ∈ l1, x.2.2.size ≤ maxLen) (h0 : l0.length ≤ 40) (h1 : l1.length ≤ 60) (hn : (newF l0).1 = 0) :
    Calls Try.prog 8 #[.slice A0 l0.length c0, .slice A1 l1.length c1] w fun e w' => e = .returned (.bool true) ∧ Below w.heap.size w w' := by
  have HR0 := Aside0.mk hr0
  have HC0 := Aside0.mk hc0
  have HR1 := Aside0.mk hr1
  have HQ := Aside0.mk hq
  have HB := Aside0.mk (Below.refl w.heap.size w)
  have d1 : decide ((40 : Int) < (l0.length : Int)) = false := decide_eq_false (by omega)
  have d2 : decide ((60 : Int) < (l1.length : Int)) = false := decide_eq_false (by omega)
  have HL1 := Aside0.mk h1
  clear hr0 hc0 hr1 hq h0 h1
  have HNF := Aside0.mk hn
  clear hn
  go_enter Try.func8, Try.ntmps8
  go_wp2_with (first
    | (go_at_call 13; go_must (refine (New_ok _ _ l0 _ HR0.out HNF.out).mono ?_; rintro e w1 ⟨g, rfl, hT, hb⟩; have HT1 := Aside0.mk hT; have HB1 := Aside0.mk hb; have HBn := Aside0.mk (below_step HB.out hb); clear HB; have HB := HBn; clear HBn; clear hb hT))
    | (go_at_call 18; go_must (refine (RNew_ok _ _ l0 _ (Kd.C_below HR0.out HB.out) HC0.out HNF.out).mono ?_; rintro e w2 ⟨gr, rfl, hT, hb⟩; have HT := Aside0.mk (Two.start HT1.out HB1.out hT hb); have HBn := Aside0.mk (below_step HB.out hb); clear HB; have HB := HBn; clear HBn; clear hb hT HT1 HB1)))
  have HGD := Aside0.mk (show l0.all validB = true ∧ l0.Nodup from ⟨(newF_ok HNF.out).2.2.1, (newF_ok HNF.out).2.2.2⟩)
  go_loopg [9, 10, 11, 12, 13, 14, 15, 16, 17, 18, 19, 20, 21] l1.length (fun kq v9 v10 v11 v12 v13 v14 v15 v16 v17 v18 v19 v20 v21 wr => ∃ (K : Nat) (ns : List ByteArray), v9 = .int .i64 (K : Int) ∧ Aside0 (K ≤ l1.length ∧ kq = l1.length - K) ∧ Aside0 (Two wr w.heap.size g gr ns ns) ∧ Aside0 (ns.all validB = true ∧ ns.Nodup) ∧ Aside0 (Below w.heap.size w wr))
  case atStart => exact ⟨0, l0, rfl, ⟨by simp⟩, HT, HGD, HB⟩
  case round =>
    clear HB HT HGD
    obtain ⟨K, ns, rfl, HK, HT, HGD, HB⟩ := hrel
    by_cases c1' : K < l1.length
    · obtain ⟨ad, rfl, hcell⟩ := step_at HR1.out K c1'
      have hqs := HQ.out _ (List.getElem_mem c1')
      obtain ⟨⟨kd, iv, s⟩, hx⟩ : ∃ x, l1[K] = x := ⟨_, rfl⟩
      rw [hx] at hcell hqs
      have HCE := Aside0.mk hcell
      have HQS := Aside0.mk (show s.size ≤ maxLen from hqs)
      obtain ⟨e0, e1, e2⟩ := hcell wr HB.out
      have HL2 := Aside0.mk c1'
      have hk1 : wrap64 ((K : Int) + 1) = (K : Int) + 1 := by have := HL1.out; unfold wrap64; omega
      have d6 : decide ((K : Int) < (l1.length : Int)) = true := decide_eq_true (by omega)
      have d7 : decide (K < l1.length) = true := decide_eq_true c1'
      have c2 := eq_true (show (K : Int) < (l1.length : Int) from by omega)
      replace c1' := eq_true c1'
      clear hx hcell hqs
      by_cases k0 : kd = 0
      · subst k0
        obtain ⟨y1, y2, y3, hadd⟩ : ∃ y1 y2 y3, addF ns s = (y1, y2, y3) := ⟨_, _, _, rfl⟩
        have HAD := Aside0.mk hadd
        clear hadd
        go_wp2_with (first
          | (go_at_call 17; go_must (refine (HT.out.add s).mono ?_; rw [HAD.out]; rintro e w3 ⟨rfl, ht, hb⟩; have HTn := Aside0.mk ht; have HBn := Aside0.mk (HB.out.trans hb); clear HT HB ht hb e0 e1 e2; have HT := HTn; have HB := HBn; clear HTn HBn; obtain ⟨e0, e1, e2⟩ := HCE.out w3 HB.out))
          | (go_at_call 20; go_must (refine (HT.out.radd s).mono ?_; rw [HAD.out]; rintro e w4 ⟨rfl, ht, hb⟩; have HTn := Aside0.mk ht; have HBn := Aside0.mk (HB.out.trans hb); clear HT HB ht hb e0 e1 e2; have HT := HTn; have HB := HBn; clear HTn HBn))
          | (go_at_call 14; go_must (refine HT.out.len.mono ?_; rintro e w5 ⟨rfl, rfl⟩))
          | (go_at_call 23; go_must (refine HT.out.rlen.mono ?_; rintro e w5 ⟨rfl, rfl⟩)))
        go_roundg (l1.length - (K + 1))
        case measure => have := HK.out; have := HL2.out; omega
        case rel => exact ⟨K + 1, y3, by first | rfl | simp [hk1], ⟨by have := HK.out; have := HL2.out; omega⟩, HT, ⟨by have h := addF_good (s := s) HGD.out.1 HGD.out.2; rw [HAD.out] at h; exact h⟩, HB⟩
      · have q0 : (kd == 0) = false := by simpa using k0
        by_cases k1 : kd = 1
        · subst k1
          obtain ⟨y1, hy1⟩ : ∃ y : Int, (((idx s ns).getD 0 : Nat) : Int) = y := ⟨_, rfl⟩
          obtain ⟨y2, hy2⟩ : ∃ y : Bool, (idx s ns).isSome = y := ⟨_, rfl⟩
          have HQ1 := Aside0.mk hy1
          have HQ2 := Aside0.mk hy2
          clear hy1 hy2
          go_wp2_with (first
            | (go_at_call 16; go_must (refine (HT.out.find HQS.out).mono ?_; rw [HQ1.out, HQ2.out]; rintro e w3 ⟨rfl, rfl⟩))
            | (go_at_call 21; go_must (refine (HT.out.rfind s).mono ?_; rw [HQ1.out, HQ2.out]; rintro e w4 ⟨rfl, hb⟩; have HTn := Aside0.mk (HT.out.below hb); have HBn := Aside0.mk (below_step HB.out hb); clear HT HB hb e0 e1 e2; have HT := HTn; have HB := HBn; clear HTn HBn))
            | (go_at_call 14; go_must (refine HT.out.len.mono ?_; rintro e w5 ⟨rfl, rfl⟩))
            | (go_at_call 23; go_must (refine HT.out.rlen.mono ?_; rintro e w5 ⟨rfl, rfl⟩)))
          go_roundg (l1.length - (K + 1))
          case measure => have := HK.out; have := HL2.out; omega
          case rel => exact ⟨K + 1, ns, by first | rfl | simp [hk1], ⟨by have := HK.out; have := HL2.out; omega⟩, HT, HGD, HB⟩
        · have q1 : (kd == 1) = false := by simpa using k1
          by_cases k2 : kd = 2
          · subst k2
            obtain ⟨y1, y2, hy1⟩ : ∃ y1 y2, nameF ns iv = (y1, y2) := ⟨_, _, rfl⟩
            have HQ1 := Aside0.mk hy1
            clear hy1
            go_wp2_with (first
              | (go_at_call 15; go_must (refine (HT.out.name iv).mono ?_; rw [HQ1.out]; rintro e w3 ⟨rfl, rfl⟩))
              | (go_at_call 22; go_must (refine (HT.out.rname iv).mono ?_; rw [HQ1.out]; rintro e w4 ⟨rfl, rfl⟩))
              | (go_at_call 14; go_must (refine HT.out.len.mono ?_; rintro e w5 ⟨rfl, rfl⟩))
              | (go_at_call 23; go_must (refine HT.out.rlen.mono ?_; rintro e w5 ⟨rfl, rfl⟩)))
            go_roundg (l1.length - (K + 1))
            case measure => have := HK.out; have := HL2.out; omega
            case rel => exact ⟨K + 1, ns, by first | rfl | simp [hk1], ⟨by have := HK.out; have := HL2.out; omega⟩, HT, HGD, HB⟩
          · have q2 : (kd == 2) = false := by simpa using k2
            go_wp2_with (first
              | (go_at_call 14; go_must (refine HT.out.len.mono ?_; rintro e w5 ⟨rfl, rfl⟩))
              | (go_at_call 23; go_must (refine HT.out.rlen.mono ?_; rintro e w5 ⟨rfl, rfl⟩)))
            go_roundg (l1.length - (K + 1))
            case measure => have := HK.out; have := HL2.out; omega
            case rel => exact ⟨K + 1, ns, by first | rfl | simp [hk1], ⟨by have := HK.out; have := HL2.out; omega⟩, HT, HGD, HB⟩
    · have d6 : decide ((K : Int) < (l1.length : Int)) = false := decide_eq_false (by omega)
      have d7 : decide (K < l1.length) = false := decide_eq_false c1'
      obtain ⟨Ar, cr, cr0, hsame⟩ := HT.out.same HGD.out.1 HGD.out.2
      have HSA := Aside0.mk hsame
      clear c1' hsame
      go_wp2_with (first
        | (go_at_call 19; (with_reducible refine HSA.out.mono ?_); rintro e w4 ⟨rfl, hb⟩; have HBn := Aside0.mk (below_step HB.out hb); clear HB; have HB := HBn; clear HBn; clear hb)
        | (go_at_call 12; (with_reducible refine (awake_calls _).mono ?_); rintro e w9 ⟨rfl, hb⟩; have HBn := Aside0.mk (below_step HB.out hb); clear HB; have HB := HBn; clear HBn hb))
      go_ret
      exact ⟨rfl, HB.out⟩
theorem IdentPlays_calls (A0 : Option Addr) (c0 : Nat) (l0 : List ByteArray) (A1 : Option Addr) (c1 : Nat) (l1 : List (Int × Int × ByteArray)) (w : World) (hr0 : Kd.C Kd.string w A0 l0.length l0) (hc0 : l0.length ≤ c0) (hr1 : Kd.C kStep w A1 l1.length l1) (hq : ∀ x ∈ l1, x.2.2.size ≤ maxLen) :
    Calls Try.prog 8 #[.slice A0 l0.length c0, .slice A1 l1.length c1] w fun e w' => e = .returned (.bool true) ∧ Below w.heap.size w w' := by
  by_cases h : 40 < l0.length
  · exact Plays_big1 A0 c0 l0 A1 c1 l1 w hr0 hc0 hr1 hq h
  · by_cases h1 : 60 < l1.length
    · exact Plays_big2 A0 c0 l0 A1 c1 l1 w hr0 hc0 hr1 hq (by omega) h1
    · by_cases hn : (newF l0).1 = 0
      · exact Plays_ok A0 c0 l0 A1 c1 l1 w hr0 hc0 hr1 hq (by omega) (by omega) hn
      · exact Plays_nil A0 c0 l0 A1 c1 l1 w hr0 hc0 hr1 hq (by omega) (by omega) hn
end Go.Proofs.Ytoleenfipnbjkaa.Tab
