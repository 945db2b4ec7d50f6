/- Find and Name are inverse to each other, and the indices are those from 0 to Len - 1. -/
import Derived.Test.YtoleenfipnbjkaaT10
namespace Go.Proofs.Ytoleenfipnbjkaa.Tab
open Go.RowKit Go.Maps Go.Proofs.Ytoleenfipnbjkaa.PX Go.Proofs.YtoleenfipnbjkaaW.PrintWords Go.Proofs.YtoleenfipnbjkaaW.PrintLast Go.Proofs.YtoleenfipnbjkaaW.PrintMore
set_option linter.unusedVariables false
set_option linter.unusedSimpArgs false
/-- Is s one of the first names? -/
def inB (s : ByteArray) (l : List ByteArray) : Bool := l.any (fun x => decide (x = s))
theorem inB_nil (s : ByteArray) : inB s [] = false := rfl
theorem inB_snoc (s x : ByteArray) (l : List ByteArray) : inB s (l ++ [x]) = (inB s l || decide (x = s)) := by unfold inB; simp
theorem inB_mem (s : ByteArray) (l : List ByteArray) : inB s l = (idx s l).isSome := by unfold inB; rw [Bool.eq_iff_iff, idx_mem]; simp
theorem tl_ne {y s : ByteArray} (h : ¬ y = s) : ¬ y.toList = s.toList := by rw [ByteArray.toList_eq, ByteArray.toList_eq]; exact fun e => h (Go.WideShapes.bytes_inj e)
theorem take_rd (l : List ByteArray) (k : Nat) (h : k < l.length) : l.take (k + 1) = l.take k ++ [rdOf ByteArray.empty l (k : Int)] := by
  rw [List.take_succ_eq_append_getElem h]
  simp [rdOf, List.getElem?_eq_getElem h]
set_option maxHeartbeats 400000 in
theorem Table_big (A0 : Option Addr) (c0 : Nat) (l0 : List ByteArray) (s : ByteArray) (i : Int) (w : World) (h : 60 < l0.length) :
    Calls Try.prog 4 #[.slice A0 l0.length c0, .string s, .int .i64 i] w fun e w' => e = .returned (.bool true) ∧ Below w.heap.size w w' := by
  have HB := Aside0.mk (Below.refl w.heap.size w)
  have d1 : decide ((60 : Int) < (l0.length : Int)) = true := decide_eq_true (by omega)
  clear h
  go_enter Try.func4, Try.ntmps4
  go_wp2_with (first | (go_at_call 12; (with_reducible refine (awake_calls _).mono ?_); rintro e w9 ⟨rfl, hb⟩; have HBn := Aside0.mk (below_step HB.out hb); clear HB; have HB := HBn; clear HBn hb))
  go_ret
  exact ⟨rfl, HB.out⟩
set_option maxHeartbeats 400000 in
theorem Table_err (A0 : Option Addr) (c0 : Nat) (l0 : List ByteArray) (s : ByteArray) (i : Int) (w : World) (hr0 : Kd.C Kd.string w A0 l0.length l0) (h : l0.length ≤ 60) (hn : ¬ (newF l0).1 = 0) :
    Calls Try.prog 4 #[.slice A0 l0.length c0, .string s, .int .i64 i] w fun e w' => e = .returned (.bool true) ∧ Below w.heap.size w w' := by
  have HB := Aside0.mk (Below.refl w.heap.size w)
  have d1 : decide ((60 : Int) < (l0.length : Int)) = false := decide_eq_false (by omega)
  have HN := Aside0.mk (New_no A0 c0 l0 w hr0 hn)
  have d2 : ((newF l0).1 != 0) = true := by simpa using hn
  generalize (newF l0).1 = c at HN d2
  clear h hn hr0
  go_enter Try.func4, Try.ntmps4
  go_wp2_with (first | (go_at_call 13; (with_reducible refine HN.out.mono ?_); rintro e w1 ⟨rfl, hb⟩; have HBn := Aside0.mk (below_step HB.out hb); clear HB; have HB := HBn; clear HBn hb) | (go_at_call 12; (with_reducible refine (awake_calls _).mono ?_); rintro e w9 ⟨rfl, hb⟩; have HBn := Aside0.mk (below_step HB.out hb); clear HB; have HB := HBn; clear HBn hb))
  go_ret
  exact ⟨rfl, HB.out⟩
set_option maxHeartbeats 1000000 in
set_option maxRecDepth 100000 in
theorem Table_aa (A0 : Option Addr) (c0 : Nat) (l0 : List ByteArray) (s : ByteArray) (n : Nat) (x : ByteArray) (hx : l0[n]? = some x) (w : World) (hr0 : Kd.C Kd.string w A0 l0.length l0) (h : l0.length ≤ 60) (hs : s.size ≤ maxLen) (hn : (newF l0).1 = 0) (m : Nat) (hm : l0[m]? = some s) :
    Calls Try.prog 4 #[.slice A0 l0.length c0, .string s, .int .i64 (n : Int)] w fun e w' => e = .returned (.bool true) ∧ Below w.heap.size w w' := by
  have HB := Aside0.mk (Below.refl w.heap.size w)
  have d1 : decide ((60 : Int) < (l0.length : Int)) = false := decide_eq_false (by omega)
  have HN := Aside0.mk (New_ok A0 c0 l0 w hr0 hn)
  have HK := Aside0.mk (newF_ok hn)
  have HR0 := Aside0.mk hr0
  have HL := Aside0.mk h
  have HS := Aside0.mk hs
  have HX := Aside0.mk hx
  have HXI := Aside0.mk (idx_nodup HK.out.2.2.2 hx)
  have HXV := Aside0.mk (valid_max (List.all_eq_true.1 HK.out.2.2.1 x (List.mem_of_getElem? hx)))
  have hnl : n < l0.length := (List.getElem?_eq_some_iff.1 hx).1
  have d3 : decide ((n : Int) < (l0.length : Int)) = true := decide_eq_true (by omega)
  have d4 : decide (n < l0.length) = true := decide_eq_true hnl
  clear hx hnl
  have HMX := Aside0.mk hm
  have HMI := Aside0.mk (idx_nodup HK.out.2.2.2 hm)
  have HIN := Aside0.mk (show inB s l0 = true by rw [inB_mem, HMI.out]; rfl)
  clear hm
  go_enter Try.func4, Try.ntmps4
  go_wp2_with (first | (go_at_call 13; (with_reducible refine HN.out.mono ?_); rintro e w1 ⟨g, rfl, hT, hb⟩; have HT := Aside0.mk hT; have HBn := Aside0.mk (below_step HB.out hb); clear HB hT; have HB := HBn; clear HBn hb) | (go_at_call 14; (with_reducible refine (Len_calls _ g _ l0 _ HT.out).mono ?_); rintro e w2 ⟨rfl, rfl⟩) | (go_at_call 15; (with_reducible refine (Name_at HT.out HX.out).mono ?_); rintro e w2 ⟨rfl, rfl⟩) | (go_at_call 16; (with_reducible refine (Find_at HT.out HXV.out HXI.out).mono ?_); rintro e w2 ⟨rfl, rfl⟩) | (go_at_call 16; (with_reducible refine (Find_at HT.out HS.out HMI.out).mono ?_); rintro e w2 ⟨rfl, rfl⟩) | (go_at_call 15; (with_reducible refine (Name_at HT.out HMX.out).mono ?_); rintro e w2 ⟨rfl, rfl⟩))
  go_loopg [17, 18] l0.length (fun kq v17 v18 wr => ∃ (K : Nat), v18 = .int .i64 (K : Int) ∧ v17 = .bool (inB s (l0.take K)) ∧ Aside0 (K ≤ l0.length ∧ kq = l0.length - K) ∧ Aside0 (Below w.heap.size w wr))
  case atStart => exact ⟨0, rfl, rfl, ⟨by simp⟩, HB⟩
  case round =>
    clear HB
    obtain ⟨K, rfl, rfl, HK2, HB⟩ := hrel
    by_cases c1 : K < l0.length
    · obtain ⟨ad, rfl, hx⟩ := Kd.at_string (Kd.C_below HR0.out HB.out) (K : Int) (by omega) (by omega)
      simp only [Int.toNat_natCast] at hx
      have htk := take_rd l0 K c1
      generalize rdOf ByteArray.empty l0 (K : Int) = y at hx htk
      have HTK := Aside0.mk (show inB s (l0.take (K + 1)) = (inB s (l0.take K) || decide (y = s)) from by rw [htk, inB_snoc])
      have HL2 := Aside0.mk c1
      have hk1 : wrap64 ((K : Int) + 1) = (K : Int) + 1 := by have := HL.out; unfold wrap64; omega
      have d6 : decide ((K : Int) < (l0.length : Int)) = true := decide_eq_true (by omega)
      have d7 : decide (K < l0.length) = true := decide_eq_true c1
      have c2 := eq_true (show (K : Int) < (l0.length : Int) from by omega)
      replace c1 := eq_true c1
      clear htk
      generalize inB s (l0.take K) = b at HTK
      cases b
      all_goals
        by_cases hys : y = s
        all_goals
          have HYS := Aside0.mk hys
          first | subst hys | (have d8 : (y.toList == s.toList) = false := beq_eq_false_iff_ne.2 (tl_ne hys); have d9 : decide (y.toList = s.toList) = false := decide_eq_false (tl_ne hys))
          go_wp2
          go_roundg (l0.length - (K + 1))
          case measure => have := HK2.out; have := HL2.out; omega
          case rel => exact ⟨K + 1, by first | rfl | simp [hk1], by first | (rw [HTK.out]; done) | (rw [HTK.out]; simp [HYS.out]), ⟨by have := HK2.out; have := HL2.out; omega⟩, HB⟩
    · have hK : K = l0.length := by have := HK2.out; omega
      subst hK
      have hin : inB s (l0.take l0.length) = true := by rw [List.take_length]; exact HIN.out
      generalize inB s (l0.take l0.length) = b at hin
      subst hin
      clear c1
      go_wp2_with (first | (go_at_call 12; (with_reducible refine (awake_calls _).mono ?_); rintro e w9 ⟨rfl, hb⟩; have HBn := Aside0.mk (below_step HB.out hb); clear HB; have HB := HBn; clear HBn hb))
      go_ret
      exact ⟨rfl, HB.out⟩
set_option maxHeartbeats 1000000 in
set_option maxRecDepth 100000 in
theorem Table_an (A0 : Option Addr) (c0 : Nat) (l0 : List ByteArray) (s : ByteArray) (n : Nat) (x : ByteArray) (hx : l0[n]? = some x) (w : World) (hr0 : Kd.C Kd.string w A0 l0.length l0) (h : l0.length ≤ 60) (hs : s.size ≤ maxLen) (hn : (newF l0).1 = 0) (hm : s ∉ l0) :
    Calls Try.prog 4 #[.slice A0 l0.length c0, .string s, .int .i64 (n : Int)] w fun e w' => e = .returned (.bool true) ∧ Below w.heap.size w w' := by
  have HB := Aside0.mk (Below.refl w.heap.size w)
  have d1 : decide ((60 : Int) < (l0.length : Int)) = false := decide_eq_false (by omega)
  have HN := Aside0.mk (New_ok A0 c0 l0 w hr0 hn)
  have HK := Aside0.mk (newF_ok hn)
  have HR0 := Aside0.mk hr0
  have HL := Aside0.mk h
  have HS := Aside0.mk hs
  have HX := Aside0.mk hx
  have HXI := Aside0.mk (idx_nodup HK.out.2.2.2 hx)
  have HXV := Aside0.mk (valid_max (List.all_eq_true.1 HK.out.2.2.1 x (List.mem_of_getElem? hx)))
  have hnl : n < l0.length := (List.getElem?_eq_some_iff.1 hx).1
  have d3 : decide ((n : Int) < (l0.length : Int)) = true := decide_eq_true (by omega)
  have d4 : decide (n < l0.length) = true := decide_eq_true hnl
  clear hx hnl
  have HMI := Aside0.mk (idx_none.2 hm)
  have HIN := Aside0.mk (show inB s l0 = false by rw [inB_mem, HMI.out]; rfl)
  obtain ⟨q3, hq3⟩ : ∃ q : ByteArray × Bool, nameF l0 0 = q := ⟨_, rfl⟩
  have HQ3 := Aside0.mk hq3
  clear hm hq3
  go_enter Try.func4, Try.ntmps4
  go_wp2_with (first | (go_at_call 13; (with_reducible refine HN.out.mono ?_); rintro e w1 ⟨g, rfl, hT, hb⟩; have HT := Aside0.mk hT; have HBn := Aside0.mk (below_step HB.out hb); clear HB hT; have HB := HBn; clear HBn hb) | (go_at_call 14; (with_reducible refine (Len_calls _ g _ l0 _ HT.out).mono ?_); rintro e w2 ⟨rfl, rfl⟩) | (go_at_call 15; (with_reducible refine (Name_at HT.out HX.out).mono ?_); rintro e w2 ⟨rfl, rfl⟩) | (go_at_call 16; (with_reducible refine (Find_at HT.out HXV.out HXI.out).mono ?_); rintro e w2 ⟨rfl, rfl⟩) | (go_at_call 16; (with_reducible refine (Find_no HT.out HS.out HMI.out).mono ?_); rintro e w2 ⟨rfl, rfl⟩) | (go_at_call 15; (with_reducible refine (Name_calls _ g _ l0 0 _ HT.out).mono ?_); rw [HQ3.out]; rintro e w2 ⟨rfl, rfl⟩))
  go_loopg [17, 18] l0.length (fun kq v17 v18 wr => ∃ (K : Nat), v18 = .int .i64 (K : Int) ∧ v17 = .bool (inB s (l0.take K)) ∧ Aside0 (K ≤ l0.length ∧ kq = l0.length - K) ∧ Aside0 (Below w.heap.size w wr))
  case atStart => exact ⟨0, rfl, rfl, ⟨by simp⟩, HB⟩
  case round =>
    clear HB
    obtain ⟨K, rfl, rfl, HK2, HB⟩ := hrel
    by_cases c1 : K < l0.length
    · obtain ⟨ad, rfl, hx⟩ := Kd.at_string (Kd.C_below HR0.out HB.out) (K : Int) (by omega) (by omega)
      simp only [Int.toNat_natCast] at hx
      have htk := take_rd l0 K c1
      generalize rdOf ByteArray.empty l0 (K : Int) = y at hx htk
      have HTK := Aside0.mk (show inB s (l0.take (K + 1)) = (inB s (l0.take K) || decide (y = s)) from by rw [htk, inB_snoc])
      have HL2 := Aside0.mk c1
      have hk1 : wrap64 ((K : Int) + 1) = (K : Int) + 1 := by have := HL.out; unfold wrap64; omega
      have d6 : decide ((K : Int) < (l0.length : Int)) = true := decide_eq_true (by omega)
      have d7 : decide (K < l0.length) = true := decide_eq_true c1
      have c2 := eq_true (show (K : Int) < (l0.length : Int) from by omega)
      replace c1 := eq_true c1
      clear htk
      generalize inB s (l0.take K) = b at HTK
      cases b
      all_goals
        by_cases hys : y = s
        all_goals
          have HYS := Aside0.mk hys
          first | subst hys | (have d8 : (y.toList == s.toList) = false := beq_eq_false_iff_ne.2 (tl_ne hys); have d9 : decide (y.toList = s.toList) = false := decide_eq_false (tl_ne hys))
          go_wp2
          go_roundg (l0.length - (K + 1))
          case measure => have := HK2.out; have := HL2.out; omega
          case rel => exact ⟨K + 1, by first | rfl | simp [hk1], by first | (rw [HTK.out]; done) | (rw [HTK.out]; simp [HYS.out]), ⟨by have := HK2.out; have := HL2.out; omega⟩, HB⟩
    · have hK : K = l0.length := by have := HK2.out; omega
      subst hK
      have hin : inB s (l0.take l0.length) = false := by rw [List.take_length]; exact HIN.out
      generalize inB s (l0.take l0.length) = b at hin
      subst hin
      clear c1
      go_wp2_with (first | (go_at_call 12; (with_reducible refine (awake_calls _).mono ?_); rintro e w9 ⟨rfl, hb⟩; have HBn := Aside0.mk (below_step HB.out hb); clear HB; have HB := HBn; clear HBn hb))
      go_ret
      exact ⟨rfl, HB.out⟩
set_option maxHeartbeats 1000000 in
set_option maxRecDepth 100000 in
theorem Table_na (A0 : Option Addr) (c0 : Nat) (l0 : List ByteArray) (s : ByteArray) (i : Int) (hi : ¬ (0 ≤ i ∧ i < l0.length)) (w : World) (hr0 : Kd.C Kd.string w A0 l0.length l0) (h : l0.length ≤ 60) (hs : s.size ≤ maxLen) (hn : (newF l0).1 = 0) (m : Nat) (hm : l0[m]? = some s) :
    Calls Try.prog 4 #[.slice A0 l0.length c0, .string s, .int .i64 i] w fun e w' => e = .returned (.bool true) ∧ Below w.heap.size w w' := by
  have HB := Aside0.mk (Below.refl w.heap.size w)
  have d1 : decide ((60 : Int) < (l0.length : Int)) = false := decide_eq_false (by omega)
  have HN := Aside0.mk (New_ok A0 c0 l0 w hr0 hn)
  have HK := Aside0.mk (newF_ok hn)
  have HR0 := Aside0.mk hr0
  have HL := Aside0.mk h
  have HS := Aside0.mk hs
  have HI := Aside0.mk hi
  have d3 : (decide (0 ≤ i) = true ∧ decide (i < (l0.length : Int)) = false) ∨ decide (0 ≤ i) = false := by by_cases h0 : 0 ≤ i; (exact .inl ⟨decide_eq_true h0, decide_eq_false (fun h1 => hi ⟨h0, h1⟩)⟩); (exact .inr (decide_eq_false h0))
  have e1 : E0.toList = [] := by rw [ByteArray.toList_eq]; rfl
  have e2 : E0.toList.isEmpty = true := by rw [e1]; rfl
  have HE := Aside0.mk (show E0.size ≤ maxLen from by decide)
  obtain ⟨q1, hq1⟩ : ∃ q : Int, (((idx E0 l0).getD 0 : Nat) : Int) = q := ⟨_, rfl⟩
  obtain ⟨q2, hq2⟩ : ∃ q : Bool, (idx E0 l0).isSome = q := ⟨_, rfl⟩
  have HQ1 := Aside0.mk hq1
  have HQ2 := Aside0.mk hq2
  clear hi hq1 hq2
  have HMX := Aside0.mk hm
  have HMI := Aside0.mk (idx_nodup HK.out.2.2.2 hm)
  have HIN := Aside0.mk (show inB s l0 = true by rw [inB_mem, HMI.out]; rfl)
  clear hm
  rcases d3 with ⟨d3, d4⟩ | d3
  all_goals (
  go_enter Try.func4, Try.ntmps4
  go_wp2_with (first | (go_at_call 13; (with_reducible refine HN.out.mono ?_); rintro e w1 ⟨g, rfl, hT, hb⟩; have HT := Aside0.mk hT; have HBn := Aside0.mk (below_step HB.out hb); clear HB hT; have HB := HBn; clear HBn hb) | (go_at_call 14; (with_reducible refine (Len_calls _ g _ l0 _ HT.out).mono ?_); rintro e w2 ⟨rfl, rfl⟩) | (go_at_call 15; (with_reducible refine (Name_no HT.out HI.out).mono ?_); rintro e w2 ⟨rfl, rfl⟩) | (go_at_call 16; (with_reducible refine (Find_calls _ g _ l0 E0 HE.out _ HT.out).mono ?_); rw [HQ1.out, HQ2.out]; rintro e w2 ⟨rfl, rfl⟩) | (go_at_call 16; (with_reducible refine (Find_at HT.out HS.out HMI.out).mono ?_); rintro e w2 ⟨rfl, rfl⟩) | (go_at_call 15; (with_reducible refine (Name_at HT.out HMX.out).mono ?_); rintro e w2 ⟨rfl, rfl⟩))
  go_loopg [17, 18] l0.length (fun kq v17 v18 wr => ∃ (K : Nat), v18 = .int .i64 (K : Int) ∧ v17 = .bool (inB s (l0.take K)) ∧ Aside0 (K ≤ l0.length ∧ kq = l0.length - K) ∧ Aside0 (Below w.heap.size w wr))
  case atStart => exact ⟨0, rfl, rfl, ⟨by simp⟩, HB⟩
  case round =>
    clear HB
    obtain ⟨K, rfl, rfl, HK2, HB⟩ := hrel
    by_cases c1 : K < l0.length
    · obtain ⟨ad, rfl, hx⟩ := Kd.at_string (Kd.C_below HR0.out HB.out) (K : Int) (by omega) (by omega)
      simp only [Int.toNat_natCast] at hx
      have htk := take_rd l0 K c1
      generalize rdOf ByteArray.empty l0 (K : Int) = y at hx htk
      have HTK := Aside0.mk (show inB s (l0.take (K + 1)) = (inB s (l0.take K) || decide (y = s)) from by rw [htk, inB_snoc])
      have HL2 := Aside0.mk c1
      have hk1 : wrap64 ((K : Int) + 1) = (K : Int) + 1 := by have := HL.out; unfold wrap64; omega
      have d6 : decide ((K : Int) < (l0.length : Int)) = true := decide_eq_true (by omega)
      have d7 : decide (K < l0.length) = true := decide_eq_true c1
      have c2 := eq_true (show (K : Int) < (l0.length : Int) from by omega)
      replace c1 := eq_true c1
      clear htk
      generalize inB s (l0.take K) = b at HTK
      cases b
      all_goals
        by_cases hys : y = s
        all_goals
          have HYS := Aside0.mk hys
          first | subst hys | (have d8 : (y.toList == s.toList) = false := beq_eq_false_iff_ne.2 (tl_ne hys); have d9 : decide (y.toList = s.toList) = false := decide_eq_false (tl_ne hys))
          go_wp2
          go_roundg (l0.length - (K + 1))
          case measure => have := HK2.out; have := HL2.out; omega
          case rel => exact ⟨K + 1, by first | rfl | simp [hk1], by first | (rw [HTK.out]; done) | (rw [HTK.out]; simp [HYS.out]), ⟨by have := HK2.out; have := HL2.out; omega⟩, HB⟩
    · have hK : K = l0.length := by have := HK2.out; omega
      subst hK
      have hin : inB s (l0.take l0.length) = true := by rw [List.take_length]; exact HIN.out
      generalize inB s (l0.take l0.length) = b at hin
      subst hin
      clear c1
      go_wp2_with (first | (go_at_call 12; (with_reducible refine (awake_calls _).mono ?_); rintro e w9 ⟨rfl, hb⟩; have HBn := Aside0.mk (below_step HB.out hb); clear HB; have HB := HBn; clear HBn hb))
      go_ret
      exact ⟨rfl, HB.out⟩)
set_option maxHeartbeats 1000000 in
set_option maxRecDepth 100000 in
theorem Table_nn (A0 : Option Addr) (c0 : Nat) (l0 : List ByteArray) (s : ByteArray) (i : Int) (hi : ¬ (0 ≤ i ∧ i < l0.length)) (w : World) (hr0 : Kd.C Kd.string w A0 l0.length l0) (h : l0.length ≤ 60) (hs : s.size ≤ maxLen) (hn : (newF l0).1 = 0) (hm : s ∉ l0) :
    Calls Try.prog 4 #[.slice A0 l0.length c0, .string s, .int .i64 i] w fun e w' => e = .returned (.bool true) ∧ Below w.heap.size w w' := by
  have HB := Aside0.mk (Below.refl w.heap.size w)
  have d1 : decide ((60 : Int) < (l0.length : Int)) = false := decide_eq_false (by omega)
  have HN := Aside0.mk (New_ok A0 c0 l0 w hr0 hn)
  have HK := Aside0.mk (newF_ok hn)
  have HR0 := Aside0.mk hr0
  have HL := Aside0.mk h
  have HS := Aside0.mk hs
  have HI := Aside0.mk hi
  have d3 : (decide (0 ≤ i) = true ∧ decide (i < (l0.length : Int)) = false) ∨ decide (0 ≤ i) = false := by by_cases h0 : 0 ≤ i; (exact .inl ⟨decide_eq_true h0, decide_eq_false (fun h1 => hi ⟨h0, h1⟩)⟩); (exact .inr (decide_eq_false h0))
  have e1 : E0.toList = [] := by rw [ByteArray.toList_eq]; rfl
  have e2 : E0.toList.isEmpty = true := by rw [e1]; rfl
  have HE := Aside0.mk (show E0.size ≤ maxLen from by decide)
  obtain ⟨q1, hq1⟩ : ∃ q : Int, (((idx E0 l0).getD 0 : Nat) : Int) = q := ⟨_, rfl⟩
  obtain ⟨q2, hq2⟩ : ∃ q : Bool, (idx E0 l0).isSome = q := ⟨_, rfl⟩
  have HQ1 := Aside0.mk hq1
  have HQ2 := Aside0.mk hq2
  clear hi hq1 hq2
  have HMI := Aside0.mk (idx_none.2 hm)
  have HIN := Aside0.mk (show inB s l0 = false by rw [inB_mem, HMI.out]; rfl)
  obtain ⟨q3, hq3⟩ : ∃ q : ByteArray × Bool, nameF l0 0 = q := ⟨_, rfl⟩
  have HQ3 := Aside0.mk hq3
  clear hm hq3
  rcases d3 with ⟨d3, d4⟩ | d3
  all_goals (
  go_enter Try.func4, Try.ntmps4
  go_wp2_with (first | (go_at_call 13; (with_reducible refine HN.out.mono ?_); rintro e w1 ⟨g, rfl, hT, hb⟩; have HT := Aside0.mk hT; have HBn := Aside0.mk (below_step HB.out hb); clear HB hT; have HB := HBn; clear HBn hb) | (go_at_call 14; (with_reducible refine (Len_calls _ g _ l0 _ HT.out).mono ?_); rintro e w2 ⟨rfl, rfl⟩) | (go_at_call 15; (with_reducible refine (Name_no HT.out HI.out).mono ?_); rintro e w2 ⟨rfl, rfl⟩) | (go_at_call 16; (with_reducible refine (Find_calls _ g _ l0 E0 HE.out _ HT.out).mono ?_); rw [HQ1.out, HQ2.out]; rintro e w2 ⟨rfl, rfl⟩) | (go_at_call 16; (with_reducible refine (Find_no HT.out HS.out HMI.out).mono ?_); rintro e w2 ⟨rfl, rfl⟩) | (go_at_call 15; (with_reducible refine (Name_calls _ g _ l0 0 _ HT.out).mono ?_); rw [HQ3.out]; rintro e w2 ⟨rfl, rfl⟩))
  go_loopg [17, 18] l0.length (fun kq v17 v18 wr => ∃ (K : Nat), v18 = .int .i64 (K : Int) ∧ v17 = .bool (inB s (l0.take K)) ∧ Aside0 (K ≤ l0.length ∧ kq = l0.length - K) ∧ Aside0 (Below w.heap.size w wr))
  case atStart => exact ⟨0, rfl, rfl, ⟨by simp⟩, HB⟩
  case round =>
    clear HB
    obtain ⟨K, rfl, rfl, HK2, HB⟩ := hrel
    by_cases c1 : K < l0.length
    · obtain ⟨ad, rfl, hx⟩ := Kd.at_string (Kd.C_below HR0.out HB.out) (K : Int) (by omega) (by omega)
      simp only [Int.toNat_natCast] at hx
      have htk := take_rd l0 K c1
      generalize rdOf ByteArray.empty l0 (K : Int) = y at hx htk
      have HTK := Aside0.mk (show inB s (l0.take (K + 1)) = (inB s (l0.take K) || decide (y = s)) from by rw [htk, inB_snoc])
      have HL2 := Aside0.mk c1
      have hk1 : wrap64 ((K : Int) + 1) = (K : Int) + 1 := by have := HL.out; unfold wrap64; omega
      have d6 : decide ((K : Int) < (l0.length : Int)) = true := decide_eq_true (by omega)
      have d7 : decide (K < l0.length) = true := decide_eq_true c1
      have c2 := eq_true (show (K : Int) < (l0.length : Int) from by omega)
      replace c1 := eq_true c1
      clear htk
      generalize inB s (l0.take K) = b at HTK
      cases b
      all_goals
        by_cases hys : y = s
        all_goals
          have HYS := Aside0.mk hys
          first | subst hys | (have d8 : (y.toList == s.toList) = false := beq_eq_false_iff_ne.2 (tl_ne hys); have d9 : decide (y.toList = s.toList) = false := decide_eq_false (tl_ne hys))
          go_wp2
          go_roundg (l0.length - (K + 1))
          case measure => have := HK2.out; have := HL2.out; omega
          case rel => exact ⟨K + 1, by first | rfl | simp [hk1], by first | (rw [HTK.out]; done) | (rw [HTK.out]; simp [HYS.out]), ⟨by have := HK2.out; have := HL2.out; omega⟩, HB⟩
    · have hK : K = l0.length := by have := HK2.out; omega
      subst hK
      have hin : inB s (l0.take l0.length) = false := by rw [List.take_length]; exact HIN.out
      generalize inB s (l0.take l0.length) = b at hin
      subst hin
      clear c1
      go_wp2_with (first | (go_at_call 12; (with_reducible refine (awake_calls _).mono ?_); rintro e w9 ⟨rfl, hb⟩; have HBn := Aside0.mk (below_step HB.out hb); clear HB; have HB := HBn; clear HBn hb))
      go_ret
      exact ⟨rfl, HB.out⟩)
end Go.Proofs.Ytoleenfipnbjkaa.Tab
namespace Go.Proofs.Ytoleenfipnbjkaa.Tab
open Go.RowKit Go.Maps Go.Proofs.YtoleenfipnbjkaaW.PrintWords
theorem IdentTable_calls (A0 : Option Addr) (c0 : Nat) (l0 : List ByteArray) (s : ByteArray) (i : Int) (w : World) (hr0 : Kd.C Kd.string w A0 l0.length l0) (hs : s.size ≤ maxLen) :
    Calls Try.prog 4 #[.slice A0 l0.length c0, .string s, .int .i64 i] w fun e w' => e = .returned (.bool true) ∧ Below w.heap.size w w' := by
  by_cases h : 60 < l0.length
  · exact Table_big A0 c0 l0 s i w h
  · by_cases hn : (newF l0).1 = 0
    · have hsm : s ∈ l0 → ∃ m, l0[m]? = some s := fun hm => by
        obtain ⟨m, hm, he⟩ := List.mem_iff_getElem.1 hm
        exact ⟨m, by rw [List.getElem?_eq_getElem hm, he]⟩
      by_cases hi : 0 ≤ i ∧ i < l0.length
      · obtain ⟨n, rfl⟩ : ∃ n : Nat, i = (n : Int) := ⟨i.toNat, by omega⟩
        have hx : l0[n]? = some (l0[n]'(by omega)) := List.getElem?_eq_getElem _
        by_cases hm : s ∈ l0
        · obtain ⟨m, hm⟩ := hsm hm
          exact Table_aa A0 c0 l0 s n _ hx w hr0 (by omega) hs hn m hm
        · exact Table_an A0 c0 l0 s n _ hx w hr0 (by omega) hs hn hm
      · by_cases hm : s ∈ l0
        · obtain ⟨m, hm⟩ := hsm hm
          exact Table_na A0 c0 l0 s i hi w hr0 (by omega) hs hn m hm
        · exact Table_nn A0 c0 l0 s i hi w hr0 (by omega) hs hn hm
    · exact Table_err A0 c0 l0 s i w hr0 (by omega) hn
end Go.Proofs.Ytoleenfipnbjkaa.Tab
