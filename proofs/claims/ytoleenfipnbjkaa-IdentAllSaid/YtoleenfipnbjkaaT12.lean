/- A table that New makes of names is the one that an empty table becomes when they are added; adding a name changes no index. -/
import Derived.Test.YtoleenfipnbjkaaT11
namespace Go.Proofs.Ytoleenfipnbjkaa.Tab
open Go.RowKit Go.Maps Go.Proofs.Ytoleenfipnbjkaa.PX Go.Proofs.YtoleenfipnbjkaaW.PrintWords Go.Proofs.YtoleenfipnbjkaaW.PrintLast Go.Proofs.YtoleenfipnbjkaaW.PrintMore
set_option linter.unusedVariables false
set_option linter.unusedSimpArgs false
theorem New_empty (w : World) : Calls Try.prog 13 #[.slice none 0 0] w fun e w' => ∃ g, e = .returned (.tuple #[.pointer (some ⟨g, 0, none⟩), .int .i64 0]) ∧ TabI w' w.heap.size g (fun k => w.heap.size ≤ k) [] ∧ Below w.heap.size w w' := by
  obtain ⟨A, c, hv, _, hc⟩ := Kd.R_reads (Kd.R_nil Kd.string 9 w 0 (fun _ => True))
  cases hv
  exact New_ok none 0 [] w hc (by kernel_rfl)
theorem take_get (l : List ByteArray) (k : Nat) (h : k < l.length) : l[k]? = some (rdOf ByteArray.empty l (k : Int)) := by
  rw [List.getElem?_eq_getElem h]
  simp [rdOf, List.getElem?_eq_getElem h]
/-- A name of a list of names that are valid and different, added behind those ahead of it. -/
theorem addF_next {l : List ByteArray} (hv : l.all validB = true) (hn : l.Nodup) (hl : l.length ≤ 512) {k : Nat} {s : ByteArray} (hk : l[k]? = some s) : addF (l.take k) s = ((k : Int), 0, l.take (k + 1)) := by
  have hlt := (List.getElem?_eq_some_iff.1 hk).1
  have hs : s ∉ l.take k := by
    intro hm
    obtain ⟨j, hj, he⟩ := List.mem_iff_getElem.1 hm
    rw [List.length_take] at hj
    rw [List.getElem_take] at he
    have h1 := idx_nodup hn (i := j) (s := s) (by rw [List.getElem?_eq_getElem (by omega), he])
    have h2 := idx_nodup hn hk
    rw [h1] at h2
    injection h2 with h2
    omega
  rw [addF_new (List.all_eq_true.1 hv s (List.mem_of_getElem? hk)) hs (by rw [List.length_take]; omega)]
  rw [List.length_take, Nat.min_eq_left (by omega), List.take_succ_eq_append_getElem hlt]
  rw [List.getElem?_eq_getElem hlt] at hk
  injection hk with hk
  rw [hk]
set_option maxHeartbeats 400000 in
theorem Grows_big (A0 : Option Addr) (c0 : Nat) (l0 : List ByteArray) (s : ByteArray) (w : World) (h : 60 < l0.length) :
    Calls Try.prog 5 #[.slice A0 l0.length c0, .string s] w fun e w' => e = .returned (.bool true) ∧ Below w.heap.size w w' := by
  have HB := Aside0.mk (Below.refl w.heap.size w)
  have d1 : decide ((60 : Int) < (l0.length : Int)) = true := decide_eq_true (by omega)
  clear h
  go_enter Try.func5, Try.ntmps5
  go_wp2_with (first | (go_at_call 12; (with_reducible refine (awake_calls _).mono ?_); rintro e w9 ⟨rfl, hb⟩; have HBn := Aside0.mk (below_step HB.out hb); clear HB; have HB := HBn; clear HBn hb))
  go_ret
  exact ⟨rfl, HB.out⟩
set_option maxHeartbeats 1000000 in
set_option maxRecDepth 100000 in
theorem Grows_err (A0 : Option Addr) (c0 : Nat) (l0 : List ByteArray) (s : ByteArray) (w : World) (hr0 : Kd.C Kd.string w A0 l0.length l0) (h : l0.length ≤ 60) (hs : s.size ≤ maxLen) (hn : ¬ (newF l0).1 = 0) :
    Calls Try.prog 5 #[.slice A0 l0.length c0, .string s] w fun e w' => e = .returned (.bool true) ∧ Below w.heap.size w w' := by
  have HB := Aside0.mk (Below.refl w.heap.size w)
  have d1 : decide ((60 : Int) < (l0.length : Int)) = false := decide_eq_false (by omega)
  have HR0 := Aside0.mk hr0
  have HL := Aside0.mk h
  have HS := Aside0.mk hs
  have HNN := Aside0.mk hn
  have HN := Aside0.mk (New_no A0 c0 l0 w hr0 hn)
  have d2 : ((newF l0).1 == 0) = false := by simpa using hn
  have d3 : ((newF l0).1 != 0) = true := by simpa using hn
  generalize (newF l0).1 = c at HN d2 d3
  clear h hn hr0
  go_enter Try.func5, Try.ntmps5
  go_wp2_with (first | (go_at_call 13; (with_reducible refine HN.out.mono ?_); rintro e w1 ⟨rfl, hb⟩; have HBn := Aside0.mk (below_step HB.out hb); clear HB; have HB := HBn; clear HBn hb) | (go_at_call 13; (with_reducible refine (New_empty _).mono ?_); rintro e w2 ⟨gu, rfl, hT, hb⟩; have HU := Aside0.mk hT; have HS2 := Aside0.mk HB.out.size; have HBn := Aside0.mk (below_step HB.out hb); clear HB hT; have HB := HBn; clear HBn hb))
  go_loopg [9, 10, 11, 12] l0.length (fun kq v9 v10 v11 v12 wr => ∃ (K : Nat) (b : Bool) (acc : List ByteArray), v10 = .int .i64 (K : Int) ∧ v9 = .bool b ∧ Aside0 (K ≤ l0.length ∧ kq = l0.length - K) ∧ Aside0 (b = true → acc = l0.take K ∧ (l0.take K).Nodup ∧ (l0.take K).all validB = true) ∧ Aside0 (TabI wr w1.heap.size gu (fun k => w1.heap.size ≤ k) acc) ∧ Aside0 (Below w.heap.size w wr))
  case atStart => exact ⟨0, true, [], rfl, rfl, ⟨by simp⟩, ⟨fun _ => ⟨by simp, by simp, by simp⟩⟩, HU, HB⟩
  case round =>
    clear HB HU
    obtain ⟨K, b, acc, rfl, rfl, HK2, HG, HU, HB⟩ := hrel
    by_cases c1 : K < l0.length
    · obtain ⟨ad, rfl, hx⟩ := Kd.at_string (Kd.C_below HR0.out HB.out) (K : Int) (by omega) (by omega)
      simp only [Int.toNat_natCast] at hx
      have htg := take_get l0 K c1
      generalize rdOf ByteArray.empty l0 (K : Int) = y at hx htg
      have HTG := Aside0.mk htg
      have HL2 := Aside0.mk c1
      have hk1 : wrap64 ((K : Int) + 1) = (K : Int) + 1 := by have := HL.out; unfold wrap64; omega
      have d6 : decide ((K : Int) < (l0.length : Int)) = true := decide_eq_true (by omega)
      have d7 : decide (K < l0.length) = true := decide_eq_true c1
      have c2 := eq_true (show (K : Int) < (l0.length : Int) from by omega)
      replace c1 := eq_true c1
      clear htg
      cases b
      · obtain ⟨y1, y2, y3, hadd⟩ : ∃ y1 y2 y3, addF acc y = (y1, y2, y3) := ⟨_, _, _, rfl⟩
        have HAD := Aside0.mk hadd
        clear hadd HG
        go_wp2_with (first | (go_at_call 17; go_must (refine (Add_calls _ gu _ acc y _ HU.out (fun k hk => by have := HU.out.lt; omega)).mono ?_; rw [HAD.out]; rintro e w3 ⟨rfl, ht2, hb2, _⟩; have HU2 := Aside0.mk ht2; have HB2 := Aside0.mk (HB.out.trans (hb2.mono HS2.out)); clear HU HB hx ht2 hb2)))
        go_roundg (l0.length - (K + 1))
        case measure => have := HK2.out; have := HL2.out; omega
        case rel => exact ⟨K + 1, false, y3, by first | rfl | simp [hk1], rfl, ⟨by have := HK2.out; have := HL2.out; omega⟩, ⟨fun h => by cases h⟩, HU2, HB2⟩
      · obtain ⟨rfl, hnd, hva⟩ := HG.out rfl
        have HND := Aside0.mk hnd
        have HVA := Aside0.mk hva
        clear HG hnd hva
        by_cases hvy : validB y = true
        · by_cases hmy : y ∈ l0.take K
          · have HAD := Aside0.mk (addF_there hvy hmy)
            clear hvy hmy
            generalize hacc : l0.take K = acc at HU HAD
            clear hacc
            go_wp2_with (first | (go_at_call 17; go_must (refine (Add_calls _ gu _ acc y _ HU.out (fun k hk => by have := HU.out.lt; omega)).mono ?_; rw [HAD.out]; rintro e w3 ⟨rfl, ht2, hb2, _⟩; have HU2 := Aside0.mk ht2; have HB2 := Aside0.mk (HB.out.trans (hb2.mono HS2.out)); clear HU HB hx ht2 hb2)))
            go_roundg (l0.length - (K + 1))
            case measure => have := HK2.out; have := HL2.out; omega
            case rel => exact ⟨K + 1, false, acc, by first | rfl | simp [hk1], rfl, ⟨by have := HK2.out; have := HL2.out; omega⟩, ⟨fun h => by cases h⟩, HU2, HB2⟩
          · have htk : l0.take (K + 1) = l0.take K ++ [y] := by rw [List.take_succ_eq_append_getElem HL2.out]; have := HTG.out; rw [List.getElem?_eq_getElem HL2.out] at this; injection this with this; rw [this]
            have HG2 := Aside0.mk (show (l0.take (K + 1)).Nodup ∧ (l0.take (K + 1)).all validB = true from by rw [htk, List.nodup_append, List.all_append, HVA.out]; exact ⟨⟨HND.out, by simp, fun a ha b hb e => hmy (by simp at hb; rw [← hb, ← e]; exact ha)⟩, by simp [hvy]⟩)
            have HAD := Aside0.mk (show addF (l0.take K) y = ((K : Int), 0, l0.take (K + 1)) from by rw [addF_new hvy hmy (by have := HL.out; rw [List.length_take]; omega), htk, List.length_take, Nat.min_eq_left (Nat.le_of_lt HL2.out)])
            clear hvy hmy htk
            generalize hacc : l0.take K = acc at HU HAD
            clear hacc
            go_wp2_with (first | (go_at_call 17; go_must (refine (Add_calls _ gu _ acc y _ HU.out (fun k hk => by have := HU.out.lt; omega)).mono ?_; rw [HAD.out]; rintro e w3 ⟨rfl, ht2, hb2, _⟩; have HU2 := Aside0.mk ht2; have HB2 := Aside0.mk (HB.out.trans (hb2.mono HS2.out)); clear HU HB hx ht2 hb2)))
            go_roundg (l0.length - (K + 1))
            case measure => have := HK2.out; have := HL2.out; omega
            case rel => exact ⟨K + 1, true, _, by first | rfl | simp [hk1], rfl, ⟨by have := HK2.out; have := HL2.out; omega⟩, ⟨fun _ => ⟨rfl, HG2.out⟩⟩, HU2, HB2⟩
        · have HAD := Aside0.mk (addF_bad (acc := l0.take K) (show validB y = false by simpa using hvy))
          clear hvy
          generalize hacc : l0.take K = acc at HU HAD
          clear hacc
          go_wp2_with (first | (go_at_call 17; go_must (refine (Add_calls _ gu _ acc y _ HU.out (fun k hk => by have := HU.out.lt; omega)).mono ?_; rw [HAD.out]; rintro e w3 ⟨rfl, ht2, hb2, _⟩; have HU2 := Aside0.mk ht2; have HB2 := Aside0.mk (HB.out.trans (hb2.mono HS2.out)); clear HU HB hx ht2 hb2)))
          go_roundg (l0.length - (K + 1))
          case measure => have := HK2.out; have := HL2.out; omega
          case rel => exact ⟨K + 1, false, acc, by first | rfl | simp [hk1], rfl, ⟨by have := HK2.out; have := HL2.out; omega⟩, ⟨fun h => by cases h⟩, HU2, HB2⟩
    · have hK : K = l0.length := by have := HK2.out; omega
      have hb : b = false := by
        cases b with
        | false => rfl
        | true =>
          obtain ⟨_, h1, h2⟩ := HG.out rfl
          rw [hK, List.take_length] at h1 h2
          exact absurd (show (newF l0).1 = 0 by rw [newF_spec, if_neg (by have := HL.out; omega), if_neg (by simp [h2]), if_pos h1]) HNN.out
      subst hb
      have d7 : decide ((K : Int) < (l0.length : Int)) = false := decide_eq_false (by omega)
      have d8 : decide (K < l0.length) = false := decide_eq_false (by omega)
      clear c1 hK HG
      go_wp2_with (first | (go_at_call 12; (with_reducible refine (awake_calls _).mono ?_); rintro e w9 ⟨rfl, hb⟩; have HBn := Aside0.mk (below_step HB.out hb); clear HB; have HB := HBn; clear HBn hb))
      go_ret
      exact ⟨rfl, HB.out⟩
set_option maxHeartbeats 1000000 in
set_option maxRecDepth 100000 in
theorem Grows_bad (A0 : Option Addr) (c0 : Nat) (l0 : List ByteArray) (s : ByteArray) (w : World) (hr0 : Kd.C Kd.string w A0 l0.length l0) (h : l0.length ≤ 60) (hs : s.size ≤ maxLen) (hn : (newF l0).1 = 0) (hv : validB s = false) :
    Calls Try.prog 5 #[.slice A0 l0.length c0, .string s] w fun e w' => e = .returned (.bool true) ∧ Below w.heap.size w w' := by
  have HB := Aside0.mk (Below.refl w.heap.size w)
  have d1 : decide ((60 : Int) < (l0.length : Int)) = false := decide_eq_false (by omega)
  have HR0 := Aside0.mk hr0
  have HL := Aside0.mk h
  have HS := Aside0.mk hs
  have HN := Aside0.mk (New_ok A0 c0 l0 w hr0 hn)
  have HK := Aside0.mk (newF_ok hn)
  have HAD := Aside0.mk (addF_bad (acc := l0) hv)
  have HF := Aside0.mk (idx_none.2 (show s ∉ l0 from fun hm => by rw [List.all_eq_true.1 HK.out.2.2.1 s hm] at hv; cases hv))
  clear h hn hr0 hs
  go_enter Try.func5, Try.ntmps5
  go_wp2_with (first | (go_at_call 13; (with_reducible refine HN.out.mono ?_); rintro e w1 ⟨g, rfl, hT, hb⟩; have HT := Aside0.mk (hT.narrow (F' := fun k => k < w1.heap.size) (fun k hk _ => hk)); have HBn := Aside0.mk (below_step HB.out hb); clear HB hT; have HB := HBn; clear HBn hb) | (go_at_call 13; (with_reducible refine (New_empty _).mono ?_); rintro e w2 ⟨gu, rfl, hT, hb⟩; have HU := Aside0.mk hT; have HTn := Aside0.mk (HT.out.below hb); clear HT; have HT := HTn; clear HTn; have HS2 := Aside0.mk HB.out.size; have HBn := Aside0.mk (below_step HB.out hb); clear HB hT; have HB := HBn; clear HBn hb))
  go_loopg [9, 10, 11, 12] l0.length (fun kq v9 v10 v11 v12 wr => ∃ (K : Nat), v10 = .int .i64 (K : Int) ∧ v9 = .bool true ∧ Aside0 (K ≤ l0.length ∧ kq = l0.length - K) ∧ Aside0 (TabI wr w1.heap.size gu (fun k => w1.heap.size ≤ k) (l0.take K)) ∧ Aside0 (TabI wr w.heap.size g (fun k => k < w1.heap.size) l0) ∧ Aside0 (Below w.heap.size w wr))
  case atStart => exact ⟨0, rfl, rfl, ⟨by simp⟩, HU, HT, HB⟩
  case round =>
    clear HB HU HT
    obtain ⟨K, rfl, rfl, HK2, HU, HT, HB⟩ := hrel
    by_cases c1 : K < l0.length
    · obtain ⟨ad, rfl, hx⟩ := Kd.at_string (Kd.C_below HR0.out HB.out) (K : Int) (by omega) (by omega)
      simp only [Int.toNat_natCast] at hx
      have htg := take_get l0 K c1
      generalize rdOf ByteArray.empty l0 (K : Int) = y at hx htg
      have HTG := Aside0.mk htg
      have HL2 := Aside0.mk c1
      have hk1 : wrap64 ((K : Int) + 1) = (K : Int) + 1 := by have := HL.out; unfold wrap64; omega
      have d6 : decide ((K : Int) < (l0.length : Int)) = true := decide_eq_true (by omega)
      have d7 : decide (K < l0.length) = true := decide_eq_true c1
      have c2 := eq_true (show (K : Int) < (l0.length : Int) from by omega)
      replace c1 := eq_true c1
      clear htg
      have HAD := Aside0.mk (addF_next HK.out.2.2.1 HK.out.2.2.2 HK.out.2.1 HTG.out)
      generalize hacc : l0.take K = acc at HU HAD
      clear hacc
      go_wp2_with (first | (go_at_call 17; go_must (refine (Add_calls _ gu _ acc y _ HU.out (fun k hk => by have := HU.out.lt; omega)).mono ?_; rw [HAD.out]; rintro e w3 ⟨rfl, ht2, hb2, _⟩; have HU2 := Aside0.mk ht2; have HT2 := Aside0.mk (HT.out.keep (fun k _ hk => hb2.block k hk)); have HB2 := Aside0.mk (HB.out.trans (hb2.mono HS2.out)); clear HU HB HT hx ht2 hb2)))
      go_roundg (l0.length - (K + 1))
      case measure => have := HK2.out; have := HL2.out; omega
      case rel => exact ⟨K + 1, by first | rfl | simp [hk1], rfl, ⟨by have := HK2.out; have := HL2.out; omega⟩, HU2, HT2, HB2⟩
    · have hK : K = l0.length := by have := HK2.out; omega
      subst hK
      have HUn := Aside0.mk (show TabI wr w1.heap.size gu (fun k => w1.heap.size ≤ k ∧ k < wr.heap.size) l0 from by have h := HU.out; rw [List.take_length] at h; exact h.narrow (fun k h1 h2 => ⟨h2, h1⟩))
      have HTn := Aside0.mk (HT.out.narrow (F' := fun k => k < w1.heap.size ∨ wr.heap.size ≤ k) (fun k _ h => .inl h))
      clear HU HT c1
      have HU := HUn
      have HT := HTn
      clear HUn HTn
      go_wp2_with (first
        | (go_at_call 17; go_must (refine (Add_calls _ g _ l0 s _ HT.out (fun k hk => .inr hk)).mono ?_; rw [HAD.out]; rintro e w3 ⟨rfl, ht2, hb2, hk2⟩; have HT2 := Aside0.mk ht2; have HU2 := Aside0.mk (HU.out.keep (fun k hlt hk => hk2.2 k hlt (fun h => by omega))); have HBn := Aside0.mk (HB.out.trans hb2); clear HU HB HT ht2 hb2 hk2; have HB := HBn; have HT := HT2; have HU := HU2; clear HBn HT2 HU2))
        | (go_at_call 16; (with_reducible refine (Find_no HU.out HS.out HF.out).mono ?_); rintro e w4 ⟨rfl, rfl⟩)
        | (go_at_call 10; (with_reducible refine (Valid_calls s _).mono ?_); rintro e w4 ⟨rfl, hb⟩; have HTn := Aside0.mk (HT.out.below hb); clear HT; have HT := HTn; clear HTn; have HBn := Aside0.mk (below_step HB.out hb); clear HB; have HB := HBn; clear HBn hb))
      go_loopg [17, 18, 19] l0.length (fun kq v17 v18 v19 wr5 => ∃ (K : Nat), v17 = .int .i64 (K : Int) ∧ Aside0 (K ≤ l0.length ∧ kq = l0.length - K) ∧ Aside0 (TabI wr5 w.heap.size g (fun k => k < w1.heap.size ∨ wr.heap.size ≤ k) (l0)) ∧ Aside0 (Below w.heap.size w wr5))
      case atStart => exact ⟨0, rfl, ⟨by simp⟩, HT, HB⟩
      case round =>
        clear HB HT HU
        obtain ⟨K, rfl, HK2, HT, HB⟩ := hrel
        by_cases c1 : K < l0.length
        · obtain ⟨ad, rfl, hx⟩ := Kd.at_string (Kd.C_below HR0.out HB.out) (K : Int) (by omega) (by omega)
          simp only [Int.toNat_natCast] at hx
          have htg := take_get l0 K c1
          generalize rdOf ByteArray.empty l0 (K : Int) = y at hx htg
          have HTG := Aside0.mk htg
          have HL2 := Aside0.mk c1
          have hk1 : wrap64 ((K : Int) + 1) = (K : Int) + 1 := by have := HL.out; unfold wrap64; omega
          have d6 : decide ((K : Int) < (l0.length : Int)) = true := decide_eq_true (by omega)
          have d7 : decide (K < l0.length) = true := decide_eq_true c1
          have c2 := eq_true (show (K : Int) < (l0.length : Int) from by omega)
          replace c1 := eq_true c1
          clear htg
          have HYI := Aside0.mk (show idx y (l0) = some K from idx_nodup HK.out.2.2.2 HTG.out)
          have HYV := Aside0.mk (valid_max (List.all_eq_true.1 HK.out.2.2.1 y (List.mem_of_getElem? HTG.out)))
          go_wp2_with (first | (go_at_call 16; (with_reducible refine (Find_at HT.out HYV.out HYI.out).mono ?_); rintro e w6 ⟨rfl, rfl⟩))
          go_roundg (l0.length - (K + 1))
          case measure => have := HK2.out; have := HL2.out; omega
          case rel => exact ⟨K + 1, by first | rfl | simp [hk1], ⟨by have := HK2.out; have := HL2.out; omega⟩, HT, HB⟩
        · have d7 : decide ((K : Int) < (l0.length : Int)) = false := decide_eq_false (by omega)
          have d8 : decide (K < l0.length) = false := decide_eq_false (by omega)
          clear c1
          go_wp2_with (first | (go_at_call 12; (with_reducible refine (awake_calls _).mono ?_); rintro e w9 ⟨rfl, hb⟩; have HBn := Aside0.mk (below_step HB.out hb); clear HB; have HB := HBn; clear HBn hb))
          go_ret
          exact ⟨rfl, HB.out⟩
set_option maxHeartbeats 1000000 in
set_option maxRecDepth 100000 in
theorem Grows_there (A0 : Option Addr) (c0 : Nat) (l0 : List ByteArray) (s : ByteArray) (w : World) (hr0 : Kd.C Kd.string w A0 l0.length l0) (h : l0.length ≤ 60) (hs : s.size ≤ maxLen) (hn : (newF l0).1 = 0) (hv : validB s = true) (m : Nat) (hm : l0[m]? = some s) :
    Calls Try.prog 5 #[.slice A0 l0.length c0, .string s] w fun e w' => e = .returned (.bool true) ∧ Below w.heap.size w w' := by
  have HB := Aside0.mk (Below.refl w.heap.size w)
  have d1 : decide ((60 : Int) < (l0.length : Int)) = false := decide_eq_false (by omega)
  have HR0 := Aside0.mk hr0
  have HL := Aside0.mk h
  have HS := Aside0.mk hs
  have HN := Aside0.mk (New_ok A0 c0 l0 w hr0 hn)
  have HK := Aside0.mk (newF_ok hn)
  have HAD := Aside0.mk (addF_there (acc := l0) hv (List.mem_of_getElem? hm))
  have HF := Aside0.mk (idx_nodup HK.out.2.2.2 hm)
  clear hm
  clear h hn hr0 hs
  go_enter Try.func5, Try.ntmps5
  go_wp2_with (first | (go_at_call 13; (with_reducible refine HN.out.mono ?_); rintro e w1 ⟨g, rfl, hT, hb⟩; have HT := Aside0.mk (hT.narrow (F' := fun k => k < w1.heap.size) (fun k hk _ => hk)); have HBn := Aside0.mk (below_step HB.out hb); clear HB hT; have HB := HBn; clear HBn hb) | (go_at_call 13; (with_reducible refine (New_empty _).mono ?_); rintro e w2 ⟨gu, rfl, hT, hb⟩; have HU := Aside0.mk hT; have HTn := Aside0.mk (HT.out.below hb); clear HT; have HT := HTn; clear HTn; have HS2 := Aside0.mk HB.out.size; have HBn := Aside0.mk (below_step HB.out hb); clear HB hT; have HB := HBn; clear HBn hb))
  go_loopg [9, 10, 11, 12] l0.length (fun kq v9 v10 v11 v12 wr => ∃ (K : Nat), v10 = .int .i64 (K : Int) ∧ v9 = .bool true ∧ Aside0 (K ≤ l0.length ∧ kq = l0.length - K) ∧ Aside0 (TabI wr w1.heap.size gu (fun k => w1.heap.size ≤ k) (l0.take K)) ∧ Aside0 (TabI wr w.heap.size g (fun k => k < w1.heap.size) l0) ∧ Aside0 (Below w.heap.size w wr))
  case atStart => exact ⟨0, rfl, rfl, ⟨by simp⟩, HU, HT, HB⟩
  case round =>
    clear HB HU HT
    obtain ⟨K, rfl, rfl, HK2, HU, HT, HB⟩ := hrel
    by_cases c1 : K < l0.length
    · obtain ⟨ad, rfl, hx⟩ := Kd.at_string (Kd.C_below HR0.out HB.out) (K : Int) (by omega) (by omega)
      simp only [Int.toNat_natCast] at hx
      have htg := take_get l0 K c1
      generalize rdOf ByteArray.empty l0 (K : Int) = y at hx htg
      have HTG := Aside0.mk htg
      have HL2 := Aside0.mk c1
      have hk1 : wrap64 ((K : Int) + 1) = (K : Int) + 1 := by have := HL.out; unfold wrap64; omega
      have d6 : decide ((K : Int) < (l0.length : Int)) = true := decide_eq_true (by omega)
      have d7 : decide (K < l0.length) = true := decide_eq_true c1
      have c2 := eq_true (show (K : Int) < (l0.length : Int) from by omega)
      replace c1 := eq_true c1
      clear htg
      have HAD := Aside0.mk (addF_next HK.out.2.2.1 HK.out.2.2.2 HK.out.2.1 HTG.out)
      generalize hacc : l0.take K = acc at HU HAD
      clear hacc
      go_wp2_with (first | (go_at_call 17; go_must (refine (Add_calls _ gu _ acc y _ HU.out (fun k hk => by have := HU.out.lt; omega)).mono ?_; rw [HAD.out]; rintro e w3 ⟨rfl, ht2, hb2, _⟩; have HU2 := Aside0.mk ht2; have HT2 := Aside0.mk (HT.out.keep (fun k _ hk => hb2.block k hk)); have HB2 := Aside0.mk (HB.out.trans (hb2.mono HS2.out)); clear HU HB HT hx ht2 hb2)))
      go_roundg (l0.length - (K + 1))
      case measure => have := HK2.out; have := HL2.out; omega
      case rel => exact ⟨K + 1, by first | rfl | simp [hk1], rfl, ⟨by have := HK2.out; have := HL2.out; omega⟩, HU2, HT2, HB2⟩
    · have hK : K = l0.length := by have := HK2.out; omega
      subst hK
      have HUn := Aside0.mk (show TabI wr w1.heap.size gu (fun k => w1.heap.size ≤ k ∧ k < wr.heap.size) l0 from by have h := HU.out; rw [List.take_length] at h; exact h.narrow (fun k h1 h2 => ⟨h2, h1⟩))
      have HTn := Aside0.mk (HT.out.narrow (F' := fun k => k < w1.heap.size ∨ wr.heap.size ≤ k) (fun k _ h => .inl h))
      clear HU HT c1
      have HU := HUn
      have HT := HTn
      clear HUn HTn
      go_wp2_with (first
        | (go_at_call 17; go_must (refine (Add_calls _ g _ l0 s _ HT.out (fun k hk => .inr hk)).mono ?_; rw [HAD.out]; rintro e w3 ⟨rfl, ht2, hb2, hk2⟩; have HT2 := Aside0.mk ht2; have HU2 := Aside0.mk (HU.out.keep (fun k hlt hk => hk2.2 k hlt (fun h => by omega))); have HBn := Aside0.mk (HB.out.trans hb2); clear HU HB HT ht2 hb2 hk2; have HB := HBn; have HT := HT2; have HU := HU2; clear HBn HT2 HU2))
        | (go_at_call 16; (with_reducible refine (Find_at HU.out HS.out HF.out).mono ?_); rintro e w4 ⟨rfl, rfl⟩)
        | (go_at_call 10; (with_reducible refine (Valid_calls s _).mono ?_); rintro e w4 ⟨rfl, hb⟩; have HTn := Aside0.mk (HT.out.below hb); clear HT; have HT := HTn; clear HTn; have HBn := Aside0.mk (below_step HB.out hb); clear HB; have HB := HBn; clear HBn hb))
      go_loopg [17, 18, 19] l0.length (fun kq v17 v18 v19 wr5 => ∃ (K : Nat), v17 = .int .i64 (K : Int) ∧ Aside0 (K ≤ l0.length ∧ kq = l0.length - K) ∧ Aside0 (TabI wr5 w.heap.size g (fun k => k < w1.heap.size ∨ wr.heap.size ≤ k) (l0)) ∧ Aside0 (Below w.heap.size w wr5))
      case atStart => exact ⟨0, rfl, ⟨by simp⟩, HT, HB⟩
      case round =>
        clear HB HT HU
        obtain ⟨K, rfl, HK2, HT, HB⟩ := hrel
        by_cases c1 : K < l0.length
        · obtain ⟨ad, rfl, hx⟩ := Kd.at_string (Kd.C_below HR0.out HB.out) (K : Int) (by omega) (by omega)
          simp only [Int.toNat_natCast] at hx
          have htg := take_get l0 K c1
          generalize rdOf ByteArray.empty l0 (K : Int) = y at hx htg
          have HTG := Aside0.mk htg
          have HL2 := Aside0.mk c1
          have hk1 : wrap64 ((K : Int) + 1) = (K : Int) + 1 := by have := HL.out; unfold wrap64; omega
          have d6 : decide ((K : Int) < (l0.length : Int)) = true := decide_eq_true (by omega)
          have d7 : decide (K < l0.length) = true := decide_eq_true c1
          have c2 := eq_true (show (K : Int) < (l0.length : Int) from by omega)
          replace c1 := eq_true c1
          clear htg
          have HYI := Aside0.mk (show idx y (l0) = some K from idx_nodup HK.out.2.2.2 HTG.out)
          have HYV := Aside0.mk (valid_max (List.all_eq_true.1 HK.out.2.2.1 y (List.mem_of_getElem? HTG.out)))
          go_wp2_with (first | (go_at_call 16; (with_reducible refine (Find_at HT.out HYV.out HYI.out).mono ?_); rintro e w6 ⟨rfl, rfl⟩))
          go_roundg (l0.length - (K + 1))
          case measure => have := HK2.out; have := HL2.out; omega
          case rel => exact ⟨K + 1, by first | rfl | simp [hk1], ⟨by have := HK2.out; have := HL2.out; omega⟩, HT, HB⟩
        · have d7 : decide ((K : Int) < (l0.length : Int)) = false := decide_eq_false (by omega)
          have d8 : decide (K < l0.length) = false := decide_eq_false (by omega)
          clear c1
          go_wp2_with (first | (go_at_call 12; (with_reducible refine (awake_calls _).mono ?_); rintro e w9 ⟨rfl, hb⟩; have HBn := Aside0.mk (below_step HB.out hb); clear HB; have HB := HBn; clear HBn hb))
          go_ret
          exact ⟨rfl, HB.out⟩
set_option maxHeartbeats 1000000 in
set_option maxRecDepth 100000 in
theorem Grows_new (A0 : Option Addr) (c0 : Nat) (l0 : List ByteArray) (s : ByteArray) (w : World) (hr0 : Kd.C Kd.string w A0 l0.length l0) (h : l0.length ≤ 60) (hs : s.size ≤ maxLen) (hn : (newF l0).1 = 0) (hv : validB s = true) (hm : s ∉ l0) :
    Calls Try.prog 5 #[.slice A0 l0.length c0, .string s] w fun e w' => e = .returned (.bool true) ∧ Below w.heap.size w w' := by
  have HB := Aside0.mk (Below.refl w.heap.size w)
  have d1 : decide ((60 : Int) < (l0.length : Int)) = false := decide_eq_false (by omega)
  have HR0 := Aside0.mk hr0
  have HL := Aside0.mk h
  have HS := Aside0.mk hs
  have HN := Aside0.mk (New_ok A0 c0 l0 w hr0 hn)
  have HK := Aside0.mk (newF_ok hn)
  have HAD := Aside0.mk (addF_new (acc := l0) hv hm (by omega))
  have HF := Aside0.mk (idx_none.2 hm)
  clear hm
  clear h hn hr0 hs
  go_enter Try.func5, Try.ntmps5
  go_wp2_with (first | (go_at_call 13; (with_reducible refine HN.out.mono ?_); rintro e w1 ⟨g, rfl, hT, hb⟩; have HT := Aside0.mk (hT.narrow (F' := fun k => k < w1.heap.size) (fun k hk _ => hk)); have HBn := Aside0.mk (below_step HB.out hb); clear HB hT; have HB := HBn; clear HBn hb) | (go_at_call 13; (with_reducible refine (New_empty _).mono ?_); rintro e w2 ⟨gu, rfl, hT, hb⟩; have HU := Aside0.mk hT; have HTn := Aside0.mk (HT.out.below hb); clear HT; have HT := HTn; clear HTn; have HS2 := Aside0.mk HB.out.size; have HBn := Aside0.mk (below_step HB.out hb); clear HB hT; have HB := HBn; clear HBn hb))
  go_loopg [9, 10, 11, 12] l0.length (fun kq v9 v10 v11 v12 wr => ∃ (K : Nat), v10 = .int .i64 (K : Int) ∧ v9 = .bool true ∧ Aside0 (K ≤ l0.length ∧ kq = l0.length - K) ∧ Aside0 (TabI wr w1.heap.size gu (fun k => w1.heap.size ≤ k) (l0.take K)) ∧ Aside0 (TabI wr w.heap.size g (fun k => k < w1.heap.size) l0) ∧ Aside0 (Below w.heap.size w wr))
  case atStart => exact ⟨0, rfl, rfl, ⟨by simp⟩, HU, HT, HB⟩
  case round =>
    clear HB HU HT
    obtain ⟨K, rfl, rfl, HK2, HU, HT, HB⟩ := hrel
    by_cases c1 : K < l0.length
    · obtain ⟨ad, rfl, hx⟩ := Kd.at_string (Kd.C_below HR0.out HB.out) (K : Int) (by omega) (by omega)
      simp only [Int.toNat_natCast] at hx
      have htg := take_get l0 K c1
      generalize rdOf ByteArray.empty l0 (K : Int) = y at hx htg
      have HTG := Aside0.mk htg
      have HL2 := Aside0.mk c1
      have hk1 : wrap64 ((K : Int) + 1) = (K : Int) + 1 := by have := HL.out; unfold wrap64; omega
      have d6 : decide ((K : Int) < (l0.length : Int)) = true := decide_eq_true (by omega)
      have d7 : decide (K < l0.length) = true := decide_eq_true c1
      have c2 := eq_true (show (K : Int) < (l0.length : Int) from by omega)
      replace c1 := eq_true c1
      clear htg
      have HAD := Aside0.mk (addF_next HK.out.2.2.1 HK.out.2.2.2 HK.out.2.1 HTG.out)
      generalize hacc : l0.take K = acc at HU HAD
      clear hacc
      go_wp2_with (first | (go_at_call 17; go_must (refine (Add_calls _ gu _ acc y _ HU.out (fun k hk => by have := HU.out.lt; omega)).mono ?_; rw [HAD.out]; rintro e w3 ⟨rfl, ht2, hb2, _⟩; have HU2 := Aside0.mk ht2; have HT2 := Aside0.mk (HT.out.keep (fun k _ hk => hb2.block k hk)); have HB2 := Aside0.mk (HB.out.trans (hb2.mono HS2.out)); clear HU HB HT hx ht2 hb2)))
      go_roundg (l0.length - (K + 1))
      case measure => have := HK2.out; have := HL2.out; omega
      case rel => exact ⟨K + 1, by first | rfl | simp [hk1], rfl, ⟨by have := HK2.out; have := HL2.out; omega⟩, HU2, HT2, HB2⟩
    · have hK : K = l0.length := by have := HK2.out; omega
      subst hK
      have HUn := Aside0.mk (show TabI wr w1.heap.size gu (fun k => w1.heap.size ≤ k ∧ k < wr.heap.size) l0 from by have h := HU.out; rw [List.take_length] at h; exact h.narrow (fun k h1 h2 => ⟨h2, h1⟩))
      have HTn := Aside0.mk (HT.out.narrow (F' := fun k => k < w1.heap.size ∨ wr.heap.size ≤ k) (fun k _ h => .inl h))
      clear HU HT c1
      have HU := HUn
      have HT := HTn
      clear HUn HTn
      go_wp2_with (first
        | (go_at_call 17; go_must (refine (Add_calls _ g _ l0 s _ HT.out (fun k hk => .inr hk)).mono ?_; rw [HAD.out]; rintro e w3 ⟨rfl, ht2, hb2, hk2⟩; have HT2 := Aside0.mk ht2; have HU2 := Aside0.mk (HU.out.keep (fun k hlt hk => hk2.2 k hlt (fun h => by omega))); have HBn := Aside0.mk (HB.out.trans hb2); clear HU HB HT ht2 hb2 hk2; have HB := HBn; have HT := HT2; have HU := HU2; clear HBn HT2 HU2))
        | (go_at_call 16; (with_reducible refine (Find_no HU.out HS.out HF.out).mono ?_); rintro e w4 ⟨rfl, rfl⟩)
        | (go_at_call 10; (with_reducible refine (Valid_calls s _).mono ?_); rintro e w4 ⟨rfl, hb⟩; have HTn := Aside0.mk (HT.out.below hb); clear HT; have HT := HTn; clear HTn; have HBn := Aside0.mk (below_step HB.out hb); clear HB; have HB := HBn; clear HBn hb))
      go_loopg [17, 18, 19] l0.length (fun kq v17 v18 v19 wr5 => ∃ (K : Nat), v17 = .int .i64 (K : Int) ∧ Aside0 (K ≤ l0.length ∧ kq = l0.length - K) ∧ Aside0 (TabI wr5 w.heap.size g (fun k => k < w1.heap.size ∨ wr.heap.size ≤ k) (l0 ++ [s])) ∧ Aside0 (Below w.heap.size w wr5))
      case atStart => exact ⟨0, rfl, ⟨by simp⟩, HT, HB⟩
      case round =>
        clear HB HT HU
        obtain ⟨K, rfl, HK2, HT, HB⟩ := hrel
        by_cases c1 : K < l0.length
        · obtain ⟨ad, rfl, hx⟩ := Kd.at_string (Kd.C_below HR0.out HB.out) (K : Int) (by omega) (by omega)
          simp only [Int.toNat_natCast] at hx
          have htg := take_get l0 K c1
          generalize rdOf ByteArray.empty l0 (K : Int) = y at hx htg
          have HTG := Aside0.mk htg
          have HL2 := Aside0.mk c1
          have hk1 : wrap64 ((K : Int) + 1) = (K : Int) + 1 := by have := HL.out; unfold wrap64; omega
          have d6 : decide ((K : Int) < (l0.length : Int)) = true := decide_eq_true (by omega)
          have d7 : decide (K < l0.length) = true := decide_eq_true c1
          have c2 := eq_true (show (K : Int) < (l0.length : Int) from by omega)
          replace c1 := eq_true c1
          clear htg
          have HYI := Aside0.mk (show idx y (l0 ++ [s]) = some K from (by rw [idx_snoc, idx_nodup HK.out.2.2.2 HTG.out]))
          have HYV := Aside0.mk (valid_max (List.all_eq_true.1 HK.out.2.2.1 y (List.mem_of_getElem? HTG.out)))
          go_wp2_with (first | (go_at_call 16; (with_reducible refine (Find_at HT.out HYV.out HYI.out).mono ?_); rintro e w6 ⟨rfl, rfl⟩))
          go_roundg (l0.length - (K + 1))
          case measure => have := HK2.out; have := HL2.out; omega
          case rel => exact ⟨K + 1, by first | rfl | simp [hk1], ⟨by have := HK2.out; have := HL2.out; omega⟩, HT, HB⟩
        · have d7 : decide ((K : Int) < (l0.length : Int)) = false := decide_eq_false (by omega)
          have d8 : decide (K < l0.length) = false := decide_eq_false (by omega)
          clear c1
          go_wp2_with (first | (go_at_call 12; (with_reducible refine (awake_calls _).mono ?_); rintro e w9 ⟨rfl, hb⟩; have HBn := Aside0.mk (below_step HB.out hb); clear HB; have HB := HBn; clear HBn hb))
          go_ret
          exact ⟨rfl, HB.out⟩
theorem IdentGrows_calls (A0 : Option Addr) (c0 : Nat) (l0 : List ByteArray) (s : ByteArray) (w : World) (hr0 : Kd.C Kd.string w A0 l0.length l0) (hs : s.size ≤ maxLen) :
    Calls Try.prog 5 #[.slice A0 l0.length c0, .string s] w fun e w' => e = .returned (.bool true) ∧ Below w.heap.size w w' := by
  by_cases h : 60 < l0.length
  · exact Grows_big A0 c0 l0 s w h
  · by_cases hn : (newF l0).1 = 0
    · cases hv : validB s with
      | false => exact Grows_bad A0 c0 l0 s w hr0 (by omega) hs hn hv
      | true =>
        by_cases hm : s ∈ l0
        · obtain ⟨m, hm, he⟩ := List.mem_iff_getElem.1 hm
          exact Grows_there A0 c0 l0 s w hr0 (by omega) hs hn hv m (by rw [List.getElem?_eq_getElem hm, he])
        · exact Grows_new A0 c0 l0 s w hr0 (by omega) hs hn hv hm
    · exact Grows_err A0 c0 l0 s w hr0 (by omega) hs hn
end Go.Proofs.Ytoleenfipnbjkaa.Tab
