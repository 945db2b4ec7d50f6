/- The reference's New. -/
import Derived.Test.YtoleenfipnbjkaaT17
namespace Go.Proofs.Ytoleenfipnbjkaa.Tab
open Go.RowKit Go.Maps Go.Proofs.Ytoleenfipnbjkaa.PX Go.Proofs.YtoleenfipnbjkaaW.PrintWords Go.Proofs.YtoleenfipnbjkaaW.PrintLast Go.Proofs.YtoleenfipnbjkaaW.PrintMore
set_option linter.unusedVariables false
set_option linter.unusedSimpArgs false
def RNewV (w0 : World) (c : Int) (names : List ByteArray) (v : Value) (w' : World) : Prop :=
  if c = 0 then ∃ g, v = .pointer (some ⟨g, 0, none⟩) ∧ RTabI w' w0.heap.size g (fun k => w0.heap.size ≤ k) names else v = .pointer none
theorem idx_le {l : List ByteArray} {K : Nat} {y : ByteArray} (h : l[K]? = some y) : ∃ j, idx y l = some j ∧ j ≤ K := by
  induction l generalizing K with
  | nil => simp at h
  | cons x l ih =>
    by_cases hx : x.data = y.data
    · exact ⟨0, by simp [idx, hx], Nat.zero_le _⟩
    · cases K with
      | zero => simp at h; exact absurd (by rw [h]) hx
      | succ K =>
        simp at h
        obtain ⟨j, hj, hle⟩ := ih h
        exact ⟨j + 1, by simp [idx, hx, hj], by omega⟩
theorem idx_first {l : List ByteArray} {j : Nat} {y : ByteArray} (h : idx y l = some j) : y ∉ l.take j := by
  induction l generalizing j with
  | nil => simp [idx] at h
  | cons x l ih =>
    by_cases hx : x.data = y.data
    · simp [idx, hx] at h; subst h; simp
    · simp only [idx, if_neg hx] at h
      obtain ⟨i, hi, rfl⟩ := Option.map_eq_some_iff.1 h
      rw [List.take_succ_cons, List.mem_cons]
      rintro (e | e)
      · exact hx (by rw [e])
      · exact ih hi e
theorem take_nodup {l : List ByteArray} {K : Nat} {y : ByteArray} (h : l[K]? = some y) (hn : (l.take K).Nodup) (hi : idx y l = some K) : (l.take (K + 1)).Nodup := by
  have hlt := (List.getElem?_eq_some_iff.1 h).1
  have he : l[K] = y := (List.getElem?_eq_some_iff.1 h).2
  rw [List.take_succ_eq_append_getElem hlt, he, List.nodup_append]
  exact ⟨hn, by simp, fun a ha b hb e => idx_first hi (by simp at hb; rw [← hb, ← e]; exact ha)⟩
theorem RNew_full (A0 : Option Addr) (c0 : Nat) (l0 : List ByteArray) (w : World) (hl : 512 < l0.length) :
    Calls Try.prog 18 #[.slice A0 l0.length c0] w fun e w' => e = .returned (.tuple #[.pointer none, .int .i64 8]) ∧ w' = w := by
  have d1 : decide ((512 : Int) < (l0.length : Int)) = true := decide_eq_true (by omega)
  clear hl
  go_enter Try.func18, Try.ntmps18
  go_wp2
  go_ret2
  exact ⟨rfl, rfl⟩
set_option maxHeartbeats 1000000 in
theorem RNew_bad (A0 : Option Addr) (c0 : Nat) (l0 : List ByteArray) (w : World) (hr0 : Kd.C Kd.string w A0 l0.length l0) (hc0 : l0.length ≤ c0) (hl : l0.length ≤ 512) (hv : l0.all validB = false) :
    Calls Try.prog 18 #[.slice A0 l0.length c0] w fun e w' => e = .returned (.tuple #[.pointer none, .int .i64 5]) ∧ Below w.heap.size w w' := by
  have d1 : decide ((512 : Int) < (l0.length : Int)) = false := decide_eq_false (by omega)
  have HR0 := Aside0.mk hr0
  have HC0 := Aside0.mk hc0
  have HL := Aside0.mk hl
  have HB0 := Aside0.mk (Below.refl w.heap.size w)
  have HV := Aside0.mk hv
  clear hl hv hr0 hc0
  go_enter Try.func18, Try.ntmps18
  go_wp2
  go_loopg [4] l0.length (fun kq v4 wr => ∃ (K : Nat), v4 = .int .i64 (K : Int) ∧ Aside0 (K ≤ l0.length ∧ kq = l0.length - K) ∧ Aside0 ((l0.drop K).all validB = false) ∧ Aside0 (Below w.heap.size w wr))
  case atStart => exact ⟨0, rfl, ⟨by simp⟩, ⟨by simpa using HV.out⟩, HB0⟩
  case round =>
    clear HB0
    obtain ⟨K, rfl, HK, HA, HB⟩ := hrel
    by_cases c1 : K < l0.length
    · obtain ⟨ad, rfl, hx⟩ := Kd.at_string (Kd.C_below HR0.out HB.out) (K : Int) (by omega) (by omega)
      simp only [Int.toNat_natCast] at hx
      have htg := take_get l0 K c1
      generalize rdOf ByteArray.empty l0 (K : Int) = y at hx htg
      have HTG := Aside0.mk htg
      have HL2 := Aside0.mk c1
      have hk1 : wrap64 ((K : Int) + 1) = (K : Int) + 1 := by have := HL.out; unfold wrap64; omega
      have d6 : decide ((K : Int) < (l0.length : Int)) = true := decide_eq_true (by omega)
      have d7 : decide (K < l0.length) = true := decide_eq_true c1
      have c2 := eq_true (show (K : Int) < (l0.length : Int) from by omega)
      replace c1 := eq_true c1
      clear htg
      have HD := Aside0.mk (show l0.drop K = y :: l0.drop (K + 1) from by rw [List.drop_eq_getElem_cons HL2.out]; have := HTG.out; rw [List.getElem?_eq_getElem HL2.out] at this; injection this with this; rw [this])
      by_cases hv : validB y = true
      · have HA3 := Aside0.mk (show (l0.drop (K + 1)).all validB = false from by have h := HA.out; rw [HD.out, List.all_cons, hv, Bool.true_and] at h; exact h)
        go_wp2_with (first | (go_at_call 11; (with_reducible refine (RValid_calls y _).mono ?_); rintro e w1 ⟨rfl, hb⟩; have HB1 := Aside0.mk (below_step HB.out hb); clear HB hb hx; have HB := HB1; clear HB1))
        go_roundg (l0.length - (K + 1))
        case measure => have := HK.out; have := HL2.out; omega
        case rel => exact ⟨K + 1, by first | rfl | simp [hk1], ⟨by have := HK.out; have := HL2.out; omega⟩, HA3, HB⟩
      · have hv' : validB y = false := by simpa using hv
        clear hv
        go_wp2_with (first | (go_at_call 11; (with_reducible refine (RValid_calls y _).mono ?_); rintro e w1 ⟨rfl, hb⟩; have HB1 := Aside0.mk (below_step HB.out hb); clear HB hb hx; have HB := HB1; clear HB1))
        go_ret2
        exact ⟨rfl, HB.out⟩
    · exfalso
      have h := HA.out
      rw [List.drop_eq_nil_of_le (by have := HK.out; omega)] at h
      cases h
set_option maxHeartbeats 1000000 in
theorem RNew_twice (A0 : Option Addr) (c0 : Nat) (l0 : List ByteArray) (w : World) (hr0 : Kd.C Kd.string w A0 l0.length l0) (hc0 : l0.length ≤ c0) (hl : l0.length ≤ 512) (hv : l0.all validB = true) (hn : ¬ l0.Nodup) :
    Calls Try.prog 18 #[.slice A0 l0.length c0] w fun e w' => e = .returned (.tuple #[.pointer none, .int .i64 6]) ∧ Below w.heap.size w w' := by
  have d1 : decide ((512 : Int) < (l0.length : Int)) = false := decide_eq_false (by omega)
  have HR0 := Aside0.mk hr0
  have HC0 := Aside0.mk hc0
  have HL := Aside0.mk hl
  have HB0 := Aside0.mk (Below.refl w.heap.size w)
  have HND := Aside0.mk hn
  clear hn
  have HV := Aside0.mk hv
  clear hl hv hr0 hc0
  go_enter Try.func18, Try.ntmps18
  go_wp2
  go_loopg [4] l0.length (fun kq v4 wr => ∃ (K : Nat), v4 = .int .i64 (K : Int) ∧ Aside0 (K ≤ l0.length ∧ kq = l0.length - K) ∧ Aside0 (Below w.heap.size w wr))
  case atStart => exact ⟨0, rfl, ⟨by simp⟩, HB0⟩
  case round =>
    clear HB0
    obtain ⟨K, rfl, HK, HB⟩ := hrel
    by_cases c1 : K < l0.length
    · obtain ⟨ad, rfl, hx⟩ := Kd.at_string (Kd.C_below HR0.out HB.out) (K : Int) (by omega) (by omega)
      simp only [Int.toNat_natCast] at hx
      have htg := take_get l0 K c1
      generalize rdOf ByteArray.empty l0 (K : Int) = y at hx htg
      have HTG := Aside0.mk htg
      have HL2 := Aside0.mk c1
      have hk1 : wrap64 ((K : Int) + 1) = (K : Int) + 1 := by have := HL.out; unfold wrap64; omega
      have d6 : decide ((K : Int) < (l0.length : Int)) = true := decide_eq_true (by omega)
      have d7 : decide (K < l0.length) = true := decide_eq_true c1
      have c2 := eq_true (show (K : Int) < (l0.length : Int) from by omega)
      replace c1 := eq_true c1
      clear htg
      have hv : validB y = true := List.all_eq_true.1 HV.out y (List.mem_of_getElem? HTG.out)
      go_wp2_with (first | (go_at_call 11; (with_reducible refine (RValid_calls y _).mono ?_); rintro e w1 ⟨rfl, hb⟩; have HB1 := Aside0.mk (below_step HB.out hb); clear HB hb hx; have HB := HB1; clear HB1))
      go_roundg (l0.length - (K + 1))
      case measure => have := HK.out; have := HL2.out; omega
      case rel => exact ⟨K + 1, by first | rfl | simp [hk1], ⟨by have := HK.out; have := HL2.out; omega⟩, HB⟩
    · have d6 : decide ((K : Int) < (l0.length : Int)) = false := decide_eq_false (by omega)
      have d7 : decide (K < l0.length) = false := decide_eq_false c1
      clear c1 HK
      go_wp2
      clear d6 d7
      go_loopg [5] l0.length (fun kq v5 wr => ∃ (K : Nat), v5 = .int .i64 (K : Int) ∧ Aside0 (K ≤ l0.length ∧ kq = l0.length - K) ∧ Aside0 ((l0.take K).Nodup) ∧ Aside0 (Below w.heap.size w wr))
      case atStart => exact ⟨0, rfl, ⟨by simp⟩, ⟨by simp⟩, HB⟩
      case round =>
        clear HB
        obtain ⟨K, rfl, HK, HN, HB⟩ := hrel
        by_cases c1 : K < l0.length
        · obtain ⟨ad, rfl, hx⟩ := Kd.at_string (Kd.C_below HR0.out HB.out) (K : Int) (by omega) (by omega)
          simp only [Int.toNat_natCast] at hx
          have htg := take_get l0 K c1
          generalize rdOf ByteArray.empty l0 (K : Int) = y at hx htg
          have HTG := Aside0.mk htg
          have HL2 := Aside0.mk c1
          have hk1 : wrap64 ((K : Int) + 1) = (K : Int) + 1 := by have := HL.out; unfold wrap64; omega
          have d6 : decide ((K : Int) < (l0.length : Int)) = true := decide_eq_true (by omega)
          have d7 : decide (K < l0.length) = true := decide_eq_true c1
          have c2 := eq_true (show (K : Int) < (l0.length : Int) from by omega)
          replace c1 := eq_true c1
          clear htg
          obtain ⟨j, hj, hjk⟩ := idx_le HTG.out
          have HF := Aside0.mk (show findI y l0 = (j : Int) by unfold findI; rw [hj])
          have HJ := Aside0.mk hj
          have HJK := Aside0.mk hjk
          clear hj
          by_cases hlt : j < K
          · have d8 : decide ((j : Int) < (K : Int)) = true := decide_eq_true (by omega)
            have d9 : decide (j < K) = true := decide_eq_true hlt
            clear hlt hjk
            go_wp2_with (first | (go_at_call 29; go_must (refine (RFind29 _ _ l0 y _ (Kd.C_below HR0.out HB.out) HC0.out (by have := HL.out; omega)).mono ?_; rw [HF.out]; rintro e w2 ⟨rfl, hb⟩; have HB1 := Aside0.mk (below_step HB.out hb); clear HB hb hx; have HB := HB1; clear HB1)))
            go_ret2
            exact ⟨rfl, HB.out⟩
          · obtain rfl : j = K := by omega
            have HN2 := Aside0.mk (take_nodup HTG.out HN.out HJ.out)
            have d8 : decide ((j : Int) < (j : Int)) = false := decide_eq_false (by omega)
            have d9 : decide (j < j) = false := decide_eq_false hlt
            clear hlt hjk
            go_wp2_with (first | (go_at_call 29; go_must (refine (RFind29 _ _ l0 y _ (Kd.C_below HR0.out HB.out) HC0.out (by have := HL.out; omega)).mono ?_; rw [HF.out]; rintro e w2 ⟨rfl, hb⟩; have HB1 := Aside0.mk (below_step HB.out hb); clear HB hb hx; have HB := HB1; clear HB1)))
            go_roundg (l0.length - (j + 1))
            case measure => have := HK.out; have := HL2.out; omega
            case rel => exact ⟨j + 1, by first | rfl | simp [hk1], ⟨by have := HK.out; have := HL2.out; omega⟩, HN2, HB⟩
        · exfalso
          have h := HN.out
          rw [List.take_of_length_le (by omega)] at h
          exact HND.out h
set_option maxHeartbeats 1000000 in
theorem RNew_good (A0 : Option Addr) (c0 : Nat) (l0 : List ByteArray) (w : World) (hr0 : Kd.C Kd.string w A0 l0.length l0) (hc0 : l0.length ≤ c0) (hl : l0.length ≤ 512) (hv : l0.all validB = true) (hn : l0.Nodup) :
    Calls Try.prog 18 #[.slice A0 l0.length c0] w fun e w' => ∃ g, e = .returned (.tuple #[.pointer (some ⟨g, 0, none⟩), .int .i64 0]) ∧ RTabI w' w.heap.size g (fun k => w.heap.size ≤ k) l0 ∧ Below w.heap.size w w' := by
  have d1 : decide ((512 : Int) < (l0.length : Int)) = false := decide_eq_false (by omega)
  have HR0 := Aside0.mk hr0
  have HC0 := Aside0.mk hc0
  have HL := Aside0.mk hl
  have HB0 := Aside0.mk (Below.refl w.heap.size w)
  have HND := Aside0.mk hn
  clear hn
  have HV := Aside0.mk hv
  clear hl hv hr0 hc0
  go_enter Try.func18, Try.ntmps18
  go_wp2
  go_loopg [4] l0.length (fun kq v4 wr => ∃ (K : Nat), v4 = .int .i64 (K : Int) ∧ Aside0 (K ≤ l0.length ∧ kq = l0.length - K) ∧ Aside0 (Below w.heap.size w wr))
  case atStart => exact ⟨0, rfl, ⟨by simp⟩, HB0⟩
  case round =>
    clear HB0
    obtain ⟨K, rfl, HK, HB⟩ := hrel
    by_cases c1 : K < l0.length
    · obtain ⟨ad, rfl, hx⟩ := Kd.at_string (Kd.C_below HR0.out HB.out) (K : Int) (by omega) (by omega)
      simp only [Int.toNat_natCast] at hx
      have htg := take_get l0 K c1
      generalize rdOf ByteArray.empty l0 (K : Int) = y at hx htg
      have HTG := Aside0.mk htg
      have HL2 := Aside0.mk c1
      have hk1 : wrap64 ((K : Int) + 1) = (K : Int) + 1 := by have := HL.out; unfold wrap64; omega
      have d6 : decide ((K : Int) < (l0.length : Int)) = true := decide_eq_true (by omega)
      have d7 : decide (K < l0.length) = true := decide_eq_true c1
      have c2 := eq_true (show (K : Int) < (l0.length : Int) from by omega)
      replace c1 := eq_true c1
      clear htg
      have hv : validB y = true := List.all_eq_true.1 HV.out y (List.mem_of_getElem? HTG.out)
      go_wp2_with (first | (go_at_call 11; (with_reducible refine (RValid_calls y _).mono ?_); rintro e w1 ⟨rfl, hb⟩; have HB1 := Aside0.mk (below_step HB.out hb); clear HB hb hx; have HB := HB1; clear HB1))
      go_roundg (l0.length - (K + 1))
      case measure => have := HK.out; have := HL2.out; omega
      case rel => exact ⟨K + 1, by first | rfl | simp [hk1], ⟨by have := HK.out; have := HL2.out; omega⟩, HB⟩
    · have d6 : decide ((K : Int) < (l0.length : Int)) = false := decide_eq_false (by omega)
      have d7 : decide (K < l0.length) = false := decide_eq_false c1
      clear c1 HK
      go_wp2
      clear d6 d7
      go_loopg [5] l0.length (fun kq v5 wr => ∃ (K : Nat), v5 = .int .i64 (K : Int) ∧ Aside0 (K ≤ l0.length ∧ kq = l0.length - K) ∧ Aside0 ((l0.take K).Nodup) ∧ Aside0 (Below w.heap.size w wr))
      case atStart => exact ⟨0, rfl, ⟨by simp⟩, ⟨by simp⟩, HB⟩
      case round =>
        clear HB
        obtain ⟨K, rfl, HK, HN, HB⟩ := hrel
        by_cases c1 : K < l0.length
        · obtain ⟨ad, rfl, hx⟩ := Kd.at_string (Kd.C_below HR0.out HB.out) (K : Int) (by omega) (by omega)
          simp only [Int.toNat_natCast] at hx
          have htg := take_get l0 K c1
          generalize rdOf ByteArray.empty l0 (K : Int) = y at hx htg
          have HTG := Aside0.mk htg
          have HL2 := Aside0.mk c1
          have hk1 : wrap64 ((K : Int) + 1) = (K : Int) + 1 := by have := HL.out; unfold wrap64; omega
          have d6 : decide ((K : Int) < (l0.length : Int)) = true := decide_eq_true (by omega)
          have d7 : decide (K < l0.length) = true := decide_eq_true c1
          have c2 := eq_true (show (K : Int) < (l0.length : Int) from by omega)
          replace c1 := eq_true c1
          clear htg
          have HF := Aside0.mk (show findI y l0 = (K : Int) by unfold findI; rw [idx_nodup HND.out HTG.out])
          have HN2 := Aside0.mk (take_nodup HTG.out HN.out (idx_nodup HND.out HTG.out))
          have d8 : decide ((K : Int) < (K : Int)) = false := decide_eq_false (by omega)
          have d9 : decide (K < K) = false := decide_eq_false (by omega)
          go_wp2_with (first | (go_at_call 29; go_must (refine (RFind29 _ _ l0 y _ (Kd.C_below HR0.out HB.out) HC0.out (by have := HL.out; omega)).mono ?_; rw [HF.out]; rintro e w2 ⟨rfl, hb⟩; have HB1 := Aside0.mk (below_step HB.out hb); clear HB hb hx; have HB := HB1; clear HB1)))
          go_roundg (l0.length - (K + 1))
          case measure => have := HK.out; have := HL2.out; omega
          case rel => exact ⟨K + 1, by first | rfl | simp [hk1], ⟨by have := HK.out; have := HL2.out; omega⟩, HN2, HB⟩
        · have d6 : decide ((K : Int) < (l0.length : Int)) = false := decide_eq_false (by omega)
          have d7 : decide (K < l0.length) = false := decide_eq_false c1
          clear c1 HK HN
          go_wp2_with (first
            | ((with_reducible refine gate_dst (N := 37) rfl ?_); go_must (refine box_event ?hg (N := 37) ?hd (cs := #[.slice none 0 0]) (t := 47) ?hr ?_; (case hd => rfl); (case hg => rfl); (case hr => first | (go_simp; done) | (go_simp; rfl)); intro gb hg w1 hbox hb; have BK := Aside0.mk hbox; have HG := Aside0.mk (show w.heap.size ≤ gb from Nat.le_trans HB.out.size (Nat.le_of_eq hg.symm)); have HBn := Aside0.mk (below_step HB.out hb); have c10 : w1.cell? ⟨gb, 0, none⟩ = some (.slice none 0 0) := (blk_cell hbox 0).trans rfl; clear hbox hb hg HB; have HB := HBn; clear HBn))
            | ((with_reducible refine gate_builtin (b := .append) (xs := #[.tmp 42, .tmp 43]) rfl ?_); go_must (at_builtin; refine Kd.R_append_rows Kd.string (w0 := w1) w.heap.size rfl (.tmp 42) (.tmp 43) 24 9 (.string E0) 16 rfl Try.underlying24 infoS rfl (by decide) (by decide) (.slice none 0 0) ([] : List ByteArray) l0 _ _ _ (fun k => k ≠ gb ∧ w.heap.size ≤ k) (fun _ => False) rfl rfl ?aO (Kd.C_below HR0.out HB.out) (fun _ _ h => h) (fun _ h => h.elim) ?aF (Below.refl _ _) HB.out.size ?aL ?_; (case aO => exact Kd.R_nil _ _ _ _ _); (case aF => exact fun k hk => ⟨fun e => absurd (blk_lt BK.out) (by omega), Nat.le_trans HB.out.size hk⟩); (case aL => have := HL.out; simp; omega); intro v2 w2 hr2 hb2 hg2 hat2; have HR2 := Aside0.mk hr2; have BK2 := Aside0.mk (blk_grown BK.out hg2 (fun e => by cases e)); have HB2 := Aside0.mk (HB.out.trans hb2); have HV2 := Aside0.mk (show v2.oneCell' = true from by obtain ⟨A_, c_, e_⟩ := Kd.R_slice hr2; rw [e_]; rfl); have c20 : w2.cell? ⟨gb, 0, none⟩ = some (.slice none 0 0) := (blk_cell BK2.out 0).trans rfl; have f20 := blk_frozen BK2.out 0; obtain ⟨A_, c_, e_⟩ := Kd.R_slice hr2; obtain ⟨n_, hn_⟩ : ∃ n_, ([] ++ l0).length = n_ := ⟨_, rfl⟩; rw [hn_] at e_; subst e_; clear hr2 hb2 hg2 hat2 c10 BK HB hn_))
            | ((with_reducible refine gate_store (t := 24) (p := 46) rfl ?_); go_must (refine store_event (t := 24) (p := 46) (v := ?vo_w4) (w1 := (w2.setCell ⟨gb, 0, none⟩ (.slice A_ n_ c_))) ?hg ?ho ?hn ?hr ?_; (case ho => rfl); (case hg => rfl); (case hn => rfl); (case hr => first | (go_simp; done) | (go_simp; rfl)); intro w4 hw; have BK4 := Aside0.mk (show w4.heap[gb]? = some (.cells #[.slice A_ n_ c_] 47 (0, 0)) from (by rw [hw]; exact blk_put BK2.out 0 _ rfl)); have HR4 := Aside0.mk (show Kd.R Kd.string 9 w4 w.heap.size (fun k => k ≠ gb ∧ w.heap.size ≤ k) (.slice A_ n_ c_) ([] ++ l0) from (by rw [hw]; exact Kd.R_far HR2.out (fun k hk e => hk.1 e) _)); have HB4 := Aside0.mk (show Below w.heap.size w w4 from (by rw [hw]; exact HB2.out.setCell HG.out _)); clear hw c20 f20 BK2 HR2 HB2)))
          go_ret2
          exact ⟨gb, rfl, ⟨⟨HG.out, HG.out⟩, HL.out, _, BK4.out, HR4.out⟩, HB4.out⟩
theorem RNew_ok (A0 : Option Addr) (c0 : Nat) (l0 : List ByteArray) (w : World) (hr0 : Kd.C Kd.string w A0 l0.length l0) (hc0 : l0.length ≤ c0) (h : (newF l0).1 = 0) :
    Calls Try.prog 18 #[.slice A0 l0.length c0] w fun e w' => ∃ g, e = .returned (.tuple #[.pointer (some ⟨g, 0, none⟩), .int .i64 0]) ∧ RTabI w' w.heap.size g (fun k => w.heap.size ≤ k) l0 ∧ Below w.heap.size w w' := by
  obtain ⟨_, h1, h2, h3⟩ := newF_ok h
  exact RNew_good A0 c0 l0 w hr0 hc0 h1 h2 h3
theorem RNew_no (A0 : Option Addr) (c0 : Nat) (l0 : List ByteArray) (w : World) (hr0 : Kd.C Kd.string w A0 l0.length l0) (hc0 : l0.length ≤ c0) (h : ¬ (newF l0).1 = 0) :
    Calls Try.prog 18 #[.slice A0 l0.length c0] w fun e w' => e = .returned (.tuple #[.pointer none, .int .i64 (newF l0).1]) ∧ Below w.heap.size w w' := by
  rw [newF_spec] at h ⊢
  by_cases h1 : 512 < l0.length
  · rw [if_pos h1]
    exact (RNew_full A0 c0 l0 w h1).mono fun e w' ⟨he, hw⟩ => ⟨he, hw ▸ Below.refl _ _⟩
  · rw [if_neg h1] at h ⊢
    by_cases h2 : l0.all validB = false
    · rw [if_pos h2]
      exact RNew_bad A0 c0 l0 w hr0 hc0 (by omega) h2
    · rw [if_neg h2] at h ⊢
      by_cases h3 : l0.Nodup
      · rw [if_pos h3] at h
        exact absurd rfl h
      · rw [if_neg h3]
        exact RNew_twice A0 c0 l0 w hr0 hc0 (by omega) (by simpa using h2) h3
end Go.Proofs.Ytoleenfipnbjkaa.Tab
