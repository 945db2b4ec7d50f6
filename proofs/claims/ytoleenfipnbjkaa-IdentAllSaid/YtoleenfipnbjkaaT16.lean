/- A table has exactly its names. -/
import Derived.Test.YtoleenfipnbjkaaT15
namespace Go.Proofs.Ytoleenfipnbjkaa.Tab
open Go.RowKit Go.Maps Go.Proofs.Ytoleenfipnbjkaa.PX Go.Proofs.YtoleenfipnbjkaaW.PrintWords Go.Proofs.YtoleenfipnbjkaaW.PrintLast Go.Proofs.YtoleenfipnbjkaaW.PrintMore
set_option linter.unusedVariables false
set_option linter.unusedSimpArgs false
theorem rd_upto (n K : Nat) (h : K < n) : rd (upto n) (K : Int) = (K : Int) := by
  simp [rd, upto, h]
set_option maxHeartbeats 2000000 in
set_option maxRecDepth 100000 in
theorem same_calls (base g : Nat) (F : Nat → Prop) (names : List ByteArray) (A0 : Option Addr) (c0 : Nat) (w : World) (h : TabI w base g F names) (hr0 : Kd.C Kd.string w A0 names.length names) (hv : names.all validB = true) (hn : names.Nodup) :
    Calls Try.prog 19 #[.pointer (some ⟨g, 0, none⟩), .slice A0 names.length c0] w fun e w' => e = .returned (.bool true) ∧ Below w.heap.size w w' := by
  have HT := Aside0.mk h
  have HL := Aside0.mk h.2.1
  have HR0 := Aside0.mk hr0
  have HV := Aside0.mk hv
  have HN := Aside0.mk hn
  have HB := Aside0.mk (Below.refl w.heap.size w)
  have hk0 : wrap64 ((names.length : Int) + 1) = (names.length : Int) + 1 := by have := HL.out; unfold wrap64; omega
  have hk0' : IntKind.i64.wrap ((names.length : Int) + 1) = (names.length : Int) + 1 := by rw [IntKind.wrap_i64]; have := HL.out; omega
  clear h hr0 hv hn
  go_enter Try.func19, Try.ntmps19
  go_wp2_with (first
    | (go_at_call 30; go_must (refine (all_some _ g _ names ((names.length : Int) + 1) _ HT.out (by have := HL.out; omega) (by omega)).mono ?_; rintro e w1 ⟨Al, cl, An, cn, rfl, hcl, hcn, hb⟩; have HCL := Aside0.mk hcl; have HCN := Aside0.mk hcn; have HTn := Aside0.mk (HT.out.below hb); have HBn := Aside0.mk (below_step HB.out hb); clear HT HB hcl hcn hb hk0 hk0'; have HT := HTn; have HB := HBn; clear HTn HBn))
    | (go_at_call 14; (with_reducible refine (Len_calls _ g _ names _ HT.out).mono ?_); rintro e w2 ⟨rfl, rfl⟩))
  go_loopg [7, 8, 9, 10, 11] names.length (fun kq v7 v8 v9 v10 v11 wr => ∃ (K : Nat), v7 = .int .i64 (K : Int) ∧ Aside0 (K ≤ names.length ∧ kq = names.length - K) ∧ Aside0 (TabI wr base g F names) ∧ Aside0 (Below w.heap.size w wr) ∧ Aside0 (Below w2.heap.size w2 wr))
  case atStart => exact ⟨0, rfl, ⟨by simp⟩, HT, HB, ⟨Below.refl _ _⟩⟩
  case round =>
    clear HB HT
    obtain ⟨K, rfl, HK, HT, HB, HW⟩ := hrel
    by_cases c1 : K < names.length
    · obtain ⟨ad, rfl, hx⟩ := Kd.at_string (Kd.C_below HR0.out HB.out) (K : Int) (by omega) (by omega)
      obtain ⟨adl, rfl, hxl⟩ := Kd.at_int (Kd.C_below HCL.out HW.out) (K : Int) (by omega) (by omega)
      obtain ⟨adn, rfl, hxn⟩ := Kd.at_string (Kd.C_below HCN.out HW.out) (K : Int) (by omega) (by omega)
      rw [rd_upto _ _ c1] at hxl
      simp only [Int.toNat_natCast] at hx hxl hxn
      have htg := take_get names K c1
      generalize rdOf ByteArray.empty names (K : Int) = y at hx hxn htg
      have HTG := Aside0.mk htg
      have HYI := Aside0.mk (idx_nodup HN.out htg)
      have HYV := Aside0.mk (valid_max (List.all_eq_true.1 HV.out y (List.mem_of_getElem? htg)))
      have HL2 := Aside0.mk c1
      have hk1 : wrap64 ((K : Int) + 1) = (K : Int) + 1 := by have := HL.out; unfold wrap64; omega
      have d6 : decide ((K : Int) < (names.length : Int)) = true := decide_eq_true (by omega)
      have d7 : decide (K < names.length) = true := decide_eq_true c1
      have c2 := eq_true (show (K : Int) < (names.length : Int) from by omega)
      replace c1 := eq_true c1
      clear htg
      go_wp2_with (first
        | (go_at_call 15; (with_reducible refine (Name_at HT.out HTG.out).mono ?_); rintro e w3 ⟨rfl, rfl⟩)
        | (go_at_call 16; (with_reducible refine (Find_at HT.out HYV.out HYI.out).mono ?_); rintro e w3 ⟨rfl, rfl⟩))
      go_quiet (fail)
      go_wp2
      go_roundg (names.length - (K + 1))
      case measure => have := HK.out; have := HL2.out; omega
      case rel => exact ⟨K + 1, by first | rfl | simp [hk1], ⟨by have := HK.out; have := HL2.out; omega⟩, ⟨HT.out.keep (fun _ _ _ => rfl)⟩, ⟨pw_below_drewN HB.out _⟩, ⟨pw_below_drewN HW.out _⟩⟩
    · have d6 : decide ((K : Int) < (names.length : Int)) = false := decide_eq_false (by omega)
      have d7 : decide (K < names.length) = false := decide_eq_false c1
      clear c1
      go_wp2
      go_ret
      exact ⟨rfl, HB.out⟩
theorem none_calls (w : World) : Calls Try.prog 24 #[.pointer none] w fun e w' => e = .returned (.bool true) ∧ Below w.heap.size w w' := by
  have HB := Aside0.mk (Below.refl w.heap.size w)
  go_enter Try.func24, Try.ntmps24
  go_wp2_with (first | (go_at_call 30; go_must (refine (all_nil 3 _ (by omega)).mono ?_; rintro e w1 ⟨Al, cl, An, cn, rfl, _, _, hb⟩; have HBn := Aside0.mk (below_step HB.out hb); clear HB hb; have HB := HBn; clear HBn)))
  go_ret
  exact ⟨rfl, HB.out⟩
end Go.Proofs.Ytoleenfipnbjkaa.Tab
