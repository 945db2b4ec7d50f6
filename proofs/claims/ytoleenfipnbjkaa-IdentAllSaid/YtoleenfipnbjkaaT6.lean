/- New of names: refused. -/
import Derived.Test.YtoleenfipnbjkaaT5
namespace Go.Proofs.Ytoleenfipnbjkaa.Tab
open Go.RowKit Go.Maps Go.Proofs.Ytoleenfipnbjkaa.PX Go.Proofs.YtoleenfipnbjkaaW.PrintWords Go.Proofs.YtoleenfipnbjkaaW.PrintLast Go.Proofs.YtoleenfipnbjkaaW.PrintMore
set_option linter.unusedVariables false
set_option linter.unusedSimpArgs false
theorem New_full (A0 : Option Addr) (c0 : Nat) (l0 : List ByteArray) (w : World) (hl : 512 < l0.length) :
    Calls Try.prog 13 #[.slice A0 l0.length c0] w fun e w' => e = .returned (.tuple #[.pointer none, .int .i64 8]) ∧ w' = w := by
  have d1 : decide ((512 : Int) < (l0.length : Int)) = true := decide_eq_true (by omega)
  clear hl
  go_enter Try.func13, Try.ntmps13
  go_wp2
  go_ret2
  exact ⟨rfl, rfl⟩
theorem drop_rd (l : List ByteArray) (k : Int) (h0 : 0 ≤ k) (h : k < (l.length : Int)) : l.drop k.toNat = rdOf ByteArray.empty l k :: l.drop (k.toNat + 1) := by
  rw [List.drop_eq_getElem_cons (by omega : k.toNat < l.length)]
  congr 1
  simp [rdOf, List.getElem?_eq_getElem (by omega : k.toNat < l.length)]
set_option maxHeartbeats 400000 in
/-- A name that is none: the first loop ends there. -/
theorem New_bad (A0 : Option Addr) (c0 : Nat) (l0 : List ByteArray) (w : World) (hr0 : Kd.C Kd.string w A0 l0.length l0) (hl : l0.length ≤ 512) (hv : l0.all validB = false) :
    Calls Try.prog 13 #[.slice A0 l0.length c0] w fun e w' => e = .returned (.tuple #[.pointer none, .int .i64 5]) ∧ Below w.heap.size w w' := by
  have d1 : decide ((512 : Int) < (l0.length : Int)) = false := decide_eq_false (by omega)
  have HR0 := Aside0.mk hr0
  have HL := Aside0.mk hl
  have HV := Aside0.mk hv
  clear hl hv hr0
  go_enter Try.func13, Try.ntmps13
  go_wp2
  go_loopg [5, 16] l0.length (fun kq v5 v16 wr => ∃ (K : Int), v16 = .int .i64 K ∧ Aside0 (0 ≤ K ∧ K ≤ l0.length ∧ kq = l0.length - K.toNat) ∧ Aside0 ((l0.drop K.toNat).all validB = false) ∧ Aside0 (Below w.heap.size w wr))
  case atStart => exact ⟨0, rfl, ⟨by simp⟩, ⟨by simpa using HV.out⟩, ⟨Below.refl _ _⟩⟩
  case round =>
    obtain ⟨K, rfl, HK, HA, HB⟩ := hrel
    by_cases c1 : K < l0.length
    · have p1 : 0 ≤ K := HK.out.1
      obtain ⟨ad, rfl, hx⟩ := Kd.at_string (Kd.C_below HR0.out HB.out) K p1 c1
      have hdrop : l0.drop K.toNat = rdOf ByteArray.empty l0 K :: l0.drop (K.toNat + 1) := drop_rd l0 K p1 c1
      generalize rdOf ByteArray.empty l0 K = s at hx hdrop
      have HA2 := Aside0.mk (show (s :: l0.drop (K.toNat + 1)).all validB = false from by rw [← hdrop]; exact HA.out)
      have HL2 := Aside0.mk c1
      have hk1 : wrap64 (K + 1) = K + 1 := by have := HL.out; unfold wrap64; omega
      have d2 : decide (K < (l0.length : Int)) = true := decide_eq_true c1
      clear hdrop HA
      replace p1 := eq_true p1
      replace c1 := eq_true c1
      cases hv : validB s
      · go_wp2_with (first | (go_at_call 10; (with_reducible refine (Valid_calls s _).mono ?_); rintro e w1 ⟨rfl, hb⟩; have HB1 := Aside0.mk (below_step HB.out hb); clear HB hb hx; have HB := HB1; clear HB1))
        go_ret2
        exact ⟨rfl, HB.out⟩
      · have HA3 := Aside0.mk (show (l0.drop (K + 1).toNat).all validB = false from by have h := HA2.out; have hk := HK.out.1; rw [List.all_cons, hv, Bool.true_and] at h; rw [show (K + 1).toNat = K.toNat + 1 by omega]; exact h)
        go_wp2_with (first | (go_at_call 10; (with_reducible refine (Valid_calls s _).mono ?_); rintro e w1 ⟨rfl, hb⟩; have HB1 := Aside0.mk (below_step HB.out hb); clear HB hb hx; have HB := HB1; clear HB1))
        go_roundg (l0.length - (K + 1).toNat)
        case measure => have := HK.out; have := HL2.out; omega
        case rel => exact ⟨K + 1, by first | rfl | simp [hk1], ⟨by have := HK.out; have := HL2.out; omega⟩, HA3, HB⟩
    · exfalso
      have h := HA.out
      rw [List.drop_eq_nil_of_le (by have := HK.out; omega)] at h
      cases h
end Go.Proofs.Ytoleenfipnbjkaa.Tab
