/- The iterator over the closure of IdentAll: how many names it yields. -/
import Derived.Test.YtoleenfipnbjkaaT25
namespace Go.Proofs.Ytoleenfipnbjkaa.Tab
open Go.RowKit Go.Maps Go.Proofs.Ytoleenfipnbjkaa.PX Go.Proofs.YtoleenfipnbjkaaW.PrintWords Go.Proofs.YtoleenfipnbjkaaW.PrintLast Go.Proofs.YtoleenfipnbjkaaW.PrintMore
set_option linter.unusedVariables false
set_option linter.unusedSimpArgs false
/-- How many names are taken. -/
def wantN (n : Nat) (take : Int) : Nat := min (max 1 take.toNat) n
set_option maxHeartbeats 2000000 in
set_option maxRecDepth 100000 in
theorem iter26 (X : Cfg) (S : Static X) (w : World) (h : CI X w 0) :
    Calls Try.prog 31 #[.func (.func 26) #[] #[.pointer (some ⟨X.gg, 0, none⟩), .pointer (some ⟨X.gn, 0, none⟩), .pointer (some ⟨X.g3, 0, none⟩), .pointer (some ⟨X.g7, 0, none⟩), .pointer (some ⟨X.g5, 0, none⟩), .pointer (some ⟨X.g4, 0, none⟩)], .pointer (some ⟨X.gb, 0, none⟩)] w fun e w' =>
      e = .returned (.tuple #[]) ∧ CI X w' ((wantN X.names.length X.take : Nat) : Int) ∧ Below X.B w w' := by
  have HS := Aside0.mk S
  have HC := Aside0.mk h
  have HB := Aside0.mk (Below.refl X.B w)
  obtain ⟨_, _, _, _, _, _, _, _, e9, _, _⟩ := h.cells S
  have HT := Aside0.mk (show X.names.length ≤ 60 ∧ 0 ≤ X.take ∧ X.take ≤ 255 from S.2.2.2.2.2.2.2.2.2.2.2.2.2.2)
  obtain ⟨A, hA⟩ : ∃ A, X.A = A := ⟨_, rfl⟩
  rw [hA] at e9
  have HA := Aside0.mk hA
  clear S h hA
  go_enter Try.func31, Try.ntmps31
  go_wp2
  go_loopg [3, 4, 7] X.names.length (fun kq v3 v4 v7 wr => ∃ (K : Nat), v7 = .int .i64 (K : Int) ∧ Aside0 (K ≤ X.names.length ∧ kq = X.names.length - K ∧ (K = 0 ∨ (K : Int) < X.take)) ∧ Aside0 (CI X wr (K : Int)) ∧ Aside0 (Below X.B w wr))
  case atStart => exact ⟨0, rfl, ⟨by simp⟩, HC, HB⟩
  case round =>
    clear HC HB
    obtain ⟨K, rfl, HK, HC, HB⟩ := hrel
    by_cases c1 : K < X.names.length
    · have hC := (HC.out.cells HS.out).2.2.2.2.2.2.2.2.2.2
      rw [HA.out] at hC
      obtain ⟨ad, rfl, hx⟩ := Kd.at_string hC (K : Int) (by omega) (by omega)
      clear hC
      simp only [Int.toNat_natCast] at hx
      have htg := take_get X.names K c1
      generalize rdOf ByteArray.empty X.names (K : Int) = s at hx htg
      have HTG := Aside0.mk htg
      have HL2 := Aside0.mk c1
      have hk1 : wrap64 ((K : Int) + 1) = (K : Int) + 1 := by have := HT.out.1; unfold wrap64; omega
      have d6 : decide ((K : Int) < (X.names.length : Int)) = true := decide_eq_true (by omega)
      have d7 : decide (K < X.names.length) = true := decide_eq_true c1
      have c2 := eq_true (show (K : Int) < (X.names.length : Int) from by omega)
      replace c1 := eq_true c1
      clear htg
      by_cases hlt : (K : Int) + 1 < X.take
      · have HLT := Aside0.mk hlt
        have HD := Aside0.mk (decide_eq_true hlt)
        clear hlt
        go_wp2_with (first | (go_at_call 26; go_must (refine (cb_calls X HS.out _ K s HC.out HL2.out HTG.out).mono ?_; rw [HD.out]; rintro e w2 ⟨rfl, hci, hb⟩; have HC2 := Aside0.mk hci; have HB2 := Aside0.mk (HB.out.trans hb); clear HC HB hci hb hx)))
        go_roundg (X.names.length - (K + 1))
        case measure => have := HK.out; have := HL2.out; omega
        case rel => exact ⟨K + 1, by first | rfl | simp [hk1], ⟨by have := HK.out; have := HL2.out; have := HLT.out; omega⟩, HC2, HB2⟩
      · have HLT := Aside0.mk hlt
        have HD := Aside0.mk (decide_eq_false hlt)
        clear hlt
        go_wp2_with (first | (go_at_call 26; go_must (refine (cb_calls X HS.out _ K s HC.out HL2.out HTG.out).mono ?_; rw [HD.out]; rintro e w2 ⟨rfl, hci, hb⟩; have HC2 := Aside0.mk hci; have HB2 := Aside0.mk (HB.out.trans hb); clear HC HB hci hb hx)))
        refine ⟨rfl, .tuple #[], results_none rfl _ _ _, rfl, ?_, HB2.out⟩
        have hw : wantN X.names.length X.take = K + 1 := by have h1 := HK.out; have h2 := HL2.out; have h3 := HLT.out; have h4 := HT.out; unfold wantN; omega
        rw [hw]
        exact HC2.out
    · have d6 : decide ((K : Int) < (X.names.length : Int)) = false := decide_eq_false (by omega)
      have d7 : decide (K < X.names.length) = false := decide_eq_false c1
      have HL2 := Aside0.mk c1
      clear c1
      go_wp2
      refine ⟨rfl, .tuple #[], results_none rfl _ _ _, rfl, ?_, HB.out⟩
      have hw : wantN X.names.length X.take = K := by have h1 := HK.out; have h2 := HL2.out; have h4 := HT.out; unfold wantN; omega
      rw [hw]
      exact HC.out
end Go.Proofs.Ytoleenfipnbjkaa.Tab
