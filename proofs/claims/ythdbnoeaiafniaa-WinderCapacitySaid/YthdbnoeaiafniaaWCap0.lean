/- The walk of WinderCapacity: the list comes from 'longer', which may hand back what came in. -/
import Derived.Test.YthdbnoeaiafniaaLonger0
import Derived.Test.YthdbnoeaiafniaaNFun0
namespace Go.Proofs.Ythdbnoeaiafniaa.PX
open Go.RowKit Go.Proofs.Ythdbnoeaiafniaa.Wind Go.Proofs.YthdbnoeaiafniaaW.PrintWords Go.Proofs.YthdbnoeaiafniaaW.PrintLast Go.Proofs.YthdbnoeaiafniaaW.PrintMore
set_option linter.unusedVariables false
theorem longer_l (l : List Int) (hl : 1 ≤ l.length) (n : Int) (h0 : 0 ≤ n) (h1 : n ≤ 520) (d : Nat) : ∀ (i k : Nat) (acc : List Int), n = ((i + d : Nat) : Int) → acc.length = i → d + 1 ≤ k → ∃ r, papermilllaw50_longer.l0 k l n acc (i : Int) = some r ∧ (r.length : Int) = n := by
  induction d with
  | zero =>
    intro i k acc h ha hk
    obtain ⟨k, rfl⟩ : ∃ m, k = m + 1 := ⟨k - 1, by omega⟩
    simp only [papermilllaw50_longer.l0]
    rw [if_neg (by omega)]
    exact ⟨acc, rfl, by omega⟩
  | succ d ih =>
    intro i k acc h ha hk
    obtain ⟨k, rfl⟩ : ∃ m, k = m + 1 := ⟨k - 1, by omega⟩
    have ht : Int.tmod (i : Int) (l.length : Int) = ((i % l.length : Nat) : Int) := rfl
    have hlt : i % l.length < l.length := Nat.mod_lt _ (by omega)
    simp only [papermilllaw50_longer.l0]
    rw [if_pos (by omega), if_neg (by omega), ht, if_pos (by omega), if_pos (by omega), if_pos (by omega), w1 i (by omega)]
    exact ih (i + 1) k _ (by omega) (by simp [ha]) (by omega)
theorem longer_some (l : List Int) (hl : l.length ≤ 60) (n : Int) (k : Nat) (hk : 600 ≤ k) : ∃ r, papermilllaw50_longer.f k l n = some r ∧ r.length ≤ 520 := by
  obtain ⟨k, rfl⟩ : ∃ m, k = m + 1 := ⟨k - 1, by omega⟩
  have h0 : papermilllaw50_longer.j0 (k + 1) l n true = some l := by
    simp only [papermilllaw50_longer.j0, if_true]
  unfold papermilllaw50_longer.f
  split
  · exact ⟨l, h0, by omega⟩
  · split
    · exact ⟨l, h0, by omega⟩
    · by_cases hz : l.length = 0
      · rw [show ((l.length : Int) == 0) = true by simpa using hz]
        exact ⟨l, h0, by omega⟩
      · rw [show ((l.length : Int) == 0) = false by simpa using hz]
        simp only [papermilllaw50_longer.j0]
        rw [if_neg (by decide)]
        obtain ⟨r, h1, h2⟩ := longer_l l (by omega) n (by omega) (by omega) n.toNat 0 k [] (by omega) rfl (by omega)
        exact ⟨r, h1, by omega⟩
set_option maxHeartbeats 4000000 in
set_option maxRecDepth 100000 in
theorem papermilllaw50_WinderCapacity.walk (A0 : Option Addr) (c0 : Nat) (l0 : List Int) (a1 a2 : Int) (w : World) (hr0 : Kd.C (Kd.int .i64) w A0 l0.length l0) (hc0 : l0.length ≤ c0) :
    Calls Try.prog 3 #[.slice A0 l0.length c0, .int .i64 a1, .int .i64 a2] w fun e w' => e = .returned (.bool true) ∧ Below w.heap.size w w' := by
  have HR0 := Aside0.mk hr0
  have HC0 := Aside0.mk hc0
  clear hr0 hc0
  have A1 := Aside0.mk (awake_true 2000 (by decide))
  by_cases c3 : (l0.length : Int) > 60
  · have c3b0 : decide (60 < (l0.length : Int)) = true := decide_eq_true c3
    clear c3
    go_enter Try.func3, Try.ntmps3
    go_wp2_with (go_at_call 10; (with_reducible refine (papermilllaw50_awake.calls 2000 true _ A1.out).mono ?_); rintro e w1 ⟨rfl, hb⟩; have HB := Aside0.mk hb; clear hb)
    go_ret
    exact ⟨by first | rfl | (simp; done), HB.out⟩
  · have c3b0 : decide (60 < (l0.length : Int)) = false := decide_eq_false c3
    obtain ⟨L, h1, h2⟩ := longer_some l0 (by omega) a2 2000 (by decide)
    have A2 := Aside0.mk h1
    have h3 := wcap L a1 2000 (by decide)
    have h4 := rcap L a1 2000 (by decide)
    obtain ⟨t1, t2, h5⟩ : ∃ t1 t2, capS L a1 = (t1, t2) := ⟨_, _, rfl⟩
    rw [h5] at h3 h4
    have A3 := Aside0.mk h3
    have A4 := Aside0.mk h4
    clear c3 h1 h2 h3 h4 h5
    go_enter Try.func3, Try.ntmps3
    go_wp2_with (first | (go_at_call 11; (with_reducible refine (papermilllaw50_longer.calls 2000 _ _ l0 a2 L _ ?side1 ?side2 A2.out).mono ?_); (case side1 => exact HR0.out); (case side2 => exact HC0.out); rintro e w1 ⟨AL, cL, rfl, hr, hc, hb⟩; have HRL := Aside0.mk hr; have HCL := Aside0.mk hc; have HB := Aside0.mk hb; clear hr hc hb) | (go_at_call 12; (with_reducible refine (winder_Capacity.calls 2000 _ _ L a1 t1 t2 _ ?side1 ?side2 A3.out).mono ?_); (case side1 => repeat (first | exact HRL.out | (with_reducible refine Kd.C_drewN ?_ _) | (with_reducible refine Kd.C_drew ?_))); (case side2 => exact HCL.out); rintro e w' ⟨rfl, ⟨nd, rfl⟩⟩) | (go_at_call 13; (with_reducible refine (papermillref50_Capacity.calls 2000 _ _ L a1 t1 t2 _ ?side1 ?side2 A4.out).mono ?_); (case side1 => repeat (first | exact HRL.out | (with_reducible refine Kd.C_drewN ?_ _) | (with_reducible refine Kd.C_drew ?_))); (case side2 => exact HCL.out); rintro e w' ⟨rfl, ⟨nd, rfl⟩⟩) | (go_at_call 10; (with_reducible refine (papermilllaw50_awake.calls 2000 true _ A1.out).mono ?_); rintro e w2 ⟨rfl, hb⟩; have HB2 := Aside0.mk (below_step (by repeat (first | (with_reducible first | exact HB.out | apply below_alloc | apply pw_below_drewN | apply below_drew1) | exact HB.out)) hb); clear hb))
    go_ret
    exact ⟨by first | rfl | (simp; done), HB2.out⟩
end Go.Proofs.Ythdbnoeaiafniaa.PX
