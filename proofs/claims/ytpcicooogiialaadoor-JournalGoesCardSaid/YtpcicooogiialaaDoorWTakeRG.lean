/- TakeInt of the program and of the reference come to the same, the integer at the beginning of any bytes. -/
import Derived.Test.YtpcicooogiialaaDoorWTake0G
import Derived.Test.YtpcicooogiialaaDoorPGx9
namespace Go.Proofs.YtpcicooogiialaaDoor.Wire
open Go.RowKit Go.Proofs.YtpcicooogiialaaDoor.PG Go.Proofs.YtpcicooogiialaaDoorW.PrintWords Go.Proofs.YtpcicooogiialaaDoorW.PrintLast Go.Proofs.YtpcicooogiialaaDoorW.PrintMore
set_option linter.unusedVariables false

theorem ref_j2 (k : Nat) (u : Int) (i : Nat) (hi : i < 10) (h0 : 0 ≤ u) (h1 : u < 18446744073709551616) (c : Int) (fl : Bool) (hf : fl = decide (c = 0 ∧ 0 < i)) :
    papermillref08_TakeInt.j2 (k + 1) u (i : Int) fl = some (if c = 0 ∧ 0 < i then (0, 0, 3) else (dec u, (i : Int) + 1, 0)) := by
  subst hf
  simp only [papermillref08_TakeInt.j2]
  by_cases hc : c = 0 ∧ 0 < i
  · rw [if_pos (decide_eq_true hc), if_pos hc]
  · rw [if_neg (by simpa using hc), if_neg hc, Int.tmod_eq_emod_of_nonneg h0, Int.tdiv_eq_ediv_of_nonneg h0]
    unfold dec
    have e0 : IntKind.u64.wrap (u / 2) = u / 2 := by rw [IntKind.wrap_u64]; omega
    have e1 : wrap64 (u / 2) = u / 2 := wrap64_id (by omega) (by omega)
    have e2 : wrap64 ((i : Int) + 1) = (i : Int) + 1 := wrap64_id (by omega) (by omega)
    have e3 : wrap64 (-(u / 2)) = -(u / 2) := wrap64_id (by omega) (by omega)
    have e4 : wrap64 (-(u / 2) - 1) = -(u / 2) - 1 := wrap64_id (by omega) (by omega)
    rw [e0, e1, e2, e3, e4]
    split <;> rfl

theorem ref_take (b : List Int) (hb : Bytes b) : ∀ (f i : Nat) (acc un : Int) (k : Nat), f + i = 10 → i ≤ b.length → 0 ≤ acc → acc < 2 ^ (7 * i) → (i < 10 → un = 2 ^ (7 * i)) → 3 * f + 3 ≤ k →
    papermillref08_TakeInt.l0 k b acc un (i : Int) = some (tk f i acc (b.drop i)) := by
  intro f
  induction f with
  | zero =>
    intro i acc un k hf hi h0 h1 hu hk
    obtain ⟨k, rfl⟩ : ∃ m, k = m + 1 := ⟨k - 1, by omega⟩
    simp only [papermillref08_TakeInt.l0]
    rw [if_neg (by omega)]
    rfl
  | succ f ih =>
    intro i acc un k hf hi h0 h1 hu hk
    obtain rfl := hu (by omega)
    obtain ⟨k, rfl⟩ : ∃ m, k = m + 3 := ⟨k - 3, by omega⟩
    simp only [papermillref08_TakeInt.l0]
    rw [if_pos (by omega)]
    by_cases hlen : b.length ≤ i
    · rw [if_pos (by omega), List.drop_eq_nil_of_le hlen]
      rfl
    · rw [if_neg (by omega)]
      have hlt : i < b.length := by omega
      rw [rd_cons b i hlt]
      obtain ⟨hc0, hc1⟩ := rd_byte hb i hlt
      have key : papermillref08_TakeInt.j1 (k + 2) b acc (2 ^ (7 * i)) (i : Int) (decide (f = 0 ∧ rd b (i : Int) > 1)) = some (tk (f + 1) i acc (rd b (i : Int) :: b.drop (i + 1))) := by
        simp only [papermillref08_TakeInt.j1, tk]
        generalize rd b (i : Int) = c at hc0 hc1 ⊢
        by_cases h9 : f = 0 ∧ c > 1
        · rw [if_pos (decide_eq_true h9), if_pos h9]
        · rw [if_neg (by simpa using h9), if_neg h9, if_pos (by omega), if_pos (by omega)]
          obtain ⟨q1, q2, q3, q4⟩ := or_step acc c i (by omega) h0 h1 hc0 hc1 (by omega)
          rw [add_step acc c i (by omega) h0 h1 hc0 hc1 (by omega)]
          by_cases hc : c ≥ 128
          · rw [if_pos hc, if_pos hc, show wrap64 ((i : Int) + 1) = ((i + 1 : Nat) : Int) by rw [wrap64_id (by omega) (by omega)]; omega]
            refine ih (i + 1) _ _ (k + 1) (by omega) (by omega) (by omega) q2 (fun h => ?_) (by omega)
            rw [show 7 * (i + 1) = 7 * i + 7 by omega, Int.pow_add, IntKind.wrap_u64]
            rcases pow7 i (by omega) with ⟨_, e⟩ | ⟨_, e⟩ | ⟨_, e⟩ | ⟨_, e⟩ | ⟨_, e⟩ | ⟨_, e⟩ | ⟨_, e⟩ | ⟨_, e⟩ | ⟨_, e⟩ | ⟨e9, e⟩ <;> rw [e] <;> first | rfl | omega
          · rw [if_neg hc, if_neg hc]
            by_cases hz : c = 0
            · rw [if_pos hz]
              rw [ref_j2 k _ i (by omega) (by omega) q4 c _ (by rw [hz]; simp)]
            · rw [if_neg hz]
              rw [ref_j2 k _ i (by omega) (by omega) q4 c _ (by simp [hz])]
      by_cases hi9 : (i : Int) = 9
      · rw [if_pos hi9, if_pos (by omega), if_pos (by omega)]
        rw [show decide (rd b (i : Int) > 1) = decide (f = 0 ∧ rd b (i : Int) > 1) by have h_ : f = 0 := (by omega); simp [h_]]
        exact key
      · rw [if_neg hi9]
        rw [show (false : Bool) = decide (f = 0 ∧ rd b (i : Int) > 1) by have h_ : f ≠ 0 := (by omega); simp [h_]]
        exact key

theorem ref_tk (b : List Int) (hb : Bytes b) (k : Nat) (hk : 40 ≤ k) : papermillref08_TakeInt.f k b = some (tkI b) := by
  have := ref_take b hb 10 0 0 1 k rfl (Nat.zero_le _) (by omega) (by decide) (fun _ => rfl) (by omega)
  rw [List.drop_zero] at this
  exact this

end Go.Proofs.YtpcicooogiialaaDoor.Wire
