/- Check and Put of the program and of the reference, over lists of numbers: each comes to one closed answer. Conditions: numbers of 64 bits, lists of at most 1000 numbers. -/
import Derived.Test.YtpcicooogiialaaDoorWPut0G
import Derived.Test.YtpcicooogiialaaDoorPGx2
import Derived.Test.YtpcicooogiialaaDoorPGx7
import Derived.Test.YtpcicooogiialaaDoorPGx1
namespace Go.Proofs.YtpcicooogiialaaDoor.Jr
open Go.RowKit Go.Proofs.YtpcicooogiialaaDoor.PG Go.Proofs.YtpcicooogiialaaDoor.Wire Go.Proofs.YtpcicooogiialaaDoorW.PrintWords Go.Proofs.YtpcicooogiialaaDoorW.PrintLast Go.Proofs.YtpcicooogiialaaDoorW.PrintMore
set_option linter.unusedVariables false

theorem w1 (i : Nat) (h : i < 9223372036854775000) : wrap64 ((i : Int) + 1) = ((i + 1 : Nat) : Int) := by rw [wrap64_id (by omega) (by omega)]; omega
def mny (x : Int) : Prop := -1000000000000 ≤ x ∧ x ≤ 1000000000000
instance (x : Int) : Decidable (mny x) := by unfold mny; infer_instance
theorem awake_true (k : Nat) (hk : 100 ≤ k) : papermilllaw61_awake.f k = some true := by
  have h : papermilllaw61_awake.f 100 = some true := by decide +kernel
  exact at_rounds (fun k => papermilllaw61_awake.mono k) hk h
theorem within_l (l : List Int) (hl : l.length ≤ 1000000) (d : Nat) : ∀ (i k : Nat), l.length - i = d → i ≤ l.length → d + 1 ≤ k → journal_within.l0 k l (l.length : Int) (i : Int) = some (decide (∀ x ∈ l.drop i, mny x)) := by
  induction d with
  | zero =>
    intro i k h h1 hk
    obtain ⟨k, rfl⟩ : ∃ m, k = m + 1 := ⟨k - 1, by omega⟩
    simp only [journal_within.l0]
    rw [if_neg (by omega), List.drop_eq_nil_of_le (by omega)]
    simp
  | succ d ih =>
    intro i k h h1 hk
    obtain ⟨k, rfl⟩ : ∃ m, k = m + 1 := ⟨k - 1, by omega⟩
    have hlt : i < l.length := by omega
    simp only [journal_within.l0]
    rw [if_pos (by omega), if_pos (by omega), if_pos (by omega), rd_cons l i hlt]
    by_cases c1 : rd l (i : Int) < -1000000000000
    · rw [if_pos c1, decide_eq_false]
      intro h2
      have := (h2 (rd l (i : Int)) (by simp)).1
      omega
    · rw [if_neg c1]
      by_cases c2 : rd l (i : Int) > 1000000000000
      · rw [if_pos c2, decide_eq_false]
        intro h2
        have := (h2 (rd l (i : Int)) (by simp)).2
        omega
      · rw [if_neg c2, w1 i (by omega), ih (i + 1) k (by omega) (by omega) (by omega)]
        congr 1
        simp only [decide_eq_decide, List.mem_cons, forall_eq_or_imp]
        exact ⟨fun h => ⟨⟨by omega, by omega⟩, h⟩, fun h => h.2⟩
theorem within_eq (l : List Int) (hl : l.length ≤ 1000000) (k : Nat) (hk : l.length + 1 ≤ k) : journal_within.f k l = some (decide (∀ x ∈ l, mny x)) := by
  unfold journal_within.f
  have := within_l l hl l.length 0 k rfl (Nat.zero_le _) hk
  rw [List.drop_zero] at this
  exact this
/-- What Check answers. -/
def chk2 (l : List Int) : Int := if l.length > 32 then 8 else if (∀ x ∈ l, mny x) then 0 else 1
def chk1 (a1 a2 a3 a4 a5 : Int) (l : List Int) : Int := if a1 < 0 ∨ a1 > 2147483647 ∨ ¬ (mny a2 ∧ mny a3 ∧ mny a4 ∧ mny a5) then 1 else chk2 l
def chk (a0 a1 a2 a3 a4 a5 : Int) (l : List Int) : Int := if a0 < 1 ∨ a0 > 18 then 17 else chk1 a1 a2 a3 a4 a5 l
theorem jchk_j1 (k : Nat) (fl : Bool) (a0 a1 a2 a3 a4 a5 : Int) (l : List Int) (hl : l.length ≤ 1000000) (hk : l.length + 1 ≤ k) : journal_Check.j1 (k + 1) fl a0 a1 a2 a3 a4 a5 l = some (if fl = true then 1 else chk2 l) := by
  simp only [journal_Check.j1]
  cases fl with
  | true => rfl
  | false =>
    simp only [Bool.false_eq_true, if_false]
    unfold chk2
    by_cases h : l.length > 32
    · rw [if_pos (by omega), if_pos h]
    · rw [if_neg (by omega), if_neg h, within_eq l hl k hk]
      simp only [Option.bind_some, decide_eq_true_eq]
      split <;> rfl
theorem jchk_eq (a0 a1 a2 a3 a4 a5 : Int) (l : List Int) (hl : l.length ≤ 1000000) (k : Nat) (hk : l.length + 20 ≤ k) : journal_Check.f k a0 a1 a2 a3 a4 a5 l = some (chk a0 a1 a2 a3 a4 a5 l) := by
  obtain ⟨k, rfl⟩ : ∃ m, k = m + 2 := ⟨k - 2, by omega⟩
  have h4 : journal_within.f (k + 1) [a2, a3, a4, a5] = some (decide (mny a2 ∧ mny a3 ∧ mny a4 ∧ mny a5)) := by
    rw [within_eq _ (by simp) _ (by simp; omega)]
    simp
  have key : ∀ fl : Bool, journal_Check.j0 (k + 2) fl a0 a1 a2 a3 a4 a5 l = some (if fl = true then 17 else chk1 a1 a2 a3 a4 a5 l) := by
    intro fl
    rw [journal_Check.j0]
    cases fl with
    | true => rfl
    | false =>
      simp only [Bool.false_eq_true, if_false]
      unfold chk1
      have ht : journal_Check.j1 (k + 1) true a0 a1 a2 a3 a4 a5 l = some 1 := jchk_j1 k true a0 a1 a2 a3 a4 a5 l hl (by omega)
      rw [ht, h4]
      simp only [Option.bind_some]
      rw [jchk_j1 k _ _ _ _ _ _ _ l hl (by omega)]
      by_cases c1 : a1 < 0
      · rw [if_pos c1, if_pos (Or.inl c1)]
      · rw [if_neg c1]
        by_cases c2 : a1 > 2147483647
        · rw [if_pos c2, if_pos (Or.inr (Or.inl c2))]
        · rw [if_neg c2]
          by_cases c3 : mny a2 ∧ mny a3 ∧ mny a4 ∧ mny a5
          · have c4 : ¬ (a1 < 0 ∨ a1 > 2147483647 ∨ ¬ (mny a2 ∧ mny a3 ∧ mny a4 ∧ mny a5)) := fun h => h.elim c1 (fun h => h.elim c2 (fun h => h c3))
            rw [decide_eq_true c3, if_neg c4]
            rfl
          · rw [decide_eq_false c3]
            exact (congrArg some (if_pos (Or.inr (Or.inr c3)))).symm
  unfold journal_Check.f chk
  by_cases c : a0 < 1
  · rw [if_pos c, key, if_pos rfl, if_pos (Or.inl c)]
  · rw [if_neg c, key]
    by_cases c2 : a0 > 18
    · rw [decide_eq_true c2, if_pos rfl, if_pos (Or.inr c2)]
    · rw [decide_eq_false c2, if_neg (by decide), if_neg (fun h : a0 < 1 ∨ a0 > 18 => h.elim c c2)]
theorem great_l (l : List S24) (hl : l.length ≤ 30) (d : Nat) : ∀ (i k : Nat), l.length - i = d → i ≤ l.length → d + 1 ≤ k → ∃ g, papermilllaw61_great.l0 k l (i : Int) = some g ∧ (g = false → ∀ e ∈ l.drop i, e.f6.length ≤ 60) := by
  induction d with
  | zero =>
    intro i k h h1 hk
    obtain ⟨k, rfl⟩ : ∃ m, k = m + 1 := ⟨k - 1, by omega⟩
    refine ⟨false, ?_, fun _ e he => ?_⟩
    · simp only [papermilllaw61_great.l0]
      rw [if_neg (by omega)]
    · rw [List.drop_eq_nil_of_le (by omega)] at he
      simp at he
  | succ d ih =>
    intro i k h h1 hk
    obtain ⟨k, rfl⟩ : ∃ m, k = m + 1 := ⟨k - 1, by omega⟩
    have hlt : i < l.length := by omega
    simp only [papermilllaw61_great.l0]
    rw [if_pos (by omega), if_pos (by omega), show rd_T24 l (i : Int) = l[i] by simp [rd_T24, List.getElem?_eq_getElem hlt]]
    by_cases c : (l[i].f6.length : Int) > 60
    · rw [if_pos c]
      exact ⟨true, rfl, fun h => by cases h⟩
    · rw [if_neg c, w1 i (by omega)]
      obtain ⟨g, g1, g2⟩ := ih (i + 1) k (by omega) (by omega) (by omega)
      refine ⟨g, g1, fun hg e he => ?_⟩
      rw [List.drop_eq_getElem_cons hlt] at he
      rcases List.mem_cons.1 he with rfl | he
      · omega
      · exact g2 hg e he
theorem great_eq (l : List S24) (k : Nat) (hk : 40 ≤ k) : ∃ g, papermilllaw61_great.f k l = some g ∧ (g = false → l.length ≤ 30 ∧ ∀ e ∈ l, e.f6.length ≤ 60) := by
  unfold papermilllaw61_great.f
  by_cases c : (l.length : Int) > 30
  · rw [if_pos c]
    exact ⟨true, rfl, fun h => by cases h⟩
  · rw [if_neg c]
    obtain ⟨g, g1, g2⟩ := great_l l (by omega) l.length 0 k rfl (Nat.zero_le _) (by omega)
    rw [List.drop_zero] at g2
    exact ⟨g, g1, fun h => ⟨by omega, g2 h⟩⟩
end Go.Proofs.YtpcicooogiialaaDoor.Jr
