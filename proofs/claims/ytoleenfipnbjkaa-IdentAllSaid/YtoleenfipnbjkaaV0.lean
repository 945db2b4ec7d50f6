/- Valid of the program and of the reference are one function of the string. -/
import Derived.Test.YtoleenfipnbjkaaPXx
namespace Go.Proofs.Ytoleenfipnbjkaa.Tab
open Go.RowKit Go.Proofs.Ytoleenfipnbjkaa.PX Go.Proofs.YtoleenfipnbjkaaW.PrintWords Go.Proofs.YtoleenfipnbjkaaW.PrintLast Go.Proofs.YtoleenfipnbjkaaW.PrintMore
set_option linter.unusedVariables false
def letB (c : Int) : Bool := decide (97 ≤ c ∧ c ≤ 122 ∨ 65 ≤ c ∧ c ≤ 90)
def okB (c : Int) : Bool := decide (97 ≤ c ∧ c ≤ 122 ∨ 65 ≤ c ∧ c ≤ 90 ∨ 48 ≤ c ∧ c ≤ 57 ∨ c = 45 ∨ c = 95 ∨ c = 46)
def allB (s : ByteArray) (i : Nat) : Nat → Bool
  | 0 => true
  | d + 1 => okB (bt s (i : Int)) && allB s (i + 1) d
def validB (s : ByteArray) : Bool := decide (1 ≤ s.size ∧ s.size ≤ 32) && (letB (bt s 0) && allB s 0 s.size)
theorem wrap64_id {n : Int} (h0 : -9223372036854775808 ≤ n) (h1 : n < 9223372036854775808) : wrap64 n = n := by unfold wrap64; omega
theorem letter_p (c : Int) : ident_letter.f c = some (letB c) := by
  unfold ident_letter.f letB
  repeat' split
  all_goals (congr 1; first | (symm; exact decide_eq_true (by omega)) | (symm; exact decide_eq_false (by omega)) | exact decide_eq_decide.2 (by omega))
theorem letter_r (c : Int) : papermillref06_letter.f c = some (letB c) := by
  unfold papermillref06_letter.f letB
  repeat' split
  all_goals (congr 1; first | (symm; exact decide_eq_true (by omega)) | (symm; exact decide_eq_false (by omega)) | exact decide_eq_decide.2 (by omega))
theorem loop_p (s : ByteArray) (hs : s.size ≤ 32) (d : Nat) : ∀ (i k : Nat), i + d = s.size → d + 1 ≤ k → ident_Valid.l0 k s (s.size : Int) (i : Int) = some (allB s i d) := by
  induction d with
  | zero =>
    intro i k h hk
    obtain ⟨k, rfl⟩ : ∃ m, k = m + 1 := ⟨k - 1, by omega⟩
    simp only [ident_Valid.l0, allB]
    rw [if_neg (by omega)]
  | succ d ih =>
    intro i k h hk
    obtain ⟨k, rfl⟩ : ∃ m, k = m + 1 := ⟨k - 1, by omega⟩
    simp only [ident_Valid.l0, allB]
    rw [if_pos (by omega), if_pos (by omega), if_pos (by omega), letter_p, show wrap64 ((i : Int) + 1) = ((i + 1 : Nat) : Int) by rw [wrap64_id (by omega) (by omega)]; omega, ih (i + 1) k (by omega) (by omega)]
    simp only [Option.bind_some]
    generalize bt s (i : Int) = c
    generalize allB s (i + 1) d = r
    unfold letB okB
    by_cases hok : 97 ≤ c ∧ c ≤ 122 ∨ 65 ≤ c ∧ c ≤ 90 ∨ 48 ≤ c ∧ c ≤ 57 ∨ c = 45 ∨ c = 95 ∨ c = 46
    · rw [decide_eq_true hok]
      simp only [decide_eq_true_eq, Bool.true_and]
      repeat' split
      all_goals first | rfl | (exfalso; omega)
    · rw [decide_eq_false hok]
      simp only [decide_eq_true_eq, Bool.false_and]
      repeat' split
      all_goals first | rfl | (exfalso; omega)
theorem loop_r (s : ByteArray) (hs : s.size ≤ 32) (d : Nat) : ∀ (i k : Nat), i + d = s.size → d + 1 ≤ k → papermillref06_Valid.l0 k s (i : Int) = some (allB s i d) := by
  induction d with
  | zero =>
    intro i k h hk
    obtain ⟨k, rfl⟩ : ∃ m, k = m + 1 := ⟨k - 1, by omega⟩
    simp only [papermillref06_Valid.l0, allB]
    rw [if_neg (by omega)]
  | succ d ih =>
    intro i k h hk
    obtain ⟨k, rfl⟩ : ∃ m, k = m + 1 := ⟨k - 1, by omega⟩
    simp only [papermillref06_Valid.l0, allB]
    rw [if_pos (by omega), if_pos (by omega), letter_r, show wrap64 ((i : Int) + 1) = ((i + 1 : Nat) : Int) by rw [wrap64_id (by omega) (by omega)]; omega, ih (i + 1) k (by omega) (by omega)]
    simp only [Option.bind_some]
    generalize bt s (i : Int) = c
    generalize allB s (i + 1) d = r
    unfold letB okB
    by_cases hok : 97 ≤ c ∧ c ≤ 122 ∨ 65 ≤ c ∧ c ≤ 90 ∨ 48 ≤ c ∧ c ≤ 57 ∨ c = 45 ∨ c = 95 ∨ c = 46
    · rw [decide_eq_true hok]
      simp only [decide_eq_true_eq, Bool.true_and]
      repeat' split
      all_goals first | rfl | (exfalso; omega)
    · rw [decide_eq_false hok]
      simp only [decide_eq_true_eq, Bool.false_and]
      repeat' split
      all_goals first | rfl | (exfalso; omega)
theorem valid_p (s : ByteArray) (k : Nat) (hk : 40 ≤ k) : ident_Valid.f k s = some (validB s) := by
  obtain ⟨k, rfl⟩ : ∃ m, k = m + 1 := ⟨k - 1, by omega⟩
  unfold ident_Valid.f validB
  by_cases h1 : (s.size : Int) < 1
  · rw [if_pos h1, decide_eq_false (by omega)]
    rfl
  · rw [if_neg h1]
    by_cases h2 : (s.size : Int) > 32
    · rw [if_pos h2, decide_eq_false (by omega)]
      rfl
    · rw [if_neg h2, if_pos (by omega), letter_p, decide_eq_true (by omega)]
      simp only [Option.bind_some, ident_Valid.j0, Bool.true_and]
      have h := loop_p s (by omega) s.size 0 k (by omega) (by omega)
      cases hl : letB (bt s 0) with
      | false => rfl
      | true => exact h
theorem valid_r (s : ByteArray) (k : Nat) (hk : 40 ≤ k) : papermillref06_Valid.f k s = some (validB s) := by
  obtain ⟨k, rfl⟩ : ∃ m, k = m + 1 := ⟨k - 1, by omega⟩
  unfold papermillref06_Valid.f validB
  by_cases h1 : (s.size : Int) < 1
  · rw [if_pos h1, decide_eq_false (by omega)]
    rfl
  · rw [if_neg h1]
    by_cases h2 : (s.size : Int) > 32
    · rw [if_pos h2, decide_eq_false (by omega)]
      rfl
    · rw [if_neg h2, if_pos (by omega), letter_r, decide_eq_true (by omega)]
      simp only [Option.bind_some, papermillref06_Valid.j0, Bool.true_and]
      have h := loop_r s (by omega) s.size 0 k (by omega) (by omega)
      cases hl : letB (bt s 0) with
      | false => rfl
      | true => exact h
end Go.Proofs.Ytoleenfipnbjkaa.Tab
