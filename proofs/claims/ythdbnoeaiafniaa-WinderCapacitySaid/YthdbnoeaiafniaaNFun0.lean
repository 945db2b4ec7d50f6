/- Capacity, Jobs and Left of the program and of the reference come to the same. -/
import Derived.Test.YthdbnoeaiafniaaNSpec0
import Derived.Test.YthdbnoeaiafniaaPXx2
import Derived.Test.YthdbnoeaiafniaaPXx3
import Derived.Test.YthdbnoeaiafniaaPXx4
import Derived.Test.YthdbnoeaiafniaaPXx5
import Derived.Test.YthdbnoeaiafniaaPXx6
import Derived.Test.YthdbnoeaiafniaaPXx8
import Derived.Test.YthdbnoeaiafniaaPXx9
import Derived.Test.YthdbnoeaiafniaaPXx10
import Derived.Test.YthdbnoeaiafniaaPXx12
namespace Go.Proofs.Ythdbnoeaiafniaa.Wind
open Go.RowKit Go.Proofs.Ythdbnoeaiafniaa.PX Go.Proofs.YthdbnoeaiafniaaW.PrintWords Go.Proofs.YthdbnoeaiafniaaW.PrintLast Go.Proofs.YthdbnoeaiafniaaW.PrintMore
set_option linter.unusedVariables false

instance (n : Int) : Decidable (Long n) := by unfold Long; exact inferInstance
theorem awake_true (k : Nat) (hk : 100 ≤ k) : papermilllaw50_awake.f k = some true := by
  have h : papermilllaw50_awake.f 100 = some true := by decide +kernel
  exact at_rounds (fun k => papermilllaw50_awake.mono k) hk h
theorem w1 (i : Nat) (h : i < 9223372036854775000) : wrap64 ((i : Int) + 1) = ((i + 1 : Nat) : Int) := by rw [wrap64_id (by omega) (by omega)]; omega
theorem long_iff (n : Int) : winder_long.f n = some (decide (Long n)) := by
  unfold winder_long.f
  by_cases h : n ≥ 1
  · rw [if_pos h]
    refine congrArg some ?_
    rw [decide_eq_decide]
    unfold Long
    omega
  · rw [if_neg h]
    exact congrArg some (decide_eq_false (by unfold Long; omega)).symm

/-! ### Capacity -/
def capS (reels : List Int) (size : Int) : Int × Int := if (reels.length : Int) > 512 then (0, 8) else if ∀ x ∈ reels, Long x then (if Long size then (tot size reels, 0) else (0, 1)) else (0, 1)
theorem tdiv_ok (x size : Int) (hx : Long x) (hs : Long size) : wrap64 (Int.tdiv x size) = x / size ∧ 0 ≤ x / size ∧ x / size ≤ 17179869184 := by
  unfold Long at *
  have h3 : 0 ≤ x / size := Int.ediv_nonneg (by omega) (by omega)
  have h4 : x / size ≤ x := Int.ediv_le_self _ (by omega)
  rw [Int.tdiv_eq_ediv_of_nonneg (by omega)]
  exact ⟨wrap64_id (by omega) (by omega), h3, by omega⟩
theorem tot_drop (size : Int) (l : List Int) (i : Nat) (h : i < l.length) : tot size (l.drop i) = rd l (i : Int) / size + tot size (l.drop (i + 1)) := by
  rw [drop_rd l i h, tot_cons]
theorem wcap_l1 (reels : List Int) (size : Int) (hl : reels.length ≤ 512) (hr : ∀ x ∈ reels, Long x) (hs : Long size) (d : Nat) : ∀ (i k : Nat) (acc : Int), reels.length - i = d → i ≤ reels.length → 0 ≤ acc → acc ≤ 17179869184 * i → d + 1 ≤ k →
    winder_Capacity.l1 k size acc reels (reels.length : Int) (i : Int) = some (acc + tot size (reels.drop i), 0) ∧ papermillref50_Capacity.l1 k reels size acc (i : Int) = some (acc + tot size (reels.drop i), 0) := by
  induction d with
  | zero =>
    intro i k acc h0 h1 h2 h3 hk
    obtain ⟨k, rfl⟩ : ∃ m, k = m + 1 := ⟨k - 1, by omega⟩
    simp only [winder_Capacity.l1, papermillref50_Capacity.l1]
    rw [if_neg (by omega), if_neg (by omega), List.drop_eq_nil_of_le (by omega)]
    simp [tot]
  | succ d ih =>
    intro i k acc h0 h1 h2 h3 hk
    obtain ⟨k, rfl⟩ : ∃ m, k = m + 1 := ⟨k - 1, by omega⟩
    have hlt : i < reels.length := by omega
    have hx := hr _ (rd_mem reels i hlt)
    obtain ⟨t1, t2, t3⟩ := tdiv_ok _ size hx hs
    have hs0 : ¬ size = 0 := by unfold Long at hs; omega
    have hw : wrap64 (acc + rd reels (i : Int) / size) = acc + rd reels (i : Int) / size := wrap64_id (by omega) (by omega)
    simp only [winder_Capacity.l1, papermillref50_Capacity.l1]
    rw [if_pos (by omega), if_pos (by omega), if_pos (by omega), if_neg hs0, if_pos (by omega), if_pos (by omega), if_neg hs0, t1, hw, w1 i (by omega), tot_drop size reels i hlt, ← Int.add_assoc]
    exact ih (i + 1) k _ (by omega) (by omega) (by omega) (by push_cast; omega) (by omega)
theorem all_drop {p : Int → Prop} (l : List Int) (i : Nat) (h : i < l.length) : (∀ x ∈ l.drop i, p x) ↔ p (rd l (i : Int)) ∧ ∀ x ∈ l.drop (i + 1), p x := by
  rw [drop_rd l i h]
  simp
def capT (reels : List Int) (size : Int) (i : Nat) : Int × Int := if ∀ x ∈ reels.drop i, Long x then (if Long size then (tot size reels, 0) else (0, 1)) else (0, 1)
theorem wcap_l0 (reels : List Int) (size : Int) (hl : reels.length ≤ 512) (d : Nat) : ∀ (i k : Nat), reels.length - i = d → i ≤ reels.length → (∀ x ∈ reels.take i, Long x) → d + reels.length + 4 ≤ k →
    winder_Capacity.l0 k reels size reels (reels.length : Int) (i : Int) = some (capT reels size i) := by
  induction d with
  | zero =>
    intro i k h0 h1 hp hk
    obtain ⟨k, rfl⟩ : ∃ m, k = m + 1 := ⟨k - 1, by omega⟩
    simp only [winder_Capacity.l0]
    obtain rfl : i = reels.length := by omega
    rw [List.take_length] at hp
    rw [if_neg (by omega), long_iff]
    simp only [Option.bind_some, capT, List.drop_length, List.not_mem_nil, false_implies, implies_true, if_true]
    by_cases hs : Long size
    · rw [if_pos (decide_eq_true hs), if_pos hs]
      have := (wcap_l1 reels size hl hp hs reels.length 0 k 0 rfl (Nat.zero_le _) (by omega) (by omega) (by omega)).1
      rw [List.drop_zero, Int.zero_add] at this
      exact this
    · rw [if_neg (by simpa using hs), if_neg hs]
  | succ d ih =>
    intro i k h0 h1 hp hk
    obtain ⟨k, rfl⟩ : ∃ m, k = m + 1 := ⟨k - 1, by omega⟩
    have hlt : i < reels.length := by omega
    simp only [winder_Capacity.l0]
    rw [if_pos (by omega), if_pos (by omega), if_pos (by omega), long_iff]
    simp only [Option.bind_some]
    unfold capT
    by_cases hx : Long (rd reels (i : Int))
    · rw [if_pos (decide_eq_true hx), w1 i (by omega), ih (i + 1) k (by omega) (by omega) ?_ (by omega)]
      · unfold capT
        simp only [all_drop reels i hlt, hx, true_and]
      · intro x hx'
        rw [List.take_add_one, List.getElem?_eq_getElem hlt] at hx'
        rcases List.mem_append.1 hx' with h | h
        · exact hp x h
        · simp at h
          rw [h, ← rd_nat reels i hlt]
          exact hx
    · rw [if_neg (by simpa using hx), if_neg (by rw [all_drop reels i hlt]; exact fun h => hx h.1)]
theorem rcap_l0 (reels : List Int) (size : Int) (hl : reels.length ≤ 512) (d : Nat) : ∀ (i k : Nat), reels.length - i = d → i ≤ reels.length → (∀ x ∈ reels.take i, Long x) → d + reels.length + 4 ≤ k →
    papermillref50_Capacity.l0 k reels size (i : Int) = some (capT reels size i) := by
  induction d with
  | zero =>
    intro i k h0 h1 hp hk
    obtain ⟨k, rfl⟩ : ∃ m, k = m + 2 := ⟨k - 2, by omega⟩
    simp only [papermillref50_Capacity.l0]
    obtain rfl : i = reels.length := by omega
    rw [List.take_length] at hp
    rw [if_neg (by omega)]
    simp only [capT, List.drop_length, List.not_mem_nil, false_implies, implies_true, if_true]
    have fin : papermillref50_Capacity.j1 (k + 1) reels size (decide (¬ Long size)) = some (if Long size then (tot size reels, 0) else (0, 1)) := by
      simp only [papermillref50_Capacity.j1]
      by_cases hs : Long size
      · rw [if_neg (by simpa using hs), if_pos hs]
        have := (wcap_l1 reels size hl hp hs reels.length 0 k 0 rfl (Nat.zero_le _) (by omega) (by omega) (by omega)).2
        rw [List.drop_zero, Int.zero_add] at this
        exact this
      · rw [if_pos (decide_eq_true hs), if_neg hs]
    by_cases h1 : size < 1
    · rw [if_pos h1, ← fin, show decide (¬ Long size) = true by simp [Long]; omega]
    · rw [if_neg h1, ← fin]
      congr 1
      simp [Long]
      omega
  | succ d ih =>
    intro i k h0 h1 hp hk
    obtain ⟨k, rfl⟩ : ∃ m, k = m + 1 := ⟨k - 1, by omega⟩
    have hlt : i < reels.length := by omega
    simp only [papermillref50_Capacity.l0]
    rw [if_pos (by omega), if_pos (by omega)]
    by_cases hx : Long (rd reels (i : Int))
    · rw [if_neg (by unfold Long at hx; omega), if_neg (by unfold Long at hx; omega), w1 i (by omega), ih (i + 1) k (by omega) (by omega) ?_ (by omega)]
      · unfold capT
        simp only [all_drop reels i hlt, hx, true_and]
      · intro x hx'
        rw [List.take_add_one, List.getElem?_eq_getElem hlt] at hx'
        rcases List.mem_append.1 hx' with h | h
        · exact hp x h
        · simp at h
          rw [h, ← rd_nat reels i hlt]
          exact hx
    · unfold capT
      rw [if_neg (show ¬ ∀ x ∈ reels.drop i, Long x by rw [all_drop reels i hlt]; exact fun h => hx h.1)]
      by_cases h1 : rd reels (i : Int) < 1
      · rw [if_pos h1]
      · rw [if_neg h1, if_pos (by unfold Long at hx; omega)]
theorem capT_zero (reels : List Int) (size : Int) (h : ¬ (reels.length : Int) > 512) : capT reels size 0 = capS reels size := by
  unfold capT capS
  rw [List.drop_zero, if_neg h]
theorem wcap (reels : List Int) (size : Int) (k : Nat) (hk : 1100 ≤ k) : winder_Capacity.f k reels size = some (capS reels size) := by
  unfold winder_Capacity.f
  by_cases h : (reels.length : Int) > 512
  · rw [if_pos h]
    unfold capS
    rw [if_pos h]
  · rw [if_neg h, ← capT_zero reels size h]
    exact wcap_l0 reels size (by omega) _ 0 k rfl (Nat.zero_le _) (by simp) (by omega)
theorem rcap (reels : List Int) (size : Int) (k : Nat) (hk : 1100 ≤ k) : papermillref50_Capacity.f k reels size = some (capS reels size) := by
  unfold papermillref50_Capacity.f
  by_cases h : (reels.length : Int) > 512
  · rw [if_pos h]
    unfold capS
    rw [if_pos h]
  · rw [if_neg h, ← capT_zero reels size h]
    exact rcap_l0 reels size (by omega) _ 0 k rfl (Nat.zero_le _) (by simp) (by omega)
/-- What a capacity without error says. -/
theorem capS_ok (reels : List Int) (size : Int) : (capS reels size).2 ≠ 0 ∧ (capS reels size) = (0, (capS reels size).2) ∨ reels.length ≤ 512 ∧ (∀ x ∈ reels, Long x) ∧ Long size ∧ capS reels size = (tot size reels, 0) := by
  unfold capS
  split
  · exact .inl ⟨by decide, rfl⟩
  · split
    · split
      · exact .inr ⟨by omega, by assumption, by assumption, rfl⟩
      · exact .inl ⟨by decide, rfl⟩
    · exact .inl ⟨by decide, rfl⟩
end Go.Proofs.Ythdbnoeaiafniaa.Wind
