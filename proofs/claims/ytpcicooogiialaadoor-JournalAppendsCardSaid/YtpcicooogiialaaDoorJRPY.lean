/- Check and Put of the reference come to the program's closed answers. Conditions: numbers of 64 bits, lists of at most 1000000 numbers. -/
import Derived.Test.YtpcicooogiialaaDoorJP1Y
import Derived.Test.YtpcicooogiialaaDoorWPutRY
import Derived.Test.YtpcicooogiialaaDoorPYx5
import Derived.Test.YtpcicooogiialaaDoorPYx6
import Derived.Test.YtpcicooogiialaaDoorPYx4
namespace Go.Proofs.YtpcicooogiialaaDoor.Jr
open Go.RowKit Go.Proofs.YtpcicooogiialaaDoor.PY Go.Proofs.YtpcicooogiialaaDoor.Wire Go.Proofs.YtpcicooogiialaaDoorW.PrintWords Go.Proofs.YtpcicooogiialaaDoorW.PrintLast Go.Proofs.YtpcicooogiialaaDoorW.PrintMore
set_option linter.unusedVariables false

theorem money_eq (x : Int) : papermillref61_money.f x = some (decide (mny x)) := by
  unfold papermillref61_money.f
  by_cases h : x ≥ -1000000000000
  · rw [if_pos h, decide_eq_decide.mpr (show x ≤ 1000000000000 ↔ mny x by unfold mny; omega)]
  · rw [if_neg h, decide_eq_false (show ¬ mny x by unfold mny; omega)]
theorem rchk_l (a0 a1 a2 a3 a4 a5 : Int) (l : List Int) (hl : l.length ≤ 1000000) (d : Nat) : ∀ (i k : Nat), l.length - i = d → i ≤ l.length → d + 1 ≤ k → papermillref61_Check.l0 k (i : Int) a0 a1 a2 a3 a4 a5 l = some (if (∀ x ∈ l.drop i, mny x) then 0 else 1) := by
  induction d with
  | zero =>
    intro i k h h1 hk
    obtain ⟨k, rfl⟩ : ∃ m, k = m + 1 := ⟨k - 1, by omega⟩
    simp only [papermillref61_Check.l0]
    rw [if_neg (by omega), List.drop_eq_nil_of_le (by omega), if_pos (fun x hx => by simp at hx)]
  | succ d ih =>
    intro i k h h1 hk
    obtain ⟨k, rfl⟩ : ∃ m, k = m + 1 := ⟨k - 1, by omega⟩
    have hlt : i < l.length := by omega
    simp only [papermillref61_Check.l0]
    rw [if_pos (by omega), if_pos (by omega), rd_cons l i hlt, money_eq]
    simp only [Option.bind_some, decide_eq_true_eq]
    by_cases c : mny (rd l (i : Int))
    · rw [if_pos c, w1 i (by omega), ih (i + 1) k (by omega) (by omega) (by omega)]
      congr 1
      simp only [List.mem_cons, forall_eq_or_imp, c, true_and]
    · rw [if_neg c, if_neg]
      intro h2
      exact c (h2 (rd l (i : Int)) (by simp))
theorem rchk_j1 (k : Nat) (fl : Bool) (a0 a1 a2 a3 a4 a5 : Int) (l : List Int) (hl : l.length ≤ 1000000) (hk : l.length + 1 ≤ k) : papermillref61_Check.j1 (k + 1) fl a0 a1 a2 a3 a4 a5 l = some (if fl = true then 1 else chk2 l) := by
  rw [papermillref61_Check.j1]
  cases fl with
  | true => rfl
  | false =>
    simp only [Bool.false_eq_true, if_false]
    unfold chk2
    by_cases h : l.length > 32
    · rw [if_pos (by omega), if_pos h]
    · rw [if_neg (by omega), if_neg h]
      have := rchk_l a0 a1 a2 a3 a4 a5 l hl l.length 0 k rfl (Nat.zero_le _) hk
      rw [List.drop_zero] at this
      exact this
theorem rchk_eq (a0 a1 a2 a3 a4 a5 : Int) (l : List Int) (hl : l.length ≤ 1000000) (k : Nat) (hk : l.length + 20 ≤ k) : papermillref61_Check.f k a0 a1 a2 a3 a4 a5 l = some (chk a0 a1 a2 a3 a4 a5 l) := by
  obtain ⟨k, rfl⟩ : ∃ m, k = m + 2 := ⟨k - 2, by omega⟩
  have key : ∀ fl : Bool, papermillref61_Check.j0 (k + 2) fl a0 a1 a2 a3 a4 a5 l = some (if fl = true then 17 else chk1 a1 a2 a3 a4 a5 l) := by
    intro fl
    rw [papermillref61_Check.j0]
    cases fl with
    | true => rfl
    | false =>
      simp only [Bool.false_eq_true, if_false]
      unfold chk1
      have ht : papermillref61_Check.j1 (k + 1) true a0 a1 a2 a3 a4 a5 l = some 1 := rchk_j1 k true a0 a1 a2 a3 a4 a5 l hl (by omega)
      rw [money_eq, money_eq, money_eq, money_eq, ht]
      simp only [Option.bind_some, decide_eq_true_eq]
      rw [rchk_j1 k _ _ _ _ _ _ _ l hl (by omega)]
      by_cases c1 : a1 < 0
      · rw [if_pos c1, if_pos (Or.inl c1)]
      · rw [if_neg c1]
        by_cases c2 : a1 > 2147483647
        · rw [if_pos c2, if_pos (Or.inr (Or.inl c2))]
        · rw [if_neg c2]
          have key : ∀ p : Prop, ¬ p → (p ↔ (mny a2 ∧ mny a3 ∧ mny a4 ∧ mny a5)) → some (1 : Int) = some (if a1 < 0 ∨ a1 > 2147483647 ∨ ¬ (mny a2 ∧ mny a3 ∧ mny a4 ∧ mny a5) then 1 else chk2 l) := by
            intro p h1 h2
            rw [if_pos (Or.inr (Or.inr (fun h => h1 (h2.2 h))))]
          by_cases c3 : mny a2
          · rw [if_pos c3]
            by_cases c4 : mny a3
            · rw [if_pos c4]
              by_cases c5 : mny a4
              · rw [if_pos c5]
                by_cases c6 : mny a5
                · have c7 : ¬ (a1 < 0 ∨ a1 > 2147483647 ∨ ¬ (mny a2 ∧ mny a3 ∧ mny a4 ∧ mny a5)) := fun h => h.elim c1 (fun h => h.elim c2 (fun h => h ⟨c3, c4, c5, c6⟩))
                  rw [decide_eq_true c6, if_neg c7]
                  rfl
                · rw [decide_eq_false c6]
                  exact key _ (fun h : mny a2 ∧ mny a3 ∧ mny a4 ∧ mny a5 => c6 h.2.2.2) Iff.rfl
              · rw [if_neg c5]
                exact key _ (fun h : mny a2 ∧ mny a3 ∧ mny a4 ∧ mny a5 => c5 h.2.2.1) Iff.rfl
            · rw [if_neg c4]
              exact key _ (fun h : mny a2 ∧ mny a3 ∧ mny a4 ∧ mny a5 => c4 h.2.1) Iff.rfl
          · rw [if_neg c3]
            exact key _ (fun h : mny a2 ∧ mny a3 ∧ mny a4 ∧ mny a5 => c3 h.1) Iff.rfl
  unfold papermillref61_Check.f chk
  by_cases c : a0 < 1
  · rw [if_pos c, key, if_pos rfl, if_pos (Or.inl c)]
  · rw [if_neg c, key]
    by_cases c2 : a0 > 18
    · rw [decide_eq_true c2, if_pos rfl, if_pos (Or.inr c2)]
    · rw [decide_eq_false c2, if_neg (by decide), if_neg (fun h : a0 < 1 ∨ a0 > 18 => h.elim c c2)]
theorem rput_l (xs : List Int) (hxs : xs.length ≤ 100) (hi : ∀ x ∈ xs, InI x) (a0 a1 a2 a3 a4 a5 : Int) (l : List Int) (hl : l.length ≤ 1000000) (hil : ∀ x ∈ l, InI x) (d : Nat) : ∀ (i k : Nat) (b : List Int), xs.length - i = d → i ≤ xs.length → b.length + 10 * d ≤ 100000 → d + l.length + 100 ≤ k →
    papermillref61_Put.l0 k xs b (i : Int) a0 a1 a2 a3 a4 a5 l = some (b ++ encL (xs.drop i) ++ enc l.length ++ encL l, 0) := by
  induction d with
  | zero =>
    intro i k b h h1 hb hk
    obtain ⟨k, rfl⟩ : ∃ m, k = m + 1 := ⟨k - 1, by omega⟩
    simp only [papermillref61_Put.l0]
    rw [if_neg (by omega), List.drop_eq_nil_of_le (by omega), ref_list b l (by omega) hl hil k (by omega)]
    simp [encL]
  | succ d ih =>
    intro i k b h h1 hb hk
    obtain ⟨k, rfl⟩ : ∃ m, k = m + 1 := ⟨k - 1, by omega⟩
    have hlt : i < xs.length := by omega
    have hin : InI (rd xs (i : Int)) := by
      rw [show rd xs (i : Int) = xs[i] by simp [rd, List.getElem?_eq_getElem hlt]]
      exact hi _ (List.getElem_mem _)
    have he := enc_len (rd xs (i : Int))
    simp only [papermillref61_Put.l0]
    rw [if_pos (by omega), if_pos (by omega), ref_put b _ (by omega) hin k (by omega)]
    simp only [Option.bind_some]
    rw [w1 i (by omega), ih (i + 1) k _ (by omega) (by omega) (by rw [List.length_append]; omega) (by omega), rd_cons xs i hlt, encL_cons]
    simp only [List.append_assoc]
theorem rput_eq (a0 a1 a2 a3 a4 a5 : Int) (l : List Int) (hl : l.length ≤ 1000000) (k : Nat) (hk : l.length + 200 ≤ k) : papermillref61_Put.f k a0 a1 a2 a3 a4 a5 l = some (putS a0 a1 a2 a3 a4 a5 l) := by
  unfold papermillref61_Put.f putS
  rw [rchk_eq a0 a1 a2 a3 a4 a5 l hl k (by omega)]
  simp only [Option.bind_some]
  by_cases c : chk a0 a1 a2 a3 a4 a5 l = 0
  · have ok := chk_ok.1 c
    rw [if_pos c, if_pos c]
    have := rput_l [a0, a1, a2, a3, a4, a5] (by simp) ok.six a0 a1 a2 a3 a4 a5 l hl ok.list 6 0 k [] rfl (Nat.zero_le _) (by simp) (by omega)
    rw [List.drop_zero, List.nil_append] at this
    exact this
  · rw [if_neg c, if_neg c]

end Go.Proofs.YtpcicooogiialaaDoor.Jr
