/- PutInt, PutText, PutList, TakeText and TakeList of the program and of the reference, over lists of numbers. -/
import Derived.Test.YtpcicooogiialaaDoorWPut0Y
import Derived.Test.YtpcicooogiialaaDoorPYx6
namespace Go.Proofs.YtpcicooogiialaaDoor.Wire
open Go.RowKit Go.Proofs.YtpcicooogiialaaDoor.PY Go.Proofs.YtpcicooogiialaaDoorW.PrintWords Go.Proofs.YtpcicooogiialaaDoorW.PrintLast Go.Proofs.YtpcicooogiialaaDoorW.PrintMore
set_option linter.unusedVariables false

theorem ref_code (n : Int) (hn : InI n) : papermillref08_code.f n = some (codeOf n) := by
  unfold papermillref08_code.f codeOf InI at *
  split
  · rw [wrap64_id (n := n + 1) (by omega) (by omega), wrap64_id (n := -(n + 1)) (by omega) (by omega)]
    simp only [IntKind.wrap_u64]
    congr 1
    omega
  · simp only [IntKind.wrap_u64]
    congr 1
    omega
theorem ref_put_l (f : Nat) : ∀ (xs : List Int) (u : Int) (k : Nat), 0 ≤ u → u < 18446744073709551616 → Fit f u → xs.length + f < 140737488355000 → f + 1 ≤ k → papermillref08_PutInt.l0 k xs u = some (xs ++ encU f u) := by
  induction f with
  | zero =>
    intro xs u k h0 h1 hF hl hk
    obtain ⟨k, rfl⟩ : ∃ m, k = m + 1 := ⟨k - 1, by omega⟩
    simp only [Fit] at hF
    simp only [papermillref08_PutInt.l0, encU]
    rw [if_neg (by omega), if_pos (by omega), show u % 256 = u by omega]
  | succ f ih =>
    intro xs u k h0 h1 hF hl hk
    obtain ⟨k, rfl⟩ : ∃ m, k = m + 1 := ⟨k - 1, by omega⟩
    simp only [papermillref08_PutInt.l0, encU]
    by_cases hu : u ≥ 128
    · rw [if_pos hu, if_pos hu, if_pos (by omega), Int.tmod_eq_emod_of_nonneg h0, Int.tdiv_eq_ediv_of_nonneg h0, show IntKind.u64.wrap (u / 128) = u / 128 by rw [IntKind.wrap_u64]; omega, show (u % 128 + 128) % 256 = u % 128 + 128 by omega]
      rw [ih (xs ++ [u % 128 + 128]) (u / 128) k (by omega) (by omega) hF (by simp; omega) (by omega)]
      simp
    · rw [if_neg hu, if_neg hu, if_pos (by omega), show u % 256 = u by omega]
theorem ref_put (l : List Int) (n : Int) (hl : l.length ≤ 140737488350000) (hn : InI n) (k : Nat) (hk : 40 ≤ k) : papermillref08_PutInt.f k l n = some (l ++ enc n) := by
  obtain ⟨h0, h1⟩ := code_range n hn
  unfold papermillref08_PutInt.f
  simp only [Option.bind_some, List.nil_append, List.length_nil, Nat.zero_add]
  rw [if_pos (by omega), ref_code n hn]
  simp only [Option.bind_some]
  exact ref_put_l 9 l _ k h0 h1 (fit9 _ h1) (by omega) (by omega)
theorem ref_list_l (l : List Int) (hl : l.length ≤ 1000000) (hi : ∀ x ∈ l, InI x) (d : Nat) : ∀ (i k : Nat) (acc : List Int), i ≤ l.length → l.length - i = d → acc.length + 10 * d ≤ 100000000 → d + 41 ≤ k → papermillref08_PutList.l0 k l acc (i : Int) = some (acc ++ encL (l.drop i)) := by
  induction d with
  | zero =>
    intro i k acc h0 h1 ha hk
    obtain ⟨k, rfl⟩ : ∃ m, k = m + 1 := ⟨k - 1, by omega⟩
    simp only [papermillref08_PutList.l0]
    rw [if_neg (by omega), List.drop_eq_nil_of_le (by omega)]
    simp [encL]
  | succ d ih =>
    intro i k acc h0 h1 ha hk
    obtain ⟨k, rfl⟩ : ∃ m, k = m + 1 := ⟨k - 1, by omega⟩
    have hlt : i < l.length := by omega
    simp only [papermillref08_PutList.l0]
    rw [if_pos (by omega), if_pos (by omega), ref_put acc _ (by omega) (hi _ (by simp [rd, List.getElem?_eq_getElem hlt])) k (by omega)]
    simp only [Option.bind_some]
    have := enc_len (rd l i)
    rw [show wrap64 ((i : Int) + 1) = ((i + 1 : Nat) : Int) by rw [wrap64_id (by omega) (by omega)]; omega, ih (i + 1) k _ (by omega) (by omega) (by simp; omega) (by omega), rd_cons l i hlt, encL_cons, List.append_assoc]
theorem ref_list (b l : List Int) (hb : b.length ≤ 1000000) (hl : l.length ≤ 1000000) (hi : ∀ x ∈ l, InI x) (k : Nat) (hk : l.length + 80 ≤ k) : papermillref08_PutList.f k b l = some (b ++ enc l.length ++ encL l) := by
  unfold papermillref08_PutList.f
  rw [ref_put b _ (by omega) (inI_nat _ (by omega)) k (by omega)]
  simp only [Option.bind_some]
  have := enc_len l.length
  have h := ref_list_l l hl hi l.length 0 k (b ++ enc l.length) (Nat.zero_le _) rfl (by simp; omega) (by omega)
  rw [List.drop_zero] at h
  exact h
end Go.Proofs.YtpcicooogiialaaDoor.Wire
