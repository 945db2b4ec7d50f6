/- Sum, Extend, Frame, Open and All of the program and of the reference come to the same. -/
import Derived.Test.YtpcicooogiialaaDoorC2x0Y
import Derived.Test.YtpcicooogiialaaDoorWPutRY
import Derived.Test.YtpcicooogiialaaDoorPYx6
namespace Go.Proofs.YtpcicooogiialaaDoor.Crc
open Go.RowKit Go.Proofs.YtpcicooogiialaaDoor.PY Go.Proofs.YtpcicooogiialaaDoor.Wire Go.Proofs.YtpcicooogiialaaDoorW.PrintWords Go.Proofs.YtpcicooogiialaaDoorW.PrintLast Go.Proofs.YtpcicooogiialaaDoorW.PrintMore
set_option linter.unusedVariables false

theorem shift_l (d : Nat) : ∀ (i k r : Nat), i + d = 8 → r < 4294967296 → d + 1 ≤ k → papermillref09_shift.l0 k (r : Int) (i : Int) = some ((stN d r : Nat) : Int) := by
  induction d with
  | zero =>
    intro i k r h hr hk
    obtain ⟨k, rfl⟩ : ∃ m, k = m + 1 := ⟨k - 1, by omega⟩
    simp only [papermillref09_shift.l0]
    rw [if_neg (by omega)]
    rfl
  | succ d ih =>
    intro i k r h hr hk
    obtain ⟨k, rfl⟩ : ∃ m, k = m + 1 := ⟨k - 1, by omega⟩
    simp only [papermillref09_shift.l0]
    rw [if_pos (by omega), and1_u32 r hr, w1 i (by omega), show (r : Int) / 2 = ((r / 2 : Nat) : Int) by omega]
    have hs : stN (d + 1) r = stN d (st1 r) := rfl
    have hlt := st1_lt r hr
    by_cases h1 : r % 2 = 1
    · rw [if_pos (by omega), show (3988292384 : Int) = ((P32 : Nat) : Int) by rfl, xor_u32 _ _ (by omega) (by decide), ih (i + 1) k _ (by omega) (xor_lt _ _ (by omega) (by decide)) (by omega), hs]
      unfold st1 sel
      rw [if_pos h1]
    · rw [if_neg (by omega), ih (i + 1) k _ (by omega) (by omega) (by omega), hs]
      unfold st1 sel
      rw [if_neg h1, Nat.xor_zero]
theorem shift_eq (r c k : Nat) (hr : r < 4294967296) (hc : c < 256) (hk : 9 ≤ k) : papermillref09_shift.f k (r : Int) (c : Int) = some ((byN r c : Nat) : Int) := by
  unfold papermillref09_shift.f
  rw [show (c : Int) % 4294967296 = (c : Int) by omega, xor_u32 r c hr (by omega)]
  exact shift_l 8 0 k _ rfl (xor_lt _ _ hr (by omega)) (by omega)
theorem rext_l (l : List Int) (hl : Bytes l) (hn : l.length ≤ 100000000) (d : Nat) : ∀ (i k r : Nat), l.length - i = d → i ≤ l.length → r < 4294967296 → d + 10 ≤ k →
    papermillref09_Extend.l0 k l (r : Int) (i : Int) = some ((FF ^^^ runN r (nats (l.drop i)) : Nat) : Int) := by
  induction d with
  | zero =>
    intro i k r h h1 hr hk
    obtain ⟨k, rfl⟩ : ∃ m, k = m + 1 := ⟨k - 1, by omega⟩
    simp only [papermillref09_Extend.l0]
    rw [if_neg (by omega), show (4294967295 : Int) = ((FF : Nat) : Int) by rfl, xor_u32 r FF hr (by decide), List.drop_eq_nil_of_le (by omega), Nat.xor_comm]
    rfl
  | succ d ih =>
    intro i k r h h1 hr hk
    obtain ⟨k, rfl⟩ : ∃ m, k = m + 1 := ⟨k - 1, by omega⟩
    have hlt : i < l.length := by omega
    obtain ⟨b0, b1⟩ := rd_byte hl i hlt
    have hc : rd l (i : Int) = (((rd l (i : Int)).toNat : Nat) : Int) := by omega
    simp only [papermillref09_Extend.l0]
    rw [if_pos (by omega), if_pos (by omega), hc, shift_eq r _ k hr (by omega) (by omega)]
    simp only [Option.bind_some]
    rw [w1 i (by omega), ih (i + 1) k _ (by omega) (by omega) (byN_lt r _ hr (by omega)) (by omega), rd_cons l i hlt]
    rfl
theorem rext_eq (s : Nat) (hs : s < 4294967296) (l : List Int) (hl : Bytes l) (hn : l.length ≤ 100000000) (k : Nat) (hk : l.length + 10 ≤ k) : papermillref09_Extend.f k (s : Int) l = some ((extN s (nats l) : Nat) : Int) := by
  unfold papermillref09_Extend.f
  rw [show (4294967295 : Int) = ((FF : Nat) : Int) by rfl, xor_u32 s FF hs (by decide), Nat.xor_comm]
  have := rext_l l hl hn l.length 0 k (FF ^^^ s) rfl (Nat.zero_le _) (xor_lt _ _ (by decide) hs) hk
  rw [List.drop_zero] at this
  exact this
theorem rsum_eq (l : List Int) (hl : Bytes l) (hn : l.length ≤ 100000000) (k : Nat) (hk : l.length + 10 ≤ k) : papermillref09_Sum.f k l = some ((sumN l : Nat) : Int) := by
  unfold papermillref09_Sum.f
  rw [show (0 : Int) = ((0 : Nat) : Int) by rfl, rext_eq 0 (by decide) l hl hn k hk]
  rfl
theorem four_eq (s : Nat) (hs : s < 4294967296) : papermillref09_four.f (s : Int) = some (fourS s) := by
  unfold papermillref09_four.f fourS
  rw [show (s : Int) / 65536 = ((s / 65536 : Nat) : Int) by omega, show (s : Int) / 256 = ((s / 256 : Nat) : Int) by omega, and255_u32 _ (by omega), and255_u32 _ (by omega), and255_u32 _ (by omega)]
  congr 1
  congr 1
  congr 1
  · omega
  congr 1
  · omega
  congr 1
  omega
theorem rframe_eq (l : List Int) (hl : Bytes l) (hn : l.length ≤ 1000000) (k : Nat) (hk : l.length + 50 ≤ k) : papermillref09_Frame.f k l = some (frS l) := by
  unfold papermillref09_Frame.f frS
  by_cases h : l.length > 65536
  · rw [if_pos (by omega), if_pos h]
  · have he := enc_len (l.length : Int)
    have hs := sumN_lt l hl
    rw [if_neg (by omega), if_neg h, ref_put [] _ (by simp) (inI_nat _ (by omega)) k (by omega)]
    simp only [Option.bind_some, List.nil_append]
    rw [if_pos (by omega), rsum_eq l hl (by omega) k (by omega)]
    simp only [Option.bind_some]
    rw [four_eq _ hs]
    simp only [Option.bind_some]
    rw [if_pos (by simp only [List.length_append, fourS_len]; omega)]
    rfl
end Go.Proofs.YtpcicooogiialaaDoor.Crc
