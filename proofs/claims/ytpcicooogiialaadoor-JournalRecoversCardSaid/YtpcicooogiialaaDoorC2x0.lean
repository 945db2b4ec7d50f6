/- Sum, Extend, Frame, Open and All of the program and of the reference come to the same. -/
import Derived.Test.YtpcicooogiialaaDoorC1x0
import Derived.Test.YtpcicooogiialaaDoorPXx13
import Derived.Test.YtpcicooogiialaaDoorPXx14
import Derived.Test.YtpcicooogiialaaDoorPXx6
namespace Go.Proofs.YtpcicooogiialaaDoor.Crc
open Go.RowKit Go.Proofs.YtpcicooogiialaaDoor.PX Go.Proofs.YtpcicooogiialaaDoor.Wire Go.Proofs.YtpcicooogiialaaDoorW.PrintWords Go.Proofs.YtpcicooogiialaaDoorW.PrintLast Go.Proofs.YtpcicooogiialaaDoorW.PrintMore
set_option linter.unusedVariables false

theorem w1 (i : Nat) (h : i < 9223372036854775000) : wrap64 ((i : Int) + 1) = ((i + 1 : Nat) : Int) := by rw [wrap64_id (by omega) (by omega)]; omega
theorem and1_u32 (r : Nat) (h : r < 4294967296) : Go.bits .and .u32 (r : Int) 1 = ((r % 2 : Nat) : Int) := by
  rw [show (1 : Int) = ((1 : Nat) : Int) by rfl, and_u32 r 1 h (by decide)]
  congr 1
  exact Nat.and_two_pow_sub_one_eq_mod r 1
theorem and255_u32 (r : Nat) (h : r < 4294967296) : Go.bits .and .u32 (r : Int) 255 = ((r % 256 : Nat) : Int) := by
  rw [show (255 : Int) = ((255 : Nat) : Int) by rfl, and_u32 r 255 h (by decide)]
  congr 1
  exact Nat.and_two_pow_sub_one_eq_mod r 8
theorem shift_l (d : Nat) : ∀ (i k r : Nat), i + d = 8 → r < 4294967296 → d + 1 ≤ k → papermillref09_shift.l0 k (r : Int) (i : Int) = some ((stN d r : Nat) : Int) := by
  induction d with
  | zero =>
    intro i k r h hr hk
    obtain ⟨k, rfl⟩ : ∃ m, k = m + 1 := ⟨k - 1, by omega⟩
    simp only [papermillref09_shift.l0]
    rw [if_neg (by omega)]
    rfl
  | succ d ih =>
    intro i k r h hr hk
    obtain ⟨k, rfl⟩ : ∃ m, k = m + 1 := ⟨k - 1, by omega⟩
    simp only [papermillref09_shift.l0]
    rw [if_pos (by omega), and1_u32 r hr, w1 i (by omega), show (r : Int) / 2 = ((r / 2 : Nat) : Int) by omega]
    have hs : stN (d + 1) r = stN d (st1 r) := rfl
    have hlt := st1_lt r hr
    by_cases h1 : r % 2 = 1
    · rw [if_pos (by omega), show (3988292384 : Int) = ((P32 : Nat) : Int) by rfl, xor_u32 _ _ (by omega) (by decide), ih (i + 1) k _ (by omega) (xor_lt _ _ (by omega) (by decide)) (by omega), hs]
      unfold st1 sel
      rw [if_pos h1]
    · rw [if_neg (by omega), ih (i + 1) k _ (by omega) (by omega) (by omega), hs]
      unfold st1 sel
      rw [if_neg h1, Nat.xor_zero]
theorem shift_eq (r c k : Nat) (hr : r < 4294967296) (hc : c < 256) (hk : 9 ≤ k) : papermillref09_shift.f k (r : Int) (c : Int) = some ((byN r c : Nat) : Int) := by
  unfold papermillref09_shift.f
  rw [show (c : Int) % 4294967296 = (c : Int) by omega, xor_u32 r c hr (by omega)]
  exact shift_l 8 0 k _ rfl (xor_lt _ _ hr (by omega)) (by omega)
theorem rext_l (l : List Int) (hl : Bytes l) (hn : l.length ≤ 100000000) (d : Nat) : ∀ (i k r : Nat), l.length - i = d → i ≤ l.length → r < 4294967296 → d + 10 ≤ k →
    papermillref09_Extend.l0 k l (r : Int) (i : Int) = some ((FF ^^^ runN r (nats (l.drop i)) : Nat) : Int) := by
  induction d with
  | zero =>
    intro i k r h h1 hr hk
    obtain ⟨k, rfl⟩ : ∃ m, k = m + 1 := ⟨k - 1, by omega⟩
    simp only [papermillref09_Extend.l0]
    rw [if_neg (by omega), show (4294967295 : Int) = ((FF : Nat) : Int) by rfl, xor_u32 r FF hr (by decide), List.drop_eq_nil_of_le (by omega), Nat.xor_comm]
    rfl
  | succ d ih =>
    intro i k r h h1 hr hk
    obtain ⟨k, rfl⟩ : ∃ m, k = m + 1 := ⟨k - 1, by omega⟩
    have hlt : i < l.length := by omega
    obtain ⟨b0, b1⟩ := rd_byte hl i hlt
    have hc : rd l (i : Int) = (((rd l (i : Int)).toNat : Nat) : Int) := by omega
    simp only [papermillref09_Extend.l0]
    rw [if_pos (by omega), if_pos (by omega), hc, shift_eq r _ k hr (by omega) (by omega)]
    simp only [Option.bind_some]
    rw [w1 i (by omega), ih (i + 1) k _ (by omega) (by omega) (byN_lt r _ hr (by omega)) (by omega), rd_cons l i hlt]
    rfl
theorem rext_eq (s : Nat) (hs : s < 4294967296) (l : List Int) (hl : Bytes l) (hn : l.length ≤ 100000000) (k : Nat) (hk : l.length + 10 ≤ k) : papermillref09_Extend.f k (s : Int) l = some ((extN s (nats l) : Nat) : Int) := by
  unfold papermillref09_Extend.f
  rw [show (4294967295 : Int) = ((FF : Nat) : Int) by rfl, xor_u32 s FF hs (by decide), Nat.xor_comm]
  have := rext_l l hl hn l.length 0 k (FF ^^^ s) rfl (Nat.zero_le _) (xor_lt _ _ (by decide) hs) hk
  rw [List.drop_zero] at this
  exact this
theorem rsum_eq (l : List Int) (hl : Bytes l) (hn : l.length ≤ 100000000) (k : Nat) (hk : l.length + 10 ≤ k) : papermillref09_Sum.f k l = some ((sumN l : Nat) : Int) := by
  unfold papermillref09_Sum.f
  rw [show (0 : Int) = ((0 : Nat) : Int) by rfl, rext_eq 0 (by decide) l hl hn k hk]
  rfl
theorem same_l (l m : List Int) (hlm : l.length = m.length) (hn : l.length ≤ 100000000) (d : Nat) : ∀ (i k : Nat), l.length - i = d → i ≤ l.length → d + 1 ≤ k → papermillref09_Same.l0 k l m (i : Int) = some (decide (l.drop i = m.drop i)) := by
  induction d with
  | zero =>
    intro i k h h1 hk
    obtain ⟨k, rfl⟩ : ∃ m, k = m + 1 := ⟨k - 1, by omega⟩
    simp only [papermillref09_Same.l0]
    rw [if_neg (by omega), List.drop_eq_nil_of_le (by omega), List.drop_eq_nil_of_le (by omega)]
    simp
  | succ d ih =>
    intro i k h h1 hk
    obtain ⟨k, rfl⟩ : ∃ m, k = m + 1 := ⟨k - 1, by omega⟩
    have hlt : i < l.length := by omega
    simp only [papermillref09_Same.l0]
    rw [if_pos (by omega), if_pos (by omega), if_pos (by omega), rd_cons l i hlt, rd_cons m i (by omega)]
    by_cases he : rd l (i : Int) = rd m (i : Int)
    · rw [if_pos he, w1 i (by omega), ih (i + 1) k (by omega) (by omega) (by omega), he]
      simp
    · rw [if_neg he]
      simp [he]
theorem same_eq (l m : List Int) (hn : l.length ≤ 100000000) (k : Nat) (hk : l.length + 1 ≤ k) : papermillref09_Same.f k l m = some (decide (l = m)) := by
  unfold papermillref09_Same.f
  by_cases h : l.length = m.length
  · rw [if_pos (by omega)]
    have := same_l l m h hn l.length 0 k rfl (Nat.zero_le _) hk
    simpa using this
  · rw [if_neg (by omega)]
    have : l ≠ m := fun e => h (by rw [e])
    simp [this]
def fourS (s : Nat) : List Int := [((s / 16777216 % 256 : Nat) : Int), ((s / 65536 % 256 : Nat) : Int), ((s / 256 % 256 : Nat) : Int), ((s % 256 : Nat) : Int)]
theorem fourS_len (s : Nat) : (fourS s).length = 4 := rfl
theorem four_eq (s : Nat) (hs : s < 4294967296) : papermillref09_four.f (s : Int) = some (fourS s) := by
  unfold papermillref09_four.f fourS
  rw [show (s : Int) / 65536 = ((s / 65536 : Nat) : Int) by omega, show (s : Int) / 256 = ((s / 256 : Nat) : Int) by omega, and255_u32 _ (by omega), and255_u32 _ (by omega), and255_u32 _ (by omega)]
  congr 1
  congr 1
  congr 1
  · omega
  congr 1
  · omega
  congr 1
  omega
def frameS (l : List Int) : List Int := enc l.length ++ l ++ fourS (sumN l)
def frS (l : List Int) : List Int × Int := if l.length > 65536 then ([], 8) else (frameS l, 0)
theorem frame_eq (l : List Int) (hl : Bytes l) (hn : l.length ≤ 1000000) : crc_Frame.f l = some (frS l) := by
  unfold crc_Frame.f frS
  by_cases h : l.length > 65536
  · rw [if_pos (by omega), if_pos h]
  · have he := enc_len (l.length : Int)
    have hs := sumN_lt l hl
    rw [if_neg (by omega), if_neg h, sum_eq l hl (by omega), wire_put [] _ (by simp) (inI_nat _ (by omega))]
    simp only [Option.bind_some, List.nil_append]
    rw [if_pos (by omega), if_pos (by simp only [List.length_append, List.length_cons, List.length_nil]; omega)]
    unfold frameS fourS
    congr 1
theorem rframe_eq (l : List Int) (hl : Bytes l) (hn : l.length ≤ 1000000) (k : Nat) (hk : l.length + 50 ≤ k) : papermillref09_Frame.f k l = some (frS l) := by
  unfold papermillref09_Frame.f frS
  by_cases h : l.length > 65536
  · rw [if_pos (by omega), if_pos h]
  · have he := enc_len (l.length : Int)
    have hs := sumN_lt l hl
    rw [if_neg (by omega), if_neg h, ref_put [] _ (by simp) (inI_nat _ (by omega)) k (by omega)]
    simp only [Option.bind_some, List.nil_append]
    rw [if_pos (by omega), rsum_eq l hl (by omega) k (by omega)]
    simp only [Option.bind_some]
    rw [four_eq _ hs]
    simp only [Option.bind_some]
    rw [if_pos (by simp only [List.length_append, fourS_len]; omega)]
    rfl
end Go.Proofs.YtpcicooogiialaaDoor.Crc
