/- Sum, Extend, Frame, Open and All of the program and of the reference come to the same. -/
import Derived.Test.YtpcicooogiialaaDoorC1x0G
import Derived.Test.YtpcicooogiialaaDoorPGx5
namespace Go.Proofs.YtpcicooogiialaaDoor.Crc
open Go.RowKit Go.Proofs.YtpcicooogiialaaDoor.PG Go.Proofs.YtpcicooogiialaaDoor.Wire Go.Proofs.YtpcicooogiialaaDoorW.PrintWords Go.Proofs.YtpcicooogiialaaDoorW.PrintLast Go.Proofs.YtpcicooogiialaaDoorW.PrintMore
set_option linter.unusedVariables false

theorem w1 (i : Nat) (h : i < 9223372036854775000) : wrap64 ((i : Int) + 1) = ((i + 1 : Nat) : Int) := by rw [wrap64_id (by omega) (by omega)]; omega
theorem and1_u32 (r : Nat) (h : r < 4294967296) : Go.bits .and .u32 (r : Int) 1 = ((r % 2 : Nat) : Int) := by
  rw [show (1 : Int) = ((1 : Nat) : Int) by rfl, and_u32 r 1 h (by decide)]
  congr 1
  exact Nat.and_two_pow_sub_one_eq_mod r 1
theorem and255_u32 (r : Nat) (h : r < 4294967296) : Go.bits .and .u32 (r : Int) 255 = ((r % 256 : Nat) : Int) := by
  rw [show (255 : Int) = ((255 : Nat) : Int) by rfl, and_u32 r 255 h (by decide)]
  congr 1
  exact Nat.and_two_pow_sub_one_eq_mod r 8
def fourS (s : Nat) : List Int := [((s / 16777216 % 256 : Nat) : Int), ((s / 65536 % 256 : Nat) : Int), ((s / 256 % 256 : Nat) : Int), ((s % 256 : Nat) : Int)]
theorem fourS_len (s : Nat) : (fourS s).length = 4 := rfl
def frameS (l : List Int) : List Int := enc l.length ++ l ++ fourS (sumN l)
def frS (l : List Int) : List Int × Int := if l.length > 65536 then ([], 8) else (frameS l, 0)
theorem frame_eq (l : List Int) (hl : Bytes l) (hn : l.length ≤ 1000000) : crc_Frame.f l = some (frS l) := by
  unfold crc_Frame.f frS
  by_cases h : l.length > 65536
  · rw [if_pos (by omega), if_pos h]
  · have he := enc_len (l.length : Int)
    have hs := sumN_lt l hl
    rw [if_neg (by omega), if_neg h, sum_eq l hl (by omega), wire_put [] _ (by simp) (inI_nat _ (by omega))]
    simp only [Option.bind_some, List.nil_append]
    rw [if_pos (by omega), if_pos (by simp only [List.length_append, List.length_cons, List.length_nil]; omega)]
    unfold frameS fourS
    congr 1
end Go.Proofs.YtpcicooogiialaaDoor.Crc
