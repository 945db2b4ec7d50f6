/- Append of the program and of the reference, over lists of numbers. Conditions: numbers of 64 bits, lists of at most 1000000 numbers. -/
import Derived.Test.YtpcicooogiialaaDoorJP1G
import Derived.Test.YtpcicooogiialaaDoorC4x0G
import Derived.Test.YtpcicooogiialaaDoorPGx5
namespace Go.Proofs.YtpcicooogiialaaDoor.Jr
open Go.RowKit Go.Proofs.YtpcicooogiialaaDoor.PG Go.Proofs.YtpcicooogiialaaDoor.Wire Go.Proofs.YtpcicooogiialaaDoor.Crc Go.Proofs.YtpcicooogiialaaDoorW.PrintWords Go.Proofs.YtpcicooogiialaaDoorW.PrintLast Go.Proofs.YtpcicooogiialaaDoorW.PrintMore
set_option linter.unusedVariables false

/-! ### Append -/
def appS (b : List Int) (a0 a1 a2 a3 a4 a5 : Int) (l : List Int) : List Int × Int := if chk a0 a1 a2 a3 a4 a5 l = 0 then (b ++ frameS (contS a0 a1 a2 a3 a4 a5 l), 0) else ([], chk a0 a1 a2 a3 a4 a5 l)
theorem japp_eq (b : List Int) (hb : b.length ≤ 1000000) (a0 a1 a2 a3 a4 a5 : Int) (l : List Int) (hl : l.length ≤ 1000000) (k : Nat) (hk : l.length + 200 ≤ k) : journal_Append.f k b a0 a1 a2 a3 a4 a5 l = some (appS b a0 a1 a2 a3 a4 a5 l) := by
  unfold journal_Append.f appS
  rw [jput_eq a0 a1 a2 a3 a4 a5 l hl k hk]
  simp only [Option.bind_some]
  by_cases c : chk a0 a1 a2 a3 a4 a5 l = 0
  · have ok := chk_ok.1 c
    have h1 := contS_len a0 a1 a2 a3 a4 a5 l
    have h2 := ok.kl
    have h3 := frameS_len (contS a0 a1 a2 a3 a4 a5 l)
    have h4 := enc_len ((contS a0 a1 a2 a3 a4 a5 l).length : Int)
    rw [putS_ok c, if_pos c]
    simp only [if_true]
    rw [frame_eq _ (contS_bytes ok) (by omega), show frS (contS a0 a1 a2 a3 a4 a5 l) = (frameS (contS a0 a1 a2 a3 a4 a5 l), 0) by unfold frS; rw [if_neg (by omega)]]
    simp only [Option.bind_some, if_true, List.nil_append, List.length_nil, Nat.zero_add]
    rw [if_pos (by omega), if_pos (by omega)]
  · rw [putS_no c, if_neg c]
    simp only
    rw [if_neg c]
end Go.Proofs.YtpcicooogiialaaDoor.Jr
