/- A proper beginning of a frame is refused with ErrTruncated; contents of at most 4000 bytes. Conditions: none. -/
import Derived.Test.YtdnjbakhnnckbaaDoorC4x0
import Derived.Test.YtdnjbakhnnckbaaDoorPXx15
namespace Go.Proofs.YtdnjbakhnnckbaaDoor.Pure
open Go.RowKit Go.Proofs.YtdnjbakhnnckbaaDoor.PX Go.Proofs.YtdnjbakhnnckbaaDoor.Wire Go.Proofs.YtdnjbakhnnckbaaDoor.Crc Go.Proofs.YtdnjbakhnnckbaaDoorW.PrintWords Go.Proofs.YtdnjbakhnnckbaaDoorW.PrintLast
set_option linter.unusedVariables false
theorem CrcCuts : papermilllaw09_CrcCuts.Pure := by
  intro l0 a1 h0 h1 h2 h3
  refine ⟨5000, ?_⟩
  have hb := bytes_of_wf l0 h2
  have h3' : 0 ≤ a1 ∧ a1 < 65536 := by
    simp [Lit.wf, IntKind.min, IntKind.max, IntKind.signed, IntKind.bits] at h3
    omega
  unfold papermilllaw09_CrcCuts.f
  split
  · rw [awake_true _ (by decide)]
    rfl
  · have hlen := frameS_len l0
    have hel := enc_len (l0.length : Int)
    rw [frame_eq l0 hb (by omega), show frS l0 = (frameS l0, 0) by unfold frS; rw [if_neg (by omega)]]
    simp only [Option.bind_some, if_true]
    rw [decide_eq_false (by omega)]
    simp only [papermilllaw09_CrcCuts.j0]
    have ht : Int.tmod (wrap64 a1) ((frameS l0).length : Int) = ((a1.toNat % (frameS l0).length : Nat) : Int) := by
      rw [wrap64_id (by omega) (by omega), show a1 = ((a1.toNat : Nat) : Int) by omega]
      rfl
    have hlt : a1.toNat % (frameS l0).length < (frameS l0).length := Nat.mod_lt _ (by omega)
    rw [if_neg (by decide), if_neg (by omega), ht, if_pos (by omega), if_pos (by omega), Int.toNat_natCast, open_eq _ ((frameS_bytes l0 hb (by omega)).take _) (by rw [List.length_take]; omega) _ (by decide), open_cut l0 (by omega) _ hlt]
    simp only [Option.bind_some, List.length_nil]
    rw [if_pos (by decide), if_pos trivial, if_pos trivial, awake_true _ (by decide)]
    rfl
end Go.Proofs.YtdnjbakhnnckbaaDoor.Pure
