/- Frame returns the specified bytes, or the error; at most 400 bytes, up to 400 times. Conditions: none. -/
import Derived.Test.YtdnjbakhnnckbaaDoorC2x0
namespace Go.Proofs.YtdnjbakhnnckbaaDoor.Pure
open Go.RowKit Go.Proofs.YtdnjbakhnnckbaaDoor.PX Go.Proofs.YtdnjbakhnnckbaaDoor.Wire Go.Proofs.YtdnjbakhnnckbaaDoor.Crc Go.Proofs.YtdnjbakhnnckbaaDoorW.PrintWords Go.Proofs.YtdnjbakhnnckbaaDoorW.PrintLast
set_option linter.unusedVariables false
theorem frames_l (l : List Int) (hb : Bytes l) (hl : l.length ≤ 400) (t : Int) (ht0 : 0 ≤ t) (ht : t ≤ 400) (d : Nat) : ∀ (i k : Nat) (acc : List Int), (t : Int) = ((i + d : Nat) : Int) → acc.length = i * l.length → Bytes acc → d + 200100 ≤ k → papermilllaw09_CrcFrames.l0 k l t acc (i : Int) = some true := by
  induction d with
  | zero =>
    intro i k acc h ha hab hk
    obtain ⟨k, rfl⟩ : ∃ m, k = m + 1 := ⟨k - 1, by omega⟩
    have hm : i * l.length ≤ 400 * 400 := Nat.mul_le_mul (by omega) hl
    simp only [papermilllaw09_CrcFrames.l0]
    rw [wrap64_id (n := t) (by omega) (by omega), if_neg (by omega), frame_eq acc hab (by omega), rframe_eq acc hab (by omega) k (by omega)]
    simp only [Option.bind_some]
    have hlen : (frS acc).1.length ≤ 200000 := by
      unfold frS frameS
      have := enc_len (acc.length : Int)
      split
      · simp
      · simp only [List.length_append, fourS_len]; omega
    rw [same_eq _ _ (by omega) _ (by omega)]
    simp only [Option.bind_some, decide_true, if_true]
    rw [awake_true _ (by omega)]
    rfl
  | succ d ih =>
    intro i k acc h ha hab hk
    obtain ⟨k, rfl⟩ : ∃ m, k = m + 1 := ⟨k - 1, by omega⟩
    have hm : i * l.length ≤ 400 * 400 := Nat.mul_le_mul (by omega) hl
    simp only [papermilllaw09_CrcFrames.l0]
    rw [wrap64_id (n := t) (by omega) (by omega), if_pos (by omega), if_pos (by omega), w1 i (by omega)]
    exact ih (i + 1) k _ (by omega) (by rw [List.length_append, Nat.add_mul]; omega) (hab.append hb) (by omega)
theorem CrcFrames : papermilllaw09_CrcFrames.Pure := by
  intro l0 a1 h0 h1 h2 h3
  refine ⟨300000, ?_⟩
  have hb := bytes_of_wf l0 h2
  have h3' : 0 ≤ a1 := by
    simp [Lit.wf, IntKind.min, IntKind.max, IntKind.signed, IntKind.bits] at h3
    omega
  have key : papermilllaw09_CrcFrames.j0 300000 l0 a1 true = some true := by
    simp only [papermilllaw09_CrcFrames.j0, if_true]
    rw [awake_true _ (by decide)]
    rfl
  unfold papermilllaw09_CrcFrames.f
  split
  · exact key
  · by_cases hl : a1 > 400
    · rw [decide_eq_true hl]
      exact key
    · rw [decide_eq_false hl]
      simp only [papermilllaw09_CrcFrames.j0]
      rw [if_neg (by decide)]
      exact frames_l l0 hb (by omega) a1 h3' (by omega) a1.toNat 0 _ [] (by omega) (by simp) (fun _ h => by cases h) (by omega)
end Go.Proofs.YtdnjbakhnnckbaaDoor.Pure
