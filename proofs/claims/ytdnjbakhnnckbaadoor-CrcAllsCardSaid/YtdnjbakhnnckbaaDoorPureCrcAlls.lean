/- All returns the specified contents, and the number of bytes, for any at most 4000 bytes. Conditions: none. -/
import Derived.Test.YtdnjbakhnnckbaaDoorC3x0
import Derived.Test.YtdnjbakhnnckbaaDoorPXx11
namespace Go.Proofs.YtdnjbakhnnckbaaDoor.Pure
open Go.RowKit Go.Proofs.YtdnjbakhnnckbaaDoor.PX Go.Proofs.YtdnjbakhnnckbaaDoor.Wire Go.Proofs.YtdnjbakhnnckbaaDoor.Crc Go.Proofs.YtdnjbakhnnckbaaDoorW.PrintWords Go.Proofs.YtdnjbakhnnckbaaDoorW.PrintLast
set_option linter.unusedVariables false
theorem alls_l (l : List (List Int)) (hn : l.length ≤ 4000) (hl : ∀ x ∈ l, x.length ≤ 4000) (d : Nat) : ∀ (i k : Nat), l.length - i = d → i ≤ l.length → d + 5000 ≤ k → papermilllaw09_CrcAlls.l0 k l l (i : Int) = some true := by
  induction d with
  | zero =>
    intro i k h h1 hk
    obtain ⟨k, rfl⟩ : ∃ m, k = m + 1 := ⟨k - 1, by omega⟩
    simp only [papermilllaw09_CrcAlls.l0]
    rw [if_neg (by omega), awake_true _ (by omega)]
    rfl
  | succ d ih =>
    intro i k h h1 hk
    obtain ⟨k, rfl⟩ : ∃ m, k = m + 1 := ⟨k - 1, by omega⟩
    have hlt : i < l.length := by omega
    have hx : (rd_L2 l (i : Int)).length ≤ 4000 := by
      have : rd_L2 l (i : Int) = l[i] := by simp [rd_L2, List.getElem?_eq_getElem hlt]
      rw [this]
      exact hl _ (List.getElem_mem hlt)
    simp only [papermilllaw09_CrcAlls.l0]
    rw [if_pos (by omega), if_pos (by omega), if_pos (by omega), same_eq _ _ (by omega) _ (by omega)]
    simp only [Option.bind_some, decide_true, if_true]
    rw [w1 i (by omega)]
    exact ih (i + 1) k (by omega) (by omega) (by omega)
theorem CrcAlls : papermilllaw09_CrcAlls.Pure := by
  intro l0 h0 h1 h2
  refine ⟨20000, ?_⟩
  have hb := bytes_of_wf l0 h2
  unfold papermilllaw09_CrcAlls.f
  split
  · rw [awake_true _ (by decide)]
    rfl
  · obtain ⟨r, r1, r2, r3, r4⟩ := alls l0 hb (by omega) 20000 20000 (by omega) (by omega)
    rw [r1, r2]
    simp only [Option.bind_some, if_true, bne_self_eq_false, papermilllaw09_CrcAlls.j0]
    rw [if_neg (by decide)]
    exact alls_l r.1 (by omega) (fun x hx => by have := r4 x hx; omega) _ 0 _ rfl (Nat.zero_le _) (by omega)
end Go.Proofs.YtdnjbakhnnckbaaDoor.Pure
