/- SameOne and Same of the reference say that what is equal is equal. Conditions: lists of at most 1000000 numbers. -/
import Derived.Test.YtpcicooogiialaaDoorJS1G
namespace Go.Proofs.YtpcicooogiialaaDoor.Jr
open Go.RowKit Go.Proofs.YtpcicooogiialaaDoor.PG Go.Proofs.YtpcicooogiialaaDoor.Wire Go.Proofs.YtpcicooogiialaaDoorW.PrintWords Go.Proofs.YtpcicooogiialaaDoorW.PrintLast Go.Proofs.YtpcicooogiialaaDoorW.PrintMore
set_option linter.unusedVariables false

theorem one_refl (a0 a1 a2 a3 a4 a5 : Int) (l : List Int) (hl : l.length ≤ 1000000) (k : Nat) : papermillref61_SameOne.f k a0 a1 a2 a3 a4 a5 l a0 a1 a2 a3 a4 a5 l = some true := by
  unfold papermillref61_SameOne.f
  exact if_pos ⟨rfl, rfl, rfl, rfl, rfl, rfl, rfl, hl⟩
theorem evs_refl (es : List S24) (hn : es.length ≤ 1000000) (he : ∀ e ∈ es, e.f6.length ≤ 1000000) (k : Nat) : papermillref61_Same.f k es es = some true := by
  unfold papermillref61_Same.f
  exact if_pos ⟨evsEq_refl es he, hn⟩
theorem getS_len (b : List Int) (hb : Bytes b) (hl : b.length ≤ 1000000) : (getS b).2.2.2.2.2.2.1.length ≤ 32 := by
  by_cases h : (getS b).2.2.2.2.2.2.2 = 0
  · obtain ⟨a0, a1, a2, a3, a4, a5, l, e, ok, _⟩ := getS_once b hb hl h
    rw [e]
    exact ok.kl
  · rw [getS_err b h]
    simp
theorem bytesSame (l : List Int) : papermillref61_SameBytes.f l l = some true := by
  unfold papermillref61_SameBytes.f
  simp
end Go.Proofs.YtpcicooogiialaaDoor.Jr
