/- For any bytes and any bound what TakeInt, TakeText and TakeList return is put by PutInt, PutText and PutList as the very bytes that were taken. Conditions: none. -/
import Derived.Test.YtjbjmopagjjkaaaPXx10
import Derived.Test.YtjbjmopagjjkaaaWPut0
namespace Go.Proofs.Ytjbjmopagjjkaaa.Pure
open Go.RowKit Go.Proofs.Ytjbjmopagjjkaaa.PX Go.Proofs.YtjbjmopagjjkaaaW.PrintWords Go.Proofs.YtjbjmopagjjkaaaW.PrintLast Go.Proofs.Ytjbjmopagjjkaaa.Wire
set_option linter.unusedVariables false
theorem WireOnce : papermilllaw08_WireOnce.Pure := by
  intro l0 a1 hl1 hl2 hw hw1
  have hb := bytes_of_wf l0 hw
  refine ⟨10002, ?_⟩
  unfold papermilllaw08_WireOnce.f
  rw [awake_true _ (by decide)]
  split
  · rfl
  · rename_i h600
    have k1 : papermilllaw08_WireOnce.j1 10000 l0 a1 false = some true := by
      simp only [papermilllaw08_WireOnce.j1]
      rw [if_neg (by decide), awake_true _ (by decide)]
      obtain ⟨r, h1, _, h3⟩ := lists l0 hb (by omega) a1 9999 (by omega)
      rw [h1]
      simp only [Option.bind_some]
      rcases h3 with ⟨e, h0, rfl⟩ | ⟨ys, m, rfl, h4, h5, h6, h7, h8⟩
      · simp only
        rw [if_neg h0]
      · simp only [if_true]
        have h9 := congrArg List.length h7
        have h10 := encL_ge ys
        rw [List.length_take, List.length_append] at h9
        rw [if_pos (by omega), if_pos (by omega), if_pos h4, wire_list [] ys (by simp) (by omega) h8 _ (by omega)]
        simp only [Option.bind_some, List.nil_append]
        rw [if_pos (by omega), show (m : Int).toNat = m by omega, h7, same_refl]
        rfl
    have k0 : papermilllaw08_WireOnce.j0 10001 l0 a1 false = some true := by
      simp only [papermilllaw08_WireOnce.j0]
      rw [if_neg (by decide)]
      obtain ⟨r, h1, _, h3⟩ := texts l0 hb (by omega) a1 10000 (by decide)
      rw [h1]
      simp only [Option.bind_some]
      rcases h3 with ⟨e, h0, rfl⟩ | ⟨x, m, _, rfl, h5, h6, h7, h8⟩
      · simp only
        rw [if_neg h0]
        exact k1
      · simp only [if_true]
        have hB : Bytes ((l0.drop m).take x) := (hb.drop m).take x
        have hz : (strOfNums ((l0.drop m).take x)).size = x := by
          rw [strOfNums_size, List.length_take, List.length_drop]; omega
        rw [if_neg (by omega), if_neg (by omega), if_neg (by rw [hz]; omega), wire_text [] _ (by simp) (by rw [hz]; omega)]
        simp only [Option.bind_some, List.nil_append]
        rw [if_pos (by omega), if_pos (by omega), hz, bytesOf_strOfNums _ hB, show ((m + x : Nat) : Int).toNat = m + x by omega, List.take_add, h8, same_refl]
        simp only [Option.bind_some, Bool.not_true]
        exact k1
    rw [wire_tk l0 hb _ (by decide)]
    simp only [Option.bind_some]
    rcases tkI_cases l0 hb with ⟨e, h0, he⟩ | ⟨x, m, he, h1, h2, h3, h4⟩
    · rw [he]
      simp only
      rw [if_neg h0]
      exact at_rounds (fun k => (papermilllaw08_WireOnce.mono_l k).1 l0 a1 false) (by decide) k0
    · rw [he]
      simp only [if_true]
      rw [if_neg (by omega), if_neg (by omega), wire_put [] x (by simp) h1]
      simp only [Option.bind_some, List.nil_append]
      rw [if_pos (by omega), if_pos (by omega), show (m : Int).toNat = m by omega, h4, same_refl]
      simp only [Option.bind_some, Bool.not_true]
      exact at_rounds (fun k => (papermilllaw08_WireOnce.mono_l k).1 l0 a1 false) (by decide) k0
end Go.Proofs.Ytjbjmopagjjkaaa.Pure
