/- Whatever bytes follow a journal, its events are recovered first; alone it is recovered whole. Conditions: none. -/
import Derived.Test.YtpcicooogiialaaDoorJS4
import Derived.Test.YtpcicooogiialaaDoorPXx10
namespace Go.Proofs.YtpcicooogiialaaDoor.Pure
open Go.RowKit Go.Proofs.YtpcicooogiialaaDoor.PX Go.Proofs.YtpcicooogiialaaDoor.Wire Go.Proofs.YtpcicooogiialaaDoor.Crc Go.Proofs.YtpcicooogiialaaDoor.Jr Go.Proofs.YtpcicooogiialaaDoorW.PrintWords Go.Proofs.YtpcicooogiialaaDoorW.PrintLast
set_option linter.unusedVariables false
theorem JournalTail : papermilllaw61_JournalTail.Pure := by
  intro l0 l1 h0 h1
  have hb := bytes_of_wf l1 h1.2
  refine ⟨100000, ?_⟩
  have key : papermilllaw61_JournalTail.j0 100000 l0 l1 true = some true := by
    rw [papermilllaw61_JournalTail.j0, if_pos rfl, awake_true _ (by decide)]
    rfl
  unfold papermilllaw61_JournalTail.f
  obtain ⟨g, g1, g2⟩ := great_eq l0 100000 (by decide)
  rw [g1]
  simp only [Option.bind_some]
  cases g with
  | true => rw [if_pos rfl]; exact key
  | false =>
    obtain ⟨hl, hs⟩ := g2 rfl
    rw [if_neg (by decide)]
    by_cases hc : (l1.length : Int) > 600
    · rw [decide_eq_true hc]
      exact key
    · rw [decide_eq_false hc, papermilllaw61_JournalTail.j0, if_neg (by decide)]
      obtain ⟨es, e1, e2, e3, e4⟩ := appended_eq l0 hl hs 99999 (by decide)
      have hfl := framesE_len es e2
      have hbt : Bytes (framesE es ++ l1) := (framesE_bytes es e2).append hb
      have hlt : (framesE es ++ l1).length ≤ 100000 := by rw [List.length_append]; omega
      rw [e1]
      simp only [Option.bind_some, List.nil_append, List.length_nil, Nat.zero_add]
      rw [if_pos (by omega), if_pos (by omega)]
      obtain ⟨i1, i2, i3⟩ := rec_frames _ hbt hlt es 0 [] l1 (99999 - es.length) (by rw [List.drop_zero]) (Nat.zero_le _) (by simp; omega) e2 e3 (by rw [List.length_append]; omega)
      obtain ⟨es2, n, r1, r2, r3, r4, r5, r6⟩ := rec_spec _ hbt hlt ((framesE es ++ l1).length - (0 + (framesE es).length)) (0 + (framesE es).length) ([] ++ es) rfl i3 (by simp; omega)
      have hrec : journal_Recover.f 99999 (framesE es ++ l1) = some (es ++ es2, (n : Int)) := by
        unfold journal_Recover.f
        rw [show (99999 : Nat) = 99999 - es.length + es.length by omega, show (0 : Int) = ((0 : Nat) : Int) by rfl, i1, r1 (99999 - es.length) (by rw [List.length_append]; omega), List.nil_append]
      rw [hrec]
      simp only [Option.bind_some]
      rw [List.length_append] at r3
      rw [if_neg (by rw [List.length_append]; omega), if_neg (by omega), show wrap64 (((framesE es).length : Int) + (l1.length : Int)) = ((framesE es).length : Int) + (l1.length : Int) from wrap64_id (by omega) (by omega), if_neg (by omega), if_pos (by omega), if_pos (by rw [List.length_append]; omega), Int.toNat_natCast, List.take_left' rfl, evs_refl es (by omega) (fun e he => by have := (e2 e he).kl; omega) 99999]
      simp only [Option.bind_some]
      have hrec2 := recover_frames es [] e2 e3 (fun _ h => by simp at h) (by rw [List.append_nil]; omega) (by rw [open_nil]; decide) 99998 (by rw [List.append_nil]; omega)
      rw [List.append_nil] at hrec2
      rw [show (!true) = false by rfl, papermilllaw61_JournalTail.j1, if_neg (by decide), hrec2]
      simp only [Option.bind_some]
      rw [evs_refl es (by omega) (fun e he => by have := (e2 e he).kl; omega) 99998]
      simp only [Option.bind_some, if_true]
      rw [awake_true _ (by decide)]
      rfl
end Go.Proofs.YtpcicooogiialaaDoor.Pure
