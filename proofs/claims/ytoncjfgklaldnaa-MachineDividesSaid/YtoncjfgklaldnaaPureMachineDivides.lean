/- For all rules, acts and ends machine.Phases and machine.Sums return the phases, the sums and the errors of the reference; no condition. -/
import Derived.Test.YtoncjfgklaldnaaMDiv0
namespace Go.Proofs.Ytoncjfgklaldnaa.Pure
open Go.RowKit Go.Proofs.Ytoncjfgklaldnaa.PX Go.Proofs.Ytoncjfgklaldnaa.MSpec Go.Proofs.YtoncjfgklaldnaaW.PrintWords Go.Proofs.YtoncjfgklaldnaaW.PrintLast
theorem MachineDivides : papermilllaw30_MachineDivides.Pure := by
  intro th cl l e _ _ _ _
  refine Ev.rounds ?_
  unfold papermilllaw30_MachineDivides.f
  refine Ev.bind (phases_ev th cl l e) (Ev.bind (rphases_ev th cl l e) (Ev.bind (msums_ev th cl l e) (Ev.bind (rsums_ev th cl l e) (Ev.ite_pos rfl (Ev.bind (same_phases _ phs_len) (Ev.ite_pos rfl (Ev.ite_pos rfl (Ev.bind (same_ints _ ?_) (Ev.ite_pos rfl (Ev.bind awake_ev (Ev.now _)))))))))))
  unfold sms
  split
  · rw [sfold_len]; decide
  · simp
end Go.Proofs.Ytoncjfgklaldnaa.Pure
