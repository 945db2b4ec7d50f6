/- For all rules, acts and moments machine.Stops returns the acts or the error of the reference; no condition. -/
import Derived.Test.YtoncjfgklaldnaaMStp0
namespace Go.Proofs.Ytoncjfgklaldnaa.Pure
open Go.RowKit Go.Proofs.Ytoncjfgklaldnaa.PX Go.Proofs.Ytoncjfgklaldnaa.MSpec Go.Proofs.YtoncjfgklaldnaaW.PrintWords Go.Proofs.YtoncjfgklaldnaaW.PrintLast
theorem MachineStopped : papermilllaw30_MachineStopped.Pure := by
  intro th cl l at_ _ _ _ _
  refine Ev.rounds ?_
  unfold papermilllaw30_MachineStopped.f
  exact Ev.bind (stops_ev th cl l at_) (Ev.bind (rstops_ev th cl l at_) (Ev.ite_pos rfl (Ev.bind (same_acts _ (stp_len _ _ _ _ _)) (Ev.ite_pos rfl (Ev.bind awake_ev (Ev.now _))))))
end Go.Proofs.Ytoncjfgklaldnaa.Pure
