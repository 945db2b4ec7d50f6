/- For all rules and acts machine.Check returns the error of the reference; no condition. -/
import Derived.Test.YtoncjfgklaldnaaMSpec0
import Derived.Test.YtoncjfgklaldnaaPXx10
namespace Go.Proofs.Ytoncjfgklaldnaa.Pure
open Go.RowKit Go.Proofs.Ytoncjfgklaldnaa.PX Go.Proofs.Ytoncjfgklaldnaa.MSpec Go.Proofs.YtoncjfgklaldnaaW.PrintWords Go.Proofs.YtoncjfgklaldnaaW.PrintLast
theorem MachineChecks : papermilllaw30_MachineChecks.Pure := by
  intro th cl l _ _ _
  refine Ev.rounds ?_
  unfold papermilllaw30_MachineChecks.f
  exact Ev.bind (check_ev th cl l) (Ev.bind (rcheck_ev th cl l) (Ev.ite_pos rfl (Ev.bind awake_ev (Ev.now _))))

end Go.Proofs.Ytoncjfgklaldnaa.Pure
