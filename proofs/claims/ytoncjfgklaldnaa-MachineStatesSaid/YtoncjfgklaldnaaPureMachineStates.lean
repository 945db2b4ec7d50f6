/- For all rules, acts and moments machine.State returns the state and the error of the reference; no condition. -/
import Derived.Test.YtoncjfgklaldnaaMSpec0
import Derived.Test.YtoncjfgklaldnaaPXx11
namespace Go.Proofs.Ytoncjfgklaldnaa.Pure
open Go.RowKit Go.Proofs.Ytoncjfgklaldnaa.PX Go.Proofs.Ytoncjfgklaldnaa.MSpec Go.Proofs.YtoncjfgklaldnaaW.PrintWords Go.Proofs.YtoncjfgklaldnaaW.PrintLast
theorem MachineStates : papermilllaw30_MachineStates.Pure := by
  intro th cl l t _ _ _ _
  refine Ev.rounds ?_
  unfold papermilllaw30_MachineStates.f
  exact Ev.bind (state_ev th cl l t) (Ev.bind (rstate_ev th cl l t) (Ev.ite_pos rfl (Ev.ite_pos rfl (Ev.bind awake_ev (Ev.now _)))))

end Go.Proofs.Ytoncjfgklaldnaa.Pure
