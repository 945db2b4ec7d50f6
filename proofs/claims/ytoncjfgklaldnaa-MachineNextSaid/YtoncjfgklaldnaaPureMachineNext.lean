/- For all integers machine.Next returns the state and the error of the reference; no condition. -/
import Derived.Test.YtoncjfgklaldnaaMSpec0
import Derived.Test.YtoncjfgklaldnaaPXx8
namespace Go.Proofs.Ytoncjfgklaldnaa.Pure
open Go.RowKit Go.Proofs.Ytoncjfgklaldnaa.PX Go.Proofs.Ytoncjfgklaldnaa.MSpec Go.Proofs.YtoncjfgklaldnaaW.PrintWords Go.Proofs.YtoncjfgklaldnaaW.PrintLast
theorem MachineNext : papermilllaw30_MachineNext.Pure := by
  intro a0 a1 _ _
  refine Ev.rounds ?_
  unfold papermilllaw30_MachineNext.f
  exact Ev.bind (next_ev a0 a1) (Ev.bind (rnext_ev a0 a1) (Ev.ite_pos rfl (Ev.ite_pos rfl (Ev.bind awake_ev (Ev.now _)))))

end Go.Proofs.Ytoncjfgklaldnaa.Pure
