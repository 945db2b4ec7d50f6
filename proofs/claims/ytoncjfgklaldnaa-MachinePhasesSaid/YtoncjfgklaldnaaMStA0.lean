import Derived.Test.YtoncjfgklaldnaaMA0
import Derived.Test.YtoncjfgklaldnaaPXx17
namespace Go.Proofs.Ytoncjfgklaldnaa.MSpec
set_option linter.unusedVariables false
set_option linter.unusedSimpArgs false
open Go.RowKit Go.Proofs.Ytoncjfgklaldnaa.PX Go.Proofs.YtoncjfgklaldnaaW.PrintWords Go.Proofs.YtoncjfgklaldnaaW.PrintLast
theorem stops_ev (th cl : Int) (l : List S35) (l2 : List Int) : Ev (fun k => machine_Stops.f k th cl l l2) (stp th cl (chk th cl l) l l2) := by
  unfold machine_Stops.f
  exact Ev.bind (check_ev th cl l) (Ev.now _)
theorem w1025 {i : Int} (h0 : 0 ≤ i) (h : i ≤ 1025) : wrap64 (i + 1) = i + 1 := by unfold wrap64; omega
theorem stp_len (th cl e : Int) (l1 : List S35) (l2 : List Int) : (stp th cl e l1 l2).1.length ≤ 512 := by
  unfold stp
  repeat' split
  all_goals first | (simp; done) | (simp only; omega)
end Go.Proofs.Ytoncjfgklaldnaa.MSpec
