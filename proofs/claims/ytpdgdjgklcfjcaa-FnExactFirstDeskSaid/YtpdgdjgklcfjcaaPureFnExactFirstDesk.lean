/- FirstDesk: the program's first desk is the reference's; no condition. -/
import Derived.Test.YtpdgdjgklcfjcaaPFnExactFirstDeskx1
namespace Go.Proofs.Ytpdgdjgklcfjcaa.Pure
open Go.RowKit Go.Proofs.Ytpdgdjgklcfjcaa.PFnExactFirstDesk Go.Proofs.YtpdgdjgklcfjcaaW.PrintWords Go.Proofs.YtpdgdjgklcfjcaaW.PrintLast

theorem FnExactFirstDesk : laws_FnExactFirstDesk.Pure := by
  exact ⟨20, by decide +kernel⟩

end Go.Proofs.Ytpdgdjgklcfjcaa.Pure
