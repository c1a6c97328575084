/- Every exported constant of the program is the document's: the law returns true. There are no conditions. -/
import Derived.Test.YtfeglenlpnhofaaPFnExactConstantsx1
namespace Go.Proofs.Ytfeglenlpnhofaa.Pure
open Go.RowKit Go.Proofs.Ytfeglenlpnhofaa.PFnExactConstants Go.Proofs.YtfeglenlpnhofaaW.PrintWords Go.Proofs.YtfeglenlpnhofaaW.PrintLast

theorem FnExactConstants : laws_FnExactConstants.Pure := by
  unfold laws_FnExactConstants.Pure laws_FnExactConstants.f
  rfl

end Go.Proofs.Ytfeglenlpnhofaa.Pure
