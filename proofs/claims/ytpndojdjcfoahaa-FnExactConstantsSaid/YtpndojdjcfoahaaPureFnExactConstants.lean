/- For every input the law answers true. No condition. -/
import Derived.Test.YtpndojdjcfoahaaPFnExactConstantsx1
set_option linter.unusedVariables false
set_option linter.unusedSimpArgs false
namespace Go.Proofs.Ytpndojdjcfoahaa.Pure
open Go.RowKit Go.Proofs.Ytpndojdjcfoahaa.PFnExactConstants Go.Proofs.YtpndojdjcfoahaaW.PrintWords Go.Proofs.YtpndojdjcfoahaaW.PrintLast
theorem FnExactConstants : laws_FnExactConstants.Pure := by
  first | rfl | (unfold laws_FnExactConstants.Pure laws_FnExactConstants.f; rfl) | (unfold laws_FnExactConstants.Pure; decide)

end Go.Proofs.Ytpndojdjcfoahaa.Pure
