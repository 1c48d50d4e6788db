/- The pure side of the law FnExactConstants: what the printed functions compute answers true. Conditions: none beyond the statement given. -/
import Derived.Test.YtgkhplaceedmaaaPFnExactConstantsx0
import Derived.Test.YtgkhplaceedmaaaPFnExactConstantsx1
import Derived.Laws.BitsLemmas
namespace Go.Proofs.Ytgkhplaceedmaaa.Pure
open Go Go.RowKit Go.Proofs.Ytgkhplaceedmaaa.PFnExactConstants Go.Proofs.YtgkhplaceedmaaaW.PrintWords Go.Proofs.YtgkhplaceedmaaaW.PrintLast
set_option linter.unusedVariables false
set_option linter.unusedSimpArgs false


-- the law
theorem FnExactConstants : laws_FnExactConstants.Pure := by
  unfold laws_FnExactConstants.Pure
  rfl

end Go.Proofs.Ytgkhplaceedmaaa.Pure
