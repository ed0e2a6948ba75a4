/- The laws' helpers: copies, comparisons, marks and what is held, each by what it answers. No condition but bounds on lengths. -/
import Derived.Test.YtifikhcpojdhmaaPlain
namespace Go.Proofs.Ytifikhcpojdhmaa.P
open Go.RowKit Go.Proofs.YtifikhcpojdhmaaW.PrintWords Go.Proofs.YtifikhcpojdhmaaW.PrintLast Go.Proofs.YtifikhcpojdhmaaW.PrintMore
set_option linter.unusedVariables false
set_option linter.unusedSimpArgs false
end Go.Proofs.Ytifikhcpojdhmaa.P
