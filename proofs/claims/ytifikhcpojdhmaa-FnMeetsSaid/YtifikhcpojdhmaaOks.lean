/- Rows of pairs and of orders: whether they keep the rules, the program's answer and the reference's. No condition but bounds on lengths. -/
import Derived.Test.YtifikhcpojdhmaaLists
import Derived.Test.YtifikhcpojdhmaaKeys
namespace Go.Proofs.Ytifikhcpojdhmaa.P
open Go.RowKit Go.Proofs.YtifikhcpojdhmaaW.PrintWords Go.Proofs.YtifikhcpojdhmaaW.PrintLast Go.Proofs.YtifikhcpojdhmaaW.PrintMore
set_option linter.unusedVariables false
set_option linter.unusedSimpArgs false
end Go.Proofs.Ytifikhcpojdhmaa.P
