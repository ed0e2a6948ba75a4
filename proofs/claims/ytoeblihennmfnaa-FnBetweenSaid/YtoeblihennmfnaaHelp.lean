/- The laws' helpers: copies, comparisons, marks and what is held, each by what it answers. No condition but bounds on lengths. -/
import Derived.Test.YtoeblihennmfnaaPlain
namespace Go.Proofs.Ytoeblihennmfnaa.P
open Go.RowKit Go.Proofs.YtoeblihennmfnaaW.PrintWords Go.Proofs.YtoeblihennmfnaaW.PrintLast Go.Proofs.YtoeblihennmfnaaW.PrintMore
set_option linter.unusedVariables false
set_option linter.unusedSimpArgs false
end Go.Proofs.Ytoeblihennmfnaa.P
