/- The laws' helpers: copies, comparisons, marks and what is held, each by what it answers. No condition but bounds on lengths. -/
import Derived.Test.YtnjifkljamdfdaaPlain
namespace Go.Proofs.Ytnjifkljamdfdaa.P
open Go.RowKit Go.Proofs.YtnjifkljamdfdaaW.PrintWords Go.Proofs.YtnjifkljamdfdaaW.PrintLast Go.Proofs.YtnjifkljamdfdaaW.PrintMore
set_option linter.unusedVariables false
set_option linter.unusedSimpArgs false
end Go.Proofs.Ytnjifkljamdfdaa.P
