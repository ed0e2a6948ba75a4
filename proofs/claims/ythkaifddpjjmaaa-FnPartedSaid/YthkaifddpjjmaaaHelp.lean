/- The laws' helpers: copies, comparisons, marks and what is held, each by what it answers. No condition but bounds on lengths. -/
import Derived.Test.YthkaifddpjjmaaaPlain
namespace Go.Proofs.Ythkaifddpjjmaaa.P
open Go.RowKit Go.Proofs.YthkaifddpjjmaaaW.PrintWords Go.Proofs.YthkaifddpjjmaaaW.PrintLast Go.Proofs.YthkaifddpjjmaaaW.PrintMore
set_option linter.unusedVariables false
set_option linter.unusedSimpArgs false
end Go.Proofs.Ythkaifddpjjmaaa.P
