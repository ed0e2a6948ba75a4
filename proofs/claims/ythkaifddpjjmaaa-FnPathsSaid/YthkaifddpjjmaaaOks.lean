/- Rows of pairs and of orders: whether they keep the rules, the program's answer and the reference's. No condition but bounds on lengths. -/
import Derived.Test.YthkaifddpjjmaaaLists
import Derived.Test.YthkaifddpjjmaaaKeys
import Derived.Test.YthkaifddpjjmaaaPx0
namespace Go.Proofs.Ythkaifddpjjmaaa.P
open Go.RowKit Go.Proofs.YthkaifddpjjmaaaW.PrintWords Go.Proofs.YthkaifddpjjmaaaW.PrintLast Go.Proofs.YthkaifddpjjmaaaW.PrintMore
set_option linter.unusedVariables false
set_option linter.unusedSimpArgs false
/-- Whether the pairs from a place on keep the rules: pairs left, place. -/
def pokM (l : List S26) : Nat → Nat → Bool
  | 0, _ => decide ((l.length : Int) ≤ 60)
  | d + 1, i =>
    if pairOkM (rd_T26 l i).f0 (rd_T26 l i).f1 = true then
      if (i : Int) > 0 then
        if Op.bytesLess (rd_T26 l ((i : Int) - 1)).f0.toList (rd_T26 l i).f0.toList = true then pokM l d (i + 1) else false
      else pokM l d (i + 1)
    else false
end Go.Proofs.Ythkaifddpjjmaaa.P
