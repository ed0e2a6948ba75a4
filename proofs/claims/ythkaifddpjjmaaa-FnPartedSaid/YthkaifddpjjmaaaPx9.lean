-- Written by wip/xp/xp.py over the kit's print; Lean checks it.
import Derived.Test.YthkaifddpjjmaaaDg5
import Derived.Test.YthkaifddpjjmaaaPx0
namespace Go.Proofs.Ythkaifddpjjmaaa.P
open Go.RowKit Go.Proofs.YthkaifddpjjmaaaW.PrintWords Go.Proofs.YthkaifddpjjmaaaW.PrintLast Go.Proofs.YthkaifddpjjmaaaW.PrintMore
attribute [local go_sem] max2_int min2_int max_two min_two max_three min_three max_four min_four   -- for this text's walks alone
set_option linter.unusedVariables false
set_option linter.unusedSimpArgs false

/-! ###  impl_Digest: function 53 -/
-- by hand
/-- (Proved in the texts YthkaifddpjjmaaaDg0 to YthkaifddpjjmaaaDg5.) -/
def impl_Digest.f (k : Nat) (l0 : List Int) : Option (ByteArray) := dg_Digest.f k l0
theorem impl_Digest.calls (k : Nat) (A0 : Option Addr) (c0 : Nat) (l0 : List Int) (r : ByteArray) (w : World) (hr0 : Kd.C (Kd.int .u8) w A0 l0.length l0) (hc0 : l0.length ≤ c0) (h : impl_Digest.f k l0 = some r) :
  Calls Try.prog 53 #[.slice A0 l0.length c0] w fun e w' => e = .returned (.string r) ∧ Below w.heap.size w w' := dg_Digest.calls k A0 c0 l0 r w hr0 hc0 h


end Go.Proofs.Ythkaifddpjjmaaa.P
