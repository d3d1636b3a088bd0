/- What a ledger holds. -/
import Derived.Test.YtmaginepopldnaaDoorWd
set_option maxRecDepth 100000
set_option maxHeartbeats 3200000
set_option linter.unusedSimpArgs false
set_option linter.unusedVariables false
namespace Go.Proofs.YtmaginepopldnaaDoor
open Go.Av
attribute [local irreducible] T thenQ blockQ againQ againS WX retV retR Gt Gts GtsP okCells CV CR Av.Pure

abbrev intRes (f n : Int) : AV := .agg [.int .i64 f, .int .i64 n]

def heldVal (l : Ldg) : Int := if ledgerFault l = 0 then heldBy l else 0

end Go.Proofs.YtmaginepopldnaaDoor
