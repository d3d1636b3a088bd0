/- Turns of a relayer. -/
import Derived.Test.YtmaginepopldnaaDoorWn
set_option maxRecDepth 100000
set_option maxHeartbeats 3200000
set_option linter.unusedSimpArgs false
set_option linter.unusedVariables false
namespace Go.Proofs.YtmaginepopldnaaDoor
open Go.Av
attribute [local irreducible] T thenQ blockQ againQ againS WX retV retR Gt Gts GtsP okCells CV CR Av.Pure

def scanCode (c : Int) (q : List Itm) (n : Int) : Int := if n ≠ c + 1 then 1 else if 1000000 < n then 3 else if 12 ≤ q.length then 8 else 0
end Go.Proofs.YtmaginepopldnaaDoor

set_option maxRecDepth 100000
set_option maxHeartbeats 3200000
set_option linter.unusedSimpArgs false
set_option linter.unusedVariables false
namespace Go.Proofs.YtmaginepopldnaaDoor
open Go.Av
attribute [local irreducible] T thenQ blockQ againQ againS WX retV retR Gt Gts GtsP okCells CV CR Av.Pure

end Go.Proofs.YtmaginepopldnaaDoor
