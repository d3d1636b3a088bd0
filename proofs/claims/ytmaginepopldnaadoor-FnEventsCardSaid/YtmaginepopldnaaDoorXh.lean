/- Records in their frames. -/
import Derived.Test.YtmaginepopldnaaDoorWc
import Derived.Test.YtmaginepopldnaaDoorXg
set_option maxRecDepth 100000
set_option maxHeartbeats 3200000
set_option linter.unusedSimpArgs false
set_option linter.unusedVariables false
namespace Go.Proofs.YtmaginepopldnaaDoor
open Go.Av
attribute [local irreducible] T thenQ blockQ againQ againS WX retV retR Gt Gts GtsP okCells CV CR Av.Pure

end Go.Proofs.YtmaginepopldnaaDoor

set_option maxRecDepth 100000
set_option maxHeartbeats 3200000
set_option linter.unusedSimpArgs false
set_option linter.unusedVariables false
namespace Go.Proofs.YtmaginepopldnaaDoor
open Go.Av
attribute [local irreducible] T thenQ blockQ againQ againS WX retV retR Gt Gts GtsP okCells CV CR Av.Pure
attribute [local irreducible] sha

def frCode (p : List UInt8) : Int := if 60 < p.length then 2 else if p.length = 0 then 1 else 0
def frOut (p : List UInt8) : List UInt8 := if frCode p = 0 then frameL p else []
end Go.Proofs.YtmaginepopldnaaDoor
