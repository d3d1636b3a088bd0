/- The digest of the specification. -/
import Derived.Test.YtmaginepopldnaaDoorXc
import Derived.Test.YtmaginepopldnaaDoorXn
set_option maxRecDepth 100000
set_option maxHeartbeats 3200000
set_option linter.unusedSimpArgs false
set_option linter.unusedVariables false
namespace Go.Proofs.YtmaginepopldnaaDoor
open Go.Av
attribute [local irreducible] T thenQ blockQ againQ againS WX retV retR Gt Gts GtsP okCells CV CR Av.Pure

end Go.Proofs.YtmaginepopldnaaDoor

set_option maxRecDepth 100000
set_option maxHeartbeats 3200000
set_option linter.unusedSimpArgs false
set_option linter.unusedVariables false
namespace Go.Proofs.YtmaginepopldnaaDoor
open Go.Av
attribute [local irreducible] T thenQ blockQ againQ againS WX retV retR Gt Gts GtsP okCells CV CR Av.Pure
attribute [local irreducible] wGo rGo shaSt mixL blockL turnL addL keysL rotr padL sha

end Go.Proofs.YtmaginepopldnaaDoor
