/- The digest of pieces. -/
import Derived.Test.YtmaginepopldnaaDoorWc
import Derived.Test.YtmaginepopldnaaDoorWj
set_option maxRecDepth 100000
set_option maxHeartbeats 3200000
set_option linter.unusedSimpArgs false
set_option linter.unusedVariables false
namespace Go.Proofs.YtmaginepopldnaaDoor
open Go.Av
attribute [local irreducible] T thenQ blockQ againQ againS WX retV retR Gt Gts GtsP okCells CV CR Av.Pure

abbrev arU (l : List UInt32) : AV := .agg (l.map u32A)
abbrev arW (l : List UInt32) : AV := .agg (l.map w64A)

end Go.Proofs.YtmaginepopldnaaDoor

set_option maxRecDepth 100000
set_option maxHeartbeats 3200000
set_option linter.unusedSimpArgs false
set_option linter.unusedVariables false
namespace Go.Proofs.YtmaginepopldnaaDoor
open Go.Av
attribute [local irreducible] T thenQ blockQ againQ againS WX retV retR Gt Gts GtsP okCells CV CR Av.Pure
attribute [local irreducible] wGo rGo shaSt mixL blockL turnL addL keysL rotr sig0 sig1 padL sha

end Go.Proofs.YtmaginepopldnaaDoor

set_option maxRecDepth 100000
set_option maxHeartbeats 3200000
set_option linter.unusedSimpArgs false
set_option linter.unusedVariables false
namespace Go.Proofs.YtmaginepopldnaaDoor
open Go.Av
attribute [local irreducible] T thenQ blockQ againQ againS WX retV retR Gt Gts GtsP okCells CV CR Av.Pure
attribute [local irreducible] wGo rGo shaSt mixL blockL turnL addL keysL rotr padL sha

end Go.Proofs.YtmaginepopldnaaDoor
