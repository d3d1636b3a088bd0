/- Words that are mixed. -/
import Derived.Test.YtmaginepopldnaaDoorWc
set_option maxRecDepth 100000
set_option maxHeartbeats 3200000
set_option linter.unusedSimpArgs false
set_option linter.unusedVariables false
namespace Go.Proofs.YtmaginepopldnaaDoor
open Go.Av
attribute [local irreducible] T thenQ blockQ againQ againS WX retV retR Gt Gts GtsP okCells CV CR Av.Pure

abbrev arU (l : List UInt32) : AV := .agg (l.map u32A)
abbrev arW (l : List UInt32) : AV := .agg (l.map w64A)

end Go.Proofs.YtmaginepopldnaaDoor
