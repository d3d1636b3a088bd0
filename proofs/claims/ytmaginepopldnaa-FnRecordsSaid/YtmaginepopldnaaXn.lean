/- Numbers out of bytes. -/
import Derived.Test.YtmaginepopldnaaWc
set_option maxRecDepth 100000
set_option maxHeartbeats 3200000
set_option linter.unusedSimpArgs false
set_option linter.unusedVariables false
namespace Go.Proofs.Ytmaginepopldnaa
open Go.Av
attribute [local irreducible] T thenQ blockQ againQ againS WX retV retR Gt Gts GtsP okCells CV CR Av.Pure

def numN (bs : List UInt8) : Nat := bs.foldl (fun n b => n * 256 + b.toNat) 0
end Go.Proofs.Ytmaginepopldnaa
